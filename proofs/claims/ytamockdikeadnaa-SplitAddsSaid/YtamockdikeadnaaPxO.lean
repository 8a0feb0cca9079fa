/- What comes in, opened: the structs of this seat. -/
import Derived.Test.YtamockdikeadnaaPx0
import Derived.Test.YtamockdikeadnaaOpen
namespace Go.Proofs.Ytamockdikeadnaa.Px
open Go.RowKit Go.Proofs.YtamockdikeadnaaW.PrintWords Go.Proofs.YtamockdikeadnaaW.PrintLast
set_option linter.unusedVariables false
def wf41 (x : S41) : Prop := I64 x.f0 ∧ I64 x.f1
theorem opens41 : Opens Try.prog 41 k41 wf41 := opens_iso (fun p => (⟨p.1, p.2⟩ : S41)) (fun _ => rfl) (opens_struct [3, 3] Try.underlying41 (by kernel_rfl) (by kernel_rfl) (opensF_cons (opens_i64 Try.underlying3) (opensF_one (opens_i64 Try.underlying3))))
end Go.Proofs.Ytamockdikeadnaa.Px
