/- What comes in, opened: the structs of this seat. -/
import Derived.Test.YtmijeihhioiliaaPx0
import Derived.Test.YtmijeihhioiliaaOpen
namespace Go.Proofs.Ytmijeihhioiliaa.Px
open Go.RowKit Go.Proofs.YtmijeihhioiliaaW.PrintWords Go.Proofs.YtmijeihhioiliaaW.PrintLast
set_option linter.unusedVariables false
def wf42 (x : S42) : Prop := I64 x.f0 ∧ I64 x.f1 ∧ I64 x.f2
theorem opens42 : Opens Try.prog 42 k42 wf42 := opens_iso (fun p => (⟨p.1, p.2.1, p.2.2⟩ : S42)) (fun _ => rfl) (opens_struct [3, 3, 3] Try.underlying42 (by kernel_rfl) (by kernel_rfl) (opensF_cons (opens_i64 Try.underlying3) (opensF_cons (opens_i64 Try.underlying3) (opensF_one (opens_i64 Try.underlying3)))))
def wf39 (x : S39) : Prop := I64 x.f0 ∧ I64 x.f1
theorem opens39 : Opens Try.prog 39 k39 wf39 := opens_iso (fun p => (⟨p.1, p.2⟩ : S39)) (fun _ => rfl) (opens_struct [3, 3] Try.underlying39 (by kernel_rfl) (by kernel_rfl) (opensF_cons (opens_i64 Try.underlying3) (opensF_one (opens_i64 Try.underlying3))))
end Go.Proofs.Ytmijeihhioiliaa.Px
