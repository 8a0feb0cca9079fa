/- The laying of a contract of the library's shelf at this seat's translation, as plain text: what the translation's own functions are called there. -/
import Derived.Shelf.SlSortCmp.Insertion1
import Derived.Test.YtbkfnbbngnocbaaProg
namespace Go.Proofs
open Go.Shelf
def Try.insI_ren : Go.Shelf.Ren := ⟨fun | 20 => 85 | n => n, fun | 24 => 3 | 22 => 30 | 3 => 3 | 25 => 96 | 4 => 4 | 0 => 0 | n => n, fun | n => n⟩
theorem Try.insI : Go.Proofs.SlLaysF.n20 Try.prog Try.insI_ren := {
  mixed := by kernel_rfl,
  f20 := ⟨Try.f85.name, by decide, Try.func85.trans (congrArg some (by kernel_rfl))⟩,
  t0 := Try.underlying0,
  a0 := Try.isAgg0,
  z0 := Try.sizeOf0,
  v0 := Try.zeroValue0,
  t3 := Try.underlying3,
  a3 := Try.isAgg3,
  z3 := Try.sizeOf3,
  v3 := Try.zeroValue3,
  t4 := Try.underlying4,
  a4 := Try.isAgg4,
  z4 := Try.sizeOf4,
  v4 := Try.zeroValue4,
  t22 := Try.underlying30,
  a22 := Try.isAgg30,
  z22 := Try.sizeOf30,
  v22 := Try.zeroValue30,
  a24 := Try.isAgg3,
  z24 := Try.sizeOf3,
  t25 := Try.underlying96,
  a25 := Try.isAgg96,
  z25 := Try.sizeOf96,
  v25 := Try.zeroValue96 }

end Go.Proofs
