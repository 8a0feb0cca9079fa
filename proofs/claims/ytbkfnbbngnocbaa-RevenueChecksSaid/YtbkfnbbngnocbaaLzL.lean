/- The laying of a contract of the library's shelf at this seat's translation, as plain text: what the translation's own functions are called there. -/
import Derived.Shelf.Small.Bits
import Derived.Test.YtbkfnbbngnocbaaProg
namespace Go.Proofs
open Go.Shelf
def Try.lz64_ren : Go.Shelf.Ren := ⟨fun | 134 => 83 | 129 => 96 | n => n, fun | 53 => 102 | 3 => 3 | 4 => 4 | 46 => 126 | 5 => 5 | 9 => 9 | n => n, fun | n => n⟩
theorem Try.lz64 : Go.Proofs.Lays.n134 Try.prog Try.lz64_ren := {
  mixed := by kernel_rfl,
  f129 := Try.func96.trans (congrArg some (by kernel_rfl)),
  f134 := Try.func83.trans (congrArg some (by kernel_rfl)),
  t3 := Try.underlying3,
  a3 := Try.isAgg3,
  z3 := Try.sizeOf3,
  v3 := Try.zeroValue3,
  t4 := Try.underlying4,
  a4 := Try.isAgg4,
  z4 := Try.sizeOf4,
  v4 := Try.zeroValue4,
  t5 := Try.underlying5,
  a5 := Try.isAgg5,
  z5 := Try.sizeOf5,
  v5 := Try.zeroValue5,
  t9 := Try.underlying9,
  a9 := Try.isAgg9,
  z9 := Try.sizeOf9,
  v9 := Try.zeroValue9,
  t46 := Try.underlying126,
  a46 := Try.isAgg126,
  z46 := Try.sizeOf126,
  v46 := Try.zeroValue126,
  t53 := Try.underlying102,
  a53 := Try.isAgg102,
  z53 := Try.sizeOf102,
  v53 := Try.zeroValue102 }

end Go.Proofs
