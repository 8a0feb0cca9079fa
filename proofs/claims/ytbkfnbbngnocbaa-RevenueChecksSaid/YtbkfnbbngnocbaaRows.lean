/-
  No cell of these rows narrows 'for every input' (looked for: loops, veiled, ifaces, maps, wideKeys, modest, calm, conditions, laid).
  DERIVED. THE GIVEN ROWS OF THIS SEAT. 5 by the template 'for every input the law returns true; each argument reads behind the call as it read before'; 0 by the template 'total and deterministic' (their statements: YtbkfnbbngnocbaaTotals.lean).
  GIVEN WITH THE SEED: the statements are not yours to turn. If you find one false, say at which input.
  Laid BY PROGRAM, IN A SANDBOX (cutbox-rows.mjs): the forced cells as the released guide's own fill.sh prints them over the translation d2c778c365c1e06d… (all of the seat's roots in one cut). By AI agents, Wed Nov 11 2026. No macro, syntax, notation, axiom, sorry.
-/
import Derived.Test.YtbkfnbbngnocbaaChecked
import GoSem.Claim
import GoSem.ClaimJoined
import GoSem.ClaimMapViews
import Derived.JoinedTies
import Derived.KernelRfl
namespace Go.Proofs.Ytbkfnbbngnocbaa
/- THE CELL 'sum', in the pinned program and in every row, IS THE sha256 OF THE DUMP (.gsa) THAT YtbkfnbbngnocbaaProg.lean LOADS. Nothing in Lean hashes anything: it is a label: what it is worth is what the hold of that sum in a sandbox is worth. -/
noncomputable def Try.pinned : Pinned := { name := "ytbkfnbbngnocbaa", sum := "d2c778c365c1e06d5d7e01c722a9ca71091b77a935888ff9beb4bf214393a733", checked := Try.checked }
namespace Rows
def none {H : Type} : Left H := { results := [], args := [] }

/-- 'skiarealaw35.RevenueChecks': WHATEVER THE INPUT: true; the input reads as it did. -/
def revenueChecksSpec : ChangeSpec := { name := "revenueChecks", fn := fun _ => fun
  | [d] => { results := [.lit (.bool true)], args := [d] }
  | _ => none }
def revenueChecksRow : OpenClaim := { program := "ytbkfnbbngnocbaa", sum := "d2c778c365c1e06d5d7e01c722a9ca71091b77a935888ff9beb4bf214393a733", func := "skiarea/skiarealaw35.RevenueChecks", spec := "revenueChecks", unfollowed := true, recurses := true, named := ["math/bits.divideError", "math/bits.overflowError"], apart := false }
def RevenueChecksSaid : Prop := revenueChecksRow.holds Try.pinned (OpenSpec.ofChange revenueChecksSpec)

/-- ITS FALSE NEIGHBOUR: 'it returns false'. Refute it at one input. -/
def revenueChecksWrong : ChangeSpec := { name := "revenueChecks", fn := fun _ => fun
  | [d] => { results := [.lit (.bool false)], args := [d] }
  | _ => none }
def RevenueChecksWrongFalsely : Prop := revenueChecksRow.holds Try.pinned (OpenSpec.ofChange revenueChecksWrong)

/-- 'skiarealaw35.RevenuePoints': WHATEVER THE INPUT: true; the input reads as it did. -/
def revenuePointsSpec : ChangeSpec := { name := "revenuePoints", fn := fun _ => fun
  | [d1, d2] => { results := [.lit (.bool true)], args := [d1, d2] }
  | _ => none }
def revenuePointsRow : OpenClaim := { program := "ytbkfnbbngnocbaa", sum := "d2c778c365c1e06d5d7e01c722a9ca71091b77a935888ff9beb4bf214393a733", func := "skiarea/skiarealaw35.RevenuePoints", spec := "revenuePoints", unfollowed := true, recurses := true, named := ["math/bits.divideError", "math/bits.overflowError"], apart := false }
def RevenuePointsSaid : Prop := revenuePointsRow.holds Try.pinned (OpenSpec.ofChange revenuePointsSpec)

/-- ITS FALSE NEIGHBOUR: 'it returns false'. Refute it at one input. -/
def revenuePointsWrong : ChangeSpec := { name := "revenuePoints", fn := fun _ => fun
  | [d1, d2] => { results := [.lit (.bool false)], args := [d1, d2] }
  | _ => none }
def RevenuePointsWrongFalsely : Prop := revenuePointsRow.holds Try.pinned (OpenSpec.ofChange revenuePointsWrong)

/-- 'skiarealaw35.RevenueOthers': WHATEVER THE INPUT: true; the input reads as it did. -/
def revenueOthersSpec : ChangeSpec := { name := "revenueOthers", fn := fun _ => fun
  | [d1, d2] => { results := [.lit (.bool true)], args := [d1, d2] }
  | _ => none }
def revenueOthersRow : OpenClaim := { program := "ytbkfnbbngnocbaa", sum := "d2c778c365c1e06d5d7e01c722a9ca71091b77a935888ff9beb4bf214393a733", func := "skiarea/skiarealaw35.RevenueOthers", spec := "revenueOthers", unfollowed := true, recurses := true, named := ["math/bits.divideError", "math/bits.overflowError"], apart := false }
def RevenueOthersSaid : Prop := revenueOthersRow.holds Try.pinned (OpenSpec.ofChange revenueOthersSpec)

/-- ITS FALSE NEIGHBOUR: 'it returns false'. Refute it at one input. -/
def revenueOthersWrong : ChangeSpec := { name := "revenueOthers", fn := fun _ => fun
  | [d1, d2] => { results := [.lit (.bool false)], args := [d1, d2] }
  | _ => none }
def RevenueOthersWrongFalsely : Prop := revenueOthersRow.holds Try.pinned (OpenSpec.ofChange revenueOthersWrong)

/-- 'skiarealaw35.RevenueSum': WHATEVER THE INPUT: true; the input reads as it did. -/
def revenueSumSpec : ChangeSpec := { name := "revenueSum", fn := fun _ => fun
  | [d1, d2, d3] => { results := [.lit (.bool true)], args := [d1, d2, d3] }
  | _ => none }
def revenueSumRow : OpenClaim := { program := "ytbkfnbbngnocbaa", sum := "d2c778c365c1e06d5d7e01c722a9ca71091b77a935888ff9beb4bf214393a733", func := "skiarea/skiarealaw35.RevenueSum", spec := "revenueSum", unfollowed := true, recurses := true, named := ["math/bits.divideError", "math/bits.overflowError"], apart := false }
def RevenueSumSaid : Prop := revenueSumRow.holds Try.pinned (OpenSpec.ofChange revenueSumSpec)

/-- ITS FALSE NEIGHBOUR: 'it returns false'. Refute it at one input. -/
def revenueSumWrong : ChangeSpec := { name := "revenueSum", fn := fun _ => fun
  | [d1, d2, d3] => { results := [.lit (.bool false)], args := [d1, d2, d3] }
  | _ => none }
def RevenueSumWrongFalsely : Prop := revenueSumRow.holds Try.pinned (OpenSpec.ofChange revenueSumWrong)

/-- 'skiarealaw35.RevenueWhole': WHATEVER THE INPUT: true; the input reads as it did. -/
def revenueWholeSpec : ChangeSpec := { name := "revenueWhole", fn := fun _ => fun
  | [d1, d2] => { results := [.lit (.bool true)], args := [d1, d2] }
  | _ => none }
def revenueWholeRow : OpenClaim := { program := "ytbkfnbbngnocbaa", sum := "d2c778c365c1e06d5d7e01c722a9ca71091b77a935888ff9beb4bf214393a733", func := "skiarea/skiarealaw35.RevenueWhole", spec := "revenueWhole", unfollowed := true, recurses := true, named := ["math/bits.divideError", "math/bits.overflowError"], apart := false }
def RevenueWholeSaid : Prop := revenueWholeRow.holds Try.pinned (OpenSpec.ofChange revenueWholeSpec)

/-- ITS FALSE NEIGHBOUR: 'it returns false'. Refute it at one input. -/
def revenueWholeWrong : ChangeSpec := { name := "revenueWhole", fn := fun _ => fun
  | [d1, d2] => { results := [.lit (.bool false)], args := [d1, d2] }
  | _ => none }
def RevenueWholeWrongFalsely : Prop := revenueWholeRow.holds Try.pinned (OpenSpec.ofChange revenueWholeWrong)

/- THE SECOND FORM. 'bulk': how many values and letters a reading holds, each counted each time it is reached (what is shared counts as often as it is met; a slice's spare places count too). A statement '..UptoSaid' is the law's where the arguments, and the package variables that the reading takes, are together of bulk at most 1048576: NARROWER than '..Said'. Prove '..Said' where nothing that the law and all that it calls make is longer than what came in: it says more and counts as full. Else prove '..UptoSaid'. A law counts once. -/
mutual
def uptoBulk {H : Type} : DataW H → Nat
  | .lit (.string bytes) => bytes.length + 1
  | .lit _ => 1
  | .nil => 1
  | .ptr d => uptoBulk d + 1
  | .slice elems spare => uptoBulkAll elems + uptoBulkAll spare + 1
  | .agg parts => uptoBulkAll parts + 1
  | .iface _ d => uptoBulk d + 1
  | .map entries => uptoBulkEntries entries + 1
  | .held _ => 1
def uptoBulkAll {H : Type} : List (DataW H) → Nat
  | [] => 0
  | d :: r => uptoBulk d + uptoBulkAll r
def uptoBulkEntries {H : Type} : List (Lit × DataW H) → Nat
  | [] => 0
  | x :: r => uptoBulkEntry x + uptoBulkEntries r
def uptoBulkEntry {H : Type} : Lit × DataW H → Nat
  | (.string bytes, d) => bytes.length + uptoBulk d + 1
  | (_, d) => uptoBulk d + 1
 end
def uptoSmall : (H : Type) → List (DataW H) → Bool := fun _ ds => decide (uptoBulkAll ds ≤ 1048576)
def OpenSpec.upto (s : _root_.Go.ChangeSpec) : _root_.Go.OpenSpec := { _root_.Go.OpenSpec.ofChange s with cond := some uptoSmall }

/-- 'skiarealaw35.RevenueChecks', WHERE WHAT IT READS IS OF BULK AT MOST 1048576: true; the input reads as it did. -/
def revenueChecksUptoRow : OpenClaim := { program := "ytbkfnbbngnocbaa", sum := "d2c778c365c1e06d5d7e01c722a9ca71091b77a935888ff9beb4bf214393a733", func := "skiarea/skiarealaw35.RevenueChecks", spec := "revenueChecks", unfollowed := true, recurses := true, named := ["math/bits.divideError", "math/bits.overflowError"], apart := false, narrowed := true }
def RevenueChecksUptoSaid : Prop := revenueChecksUptoRow.holds Try.pinned (OpenSpec.upto revenueChecksSpec)

/-- 'skiarealaw35.RevenuePoints', WHERE WHAT IT READS IS OF BULK AT MOST 1048576: true; the input reads as it did. -/
def revenuePointsUptoRow : OpenClaim := { program := "ytbkfnbbngnocbaa", sum := "d2c778c365c1e06d5d7e01c722a9ca71091b77a935888ff9beb4bf214393a733", func := "skiarea/skiarealaw35.RevenuePoints", spec := "revenuePoints", unfollowed := true, recurses := true, named := ["math/bits.divideError", "math/bits.overflowError"], apart := false, narrowed := true }
def RevenuePointsUptoSaid : Prop := revenuePointsUptoRow.holds Try.pinned (OpenSpec.upto revenuePointsSpec)

/-- 'skiarealaw35.RevenueOthers', WHERE WHAT IT READS IS OF BULK AT MOST 1048576: true; the input reads as it did. -/
def revenueOthersUptoRow : OpenClaim := { program := "ytbkfnbbngnocbaa", sum := "d2c778c365c1e06d5d7e01c722a9ca71091b77a935888ff9beb4bf214393a733", func := "skiarea/skiarealaw35.RevenueOthers", spec := "revenueOthers", unfollowed := true, recurses := true, named := ["math/bits.divideError", "math/bits.overflowError"], apart := false, narrowed := true }
def RevenueOthersUptoSaid : Prop := revenueOthersUptoRow.holds Try.pinned (OpenSpec.upto revenueOthersSpec)

/-- 'skiarealaw35.RevenueSum', WHERE WHAT IT READS IS OF BULK AT MOST 1048576: true; the input reads as it did. -/
def revenueSumUptoRow : OpenClaim := { program := "ytbkfnbbngnocbaa", sum := "d2c778c365c1e06d5d7e01c722a9ca71091b77a935888ff9beb4bf214393a733", func := "skiarea/skiarealaw35.RevenueSum", spec := "revenueSum", unfollowed := true, recurses := true, named := ["math/bits.divideError", "math/bits.overflowError"], apart := false, narrowed := true }
def RevenueSumUptoSaid : Prop := revenueSumUptoRow.holds Try.pinned (OpenSpec.upto revenueSumSpec)

/-- 'skiarealaw35.RevenueWhole', WHERE WHAT IT READS IS OF BULK AT MOST 1048576: true; the input reads as it did. -/
def revenueWholeUptoRow : OpenClaim := { program := "ytbkfnbbngnocbaa", sum := "d2c778c365c1e06d5d7e01c722a9ca71091b77a935888ff9beb4bf214393a733", func := "skiarea/skiarealaw35.RevenueWhole", spec := "revenueWhole", unfollowed := true, recurses := true, named := ["math/bits.divideError", "math/bits.overflowError"], apart := false, narrowed := true }
def RevenueWholeUptoSaid : Prop := revenueWholeUptoRow.holds Try.pinned (OpenSpec.upto revenueWholeSpec)

end Rows
end Go.Proofs.Ytbkfnbbngnocbaa
