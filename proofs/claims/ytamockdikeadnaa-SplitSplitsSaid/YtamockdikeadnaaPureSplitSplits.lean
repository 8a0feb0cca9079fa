/- SplitSplits: Split of the program returns what the reference returns, parts and error, for any amount and any weights, at most 100. -/
import Derived.Test.YtamockdikeadnaaPxO
import Derived.Test.YtamockdikeadnaaPFair
import Derived.Test.YtamockdikeadnaaPAlive
import Derived.Test.YtamockdikeadnaaPx12
namespace Go.Proofs.Ytamockdikeadnaa.Pure
open Go.RowKit Go.Proofs.Ytamockdikeadnaa.Px Go.Proofs.YtamockdikeadnaaW.PrintWords

theorem SplitSplits : ∀ (a0 : Int) (l1 : List Int), I64 a0 → (fun xs : List Int => xs.length ≤ maxLen ∧ ∀ x ∈ xs, I64 x) l1 → ∃ k, skiarealaw34_SplitSplits.f k a0 l1 = some true := by
  intro a l _ _
  refine Ev.rounds (g := fun k => skiarealaw34_SplitSplits.f k a l) ?_
  unfold skiarealaw34_SplitSplits.f
  refine Ev.bind alive_ev ?_
  simp only [if_true]
  by_cases h : (l.length : Int) > 100
  · simp only [if_pos h]
    exact Ev.now _
  simp only [if_neg h]
  have hl := split_len a l
  refine Ev.bind (split_is a l (by omega)) (Ev.bind (ref_is a l (by omega)) (Ev.bind (same_self _ (by omega)) ?_))
  simp only [if_true, beq_self_eq_true]
  exact Ev.now _

end Go.Proofs.Ytamockdikeadnaa.Pure
