/- ClockSets: Merge, Cover and Length of the program return what the reference returns, for any intervals, at most 60, and any number. -/
import Derived.Test.YtmijeihhioiliaaPxO
import Derived.Test.YtmijeihhioiliaaPClock6
import Derived.Test.YtmijeihhioiliaaPx22
namespace Go.Proofs.Ytmijeihhioiliaa.Pure
open Go.RowKit Go.Proofs.Ytmijeihhioiliaa.Px Go.Proofs.YtmijeihhioiliaaW.PrintWords

theorem ClockSets : ∀ (l0 : List (S39)) (a1 : Int), (fun xs : List (S39) => xs.length ≤ maxLen ∧ ∀ x ∈ xs, wf39 x) l0 → I64 a1 → ∃ k, skiarealaw02_ClockSets.f k l0 a1 = some true := by
  intro l t _ _
  refine Ev.rounds (g := fun k => skiarealaw02_ClockSets.f k l t) ?_
  unfold skiarealaw02_ClockSets.f
  refine Ev.bind alive_ev ?_
  simp only [if_true, few_eq, Option.bind_some]
  by_cases hl : l.length ≤ 60
  · simp only [hl, decide_true, if_true]
    have hm := mergeOf_length l
    refine Ev.bind (merge_ev l (by omega)) (Ev.bind (rmerge_ev l (by omega)) (Ev.bind (same_ev _ (by omega)) ?_))
    simp only [if_true, cover_eq, Option.bind_some]
    refine Ev.bind (rcover_ev l t (by omega)) ?_
    simp only [beq_self_eq_true, if_true]
    exact Ev.bind (length_ev l (by omega)) (Ev.bind (rlength_ev l (by omega)) (by simp only [beq_self_eq_true]; exact Ev.now _))
  · simp only [hl, decide_false]
    exact Ev.now _

end Go.Proofs.Ytmijeihhioiliaa.Pure
