/- ClockNexts: Next of the program returns what the reference's Next returns, for any hours, at most 100, and any number. -/
import Derived.Test.YtmijeihhioiliaaPxO
import Derived.Test.YtmijeihhioiliaaPClock8
import Derived.Test.YtmijeihhioiliaaPx15
namespace Go.Proofs.Ytmijeihhioiliaa.Pure
open Go.RowKit Go.Proofs.Ytmijeihhioiliaa.Px Go.Proofs.YtmijeihhioiliaaW.PrintWords

theorem ClockNexts : ∀ (l0 : List (S42)) (a1 : Int), (fun xs : List (S42) => xs.length ≤ maxLen ∧ ∀ x ∈ xs, wf42 x) l0 → I64 a1 → ∃ k, skiarealaw02_ClockNexts.f k l0 a1 = some true := by
  intro l t _ _
  refine Ev.rounds (g := fun k => skiarealaw02_ClockNexts.f k l t) ?_
  unfold skiarealaw02_ClockNexts.f
  refine Ev.bind alive_ev ?_
  simp only [if_true]
  by_cases hl : (l.length : Int) > 100
  · simp only [hl, if_true]
    exact Ev.now _
  · simp only [hl, if_false]
    refine Ev.bind (next_ev l t (by omega)) ?_
    have h := rnext_ev l t (by omega)
    rw [← next_same] at h
    refine Ev.bind h ?_
    simp
    exact Ev.now _

end Go.Proofs.Ytmijeihhioiliaa.Pure
