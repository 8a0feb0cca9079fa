/- ClockDifference: Minus of the program returns what the reference's Minus returns, for any two lists of at most 60 intervals each. -/
import Derived.Test.YtmijeihhioiliaaPxO
import Derived.Test.YtmijeihhioiliaaPClock4
import Derived.Test.YtmijeihhioiliaaPClock5
import Derived.Test.YtmijeihhioiliaaPClock7
import Derived.Test.YtmijeihhioiliaaPx19
namespace Go.Proofs.Ytmijeihhioiliaa.Pure
open Go.RowKit Go.Proofs.Ytmijeihhioiliaa.Px Go.Proofs.YtmijeihhioiliaaW.PrintWords

theorem ClockDifference : ∀ (l0 : List (S39)) (l1 : List (S39)), (fun xs : List (S39) => xs.length ≤ maxLen ∧ ∀ x ∈ xs, wf39 x) l0 → (fun xs : List (S39) => xs.length ≤ maxLen ∧ ∀ x ∈ xs, wf39 x) l1 → ∃ k, skiarealaw02_ClockDifference.f k l0 l1 = some true := by
  intro a b _ _
  refine Ev.rounds (g := fun k => skiarealaw02_ClockDifference.f k a b) ?_
  unfold skiarealaw02_ClockDifference.f
  refine Ev.bind alive_ev ?_
  simp only [if_true, few_eq, Option.bind_some]
  by_cases ha : a.length ≤ 60
  · by_cases hb : b.length ≤ 60
    · simp only [ha, hb, decide_true, if_true]
      refine Ev.bind (minus_ev a b (by omega) (by omega)) ?_
      obtain ⟨r, h1, h2, h3⟩ := rminus_ev a b (by omega) (by omega)
      obtain ⟨h4, h5⟩ := minusOf_plain a b
      have e : r = minusOf a b := plain_unique h2 h4 (fun t => by rw [h3, h5])
      rw [e] at h1
      refine Ev.bind h1 ?_
      have hl := minusOf_length a b
      have hl2 : a.length * (b.length + 1) ≤ 60 * 61 := Nat.mul_le_mul ha (by omega)
      exact Ev.bind (same_ev _ (by omega)) (Ev.now _)
    · simp only [ha, hb, decide_true, decide_false, if_true]
      exact Ev.now _
  · simp only [ha, decide_false]
    exact Ev.now _

end Go.Proofs.Ytmijeihhioiliaa.Pure
