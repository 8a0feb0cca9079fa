/- ClockHours: Right and In of the program return what the reference returns, for any hours, at most 100, and any number. -/
import Derived.Test.YtmijeihhioiliaaPxO
import Derived.Test.YtmijeihhioiliaaPClock1
import Derived.Test.YtmijeihhioiliaaPx13
namespace Go.Proofs.Ytmijeihhioiliaa.Pure
open Go.RowKit Go.Proofs.Ytmijeihhioiliaa.Px

theorem ClockHours : ∀ (l0 : List (S42)) (a1 : Int), (fun xs : List (S42) => xs.length ≤ maxLen ∧ ∀ x ∈ xs, wf42 x) l0 → I64 a1 → ∃ k, skiarealaw02_ClockHours.f k l0 a1 = some true := by
  intro l t hl _
  have hl' : l.length ≤ 9223372036854775807 := by have := hl.1; simpa [maxLen] using this
  refine ⟨200, ?_⟩
  unfold skiarealaw02_ClockHours.f
  rw [alive_more (by omega)]
  simp only [Option.bind_some, if_true]
  by_cases h : (l.length : Int) > 100
  · rw [if_pos h]
  · rw [if_neg h, right_eq, rright_eq l 200 (by omega) hl', in_eq, rin_eq l t 200 (by omega) hl']
    simp

end Go.Proofs.Ytmijeihhioiliaa.Pure
