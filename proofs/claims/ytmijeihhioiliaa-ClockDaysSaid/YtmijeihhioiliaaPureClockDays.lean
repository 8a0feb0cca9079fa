/- ClockDays: Day, Second and Weekday of the program return what the reference returns, for every number. -/
import Derived.Test.YtmijeihhioiliaaPxO
import Derived.Test.YtmijeihhioiliaaPClock0
import Derived.Test.YtmijeihhioiliaaPx11
namespace Go.Proofs.Ytmijeihhioiliaa.Pure
open Go.RowKit Go.Proofs.Ytmijeihhioiliaa.Px

theorem ClockDays : ∀ (a0 : Int), I64 a0 → ∃ k, skiarealaw02_ClockDays.f k a0 = some true := by
  intro t _
  refine ⟨100, ?_⟩
  unfold skiarealaw02_ClockDays.f
  rw [alive_100]
  simp only [Option.bind_some, if_true, day_eq, second_eq, weekday_eq]
  rw [rday_eq, rsecond_eq, rweekday_eq]
  simp

end Go.Proofs.Ytmijeihhioiliaa.Pure
