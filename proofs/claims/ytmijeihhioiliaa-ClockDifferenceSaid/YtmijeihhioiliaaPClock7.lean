/- Small words for the clock's statements: few, Same of a list with itself, the examples, from some number of rounds on. -/
import Derived.Test.YtmijeihhioiliaaPClock3
import Derived.Test.YtmijeihhioiliaaPx15
namespace Go.Proofs.Ytmijeihhioiliaa.Pure
open Go.RowKit Go.Proofs.Ytmijeihhioiliaa.Px Go.Proofs.YtmijeihhioiliaaW.PrintWords

theorem few_eq (l : List S39) : skiarealaw02_few.f l = some (decide (l.length ≤ 60)) := by
  unfold skiarealaw02_few.f
  congr 1
  rw [decide_eq_decide]
  omega
theorem same_ev (l : List S39) (hl : l.length ≤ 9223372036854775807) : Ev (fun k => skiarearef02_Same.f k l l) true := ⟨l.length + 1, fun k hk => same_self l k (by omega) hl⟩
theorem alive_ev : Ev (fun k => skiarealaw02_alive.f k) true := ⟨100, fun _ h => alive_more h⟩
theorem rcover_ev (l : List S39) (t : Int) (hl : l.length < 1000000) : Ev (fun k => skiarearef02_Cover.f k l t) (coverOf l t) := ⟨1000000, fun k hk => rcover_eq l t k (by omega) (by omega)⟩
end Go.Proofs.Ytmijeihhioiliaa.Pure
