/- RevenueChecks: Right of the program returns what the reference returns, the first error of any sales, for at most 100 sales or for more than 2000. -/
import Derived.Test.YtbkfnbbngnocbaaPxO
import Derived.Test.YtbkfnbbngnocbaaPChecks
import Derived.Test.YtbkfnbbngnocbaaPAlive
import Derived.Test.YtbkfnbbngnocbaaPx15
namespace Go.Proofs.Ytbkfnbbngnocbaa.Pure
open Go.RowKit Go.Proofs.Ytbkfnbbngnocbaa.Px Go.Proofs.YtbkfnbbngnocbaaW.PrintWords

theorem RevenueChecks : ∀ (l0 : List (S42)), (fun xs : List (S42) => xs.length ≤ maxLen ∧ ∀ x ∈ xs, wf42 x) l0 → ∃ k, skiarealaw35_RevenueChecks.f k l0 = some true := by
  intro l _
  refine Ev.rounds (g := fun k => skiarealaw35_RevenueChecks.f k l) ?_
  unfold skiarealaw35_RevenueChecks.f
  refine Ev.bind alive_ev ?_
  simp only [if_true, right_is, Option.bind_some]
  have hb : Ev (fun k => (skiarearef35_Right.f k l).bind fun t => some ((if 2000 < (l.length : Int) then (4 : Int) else revenue_Right.chk l []) == t)) true := by
    refine Ev.bind (right_ref l) ?_
    simp only [beq_self_eq_true]
    exact Ev.now _
  by_cases h1 : (l.length : Int) > 100
  · simp only [if_pos h1]
    by_cases h2 : (l.length : Int) ≤ 2000
    · simp only [if_pos h2]
      exact Ev.now _
    simp only [if_neg h2]
    by_cases h3 : (l.length : Int) > 2100
    · simp only [if_pos h3]
      exact Ev.now _
    · simp only [if_neg h3]
      exact hb
  · simp only [if_neg h1, if_neg (show ¬ (l.length : Int) > 2100 by omega)]
    exact hb

end Go.Proofs.Ytbkfnbbngnocbaa.Pure
