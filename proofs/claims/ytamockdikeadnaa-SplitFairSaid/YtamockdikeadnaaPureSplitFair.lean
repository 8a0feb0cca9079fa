/- SplitFair: Fair of the program reports what the reference reports, wherever the reference's Split has no error, for at most 64 weights and 100 parts. -/
import Derived.Test.YtamockdikeadnaaPxO
import Derived.Test.YtamockdikeadnaaPFair
import Derived.Test.YtamockdikeadnaaPAlive
import Derived.Test.YtamockdikeadnaaPx14
namespace Go.Proofs.Ytamockdikeadnaa.Pure
open Go.RowKit Go.Proofs.Ytamockdikeadnaa.Px Go.Proofs.YtamockdikeadnaaW.PrintWords

theorem SplitFair : ∀ (a0 : Int) (l1 : List Int) (l2 : List Int), I64 a0 → (fun xs : List Int => xs.length ≤ maxLen ∧ ∀ x ∈ xs, I64 x) l1 → (fun xs : List Int => xs.length ≤ maxLen ∧ ∀ x ∈ xs, I64 x) l2 → ∃ k, skiarealaw34_SplitFair.f k a0 l1 l2 = some true := by
  intro a l p _ _ _
  refine Ev.rounds (g := fun k => skiarealaw34_SplitFair.f k a l p) ?_
  unfold skiarealaw34_SplitFair.f
  refine Ev.bind alive_ev ?_
  simp only [if_true]
  by_cases h : (l.length : Int) > 64
  · simp only [if_pos h]
    exact Ev.step (fun k => by simp only [skiarealaw34_SplitFair.j0]; rw [if_pos trivial]) (Ev.now _)
  simp only [if_neg h]
  by_cases h2 : (p.length : Int) > 100
  · simp only [decide_eq_true h2]
    exact Ev.step (fun k => by simp only [skiarealaw34_SplitFair.j0]; rw [if_pos trivial]) (Ev.now _)
  simp only [decide_eq_false h2]
  refine Ev.step (fun k => by simp only [skiarealaw34_SplitFair.j0]; rw [if_neg (by simp)]) (Ev.bind (ref_is a l (by omega)) ?_)
  by_cases h3 : (split a l).2 = 0
  · simp only [if_pos h3]
    have hS := (split_ok h3).1
    refine Ev.bind (hS.fair1 p) (Ev.bind (hS.fair2 p) ?_)
    simp only [beq_self_eq_true]
    exact Ev.now _
  · simp only [if_neg h3]
    exact Ev.now _

end Go.Proofs.Ytamockdikeadnaa.Pure
