/- SplitAdds: Add and Total of the program return what the reference returns, shares, sum and error, for any shares, at most 100 each. -/
import Derived.Test.YtamockdikeadnaaPxO
import Derived.Test.YtamockdikeadnaaPAdds
import Derived.Test.YtamockdikeadnaaPAlive
import Derived.Test.YtamockdikeadnaaPx12
namespace Go.Proofs.Ytamockdikeadnaa.Pure
open Go.RowKit Go.Proofs.Ytamockdikeadnaa.Px Go.Proofs.YtamockdikeadnaaW.PrintWords
theorem wf_of_I64a {n : Int} (h : I64 n) : (Lit.int .i64 n).wf = true := by
  unfold I64 at h
  have e1 : IntKind.i64.min = -9223372036854775808 := by decide
  have e2 : IntKind.i64.max = 9223372036854775807 := by decide
  simp only [Lit.wf, Bool.and_eq_true, decide_eq_true_eq]
  omega

theorem SplitAdds : ∀ (l0 : List (S41)) (l1 : List (S41)), (fun xs : List (S41) => xs.length ≤ maxLen ∧ ∀ x ∈ xs, wf41 x) l0 → (fun xs : List (S41) => xs.length ≤ maxLen ∧ ∀ x ∈ xs, wf41 x) l1 → ∃ k, skiarealaw34_SplitAdds.f k l0 l1 = some true := by
  intro a b ha hb
  refine Ev.rounds (g := fun k => skiarealaw34_SplitAdds.f k a b) ?_
  unfold skiarealaw34_SplitAdds.f
  refine Ev.bind alive_ev ?_
  simp only [if_true]
  have skip : Ev (fun k => skiarealaw34_SplitAdds.j0 k a b true) true := Ev.step (fun k => by simp only [skiarealaw34_SplitAdds.j0]; rw [if_pos trivial]) (Ev.now _)
  by_cases hl : (a.length : Int) > 100
  · simp only [if_pos hl]
    exact skip
  simp only [if_neg hl]
  by_cases hl2 : (b.length : Int) > 100
  · simp only [decide_eq_true hl2]
    exact skip
  simp only [decide_eq_false hl2]
  obtain ⟨r, h1, h2, h3⟩ := add_ref a b (by omega) (fun s hs => (List.mem_append.1 hs).elim (fun h => wf_of_I64a (ha.2 s h).1) (fun h => wf_of_I64a (hb.2 s h).1))
  refine Ev.step (fun k => by simp only [skiarealaw34_SplitAdds.j0]; rw [if_neg (by simp), h1, Option.bind_some]) ?_
  refine Ev.bind h3 (Ev.bind (total_is a (by omega)) (Ev.bind (total_ref a (by omega)) (Ev.bind (samesh_self _ (by omega)) ?_)))
  simp only [if_true, beq_self_eq_true]
  exact Ev.now _

end Go.Proofs.Ytamockdikeadnaa.Pure
