/- ClockLengths: the lengths of two sets together are those of both together and of what they have in common; at most 60 intervals each. -/
import Derived.Test.YtmijeihhioiliaaPxO
import Derived.Test.YtmijeihhioiliaaPClock6
import Derived.Test.YtmijeihhioiliaaPx19
namespace Go.Proofs.Ytmijeihhioiliaa.Pure
open Go.RowKit Go.Proofs.Ytmijeihhioiliaa.Px Go.Proofs.YtmijeihhioiliaaW.PrintWords

theorem memV_append (t : Int) (a b : List S39) : MemV t (a ++ b) ↔ MemV t a ∨ MemV t b := by
  rw [memV_filter, List.filter_append, mem_append, ← memV_filter, ← memV_filter]
theorem minus_short (a b : List S39) (ha : a.length ≤ 60) (hb : b.length ≤ 60) : (minusOf a b).length ≤ 3660 := by
  have h := minusOf_length a b
  have h2 : a.length * (b.length + 1) ≤ 60 * 61 := Nat.mul_le_mul ha (by omega)
  omega
theorem common_length (a c : List S39) (ha : a.length ≤ 60) (hc : c.length ≤ 3660) : (minusOf a c).length ≤ 219660 := by
  have h := minusOf_length a c
  have h2 : a.length * (c.length + 1) ≤ 60 * 3661 := Nat.mul_le_mul ha (by omega)
  omega
theorem common_mem (a b : List S39) (t : Int) : Mem t (minusOf a (minusOf a b)) ↔ MemV t a ∧ MemV t b := by
  obtain ⟨h1, h2⟩ := minusOf_plain a b
  obtain ⟨_, h4⟩ := minusOf_plain a (minusOf a b)
  rw [h4, plain_memV h1, h2]
  constructor
  · rintro ⟨h5, h6⟩
    exact ⟨h5, Classical.byContradiction fun h7 => h6 ⟨h5, h7⟩⟩
  · rintro ⟨h5, h6⟩
    exact ⟨h5, fun h7 => h7.2 h6⟩
theorem sum_merge {N : Nat} (hN : (N : Int) = 20000000) (l : List S39) : sumLen (mergeOf l) = cnt (coverOf l) N := by
  obtain ⟨h1, h2⟩ := mergeOf_plain l
  rw [sumLen_cnt hN h1]
  exact cnt_congr N (fun t _ _ => by rw [Bool.eq_iff_iff, memB_iff, h2, coverOf_iff])
theorem lengths_eq (a b : List S39) : sumLen (mergeOf a) + sumLen (mergeOf b) = sumLen (mergeOf (a ++ b)) + sumLen (mergeOf (minusOf a (minusOf a b))) ∧ sumLen (mergeOf (minusOf a (minusOf a b))) ≤ sumLen (mergeOf a) := by
  obtain ⟨N, hN⟩ : ∃ N : Nat, (N : Int) = 20000000 := ⟨20000000, rfl⟩
  rw [sum_merge hN, sum_merge hN, sum_merge hN, sum_merge hN]
  have hc : ∀ t, coverOf (minusOf a (minusOf a b)) t = (coverOf a t && coverOf b t) := fun t => by
    rw [Bool.eq_iff_iff, Bool.and_eq_true, coverOf_iff, coverOf_iff, coverOf_iff, plain_memV (minusOf_plain a (minusOf a b)).1, common_mem]
  have hb : ∀ t, coverOf (a ++ b) t = (coverOf a t || coverOf b t) := fun t => by
    rw [Bool.eq_iff_iff, Bool.or_eq_true, coverOf_iff, coverOf_iff, coverOf_iff, memV_append]
  rw [cnt_congr (p := coverOf (a ++ b)) N (fun t _ _ => hb t), cnt_congr (p := coverOf (minusOf a (minusOf a b))) N (fun t _ _ => hc t)]
  exact ⟨cnt_or _ _ N, cnt_le N (fun t _ h => by rw [Bool.and_eq_true] at h; exact h.1)⟩
theorem ClockLengths : ∀ (l0 : List (S39)) (l1 : List (S39)), (fun xs : List (S39) => xs.length ≤ maxLen ∧ ∀ x ∈ xs, wf39 x) l0 → (fun xs : List (S39) => xs.length ≤ maxLen ∧ ∀ x ∈ xs, wf39 x) l1 → ∃ k, skiarealaw02_ClockLengths.f k l0 l1 = some true := by
  intro a b _ _
  refine Ev.rounds (g := fun k => skiarealaw02_ClockLengths.f k a b) ?_
  unfold skiarealaw02_ClockLengths.f
  refine Ev.bind alive_ev ?_
  simp only [if_true, few_eq, Option.bind_some]
  have hstop : Ev (fun k => skiarealaw02_ClockLengths.j0 k a b true) true := Ev.step (f := fun _ => some true) (fun k => by simp only [skiarealaw02_ClockLengths.j0]; rw [if_pos trivial]) (Ev.now _)
  by_cases ha : a.length ≤ 60
  · by_cases hb : b.length ≤ 60
    · simp only [ha, hb, decide_true, if_true, Bool.not_true]
      have hab := minus_short a b ha hb
      have hba := minus_short b a hb ha
      have hc := common_length a _ ha hab
      have hc' := common_length b _ hb hba
      have heq : minusOf b (minusOf b a) = minusOf a (minusOf a b) := plain_unique (minusOf_plain _ _).1 (minusOf_plain _ _).1 (fun t => by rw [common_mem, common_mem]; exact and_comm)
      obtain ⟨hs1, hs2⟩ := lengths_eq a b
      have la := length_ev a (by omega)
      have lb := length_ev b (by omega)
      have lab := length_ev (a ++ b) (by rw [List.length_append]; omega)
      have lc := length_ev (minusOf a (minusOf a b)) (by omega)
      have ba := sum_bound (mergeOf_plain a).1.1
      have bb := sum_bound (mergeOf_plain b).1.1
      have bab := sum_bound (mergeOf_plain (a ++ b)).1.1
      have ma := mergeOf_length a
      have mb := mergeOf_length b
      have mm : ([] : List S39).length + a.length < 8796093022208 := by simp; omega
      refine Ev.step (f := fun k => (some ([] ++ a)).bind fun y => if y.length + b.length < 8796093022208 then ((clock_Minus.f k a b).bind fun t1 => (clock_Minus.f k a t1).bind fun t2 => (clock_Length.f k a).bind fun t3 => (clock_Length.f k b).bind fun t4 => (clock_Length.f k (y ++ b)).bind fun t5 => (clock_Length.f k t2).bind fun t6 => if wrap64 (t3 + t4) = wrap64 (t5 + t6) then ((clock_Minus.f k b a).bind fun t7 => (clock_Minus.f k b t7).bind fun t8 => (skiarearef02_Same.f k t2 t8).bind fun t9 => if t9 = true then ((clock_Length.f k a).bind fun t10 => (clock_Length.f k t2).bind fun t11 => some (decide (t10 ≥ t11))) else some false) else some false) else none) (fun k => ?_) ?_
      · simp only [skiarealaw02_ClockLengths.j0]
        rw [if_neg (by simp), if_pos mm]
      · refine Ev.bind (Ev.now _) ?_
        have m2 : ([] ++ a : List S39).length + b.length < 8796093022208 := by simp; omega
        simp only [m2, if_true]
        refine Ev.bind (minus_ev a b (by omega) (by omega)) (Ev.bind (minus_ev a _ (by omega) (by omega)) (Ev.bind la (Ev.bind lb (Ev.bind lab (Ev.bind lc ?_)))))
        have e : wrap64 (sumLen (mergeOf a) + sumLen (mergeOf b)) = wrap64 (sumLen (mergeOf (a ++ b)) + sumLen (mergeOf (minusOf a (minusOf a b)))) := by rw [hs1]
        simp only [e, if_true]
        refine Ev.bind (minus_ev b a (by omega) (by omega)) (Ev.bind (minus_ev b _ (by omega) (by omega)) ?_)
        rw [heq]
        refine Ev.bind (same_ev _ (by omega)) ?_
        simp only [if_true]
        refine Ev.bind la (Ev.bind lc ?_)
        have e2 : decide (sumLen (mergeOf a) ≥ sumLen (mergeOf (minusOf a (minusOf a b)))) = true := decide_eq_true hs2
        rw [e2]
        exact Ev.now _
    · simp only [ha, hb, decide_true, decide_false, if_true, Bool.not_false]
      exact hstop
  · simp only [ha, decide_false]
    exact hstop

end Go.Proofs.Ytmijeihhioiliaa.Pure
