/- ClockMinus: Merge, Minus and Cover of the program are the operations on sets of times, at any time; lists of at most 60 intervals. -/
import Derived.Test.YtmijeihhioiliaaPxO
import Derived.Test.YtmijeihhioiliaaPClock4
import Derived.Test.YtmijeihhioiliaaPx24
namespace Go.Proofs.Ytmijeihhioiliaa.Pure
open Go.RowKit Go.Proofs.Ytmijeihhioiliaa.Px Go.Proofs.YtmijeihhioiliaaW.PrintWords

theorem plain_ev (l : List S39) (h : Plain l) (hl : l.length < 1000000) : Ev (fun k => skiarealaw02_plain.f k l) true := by
  unfold skiarealaw02_plain.f
  refine ⟨l.length + 1, fun k hk => ?_⟩
  have key := any_loop (fun k i => skiarealaw02_plain.l0 k l (i : Int)) (fun _ => some true) (fun _ => false) false l (fun k i x hx hp => by simp at hp) (fun k i x hx hp => by
      have hi := lt_get hx
      have hxo := h.1 x (List.mem_of_getElem? hx)
      unfold Ok39 at hxo
      simp only [skiarealaw02_plain.l0]
      rw [if_pos (by omega), if_pos (by omega), rd39 hx, if_neg (by omega), if_neg (by omega), if_neg (by omega), wrap_up hi (by omega)]
      by_cases h0 : (i : Int) > 0
      · obtain ⟨j, rfl⟩ : ∃ j, i = j + 1 := ⟨i - 1, by omega⟩
        have hw : wrap64 (((j + 1 : Nat) : Int) - 1) = (j : Int) := by unfold wrap64; omega
        have hj : l[j]? = some l[j] := List.getElem?_eq_getElem (by omega)
        have hp2 := List.pairwise_iff_getElem.1 h.2 j (j + 1) (by omega) hi (by omega)
        have hxe : l[j + 1] = x := (List.getElem?_eq_some_iff.1 hx).2
        rw [hxe] at hp2
        rw [if_pos h0, hw, if_pos (by omega), if_pos (by omega), rd39 hj, if_neg (by omega)]
      · rw [if_neg h0]) (fun k => by
      simp only [skiarealaw02_plain.l0]
      rw [if_neg (by omega)]) l.length 0 (k - l.length - 1) (by omega)
  rw [show k - l.length - 1 + l.length + 1 = k by omega, List.drop_zero] at key
  refine key.trans ?_
  simp
/-- The law's own look whether a time is in a list. -/
def inB (a : List S39) (t : Int) : Bool := a.any (fun x => decide (0 ≤ x.f0) && (decide (x.f1 ≤ 20000000) && (decide (x.f0 ≤ t) && decide (t < x.f1))))
theorem inB_eq (a : List S39) (t : Int) : inB a t = coverOf a t := by
  unfold inB coverOf
  congr 1
  funext x
  rw [Bool.eq_iff_iff]
  simp only [Bool.and_eq_true, decide_eq_true_eq]
  unfold Ok39
  omega
theorem ClockMinus : ∀ (l0 : List (S39)) (l1 : List (S39)) (a2 : Int), (fun xs : List (S39) => xs.length ≤ maxLen ∧ ∀ x ∈ xs, wf39 x) l0 → (fun xs : List (S39) => xs.length ≤ maxLen ∧ ∀ x ∈ xs, wf39 x) l1 → I64 a2 → ∃ k, skiarealaw02_ClockMinus.f k l0 l1 a2 = some true := by
  intro a b t _ _ _
  refine Ev.rounds (g := fun k => skiarealaw02_ClockMinus.f k a b t) ?_
  unfold skiarealaw02_ClockMinus.f
  refine Ev.bind alive_ev ?_
  simp only [if_true, few_eq, Option.bind_some]
  have hstop : Ev (fun k => skiarealaw02_ClockMinus.j0 k a b t true) true := Ev.step (f := fun _ => some true) (fun k => by simp only [skiarealaw02_ClockMinus.j0]; rw [if_pos trivial]) (Ev.now _)
  by_cases ha : a.length ≤ 60
  · by_cases hb : b.length ≤ 60
    · simp only [ha, hb, decide_true, if_true, Bool.not_true]
      obtain ⟨m1, m2⟩ := mergeOf_plain a
      obtain ⟨d1, d2⟩ := minusOf_plain a b
      have lm := mergeOf_length a
      have ld : (minusOf a b).length ≤ 3660 := by
        have h := minusOf_length a b
        have h2 : a.length * (b.length + 1) ≤ 60 * 61 := Nat.mul_le_mul ha (by omega)
        omega
      have e1 : mergeOf (mergeOf a) = mergeOf a := plain_unique (mergeOf_plain _).1 m1 (fun s => by rw [(mergeOf_plain _).2, plain_memV m1])
      have e2 : minusOf a [] = mergeOf a := plain_unique (minusOf_plain _ _).1 m1 (fun s => by
        rw [(minusOf_plain _ _).2, m2]
        exact ⟨fun h => h.1, fun h => ⟨h, fun ⟨_, hx, _⟩ => by simp at hx⟩⟩)
      have e3 : minusOf a a = [] := plain_unique (minusOf_plain _ _).1 Plain.nil (fun s => by
        rw [(minusOf_plain _ _).2]
        exact ⟨fun h => absurd h.1 h.2, fun h => absurd h (mem_nil s)⟩)
      refine Ev.step (f := fun k => (clock_Merge.f k a).bind fun t1 => (clock_Minus.f k a b).bind fun t2 => (skiarealaw02_plain.f k t1).bind fun t3 => if t3 = true then ((skiarealaw02_plain.f k t2).bind fun t4 => if t4 = true then ((clock_Merge.f k t1).bind fun t5 => (skiarearef02_Same.f k t5 t1).bind fun t6 => if t6 = true then ((clock_Minus.f k a []).bind fun t7 => (skiarearef02_Same.f k t7 t1).bind fun t8 => if t8 = true then ((clock_Minus.f k a a).bind fun t9 => skiarealaw02_ClockMinus.j1 k a b t t1 t2 ((t9.length : Int) != 0)) else skiarealaw02_ClockMinus.j1 k a b t t1 t2 true) else skiarealaw02_ClockMinus.j1 k a b t t1 t2 true) else skiarealaw02_ClockMinus.j1 k a b t t1 t2 true) else skiarealaw02_ClockMinus.j1 k a b t t1 t2 true) (fun k => ?_) ?_
      · simp only [skiarealaw02_ClockMinus.j0]
        rw [if_neg (by simp)]
      · refine Ev.bind (merge_ev a (by omega)) (Ev.bind (minus_ev a b (by omega) (by omega)) (Ev.bind (plain_ev _ m1 (by omega)) ?_))
        simp only [if_true]
        refine Ev.bind (plain_ev _ d1 (by omega)) ?_
        simp only [if_true]
        refine Ev.bind (merge_ev _ (by omega)) ?_
        rw [e1]
        refine Ev.bind (same_ev _ (by omega)) ?_
        simp only [if_true]
        refine Ev.bind (minus_ev a [] (by omega) (by simp)) ?_
        rw [e2]
        refine Ev.bind (same_ev _ (by omega)) ?_
        simp only [if_true]
        refine Ev.bind (minus_ev a a (by omega) (by omega)) ?_
        rw [e3]
        refine Ev.step (f := fun k => skiarealaw02_ClockMinus.l0 k a b t (mergeOf a) (minusOf a b) false ((0 : Nat) : Int)) (fun k => ?_) ?_
        · show skiarealaw02_ClockMinus.j1 (k + 1) a b t (mergeOf a) (minusOf a b) false = _
          simp only [skiarealaw02_ClockMinus.j1]
          rw [if_neg (by simp)]
          rfl
        · refine ev_fold (fun k i s => skiarealaw02_ClockMinus.l0 k a b t (mergeOf a) (minusOf a b) s (i : Int)) (fun s x => s || (decide (0 ≤ x.f0) && (decide (x.f1 ≤ 20000000) && (decide (x.f0 ≤ t) && decide (t < x.f1))))) a (fun i s => s = inB (a.take i) t) true (fun i s x hx hp => ?_) a.length 0 false (Nat.zero_add _) rfl (fun hp => ?_)
          · have hi := lt_get hx
            have hxe := (List.getElem?_eq_some_iff.1 hx).2
            refine ⟨?_, fun hE => Ev.step (fun k => ?_) hE⟩
            · rw [List.take_succ_eq_append_getElem hi, hxe, hp]
              unfold inB
              rw [List.any_append, List.any_cons, List.any_nil, Bool.or_false]
            · simp only [skiarealaw02_ClockMinus.l0]
              rw [if_pos (by omega), wrap_up hi (by omega)]
              cases s with
              | true => simp
              | false =>
                rw [if_neg (by simp), if_pos (by omega), rd39 hx]
                by_cases h1 : 0 ≤ x.f0
                · by_cases h2 : x.f1 ≤ 20000000
                  · by_cases h3 : x.f0 ≤ t
                    · simp [h1, h2, h3]
                    · simp [h1, h2, h3]
                  · simp [h1, h2]
                · simp [h1]
          · rw [List.take_length] at hp
            rw [List.drop_zero] at hp ⊢
            rw [hp, inB_eq]
            refine Ev.step (f := fun _ => some true) (fun k => ?_) (Ev.now _)
            have c1 : coverOf (mergeOf a) t = coverOf a t := by rw [Bool.eq_iff_iff, coverOf_iff, coverOf_iff, plain_memV m1, m2]
            have c2 : coverOf (minusOf a b) t = (coverOf a t && !coverOf b t) := by
              rw [Bool.eq_iff_iff, Bool.and_eq_true, coverOf_iff, coverOf_iff, plain_memV d1, d2, Bool.not_eq_true', ← Bool.not_eq_true, coverOf_iff]
            simp only [skiarealaw02_ClockMinus.l0]
            rw [if_neg (by omega)]
            simp only [cover_eq, Option.bind_some, c1, c2, beq_self_eq_true, if_true]
            cases coverOf a t <;> simp
    · simp only [ha, hb, decide_true, decide_false, if_true, Bool.not_false]
      exact hstop
  · simp only [ha, decide_false]
    exact hstop

end Go.Proofs.Ytmijeihhioiliaa.Pure
