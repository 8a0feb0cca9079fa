/- Next: the least time from t on with In. -/
import Derived.Test.YtmijeihhioiliaaPClock8
namespace Go.Proofs.Ytmijeihhioiliaa.Pure
open Go.RowKit Go.Proofs.Ytmijeihhioiliaa.Px Go.Proofs.YtmijeihhioiliaaW.PrintWords

/-- Some hours apply on the day wd at the second s. -/
def OpenAt (l : List S42) (wd s : Int) : Prop := ∃ x ∈ l, onBit x.f0 wd = true ∧ x.f1 ≤ s ∧ s < x.f2
theorem inOf_iff (l : List S42) (u : Int) : inOf l u = true ↔ isT u = true ∧ OpenAt l (u / 86400 % 7) (u % 86400) := by
  unfold inOf OpenAt
  rw [Bool.and_eq_true, List.any_eq_true]
  constructor
  · rintro ⟨h, x, hx, h2⟩
    unfold onAt wdOf secOf at h2
    rw [if_pos h, if_pos h] at h2
    simp only [Bool.and_eq_true, decide_eq_true_eq] at h2
    exact ⟨h, x, hx, h2.1, h2.2.1, h2.2.2⟩
  · rintro ⟨h, x, hx, h1, h2, h3⟩
    refine ⟨h, x, hx, ?_⟩
    unfold onAt wdOf secOf
    rw [if_pos h, if_pos h]
    simp only [Bool.and_eq_true, decide_eq_true_eq]
    exact ⟨h1, h2, h3⟩
theorem op_spec (wd f : Int) (hf : 0 ≤ f) : ∀ (l : List S42) (s : Int × Bool),
    ((l.foldl (opStep wd f) s).2 = true → (s.2 = true ∧ (l.foldl (opStep wd f) s).1 = s.1) ∨ (f ≤ (l.foldl (opStep wd f) s).1 ∧ (l.foldl (opStep wd f) s).1 < 86400 ∧ OpenAt l wd (l.foldl (opStep wd f) s).1)) ∧
    (s.2 = true → (l.foldl (opStep wd f) s).2 = true ∧ (l.foldl (opStep wd f) s).1 ≤ s.1) ∧
    (∀ q, f ≤ q → q < 86400 → OpenAt l wd q → (l.foldl (opStep wd f) s).2 = true ∧ (l.foldl (opStep wd f) s).1 ≤ q)
  | [], s => ⟨fun h => .inl ⟨h, rfl⟩, fun h => ⟨h, Int.le_refl _⟩, fun q _ _ ⟨x, hx, _⟩ => by simp at hx⟩
  | x :: l, s => by
    obtain ⟨a1, a2, a3⟩ := op_spec wd f hf l (opStep wd f s x)
    rw [List.foldl_cons]
    -- what one round does
    have b1 : (opStep wd f s x).2 = true → (s.2 = true ∧ (opStep wd f s x).1 = s.1) ∨ (f ≤ (opStep wd f s x).1 ∧ (opStep wd f s x).1 < 86400 ∧ onBit x.f0 wd = true ∧ x.f1 ≤ (opStep wd f s x).1 ∧ (opStep wd f s x).1 < x.f2) := by
      unfold opStep
      by_cases hc : onBit x.f0 wd = true ∧ mx x.f1 f < mn x.f2 86400
      · rw [if_pos hc]
        have h2 := hc.2
        have h3 : f ≤ mx x.f1 f ∧ x.f1 ≤ mx x.f1 f ∧ mx x.f1 f < 86400 ∧ mx x.f1 f < x.f2 := by unfold mx mn at h2; unfold mx; (repeat' split at h2) <;> (repeat' split) <;> omega
        unfold better
        by_cases k1 : s.2 = true
        · rw [if_pos k1]
          by_cases k2 : mx x.f1 f < s.1
          · rw [if_pos k2]
            exact fun _ => .inr ⟨h3.1, h3.2.2.1, hc.1, h3.2.1, h3.2.2.2⟩
          · rw [if_neg k2]
            exact fun _ => .inl ⟨k1, rfl⟩
        · rw [if_neg k1]
          exact fun _ => .inr ⟨h3.1, h3.2.2.1, hc.1, h3.2.1, h3.2.2.2⟩
      · rw [if_neg hc]
        exact fun h => .inl ⟨h, rfl⟩
    have b2 : s.2 = true → (opStep wd f s x).2 = true ∧ (opStep wd f s x).1 ≤ s.1 := by
      intro k1
      unfold opStep
      by_cases hc : onBit x.f0 wd = true ∧ mx x.f1 f < mn x.f2 86400
      · rw [if_pos hc]
        unfold better
        rw [if_pos k1]
        by_cases k2 : mx x.f1 f < s.1
        · rw [if_pos k2]
          exact ⟨rfl, Int.le_of_lt k2⟩
        · rw [if_neg k2]
          exact ⟨k1, Int.le_refl _⟩
      · rw [if_neg hc]
        exact ⟨k1, Int.le_refl _⟩
    have b3 : ∀ q, f ≤ q → q < 86400 → onBit x.f0 wd = true → x.f1 ≤ q → q < x.f2 → (opStep wd f s x).2 = true ∧ (opStep wd f s x).1 ≤ q := by
      intro q q1 q2 q3 q4 q5
      have h3 : mx x.f1 f ≤ q := by unfold mx; split <;> omega
      have h4 : mx x.f1 f < mn x.f2 86400 := by unfold mn; split <;> omega
      unfold opStep
      rw [if_pos ⟨q3, h4⟩]
      unfold better
      by_cases k1 : s.2 = true
      · rw [if_pos k1]
        by_cases k2 : mx x.f1 f < s.1
        · rw [if_pos k2]; exact ⟨rfl, h3⟩
        · rw [if_neg k2]; exact ⟨k1, by omega⟩
      · rw [if_neg k1]; exact ⟨rfl, h3⟩
    refine ⟨fun h => ?_, fun h => ?_, fun q q1 q2 hq => ?_⟩
    · rcases a1 h with ⟨c1, c2⟩ | ⟨c1, c2, y, hy, c3⟩
      · rcases b1 c1 with ⟨d1, d2⟩ | ⟨d1, d2, d3, d4, d5⟩
        · exact .inl ⟨d1, c2.trans d2⟩
        · rw [c2]
          exact .inr ⟨d1, d2, x, List.mem_cons_self, d3, d4, d5⟩
      · exact .inr ⟨c1, c2, y, List.mem_cons_of_mem _ hy, c3⟩
    · obtain ⟨c1, c2⟩ := b2 h
      obtain ⟨d1, d2⟩ := a2 c1
      exact ⟨d1, by omega⟩
    · obtain ⟨y, hy, c1, c2, c3⟩ := hq
      rcases List.mem_cons.1 hy with rfl | hy
      · obtain ⟨d1, d2⟩ := b3 q q1 q2 c1 c2 c3
        obtain ⟨e1, e2⟩ := a2 d1
        exact ⟨e1, by omega⟩
      · exact a3 q q1 q2 ⟨y, hy, c1, c2, c3⟩
theorem opens_spec (l : List S42) (wd f : Int) (hf : 0 ≤ f) : ((opensOf l wd f).2 = true → f ≤ (opensOf l wd f).1 ∧ (opensOf l wd f).1 < 86400 ∧ OpenAt l wd (opensOf l wd f).1) ∧ (∀ q, f ≤ q → q < 86400 → OpenAt l wd q → (opensOf l wd f).2 = true ∧ (opensOf l wd f).1 ≤ q) := by
  obtain ⟨a1, _, a3⟩ := op_spec wd f hf l (0, false)
  exact ⟨fun h => (a1 h).elim (fun h => absurd h.1 (by simp)) id, a3⟩
theorem days_spec (l : List S42) (first : Int) (h0 : 0 ≤ first) : ∀ (n : Nat) (f i : Int), 0 ≤ i → 0 ≤ f → f < 86400 →
    ((progDays l first n f i).2 = true → (first + i) * 86400 + f ≤ (progDays l first n f i).1 ∧ inOf l (progDays l first n f i).1 = true ∧ ∀ u, (first + i) * 86400 + f ≤ u → u < (progDays l first n f i).1 → inOf l u = false) ∧
    ((progDays l first n f i).2 = false → (progDays l first n f i).1 = 0 ∧ ∀ u, (first + i) * 86400 + f ≤ u → u < (first + i + n) * 86400 → inOf l u = false)
  | 0, f, i, hi, hf, hf2 => ⟨fun h => by simp [progDays] at h, fun _ => ⟨rfl, fun u h1 h2 => by omega⟩⟩
  | n + 1, f, i, hi, hf, hf2 => by
    obtain ⟨o1, o2⟩ := opens_spec l ((first + i) % 7) f hf
    have hday : ∀ u, (first + i) * 86400 + f ≤ u → u < (first + i + 1) * 86400 → inOf l u = true → (opensOf l ((first + i) % 7) f).2 = true ∧ (first + i) * 86400 + (opensOf l ((first + i) % 7) f).1 ≤ u := by
      intro u h1 h2 h3
      obtain ⟨_, h5⟩ := (inOf_iff l u).1 h3
      have e1 : u / 86400 = first + i := by omega
      rw [e1] at h5
      obtain ⟨c1, c2⟩ := o2 (u % 86400) (by omega) (by omega) h5
      exact ⟨c1, by omega⟩
    unfold progDays
    generalize opensOf l ((first + i) % 7) f = o at o1 o2 hday ⊢
    by_cases g1 : o.2 = true
    · rw [if_pos g1]
      obtain ⟨c1, c2, c3⟩ := o1 g1
      by_cases g2 : isT ((first + i) * 86400 + o.1) = true
      · rw [if_pos g2]
        refine ⟨fun _ => ⟨by simp only; omega, ?_, fun u h1 h2 => ?_⟩, fun h => by simp at h⟩
        · rw [inOf_iff]
          simp only
          refine ⟨g2, ?_⟩
          have e1 : ((first + i) * 86400 + o.1) / 86400 = first + i := by omega
          have e2 : ((first + i) * 86400 + o.1) % 86400 = o.1 := by omega
          rw [e1, e2]
          exact c3
        · simp only at h2
          cases h3 : inOf l u with
          | false => rfl
          | true => have := hday u h1 (by omega) h3; omega
      · rw [if_neg g2]
        have g4 : 20000000 < (first + i) * 86400 + o.1 := by
          rcases Int.lt_or_le 20000000 ((first + i) * 86400 + o.1) with k | k
          · exact k
          · exact absurd ((isT_iff _).2 ⟨by omega, k⟩) g2
        refine ⟨fun h => by simp at h, fun _ => ⟨rfl, fun u h1 h2 => ?_⟩⟩
        cases h3 : inOf l u with
        | false => rfl
        | true =>
          have h4 := (isT_iff u).1 ((inOf_iff l u).1 h3).1
          rcases Int.lt_or_le u ((first + i + 1) * 86400) with h5 | h5
          · have := hday u h1 h5 h3; omega
          · omega
    · rw [if_neg g1]
      obtain ⟨r1, r2⟩ := days_spec l first h0 n 0 (i + 1) (by omega) (Int.le_refl _) (by omega)
      have hno : ∀ u, (first + i) * 86400 + f ≤ u → u < (first + i + 1) * 86400 → inOf l u = false := fun u h1 h2 => by
        cases h3 : inOf l u with
        | false => rfl
        | true => exact absurd (hday u h1 h2 h3).1 g1
      have en : ((n + 1 : Nat) : Int) = (n : Int) + 1 := by omega
      refine ⟨fun h => ?_, fun h => ?_⟩
      · obtain ⟨c1, c2, c3⟩ := r1 h
        refine ⟨by omega, c2, fun u h1 h2 => ?_⟩
        rcases Int.lt_or_le u ((first + i + 1) * 86400) with h5 | h5
        · exact hno u h1 h5
        · exact c3 u (by omega) h2
      · obtain ⟨c1, c2⟩ := r2 h
        refine ⟨c1, fun u h1 h2 => ?_⟩
        rcases Int.lt_or_le u ((first + i + 1) * 86400) with h5 | h5
        · exact hno u h1 h5
        · exact c2 u (by omega) (by omega)
/-- Hours repeat: what holds at u held k weeks before. -/
theorem in_weeks (l : List S42) (u k : Int) (h : inOf l u = true) (hk : 0 ≤ k) (hu : 0 ≤ u - 604800 * k) : inOf l (u - 604800 * k) = true := by
  obtain ⟨h1, h2⟩ := (inOf_iff l u).1 h
  have h3 := (isT_iff u).1 h1
  rw [inOf_iff]
  refine ⟨(isT_iff _).2 ⟨hu, by omega⟩, ?_⟩
  have e1 : (u - 604800 * k) / 86400 % 7 = u / 86400 % 7 := by omega
  have e2 : (u - 604800 * k) % 86400 = u % 86400 := by omega
  rw [e1, e2]
  exact h2
theorem nextOf_spec (l : List S42) (t : Int) : ((nextOf l t).2 = true → t ≤ (nextOf l t).1 ∧ 0 ≤ (nextOf l t).1 ∧ inOf l (nextOf l t).1 = true ∧ ∀ u, t ≤ u → u < (nextOf l t).1 → inOf l u = false) ∧ ((nextOf l t).2 = false → (nextOf l t).1 = 0 ∧ ∀ u, t ≤ u → inOf l u = false) := by
  have hm : t ≤ mx t 0 ∧ 0 ≤ mx t 0 ∧ (mx t 0 = t ∨ mx t 0 = 0) := by unfold mx; split <;> omega
  have hlow : ∀ u, t ≤ u → u < mx t 0 → inOf l u = false := fun u h1 h2 => by
    cases h3 : inOf l u with
    | false => rfl
    | true => have := (isT_iff u).1 ((inOf_iff l u).1 h3).1; omega
  unfold nextOf
  by_cases hT : isT (mx t 0) = true
  · rw [if_pos hT]
    obtain ⟨h0, h1, h2, h3, h4⟩ := day_range hT
    obtain ⟨r1, r2⟩ := days_spec l (dayOf (mx t 0)) h0 8 (secOf (mx t 0)) 0 (Int.le_refl _) h2 h3
    rw [Int.add_zero, ← h4] at r1 r2
    refine ⟨fun h => ?_, fun h => ?_⟩
    · obtain ⟨c1, c2, c3⟩ := r1 h
      refine ⟨by omega, by omega, c2, fun u g1 g2 => ?_⟩
      rcases Int.lt_or_le u (mx t 0) with g3 | g3
      · exact hlow u g1 g3
      · exact c3 u g3 g2
    · obtain ⟨c1, c2⟩ := r2 h
      refine ⟨c1, fun u g1 => ?_⟩
      rcases Int.lt_or_le u (mx t 0) with g3 | g3
      · exact hlow u g1 g3
      · rcases Int.lt_or_le u ((dayOf (mx t 0) + (8 : Nat)) * 86400) with g4 | g4
        · exact c2 u g3 g4
        · cases g5 : inOf l u with
          | false => rfl
          | true =>
            -- some weeks before there is the same in these eight days
            have g6 := in_weeks l u ((u - (dayOf (mx t 0) + 1) * 86400) / 604800) g5 (by omega) (by omega)
            have g7 := c2 (u - 604800 * ((u - (dayOf (mx t 0) + 1) * 86400) / 604800)) (by omega) (by omega)
            rw [g6] at g7
            exact absurd g7 (by simp)
  · rw [if_neg hT]
    refine ⟨fun h => by simp at h, fun _ => ⟨rfl, fun u g1 => ?_⟩⟩
    rcases Int.lt_or_le u (mx t 0) with g3 | g3
    · exact hlow u g1 g3
    · cases g5 : inOf l u with
      | false => rfl
      | true =>
        have g6 := (isT_iff u).1 ((inOf_iff l u).1 g5).1
        exact absurd ((isT_iff _).2 ⟨by omega, by omega⟩) hT
end Go.Proofs.Ytmijeihhioiliaa.Pure
