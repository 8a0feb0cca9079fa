/- ClockFirst: Next returns the first time from t on that In takes, and a week later all is the same, for any hours, at most 100. -/
import Derived.Test.YtmijeihhioiliaaPxO
import Derived.Test.YtmijeihhioiliaaPClock9
import Derived.Test.YtmijeihhioiliaaPx20
namespace Go.Proofs.Ytmijeihhioiliaa.Pure
open Go.RowKit Go.Proofs.Ytmijeihhioiliaa.Px Go.Proofs.YtmijeihhioiliaaW.PrintWords

theorem in_week (l : List S42) (u : Int) (h0 : 0 ≤ u) (h1 : u ≤ 19395200) : inOf l u = inOf l (u + 604800) := by
  rw [Bool.eq_iff_iff, inOf_iff, inOf_iff]
  have e1 : (u + 604800) / 86400 % 7 = u / 86400 % 7 := by omega
  have e2 : (u + 604800) % 86400 = u % 86400 := by omega
  have e3 : isT u = true := (isT_iff _).2 ⟨h0, by omega⟩
  have e4 : isT (u + 604800) = true := (isT_iff _).2 ⟨by omega, by omega⟩
  rw [e1, e2, e3, e4]
theorem first_j1 (l : List S42) (u : Int) (b : Bool) (hb : b = true ∨ 0 ≤ u ∧ u ≤ 19395200) (k : Nat) : skiarealaw02_ClockFirst.j1 (k + 1) l u b = some true := by
  simp only [skiarealaw02_ClockFirst.j1]
  rcases hb with rfl | ⟨h0, h1⟩
  · rfl
  · have e3 : isT u = true := (isT_iff _).2 ⟨h0, by omega⟩
    have e4 : isT (u + 604800) = true := (isT_iff _).2 ⟨by omega, by omega⟩
    have w1 : wrap64 (u + 604800) = u + 604800 := wrap_id (by omega) (by omega)
    obtain ⟨d0, d1, d2, d3, d4⟩ := day_range e3
    have k1 : wdOf u = wdOf (u + 604800) := by
      unfold wdOf
      rw [if_pos e3, if_pos e4]
      omega
    have k2 : dayOf (u + 604800) = dayOf u + 7 := by
      unfold dayOf
      rw [if_pos e3, if_pos e4]
      omega
    have w2 : wrap64 (dayOf u + 7) = dayOf u + 7 := wrap_id (by omega) (by omega)
    have w3 : wrap64 (dayOf u * 86400) = dayOf u * 86400 := wrap_id (by omega) (by omega)
    have w4 : wrap64 (dayOf u * 86400 + secOf u) = u := by rw [← d4]; exact wrap_id (by omega) (by omega)
    cases b
    · rw [if_neg (by simp), w1, in_eq, in_eq, weekday_eq, weekday_eq, day_eq, day_eq, second_eq]
      simp only [Option.bind_some]
      rw [if_pos (by rw [in_week l u h0 h1]; simp), if_pos k1, k2, w2, if_pos rfl, w3, w4]
      simp
    · rfl
theorem first_j0 (l : List S42) (u : Int) (k : Nat) : skiarealaw02_ClockFirst.j0 (k + 2) l u false = some true := by
  simp only [skiarealaw02_ClockFirst.j0]
  rw [if_neg (by simp)]
  split
  · exact first_j1 l u true (.inl rfl) k
  · refine first_j1 l u _ ?_ k
    by_cases h : u > 19395200
    · exact .inl (by simp [h])
    · exact .inr ⟨by omega, by omega⟩
theorem first_ev (l : List S42) (u : Int) {b : Bool} (hb : b = false) : Ev (fun k => skiarealaw02_ClockFirst.j0 k l u b) true := by
  subst hb
  refine ⟨2, fun k hk => ?_⟩
  obtain ⟨n, rfl⟩ : ∃ n, k = n + 2 := ⟨k - 2, by omega⟩
  exact first_j0 l u n
theorem ClockFirst : ∀ (l0 : List (S42)) (a1 : Int) (a2 : Int), (fun xs : List (S42) => xs.length ≤ maxLen ∧ ∀ x ∈ xs, wf42 x) l0 → I64 a1 → I64 a2 → ∃ k, skiarealaw02_ClockFirst.f k l0 a1 a2 = some true := by
  intro l t u _ _ _
  refine Ev.rounds (g := fun k => skiarealaw02_ClockFirst.f k l t u) ?_
  unfold skiarealaw02_ClockFirst.f
  refine Ev.bind alive_ev ?_
  simp only [if_true]
  by_cases hl : (l.length : Int) > 100
  · simp only [hl, if_true]
    exact Ev.now _
  · simp only [hl, if_false]
    refine Ev.bind (next_ev l t (by omega)) ?_
    obtain ⟨s1, s2⟩ := nextOf_spec l t
    generalize nextOf l t = o at s1 s2 ⊢
    by_cases h1 : o.2 = true
    · obtain ⟨a1, a2, a3, a4⟩ := s1 h1
      have n1 : ¬ o.1 < t := by omega
      have n2 : ¬ o.1 < 0 := by omega
      simp only [h1, n1, n2, if_true, if_false, in_eq, Option.bind_some, a3]
      by_cases h2 : u ≥ t
      · simp only [h2, if_true]
        by_cases h3 : u < o.1
        · simp only [h3, if_true]
          exact first_ev l u (a4 u h2 h3)
        · simp only [h3, if_false]
          exact first_ev l u rfl
      · simp only [h2, if_false]
        exact first_ev l u rfl
    · obtain ⟨a1, a2⟩ := s2 (by simpa using h1)
      simp only [h1, a1, if_true, in_eq, Option.bind_some]
      by_cases h2 : u ≥ t
      · simp only [h2, if_true]
        exact first_ev l u (a2 u h2)
      · simp only [h2, if_false]
        exact first_ev l u rfl

end Go.Proofs.Ytmijeihhioiliaa.Pure
