/- Same and Fair, by the program and by the reference, told plainly. -/
import Derived.Test.YtamockdikeadnaaPSplit
import Derived.Test.YtamockdikeadnaaPx8
namespace Go.Proofs.Ytamockdikeadnaa.Px
open Go.RowKit Go.Proofs.YtamockdikeadnaaW.PrintWords
/-- Whether parts are a division, from the i-th on. -/
def fairs (a : Int) (l p : List Int) : Nat → Nat → Bool
  | 0, _ => wsum p == a
  | d + 1, i => if p.getD i 0 = a * l.getD i 0 / l.sum then fairs a l p d (i + 1) else if a * l.getD i 0 % l.sum = 0 then false else if p.getD i 0 = wrap64 (a * l.getD i 0 / l.sum + 1) then fairs a l p d (i + 1) else false
def fair (a : Int) (l p : List Int) : Bool := if p.length = l.length then fairs a l p l.length 0 else false
theorem Sound.wsum {a : Int} {l : List Int} (h : Sound a l) : Px.wsum l = l.sum := weights_wsum h.w h.n
theorem Sound.fair1 {a : Int} {l : List Int} (h : Sound a l) (p : List Int) : Ev (fun k => split_Fair.f k a l p) (fair a l p) := by
  have hn := h.n
  unfold split_Fair.f fair
  by_cases hp : ¬ p.length = l.length
  · simp only [if_neg hp, if_neg (show ¬ (p.length : Int) = (l.length : Int) by omega)]
    exact Ev.now _
  replace hp := Decidable.of_not_not hp
  simp only [if_pos hp, if_pos (show (p.length : Int) = (l.length : Int) by omega)]
  refine Ev.bind (sum1_is l (by omega)) ?_
  rw [h.wsum]
  have : ∀ d i : Nat, i + d = l.length → Ev (fun k => split_Fair.l0 k a l p l.sum p (p.length : Int) (i : Int)) (fairs a l p d i) := by
    intro d
    induction d with
    | zero =>
      intro i hi
      exact Ev.step (fun k => by simp only [split_Fair.l0]; rw [if_neg (by omega)]) (Ev.bind (sum1_is p (by omega)) (Ev.now _))
    | succ d ih =>
      intro i hi
      refine Ev.step (fun k => by simp only [split_Fair.l0]; rw [if_pos (by omega), if_pos (by omega), if_pos (by omega), if_pos (by omega), rd_getD, rd_getD, wrap_up (show i < 64 by omega) (by omega)]) (Ev.bind (h.exact_is (getD_mem (by omega))) ?_)
      unfold fairs
      by_cases h1 : p.getD i 0 = a * l.getD i 0 / l.sum
      · simp only [if_pos h1]
        exact ih (i + 1) (by omega)
      by_cases h2 : a * l.getD i 0 % l.sum = 0
      · simp only [if_neg h1, if_pos h2]
        exact Ev.now _
      by_cases h3 : p.getD i 0 = wrap64 (a * l.getD i 0 / l.sum + 1)
      · simp only [if_neg h1, if_neg h2, if_pos h3]
        exact ih (i + 1) (by omega)
      · simp only [if_neg h1, if_neg h2, if_neg h3]
        exact Ev.now _
  exact this l.length 0 (by omega)
theorem Sound.fair_division {a : Int} {l : List Int} (h : Sound a l) : fair a l (division a l) = true := by
  unfold fair
  rw [if_pos (division_len a l)]
  have hb : ∀ x ∈ division a l, 0 ≤ x := by
    intro x hx
    obtain ⟨i, hi, e⟩ := List.mem_iff_getElem.1 hx
    have hil : i < l.length := by rw [division_len] at hi; exact hi
    have hq := h.quot_b _ (getD_mem (xs := quots a l) (i := i) (by rw [quots_len]; exact hil))
    have e' : (division a l).getD i 0 = x := by rw [List.getD_eq_getElem?_getD, List.getElem?_eq_getElem hi, e, Option.getD_some]
    rcases h.exact i with e1 | ⟨_, e1⟩ <;> omega
  have : ∀ d i : Nat, i + d = l.length → fairs a l (division a l) d i = true := by
    intro d
    induction d with
    | zero =>
      intro i _
      unfold fairs
      rw [wsum_is _ hb (by rw [h.sum]; have := h.a1; omega), h.sum]
      simp
    | succ d ih =>
      intro i hi
      unfold fairs
      have hq := quots_at a l i (by omega)
      have hr := rests_at a l i (by omega)
      have hqb := h.quot_b _ (getD_mem (xs := quots a l) (i := i) (by rw [quots_len]; omega))
      rcases h.exact i with e | ⟨e0, e⟩
      · rw [if_pos (by rw [e, hq])]
        exact ih (i + 1) (by omega)
      · rw [if_neg (by omega), if_neg (by omega), if_pos (by rw [← hq, wr64 _ (by omega) (by omega), e])]
        exact ih (i + 1) (by omega)
  exact this l.length 0 (by omega)
theorem split_ok {a : Int} {l : List Int} (h : (split a l).2 = 0) : Sound a l ∧ split a l = (division a l, 0) := by
  unfold split at h ⊢
  by_cases h1 : 64 < l.length
  · rw [if_pos h1] at h; cases h
  by_cases h2 : ¬ (0 ≤ a ∧ a ≤ 1099511627776)
  · rw [if_neg h1, if_pos h2] at h; cases h
  by_cases h3 : l.any odd = true
  · rw [if_neg h1, if_neg h2, if_pos h3] at h; cases h
  by_cases h4 : l.sum = 0
  · rw [if_neg h1, if_neg h2, if_neg h3, if_pos h4] at h; cases h
  · exact ⟨split_sound h1 (Decidable.of_not_not h2) h3 h4, by rw [if_neg h1, if_neg h2, if_neg h3, if_neg h4]⟩
theorem split_of_sound {a : Int} {l : List Int} (h : Sound a l) : split a l = (division a l, 0) := by
  have hn := h.n
  have hs := h.s
  unfold split
  rw [if_neg (by omega), if_neg (fun hh => hh ⟨h.a0, h.a1⟩), if_neg, if_neg (by omega)]
  rw [List.any_eq_true]
  rintro ⟨x, hx, ho⟩
  have := h.w x hx
  unfold odd at ho
  simp at ho
  omega
theorem split_not_ok {a : Int} {l : List Int} (h : ¬ (split a l).2 = 0) : (split a l).1 = [] := by
  unfold split at h ⊢
  by_cases h1 : 64 < l.length
  · rw [if_pos h1]
  by_cases h2 : ¬ (0 ≤ a ∧ a ≤ 1099511627776)
  · rw [if_neg h1, if_pos h2]
  by_cases h3 : l.any odd = true
  · rw [if_neg h1, if_neg h2, if_pos h3]
  by_cases h4 : l.sum = 0
  · rw [if_neg h1, if_neg h2, if_neg h3, if_pos h4]
  · rw [if_neg h1, if_neg h2, if_neg h3, if_neg h4] at h
    exact absurd rfl h
theorem split_len (a : Int) (l : List Int) : (split a l).1.length ≤ 64 := by
  by_cases h : (split a l).2 = 0
  · obtain ⟨h1, h2⟩ := split_ok h
    rw [h2]
    show (division a l).length ≤ 64
    rw [division_len]
    exact h1.n
  · rw [split_not_ok h]
    simp
end Go.Proofs.Ytamockdikeadnaa.Px
