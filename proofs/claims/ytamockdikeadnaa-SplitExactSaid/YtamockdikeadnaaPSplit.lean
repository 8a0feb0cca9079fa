/- Split, by the program and by the reference, told plainly: both are the same division. -/
import Derived.Test.YtamockdikeadnaaPNum
import Derived.Test.YtamockdikeadnaaPx7
import Derived.Test.YtamockdikeadnaaPx10
namespace Go.Proofs.Ytamockdikeadnaa.Px
open Go.RowKit Go.Proofs.YtamockdikeadnaaW.PrintWords
theorem rd_get {xs : List Int} {i : Nat} {x : Int} (h : xs[i]? = some x) : rd xs (i : Int) = x := by
  unfold rd
  rw [Int.toNat_natCast, List.getD_eq_getElem?_getD, h, Option.getD_some]
theorem rd_getD (xs : List Int) (i : Nat) : rd xs (i : Int) = xs.getD i 0 := by
  unfold rd
  rw [Int.toNat_natCast]
/-- The sum as the machine forms it. -/
def wsum (l : List Int) : Int := l.foldl (fun s x => wrap64 (s + x)) 0
theorem sum1_is (l : List Int) (hl : l.length ≤ 9223372036854775807) : Ev (fun k => split_sum.f k l) (wsum l) := by
  unfold split_sum.f wsum
  refine ev_fold (fun k i s => split_sum.l0 k s l (l.length : Int) (i : Int)) (fun s x => wrap64 (s + x)) l (fun _ _ => True) _ (fun i s x hx _ => ?_) l.length 0 0 (by omega) trivial (fun _ => ?_)
  · refine ⟨trivial, Ev.step fun k => ?_⟩
    have hi := lt_get hx
    simp only [split_sum.l0]
    rw [if_pos (by omega), if_pos (by omega), if_pos (by omega), rd_get hx, wrap_up hi hl]
  · exact Ev.step (fun k => by simp only [split_sum.l0]; rw [if_neg (by omega)]; rfl) (Ev.now _)
theorem sum2_is (l : List Int) (hl : l.length ≤ 9223372036854775807) : Ev (fun k => skiarearef34_sum.f k l) (wsum l) := by
  unfold skiarearef34_sum.f wsum
  refine ev_fold (fun k i s => skiarearef34_sum.l0 k l s (i : Int)) (fun s x => wrap64 (s + x)) l (fun _ _ => True) _ (fun i s x hx _ => ?_) l.length 0 0 (by omega) trivial (fun _ => ?_)
  · refine ⟨trivial, Ev.step fun k => ?_⟩
    have hi := lt_get hx
    simp only [skiarearef34_sum.l0]
    rw [if_pos (by omega), if_pos (by omega), rd_get hx, wrap_up hi hl]
  · exact Ev.step (fun k => by simp only [skiarearef34_sum.l0]; rw [if_neg (by omega)]; rfl) (Ev.now _)
theorem wsum_from : ∀ (l : List Int) (s : Int), 0 ≤ s → (∀ x ∈ l, 0 ≤ x) → s + l.sum < 9223372036854775808 → l.foldl (fun s x => wrap64 (s + x)) s = s + l.sum
  | [], s, _, _, _ => by simp
  | x :: l, s, hs, hl, hb => by
    have h1 := sum_nonneg l (fun y hy => hl y (List.mem_cons_of_mem _ hy))
    have h2 := hl x List.mem_cons_self
    rw [List.sum_cons] at hb ⊢
    rw [List.foldl_cons, wr64 (s + x) (by omega) (by omega), wsum_from l (s + x) (by omega) (fun y hy => hl y (List.mem_cons_of_mem _ hy)) (by omega)]
    omega
theorem wsum_is (l : List Int) (hl : ∀ x ∈ l, 0 ≤ x) (hb : l.sum < 9223372036854775808) : wsum l = l.sum := by
  unfold wsum
  rw [wsum_from l 0 (Int.le_refl _) hl (by omega), Int.zero_add]
/-- A weight that is none. -/
def odd (w : Int) : Bool := decide (w < 0 ∨ 1000000000 < w)
theorem odd_eq (w : Int) : split_Split.odd w = odd w := by
  unfold split_Split.odd split_Split_1.f odd
  by_cases h : w < 0
  · simp [h]
  · simp [h]
theorem even_all {l : List Int} (h : ¬ l.any odd = true) : ∀ x ∈ l, 0 ≤ x ∧ x ≤ 1000000000 := by
  intro x hx
  rw [List.any_eq_true] at h
  have : ¬ odd x = true := fun hh => h ⟨x, hx, hh⟩
  unfold odd at this
  simp at this
  exact this
theorem weights_sum {l : List Int} (h : ∀ x ∈ l, 0 ≤ x ∧ x ≤ 1000000000) (hn : l.length ≤ 64) : 0 ≤ l.sum ∧ l.sum ≤ 64000000000 := by
  have h1 := sum_nonneg l (fun x hx => (h x hx).1)
  have h2 := sum_le 1000000000 l (fun x hx => (h x hx).2)
  omega
theorem weights_wsum {l : List Int} (h : ∀ x ∈ l, 0 ≤ x ∧ x ≤ 1000000000) (hn : l.length ≤ 64) : wsum l = l.sum := by
  have := weights_sum h hn
  exact wsum_is l (fun x hx => (h x hx).1) (by omega)
/-- What Split answers. -/
def split (a : Int) (l : List Int) : List Int × Int :=
  if 64 < l.length then ([], 4) else if ¬ (0 ≤ a ∧ a ≤ 1099511627776) then ([], 2) else if l.any odd = true then ([], 2) else if l.sum = 0 then ([], 1) else (division a l, 0)
theorem split_sound {a : Int} {l : List Int} (h1 : ¬ 64 < l.length) (h2 : 0 ≤ a ∧ a ≤ 1099511627776) (h3 : ¬ l.any odd = true) (h4 : ¬ l.sum = 0) : Sound a l :=
  ⟨h2.1, h2.2, even_all h3, by have := (weights_sum (even_all h3) (by omega)).1; omega, by omega⟩
theorem Sound.s1 {a : Int} {l : List Int} (h : Sound a l) : l.sum ≤ 64000000000 := (weights_sum h.w h.n).2
theorem Sound.le {a : Int} {l : List Int} (h : Sound a l) {w : Int} (hw : w ∈ l) : w ≤ l.sum := mem_le_sum l (fun x hx => (h.w x hx).1) w hw
theorem Sound.exact_is {a : Int} {l : List Int} (h : Sound a l) {w : Int} (hw : w ∈ l) : Ev (fun k => split_exact.f k a w l.sum) (a * w / l.sum, a * w % l.sum) :=
  Px.exact_is a w l.sum h.a0 h.a1 (h.w w hw).1 (h.le hw) h.s h.s1
theorem Sound.quotient_is {a : Int} {l : List Int} (h : Sound a l) {w : Int} (hw : w ∈ l) : Ev (fun k => skiarearef34_Quotient.f k a w l.sum) (a * w / l.sum, a * w % l.sum) :=
  ⟨32, Px.quotient_is a w l.sum h.a0 h.a1 (h.w w hw).1 (h.w w hw).2 (h.le hw) h.s h.s1⟩
theorem mapO_ev {α β : Type} (f : Nat → α → Option β) (g : α → β) : ∀ l : List α, (∀ x ∈ l, Ev (fun k => f k x) (g x)) → Ev (fun k => mapO (f k) l) (l.map g)
  | [], _ => Ev.now _
  | x :: l, h => by
    simp only [mapO, List.map_cons]
    exact Ev.bind (h x List.mem_cons_self) (Ev.bind (mapO_ev f g l (fun y hy => h y (List.mem_cons_of_mem _ hy))) (Ev.now _))
theorem Sound.qsum {a : Int} {l : List Int} (h : Sound a l) : wsum (quots a l) = (quots a l).sum := by
  refine wsum_is _ (fun x hx => (h.quot x hx).1) ?_
  have := h.left
  have := h.a1
  omega
theorem split_is (a : Int) (l : List Int) (hl : l.length ≤ 1000) : Ev (fun k => split_Split.f k a l) (split a l) := by
  unfold split_Split.f split
  by_cases h1 : 64 < l.length
  · simp only [if_pos h1, if_pos (show (64 : Int) < (l.length : Int) by omega)]
    exact Ev.now _
  simp only [if_neg h1, if_neg (show ¬ (64 : Int) < (l.length : Int) by omega)]
  by_cases h2 : ¬ (0 ≤ a ∧ a ≤ 1099511627776)
  · simp only [if_neg h2, if_pos h2]
    exact Ev.now _
  replace h2 := Decidable.of_not_not h2
  simp only [if_pos h2, if_neg (show ¬¬(0 ≤ a ∧ a ≤ 1099511627776) from fun hh => hh h2)]
  have ho : l.any split_Split.odd = l.any odd := by congr 1; exact funext odd_eq
  rw [ho]
  by_cases h3 : l.any odd = true
  · simp only [if_pos h3]
    exact Ev.now _
  simp only [if_neg h3]
  refine Ev.bind (sum1_is l (by omega)) ?_
  rw [weights_wsum (even_all h3) (by omega)]
  by_cases h4 : l.sum = 0
  · simp only [if_pos h4]
    exact Ev.now _
  simp only [if_neg h4]
  have hS := split_sound h1 h2 h3 h4
  refine Ev.bind (mapO_ev (fun k w => split_exact.f k a w l.sum) (fun w => (a * w / l.sum, a * w % l.sum)) l (fun w hw => hS.exact_is hw)) ?_
  have e1 : (l.map (fun w => (a * w / l.sum, a * w % l.sum))).map (·.1) = quots a l := by simp [quots]
  have e2 : (l.map (fun w => (a * w / l.sum, a * w % l.sum))).map (·.2) = rests a l := by simp [rests]
  rw [e1, e2]
  refine Ev.bind (sum1_is _ (by rw [quots_len]; omega)) ?_
  rw [hS.qsum]
  have hd := hS.left
  have ha := hS.a1
  rw [wr64 _ hd.1 (by omega), if_pos ⟨hd.1, Int.le_of_lt hd.2⟩]
  exact Ev.now _
end Go.Proofs.Ytamockdikeadnaa.Px
