/- Split, by the program and by the reference, told plainly: both are the same division. -/
import Derived.Test.YtamockdikeadnaaPNum
import Derived.Test.YtamockdikeadnaaPx7
import Derived.Test.YtamockdikeadnaaPx11
namespace Go.Proofs.Ytamockdikeadnaa.Px
open Go.RowKit Go.Proofs.YtamockdikeadnaaW.PrintWords
theorem rd_get {xs : List Int} {i : Nat} {x : Int} (h : xs[i]? = some x) : rd xs (i : Int) = x := by
  unfold rd
  rw [Int.toNat_natCast, List.getD_eq_getElem?_getD, h, Option.getD_some]
theorem rd_getD (xs : List Int) (i : Nat) : rd xs (i : Int) = xs.getD i 0 := by
  unfold rd
  rw [Int.toNat_natCast]
/-- The sum as the machine forms it. -/
def wsum (l : List Int) : Int := l.foldl (fun s x => wrap64 (s + x)) 0
theorem sum1_is (l : List Int) (hl : l.length ≤ 9223372036854775807) : Ev (fun k => split_sum.f k l) (wsum l) := by
  unfold split_sum.f wsum
  refine ev_fold (fun k i s => split_sum.l0 k s l (l.length : Int) (i : Int)) (fun s x => wrap64 (s + x)) l (fun _ _ => True) _ (fun i s x hx _ => ?_) l.length 0 0 (by omega) trivial (fun _ => ?_)
  · refine ⟨trivial, Ev.step fun k => ?_⟩
    have hi := lt_get hx
    simp only [split_sum.l0]
    rw [if_pos (by omega), if_pos (by omega), if_pos (by omega), rd_get hx, wrap_up hi hl]
  · exact Ev.step (fun k => by simp only [split_sum.l0]; rw [if_neg (by omega)]; rfl) (Ev.now _)
theorem sum2_is (l : List Int) (hl : l.length ≤ 9223372036854775807) : Ev (fun k => skiarearef34_sum.f k l) (wsum l) := by
  unfold skiarearef34_sum.f wsum
  refine ev_fold (fun k i s => skiarearef34_sum.l0 k l s (i : Int)) (fun s x => wrap64 (s + x)) l (fun _ _ => True) _ (fun i s x hx _ => ?_) l.length 0 0 (by omega) trivial (fun _ => ?_)
  · refine ⟨trivial, Ev.step fun k => ?_⟩
    have hi := lt_get hx
    simp only [skiarearef34_sum.l0]
    rw [if_pos (by omega), if_pos (by omega), rd_get hx, wrap_up hi hl]
  · exact Ev.step (fun k => by simp only [skiarearef34_sum.l0]; rw [if_neg (by omega)]; rfl) (Ev.now _)
theorem wsum_from : ∀ (l : List Int) (s : Int), 0 ≤ s → (∀ x ∈ l, 0 ≤ x) → s + l.sum < 9223372036854775808 → l.foldl (fun s x => wrap64 (s + x)) s = s + l.sum
  | [], s, _, _, _ => by simp
  | x :: l, s, hs, hl, hb => by
    have h1 := sum_nonneg l (fun y hy => hl y (List.mem_cons_of_mem _ hy))
    have h2 := hl x List.mem_cons_self
    rw [List.sum_cons] at hb ⊢
    rw [List.foldl_cons, wr64 (s + x) (by omega) (by omega), wsum_from l (s + x) (by omega) (fun y hy => hl y (List.mem_cons_of_mem _ hy)) (by omega)]
    omega
theorem wsum_is (l : List Int) (hl : ∀ x ∈ l, 0 ≤ x) (hb : l.sum < 9223372036854775808) : wsum l = l.sum := by
  unfold wsum
  rw [wsum_from l 0 (Int.le_refl _) hl (by omega), Int.zero_add]
/-- A weight that is none. -/
def odd (w : Int) : Bool := decide (w < 0 ∨ 1000000000 < w)
theorem odd_eq (w : Int) : split_Split.odd w = odd w := by
  unfold split_Split.odd split_Split_1.f odd
  by_cases h : w < 0
  · simp [h]
  · simp [h]
theorem even_all {l : List Int} (h : ¬ l.any odd = true) : ∀ x ∈ l, 0 ≤ x ∧ x ≤ 1000000000 := by
  intro x hx
  rw [List.any_eq_true] at h
  have : ¬ odd x = true := fun hh => h ⟨x, hx, hh⟩
  unfold odd at this
  simp at this
  exact this
theorem weights_sum {l : List Int} (h : ∀ x ∈ l, 0 ≤ x ∧ x ≤ 1000000000) (hn : l.length ≤ 64) : 0 ≤ l.sum ∧ l.sum ≤ 64000000000 := by
  have h1 := sum_nonneg l (fun x hx => (h x hx).1)
  have h2 := sum_le 1000000000 l (fun x hx => (h x hx).2)
  omega
theorem weights_wsum {l : List Int} (h : ∀ x ∈ l, 0 ≤ x ∧ x ≤ 1000000000) (hn : l.length ≤ 64) : wsum l = l.sum := by
  have := weights_sum h hn
  exact wsum_is l (fun x hx => (h x hx).1) (by omega)
/-- What Split answers. -/
def split (a : Int) (l : List Int) : List Int × Int :=
  if 64 < l.length then ([], 4) else if ¬ (0 ≤ a ∧ a ≤ 1099511627776) then ([], 2) else if l.any odd = true then ([], 2) else if l.sum = 0 then ([], 1) else (division a l, 0)
theorem split_sound {a : Int} {l : List Int} (h1 : ¬ 64 < l.length) (h2 : 0 ≤ a ∧ a ≤ 1099511627776) (h3 : ¬ l.any odd = true) (h4 : ¬ l.sum = 0) : Sound a l :=
  ⟨h2.1, h2.2, even_all h3, by have := (weights_sum (even_all h3) (by omega)).1; omega, by omega⟩
theorem Sound.s1 {a : Int} {l : List Int} (h : Sound a l) : l.sum ≤ 64000000000 := (weights_sum h.w h.n).2
theorem Sound.le {a : Int} {l : List Int} (h : Sound a l) {w : Int} (hw : w ∈ l) : w ≤ l.sum := mem_le_sum l (fun x hx => (h.w x hx).1) w hw
theorem Sound.exact_is {a : Int} {l : List Int} (h : Sound a l) {w : Int} (hw : w ∈ l) : Ev (fun k => split_exact.f k a w l.sum) (a * w / l.sum, a * w % l.sum) :=
  Px.exact_is a w l.sum h.a0 h.a1 (h.w w hw).1 (h.le hw) h.s h.s1
theorem Sound.quotient_is {a : Int} {l : List Int} (h : Sound a l) {w : Int} (hw : w ∈ l) : Ev (fun k => skiarearef34_Quotient.f k a w l.sum) (a * w / l.sum, a * w % l.sum) :=
  ⟨32, Px.quotient_is a w l.sum h.a0 h.a1 (h.w w hw).1 (h.w w hw).2 (h.le hw) h.s h.s1⟩
theorem mapO_ev {α β : Type} (f : Nat → α → Option β) (g : α → β) : ∀ l : List α, (∀ x ∈ l, Ev (fun k => f k x) (g x)) → Ev (fun k => mapO (f k) l) (l.map g)
  | [], _ => Ev.now _
  | x :: l, h => by
    simp only [mapO, List.map_cons]
    exact Ev.bind (h x List.mem_cons_self) (Ev.bind (mapO_ev f g l (fun y hy => h y (List.mem_cons_of_mem _ hy))) (Ev.now _))
theorem Sound.qsum {a : Int} {l : List Int} (h : Sound a l) : wsum (quots a l) = (quots a l).sum := by
  refine wsum_is _ (fun x hx => (h.quot x hx).1) ?_
  have := h.left
  have := h.a1
  omega
theorem split_is (a : Int) (l : List Int) (hl : l.length ≤ 1000) : Ev (fun k => split_Split.f k a l) (split a l) := by
  unfold split_Split.f split
  by_cases h1 : 64 < l.length
  · simp only [if_pos h1, if_pos (show (64 : Int) < (l.length : Int) by omega)]
    exact Ev.now _
  simp only [if_neg h1, if_neg (show ¬ (64 : Int) < (l.length : Int) by omega)]
  by_cases h2 : ¬ (0 ≤ a ∧ a ≤ 1099511627776)
  · simp only [if_neg h2, if_pos h2]
    exact Ev.now _
  replace h2 := Decidable.of_not_not h2
  simp only [if_pos h2, if_neg (show ¬¬(0 ≤ a ∧ a ≤ 1099511627776) from fun hh => hh h2)]
  have ho : l.any split_Split.odd = l.any odd := by congr 1; exact funext odd_eq
  rw [ho]
  by_cases h3 : l.any odd = true
  · simp only [if_pos h3]
    exact Ev.now _
  simp only [if_neg h3]
  refine Ev.bind (sum1_is l (by omega)) ?_
  rw [weights_wsum (even_all h3) (by omega)]
  by_cases h4 : l.sum = 0
  · simp only [if_pos h4]
    exact Ev.now _
  simp only [if_neg h4]
  have hS := split_sound h1 h2 h3 h4
  refine Ev.bind (mapO_ev (fun k w => split_exact.f k a w l.sum) (fun w => (a * w / l.sum, a * w % l.sum)) l (fun w hw => hS.exact_is hw)) ?_
  have e1 : (l.map (fun w => (a * w / l.sum, a * w % l.sum))).map (·.1) = quots a l := by simp [quots]
  have e2 : (l.map (fun w => (a * w / l.sum, a * w % l.sum))).map (·.2) = rests a l := by simp [rests]
  rw [e1, e2]
  refine Ev.bind (sum1_is _ (by rw [quots_len]; omega)) ?_
  rw [hS.qsum]
  have hd := hS.left
  have ha := hS.a1
  rw [wr64 _ hd.1 (by omega), if_pos ⟨hd.1, Int.le_of_lt hd.2⟩]
  exact Ev.now _
theorem l3_is (a : Int) (p r : List Int) (res : List Int × Int) (hpr : p.length = r.length) (hn : r.length ≤ 64)
    (h : ∀ b : Nat, b < r.length → (∀ i, i < r.length → i ≠ b → Before r b i) → Ev (fun k => skiarearef34_Split.l2 k a (p.set b (wrap64 (p.getD b 0 + 1))) (r.set b (-1))) res) :
    ∀ d i best : Nat, i + d = r.length → best < i → (∀ k, k < i → k ≠ best → Before r best k) → Ev (fun k => skiarearef34_Split.l3 k a p r (best : Int) (i : Int)) res
  | 0, i, best, hi, hb, hm => by
    refine Ev.step (fun k => by
      simp only [skiarearef34_Split.l3]
      rw [if_neg (by omega), if_pos (by omega), if_pos (by omega), if_pos (by omega), Int.toNat_natCast, rd_getD]) (h best (by omega) (fun k hk hne => hm k (by omega) hne))
  | d + 1, i, best, hi, hb, hm => by
    by_cases hgt : r.getD i 0 > r.getD best 0
    · refine Ev.step (fun k => by
        simp only [skiarearef34_Split.l3]
        rw [if_pos (by omega), if_pos (by omega), if_pos (by omega), if_pos (by omega), rd_getD, rd_getD, if_pos hgt, wrap_up (show i < 64 by omega) (by omega)]) (l3_is a p r res hpr hn h d (i + 1) i (by omega) (by omega) (fun k hk hne => ?_))
      have : k < i := by omega
      by_cases hkb : k = best
      · subst hkb
        exact .inl hgt
      · have := hm k this hkb
        unfold Before at this ⊢
        omega
    · refine Ev.step (fun k => by
        simp only [skiarearef34_Split.l3]
        rw [if_pos (by omega), if_pos (by omega), if_pos (by omega), if_pos (by omega), rd_getD, rd_getD, if_neg hgt, wrap_up (show i < 64 by omega) (by omega)]) (l3_is a p r res hpr hn h d (i + 1) best (by omega) (by omega) (fun k hk hne => ?_))
      by_cases hki : k = i
      · subst hki
        unfold Before
        omega
      · exact hm k (by omega) hne
theorem Sound.l2_is {a : Int} {l : List Int} (h : Sound a l) : ∀ m j : Nat, j + m = (picks a l).length → Ev (fun k => skiarearef34_Split.l2 k a (((orderOf (rests a l)).take j).foldl bmp (quots a l)) (marks (rests a l) ((orderOf (rests a l)).take j))) (division a l, 0) := by
  have hpl := h.picks_len
  have hd := h.left
  have ha1 := h.a1
  have hn := h.n
  have ho := (orderOf_spec (rests a l)).1
  have hos := (orderOf_spec (rests a l)).2
  have hol : (orderOf (rests a l)).length = l.length := by rw [ho.length_eq, List.length_range, rests_len]
  have hnd : (orderOf (rests a l)).Nodup := ho.nodup_iff.2 List.nodup_range
  have hlt : ∀ i ∈ orderOf (rests a l), i < l.length := fun i hi => by
    have := List.mem_range.1 (ho.mem_iff.1 hi)
    rwa [rests_len] at this
  have hsum : ∀ j : Nat, j ≤ l.length → (((orderOf (rests a l)).take j).foldl bmp (quots a l)).sum = (quots a l).sum + j := by
    intro j hj
    rw [bmps_sum _ _ (hnd.sublist (List.take_sublist _ _)) (fun i hi => by rw [quots_len]; exact hlt i (List.mem_of_mem_take hi)) h.quot_b, List.length_take, hol, Nat.min_eq_left hj]
  have hws : ∀ j : Nat, j ≤ l.length → wsum (((orderOf (rests a l)).take j).foldl bmp (quots a l)) = (quots a l).sum + j := by
    intro j hj
    rw [wsum_is _ ?_ (by rw [hsum j hj]; omega), hsum j hj]
    intro x hx
    obtain ⟨i, hi, e⟩ := List.mem_iff_getElem.1 hx
    have hil : i < l.length := by rw [bmps_len, quots_len] at hi; exact hi
    have hq := h.quot_b _ (getD_mem (xs := quots a l) (i := i) (by rw [quots_len]; exact hil))
    have e' : (((orderOf (rests a l)).take j).foldl bmp (quots a l)).getD i 0 = x := by rw [List.getD_eq_getElem?_getD, List.getElem?_eq_getElem hi, e, Option.getD_some]
    by_cases hin : i ∈ (orderOf (rests a l)).take j
    · rw [bmps_in i _ _ (hnd.sublist (List.take_sublist _ _)) (by rw [quots_len]; exact hil) hin, wr64 _ (by omega) (by omega)] at e'
      omega
    · rw [bmps_out i _ _ hin] at e'
      omega
  intro m
  induction m with
  | zero =>
    intro j hj
    refine Ev.step (f := fun k => (skiarearef34_sum.f k (((orderOf (rests a l)).take j).foldl bmp (quots a l))).bind fun t => if t < a then skiarearef34_Split.l3 k a (((orderOf (rests a l)).take j).foldl bmp (quots a l)) (marks (rests a l) ((orderOf (rests a l)).take j)) 0 1 else some (((orderOf (rests a l)).take j).foldl bmp (quots a l), 0)) (fun k => by simp only [skiarearef34_Split.l2]) ?_
    refine Ev.bind (sum2_is _ (by rw [bmps_len, quots_len]; omega)) ?_
    rw [hws j (by omega)]
    simp only [if_neg (show ¬ (quots a l).sum + (j : Int) < a by omega)]
    have : (orderOf (rests a l)).take j = picks a l := by
      unfold picks
      congr 1
      omega
    rw [this]
    exact Ev.now _
  | succ m ih =>
    intro j hj
    refine Ev.step (f := fun k => (skiarearef34_sum.f k (((orderOf (rests a l)).take j).foldl bmp (quots a l))).bind fun t => if t < a then skiarearef34_Split.l3 k a (((orderOf (rests a l)).take j).foldl bmp (quots a l)) (marks (rests a l) ((orderOf (rests a l)).take j)) 0 1 else some (((orderOf (rests a l)).take j).foldl bmp (quots a l), 0)) (fun k => by simp only [skiarearef34_Split.l2]) ?_
    refine Ev.bind (sum2_is _ (by rw [bmps_len, quots_len]; omega)) ?_
    rw [hws j (by omega)]
    simp only [if_pos (show (quots a l).sum + (j : Int) < a by omega)]
    have hjl : j < (orderOf (rests a l)).length := by omega
    have hml : (marks (rests a l) ((orderOf (rests a l)).take j)).length = l.length := by rw [marks_len, rests_len]
    refine l3_is a _ _ _ (by rw [bmps_len, quots_len, hml]) (by rw [hml]; exact hn) (fun b hb hbest => ?_) (l.length - 1) 1 0 (by rw [hml]; omega) (by omega) (fun k hk hne => absurd (by omega) hne)
    rw [hml] at hb hbest
    have e : b = (orderOf (rests a l))[j] := by
      have hnb := nextBest (rests a l) (fun r hr => (h.rest r hr).1) _ ho hos j hjl
      rw [rests_len] at hnb
      refine bestUnique (marks (rests a l) ((orderOf (rests a l)).take j)) _ _ (by rw [hml]; exact hb) (by rw [hml]; exact hlt _ (List.getElem_mem hjl)) ?_ ?_
      · rw [hml]; exact hbest
      · rw [hml]; exact hnb
    have e3 : (orderOf (rests a l)).take (j + 1) = (orderOf (rests a l)).take j ++ [(orderOf (rests a l))[j]] := (List.take_append_getElem hjl).symm
    have := ih (j + 1) (by omega)
    rw [e3, List.foldl_append] at this
    unfold marks at this ⊢
    rw [List.foldl_append] at this
    rw [e]
    exact this
theorem Sound.l1_is {a : Int} {l : List Int} (h : Sound a l) : Ev (fun k => skiarearef34_Split.l1 k a l l.sum [] [] 0) (division a l, 0) := by
  have hn := h.n
  have hf : ∀ (l' : List Int) (s : List Int × List Int), l'.foldl (fun (s : List Int × List Int) w => (s.1 ++ [a * w / l.sum], s.2 ++ [a * w % l.sum])) s = (s.1 ++ l'.map (fun w => a * w / l.sum), s.2 ++ l'.map (fun w => a * w % l.sum)) := by
    intro l'
    induction l' with
    | nil => intro s; simp
    | cons w l' ih => intro s; rw [List.foldl_cons, ih]; simp
  refine ev_fold (fun k i (s : List Int × List Int) => skiarearef34_Split.l1 k a l l.sum s.1 s.2 (i : Int)) (fun s w => (s.1 ++ [a * w / l.sum], s.2 ++ [a * w % l.sum])) l (fun i s => s.1.length ≤ i ∧ s.2.length ≤ i) _ (fun i s w hw hP => ?_) l.length 0 ([], []) (by omega) (by simp) (fun _ => ?_)
  · have hi := lt_get hw
    refine ⟨by simp; omega, fun hE => Ev.step (f := fun k => (skiarearef34_Quotient.f k a w l.sum).bind fun bt => skiarearef34_Split.l1 k a l l.sum (s.1 ++ [bt.1]) (s.2 ++ [bt.2]) ((i + 1 : Nat) : Int)) (fun k => ?_) (Ev.bind (h.quotient_is (List.mem_of_getElem? hw)) hE)⟩
    simp only [skiarearef34_Split.l1]
    rw [if_pos (by omega), if_pos (by omega), rd_get hw, wrap_up (show i < 64 by omega) (by omega)]
    simp only [if_pos (show s.1.length < 17592186044416 by omega), if_pos (show s.2.length < 17592186044416 by omega)]
  · rw [List.drop_zero, hf]
    refine Ev.step (fun k => by simp only [skiarearef34_Split.l1]; rw [if_neg (by omega)]) ?_
    have := h.l2_is (picks a l).length 0 (by omega)
    rw [List.take_zero] at this
    exact this
theorem ref_is (a : Int) (l : List Int) (hl : l.length ≤ 1000) : Ev (fun k => skiarearef34_Split.f k a l) (split a l) := by
  unfold skiarearef34_Split.f split
  by_cases h1 : 64 < l.length
  · simp only [if_pos h1, if_pos (show (l.length : Int) > 64 by omega)]
    exact Ev.now _
  simp only [if_neg h1, if_neg (show ¬ (l.length : Int) > 64 by omega)]
  by_cases h2 : ¬ (0 ≤ a ∧ a ≤ 1099511627776)
  · simp only [if_pos h2]
    by_cases h : a < 0
    · simp only [if_pos h]
      exact Ev.step (fun k => by simp only [skiarearef34_Split.j0]; rw [if_pos trivial]) (Ev.now _)
    · simp only [if_neg h]
      exact Ev.step (fun k => by simp only [skiarearef34_Split.j0]; rw [if_pos (by simp; omega)]) (Ev.now _)
  simp only [if_neg h2]
  replace h2 := Decidable.of_not_not h2
  simp only [if_neg (show ¬ a < 0 by omega)]
  refine Ev.step (f := fun k => skiarearef34_Split.l0 k a l 0) (fun k => by simp only [skiarearef34_Split.j0]; rw [if_neg (by simp; omega)]) ?_
  have hl0 : ∀ k i, i + (l.length - i) = l.length → skiarearef34_Split.l0 (k + (l.length - i) + 1) a l (i : Int) = if (l.drop i).any odd then some ([], 2) else (skiarearef34_sum.f k l).bind fun t => if t = 0 then some ([], 1) else skiarearef34_Split.l1 k a l t [] [] 0 := by
    intro k i hi
    refine any_loop (fun k i => skiarearef34_Split.l0 k a l (i : Int)) (fun k => (skiarearef34_sum.f k l).bind fun t => if t = 0 then some ([], 1) else skiarearef34_Split.l1 k a l t [] [] 0) odd _ l (fun k i x hx hp => ?_) (fun k i x hx hp => ?_) (fun k => ?_) _ i k hi
    · have hi := lt_get hx
      simp only [skiarearef34_Split.l0]
      rw [if_pos (by omega), if_pos (by omega), rd_get hx]
      unfold odd at hp
      by_cases h : x < 0
      · rw [if_pos h]
      · rw [if_neg h, if_pos (by simp at hp; omega)]
    · have hi := lt_get hx
      simp only [skiarearef34_Split.l0]
      unfold odd at hp
      simp at hp
      rw [if_pos (by omega), if_pos (by omega), rd_get hx, if_neg (by omega), if_neg (by omega), wrap_up (show i < 64 by omega) (by omega)]
    · simp only [skiarearef34_Split.l0]
      rw [if_neg (by omega)]
  by_cases h3 : l.any odd = true
  · simp only [if_pos h3]
    refine ⟨l.length + 1, fun k hk => ?_⟩
    obtain ⟨m, rfl⟩ : ∃ m, k = m + l.length + 1 := ⟨k - l.length - 1, by omega⟩
    have := hl0 m 0 (by omega)
    rw [Nat.sub_zero] at this
    rw [List.drop_zero, if_pos h3] at this
    exact this
  simp only [if_neg h3]
  have hE : Ev (fun k => (skiarearef34_sum.f k l).bind fun t => if t = 0 then some (([] : List Int), (1 : Int)) else skiarearef34_Split.l1 k a l t [] [] 0) (if l.sum = 0 then ([], 1) else (division a l, 0)) := by
    refine Ev.bind (sum2_is l (by omega)) ?_
    rw [weights_wsum (even_all h3) (by omega)]
    by_cases h4 : l.sum = 0
    · simp only [if_pos h4]
      exact Ev.now _
    · simp only [if_neg h4]
      exact (split_sound h1 h2 h3 h4).l1_is
  obtain ⟨K, hK⟩ := hE
  refine ⟨K + l.length + 1, fun k hk => ?_⟩
  obtain ⟨m, rfl⟩ : ∃ m, k = m + l.length + 1 := ⟨k - l.length - 1, by omega⟩
  have := hl0 m 0 (by omega)
  rw [Nat.sub_zero] at this
  rw [List.drop_zero, if_neg h3] at this
  exact this.trans (hK m (by omega))
end Go.Proofs.Ytamockdikeadnaa.Px
