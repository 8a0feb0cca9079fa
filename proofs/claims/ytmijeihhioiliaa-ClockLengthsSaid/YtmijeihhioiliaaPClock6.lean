/- The length of a set of times: the sum of the intervals' lengths is the number of times. -/
import Derived.Test.YtmijeihhioiliaaPClock4
import Derived.Test.YtmijeihhioiliaaPClock5
import Derived.Test.YtmijeihhioiliaaPx21
namespace Go.Proofs.Ytmijeihhioiliaa.Pure
open Go.RowKit Go.Proofs.Ytmijeihhioiliaa.Px Go.Proofs.YtmijeihhioiliaaW.PrintWords

/-- How many of 0, .., n - 1 meet p. -/
def cnt (p : Int → Bool) : Nat → Int
  | 0 => 0
  | n + 1 => cnt p n + if p (n : Int) = true then 1 else 0
theorem cnt_congr {p q : Int → Bool} : ∀ n : Nat, (∀ t : Int, 0 ≤ t → t < (n : Int) → p t = q t) → cnt p n = cnt q n
  | 0, _ => rfl
  | n + 1, h => by rw [cnt, cnt, cnt_congr n (fun t h0 h1 => h t h0 (by omega)), h n (by omega) (by omega)]
theorem cnt_or (p q : Int → Bool) : ∀ n : Nat, cnt p n + cnt q n = cnt (fun t => p t || q t) n + cnt (fun t => p t && q t) n
  | 0 => rfl
  | n + 1 => by
    have ih := cnt_or p q n
    rw [cnt, cnt, cnt, cnt]
    cases hp : p (n : Int) <;> cases hq : q (n : Int) <;> simp <;> omega
theorem cnt_le {p q : Int → Bool} : ∀ n : Nat, (∀ t : Int, 0 ≤ t → p t = true → q t = true) → cnt p n ≤ cnt q n
  | 0, _ => Int.le_refl _
  | n + 1, h => by
    have ih := cnt_le n h
    rw [cnt, cnt]
    cases hp : p (n : Int) with
    | false =>
      have h1 : (if false = true then (1 : Int) else 0) = 0 := rfl
      rw [h1]
      split <;> omega
    | true => rw [h n (by omega) hp]; omega
theorem cnt_none : ∀ n : Nat, cnt (fun _ => false) n = 0
  | 0 => rfl
  | n + 1 => by rw [cnt, cnt_none n]; simp
theorem cnt_range (f g : Int) (h0 : 0 ≤ f) (hfg : f ≤ g) : ∀ n : Nat, cnt (fun t => decide (f ≤ t) && decide (t < g)) n = if (n : Int) ≤ f then 0 else if (n : Int) ≤ g then (n : Int) - f else g - f
  | 0 => by rw [if_pos (by omega)]; rfl
  | n + 1 => by
    rw [cnt, cnt_range f g h0 hfg n]
    by_cases h1 : f ≤ (n : Int)
    · by_cases h2 : (n : Int) < g
      · simp only [h1, h2, decide_true, Bool.and_true, if_true]
        repeat' split
        all_goals omega
      · simp only [h1, h2, decide_true, decide_false, Bool.and_false]
        repeat' split
        all_goals first | omega | contradiction
    · simp only [h1, decide_false, Bool.false_and]
      repeat' split
      all_goals first | omega | contradiction
def sumLen (m : List S39) : Int := m.foldl (fun s x => s + (x.f1 - x.f0)) 0
theorem sum_from : ∀ (m : List S39) (s : Int), m.foldl (fun s x => s + (x.f1 - x.f0)) s = s + sumLen m
  | [], s => by simp [sumLen]
  | x :: m, s => by
    unfold sumLen
    rw [List.foldl_cons, List.foldl_cons, sum_from m, sum_from m (0 + (x.f1 - x.f0))]
    omega
theorem sumLen_cons (x : S39) (m : List S39) : sumLen (x :: m) = (x.f1 - x.f0) + sumLen m := by
  have := sum_from (x :: m) 0
  rw [List.foldl_cons, sum_from] at this
  omega
def memB (m : List S39) (t : Int) : Bool := m.any (fun x => decide (x.f0 ≤ t) && decide (t < x.f1))
theorem memB_iff (m : List S39) (t : Int) : memB m t = true ↔ Mem t m := by
  unfold memB Mem
  rw [List.any_eq_true]
  simp
/-- The sum of the lengths is the number of times. -/
theorem sumLen_cnt {N : Nat} (hN : (N : Int) = 20000000) : ∀ {m : List S39}, Plain m → sumLen m = cnt (memB m) N
  | [], _ => by
    rw [(cnt_congr (p := memB []) (q := fun _ => false) N (fun t _ _ => rfl)).trans (cnt_none N)]
    rfl
  | x :: m, h => by
    have hx := h.1 x List.mem_cons_self
    unfold Ok39 at hx
    have ih := sumLen_cnt hN h.tail
    have h1 := cnt_or (fun t => decide (x.f0 ≤ t) && decide (t < x.f1)) (memB m) N
    have h2 := cnt_range x.f0 x.f1 hx.1 (by omega) N
    rw [if_neg (by omega), hN] at h2
    have h3 : cnt (fun t => (decide (x.f0 ≤ t) && decide (t < x.f1)) && memB m t) N = 0 := by
      rw [cnt_congr (q := fun _ => false) N (fun t _ _ => ?_), cnt_none]
      cases hm : memB m t with
      | false => simp
      | true =>
        have := h.after ((memB_iff m t).1 hm)
        have : ¬ t < x.f1 := by omega
        simp [this]
    rw [sumLen_cons, ih, cnt_congr (p := memB (x :: m)) (q := fun t => (decide (x.f0 ≤ t) && decide (t < x.f1)) || memB m t) N (fun t _ _ => rfl)]
    have h4 : (if (20000000 : Int) ≤ x.f1 then (20000000 : Int) - x.f0 else x.f1 - x.f0) = x.f1 - x.f0 := by split <;> omega
    rw [h4] at h2
    omega
theorem sum_bound : ∀ {m : List S39}, (∀ x ∈ m, Ok39 x) → 0 ≤ sumLen m ∧ sumLen m ≤ 20000000 * m.length
  | [], _ => by simp [sumLen]
  | x :: m, h => by
    have hx := h x List.mem_cons_self
    have ih := sum_bound (m := m) (fun y hy => h y (List.mem_cons_of_mem _ hy))
    unfold Ok39 at hx
    rw [sumLen_cons, List.length_cons]
    omega
theorem sum_take {m : List S39} {i : Nat} {x : S39} (h : m[i]? = some x) : sumLen (m.take (i + 1)) = sumLen (m.take i) + (x.f1 - x.f0) := by
  have hi := lt_get h
  have hx := (List.getElem?_eq_some_iff.1 h).2
  rw [List.take_succ_eq_append_getElem hi, hx]
  unfold sumLen
  rw [List.foldl_append]
  rfl
theorem take_ok {m : List S39} (h : ∀ x ∈ m, Ok39 x) (i : Nat) : 0 ≤ sumLen (m.take i) ∧ sumLen (m.take i) ≤ 20000000 * i := by
  have h1 := sum_bound (m := m.take i) (fun x hx => h x (List.mem_of_mem_take hx))
  have h2 : (m.take i).length ≤ i := List.length_take_le _ _
  omega
theorem length_ev (l : List S39) (hl : l.length < 1000000) : Ev (fun k => clock_Length.f k l) (sumLen (mergeOf l)) := by
  unfold clock_Length.f
  refine Ev.bind (merge_ev l hl) ?_
  have hm := mergeOf_length l
  have ho := (mergeOf_plain l).1.1
  generalize mergeOf l = m at hm ho ⊢
  refine ev_fold (fun k i s => clock_Length.l0 k s m (m.length : Int) (i : Int)) (fun s x => s + (x.f1 - x.f0)) m (fun i s => s = sumLen (m.take i)) (sumLen m) (fun i s x hx hp => ?_) m.length 0 0 (Nat.zero_add _) (by simp [sumLen]) (fun _ => ?_)
  · have hi := lt_get hx
    have h1 := sum_take hx
    have h2 := take_ok ho (i + 1)
    have h3 := take_ok ho i
    refine ⟨by rw [h1, hp], fun hE => Ev.step (fun k => ?_) hE⟩
    have hxo := ho x (List.mem_of_getElem? hx)
    unfold Ok39 at hxo
    simp only [clock_Length.l0]
    rw [if_pos (by omega), if_pos (by omega), if_pos (by omega), rd39 hx, wrap_up hi (by omega), wrap_id (x := x.f1 - x.f0) (by omega) (by omega), wrap_id (by omega) (by omega)]
  · rw [List.drop_zero]
    refine Ev.step (f := fun _ => some _) (fun k => ?_) (Ev.now _)
    simp only [clock_Length.l0]
    rw [if_neg (by omega)]
    rfl
/-- Merge of the reference. -/
theorem rmerge_ev (l : List S39) (hl : l.length < 1000000) : Ev (fun k => skiarearef02_Merge.f k l) (mergeOf l) := by
  unfold skiarearef02_Merge.f
  obtain ⟨r, h1, h2, h3⟩ := rminus_ev l [] hl (by simp)
  obtain ⟨h4, h5⟩ := mergeOf_plain l
  have e : r = mergeOf l := plain_unique h2 h4 (fun t => by
    rw [h3, h5]
    exact ⟨fun h => h.1, fun h => ⟨h, fun ⟨_, hx, _⟩ => by simp at hx⟩⟩)
  rw [e] at h1
  exact Ev.bind h1 (Ev.now _)
theorem rlength_ev (l : List S39) (hl : l.length < 1000000) : Ev (fun k => skiarearef02_Length.f k l) (sumLen (mergeOf l)) := by
  unfold skiarearef02_Length.f
  refine Ev.bind (rmerge_ev l hl) ?_
  have hm := mergeOf_length l
  have ho := (mergeOf_plain l).1.1
  generalize mergeOf l = m at hm ho ⊢
  refine ev_fold (fun k i s => skiarearef02_Length.l0 k m s (i : Int)) (fun s x => s + (x.f1 - x.f0)) m (fun i s => s = sumLen (m.take i)) (sumLen m) (fun i s x hx hp => ?_) m.length 0 0 (Nat.zero_add _) (by simp [sumLen]) (fun _ => ?_)
  · have hi := lt_get hx
    have h1 := sum_take hx
    have h2 := take_ok ho (i + 1)
    have h3 := take_ok ho i
    refine ⟨by rw [h1, hp], fun hE => Ev.step (fun k => ?_) hE⟩
    have hxo := ho x (List.mem_of_getElem? hx)
    unfold Ok39 at hxo
    simp only [skiarearef02_Length.l0]
    rw [if_pos (by omega), if_pos (by omega), rd39 hx, wrap_up hi (by omega), wrap_id (x := s + x.f1) (by omega) (by omega), wrap_id (by omega) (by omega), show s + x.f1 - x.f0 = s + (x.f1 - x.f0) by omega]
  · rw [List.drop_zero]
    refine Ev.step (f := fun _ => some _) (fun k => ?_) (Ev.now _)
    simp only [skiarearef02_Length.l0]
    rw [if_neg (by omega)]
    rfl
end Go.Proofs.Ytmijeihhioiliaa.Pure
