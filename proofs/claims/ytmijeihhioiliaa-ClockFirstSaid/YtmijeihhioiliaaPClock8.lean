/- Next of the program and of the reference, told plainly: they are the same. -/
import Derived.Test.YtmijeihhioiliaaPClock1
import Derived.Test.YtmijeihhioiliaaPClock3
import Derived.Test.YtmijeihhioiliaaPx4
import Derived.Test.YtmijeihhioiliaaPx14
namespace Go.Proofs.Ytmijeihhioiliaa.Pure
open Go.RowKit Go.Proofs.Ytmijeihhioiliaa.Px Go.Proofs.YtmijeihhioiliaaW.PrintWords

def onBit (days wd : Int) : Bool := (Go.bits .and .i64 (shr .i64 days wd) 1) == 1
theorem on_eq (x : S42) {wd : Int} (h : 0 ≤ wd) : clock_on.f x.f0 x.f1 x.f2 wd = some (onBit x.f0 wd) := by
  unfold clock_on.f
  rw [if_pos h]
  rfl
/-- The least candidate so far; and whether there is one. -/
def better (s : Int × Bool) (x : Int) : Int × Bool := if s.2 = true then (if x < s.1 then (x, true) else s) else (x, true)
def opStep (wd f : Int) (s : Int × Bool) (x : S42) : Int × Bool := if onBit x.f0 wd = true ∧ mx x.f1 f < mn x.f2 86400 then better s (mx x.f1 f) else s
def opensOf (l : List S42) (wd f : Int) : Int × Bool := l.foldl (opStep wd f) (0, false)
theorem opens_ev (l : List S42) (wd f : Int) (hw : 0 ≤ wd) (hl : l.length < 1000000) : Ev (fun k => clock_opens.f k l wd f) (opensOf l wd f) := by
  unfold clock_opens.f
  refine ev_fold (fun k i s => clock_opens.l0 k wd f s.1 s.2 l (l.length : Int) (i : Int)) (opStep wd f) l (fun _ _ => True) (opensOf l wd f) (fun i s x hx _ => ?_) l.length 0 (0, false) (Nat.zero_add _) trivial (fun _ => ?_)
  · have hi := lt_get hx
    refine ⟨trivial, fun hE => ?_⟩
    have i1 : (i : Int) < (l.length : Int) := by omega
    have i0 : (0 : Int) ≤ (i : Int) := by omega
    have hw2 := wrap_up hi (show l.length ≤ 9223372036854775807 by omega)
    have key : ∀ k, clock_opens.l0 (k + 1) wd f s.1 s.2 l (l.length : Int) (i : Int) = clock_opens.l0 k wd f (opStep wd f s x).1 (opStep wd f s x).2 l (l.length : Int) ((i + 1 : Nat) : Int) := fun k => by
      simp only [clock_opens.l0]
      rw [if_pos i1, if_pos i0, if_pos i1, rd42 hx, hw2, on_eq x hw]
      simp only [Option.bind_some]
      by_cases h1 : onBit x.f0 wd = true
      · rw [if_pos h1]
        by_cases h2 : mx x.f1 f < mn x.f2 86400
        · rw [if_pos h2]
          by_cases h3 : s.2 = true
          · rw [if_pos h3]
            by_cases h4 : mx x.f1 f < s.1
            · have e : opStep wd f s x = (mx x.f1 f, true) := by unfold opStep better; rw [if_pos ⟨h1, h2⟩, if_pos h3, if_pos h4]
              rw [if_pos h4, e]
            · have e : opStep wd f s x = s := by unfold opStep better; rw [if_pos ⟨h1, h2⟩, if_pos h3, if_neg h4]
              rw [if_neg h4, e]
          · have e : opStep wd f s x = (mx x.f1 f, true) := by unfold opStep better; rw [if_pos ⟨h1, h2⟩, if_neg h3]
            rw [if_neg h3, e]
        · have e : opStep wd f s x = s := by unfold opStep; rw [if_neg (fun h => h2 h.2)]
          rw [if_neg h2, e]
      · have e : opStep wd f s x = s := by unfold opStep; rw [if_neg (fun h => h1 h.1)]
        rw [if_neg h1, e]
    exact Ev.step key hE
  · rw [List.drop_zero]
    refine Ev.step (f := fun _ => some _) (fun k => ?_) (Ev.now _)
    simp only [clock_opens.l0]
    rw [if_neg (by omega)]
    rfl
/-- The days from the i-th on: n days are left. -/
def progDays (l : List S42) (first : Int) : Nat → Int → Int → Int × Bool
  | 0, _, _ => (0, false)
  | n + 1, f, i => if (opensOf l ((first + i) % 7) f).2 = true then (if isT ((first + i) * 86400 + (opensOf l ((first + i) % 7) f).1) = true then ((first + i) * 86400 + (opensOf l ((first + i) % 7) f).1, true) else (0, false)) else progDays l first n 0 (i + 1)
theorem better_bound {s : Int × Bool} {x : Int} (hs : s.2 = true → 0 ≤ s.1 ∧ s.1 < 86400) (h : 0 ≤ x ∧ x < 86400) : (better s x).2 = true → 0 ≤ (better s x).1 ∧ (better s x).1 < 86400 := by
  unfold better
  split
  · split
    · exact fun _ => h
    · exact hs
  · exact fun _ => h
theorem op_bound (wd f : Int) (hf : 0 ≤ f) : ∀ (l : List S42) (s : Int × Bool), (s.2 = true → 0 ≤ s.1 ∧ s.1 < 86400) → ((l.foldl (opStep wd f) s).2 = true → 0 ≤ (l.foldl (opStep wd f) s).1 ∧ (l.foldl (opStep wd f) s).1 < 86400)
  | [], _, h => h
  | x :: l, s, h => op_bound wd f hf l _ (by
    unfold opStep
    split
    · rename_i h1
      refine better_bound h ?_
      have h2 := h1.2
      unfold mx mn at h2
      unfold mx
      split <;> split at h2 <;> split at h2 <;> omega
    · exact h)
theorem opens_bound (l : List S42) (wd f : Int) (hf : 0 ≤ f) (h : (opensOf l wd f).2 = true) : 0 ≤ (opensOf l wd f).1 ∧ (opensOf l wd f).1 < 86400 := op_bound wd f hf l (0, false) (by simp) h
theorem days_ev (l : List S42) (first : Int) (h0 : 0 ≤ first) (h1 : first ≤ 300) (hl : l.length < 1000000) : ∀ (n : Nat) (f i : Int), 0 ≤ f → 0 ≤ i → i + n = 8 → Ev (fun k => clock_Next.l0 k l first f i) (progDays l first n f i)
  | 0, f, i, _, _, hn => Ev.step (f := fun _ => some _) (fun k => by simp only [clock_Next.l0]; rw [if_neg (by omega)]; rfl) (Ev.now _)
  | n + 1, f, i, hf, hi, hn => by
    have hw1 : wrap64 (first + i) = first + i := wrap_id (by omega) (by omega)
    have hm : Int.tmod (first + i) 7 = (first + i) % 7 := Int.tmod_eq_emod_of_nonneg (by omega)
    have hw2 : wrap64 ((first + i) * 86400) = (first + i) * 86400 := wrap_id (by omega) (by omega)
    have hw3 : wrap64 (i + 1) = i + 1 := wrap_id (by omega) (by omega)
    refine Ev.step (f := fun k => (clock_opens.f k l ((first + i) % 7) f).bind fun o => if o.2 = true then (if isT (wrap64 ((first + i) * 86400 + o.1)) = true then some (wrap64 ((first + i) * 86400 + o.1), true) else some (0, false)) else clock_Next.l0 k l first 0 (i + 1)) (fun k => ?_) ?_
    · simp only [clock_Next.l0]
      rw [if_pos (by omega), hw1, hm, hw2, hw3]
      simp only [isTime_eq, Option.bind_some]
    · refine Ev.bind (opens_ev l _ f (by omega) hl) ?_
      unfold progDays
      by_cases h2 : (opensOf l ((first + i) % 7) f).2 = true
      · obtain ⟨b0, b1⟩ := opens_bound l _ f hf h2
        have hw4 : wrap64 ((first + i) * 86400 + (opensOf l ((first + i) % 7) f).1) = (first + i) * 86400 + (opensOf l ((first + i) % 7) f).1 := wrap_id (by omega) (by omega)
        simp only [h2, if_true, hw4]
        by_cases h3 : isT ((first + i) * 86400 + (opensOf l ((first + i) % 7) f).1) = true
        · simp only [h3, if_true]
          exact Ev.now _
        · simp only [h3]
          exact Ev.now _
      · simp only [h2]
        exact days_ev l first h0 h1 hl n 0 (i + 1) (Int.le_refl _) (by omega) (by omega)
def nextOf (l : List S42) (t : Int) : Int × Bool := if isT (mx t 0) = true then progDays l (dayOf (mx t 0)) 8 (secOf (mx t 0)) 0 else (0, false)
theorem day_range {u : Int} (h : isT u = true) : 0 ≤ dayOf u ∧ dayOf u ≤ 231 ∧ 0 ≤ secOf u ∧ secOf u < 86400 ∧ u = dayOf u * 86400 + secOf u := by
  have h2 := (isT_iff u).1 h
  unfold dayOf secOf
  rw [if_pos h, if_pos h]
  omega
theorem next_ev (l : List S42) (t : Int) (hl : l.length < 1000000) : Ev (fun k => clock_Next.f k l t) (nextOf l t) := by
  unfold clock_Next.f nextOf
  simp only [isTime_eq, day_eq, second_eq, Option.bind_some]
  by_cases h : isT (mx t 0) = true
  · simp only [h, if_true]
    obtain ⟨h0, h1, h2, _⟩ := day_range h
    exact days_ev l _ h0 (by omega) hl 8 _ 0 h2 (Int.le_refl _) rfl
  · simp only [h]
    exact Ev.now _
/-- One round of the reference's search in the day d. -/
def refStep (t d : Int) (s : Int × Bool) (x : S42) : Int × Bool := if mx t (d * 86400 + mx 0 (mn x.f1 86400)) < (d + 1) * 86400 ∧ inOf [x] (mx t (d * 86400 + mx 0 (mn x.f1 86400))) = true then better s (mx t (d * 86400 + mx 0 (mn x.f1 86400))) else s
def refDays (l : List S42) (t : Int) : Nat → Int → Int × Bool
  | 0, _ => (0, false)
  | n + 1, d => if (l.foldl (refStep t d) (0, false)).2 = true then ((l.foldl (refStep t d) (0, false)).1, true) else refDays l t n (d + 1)
theorem rdays_ev (l : List S42) (t : Int) (ht : isT t = true) (hl : l.length < 1000000) : ∀ (n : Nat) (d : Int), 0 ≤ d → d ≤ 300 → d + n = dayOf t + 8 → Ev (fun k => skiarearef02_Next.l0 k l t d) (refDays l t n d)
  | 0, d, _, _, hn => by
    obtain ⟨h0, h1, _⟩ := day_range ht
    refine Ev.step (f := fun _ => some _) (fun k => ?_) (Ev.now _)
    simp only [skiarearef02_Next.l0]
    rw [rday_eq]
    simp only [Option.bind_some]
    rw [wrap_id (by omega) (by omega), if_neg (by omega)]
    rfl
  | n + 1, d, hd0, hd1, hn => by
    obtain ⟨h0, h1, _⟩ := day_range ht
    have ht2 := (isT_iff t).1 ht
    refine Ev.step (f := fun k => skiarearef02_Next.l1 k l t d 0 false ((0 : Nat) : Int)) (fun k => ?_) ?_
    · simp only [skiarearef02_Next.l0]
      rw [rday_eq]
      simp only [Option.bind_some]
      rw [wrap_id (by omega) (by omega), if_pos (by omega)]
      rfl
    · refine ev_fold (fun k i s => skiarearef02_Next.l1 k l t d s.1 s.2 (i : Int)) (refStep t d) l (fun _ _ => True) (refDays l t (n + 1) d) (fun i s x hx _ => ?_) l.length 0 (0, false) (Nat.zero_add _) trivial (fun _ => ?_)
      · have hi := lt_get hx
        refine ⟨trivial, fun hE => ?_⟩
        have hwd : wrap64 (d * 86400) = d * 86400 := wrap_id (by omega) (by omega)
        have hwd1 : wrap64 (d + 1) = d + 1 := wrap_id (by omega) (by omega)
        have hwd2 : wrap64 ((d + 1) * 86400) = (d + 1) * 86400 := wrap_id (by omega) (by omega)
        have hc : 0 ≤ mx 0 (mn x.f1 86400) ∧ mx 0 (mn x.f1 86400) ≤ 86400 := (by unfold mx mn; (repeat' split) <;> omega)
        have hwc : wrap64 (d * 86400 + mx 0 (mn x.f1 86400)) = d * 86400 + mx 0 (mn x.f1 86400) := wrap_id (by omega) (by omega)
        have hin : Ev (fun k => skiarearef02_In.f k [(⟨x.f0, x.f1, x.f2⟩ : S42)] (mx t (d * 86400 + mx 0 (mn x.f1 86400)))) (inOf [x] (mx t (d * 86400 + mx 0 (mn x.f1 86400)))) := ⟨2, fun k hk => rin_eq [x] _ k (by simp; omega) (by simp)⟩
        refine Ev.step (f := fun k => if mx t (d * 86400 + mx 0 (mn x.f1 86400)) < (d + 1) * 86400 then ((skiarearef02_In.f k [(⟨x.f0, x.f1, x.f2⟩ : S42)] (mx t (d * 86400 + mx 0 (mn x.f1 86400)))).bind fun b => if b = true then (if s.2 = true then (if mx t (d * 86400 + mx 0 (mn x.f1 86400)) < s.1 then skiarearef02_Next.l1 k l t d (mx t (d * 86400 + mx 0 (mn x.f1 86400))) true ((i + 1 : Nat) : Int) else skiarearef02_Next.l1 k l t d s.1 s.2 ((i + 1 : Nat) : Int)) else skiarearef02_Next.l1 k l t d (mx t (d * 86400 + mx 0 (mn x.f1 86400))) true ((i + 1 : Nat) : Int)) else skiarearef02_Next.l1 k l t d s.1 s.2 ((i + 1 : Nat) : Int)) else skiarearef02_Next.l1 k l t d s.1 s.2 ((i + 1 : Nat) : Int)) (fun k => ?_) ?_
        · show skiarearef02_Next.l1 (k + 1) l t d s.1 s.2 (i : Int) = _
          simp only [skiarearef02_Next.l1]
          rw [if_pos (by omega), if_pos (by omega), rd42 hx]
          simp only [hwd, hwd1, hwd2, hwc, wrap_up hi (show l.length ≤ 9223372036854775807 by omega)]
        · unfold refStep at hE
          generalize mx t (d * 86400 + mx 0 (mn x.f1 86400)) = u at hin hE ⊢
          by_cases g1 : u < (d + 1) * 86400
          · simp only [g1, if_true]
            refine Ev.bind hin ?_
            by_cases g2 : inOf [x] u = true
            · rw [if_pos ⟨g1, g2⟩] at hE
              simp only [g2, if_true]
              unfold better at hE
              by_cases g3 : s.2 = true
              · rw [if_pos g3] at hE
                simp only [g3, if_true]
                by_cases g4 : u < s.1
                · rw [if_pos g4] at hE
                  simp only [g4, if_true]
                  exact hE
                · rw [if_neg g4] at hE
                  simp only [g4, if_false]
                  rw [g3] at hE
                  exact hE
              · rw [if_neg g3] at hE
                simp only [g3]
                exact hE
            · rw [if_neg (fun h => g2 h.2)] at hE
              simp only [g2]
              exact hE
          · rw [if_neg (fun h => g1 h.1)] at hE
            simp only [g1, if_false]
            exact hE
      · rw [List.drop_zero]
        unfold refDays
        generalize l.foldl (refStep t d) (0, false) = o
        by_cases g : o.2 = true
        · rw [if_pos g]
          refine Ev.step (f := fun _ => some _) (fun k => ?_) (Ev.now _)
          simp only [skiarearef02_Next.l1]
          rw [if_neg (by omega), if_pos g]
        · rw [if_neg g]
          refine Ev.step (fun k => ?_) (rdays_ev l t ht hl n (d + 1) (by omega) (by omega) (by omega))
          simp only [skiarearef02_Next.l1]
          rw [if_neg (by omega), if_neg g, wrap_id (x := d + 1) (by omega) (by omega)]
/-- A day that lies behind the last time has no candidate. -/
theorem late_day {t d : Int} (h : 20000000 < d * 86400) : ∀ (l : List S42) (s : Int × Bool), l.foldl (refStep t d) s = s
  | [], _ => rfl
  | x :: l, s => by
    rw [List.foldl_cons]
    have e : refStep t d s x = s := by
      unfold refStep
      rw [if_neg]
      rintro ⟨h1, h2⟩
      unfold inOf at h2
      rw [Bool.and_eq_true, isT_iff] at h2
      have : d * 86400 ≤ mx t (d * 86400 + mx 0 (mn x.f1 86400)) := (by unfold mx mn; (repeat' split) <;> omega)
      omega
    rw [e]
    exact late_day h l s
theorem late_days (l : List S42) (t : Int) : ∀ (n : Nat) (d : Int), 20000000 < d * 86400 → refDays l t n d = (0, false)
  | 0, _, _ => rfl
  | n + 1, d, h => by
    unfold refDays
    rw [late_day h l]
    rw [if_neg (by simp)]
    exact late_days l t n (d + 1) (by omega)
/-- In one day: the program's candidate is the reference's, if it is a time. -/
theorem day_step {t d f : Int} (hd : 0 ≤ d) (hf : 0 ≤ f) (hf2 : f < 86400) (ht : ∀ c : Int, 0 ≤ c → mx t (d * 86400 + c) = d * 86400 + mx f c) {s r : Int × Bool} (hs : s.2 = true → 0 ≤ s.1 ∧ s.1 < 86400) (x : S42)
    (h1 : r.2 = (s.2 && isT (d * 86400 + s.1))) (h2 : r.2 = true → r.1 = d * 86400 + s.1) :
    (refStep t d r x).2 = ((opStep (d % 7) f s x).2 && isT (d * 86400 + (opStep (d % 7) f s x).1)) ∧ ((refStep t d r x).2 = true → (refStep t d r x).1 = d * 86400 + (opStep (d % 7) f s x).1) := by
  have hc0 : 0 ≤ mx 0 (mn x.f1 86400) := by unfold mx; split <;> omega
  unfold refStep
  rw [ht _ hc0]
  by_cases hx : x.f1 < 86400
  · have hc : mx f (mx 0 (mn x.f1 86400)) = mx x.f1 f := by
      unfold mx mn
      repeat' split
      all_goals omega
    rw [hc]
    generalize hq : mx x.f1 f = q
    have q0 : 0 ≤ q ∧ q < 86400 ∧ x.f1 ≤ q := by
      rw [← hq]; unfold mx; split <;> omega
    have hcand : (d * 86400 + q < (d + 1) * 86400 ∧ inOf [x] (d * 86400 + q) = true) ↔ ((onBit x.f0 (d % 7) = true ∧ q < mn x.f2 86400) ∧ isT (d * 86400 + q) = true) := by
      unfold inOf
      rw [Bool.and_eq_true, List.any_cons, List.any_nil, Bool.or_false]
      constructor
      · rintro ⟨g1, g2, g3⟩
        have g4 := (isT_iff _).1 g2
        unfold onAt at g3
        have e1 : wdOf (d * 86400 + q) = d % 7 := by unfold wdOf; rw [if_pos g2]; omega
        have e2 : secOf (d * 86400 + q) = q := by unfold secOf; rw [if_pos g2]; omega
        rw [e1, e2] at g3
        simp only [Bool.and_eq_true, decide_eq_true_eq] at g3
        refine ⟨⟨g3.1, ?_⟩, g2⟩
        unfold mn
        split <;> omega
      · rintro ⟨⟨g1, g2⟩, g3⟩
        have g4 := (isT_iff _).1 g3
        have g5 : q < x.f2 := by unfold mn at g2; split at g2 <;> omega
        have e1 : wdOf (d * 86400 + q) = d % 7 := by unfold wdOf; rw [if_pos g3]; omega
        have e2 : secOf (d * 86400 + q) = q := by unfold secOf; rw [if_pos g3]; omega
        refine ⟨by omega, g3, ?_⟩
        unfold onAt
        rw [e1, e2]
        simp only [Bool.and_eq_true, decide_eq_true_eq]
        exact ⟨g1, q0.2.2, g5⟩
    unfold opStep
    rw [hq]
    by_cases hp : onBit x.f0 (d % 7) = true ∧ q < mn x.f2 86400
    · rw [if_pos hp]
      by_cases hT : isT (d * 86400 + q) = true
      · rw [if_pos (hcand.2 ⟨hp, hT⟩)]
        have hT2 := (isT_iff _).1 hT
        unfold better
        by_cases k1 : s.2 = true
        · rw [if_pos k1]
          have hs1 := hs k1
          by_cases k2 : isT (d * 86400 + s.1) = true
          · have k3 : r.2 = true := by rw [h1, k1, k2]; rfl
            have k4 := h2 k3
            rw [if_pos k3, k4]
            by_cases k5 : q < s.1
            · rw [if_pos (by omega), if_pos k5]
              exact ⟨by simp only [hT]; rfl, fun _ => rfl⟩
            · rw [if_neg (by omega), if_neg k5]
              exact ⟨h1, h2⟩
          · have k3 : r.2 = false := by rw [h1, k1]; simpa using k2
            rw [if_neg (by rw [k3]; simp)]
            have k6 : q < s.1 := by
              rcases Int.lt_or_le q s.1 with k7 | k7
              · exact k7
              · exact absurd ((isT_iff _).2 ⟨by omega, by omega⟩) k2
            rw [if_pos k6]
            exact ⟨by simp only [hT]; rfl, fun _ => rfl⟩
        · rw [if_neg k1]
          have k3 : r.2 = false := by rw [h1]; simp at k1; rw [k1]; rfl
          rw [if_neg (by rw [k3]; simp)]
          exact ⟨by simp only [hT]; rfl, fun _ => rfl⟩
      · rw [if_neg (fun h => hT (hcand.1 h).2)]
        have hT2 : 20000000 < d * 86400 + q := by
          rcases Int.lt_or_le 20000000 (d * 86400 + q) with k | k
          · exact k
          · exact absurd ((isT_iff _).2 ⟨by omega, k⟩) hT
        unfold better
        by_cases k1 : s.2 = true
        · rw [if_pos k1]
          have hs1 := hs k1
          by_cases k5 : q < s.1
          · rw [if_pos k5]
            have k2 : isT (d * 86400 + s.1) = false := by
              cases hh : isT (d * 86400 + s.1) with
              | false => rfl
              | true => have := (isT_iff _).1 hh; omega
            have hTf : isT (d * 86400 + q) = false := by simpa using hT
            have k3 : r.2 = false := by rw [h1, k1, k2]; rfl
            simp only [hTf, k3]
            exact ⟨rfl, fun h => by simp at h⟩
          · rw [if_neg k5]
            exact ⟨h1, h2⟩
        · rw [if_neg k1]
          have hTf : isT (d * 86400 + q) = false := by simpa using hT
          have k3 : r.2 = false := by rw [h1]; simp at k1; rw [k1]; rfl
          simp only [hTf, k3]
          exact ⟨rfl, fun h => by simp at h⟩
    · rw [if_neg hp, if_neg (fun h => hp (hcand.1 h).1)]
      exact ⟨h1, h2⟩
  · have e1 : ¬ (d * 86400 + mx f (mx 0 (mn x.f1 86400)) < (d + 1) * 86400 ∧ inOf [x] (d * 86400 + mx f (mx 0 (mn x.f1 86400))) = true) := by
      rintro ⟨g1, _⟩
      unfold mx mn at g1
      repeat' split at g1
      all_goals omega
    have e2 : ¬ (onBit x.f0 (d % 7) = true ∧ mx x.f1 f < mn x.f2 86400) := by
      rintro ⟨_, g2⟩
      unfold mx mn at g2
      repeat' split at g2
      all_goals omega
    unfold opStep
    rw [if_neg e1, if_neg e2]
    exact ⟨h1, h2⟩
theorem day_fold {t d f : Int} (hd : 0 ≤ d) (hf : 0 ≤ f) (hf2 : f < 86400) (ht : ∀ c : Int, 0 ≤ c → mx t (d * 86400 + c) = d * 86400 + mx f c) : ∀ (l : List S42) (s r : Int × Bool), (s.2 = true → 0 ≤ s.1 ∧ s.1 < 86400) → r.2 = (s.2 && isT (d * 86400 + s.1)) → (r.2 = true → r.1 = d * 86400 + s.1) →
    (l.foldl (refStep t d) r).2 = ((l.foldl (opStep (d % 7) f) s).2 && isT (d * 86400 + (l.foldl (opStep (d % 7) f) s).1)) ∧ ((l.foldl (refStep t d) r).2 = true → (l.foldl (refStep t d) r).1 = d * 86400 + (l.foldl (opStep (d % 7) f) s).1)
  | [], _, _, _, h1, h2 => ⟨h1, h2⟩
  | x :: l, s, r, hs, h1, h2 => by
    obtain ⟨a1, a2⟩ := day_step hd hf hf2 ht hs x h1 h2
    exact day_fold hd hf hf2 ht l _ _ (op_bound (d % 7) f hf [x] s hs) a1 a2
theorem days_eq (l : List S42) (t first : Int) (h0 : 0 ≤ first) : ∀ (n : Nat) (f i : Int), 0 ≤ i → 0 ≤ f → f < 86400 → (∀ c : Int, 0 ≤ c → mx t ((first + i) * 86400 + c) = (first + i) * 86400 + mx f c) → (t < (first + i + 1) * 86400) → progDays l first n f i = refDays l t n (first + i)
  | 0, _, _, _, _, _, _, _ => rfl
  | n + 1, f, i, hi, hf, hf2, ht, hlt => by
    obtain ⟨a1, a2⟩ := day_fold (by omega) hf hf2 ht l (0, false) (0, false) (by simp) rfl (by simp)
    unfold progDays refDays
    change (l.foldl (refStep t (first + i)) (0, false)).2 = ((opensOf l ((first + i) % 7) f).2 && isT ((first + i) * 86400 + (opensOf l ((first + i) % 7) f).1)) at a1
    change (l.foldl (refStep t (first + i)) (0, false)).2 = true → (l.foldl (refStep t (first + i)) (0, false)).1 = (first + i) * 86400 + (opensOf l ((first + i) % 7) f).1 at a2
    have hb := opens_bound l ((first + i) % 7) f hf
    generalize opensOf l ((first + i) % 7) f = o at a1 a2 hb ⊢
    generalize l.foldl (refStep t (first + i)) (0, false) = r at a1 a2 ⊢
    by_cases g1 : o.2 = true
    · rw [if_pos g1]
      have hb' := hb g1
      by_cases g2 : isT ((first + i) * 86400 + o.1) = true
      · have g3 : r.2 = true := by rw [a1, g1, g2]; rfl
        rw [if_pos g2, if_pos g3, a2 g3]
      · have g3 : ¬ r.2 = true := by rw [a1, g1]; simpa using g2
        rw [if_neg g2, if_neg g3]
        have g4 : 20000000 < (first + i) * 86400 + o.1 := by
          rcases Int.lt_or_le 20000000 ((first + i) * 86400 + o.1) with k | k
          · exact k
          · exact absurd ((isT_iff _).2 ⟨by omega, k⟩) g2
        rw [late_days l t n (first + i + 1) (by omega)]
    · have g3 : ¬ r.2 = true := by rw [a1]; simp at g1; rw [g1]; simp
      rw [if_neg g1, if_neg g3]
      have := days_eq l t first h0 n 0 (i + 1) (by omega) (Int.le_refl _) (by omega) (fun c hc => by unfold mx; (repeat' split) <;> omega) (by omega)
      rw [this, show first + (i + 1) = first + i + 1 by omega]
def rnextOf (l : List S42) (t : Int) : Int × Bool := if 20000000 < t then (0, false) else refDays l (mx t 0) 8 (dayOf (mx t 0))
theorem rnext_ev (l : List S42) (t : Int) (hl : l.length < 1000000) : Ev (fun k => skiarearef02_Next.f k l t) (rnextOf l t) := by
  unfold skiarearef02_Next.f rnextOf
  by_cases h : 20000000 < t
  · have h' : t > 20000000 := h
    simp only [h', if_true]
    exact Ev.now _
  · have h' : ¬ t > 20000000 := h
    have hT : isT (mx t 0) = true := (isT_iff _).2 (by unfold mx; split <;> omega)
    obtain ⟨h0, h1, _⟩ := day_range hT
    simp only [h', if_false, rday_eq, Option.bind_some]
    exact rdays_ev l _ hT hl 8 _ h0 (by omega) rfl
theorem next_same (l : List S42) (t : Int) : nextOf l t = rnextOf l t := by
  unfold nextOf rnextOf
  by_cases h : 20000000 < t
  · have hT : ¬ isT (mx t 0) = true := fun hh => by have := (isT_iff _).1 hh; unfold mx at this; split at this <;> omega
    rw [if_neg hT, if_pos h]
  · have hT : isT (mx t 0) = true := (isT_iff _).2 (by unfold mx; split <;> omega)
    obtain ⟨h0, h1, h2, h3, h4⟩ := day_range hT
    rw [if_pos hT, if_neg h]
    generalize mx t 0 = u at *
    have := days_eq l u (dayOf u) h0 8 (secOf u) 0 (Int.le_refl _) h2 h3 (fun c hc => by unfold mx; (repeat' split) <;> omega) (by omega)
    rw [this, Int.add_zero]
end Go.Proofs.Ytmijeihhioiliaa.Pure
