/- Merge, Cover, Length and Same, told plainly. -/
import Derived.Test.YtmijeihhioiliaaPClock0
import Derived.Test.YtmijeihhioiliaaPClock2
import Derived.Test.YtmijeihhioiliaaPx7
import Derived.Test.YtmijeihhioiliaaPx21
import Derived.Test.YtmijeihhioiliaaPx9
import Derived.Test.YtmijeihhioiliaaPx4
import Derived.Test.YtmijeihhioiliaaPx17
import Derived.Test.YtmijeihhioiliaaPx15
namespace Go.Proofs.Ytmijeihhioiliaa.Pure
open Go.RowKit Go.Proofs.Ytmijeihhioiliaa.Px Go.Proofs.YtmijeihhioiliaaW.PrintWords

theorem rd39 {xs : List S39} {i : Nat} {x : S39} (h : xs[i]? = some x) : rd_T39 xs (i : Int) = x := by
  unfold rd_T39
  rw [Int.toNat_natCast, List.getD_eq_getElem?_getD, h, Option.getD_some]
theorem lt_get {α : Type} {xs : List α} {i : Nat} {x : α} (h : xs[i]? = some x) : i < xs.length := (List.getElem?_eq_some_iff.1 h).1
/-- Rounds of a loop with one state, from some number of rounds on. -/
theorem ev_fold {α σ ρ : Type} (F : Nat → Nat → σ → Option ρ) (step : σ → α → σ) (xs : List α) (P : Nat → σ → Prop) (r : ρ)
    (hs : ∀ i s x, xs[i]? = some x → P i s → P (i + 1) (step s x) ∧ (Ev (fun k => F k (i + 1) (step s x)) r → Ev (fun k => F k i s) r)) :
    ∀ d i s, i + d = xs.length → P i s → (P xs.length ((xs.drop i).foldl step s) → Ev (fun k => F k xs.length ((xs.drop i).foldl step s)) r) → Ev (fun k => F k i s) r := by
  intro d
  induction d with
  | zero => intro i s h hp hE; obtain rfl : i = xs.length := h; rw [List.drop_length] at hE; exact hE hp
  | succ d ih =>
    intro i s h hp hE
    have hi : i < xs.length := by omega
    obtain ⟨h1, h2⟩ := hs i s xs[i] (List.getElem?_eq_getElem hi) hp
    refine h2 (ih (i + 1) _ (by omega) h1 ?_)
    rw [List.drop_eq_getElem_cons hi] at hE
    exact hE
theorem valid_eq (x : S39) : clock_valid.f x.f0 x.f1 = some (decide (Ok39 x)) := by
  unfold clock_valid.f Ok39
  by_cases h1 : 0 ≤ x.f0
  · by_cases h2 : x.f0 < x.f1 <;> simp [h1, h2]
  · simp [h1]
/-- What Merge makes. -/
def mergeOf (l : List S39) : List S39 := (sortPdq api_Interval_47.cf (l.filter (fun x => decide (Ok39 x)))).foldl mstep []
theorem cf_le {x y : S39} (h : ltOf api_Interval_47.cf y x = false) : x.f0 ≤ y.f0 := by
  rw [api_Interval_47.lt] at h
  simp at h
  omega
theorem mergeOf_plain (l : List S39) : Plain (mergeOf l) ∧ ∀ t, Mem t (mergeOf l) ↔ MemV t l := by
  have hp := sortPdq_perm api_Interval_47.cf api_Interval_47.swo (l.filter (fun x => decide (Ok39 x)))
  have hs := sortPdq_sorted api_Interval_47.cf api_Interval_47.swo (l.filter (fun x => decide (Ok39 x)))
  obtain ⟨h1, h2⟩ := mfold_inv _ [] Plain.nil (fun x hx => by have := hp.mem_iff.1 hx; simp at this; exact this.2) (hs.imp fun h => cf_le h) (by simp)
  refine ⟨h1, fun t => ?_⟩
  unfold mergeOf
  rw [h2, memV_filter]
  constructor
  · rintro (h | ⟨x, hx, h⟩)
    · exact absurd h (mem_nil _)
    · exact ⟨x, hp.mem_iff.1 hx, h⟩
  · rintro ⟨x, hx, h⟩
    exact .inr ⟨x, hp.mem_iff.2 hx, h⟩
theorem mergeOf_length (l : List S39) : (mergeOf l).length ≤ l.length := by
  have h1 := mfold_length (sortPdq api_Interval_47.cf (l.filter (fun x => decide (Ok39 x)))) []
  have h2 := sortPdq_length api_Interval_47.cf api_Interval_47.swo (l.filter (fun x => decide (Ok39 x)))
  have h3 := List.length_filter_le (fun x => decide (Ok39 x)) l
  unfold mergeOf
  simp at h1
  omega
theorem set_last (pre : List S39) (y z : S39) : (pre ++ [y]).set pre.length z = pre ++ [z] := by
  rw [List.set_append_right _ _ (Nat.le_refl _)]; simp
theorem merge_l1 (s : List S39) (n : Int) (hn : n = s.length) (hb : s.length < 1000000) : ∀ d i (out : List S39), i + d = s.length → out.length ≤ i → Ev (fun k => clock_Merge.l1 k out s n (i : Int)) ((s.drop i).foldl mstep out) := by
  intro d i out hd ho
  refine ev_fold (fun k i out => clock_Merge.l1 k out s n (i : Int)) mstep s (fun i out => out.length ≤ i) _ (fun i out x hx hp => ?_) d i out hd ho (fun _ => ?_)
  · have hi := lt_get hx
    refine ⟨by have := mstep_length out x; omega, Ev.step fun k => ?_⟩
    simp only [clock_Merge.l1]
    rw [if_pos (by omega), if_pos (by omega), if_pos (by omega), rd39 hx, wrap_up hi (by omega)]
    rcases List.eq_nil_or_concat out with rfl | ⟨pre, y, rfl⟩
    · rw [if_neg (by simp), if_pos (by simp)]
      rfl
    · rw [List.concat_eq_append] at *
      have hl : (pre ++ [y]).length = pre.length + 1 := by simp
      have hw : wrap64 (((pre ++ [y]).length : Int) - 1) = (pre.length : Int) := by rw [hl]; unfold wrap64; omega
      have hr : rd_T39 (pre ++ [y]) (pre.length : Int) = y := rd39 (by simp)
      rw [if_pos (by omega), hw, if_pos (by omega), if_pos (by omega), hr, Int.toNat_natCast, set_last]
      unfold mstep
      rw [List.getLast?_concat]
      simp only [List.dropLast_concat]
      by_cases hc : x.f0 ≤ y.f1
      · rw [if_pos hc, if_pos hc]
        rfl
      · rw [if_neg hc, if_neg hc, if_pos (by omega)]
  · refine Ev.step (f := fun _ => some _) (fun k => ?_) (Ev.now _)
    simp only [clock_Merge.l1]
    rw [if_neg (by omega)]
theorem merge_ev (l : List S39) (hb : l.length < 1000000) : Ev (fun k => clock_Merge.f k l) (mergeOf l) := by
  unfold clock_Merge.f
  refine ev_fold (fun k i out => clock_Merge.l0 k out l (l.length : Int) (i : Int)) (fun out x => if decide (Ok39 x) then out ++ [x] else out) l (fun i out => out.length ≤ i ∧ out = (l.take i).filter (fun x => decide (Ok39 x))) _ (fun i out x hx hp => ?_) l.length 0 [] (by omega) ⟨by simp, by simp⟩ (fun hp => ?_)
  · have hi := lt_get hx
    have hx' := (List.getElem?_eq_some_iff.1 hx).2
    refine ⟨⟨?_, ?_⟩, Ev.step fun k => ?_⟩
    · split
      · simp; exact hp.1
      · have := hp.1; omega
    · rw [List.take_succ_eq_append_getElem hi, List.filter_append, ← hp.2, hx']
      by_cases h : Ok39 x <;> simp [h]
    · simp only [clock_Merge.l0]
      rw [if_pos (by omega), if_pos (by omega), if_pos (by omega), rd39 hx, wrap_up hi (by omega), valid_eq]
      simp only [Option.bind_some]
      by_cases h : Ok39 x
      · rw [if_pos (by simpa using h), if_pos (by have := hp.1; omega), if_pos (by simpa using h)]
      · rw [if_neg (by simpa using h), if_neg (by simpa using h)]
  · obtain ⟨hp1, hp2⟩ := hp
    rw [List.take_length] at hp2
    rw [List.drop_zero] at hp1 hp2 ⊢
    rw [hp2]
    have hfl := List.length_filter_le (fun x => decide (Ok39 x)) l
    have hsl := sortPdq_length api_Interval_47.cf api_Interval_47.swo (l.filter (fun x => decide (Ok39 x)))
    refine Ev.step (f := fun k => clock_Merge.l1 k ([] : List S39) (sortPdq api_Interval_47.cf (l.filter (fun x => decide (Ok39 x)))) ((l.filter (fun x => decide (Ok39 x))).length : Int) ((0 : Nat) : Int)) (fun k => ?_) ?_
    · simp only [clock_Merge.l0]
      rw [if_neg (by omega)]
      unfold api_Interval_47.f
      rw [if_pos (by omega)]
      rfl
    · have := merge_l1 (sortPdq api_Interval_47.cf (l.filter (fun x => decide (Ok39 x)))) ((l.filter (fun x => decide (Ok39 x))).length : Int) (by rw [hsl]) (by omega) _ 0 [] (Nat.zero_add _) (by simp)
      rwa [List.drop_zero] at this
/-- Is the time in the set of the list? -/
def coverOf (l : List S39) (t : Int) : Bool := l.any (fun x => decide (Ok39 x) && (decide (x.f0 ≤ t) && decide (t < x.f1)))
theorem coverOf_iff (l : List S39) (t : Int) : coverOf l t = true ↔ MemV t l := by
  unfold coverOf MemV
  rw [List.any_eq_true]
  simp
theorem cover_eq (l : List S39) (t : Int) : clock_Cover.f l t = some (coverOf l t) := by
  unfold clock_Cover.f coverOf
  congr 2
  funext x
  unfold clock_Cover.p
  rw [valid_eq]
  rfl
theorem rvalid_eq (x : S39) : skiarearef02_valid.f x.f0 x.f1 = some (decide (0 ≤ x.f0 ∧ x.f0 ≤ x.f1 ∧ x.f1 ≤ 20000000)) := by
  unfold skiarearef02_valid.f
  by_cases h1 : 0 ≤ x.f0
  · by_cases h2 : x.f0 ≤ x.f1 <;> simp [h1, h2]
  · simp [h1]
theorem rcover_eq (l : List S39) (t : Int) (k : Nat) (hk : l.length < k) (hl : l.length ≤ 9223372036854775807) : skiarearef02_Cover.f k l t = some (coverOf l t) := by
  have key := any_loop (fun k i => skiarearef02_Cover.l0 k l t (i : Int)) (fun _ => some false) (fun x => decide (Ok39 x) && (decide (x.f0 ≤ t) && decide (t < x.f1))) true l (fun k i x hx hp => by
      have hi := lt_get hx
      simp only [skiarearef02_Cover.l0]
      simp only [Bool.and_eq_true, decide_eq_true_eq] at hp
      unfold Ok39 at hp
      rw [if_pos (by omega), if_pos (by omega), rd39 hx, rvalid_eq]
      simp only [Option.bind_some]
      rw [if_pos (by simp; omega), if_pos hp.2.1, if_pos hp.2.2]) (fun k i x hx hp => by
      have hi := lt_get hx
      simp only [skiarearef02_Cover.l0]
      rw [if_pos (by omega), if_pos (by omega), rd39 hx, rvalid_eq, wrap_up hi hl]
      simp only [Option.bind_some]
      by_cases h1 : x.f0 ≤ t
      · by_cases h2 : t < x.f1
        · have : ¬ Ok39 x := by simpa [h1, h2] using hp
          unfold Ok39 at this
          rw [if_neg (by simp; omega)]
        · rw [if_pos h1, if_neg h2]; split <;> rfl
      · rw [if_neg h1]; split <;> rfl) (fun k => by
      simp only [skiarearef02_Cover.l0]
      rw [if_neg (by omega)]) l.length 0 (k - l.length - 1) (by omega)
  rw [show k - l.length - 1 + l.length + 1 = k by omega, List.drop_zero] at key
  refine key.trans ?_
  unfold coverOf
  cases l.any (fun x => decide (Ok39 x) && (decide (x.f0 ≤ t) && decide (t < x.f1))) <;> rfl
instance : DecidableEq S39 := fun a b => if h : a.f0 = b.f0 ∧ a.f1 = b.f1 then .isTrue (S39.ext' h.1 h.2) else .isFalse fun e => h (by rw [e]; exact ⟨rfl, rfl⟩)
theorem same_self (l : List S39) (k : Nat) (hk : l.length < k) (hl : l.length ≤ 9223372036854775807) : skiarearef02_Same.f k l l = some true := by
  unfold skiarearef02_Same.f
  rw [if_pos rfl]
  have key := any_loop (fun k i => skiarearef02_Same.l0 k l l (i : Int)) (fun _ => some true) (fun _ => false) false l (fun k i x hx hp => by simp at hp) (fun k i x hx hp => by
      have hi := lt_get hx
      simp only [skiarearef02_Same.l0]
      rw [if_pos (by omega), if_pos (by omega), if_pos (by omega), rd39 hx, wrap_up hi hl]
      simp) (fun k => by
      simp only [skiarearef02_Same.l0]
      rw [if_neg (by omega)]) l.length 0 (k - l.length - 1) (by omega)
  rw [show k - l.length - 1 + l.length + 1 = k by omega, List.drop_zero] at key
  refine key.trans ?_
  simp
theorem few_eq (l : List S39) : skiarealaw02_few.f l = some (decide (l.length ≤ 60)) := by
  unfold skiarealaw02_few.f
  congr 1
  rw [decide_eq_decide]
  omega
theorem same_ev (l : List S39) (hl : l.length ≤ 9223372036854775807) : Ev (fun k => skiarearef02_Same.f k l l) true := ⟨l.length + 1, fun k hk => same_self l k (by omega) hl⟩
theorem alive_ev : Ev (fun k => skiarealaw02_alive.f k) true := ⟨100, fun _ h => alive_more h⟩
theorem rcover_ev (l : List S39) (t : Int) (hl : l.length < 1000000) : Ev (fun k => skiarearef02_Cover.f k l t) (coverOf l t) := ⟨1000000, fun k hk => rcover_eq l t k (by omega) (by omega)⟩
end Go.Proofs.Ytmijeihhioiliaa.Pure
