/- Minus of the reference: what it makes is in order and apart, and has the times of the first list that the second has not. -/
import Derived.Test.YtmijeihhioiliaaPClock3
import Derived.Test.YtmijeihhioiliaaPx18
import Derived.Test.YtmijeihhioiliaaPx21
namespace Go.Proofs.Ytmijeihhioiliaa.Pure
open Go.RowKit Go.Proofs.Ytmijeihhioiliaa.Px Go.Proofs.YtmijeihhioiliaaW.PrintWords

/-- valid, of the reference: it may be empty. -/
def Ok0 (x : S39) : Prop := 0 ≤ x.f0 ∧ x.f0 ≤ x.f1 ∧ x.f1 ≤ 20000000
instance (x : S39) : Decidable (Ok0 x) := inferInstanceAs (Decidable (_ ∧ _))
theorem rvalid_eq' (x : S39) : skiarearef02_valid.f x.f0 x.f1 = some (decide (Ok0 x)) := rvalid_eq x
def endStep (out : List Int) (x : S39) : List Int := if decide (Ok0 x) then out ++ [x.f0, x.f1] else out
def endsOf (l : List S39) : List Int := l.foldl endStep []
theorem endStep_length (out : List Int) (x : S39) : (endStep out x).length ≤ out.length + 2 := by
  unfold endStep
  split <;> simp
theorem efold_mem : ∀ (l : List S39) (out : List Int) (t : Int), t ∈ l.foldl endStep out ↔ t ∈ out ∨ ∃ x ∈ l, Ok0 x ∧ (t = x.f0 ∨ t = x.f1)
  | [], out, t => by simp
  | x :: l, out, t => by
    rw [List.foldl_cons, efold_mem l]
    have e : t ∈ endStep out x ↔ t ∈ out ∨ (Ok0 x ∧ (t = x.f0 ∨ t = x.f1)) := by
      unfold endStep
      by_cases h : Ok0 x <;> simp [h]
    rw [e]
    simp [or_assoc]
theorem endsOf_mem (l : List S39) (t : Int) : t ∈ endsOf l ↔ ∃ x ∈ l, Ok0 x ∧ (t = x.f0 ∨ t = x.f1) := by
  unfold endsOf
  rw [efold_mem]
  simp
theorem efold_length : ∀ (l : List S39) (out : List Int), (l.foldl endStep out).length ≤ out.length + 2 * l.length
  | [], out => by simp
  | x :: l, out => by
    have h1 := efold_length l (endStep out x)
    have h2 := endStep_length out x
    simp only [List.foldl_cons, List.length_cons]
    omega
theorem ends_ev (l : List S39) (hl : l.length < 1000000) : Ev (fun k => skiarearef02_ends.f k l) (endsOf l) := by
  unfold skiarearef02_ends.f
  refine ev_fold (fun k i out => skiarearef02_ends.l0 k l out (i : Int)) endStep l (fun i out => out.length ≤ 2 * i) (endsOf l) (fun i out x hx hp => ?_) l.length 0 [] (Nat.zero_add _) (by simp) (fun _ => ?_)
  · have hi := lt_get hx
    have h2 := endStep_length out x
    refine ⟨by omega, fun hE => Ev.step (fun k => ?_) hE⟩
    simp only [skiarearef02_ends.l0]
    rw [if_pos (by omega), if_pos (by omega), rd39 hx, rvalid_eq', wrap_up hi (by omega)]
    simp only [Option.bind_some]
    unfold endStep
    by_cases h : Ok0 x
    · rw [if_pos (by simpa using h), if_pos (by simp; omega), if_pos (by simpa using h)]
    · rw [if_neg (by simpa using h), if_neg (by simpa using h)]
  · rw [List.drop_zero]
    refine Ev.step (f := fun _ => some _) (fun k => ?_) (Ev.now _)
    simp only [skiarearef02_ends.l0]
    rw [if_neg (by omega)]
    rfl
/-- One round of after. -/
def astep (n : Int) (s : Int × Bool) (x : Int) : Int × Bool := if n < x then (if s.2 = true then (if x < s.1 then (x, true) else s) else (x, true)) else s
def afterOf (l : List Int) (n : Int) : Int × Bool := l.foldl (astep n) (0, false)
theorem afold (n : Int) : ∀ (l : List Int) (s : Int × Bool), (s.2 = true → n < s.1) → ((l.foldl (astep n) s).2 = true ↔ s.2 = true ∨ ∃ e ∈ l, n < e) ∧
    ((l.foldl (astep n) s).2 = true → n < (l.foldl (astep n) s).1 ∧ ((l.foldl (astep n) s).1 ∈ l ∨ s.2 = true ∧ (l.foldl (astep n) s).1 = s.1) ∧ (s.2 = true → (l.foldl (astep n) s).1 ≤ s.1) ∧ ∀ e ∈ l, n < e → (l.foldl (astep n) s).1 ≤ e)
  | [], s, h => by
    refine ⟨by simp, fun h1 => ⟨h h1, .inr ⟨h1, rfl⟩, fun _ => Int.le_refl _, by simp⟩⟩
  | x :: l, s, h => by
    rw [List.foldl_cons]
    by_cases hx : n < x
    · by_cases h2 : s.2 = true
      · by_cases h3 : x < s.1
        · have e : astep n s x = (x, true) := by unfold astep; rw [if_pos hx, if_pos h2, if_pos h3]
          obtain ⟨a1, a2⟩ := afold n l (x, true) (fun _ => hx)
          rw [e]
          refine ⟨by rw [a1]; simp [h2], fun hh => ?_⟩
          obtain ⟨b1, b2, b3, b4⟩ := a2 hh
          have b3' := b3 rfl
          simp only at b3'
          refine ⟨b1, .inl ?_, fun _ => by omega, fun e' he hne => ?_⟩
          · rcases b2 with b2 | ⟨_, b2⟩
            · exact List.mem_cons_of_mem _ b2
            · rw [b2]; exact List.mem_cons_self
          · rcases List.mem_cons.1 he with rfl | he
            · exact b3'
            · exact b4 e' he hne
        · have e : astep n s x = s := by unfold astep; rw [if_pos hx, if_pos h2, if_neg h3]
          obtain ⟨a1, a2⟩ := afold n l s h
          rw [e]
          refine ⟨by rw [a1]; simp [h2], fun hh => ?_⟩
          obtain ⟨b1, b2, b3, b4⟩ := a2 hh
          have b3' := b3 h2
          refine ⟨b1, b2.imp (List.mem_cons_of_mem _) id, b3, fun e' he hne => ?_⟩
          rcases List.mem_cons.1 he with rfl | he
          · omega
          · exact b4 e' he hne
      · have e : astep n s x = (x, true) := by unfold astep; rw [if_pos hx, if_neg h2]
        obtain ⟨a1, a2⟩ := afold n l (x, true) (fun _ => hx)
        rw [e]
        refine ⟨by rw [a1]; simp [hx], fun hh => ?_⟩
        obtain ⟨b1, b2, b3, b4⟩ := a2 hh
        have b3' := b3 rfl
        simp only at b3'
        refine ⟨b1, .inl ?_, fun h' => absurd h' h2, fun e' he hne => ?_⟩
        · rcases b2 with b2 | ⟨_, b2⟩
          · exact List.mem_cons_of_mem _ b2
          · rw [b2]; exact List.mem_cons_self
        · rcases List.mem_cons.1 he with rfl | he
          · exact b3'
          · exact b4 e' he hne
    · have e : astep n s x = s := by unfold astep; rw [if_neg hx]
      obtain ⟨a1, a2⟩ := afold n l s h
      rw [e]
      refine ⟨by rw [a1]; simp [hx], fun hh => ?_⟩
      obtain ⟨b1, b2, b3, b4⟩ := a2 hh
      refine ⟨b1, b2.imp (List.mem_cons_of_mem _) id, b3, fun e' he hne => ?_⟩
      rcases List.mem_cons.1 he with rfl | he
      · omega
      · exact b4 e' he hne
theorem afterOf_iff (l : List Int) (n : Int) : (afterOf l n).2 = true ↔ ∃ e ∈ l, n < e := by
  have := (afold n l (0, false) (by simp)).1
  simpa [afterOf] using this
theorem afterOf_some {l : List Int} {n : Int} (h : (afterOf l n).2 = true) : n < (afterOf l n).1 ∧ (afterOf l n).1 ∈ l ∧ ∀ e ∈ l, n < e → (afterOf l n).1 ≤ e := by
  obtain ⟨b1, b2, _, b4⟩ := (afold n l (0, false) (by simp)).2 h
  exact ⟨b1, b2.elim id (fun h => absurd h.1 (by simp)), b4⟩
theorem after_ev (l : List Int) (n : Int) (hl : l.length < 9223372036854775807) : Ev (fun k => skiarearef02_after.f k l n) (afterOf l n) := by
  unfold skiarearef02_after.f
  refine ev_fold (fun k i s => skiarearef02_after.l0 k l n s.1 s.2 (i : Int)) (astep n) l (fun _ _ => True) (afterOf l n) (fun i s x hx _ => ?_) l.length 0 (0, false) (Nat.zero_add _) trivial (fun _ => ?_)
  · have hi := lt_get hx
    have hr : rd l (i : Int) = x := by unfold rd; rw [Int.toNat_natCast, List.getD_eq_getElem?_getD, hx, Option.getD_some]
    refine ⟨trivial, fun hE => Ev.step (fun k => ?_) hE⟩
    simp only [skiarearef02_after.l0]
    rw [if_pos (by omega), if_pos (by omega), hr, wrap_up hi (by omega)]
    unfold astep
    by_cases h1 : n < x
    · rw [if_pos h1, if_pos h1]
      by_cases h2 : s.2 = true
      · rw [if_pos h2, if_pos h2]
        by_cases h3 : x < s.1
        · rw [if_pos h3, if_pos h3]
        · rw [if_neg h3, if_neg h3]
      · rw [if_neg h2, if_neg h2]
    · rw [if_neg h1, if_neg h1]
  · rw [List.drop_zero]
    refine Ev.step (f := fun _ => some _) (fun k => ?_) (Ev.now _)
    simp only [skiarearef02_after.l0]
    rw [if_neg (by omega)]
    rfl
def hasB (a b : List S39) (t : Int) : Bool := coverOf a t && !coverOf b t
theorem hasB_iff (a b : List S39) (t : Int) : hasB a b t = true ↔ MemV t a ∧ ¬ MemV t b := by
  unfold hasB
  rw [Bool.and_eq_true, coverOf_iff, Bool.not_eq_true', ← Bool.not_eq_true, coverOf_iff]
theorem has_ev (a b : List S39) (t : Int) (ha : a.length < 1000000) (hb : b.length < 1000000) : Ev (fun k => skiarearef02_has.f k a b t) (hasB a b t) := by
  refine ⟨1000000, fun k hk => ?_⟩
  show skiarearef02_has.f k a b t = _
  unfold skiarearef02_has.f
  rw [rcover_eq a t k (by omega) (by omega)]
  simp only [Option.bind_some]
  unfold hasB
  cases coverOf a t with
  | false => rfl
  | true =>
    rw [if_pos rfl, rcover_eq b t k (by omega) (by omega)]
    rfl
/-- The ends of both lists. -/
def allEnds (a b : List S39) : List Int := endsOf a ++ endsOf b
theorem okOk0 {x : S39} (h : Ok39 x) : Ok0 x := by unfold Ok39 at h; unfold Ok0; omega
theorem memV_const {l : List S39} {E : List Int} (hE : ∀ x ∈ l, Ok39 x → x.f0 ∈ E ∧ x.f1 ∈ E) {t s : Int} (hts : t ≤ s) (hno : ∀ e ∈ E, t < e → s < e) : MemV s l ↔ MemV t l := by
  constructor
  · rintro ⟨x, hx, ho, h1, h2⟩
    obtain ⟨e0, e1⟩ := hE x hx ho
    refine ⟨x, hx, ho, ?_, by omega⟩
    rcases Int.lt_or_le t x.f0 with h | h
    · have := hno _ e0 h; omega
    · exact h
  · rintro ⟨x, hx, ho, h1, h2⟩
    obtain ⟨e0, e1⟩ := hE x hx ho
    exact ⟨x, hx, ho, by omega, hno _ e1 h2⟩
theorem has_const {a b : List S39} {t s : Int} (hts : t ≤ s) (hno : ∀ e ∈ allEnds a b, t < e → s < e) : hasB a b s = hasB a b t := by
  have ea : ∀ x ∈ a, Ok39 x → x.f0 ∈ allEnds a b ∧ x.f1 ∈ allEnds a b := fun x hx ho => ⟨List.mem_append_left _ ((endsOf_mem a _).2 ⟨x, hx, okOk0 ho, .inl rfl⟩), List.mem_append_left _ ((endsOf_mem a _).2 ⟨x, hx, okOk0 ho, .inr rfl⟩)⟩
  have eb : ∀ x ∈ b, Ok39 x → x.f0 ∈ allEnds a b ∧ x.f1 ∈ allEnds a b := fun x hx ho => ⟨List.mem_append_right _ ((endsOf_mem b _).2 ⟨x, hx, okOk0 ho, .inl rfl⟩), List.mem_append_right _ ((endsOf_mem b _).2 ⟨x, hx, okOk0 ho, .inr rfl⟩)⟩
  rw [Bool.eq_iff_iff, hasB_iff, hasB_iff, memV_const ea hts hno, memV_const eb hts hno]
theorem ends_range {a b : List S39} {e : Int} (h : e ∈ allEnds a b) : 0 ≤ e ∧ e ≤ 20000000 := by
  rcases List.mem_append.1 h with h | h
  · obtain ⟨x, _, ho, h1⟩ := (endsOf_mem _ _).1 h
    unfold Ok0 at ho
    rcases h1 with rfl | rfl <;> omega
  · obtain ⟨x, _, ho, h1⟩ := (endsOf_mem _ _).1 h
    unfold Ok0 at ho
    rcases h1 with rfl | rfl <;> omega
theorem has_end {a b : List S39} {t : Int} (h : hasB a b t = true) : ∃ e ∈ allEnds a b, t < e := by
  obtain ⟨⟨x, hx, ho, _, h2⟩, _⟩ := (hasB_iff _ _ _).1 h
  exact ⟨x.f1, List.mem_append_left _ ((endsOf_mem a _).2 ⟨x, hx, okOk0 ho, .inr rfl⟩), h2⟩
/-- What holds when the reference's Minus has come to the end t. -/
structure RInv (a b : List S39) (t : Int) (out : List S39) : Prop where
  plain : Plain out
  le : ∀ y ∈ out, y.f1 ≤ t
  mem : ∀ s, Mem s out ↔ s < t ∧ hasB a b s = true
/-- A round at t, to the next end u. -/
def rstep (a b : List S39) (t u : Int) (out : List S39) : List S39 :=
  if hasB a b t = true then (if hasB a b (t - 1) = true then out.dropLast ++ [⟨((out.getLast?).getD z39).f0, u⟩] else out ++ [⟨t, u⟩]) else out
theorem rstep_inv {a b : List S39} {t u : Int} {out : List S39} (h : RInv a b t out) (ht : 0 ≤ t) (htu : t < u) (hu : u ≤ 20000000) (hno : ∀ e ∈ allEnds a b, t < e → u ≤ e) : RInv a b u (rstep a b t u out) := by
  obtain ⟨plain, le, mem⟩ := h
  have hc : ∀ s, t ≤ s → s < u → hasB a b s = hasB a b t := fun s h1 h2 => has_const h1 (fun e he h3 => by have := hno e he h3; omega)
  unfold rstep
  by_cases h1 : hasB a b t = true
  · rw [if_pos h1]
    by_cases h2 : hasB a b (t - 1) = true
    · rw [if_pos h2]
      rcases List.eq_nil_or_concat out with rfl | ⟨pre, y, rfl⟩
      · exact absurd ((mem (t - 1)).2 ⟨by omega, h2⟩) (mem_nil _)
      · rw [List.concat_eq_append] at *
        rw [List.getLast?_concat, List.dropLast_concat, Option.getD_some]
        obtain ⟨hp, hy, ha⟩ := plain.init
        have hyt : y.f1 = t := by
          have h3 := le y (by simp)
          obtain ⟨z, hz, h4, h5⟩ := (mem (t - 1)).2 ⟨by omega, h2⟩
          rcases List.mem_append.1 hz with hz | hz
          · have := ha z hz; have := hy.2.1; omega
          · rw [List.mem_singleton.1 hz] at h5; omega
        unfold Ok39 at hy
        refine ⟨hp.snoc (by unfold Ok39; simp only; omega) ha, ?_, fun s => ?_⟩
        · intro z hz
          rcases List.mem_append.1 hz with hz | hz
          · have := ha z hz; omega
          · rw [List.mem_singleton.1 hz]; exact Int.le_refl _
        · have hm := mem s
          rw [mem_append, mem_one] at hm
          rw [mem_append, mem_one]
          simp only
          constructor
          · rintro (h3 | h3)
            · have := hm.1 (.inl h3); exact ⟨by omega, this.2⟩
            · rcases Int.lt_or_le s t with h4 | h4
              · exact ⟨by omega, (hm.1 (.inr ⟨h3.1, by omega⟩)).2⟩
              · exact ⟨h3.2, by rw [hc s h4 h3.2]; exact h1⟩
          · rintro ⟨h3, h4⟩
            rcases Int.lt_or_le s t with h5 | h5
            · rcases hm.2 ⟨h5, h4⟩ with h6 | h6
              · exact .inl h6
              · exact .inr ⟨h6.1, by omega⟩
            · exact .inr ⟨by omega, h3⟩
    · rw [if_neg h2]
      refine ⟨plain.snoc (by unfold Ok39; simp only; omega) (fun y hy => ?_), ?_, fun s => ?_⟩
      · have h3 := le y hy
        simp only
        rcases Int.lt_or_eq_of_le h3 with h4 | h4
        · exact h4
        · refine absurd ((mem (t - 1)).1 ⟨y, hy, ?_, by omega⟩).2 h2
          have := (plain.1 y hy).2.1
          omega
      · intro z hz
        rcases List.mem_append.1 hz with hz | hz
        · have := le z hz; omega
        · rw [List.mem_singleton.1 hz]; exact Int.le_refl _
      · rw [mem_append, mem_one, mem]
        simp only
        constructor
        · rintro (h3 | h3)
          · exact ⟨by omega, h3.2⟩
          · exact ⟨h3.2, by rw [hc s h3.1 h3.2]; exact h1⟩
        · rintro ⟨h3, h4⟩
          rcases Int.lt_or_le s t with h5 | h5
          · exact .inl ⟨h5, h4⟩
          · exact .inr ⟨h5, h3⟩
  · rw [if_neg h1]
    refine ⟨plain, fun y hy => by have := le y hy; omega, fun s => ?_⟩
    rw [mem]
    constructor
    · rintro ⟨h3, h4⟩
      exact ⟨by omega, h4⟩
    · rintro ⟨h3, h4⟩
      rcases Int.lt_or_le s t with h5 | h5
      · exact ⟨h5, h4⟩
      · rw [hc s h5 h3] at h4
        exact absurd h4 h1
theorem rstep_length (a b : List S39) (t u : Int) (out : List S39) : (rstep a b t u out).length ≤ out.length + 1 := by
  unfold rstep
  split
  · split
    · rw [List.length_append, List.length_dropLast, List.length_singleton]; omega
    · simp
  · omega
theorem filter_shorter {E : List Int} {t u : Int} (h : u ∈ E) (htu : t < u) : (E.filter (fun e => decide (u < e))).length < (E.filter (fun e => decide (t < e))).length := by
  induction E with
  | nil => simp at h
  | cons e E ih =>
    have hsub : (E.filter (fun e => decide (u < e))).length ≤ (E.filter (fun e => decide (t < e))).length := by
      have : E.filter (fun e => decide (u < e)) = (E.filter (fun e => decide (t < e))).filter (fun e => decide (u < e)) := by
        rw [List.filter_filter]
        apply List.filter_congr
        intro x _
        by_cases h1 : u < x
        · have : t < x := by omega
          simp [h1, this]
        · simp [h1]
      rw [this]
      exact List.length_filter_le _ _
    rw [List.filter_cons, List.filter_cons]
    rcases List.mem_cons.1 h with rfl | h
    · rw [if_neg (by simp), if_pos (by simpa using htu)]
      simp only [List.length_cons]
      omega
    · have := ih h
      by_cases h1 : u < e
      · rw [if_pos (by simpa using h1), if_pos (by simp; omega)]
        simp only [List.length_cons]
        omega
      · rw [if_neg (by simpa using h1)]
        split
        · simp only [List.length_cons]; omega
        · exact this
theorem wrap_dec {n : Nat} (h : n < 1000000000000) : wrap64 (((n + 1 : Nat) : Int) - 1) = (n : Int) := by unfold wrap64; omega
/-- The last round's work, once an interval stands at the end: its To becomes u. -/
theorem j2_true (a b : List S39) (E : List Int) (pre : List S39) (y : S39) (t : Int) (r : List S39) (hp : pre.length < 1000000000000) (hE : E.length < 100000000) (ha : a.length < 1000000) (hb : b.length < 1000000) (h1 : hasB a b t = true)
    (h : Ev (fun k => skiarearef02_Minus.l0 k a b E (pre ++ [⟨y.f0, (afterOf E t).1⟩]) (afterOf E t).1 (afterOf E t).2) r) : Ev (fun k => skiarearef02_Minus.j2 k a b E (pre ++ [y]) t) r := by
  have hr : rd_T39 (pre ++ [y]) (pre.length : Int) = y := rd39 (by simp)
  have hl : (pre ++ [y]).length = pre.length + 1 := by simp
  have hw : wrap64 (((pre ++ [y]).length : Int) - 1) = (pre.length : Int) := by rw [hl]; exact wrap_dec hp
  refine Ev.step (f := fun k => (skiarearef02_has.f k a b t).bind fun t1 => if t1 = true then ((skiarearef02_after.f k E t).bind fun b1 => (skiarearef02_after.f k E t).bind fun b2 => skiarearef02_Minus.l0 k a b E (pre ++ [⟨y.f0, b1.1⟩]) b2.1 b2.2) else ((skiarearef02_after.f k E t).bind fun b1 => skiarearef02_Minus.l0 k a b E (pre ++ [y]) b1.1 b1.2)) (fun k => ?_) ?_
  · simp only [skiarearef02_Minus.j2]
    have g1 : (0 : Int) ≤ (pre.length : Int) := by omega
    have g2 : (pre.length : Int) < ((pre ++ [y]).length : Int) := by omega
    rw [hw]
    simp only [g1, g2, if_true, hr, Int.toNat_natCast, set_last]
  · refine Ev.bind (has_ev a b t ha hb) ?_
    simp only [h1, if_true]
    exact Ev.bind (after_ev E t (by omega)) (Ev.bind (after_ev E t (by omega)) h)
theorem rminus_loop (a b : List S39) (ha : a.length < 1000000) (hb : b.length < 1000000) (hE : (allEnds a b).length < 100000000) : ∀ (m : Nat) (t : Int) (out : List S39), ((allEnds a b).filter (fun e => decide (t < e))).length = m → RInv a b t out → 0 ≤ t → t ≤ 20000000 → out.length + m < 1000000000 →
    ∃ r, Ev (fun k => skiarearef02_Minus.l0 k a b (allEnds a b) out t true) r ∧ Plain r ∧ ∀ s, Mem s r ↔ hasB a b s = true := by
  intro m
  induction m using Nat.strongRecOn with
  | _ m ih =>
    intro t out hm hI ht0 ht1 hlen
    have hw1 : wrap64 (t - 1) = t - 1 := by unfold wrap64; omega
    have hae := after_ev (allEnds a b) t (by omega)
    by_cases h1 : hasB a b t = true
    · have h2 := (afterOf_iff (allEnds a b) t).2 (has_end h1)
      obtain ⟨h3, h4, h5⟩ := afterOf_some h2
      have hu := ends_range h4
      have hI' := rstep_inv hI ht0 h3 hu.2 (fun e he h6 => h5 e he h6)
      have hl' := rstep_length a b t (afterOf (allEnds a b) t).1 out
      have hsh := filter_shorter h4 h3
      obtain ⟨r, hr, hr1, hr2⟩ := ih _ (by omega) (afterOf (allEnds a b) t).1 _ rfl hI' hu.1 hu.2 (by omega)
      refine ⟨r, ?_, hr1, hr2⟩
      rw [← h2] at hr
      refine Ev.step (f := fun k => (skiarearef02_has.f k a b t).bind fun t1 => if t1 = true then ((skiarearef02_has.f k a b (t - 1)).bind fun t2 => skiarearef02_Minus.j1 k a b (allEnds a b) out t (!t2)) else skiarearef02_Minus.j1 k a b (allEnds a b) out t false) (fun k => ?_) ?_
      · simp only [skiarearef02_Minus.l0]
        rw [if_pos trivial, hw1]
      · refine Ev.bind (has_ev a b t ha hb) ?_
        simp only [h1, if_true]
        refine Ev.bind (has_ev a b (t - 1) ha hb) ?_
        unfold rstep at hr
        rw [if_pos h1] at hr
        by_cases h6 : hasB a b (t - 1) = true
        · rw [if_pos h6] at hr
          rw [h6]
          rcases List.eq_nil_or_concat out with rfl | ⟨pre, y, rfl⟩
          · exact absurd ((hI.mem (t - 1)).2 ⟨by omega, h6⟩) (mem_nil _)
          · rw [List.concat_eq_append] at *
            rw [List.getLast?_concat, List.dropLast_concat, Option.getD_some] at hr
            refine Ev.step (f := fun k => skiarearef02_Minus.j2 k a b (allEnds a b) (pre ++ [y]) t) (fun k => ?_) (j2_true a b _ pre y t r (by simp at hlen; omega) hE ha hb h1 hr)
            simp only [skiarearef02_Minus.j1]
            rw [if_neg (by simp)]
        · rw [if_neg h6] at hr
          have h6' : hasB a b (t - 1) = false := by simpa using h6
          rw [h6']
          refine Ev.step (f := fun k => skiarearef02_Minus.j2 k a b (allEnds a b) (out ++ [⟨t, t⟩]) t) (fun k => ?_) (j2_true a b _ out ⟨t, t⟩ t r (by omega) hE ha hb h1 hr)
          simp only [skiarearef02_Minus.j1]
          rw [if_pos (by simp), if_pos (by omega)]
    · have h1' : hasB a b t = false := by simpa using h1
      have key : ∀ r, Ev (fun k => skiarearef02_Minus.l0 k a b (allEnds a b) out (afterOf (allEnds a b) t).1 (afterOf (allEnds a b) t).2) r → Ev (fun k => skiarearef02_Minus.l0 k a b (allEnds a b) out t true) r := fun r hr => by
        refine Ev.step (f := fun k => (skiarearef02_has.f k a b t).bind fun t1 => if t1 = true then ((skiarearef02_has.f k a b (t - 1)).bind fun t2 => skiarearef02_Minus.j1 k a b (allEnds a b) out t (!t2)) else skiarearef02_Minus.j1 k a b (allEnds a b) out t false) (fun k => ?_) ?_
        · simp only [skiarearef02_Minus.l0]
          rw [if_pos trivial, hw1]
        · refine Ev.bind (has_ev a b t ha hb) ?_
          rw [h1']
          refine Ev.step (f := fun k => skiarearef02_Minus.j2 k a b (allEnds a b) out t) (fun k => ?_) (Ev.step (f := fun k => (skiarearef02_has.f k a b t).bind fun t1 => if t1 = true then ((skiarearef02_after.f k (allEnds a b) t).bind fun b1 => if 0 ≤ wrap64 ((out.length : Int) - 1) then (if wrap64 ((out.length : Int) - 1) < (out.length : Int) then ((skiarearef02_after.f k (allEnds a b) t).bind fun b2 => skiarearef02_Minus.l0 k a b (allEnds a b) (out.set (wrap64 ((out.length : Int) - 1)).toNat ⟨(rd_T39 out (wrap64 ((out.length : Int) - 1))).f0, b1.1⟩) b2.1 b2.2) else none) else none) else ((skiarearef02_after.f k (allEnds a b) t).bind fun b1 => skiarearef02_Minus.l0 k a b (allEnds a b) out b1.1 b1.2)) (fun k => ?_) ?_)
          · show skiarearef02_Minus.j1 (k + 1) a b (allEnds a b) out t false = _
            simp only [skiarearef02_Minus.j1]
            rw [if_neg (by simp)]
          · simp only [skiarearef02_Minus.j2]
          · refine Ev.bind (has_ev a b t ha hb) ?_
            rw [h1']
            exact Ev.bind hae hr
      by_cases h2 : (afterOf (allEnds a b) t).2 = true
      · obtain ⟨h3, h4, h5⟩ := afterOf_some h2
        have hu := ends_range h4
        have hI' := rstep_inv hI ht0 h3 hu.2 (fun e he h6 => h5 e he h6)
        unfold rstep at hI'
        rw [if_neg h1] at hI'
        have hsh := filter_shorter h4 h3
        obtain ⟨r, hr, hr1, hr2⟩ := ih _ (by omega) (afterOf (allEnds a b) t).1 _ rfl hI' hu.1 hu.2 (by omega)
        exact ⟨r, key r (by rw [h2]; exact hr), hr1, hr2⟩
      · have h2' : (afterOf (allEnds a b) t).2 = false := by simpa using h2
        refine ⟨out, key out ?_, hI.plain, fun s => ?_⟩
        · rw [h2']
          refine Ev.step (f := fun _ => some _) (fun k => ?_) (Ev.now _)
          simp only [skiarearef02_Minus.l0]
          rw [if_neg (by simp)]
        · rw [hI.mem]
          constructor
          · exact fun h => h.2
          · intro h
            refine ⟨?_, h⟩
            rcases Int.lt_or_le s t with h3 | h3
            · exact h3
            · have : hasB a b s = hasB a b t := has_const h3 (fun e he h4 => absurd ((afterOf_iff _ _).2 ⟨e, he, h4⟩) h2)
              rw [this] at h
              exact absurd h h1
theorem endsOf_length (l : List S39) : (endsOf l).length ≤ 2 * l.length := by
  have := efold_length l []
  simpa [endsOf] using this
/-- The reference's Minus. -/
theorem rminus_ev (a b : List S39) (ha : a.length < 1000000) (hb : b.length < 1000000) : ∃ r, Ev (fun k => skiarearef02_Minus.f k a b) r ∧ Plain r ∧ ∀ s, Mem s r ↔ MemV s a ∧ ¬ MemV s b := by
  have hl1 := endsOf_length a
  have hl2 := endsOf_length b
  have hE : (allEnds a b).length < 100000000 := by unfold allEnds; rw [List.length_append]; omega
  have key : ∀ r, Ev (fun k => skiarearef02_Minus.l0 k a b (allEnds a b) [] (afterOf (allEnds a b) (-1)).1 (afterOf (allEnds a b) (-1)).2) r → Ev (fun k => skiarearef02_Minus.f k a b) r := fun r hr => by
    unfold skiarearef02_Minus.f
    refine Ev.bind (ends_ev a ha) (Ev.bind (ends_ev b hb) ?_)
    have g1 : (endsOf a).length + (endsOf b).length < 17592186044416 := by omega
    simp only [g1, if_true]
    exact Ev.bind (Ev.now (allEnds a b)) (Ev.bind (after_ev _ _ (by omega)) hr)
  have hno : ∀ s, s < 0 → hasB a b s = false := fun s hs => by
    cases h : hasB a b s with
    | false => rfl
    | true =>
      obtain ⟨⟨x, _, ho, h1, _⟩, _⟩ := (hasB_iff _ _ _).1 h
      unfold Ok39 at ho
      omega
  by_cases h2 : (afterOf (allEnds a b) (-1)).2 = true
  · obtain ⟨h3, h4, h5⟩ := afterOf_some h2
    have hu := ends_range h4
    have hI : RInv a b (afterOf (allEnds a b) (-1)).1 [] := ⟨Plain.nil, by simp, fun s => ⟨fun h => absurd h (mem_nil s), fun h => by
      have h6 : hasB a b s = false := by
        rcases Int.lt_or_le s 0 with h7 | h7
        · exact hno s h7
        · rw [has_const (t := -1) (s := s) (by omega) (fun e he h8 => by have := h5 e he h8; omega)]
          exact hno _ (by omega)
      rw [h6] at h
      exact absurd h.2 (by simp)⟩⟩
    have hfl := List.length_filter_le (fun e => decide ((afterOf (allEnds a b) (-1)).1 < e)) (allEnds a b)
    obtain ⟨r, hr, hr1, hr2⟩ := rminus_loop a b ha hb hE _ (afterOf (allEnds a b) (-1)).1 [] rfl hI hu.1 hu.2 (by simp; omega)
    exact ⟨r, key r (by rw [h2]; exact hr), hr1, fun s => by rw [hr2, hasB_iff]⟩
  · have h2' : (afterOf (allEnds a b) (-1)).2 = false := by simpa using h2
    refine ⟨[], key [] ?_, Plain.nil, fun s => ⟨fun h => absurd h (mem_nil s), fun h => ?_⟩⟩
    · rw [h2']
      refine Ev.step (f := fun _ => some _) (fun k => ?_) (Ev.now _)
      simp only [skiarearef02_Minus.l0]
      rw [if_neg (by simp)]
    · have h3 := (hasB_iff a b s).2 h
      rcases Int.lt_or_le s 0 with h7 | h7
      · rw [hno s h7] at h3; simp at h3
      · rw [has_const (t := -1) (s := s) (by omega) (fun e he h8 => absurd ((afterOf_iff _ _).2 ⟨e, he, h8⟩) h2), hno _ (by omega)] at h3
        simp at h3
end Go.Proofs.Ytmijeihhioiliaa.Pure
