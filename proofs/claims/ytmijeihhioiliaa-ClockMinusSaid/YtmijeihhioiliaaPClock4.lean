/- Minus of the program: what it makes is in order and apart, and has the times of the first list that the second has not. -/
import Derived.Test.YtmijeihhioiliaaPClock3
import Derived.Test.YtmijeihhioiliaaPx8
namespace Go.Proofs.Ytmijeihhioiliaa.Pure
open Go.RowKit Go.Proofs.Ytmijeihhioiliaa.Px Go.Proofs.YtmijeihhioiliaaW.PrintWords

/-- One cut of an interval that goes from s.2 to 'to'. -/
def cstep (e : Int) (s : List S39 × Int) (c : S39) : List S39 × Int :=
  if c.f1 ≤ s.2 ∨ e ≤ c.f0 then s else (if s.2 < c.f0 then s.1 ++ [⟨s.2, c.f0⟩] else s.1, if e < c.f1 then e else c.f1)
def ostep (cuts : List S39) (out : List S39) (x : S39) : List S39 :=
  let s := cuts.foldl (cstep x.f1) (out, x.f0)
  if s.2 < x.f1 then s.1 ++ [⟨s.2, x.f1⟩] else s.1
def minusOf (a b : List S39) : List S39 := (mergeOf a).foldl (ostep (mergeOf b)) []
theorem cstep_length (e : Int) (s : List S39 × Int) (c : S39) : (cstep e s c).1.length ≤ s.1.length + 1 := by
  unfold cstep
  split
  · omega
  · simp only
    split <;> simp
theorem cfold_length (e : Int) : ∀ (cuts : List S39) (s : List S39 × Int), (cuts.foldl (cstep e) s).1.length ≤ s.1.length + cuts.length
  | [], s => by simp
  | c :: cuts, s => by
    have h1 := cfold_length e cuts (cstep e s c)
    have h2 := cstep_length e s c
    simp only [List.foldl_cons, List.length_cons]
    omega
theorem ostep_length (cuts out : List S39) (x : S39) : (ostep cuts out x).length ≤ out.length + (cuts.length + 1) := by
  have h := cfold_length x.f1 cuts (out, x.f0)
  unfold ostep
  simp only at h ⊢
  split
  · simp; omega
  · omega
theorem ofold_length (cuts : List S39) : ∀ (ms out : List S39), (ms.foldl (ostep cuts) out).length ≤ out.length + ms.length * (cuts.length + 1)
  | [], out => by simp
  | x :: ms, out => by
    have h1 := ofold_length cuts ms (ostep cuts out x)
    have h2 := ostep_length cuts out x
    simp only [List.foldl_cons, List.length_cons, Nat.succ_mul]
    omega
/-- What holds while the interval x is cut: pc the cuts so far, rest those to come. -/
structure CutInv (out0 : List S39) (x : S39) (pc rest : List S39) (s : List S39 × Int) : Prop where
  lo : x.f0 ≤ s.2
  hi : s.2 ≤ x.f1
  plain : Plain s.1
  before : ∀ y ∈ s.1, y.f1 < s.2
  next : s.2 = x.f0 ∨ ∀ c ∈ rest, s.2 < c.f0
  mem : ∀ t, Mem t s.1 ↔ Mem t out0 ∨ (x.f0 ≤ t ∧ t < s.2 ∧ ¬ Mem t pc)
  free : ∀ t, s.2 ≤ t → t < x.f1 → ¬ Mem t pc
theorem cut_inv {out0 : List S39} {x c : S39} {pc rest : List S39} {s : List S39 × Int} (hx : Ok39 x) (hc : Ok39 c) (h : CutInv out0 x pc (c :: rest) s) (hr : ∀ c' ∈ rest, c.f1 < c'.f0) :
    CutInv out0 x (pc ++ [c]) rest (cstep x.f1 s c) := by
  obtain ⟨lo, hi, plain, before, next, mem, free⟩ := h
  have next' : s.2 = x.f0 ∨ s.2 < c.f0 := next.imp id fun h => h c List.mem_cons_self
  unfold Ok39 at hc hx
  unfold cstep
  by_cases h1 : c.f1 ≤ s.2 ∨ x.f1 ≤ c.f0
  · rw [if_pos h1]
    refine ⟨lo, hi, plain, before, next.imp id fun h c' hc' => h c' (List.mem_cons_of_mem _ hc'), fun t => ?_, fun t h2 h3 => ?_⟩
    · rw [mem, mem_append, mem_one]
      constructor
      · rintro (h2 | ⟨h2, h3, h4⟩)
        · exact .inl h2
        · refine .inr ⟨h2, h3, fun h5 => h5.elim h4 fun h5 => ?_⟩
          rcases h1 with h1 | h1
          · rcases next' with h6 | h6 <;> omega
          · omega
      · rintro (h2 | ⟨h2, h3, h4⟩)
        · exact .inl h2
        · exact .inr ⟨h2, h3, fun h5 => h4 (.inl h5)⟩
    · rw [mem_append, mem_one]
      rintro (h4 | h4)
      · exact free t h2 h3 h4
      · rcases h1 with h1 | h1 <;> omega
  · rw [if_neg h1]
    have h2 : s.2 < c.f1 ∧ c.f0 < x.f1 := by omega
    have hfr : ∀ z : Int, z = (if x.f1 < c.f1 then x.f1 else c.f1) → z ≤ x.f1 ∧ z ≤ c.f1 ∧ (z = x.f1 ∨ z = c.f1) := fun z hz => by
      split at hz <;> omega
    generalize hz : (if x.f1 < c.f1 then x.f1 else c.f1) = z
    obtain ⟨z1, z2, z3⟩ := hfr z hz.symm
    have zlt : s.2 ≤ z := by omega
    have zc : c.f0 < z := by omega
    by_cases h3 : s.2 < c.f0
    · rw [if_pos h3]
      refine ⟨by simp only; omega, z1, ?_, ?_, .inr fun c' hc' => by have := hr c' hc'; simp only; omega, fun t => ?_, fun t h4 h5 => ?_⟩
      · refine plain.snoc ?_ before
        unfold Ok39; simp only; omega
      · intro y hy
        rcases List.mem_append.1 hy with hy | hy
        · have := before y hy; simp only; omega
        · rw [List.mem_singleton.1 hy]; exact zc
      · simp only
        rw [mem_append, mem_one, mem, mem_append, mem_one]
        simp only
        constructor
        · rintro ((h4 | ⟨h4, h5, h6⟩) | h4)
          · exact .inl h4
          · exact .inr ⟨h4, by omega, fun h7 => h7.elim h6 (fun h7 => by omega)⟩
          · exact .inr ⟨by omega, by omega, fun h7 => h7.elim (free t h4.1 (by omega)) (fun h7 => by omega)⟩
        · rintro (h4 | ⟨h4, h5, h6⟩)
          · exact .inl (.inl h4)
          · by_cases h7 : t < s.2
            · exact .inl (.inr ⟨h4, h7, fun h8 => h6 (.inl h8)⟩)
            · refine .inr ⟨by omega, ?_⟩
              rcases Int.lt_or_le t c.f0 with h8 | h8
              · exact h8
              · exact absurd (.inr ⟨h8, by omega⟩) h6
      · simp only at h4
        rw [mem_append, mem_one]
        rintro (h6 | h6)
        · exact free t (by omega) h5 h6
        · omega
    · rw [if_neg h3]
      have h4 : s.2 = x.f0 := next'.elim id fun h => absurd h h3
      refine ⟨by simp only; omega, z1, plain, fun y hy => by have := before y hy; simp only; omega, .inr fun c' hc' => by have := hr c' hc'; simp only; omega, fun t => ?_, fun t h5 h6 => ?_⟩
      · simp only
        rw [mem, mem_append, mem_one]
        constructor
        · rintro (h5 | ⟨h5, h6, h7⟩)
          · exact .inl h5
          · omega
        · rintro (h5 | ⟨h5, h6, h7⟩)
          · exact .inl h5
          · exact absurd (.inr ⟨by omega, by omega⟩) h7
      · simp only at h5
        rw [mem_append, mem_one]
        rintro (h7 | h7)
        · exact free t (by omega) h6 h7
        · omega
theorem cfold_inv {out0 : List S39} {x : S39} (hx : Ok39 x) : ∀ (rest pc : List S39) (s : List S39 × Int), Plain rest → CutInv out0 x pc rest s → CutInv out0 x (pc ++ rest) [] (rest.foldl (cstep x.f1) s)
  | [], pc, s, _, h => by simpa using h
  | c :: rest, pc, s, hp, h => by
    have := cfold_inv hx rest (pc ++ [c]) (cstep x.f1 s c) hp.tail (cut_inv hx (hp.1 c List.mem_cons_self) h (fun c' hc' => (List.pairwise_cons.1 hp.2).1 c' hc'))
    simpa using this
theorem ostep_inv {cuts out : List S39} {x : S39} (hx : Ok39 x) (hc : Plain cuts) (ho : Plain out) (hb : ∀ y ∈ out, y.f1 < x.f0) :
    Plain (ostep cuts out x) ∧ (∀ t, Mem t (ostep cuts out x) ↔ Mem t out ∨ (x.f0 ≤ t ∧ t < x.f1 ∧ ¬ Mem t cuts)) ∧ ∀ y ∈ ostep cuts out x, y.f1 ≤ x.f1 := by
  have h := cfold_inv (out0 := out) hx cuts [] (out, x.f0) hc ⟨Int.le_refl _, by have := hx.2.1; simp only; omega, ho, hb, .inl rfl, fun t => ⟨.inl, fun h => h.elim id (fun h => by omega)⟩, fun t _ _ => mem_nil t⟩
  rw [List.nil_append] at h
  unfold ostep
  simp only
  generalize cuts.foldl (cstep x.f1) (out, x.f0) = s at h
  obtain ⟨lo, hi, plain, before, _, mem, free⟩ := h
  unfold Ok39 at hx
  by_cases h1 : s.2 < x.f1
  · rw [if_pos h1]
    refine ⟨plain.snoc (by unfold Ok39; simp only; omega) before, fun t => ?_, ?_⟩
    · rw [mem_append, mem_one, mem]
      simp only
      constructor
      · rintro ((h2 | ⟨h2, h3, h4⟩) | ⟨h2, h3⟩)
        · exact .inl h2
        · exact .inr ⟨h2, by omega, h4⟩
        · exact .inr ⟨by omega, h3, free t h2 h3⟩
      · rintro (h2 | ⟨h2, h3, h4⟩)
        · exact .inl (.inl h2)
        · by_cases h5 : t < s.2
          · exact .inl (.inr ⟨h2, h5, h4⟩)
          · exact .inr ⟨by omega, h3⟩
    · intro y hy
      rcases List.mem_append.1 hy with hy | hy
      · have := before y hy; omega
      · rw [List.mem_singleton.1 hy]; exact Int.le_refl _
  · rw [if_neg h1]
    refine ⟨plain, fun t => ?_, fun y hy => by have := before y hy; omega⟩
    rw [mem]
    constructor
    · rintro (h2 | ⟨h2, h3, h4⟩)
      · exact .inl h2
      · exact .inr ⟨h2, by omega, h4⟩
    · rintro (h2 | ⟨h2, h3, h4⟩)
      · exact .inl h2
      · exact .inr ⟨h2, by omega, h4⟩
theorem ofold_inv {cuts : List S39} (hc : Plain cuts) : ∀ (ms out : List S39), Plain ms → Plain out → (∀ y ∈ out, ∀ x ∈ ms, y.f1 < x.f0) →
    Plain (ms.foldl (ostep cuts) out) ∧ ∀ t, Mem t (ms.foldl (ostep cuts) out) ↔ Mem t out ∨ (Mem t ms ∧ ¬ Mem t cuts)
  | [], out, _, ho, _ => ⟨ho, fun t => ⟨.inl, fun h => h.elim id (fun h => absurd h.1 (mem_nil t))⟩⟩
  | x :: ms, out, hm, ho, hb => by
    obtain ⟨h1, h2, h3⟩ := ostep_inv (hm.1 x List.mem_cons_self) hc ho (fun y hy => hb y hy x List.mem_cons_self)
    obtain ⟨h4, h5⟩ := ofold_inv hc ms (ostep cuts out x) hm.tail h1 (fun y hy z hz => by have := h3 y hy; have := (List.pairwise_cons.1 hm.2).1 z hz; omega)
    refine ⟨h4, fun t => ?_⟩
    rw [List.foldl_cons, h5, h2, mem_cons]
    constructor
    · rintro ((h | ⟨h6, h7, h8⟩) | ⟨h6, h7⟩)
      · exact .inl h
      · exact .inr ⟨.inl ⟨h6, h7⟩, h8⟩
      · exact .inr ⟨.inr h6, h7⟩
    · rintro (h | ⟨h6 | h6, h7⟩)
      · exact .inl (.inl h)
      · exact .inl (.inr ⟨h6.1, h6.2, h7⟩)
      · exact .inr ⟨h6, h7⟩
theorem minusOf_plain (a b : List S39) : Plain (minusOf a b) ∧ ∀ t, Mem t (minusOf a b) ↔ MemV t a ∧ ¬ MemV t b := by
  obtain ⟨h1, h2⟩ := mergeOf_plain a
  obtain ⟨h3, h4⟩ := mergeOf_plain b
  obtain ⟨h5, h6⟩ := ofold_inv h3 (mergeOf a) [] h1 Plain.nil (by simp)
  refine ⟨h5, fun t => ?_⟩
  unfold minusOf
  rw [h6, h2, h4]
  exact ⟨fun h => h.elim (fun h => absurd h (mem_nil t)) id, .inr⟩
theorem minusOf_length (a b : List S39) : (minusOf a b).length ≤ a.length * (b.length + 1) := by
  have h := ofold_length (mergeOf b) (mergeOf a) []
  have h1 := mergeOf_length a
  have h2 := mergeOf_length b
  have h3 : (mergeOf a).length * ((mergeOf b).length + 1) ≤ a.length * (b.length + 1) := Nat.mul_le_mul h1 (by omega)
  unfold minusOf
  simp at h
  omega
theorem mn_eq (a b : Int) : mn a b = if b < a then b else a := by unfold mn; rfl
theorem minus_l1 (c ms : List S39) (n i : Int) (x : S39) (out : List S39) (r : List S39) (B : Nat) (hc : c.length < 1000000) (hB : B < 8000000000000) (ho : out.length ≤ B)
    (hE : Ev (fun k => clock_Minus.l0 k (ostep c out x) c ms n (wrap64 (i + 1))) r) : Ev (fun k => clock_Minus.l1 k out c ms n i c (c.length : Int) ((0 : Nat) : Int) x.f0 x.f1) r := by
  refine ev_fold (fun k j s => clock_Minus.l1 k s.1 c ms n i c (c.length : Int) (j : Int) s.2 x.f1) (cstep x.f1) c (fun j s => s.1.length ≤ B + j) r (fun j s y hy hp' => ?_) c.length 0 (out, x.f0) (Nat.zero_add _) ho (fun hl => ?_)
  · have hj := lt_get hy
    have hji : (j : Int) < (c.length : Int) := by omega
    have hj0 : (0 : Int) ≤ (j : Int) := by omega
    have hw := wrap_up hj (by omega)
    have hlen : s.1.length < 8796093022208 := by omega
    refine ⟨by have := cstep_length x.f1 s y; omega, fun hE' => ?_⟩
    clear hE hp' hB ho hc hj
    by_cases h1 : y.f1 ≤ s.2
    · refine Ev.step (f := fun k => clock_Minus.j2 k s.1 c ms n i c (c.length : Int) (j : Int) true s.2 x.f1 y.f0 y.f1) (fun k => ?_) (Ev.step (f := fun k => clock_Minus.l1 k s.1 c ms n i c (c.length : Int) ((j + 1 : Nat) : Int) s.2 x.f1) (fun k => ?_) ?_)
      · simp only [clock_Minus.l1]
        rw [if_pos hji, if_pos hj0, if_pos hji, rd39 hy, if_pos h1]
      · simp only [clock_Minus.j2]
        rw [if_pos trivial, hw]
      · have e1 : cstep x.f1 s y = s := by unfold cstep; rw [if_pos (.inl h1)]
        rwa [e1] at hE'
    · refine Ev.step (f := fun k => clock_Minus.j2 k s.1 c ms n i c (c.length : Int) (j : Int) (decide (x.f1 ≤ y.f0)) s.2 x.f1 y.f0 y.f1) (fun k => ?_) ?_
      · simp only [clock_Minus.l1]
        rw [if_pos hji, if_pos hj0, if_pos hji, rd39 hy, if_neg h1]
      · by_cases h2 : x.f1 ≤ y.f0
        · refine Ev.step (f := fun k => clock_Minus.l1 k s.1 c ms n i c (c.length : Int) ((j + 1 : Nat) : Int) s.2 x.f1) (fun k => ?_) ?_
          · simp only [clock_Minus.j2]
            rw [if_pos (by simpa using h2), hw]
          · have e1 : cstep x.f1 s y = s := by unfold cstep; rw [if_pos (.inr h2)]
            rwa [e1] at hE'
        · have e1 : cstep x.f1 s y = (if s.2 < y.f0 then s.1 ++ [⟨s.2, y.f0⟩] else s.1, if x.f1 < y.f1 then x.f1 else y.f1) := by unfold cstep; rw [if_neg (fun h => h.elim h1 h2)]
          rw [e1] at hE'
          simp only at hE'
          by_cases h3 : s.2 < y.f0
          · rw [if_pos h3] at hE'
            refine Ev.step (fun k => ?_) hE'
            simp only [clock_Minus.j2]
            rw [if_neg (by simpa using h2), if_pos h3, if_pos hlen, hw, mn_eq]
          · rw [if_neg h3] at hE'
            refine Ev.step (fun k => ?_) hE'
            simp only [clock_Minus.j2]
            rw [if_neg (by simpa using h2), if_neg h3, hw, mn_eq]
  · rw [List.drop_zero] at hl ⊢
    have hn : ¬ (c.length : Int) < (c.length : Int) := by omega
    unfold ostep at hE
    simp only at hE
    generalize c.foldl (cstep x.f1) (out, x.f0) = s at hl hE ⊢
    have hlen : s.1.length < 8796093022208 := by omega
    by_cases h1 : s.2 < x.f1
    · rw [if_pos h1] at hE
      refine Ev.step (fun k => ?_) hE
      simp only [clock_Minus.l1]
      rw [if_neg hn, if_pos h1, if_pos hlen]
    · rw [if_neg h1] at hE
      refine Ev.step (fun k => ?_) hE
      simp only [clock_Minus.l1]
      rw [if_neg hn, if_neg h1]
theorem minus_l0 (c ms : List S39) (hc : c.length < 1000000) (hm : ms.length < 1000000) : Ev (fun k => clock_Minus.l0 k [] c ms (ms.length : Int) ((0 : Nat) : Int)) (ms.foldl (ostep c) []) := by
  have hT : ms.length * (c.length + 1) ≤ 1000000000000 := Nat.le_trans (Nat.mul_le_mul (show ms.length ≤ 1000000 by omega) (show c.length + 1 ≤ 1000000 by omega)) (by decide)
  refine ev_fold (fun k i out => clock_Minus.l0 k out c ms (ms.length : Int) (i : Int)) (ostep c) ms (fun i out => out.length ≤ i * (c.length + 1)) (ms.foldl (ostep c) []) (fun i out x hx hp => ?_) ms.length 0 [] (Nat.zero_add _) (by simp) (fun _ => ?_)
  · have hi := lt_get hx
    have hiM : (i + 1) * (c.length + 1) ≤ ms.length * (c.length + 1) := Nat.mul_le_mul_right _ hi
    have h2 := ostep_length c out x
    have hii : (i : Int) < (ms.length : Int) := by omega
    have hi0 : (0 : Int) ≤ (i : Int) := by omega
    have hw := wrap_up hi (by omega)
    rw [Nat.succ_mul] at hiM
    refine ⟨by simp only [Nat.succ_mul]; omega, fun hE => ?_⟩
    refine Ev.step (f := fun k => clock_Minus.l1 k out c ms (ms.length : Int) (i : Int) c (c.length : Int) ((0 : Nat) : Int) x.f0 x.f1) (fun k => ?_) (minus_l1 c ms _ _ x out _ (i * (c.length + 1)) hc ?_ hp ?_)
    · simp only [clock_Minus.l0]
      rw [if_pos hii, if_pos hi0, if_pos hii, rd39 hx]
      rfl
    · generalize i * (c.length + 1) = q at *
      omega
    · rw [hw]
      exact hE
  · rw [List.drop_zero]
    refine Ev.step (f := fun _ => some _) (fun k => ?_) (Ev.now _)
    simp only [clock_Minus.l0]
    rw [if_neg (by omega)]
theorem minus_ev (a b : List S39) (ha : a.length < 1000000) (hb : b.length < 1000000) : Ev (fun k => clock_Minus.f k a b) (minusOf a b) := by
  unfold clock_Minus.f
  exact Ev.bind (merge_ev b hb) (Ev.bind (merge_ev a ha) (minus_l0 _ _ (Nat.lt_of_le_of_lt (mergeOf_length b) hb) (Nat.lt_of_le_of_lt (mergeOf_length a) ha)))
end Go.Proofs.Ytmijeihhioiliaa.Pure
