/- Sets of times: lists of intervals that are not empty, in order and apart; two such lists with the same times are the same list. -/
import Derived.Test.YtmijeihhioiliaaPLoop
import Derived.Test.YtmijeihhioiliaaPx0
namespace Go.Proofs.Ytmijeihhioiliaa.Pure
open Go.RowKit Go.Proofs.Ytmijeihhioiliaa.Px

theorem S39.ext' {a b : S39} (h0 : a.f0 = b.f0) (h1 : a.f1 = b.f1) : a = b := by cases a; cases b; simp_all
/-- A valid interval that is not empty. -/
def Ok39 (x : S39) : Prop := 0 ≤ x.f0 ∧ x.f0 < x.f1 ∧ x.f1 ≤ 20000000
instance (x : S39) : Decidable (Ok39 x) := inferInstanceAs (Decidable (_ ∧ _))
/-- Not empty, in increasing order, apart. -/
def Plain (l : List S39) : Prop := (∀ x ∈ l, Ok39 x) ∧ l.Pairwise (fun a b => a.f1 < b.f0)
def Mem (t : Int) (l : List S39) : Prop := ∃ x ∈ l, x.f0 ≤ t ∧ t < x.f1
/-- The times of the valid intervals. -/
def MemV (t : Int) (l : List S39) : Prop := ∃ x ∈ l, Ok39 x ∧ x.f0 ≤ t ∧ t < x.f1
theorem mem_nil (t : Int) : ¬ Mem t [] := fun ⟨_, h, _⟩ => by simp at h
theorem mem_cons (t : Int) (x : S39) (l : List S39) : Mem t (x :: l) ↔ (x.f0 ≤ t ∧ t < x.f1) ∨ Mem t l := by
  unfold Mem
  constructor
  · rintro ⟨y, hy, h⟩
    rcases List.mem_cons.1 hy with rfl | hy
    · exact .inl h
    · exact .inr ⟨y, hy, h⟩
  · rintro (h | ⟨y, hy, h⟩)
    · exact ⟨x, List.mem_cons_self, h⟩
    · exact ⟨y, List.mem_cons_of_mem _ hy, h⟩
theorem mem_append (t : Int) (l m : List S39) : Mem t (l ++ m) ↔ Mem t l ∨ Mem t m := by
  unfold Mem
  constructor
  · rintro ⟨y, hy, h⟩
    rcases List.mem_append.1 hy with hy | hy
    · exact .inl ⟨y, hy, h⟩
    · exact .inr ⟨y, hy, h⟩
  · rintro (⟨y, hy, h⟩ | ⟨y, hy, h⟩)
    · exact ⟨y, List.mem_append_left _ hy, h⟩
    · exact ⟨y, List.mem_append_right _ hy, h⟩
theorem mem_one (t : Int) (x : S39) : Mem t [x] ↔ x.f0 ≤ t ∧ t < x.f1 := by
  rw [mem_cons]
  constructor
  · rintro (h | h)
    · exact h
    · exact absurd h (mem_nil t)
  · exact .inl
theorem memV_filter (t : Int) (l : List S39) : MemV t l ↔ Mem t (l.filter (fun x => decide (Ok39 x))) := by
  unfold MemV Mem
  constructor
  · rintro ⟨x, hx, ho, h⟩
    exact ⟨x, by simp [hx, ho], h⟩
  · rintro ⟨x, hx, h⟩
    simp at hx
    exact ⟨x, hx.1, hx.2, h⟩
theorem Plain.nil : Plain [] := ⟨by simp, List.Pairwise.nil⟩
theorem Plain.tail {x : S39} {l : List S39} (h : Plain (x :: l)) : Plain l := ⟨fun y hy => h.1 y (List.mem_cons_of_mem _ hy), (List.pairwise_cons.1 h.2).2⟩
theorem plain_memV {l : List S39} (h : Plain l) (t : Int) : MemV t l ↔ Mem t l :=
  ⟨fun ⟨x, hx, _, hh⟩ => ⟨x, hx, hh⟩, fun ⟨x, hx, hh⟩ => ⟨x, hx, h.1 x hx, hh⟩⟩
/-- Times of the rest come behind the first interval, and not at its end. -/
theorem Plain.after {x : S39} {l : List S39} (h : Plain (x :: l)) {t : Int} (ht : Mem t l) : x.f1 < t := by
  obtain ⟨y, hy, h1, _⟩ := ht
  have := (List.pairwise_cons.1 h.2).1 y hy
  omega
/-- Two such lists with the same times are the same list. -/
theorem plain_unique : ∀ {l m : List S39}, Plain l → Plain m → (∀ t, Mem t l ↔ Mem t m) → l = m
  | [], [], _, _, _ => rfl
  | [], y :: m, _, hm, h => by
    have hy := hm.1 y List.mem_cons_self
    exact absurd ((h y.f0).2 ((mem_cons _ _ _).2 (.inl ⟨Int.le_refl _, hy.2.1⟩))) (mem_nil _)
  | x :: l, [], hl, _, h => by
    have hx := hl.1 x List.mem_cons_self
    exact absurd ((h x.f0).1 ((mem_cons _ _ _).2 (.inl ⟨Int.le_refl _, hx.2.1⟩))) (mem_nil _)
  | x :: l, y :: m, hl, hm, h => by
    have hx := hl.1 x List.mem_cons_self
    have hy := hm.1 y List.mem_cons_self
    have a : ∀ t, (x.f0 ≤ t ∧ t < x.f1) ∨ Mem t l ↔ (y.f0 ≤ t ∧ t < y.f1) ∨ Mem t m := fun t => by rw [← mem_cons, ← mem_cons]; exact h t
    have e0 : x.f0 = y.f0 := by
      rcases Int.lt_or_le x.f0 y.f0 with h1 | h1
      · rcases (a x.f0).1 (.inl ⟨Int.le_refl _, hx.2.1⟩) with h2 | h2
        · omega
        · have := hm.after h2; have := hy.2.1; omega
      · rcases (a y.f0).2 (.inl ⟨Int.le_refl _, hy.2.1⟩) with h2 | h2
        · omega
        · have := hl.after h2; have := hx.2.1; omega
    have e1 : x.f1 = y.f1 := by
      rcases Int.lt_trichotomy x.f1 y.f1 with h1 | h1 | h1
      · rcases (a x.f1).2 (.inl ⟨by have := hx.2.1; omega, h1⟩) with h2 | h2
        · omega
        · have := hl.after h2; omega
      · exact h1
      · rcases (a y.f1).1 (.inl ⟨by have := hy.2.1; omega, h1⟩) with h2 | h2
        · omega
        · have := hm.after h2; omega
    have e : x = y := S39.ext' e0 e1
    subst e
    rw [plain_unique hl.tail hm.tail (fun t => ?_)]
    constructor
    · intro ht
      rcases (a t).1 (.inr ht) with h2 | h2
      · have := hl.after ht; omega
      · exact h2
    · intro ht
      rcases (a t).2 (.inr ht) with h2 | h2
      · have := hm.after ht; omega
      · exact h2
theorem Plain.snoc {l : List S39} {x : S39} (h : Plain l) (hx : Ok39 x) (ha : ∀ y ∈ l, y.f1 < x.f0) : Plain (l ++ [x]) := by
  refine ⟨fun y hy => ?_, ?_⟩
  · rcases List.mem_append.1 hy with hy | hy
    · exact h.1 y hy
    · rw [List.mem_singleton.1 hy]; exact hx
  · rw [List.pairwise_append]
    exact ⟨h.2, List.pairwise_singleton _ _, fun y hy z hz => by rw [List.mem_singleton.1 hz]; exact ha y hy⟩
theorem Plain.init {l : List S39} {x : S39} (h : Plain (l ++ [x])) : Plain l ∧ Ok39 x ∧ ∀ y ∈ l, y.f1 < x.f0 := by
  refine ⟨⟨fun y hy => h.1 y (List.mem_append_left _ hy), (List.pairwise_append.1 h.2).1⟩, h.1 x (by simp), fun y hy => (List.pairwise_append.1 h.2).2.2 y hy x (by simp)⟩
/-- One round of Merge: the next interval in order joins the last one, or stands behind it. -/
def mstep (out : List S39) (x : S39) : List S39 :=
  match out.getLast? with
  | some y => if x.f0 ≤ y.f1 then out.dropLast ++ [⟨y.f0, if y.f1 < x.f1 then x.f1 else y.f1⟩] else out ++ [x]
  | none => out ++ [x]
theorem mstep_inv {out : List S39} {x : S39} (h : Plain out) (hx : Ok39 x) (hle : ∀ y ∈ out, y.f0 ≤ x.f0) :
    Plain (mstep out x) ∧ (∀ t, Mem t (mstep out x) ↔ Mem t out ∨ (x.f0 ≤ t ∧ t < x.f1)) ∧ ∀ y ∈ mstep out x, y.f0 ≤ x.f0 := by
  rcases List.eq_nil_or_concat out with rfl | ⟨pre, y, rfl⟩
  · refine ⟨?_, fun t => ?_, ?_⟩
    · exact Plain.snoc Plain.nil hx (by simp)
    · show Mem t [x] ↔ _
      rw [mem_one]
      exact ⟨.inr, fun h => h.elim (fun h => absurd h (mem_nil _)) id⟩
    · intro y hy
      have : y = x := by simpa [mstep] using hy
      rw [this]; exact Int.le_refl _
  · rw [List.concat_eq_append] at *
    obtain ⟨hp, hy, ha⟩ := h.init
    have hyx := hle y (by simp)
    have em : mstep (pre ++ [y]) x = if x.f0 ≤ y.f1 then pre ++ [⟨y.f0, if y.f1 < x.f1 then x.f1 else y.f1⟩] else pre ++ [y] ++ [x] := by
      unfold mstep
      rw [List.getLast?_concat]
      simp only [List.dropLast_concat]
    rw [em]
    by_cases hc : x.f0 ≤ y.f1
    · rw [if_pos hc]
      refine ⟨?_, fun t => ?_, ?_⟩
      · refine hp.snoc ?_ ha
        unfold Ok39 at *
        simp only
        split <;> omega
      · rw [mem_append, mem_append, mem_one, mem_one]
        simp only
        unfold Ok39 at *
        constructor
        · rintro (h1 | h1)
          · exact .inl (.inl h1)
          · by_cases h2 : t < y.f1
            · exact .inl (.inr ⟨h1.1, h2⟩)
            · refine .inr ?_
              split at h1 <;> omega
        · rintro ((h1 | h1) | h1)
          · exact .inl h1
          · refine .inr ?_
            split <;> omega
          · refine .inr ?_
            split <;> omega
      · intro z hz
        rcases List.mem_append.1 hz with hz | hz
        · exact hle z (by simp [hz])
        · rw [List.mem_singleton.1 hz]; exact hyx
    · rw [if_neg hc]
      refine ⟨?_, fun t => ?_, ?_⟩
      · refine h.snoc hx fun z hz => ?_
        rcases List.mem_append.1 hz with hz | hz
        · have := ha z hz; unfold Ok39 at *; omega
        · rw [List.mem_singleton.1 hz]; omega
      · rw [mem_append _ (pre ++ [y]), mem_one]
      · intro z hz
        rcases List.mem_append.1 hz with hz | hz
        · exact hle z hz
        · rw [List.mem_singleton.1 hz]; exact Int.le_refl _
theorem mfold_inv : ∀ (s : List S39) (out : List S39), Plain out → (∀ x ∈ s, Ok39 x) → s.Pairwise (fun a b => a.f0 ≤ b.f0) → (∀ y ∈ out, ∀ x ∈ s, y.f0 ≤ x.f0) → Plain (s.foldl mstep out) ∧ ∀ t, Mem t (s.foldl mstep out) ↔ Mem t out ∨ Mem t s
  | [], out, h, _, _, _ => ⟨h, fun t => ⟨.inl, fun h => h.elim id (fun h => absurd h (mem_nil _))⟩⟩
  | x :: s, out, h, hs, hp, ha => by
    obtain ⟨h1, h2, h3⟩ := mstep_inv h (hs x List.mem_cons_self) (fun y hy => ha y hy x List.mem_cons_self)
    have hp' := List.pairwise_cons.1 hp
    obtain ⟨h4, h5⟩ := mfold_inv s (mstep out x) h1 (fun z hz => hs z (List.mem_cons_of_mem _ hz)) hp'.2 (fun y hy z hz => by have := h3 y hy; have := hp'.1 z hz; omega)
    refine ⟨h4, fun t => ?_⟩
    rw [List.foldl_cons, h5, h2, mem_cons, or_assoc]
theorem mstep_length (out : List S39) (x : S39) : (mstep out x).length ≤ out.length + 1 := by
  rcases List.eq_nil_or_concat out with rfl | ⟨pre, y, rfl⟩
  · simp [mstep]
  · rw [List.concat_eq_append]
    unfold mstep
    rw [List.getLast?_concat]
    simp only [List.dropLast_concat]
    split <;> simp
theorem mfold_length : ∀ (s : List S39) (out : List S39), (s.foldl mstep out).length ≤ out.length + s.length
  | [], out => by simp
  | x :: s, out => by
    have h1 := mfold_length s (mstep out x)
    have h2 := mstep_length out x
    simp only [List.foldl_cons, List.length_cons]
    omega
end Go.Proofs.Ytmijeihhioiliaa.Pure
