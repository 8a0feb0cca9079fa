/- revenue.Right, by the program and by the reference, told plainly: both answer the first error. -/
import Derived.Test.YtbkfnbbngnocbaaPNum
import Derived.Test.YtbkfnbbngnocbaaPx2
import Derived.Test.YtbkfnbbngnocbaaPx14
namespace Go.Proofs.Ytbkfnbbngnocbaa.Px
open Go.RowKit Go.Proofs.YtbkfnbbngnocbaaW.PrintWords
theorem rd42 {xs : List S42} {i : Nat} {x : S42} (h : xs[i]? = some x) : rd_T42 xs (i : Int) = x := by
  unfold rd_T42
  rw [Int.toNat_natCast, List.getD_eq_getElem?_getD, h, Option.getD_some]
def within (v a b : Int) : Bool := decide (a ≤ v ∧ v ≤ b)
theorem in35_is (v a b : Int) : skiarearef35_in.f v a b = some (within v a b) := by
  unfold skiarearef35_in.f within
  by_cases h : v ≥ a
  · rw [if_pos h]
    have : a ≤ v := h
    simp [this]
  · rw [if_neg h]
    have : ¬ a ≤ v := h
    simp [this]
theorem bad_eq (x : S42) : revenue_Right.bad x = !(within x.f0 1 9999 && within x.f1 1 9999 && within x.f2 1 8 && within x.f3 0 20000000 && within x.f4 0 100000000) := by
  rw [Bool.eq_iff_iff]
  unfold revenue_Right.bad within
  simp only [Bool.or_eq_true, decide_eq_true_eq, Bool.not_eq_true', Bool.and_eq_false_iff, decide_eq_false_iff_not]
  omega
theorem right_search (l : List S42) (hl : l.length ≤ 2100) (i : Nat) (hi : i < l.length) (x : S42) (res : Int) (hE : Ev (fun k => skiarearef35_Right.l0 k l ((i + 1 : Nat) : Int)) res) :
    ∀ d m : Nat, m + d = i → Ev (fun k => skiarearef35_Right.l1 k l (i : Int) (m : Int) x.f0 x.f1 x.f2 x.f3 x.f4 x.f5) (if (((l.take i).drop m).map (·.f0)).contains x.f0 = true then 7 else res) := by
  intro d
  induction d with
  | zero =>
    intro m hm
    have : (l.take i).drop m = [] := List.drop_eq_nil_of_le (by simp; omega)
    rw [this]
    refine Ev.step (fun k => by simp only [skiarearef35_Right.l1]; rw [if_neg (by omega), wrap_up hi (by omega)]) ?_
    simpa using hE
  | succ d ih =>
    intro m hm
    have hml : m < l.length := by omega
    have hmt : m < (l.take i).length := by simp; omega
    have hdrop : (l.take i).drop m = l[m] :: (l.take i).drop (m + 1) := by
      rw [List.drop_eq_getElem_cons hmt, List.getElem_take]
    rw [hdrop, List.map_cons, List.contains_cons]
    by_cases hc : l[m].f0 = x.f0
    · refine Ev.step (fun k => by simp only [skiarearef35_Right.l1]; rw [if_pos (by omega), if_pos (by omega), if_pos (by omega), rd42 (List.getElem?_eq_getElem hml), if_pos hc]) ?_
      rw [if_pos (by simp [hc])]
      exact Ev.now _
    · refine Ev.step (fun k => by simp only [skiarearef35_Right.l1]; rw [if_pos (by omega), if_pos (by omega), if_pos (by omega), rd42 (List.getElem?_eq_getElem hml), if_neg hc, wrap_up hml (by omega)]) ?_
      have : (x.f0 == l[m].f0) = false := by simpa using fun e => hc e.symm
      rw [this, Bool.false_or]
      exact ih (m + 1) (by omega)
theorem right_loop (l : List S42) (hl : l.length ≤ 2100) : ∀ d i : Nat, i + d = l.length → Ev (fun k => skiarearef35_Right.l0 k l (i : Int)) (revenue_Right.chk (l.drop i) ((l.take i).map (·.f0))) := by
  intro d
  induction d with
  | zero =>
    intro i hi
    rw [List.drop_eq_nil_of_le (by omega), revenue_Right.chk]
    exact Ev.step (fun k => by simp only [skiarearef35_Right.l0]; rw [if_neg (by omega)]) (Ev.now _)
  | succ d ih =>
    intro i hi
    have hil : i < l.length := by omega
    have hx := List.getElem?_eq_getElem hil
    rw [List.drop_eq_getElem_cons hil]
    have hS : (l.take (i + 1)).map (·.f0) = (l.take i).map (·.f0) ++ [l[i].f0] := by
      rw [← List.take_append_getElem hil, List.map_append]
      rfl
    have ih' := ih (i + 1) (by omega)
    rw [hS] at ih'
    generalize hxx : l[i] = x at hx ih' hS ⊢
    unfold revenue_Right.chk
    refine Ev.step (f := fun k => skiarearef35_Right.j1 k l (i : Int) (revenue_Right.bad x) x.f0 x.f1 x.f2 x.f3 x.f4 x.f5) (fun k => ?_) ?_
    · simp only [skiarearef35_Right.l0]
      rw [if_pos (by omega), if_pos (by omega), rd42 hx, bad_eq]
      simp only [in35_is, Option.bind_some]
      cases within x.f0 1 9999 <;> cases within x.f1 1 9999 <;> cases within x.f2 1 8 <;> cases within x.f3 0 20000000 <;> cases within x.f4 0 100000000 <;> simp
    by_cases hb : revenue_Right.bad x = true
    · rw [if_pos hb]
      exact Ev.step (fun k => by simp only [skiarearef35_Right.j1]; rw [if_pos hb]) (Ev.now _)
    · rw [if_neg hb]
      refine Ev.step (f := fun k => if within x.f5 0 x.f4 = true then skiarearef35_Right.l1 k l (i : Int) 0 x.f0 x.f1 x.f2 x.f3 x.f4 x.f5 else some 1) (fun k => by simp only [skiarearef35_Right.j1]; rw [if_neg hb, in35_is, Option.bind_some]) ?_
      by_cases hf : x.f5 < 0 ∨ x.f4 < x.f5
      · rw [if_pos hf]
        have : ¬ within x.f5 0 x.f4 = true := by unfold within; simp; omega
        simp only [if_neg this]
        exact Ev.now _
      · rw [if_neg hf]
        have : within x.f5 0 x.f4 = true := by unfold within; simp; omega
        simp only [if_pos this]
        have := right_search l hl i hil x _ ih' i 0 (by omega)
        rw [List.drop_zero] at this
        exact this
theorem right_ref (l : List S42) : Ev (fun k => skiarearef35_Right.f k l) (if 2000 < (l.length : Int) then 4 else revenue_Right.chk l []) := by
  unfold skiarearef35_Right.f
  by_cases h : 2000 < (l.length : Int)
  · simp only [if_pos h]
    exact Ev.now _
  · simp only [if_neg h]
    exact right_loop l (by omega) l.length 0 (by omega)
theorem right_is (l : List S42) : revenue_Right.f l = some (if 2000 < (l.length : Int) then 4 else revenue_Right.chk l []) := by
  unfold revenue_Right.f
  by_cases h : 2000 < (l.length : Int)
  · rw [if_pos h, if_pos h]
  · rw [if_neg h, if_neg h]
end Go.Proofs.Ytbkfnbbngnocbaa.Px
