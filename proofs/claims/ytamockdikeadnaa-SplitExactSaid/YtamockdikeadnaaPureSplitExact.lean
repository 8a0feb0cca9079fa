/- SplitExact: wherever Split has no error, the parts are the amount, each is the exact quotient rounded down or up, and a greater weight has no smaller part, for at most 100 weights. -/
import Derived.Test.YtamockdikeadnaaPxO
import Derived.Test.YtamockdikeadnaaPFair
import Derived.Test.YtamockdikeadnaaPAlive
import Derived.Test.YtamockdikeadnaaPx17
namespace Go.Proofs.Ytamockdikeadnaa.Pure
open Go.RowKit Go.Proofs.Ytamockdikeadnaa.Px Go.Proofs.YtamockdikeadnaaW.PrintWords
theorem exact_l2 (a : Int) (l : List Int) (h : Sound a l) (all : Int) (i : Nat) (hi : i < l.length) (res : Bool) (hE : Ev (fun k => skiarealaw34_SplitExact.l1 k a l (division a l) (wrap64 (all + (division a l).getD i 0)) l.sum ((i + 1 : Nat) : Int)) res) :
    ∀ d k : Nat, k + d = i → Ev (fun n => skiarealaw34_SplitExact.l2 n a l (division a l) all l.sum (i : Int) (k : Int)) res := by
  have hn := h.n
  have hdl := division_len a l
  intro d
  induction d with
  | zero =>
    intro k hk
    exact Ev.step (fun n => by simp only [skiarealaw34_SplitExact.l2]; rw [if_neg (by omega), if_pos (by omega), if_pos (by omega), rd_getD, wrap_up (show i < 64 by omega) (by omega)]) hE
  | succ d ih =>
    intro k hk
    refine Ev.step (fun n => ?_) (ih (k + 1) (by omega))
    simp only [skiarealaw34_SplitExact.l2, rd_getD]
    have c1 : (k : Int) < (i : Int) := by omega
    have c2 : (0 : Int) ≤ (k : Int) := by omega
    have c3 : (k : Int) < (l.length : Int) := by omega
    have c4 : (0 : Int) ≤ (i : Int) := by omega
    have c5 : (i : Int) < (l.length : Int) := by omega
    have c6 : (k : Int) < ((division a l).length : Int) := by omega
    have c7 : (i : Int) < ((division a l).length : Int) := by omega
    rw [if_pos c1, if_pos c2, if_pos c3, if_pos c4, if_pos c5, wrap_up (show k < 64 by omega) (by omega)]
    rcases Int.lt_trichotomy (l.getD k 0) (l.getD i 0) with hw | hw | hw
    · have := h.mono i k hi (by omega) hw
      rw [if_pos hw, if_pos c6, if_pos c7, if_neg (by omega), if_neg (by omega), if_neg (by omega)]
    · have := h.first i k (by omega) hi hw
      rw [if_neg (by omega), if_neg (by omega), if_pos hw, if_pos c6, if_pos c7, if_neg (by omega)]
    · have := h.mono k i (by omega) hi hw
      rw [if_neg (by omega), if_pos hw, if_pos c6, if_pos c7, if_neg (by omega), if_neg (by omega)]
theorem exact_l1 (a : Int) (l : List Int) (h : Sound a l) : ∀ d i : Nat, i + d = l.length → ∀ all : Int, 0 ≤ all → all + ((division a l).drop i).sum = a → Ev (fun k => skiarealaw34_SplitExact.l1 k a l (division a l) all l.sum (i : Int)) true := by
  have hn := h.n
  have hdl := division_len a l
  have ha1 := h.a1
  have hb : ∀ i : Nat, i < l.length → 0 ≤ (division a l).getD i 0 := by
    intro i hi
    have hq := h.quot_b _ (getD_mem (xs := quots a l) (i := i) (by rw [quots_len]; exact hi))
    rcases h.exact i with e1 | ⟨_, e1⟩ <;> omega
  have hbs : ∀ x ∈ division a l, 0 ≤ x := by
    intro x hx
    obtain ⟨i, hi, e⟩ := List.mem_iff_getElem.1 hx
    have := hb i (by omega)
    rw [List.getD_eq_getElem?_getD, List.getElem?_eq_getElem hi, e, Option.getD_some] at this
    exact this
  intro d
  induction d with
  | zero =>
    intro i hi all _ he
    rw [List.drop_eq_nil_of_le (by omega), List.sum_nil, Int.add_zero] at he
    subst he
    exact Ev.step (fun k => by simp only [skiarealaw34_SplitExact.l1]; rw [if_neg (by omega), beq_self_eq_true]) (Ev.now _)
  | succ d ih =>
    intro i hi all ha he
    have hq := quots_at a l i (by omega)
    have hr := rests_at a l i (by omega)
    have hqb := h.quot_b _ (getD_mem (xs := quots a l) (i := i) (by rw [quots_len]; omega))
    have hbi := hb i (by omega)
    rw [drop_cons 0 (division a l) (show i < (division a l).length by omega), List.sum_cons] at he
    have hrest := sum_nonneg ((division a l).drop (i + 1)) (fun x hx => hbs x (List.mem_of_mem_drop hx))
    refine Ev.step (f := fun k => (skiarearef34_Quotient.f k a (l.getD i 0) l.sum).bind fun bt => if (division a l).getD i 0 = bt.1 then skiarealaw34_SplitExact.j4 k a l (division a l) all l.sum (i : Int) false else if bt.2 = 0 then skiarealaw34_SplitExact.j4 k a l (division a l) all l.sum (i : Int) true else skiarealaw34_SplitExact.j4 k a l (division a l) all l.sum (i : Int) ((division a l).getD i 0 != wrap64 (bt.1 + 1))) (fun k => by
      simp only [skiarealaw34_SplitExact.l1, rd_getD]
      rw [if_pos (by omega), if_pos (by omega), if_pos (by omega)]) (Ev.bind (h.quotient_is (getD_mem (by omega))) ?_)
    have hj4 : Ev (fun k => skiarealaw34_SplitExact.j4 k a l (division a l) all l.sum (i : Int) false) true := by
      refine Ev.step (f := fun k => skiarealaw34_SplitExact.l2 k a l (division a l) all l.sum (i : Int) ((0 : Nat) : Int)) (fun k => by simp only [skiarealaw34_SplitExact.j4]; rw [if_neg (by simp)]; rfl) (exact_l2 a l h all i (by omega) true ?_ i 0 (by omega))
      have hlast : 0 ≤ all + (division a l).getD i 0 := by omega
      rw [wr64 _ hlast (by omega)]
      exact ih (i + 1) (by omega) _ hlast (by omega)
    rcases h.exact i with e | ⟨e0, e⟩
    · simp only [if_pos (show (division a l).getD i 0 = a * l.getD i 0 / l.sum by rw [e, hq])]
      exact hj4
    · have hne : (division a l).getD i 0 = wrap64 (a * l.getD i 0 / l.sum + 1) := by rw [← hq, wr64 _ (by omega) (by omega), e]
      simp only [if_neg (show ¬ (division a l).getD i 0 = a * l.getD i 0 / l.sum by omega), if_neg (show ¬ a * l.getD i 0 % l.sum = 0 by omega), ← hne, bne_self_eq_false]
      exact hj4
theorem SplitExact : ∀ (a0 : Int) (l1 : List Int), I64 a0 → (fun xs : List Int => xs.length ≤ maxLen ∧ ∀ x ∈ xs, I64 x) l1 → ∃ k, skiarealaw34_SplitExact.f k a0 l1 = some true := by
  intro a l _ _
  refine Ev.rounds (g := fun k => skiarealaw34_SplitExact.f k a l) ?_
  unfold skiarealaw34_SplitExact.f
  refine Ev.bind alive_ev ?_
  simp only [if_true]
  by_cases hl : (l.length : Int) > 100
  · simp only [if_pos hl]
    exact Ev.now _
  simp only [if_neg hl]
  refine Ev.bind (split_is a l (by omega)) ?_
  by_cases he : ¬ (split a l).2 = 0
  · simp only [if_neg he, split_not_ok he]
    exact Ev.now _
  replace he := Decidable.of_not_not he
  obtain ⟨h, e⟩ := split_ok he
  have hn := h.n
  have hs := h.s
  have hdl := division_len a l
  simp only [e, if_true, if_pos (show ((division a l).length : Int) = (l.length : Int) by omega)]
  refine Ev.bind (h.fair1 _) ?_
  rw [h.fair_division]
  simp only [Bool.not_true]
  refine Ev.step (fun k => by simp only [skiarealaw34_SplitExact.j0]; rw [if_neg (by simp)]) ?_
  have : ∀ d i : Nat, i + d = l.length → ∀ s : Int, 0 ≤ s → s + (l.drop i).sum = l.sum → Ev (fun k => skiarealaw34_SplitExact.l0 k a l (division a l) 0 s (i : Int)) true := by
    intro d
    induction d with
    | zero =>
      intro i hi s _ hs
      rw [List.drop_eq_nil_of_le (by omega), List.sum_nil, Int.add_zero] at hs
      subst hs
      refine Ev.step (fun k => by
        simp only [skiarealaw34_SplitExact.l0]
        rw [if_neg (by omega), if_neg (by omega), if_neg (by have := h.a0; omega), decide_eq_false (by have := h.a1; omega)]) ?_
      refine Ev.step (fun k => by simp only [skiarealaw34_SplitExact.j2]; rw [if_neg (by simp)]) ?_
      exact exact_l1 a l h l.length 0 (by omega) 0 (Int.le_refl _) (by rw [List.drop_zero, h.sum, Int.zero_add])
    | succ d ih =>
      intro i hi s hs0 hs
      have hw := h.w _ (getD_mem (xs := l) (i := i) (by omega))
      rw [drop_cons 0 l (show i < l.length by omega), List.sum_cons] at hs
      have hrest := sum_nonneg (l.drop (i + 1)) (fun x hx => (h.w x (List.mem_of_mem_drop hx)).1)
      have hs1 := h.s1
      refine Ev.step (fun k => ?_) (ih (i + 1) (by omega) (s + l.getD i 0) (by omega) (by omega))
      simp only [skiarealaw34_SplitExact.l0, rd_getD]
      rw [if_pos (by omega), if_pos (by omega), if_neg (by omega), if_neg (by omega), wr64 _ (by omega) (by omega), wrap_up (show i < 64 by omega) (by omega)]
  exact this l.length 0 (by omega) 0 (Int.le_refl _) (by rw [List.drop_zero, Int.zero_add])

end Go.Proofs.Ytamockdikeadnaa.Pure
