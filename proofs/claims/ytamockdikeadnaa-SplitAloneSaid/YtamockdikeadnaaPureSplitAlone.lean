/- SplitAlone: one more weight of 0 changes no part and has the part 0, and a single weight has everything, for at most 63 weights. -/
import Derived.Test.YtamockdikeadnaaPxO
import Derived.Test.YtamockdikeadnaaPFair
import Derived.Test.YtamockdikeadnaaPAlive
import Derived.Test.YtamockdikeadnaaPx19
namespace Go.Proofs.Ytamockdikeadnaa.Pure
open Go.RowKit Go.Proofs.Ytamockdikeadnaa.Px Go.Proofs.YtamockdikeadnaaW.PrintWords
theorem split_zero (a : Int) (l : List Int) (hn : l.length ≤ 63) : split a (l ++ [0]) = ((if (split a l).2 = 0 then (split a l).1 ++ [0] else []), (split a l).2) := by
  have ho : (l ++ [0]).any odd = l.any odd := by
    rw [List.any_append]
    have : odd 0 = false := by decide
    simp [this]
  have hs : (l ++ [0]).sum = l.sum := by simp
  have hl : (l ++ [0]).length = l.length + 1 := by simp
  have n1 : ¬ 64 < (l ++ [0]).length := by omega
  have n2 : ¬ 64 < l.length := by omega
  unfold split
  rw [if_neg n1, if_neg n2, ho, hs]
  by_cases h2 : ¬ (0 ≤ a ∧ a ≤ 1099511627776)
  · rw [if_pos h2, if_pos h2]; rfl
  by_cases h3 : l.any odd = true
  · rw [if_neg h2, if_neg h2, if_pos h3, if_pos h3]; rfl
  by_cases h4 : l.sum = 0
  · rw [if_neg h2, if_neg h2, if_neg h3, if_neg h3, if_pos h4, if_pos h4]; rfl
  · have hS := split_sound (by omega) (Decidable.of_not_not h2) h3 h4
    rw [if_neg h2, if_neg h2, if_neg h3, if_neg h3, if_neg h4, if_neg h4, hS.zero]
    rfl
theorem SplitAlone : ∀ (a0 : Int) (l1 : List Int) (a2 : Int), I64 a0 → (fun xs : List Int => xs.length ≤ maxLen ∧ ∀ x ∈ xs, I64 x) l1 → (fun n => (Lit.int .u8 n).wf = true) a2 → ∃ k, skiarealaw34_SplitAlone.f k a0 l1 a2 = some true := by
  intro a l t _ hl0 ht
  refine Ev.rounds (g := fun k => skiarealaw34_SplitAlone.f k a l t) ?_
  unfold skiarealaw34_SplitAlone.f
  refine Ev.bind alive_ev ?_
  simp only [if_true]
  by_cases hz : (l.length : Int) = 0
  · simp only [if_pos hz]
    exact Ev.step (fun k => by simp only [skiarealaw34_SplitAlone.j0]; rw [if_pos trivial]) (Ev.now _)
  simp only [if_neg hz]
  by_cases hn : (l.length : Int) > 63
  · simp only [decide_eq_true hn]
    exact Ev.step (fun k => by simp only [skiarealaw34_SplitAlone.j0]; rw [if_pos trivial]) (Ev.now _)
  simp only [decide_eq_false hn]
  have hlen : l.length ≤ 63 := by omega
  have hsl := split_len a l
  refine Ev.step (fun k => by simp only [skiarealaw34_SplitAlone.j0]; rw [if_neg (by simp)]) (Ev.bind (split_is a l (by omega)) ?_)
  simp only [Option.bind_some, List.nil_append, if_pos (show ([] : List Int).length + l.length < 17592186044416 by simp; omega), if_pos (show l.length < 17592186044416 by omega)]
  refine Ev.bind (split_is a (l ++ [0]) (by simp; omega)) ?_
  rw [split_zero a l hlen]
  simp only [if_true]
  by_cases he : ¬ (split a l).2 = 0
  · simp only [if_neg he]
    refine Ev.step (fun k => by simp only [skiarealaw34_SplitAlone.j1]; rw [if_neg (by simp), if_neg he]) (Ev.now _)
  replace he := Decidable.of_not_not he
  obtain ⟨h, e⟩ := split_ok he
  have hdl := division_len a l
  simp only [e]
  have hlast : rd (division a l ++ [0]) ((division a l).length : Int) = 0 := by
    rw [rd_getD]
    simp [List.getD_eq_getElem?_getD]
  have hcat : ((division a l ++ [0]).length : Int) = ((division a l).length : Int) + 1 := by simp
  have hwl : wrap64 (((division a l).length : Int) + 1) = ((division a l).length : Int) + 1 := wr64 _ (by omega) (by omega)
  simp only [hwl, hcat, if_true, hlast, if_pos (show (0 : Int) ≤ ((division a l).length : Int) by omega), if_pos (show ((division a l).length : Int) < ((division a l).length : Int) + 1 by omega), if_pos (show ((division a l).length : Int) ≤ ((division a l).length : Int) + 1 by omega), Int.toNat_natCast, List.take_left']
  refine Ev.bind (same_self _ (by omega)) ?_
  simp only [Bool.not_true]
  have ht' : 0 ≤ t ∧ t < 256 := by
    have h : (Lit.int .u8 t).wf = true := ht
    simp only [Lit.wf, Bool.and_eq_true, decide_eq_true_eq] at h
    have e1 : IntKind.u8.min = 0 := by decide
    have e2 : IntKind.u8.max = 255 := by decide
    omega
  have hwt : wrap64 t = t := wr64 _ ht'.1 (by omega)
  have hm : Int.tmod t (l.length : Int) = t % (l.length : Int) := Int.tmod_eq_emod_of_nonneg ht'.1
  have hm0 := Int.emod_nonneg t hz
  have hm1 := Int.emod_lt_of_pos t (show (0 : Int) < (l.length : Int) by omega)
  obtain ⟨i, hi⟩ := Int.eq_ofNat_of_zero_le hm0
  have hil : i < l.length := by omega
  have hw := h.w _ (getD_mem (xs := l) (i := i) hil)
  have hv : wrap64 (1 + wrap64 (Int.tdiv (l.getD i 0) 2)) = 1 + l.getD i 0 / 2 := by
    rw [Int.tdiv_eq_ediv_of_nonneg hw.1, wr64 (l.getD i 0 / 2) (by omega) (by omega), wr64 _ (by omega) (by omega)]
  refine Ev.step (f := fun k => (split_Split.f k a ((List.replicate l.length (0 : Int)).set i (1 + l.getD i 0 / 2))).bind fun bt => if bt.2 = 0 then skiarealaw34_SplitAlone.j2 k a (i : Int) bt.1 ((bt.1.length : Int) != (l.length : Int)) else skiarealaw34_SplitAlone.j2 k a (i : Int) bt.1 true) (fun k => by
    simp only [skiarealaw34_SplitAlone.j1, hwt, hm, hi, rd_getD, hv, Int.toNat_natCast]
    rw [if_neg (by simp), if_pos trivial, if_neg hz, if_pos (by omega), if_pos (by omega), Option.bind_some, if_pos (by omega), if_pos (by omega), List.length_replicate, if_pos (by omega)]) ?_
  have hoS := only_sound a l.length i (1 + l.getD i 0 / 2) h.a0 h.a1 (by omega) hil (by omega) (by omega)
  refine Ev.bind (split_is a _ (by simp; omega)) ?_
  rw [split_of_sound hoS]
  have hol : (division a ((List.replicate l.length (0 : Int)).set i (1 + l.getD i 0 / 2))).length = l.length := by rw [division_len]; simp
  simp only [if_true, hol, bne_self_eq_false]
  refine Ev.step (fun k => by simp only [skiarealaw34_SplitAlone.j2]; rw [if_neg (by simp)]) ?_
  have : ∀ d k : Nat, k + d = l.length → Ev (fun n => skiarealaw34_SplitAlone.l0 n a (i : Int) (division a ((List.replicate l.length (0 : Int)).set i (1 + l.getD i 0 / 2))) (k : Int)) true := by
    intro d
    induction d with
    | zero => intro k hk; exact Ev.step (fun n => by simp only [skiarealaw34_SplitAlone.l0]; rw [if_neg (by omega)]) (Ev.now _)
    | succ d ih =>
      intro k hk
      have hat := division_only a l.length i (1 + l.getD i 0 / 2) h.a0 h.a1 (by omega) hil (by omega) (by omega) k (by omega)
      refine Ev.step (fun n => ?_) (ih (k + 1) (by omega))
      simp only [skiarealaw34_SplitAlone.l0, rd_getD, hat]
      rw [if_pos (by omega), wrap_up (show k < 64 by omega) (by omega)]
      by_cases hc : k = i
      · rw [if_pos hc, if_pos (show (k : Int) = (i : Int) by omega), if_pos (show (0 : Int) ≤ (k : Int) by omega), if_pos rfl]
      · rw [if_neg hc, if_neg (show ¬ (k : Int) = (i : Int) by omega), if_pos (show (0 : Int) ≤ (k : Int) by omega), if_pos rfl]
  exact this l.length 0 (by omega)

end Go.Proofs.Ytamockdikeadnaa.Pure
