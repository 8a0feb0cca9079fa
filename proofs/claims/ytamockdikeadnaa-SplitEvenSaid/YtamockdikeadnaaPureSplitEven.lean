/- SplitEven: Even of the program returns what the reference returns, parts and error, for any numbers, and it is Split with equal weights. -/
import Derived.Test.YtamockdikeadnaaPxO
import Derived.Test.YtamockdikeadnaaPFair
import Derived.Test.YtamockdikeadnaaPAlive
import Derived.Test.YtamockdikeadnaaPx13
namespace Go.Proofs.Ytamockdikeadnaa.Pure
open Go.RowKit Go.Proofs.Ytamockdikeadnaa.Px Go.Proofs.YtamockdikeadnaaW.PrintWords
/-- What Even answers. -/
def even (a n : Int) : List Int × Int :=
  if 0 ≤ a ∧ a ≤ 1099511627776 then if 1 ≤ n ∧ n ≤ 64 then ((List.range n.toNat).map (split_Even.at a n), 0) else ([], 1) else ([], 2)
theorem even_is (a n : Int) : split_Even.f a n = some (even a n) := by
  unfold split_Even.f even
  by_cases h : 0 ≤ a ∧ a ≤ 1099511627776
  · rw [if_pos h, if_pos h]
    by_cases h2 : 1 ≤ n ∧ n ≤ 64
    · rw [if_pos h2, if_pos h2]
    · rw [if_neg h2, if_neg h2]
  · rw [if_neg h, if_neg h]
theorem even_ref (a n : Int) : Ev (fun k => skiarearef34_Even.f k a n) (even a n) := by
  unfold skiarearef34_Even.f even
  by_cases h : a < 0
  · simp only [if_pos h, if_neg (show ¬ (0 ≤ a ∧ a ≤ 1099511627776) by omega)]
    exact Ev.step (fun k => by simp only [skiarearef34_Even.j0]; rw [if_pos trivial]) (Ev.now _)
  simp only [if_neg h]
  by_cases h1 : a > 1099511627776
  · simp only [if_neg (show ¬ (0 ≤ a ∧ a ≤ 1099511627776) by omega), decide_eq_true h1]
    exact Ev.step (fun k => by simp only [skiarearef34_Even.j0]; rw [if_pos trivial]) (Ev.now _)
  simp only [if_pos (show (0 ≤ a ∧ a ≤ 1099511627776) by omega), decide_eq_false h1]
  by_cases h2 : n < 1
  · simp only [if_neg (show ¬ (1 ≤ n ∧ n ≤ 64) by omega)]
    refine Ev.step (fun k => by simp only [skiarearef34_Even.j0]; rw [if_neg (by simp), if_pos h2]) ?_
    exact Ev.step (fun k => by simp only [skiarearef34_Even.j1]; rw [if_pos trivial]) (Ev.now _)
  by_cases h3 : n > 64
  · simp only [if_neg (show ¬ (1 ≤ n ∧ n ≤ 64) by omega)]
    refine Ev.step (fun k => by simp only [skiarearef34_Even.j0]; rw [if_neg (by simp), if_neg h2, decide_eq_true h3]) ?_
    exact Ev.step (fun k => by simp only [skiarearef34_Even.j1]; rw [if_pos trivial]) (Ev.now _)
  simp only [if_pos (show (1 ≤ n ∧ n ≤ 64) by omega)]
  refine Ev.step (fun k => by simp only [skiarearef34_Even.j0]; rw [if_neg (by simp), if_neg h2, decide_eq_false h3]) ?_
  refine Ev.step (fun k => by simp only [skiarearef34_Even.j1]; rw [if_neg (by simp)]) ?_
  obtain ⟨m, rfl⟩ := Int.eq_ofNat_of_zero_le (show 0 ≤ n by omega)
  rw [Int.toNat_natCast]
  have : ∀ d i : Nat, i + d = m → Ev (fun k => skiarearef34_Even.l0 k a m ((List.range i).map (split_Even.at a m)) (i : Int)) ((List.range m).map (split_Even.at a m), 0) := by
    intro d
    induction d with
    | zero =>
      intro i hi
      obtain rfl : i = m := hi
      exact Ev.step (fun k => by simp only [skiarearef34_Even.l0]; rw [if_neg (by omega)]) (Ev.now _)
    | succ d ih =>
      intro i hi
      refine Ev.step (fun k => ?_) (ih (i + 1) (by omega))
      simp only [skiarearef34_Even.l0]
      have hlen : ((List.range i).map (split_Even.at a m)).length < 17592186044416 := by simp; omega
      rw [if_pos (by omega), if_neg (by omega), wrap_up (show i < 64 by omega) (by omega), List.range_succ, List.map_append, List.map_cons, List.map_nil]
      by_cases hc : (i : Int) < Int.tmod a m
      · rw [if_pos hc, if_pos hlen]
        unfold split_Even.at
        rw [if_pos hc]
      · rw [if_neg hc, if_pos hlen]
        unfold split_Even.at
        rw [if_neg hc]
  exact this m 0 (by omega)
theorem even_len (a n : Int) : (even a n).1.length ≤ 64 := by
  unfold even
  by_cases h : 0 ≤ a ∧ a ≤ 1099511627776
  · rw [if_pos h]
    by_cases h2 : 1 ≤ n ∧ n ≤ 64
    · rw [if_pos h2]; simp; omega
    · rw [if_neg h2]; simp
  · rw [if_neg h]; simp
theorem even_split (a : Int) (n : Nat) (w : Int) (h0 : 0 ≤ a) (h1 : a ≤ 1099511627776) (hn : 1 ≤ n) (hn1 : n ≤ 64) (hw : 1 ≤ w) (hw1 : w ≤ 1000000000) :
    (List.range n).map (split_Even.at a n) = division a (List.replicate n w) := by
  apply List.ext_getElem
  · rw [division_len]; simp
  · intro i h2 h3
    have hi : i < n := by simpa using h2
    have := even_at a n w h0 h1 hn hn1 hw hw1 i hi
    rw [List.getD_eq_getElem?_getD, List.getElem?_eq_getElem h3, Option.getD_some] at this
    rw [this, List.getElem_map, List.getElem_range]
    have hq0 := Int.ediv_nonneg h0 (show (0 : Int) ≤ n by omega)
    have hq1 := Int.ediv_le_self (n : Int) h0
    unfold split_Even.at
    rw [Int.tmod_eq_emod_of_nonneg h0, Int.tdiv_eq_ediv_of_nonneg h0]
    by_cases hc : (i : Int) < a % n
    · rw [if_pos hc, if_pos hc, wr64 _ hq0 (by omega), wr64 _ (by omega) (by omega)]
    · rw [if_neg hc, if_neg hc, wr64 _ hq0 (by omega), Int.add_zero]

theorem SplitEven : ∀ (a0 : Int) (a1 : Int) (a2 : Int), I64 a0 → I64 a1 → I64 a2 → ∃ k, skiarealaw34_SplitEven.f k a0 a1 a2 = some true := by
  intro a n w _ _ _
  refine Ev.rounds (g := fun k => skiarealaw34_SplitEven.f k a n w) ?_
  unfold skiarealaw34_SplitEven.f
  have hl := even_len a n
  refine Ev.bind alive_ev ?_
  simp only [if_true, even_is, Option.bind_some]
  refine Ev.bind (even_ref a n) (Ev.bind (same_self _ (by omega)) ?_)
  simp only [if_true, bne_self_eq_false]
  refine Ev.step (fun k => by simp only [skiarealaw34_SplitEven.j0]; rw [if_neg (by simp)]) ?_
  by_cases he : ¬ (even a n).2 = 0
  · simp only [if_neg he]
    exact Ev.step (fun k => by simp only [skiarealaw34_SplitEven.j1]; rw [if_pos trivial]) (Ev.now _)
  replace he := Decidable.of_not_not he
  simp only [if_pos he]
  by_cases h2 : w < 1
  · simp only [if_pos h2]
    exact Ev.step (fun k => by simp only [skiarealaw34_SplitEven.j1]; rw [if_pos trivial]) (Ev.now _)
  simp only [if_neg h2]
  by_cases h3 : w > 1000000000
  · simp only [decide_eq_true h3]
    exact Ev.step (fun k => by simp only [skiarealaw34_SplitEven.j1]; rw [if_pos trivial]) (Ev.now _)
  simp only [decide_eq_false h3]
  refine Ev.step (fun k => by simp only [skiarealaw34_SplitEven.j1]; rw [if_neg (by simp)]) ?_
  have hb : 0 ≤ a ∧ a ≤ 1099511627776 := by
    by_cases h : 0 ≤ a ∧ a ≤ 1099511627776
    · exact h
    · unfold even at he; rw [if_neg h] at he; cases he
  have hnb : 1 ≤ n ∧ n ≤ 64 := by
    by_cases h : 1 ≤ n ∧ n ≤ 64
    · exact h
    · unfold even at he; rw [if_pos hb, if_neg h] at he; cases he
  obtain ⟨m, rfl⟩ := Int.eq_ofNat_of_zero_le (show 0 ≤ n by omega)
  have hev : (even a m).1 = division a (List.replicate m w) := by
    unfold even
    rw [if_pos hb, if_pos hnb, Int.toNat_natCast]
    exact even_split a m w hb.1 hb.2 (by omega) (by omega) (by omega) (by omega)
  have hS := even_sound a m w hb.1 hb.2 (by omega) (by omega) (by omega) (by omega)
  have : ∀ d i : Nat, i + d = m → Ev (fun k => skiarealaw34_SplitEven.l0 k a m w (even a m).1 (List.replicate i w) (i : Int)) true := by
    intro d
    induction d with
    | zero =>
      intro i hi
      obtain rfl : i = m := hi
      refine Ev.step (fun k => by simp only [skiarealaw34_SplitEven.l0]; rw [if_neg (by omega)]) (Ev.bind (split_is a _ (by simp; omega)) ?_)
      rw [split_of_sound hS, hev]
      simp only [if_true]
      refine Ev.bind (same_self _ (by rw [division_len]; simp; omega)) (Ev.now _)
    | succ d ih =>
      intro i hi
      refine Ev.step (fun k => ?_) (ih (i + 1) (by omega))
      simp only [skiarealaw34_SplitEven.l0]
      rw [if_pos (by omega), if_pos (by simp; omega), wrap_up (show i < 64 by omega) (by omega), List.replicate_succ']
  exact this m 0 (by omega)

end Go.Proofs.Ytamockdikeadnaa.Pure
