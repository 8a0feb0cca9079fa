/- SplitSums: adding shares does not depend on the order of the lists, the result has no zero and rises by operator, and its total is that of both lists, for at most 100 shares each. -/
import Derived.Test.YtamockdikeadnaaPxO
import Derived.Test.YtamockdikeadnaaPSums
import Derived.Test.YtamockdikeadnaaPAlive
import Derived.Test.YtamockdikeadnaaPx18
namespace Go.Proofs.Ytamockdikeadnaa.Pure
open Go.RowKit Go.Proofs.Ytamockdikeadnaa.Px Go.Proofs.YtamockdikeadnaaW.PrintWords
theorem wf_of_I64 {n : Int} (h : I64 n) : (Lit.int .i64 n).wf = true := by
  unfold I64 at h
  have e1 : IntKind.i64.min = -9223372036854775808 := by decide
  have e2 : IntKind.i64.max = 9223372036854775807 := by decide
  simp only [Lit.wf, Bool.and_eq_true, decide_eq_true_eq]
  omega
theorem total_amounts {l : List S41} (h : (total l).2 = 0) : InM (total l).1 ∧ (total l).1 = amounts l := by
  unfold total at h ⊢
  cases ht : tot l 0 with
  | none => rw [ht] at h; simp at h
  | some n =>
    have := tot_sum l 0 n (by unfold InM; omega) ht
    exact ⟨this.1, by have h := this.2; simp only; omega⟩
theorem amounts_append (a b : List S41) : amounts (a ++ b) = amounts a + amounts b := by
  unfold amounts
  rw [List.map_append, List.sum_append]
theorem sums_loop (a b x : List S41) (hx : x.length ≤ 9223372036854775807) (h0 : ∀ s ∈ x, s.f1 ≠ 0) (hs : x.Pairwise (fun x y => x.f0 < y.f0)) (hE : Ev (fun k => (split_Total.f k a).bind fun bt335 => (split_Total.f k b).bind fun bt337 => (split_Total.f k x).bind fun bt339 => if bt335.2 = 0 then if bt337.2 = 0 then if bt339.2 = 0 then some (bt339.1 == wrap64 (bt335.1 + bt337.1)) else some true else some true else some true) true) :
    ∀ d i : Nat, i + d = x.length → Ev (fun k => skiarealaw34_SplitSums.l0 k a b x (i : Int)) true := by
  intro d
  induction d with
  | zero => intro i hi; exact Ev.step (fun k => by simp only [skiarealaw34_SplitSums.l0]; rw [if_neg (by omega)]) hE
  | succ d ih =>
    intro i hi
    have hil : i < x.length := by omega
    refine Ev.step (fun k => ?_) (ih (i + 1) (by omega))
    simp only [skiarealaw34_SplitSums.l0]
    rw [if_pos (by omega), if_pos (by omega), rd41 (List.getElem?_eq_getElem hil), if_neg (h0 _ (List.getElem_mem hil)), wrap_up hil hx]
    cases i with
    | zero => rw [if_neg (by omega)]
    | succ j =>
      have hj : j < x.length := by omega
      have e : wrap64 (((j + 1 : Nat) : Int) - 1) = (j : Int) := by unfold wrap64; omega
      have hlt := List.pairwise_iff_getElem.1 hs j (j + 1) hj hil (by omega)
      rw [if_pos (by omega), e, if_pos (by omega), if_pos (by omega), rd41 (List.getElem?_eq_getElem hj), if_neg (by omega)]
theorem SplitSums : ∀ (l0 : List (S41)) (l1 : List (S41)), (fun xs : List (S41) => xs.length ≤ maxLen ∧ ∀ x ∈ xs, wf41 x) l0 → (fun xs : List (S41) => xs.length ≤ maxLen ∧ ∀ x ∈ xs, wf41 x) l1 → ∃ k, skiarealaw34_SplitSums.f k l0 l1 = some true := by
  intro a b ha hb
  refine Ev.rounds (g := fun k => skiarealaw34_SplitSums.f k a b) ?_
  unfold skiarealaw34_SplitSums.f
  refine Ev.bind alive_ev ?_
  simp only [if_true]
  by_cases hl : (a.length : Int) > 100
  · simp only [if_pos hl]
    exact Ev.step (fun k => by simp only [skiarealaw34_SplitSums.j0]; rw [if_pos trivial]) (Ev.now _)
  simp only [if_neg hl]
  by_cases hl2 : (b.length : Int) > 100
  · simp only [decide_eq_true hl2]
    exact Ev.step (fun k => by simp only [skiarealaw34_SplitSums.j0]; rw [if_pos trivial]) (Ev.now _)
  simp only [decide_eq_false hl2]
  have hwa : ∀ s ∈ a, (Lit.int .i64 s.f0).wf = true := fun s hs => wf_of_I64 (ha.2 s hs).1
  have hwb : ∀ s ∈ b, (Lit.int .i64 s.f0).wf = true := fun s hs => wf_of_I64 (hb.2 s hs).1
  obtain ⟨r1, e1, A1⟩ := add_is a b (by omega) (fun s hs => (List.mem_append.1 hs).elim (hwa s) (hwb s))
  obtain ⟨r2, e2, A2⟩ := add_is b a (by omega) (fun s hs => (List.mem_append.1 hs).elim (hwb s) (hwa s))
  refine Ev.step (fun k => by simp only [skiarealaw34_SplitSums.j0]; rw [if_neg (by simp), e1, e2, Option.bind_some, Option.bind_some]) ?_
  rcases A1 with _ | ⟨M, x, hn, hM, hg, hax, hxl, hx⟩
  · simp
    exact Ev.now _
  have hxlen : x.length ≤ 9223372036854775807 := by
    rw [List.length_append] at hxl
    omega
  have hmem : ∀ s ∈ x, s.f1 ≠ 0 := by
    intro s hs
    rw [hx] at hs
    exact ((mem_few M hn s).1 ((split_Add.srt_spec _).1.mem_iff.1 hs)).1
  have hstrict : x.Pairwise (fun x y => x.f0 < y.f0) := by rw [hx]; exact srt_strict M hn
  have hloop : Ev (fun k => skiarealaw34_SplitSums.j1 k a b x false) true := by
    refine Ev.step (f := fun k => skiarealaw34_SplitSums.l0 k a b x ((0 : Nat) : Int)) (fun k => by simp only [skiarealaw34_SplitSums.j1]; rw [if_neg (by simp)]; rfl) (sums_loop a b x hxlen hmem hstrict ?_ x.length 0 (by omega))
    refine Ev.bind (total_is a (by omega)) (Ev.bind (total_is b (by omega)) (Ev.bind (total_is x hxlen) ?_))
    by_cases t1 : (total a).2 = 0
    · by_cases t2 : (total b).2 = 0
      · by_cases t3 : (total x).2 = 0
        · simp only [if_pos t1, if_pos t2, if_pos t3]
          have h1 := total_amounts t1
          have h2 := total_amounts t2
          have h3 := total_amounts t3
          have e : wrap64 ((total a).1 + (total b).1) = (total a).1 + (total b).1 := wrap_near _ (by have := h1.1; have := h2.1; unfold InM at *; omega) (by have := h1.1; have := h2.1; unfold InM at *; omega)
          rw [e, h1.2, h2.2, h3.2, hax, amounts_append, beq_self_eq_true]
          exact Ev.now _
        · simp only [if_pos t1, if_pos t2, if_neg t3]
          exact Ev.now _
      · simp only [if_pos t1, if_neg t2]
        exact Ev.now _
    · simp only [if_neg t1]
      exact Ev.now _
  simp only [if_true]
  rcases A2 with _ | ⟨M2, x2, hn2, hM2, hg2, _, _, hx2⟩
  · simp only [if_neg (show ¬ (12 : Int) = 0 by omega)]
    exact hloop
  · have hxx : x2 = x := by
      rw [hx2, hx]
      exact srt_eq M2 M hn2 hn (fun k => by rw [hg, hg2, given_comm])
    subst hxx
    simp only [if_true]
    refine Ev.bind (samesh_self _ hxlen) ?_
    exact hloop

end Go.Proofs.Ytamockdikeadnaa.Pure
