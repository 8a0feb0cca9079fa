-- Lines of this text were written by the print of the kit, run by a program of this session (print2.py).
import Derived.Test.YtamockdikeadnaaPx0
import Derived.Test.YtamockdikeadnaaPx10
namespace Go.Proofs.Ytamockdikeadnaa.Px
open Go.RowKit Go.Proofs.YtamockdikeadnaaW.PrintWords Go.Proofs.YtamockdikeadnaaW.PrintLast Go.Proofs.YtamockdikeadnaaW.PrintMore
attribute [local go_sem] max2_int min2_int max_two min_two max_three min_three max_four min_four   -- for this text's walks alone
set_option linter.unusedVariables false
set_option linter.unusedSimpArgs false

/-! ### skiarearef34_Add: function 19 -/
mutual
def skiarearef34_Add.l0 : Nat → List (S41) → List (S41) → Int → Option ((List (S41)) × Int)
  | 0, _, _, _ => none
  | k + 1, x6, x7, x8 => if x8 < (x6.length : Int) then (skiarearef34_Add.l1 k x6 x7 x8 0) else (skiarearef34_Add.l3 k x7 ([] : List (S41)) 0)
def skiarearef34_Add.j2 : Nat → List (S41) → List (S41) → Int → Int → Option ((List (S41)) × Int)
  | 0, _, _, _, _ => none
  | k + 1, x6, x7, x8, x9 => if x9 = (x7.length : Int) then (skiarearef34_Add.j3 k x6 x7 x8 x9 true) else (if 0 ≤ x9 then (if x9 < (x7.length : Int) then (if 0 ≤ x8 then (if x8 < (x6.length : Int) then (skiarearef34_Add.j3 k x6 x7 x8 x9 (((rd_T41 x7 x9).f0) != ((rd_T41 x6 x8).f0))) else (none)) else (none)) else (none)) else (none))
def skiarearef34_Add.j3 : Nat → List (S41) → List (S41) → Int → Int → Bool → Option ((List (S41)) × Int)
  | 0, _, _, _, _, _ => none
  | k + 1, x6, x7, x8, x9, x60 => if x60 = true then (if x7.length < 8796093022208 then ((some (x7 ++ [(⟨0, 0⟩ : S41)] : List (S41))).bind fun y214 => (skiarearef34_Add.l2 k x6 y214 x8 x9 (wrap64 ((y214.length : Int) - 1)))) else (none)) else (if 0 ≤ x9 then (if x9 < (x7.length : Int) then (if 0 ≤ x8 then (if x8 < (x6.length : Int) then ((skiarearef34_more.f ((rd_T41 x7 x9).f1) ((rd_T41 x6 x8).f1)).bind fun bt228 => (if bt228.2 = true then (skiarearef34_Add.l0 k x6 (x7.set (x9 : Int).toNat (⟨(rd_T41 x7 x9).f0, bt228.1⟩ : S41)) (wrap64 (x8 + 1))) else (some (([] : List (S41)), 12)))) else (none)) else (none)) else (none)) else (none))
def skiarearef34_Add.l2 : Nat → List (S41) → List (S41) → Int → Int → Int → Option ((List (S41)) × Int)
  | 0, _, _, _, _, _ => none
  | k + 1, x6, x7, x8, x9, x10 => if x10 > x9 then (if 0 ≤ (wrap64 (x10 - 1)) then (if (wrap64 (x10 - 1)) < (x7.length : Int) then (if 0 ≤ x10 then (if x10 < (x7.length : Int) then (skiarearef34_Add.l2 k x6 (x7.set (x10 : Int).toNat (⟨(rd_T41 x7 (wrap64 (x10 - 1))).f0, (rd_T41 x7 (wrap64 (x10 - 1))).f1⟩ : S41)) x8 x9 (wrap64 (x10 - 1))) else (none)) else (none)) else (none)) else (none)) else (if 0 ≤ x8 then (if x8 < (x6.length : Int) then (if 0 ≤ x9 then (if x9 < (x7.length : Int) then ((some (x7.set (x9 : Int).toNat (⟨(rd_T41 x6 x8).f0, 0⟩ : S41) : List (S41))).bind fun y220 => ((skiarearef34_more.f ((rd_T41 y220 x9).f1) ((rd_T41 x6 x8).f1)).bind fun bt223 => (if bt223.2 = true then (skiarearef34_Add.l0 k x6 (y220.set (x9 : Int).toNat (⟨(rd_T41 y220 x9).f0, bt223.1⟩ : S41)) (wrap64 (x8 + 1))) else (some (([] : List (S41)), 12))))) else (none)) else (none)) else (none)) else (none))
def skiarearef34_Add.l1 : Nat → List (S41) → List (S41) → Int → Int → Option ((List (S41)) × Int)
  | 0, _, _, _, _ => none
  | k + 1, x6, x7, x8, x9 => if x9 < (x7.length : Int) then (if 0 ≤ x9 then (if 0 ≤ x8 then (if x8 < (x6.length : Int) then (if ((rd_T41 x7 x9).f0) < ((rd_T41 x6 x8).f0) then (skiarearef34_Add.l1 k x6 x7 x8 (wrap64 (x9 + 1))) else (skiarearef34_Add.j2 k x6 x7 x8 x9)) else (none)) else (none)) else (none)) else (skiarearef34_Add.j2 k x6 x7 x8 x9)
def skiarearef34_Add.l3 : Nat → List (S41) → List (S41) → Int → Option ((List (S41)) × Int)
  | 0, _, _, _ => none
  | k + 1, x7, x13, x14 => if x14 < (x7.length : Int) then (if 0 ≤ x14 then (if ((rd_T41 x7 x14).f1) = 0 then (skiarearef34_Add.l3 k x7 x13 (wrap64 (x14 + 1))) else (if x13.length < 8796093022208 then (skiarearef34_Add.l3 k x7 (x13 ++ [(⟨(rd_T41 x7 x14).f0, (rd_T41 x7 x14).f1⟩ : S41)]) (wrap64 (x14 + 1))) else (none))) else (none)) else (some (x13, 0))
end
def skiarearef34_Add.f (k : Nat) (l0 : List (S41)) (l1 : List (S41)) : Option ((List (S41)) × Int) := if ([] : List (S41)).length + l0.length < 8796093022208 then ((some (([] : List (S41)) ++ l0 : List (S41))).bind fun y204 => (if y204.length + l1.length < 8796093022208 then (skiarearef34_Add.l0 k (y204 ++ l1) ([] : List (S41)) 0) else (none))) else (none)
theorem skiarearef34_Add.mono_l : ∀ k, (∀ y0 y1 y2, LeO (skiarearef34_Add.l0 k y0 y1 y2) (skiarearef34_Add.l0 (k + 1) y0 y1 y2)) ∧ (∀ y0 y1 y2 y3, LeO (skiarearef34_Add.j2 k y0 y1 y2 y3) (skiarearef34_Add.j2 (k + 1) y0 y1 y2 y3)) ∧ (∀ y0 y1 y2 y3 y4, LeO (skiarearef34_Add.j3 k y0 y1 y2 y3 y4) (skiarearef34_Add.j3 (k + 1) y0 y1 y2 y3 y4)) ∧ (∀ y0 y1 y2 y3 y4, LeO (skiarearef34_Add.l2 k y0 y1 y2 y3 y4) (skiarearef34_Add.l2 (k + 1) y0 y1 y2 y3 y4)) ∧ (∀ y0 y1 y2 y3, LeO (skiarearef34_Add.l1 k y0 y1 y2 y3) (skiarearef34_Add.l1 (k + 1) y0 y1 y2 y3)) ∧ (∀ y0 y1 y2, LeO (skiarearef34_Add.l3 k y0 y1 y2) (skiarearef34_Add.l3 (k + 1) y0 y1 y2))
  | 0 => ⟨fun _ _ _ r h => by simp [skiarearef34_Add.l0] at h, fun _ _ _ _ r h => by simp [skiarearef34_Add.j2] at h, fun _ _ _ _ _ r h => by simp [skiarearef34_Add.j3] at h, fun _ _ _ _ _ r h => by simp [skiarearef34_Add.l2] at h, fun _ _ _ _ r h => by simp [skiarearef34_Add.l1] at h, fun _ _ _ r h => by simp [skiarearef34_Add.l3] at h⟩
  | k + 1 => by
    obtain ⟨ih0, ih1, ih2, ih3, ih4, ih5⟩ := skiarearef34_Add.mono_l k
    refine ⟨?_, ?_, ?_, ?_, ?_, ?_⟩
    · intro y0 y1 y2
      unfold skiarearef34_Add.l0
      repeat' first
      | (with_reducible exact ih0 _ _ _)
      | (with_reducible exact ih1 _ _ _ _)
      | (with_reducible exact ih2 _ _ _ _ _)
      | (with_reducible exact ih3 _ _ _ _ _)
      | (with_reducible exact ih4 _ _ _ _)
      | (with_reducible exact ih5 _ _ _)
      | (with_reducible exact LeO.refl _)
      | (with_reducible exact LeO.none _)
      | (with_reducible refine LeO.ite ?_ ?_)
      | (with_reducible refine LeO.bind ?_ (fun _ => ?_))
      | exact ih0 _ _ _
      | exact ih1 _ _ _ _
      | exact ih2 _ _ _ _ _
      | exact ih3 _ _ _ _ _
      | exact ih4 _ _ _ _
      | exact ih5 _ _ _
      | exact LeO.none _
      | refine LeO.ite ?_ ?_
      | refine LeO.bind ?_ (fun _ => ?_)
    · intro y0 y1 y2 y3
      unfold skiarearef34_Add.j2
      repeat' first
      | (with_reducible exact ih0 _ _ _)
      | (with_reducible exact ih1 _ _ _ _)
      | (with_reducible exact ih2 _ _ _ _ _)
      | (with_reducible exact ih3 _ _ _ _ _)
      | (with_reducible exact ih4 _ _ _ _)
      | (with_reducible exact ih5 _ _ _)
      | (with_reducible exact LeO.refl _)
      | (with_reducible exact LeO.none _)
      | (with_reducible refine LeO.ite ?_ ?_)
      | (with_reducible refine LeO.bind ?_ (fun _ => ?_))
      | exact ih0 _ _ _
      | exact ih1 _ _ _ _
      | exact ih2 _ _ _ _ _
      | exact ih3 _ _ _ _ _
      | exact ih4 _ _ _ _
      | exact ih5 _ _ _
      | exact LeO.none _
      | refine LeO.ite ?_ ?_
      | refine LeO.bind ?_ (fun _ => ?_)
    · intro y0 y1 y2 y3 y4
      unfold skiarearef34_Add.j3
      repeat' first
      | (with_reducible exact ih0 _ _ _)
      | (with_reducible exact ih1 _ _ _ _)
      | (with_reducible exact ih2 _ _ _ _ _)
      | (with_reducible exact ih3 _ _ _ _ _)
      | (with_reducible exact ih4 _ _ _ _)
      | (with_reducible exact ih5 _ _ _)
      | (with_reducible exact LeO.refl _)
      | (with_reducible exact LeO.none _)
      | (with_reducible refine LeO.ite ?_ ?_)
      | (with_reducible refine LeO.bind ?_ (fun _ => ?_))
      | exact ih0 _ _ _
      | exact ih1 _ _ _ _
      | exact ih2 _ _ _ _ _
      | exact ih3 _ _ _ _ _
      | exact ih4 _ _ _ _
      | exact ih5 _ _ _
      | exact LeO.none _
      | refine LeO.ite ?_ ?_
      | refine LeO.bind ?_ (fun _ => ?_)
    · intro y0 y1 y2 y3 y4
      unfold skiarearef34_Add.l2
      repeat' first
      | (with_reducible exact ih0 _ _ _)
      | (with_reducible exact ih1 _ _ _ _)
      | (with_reducible exact ih2 _ _ _ _ _)
      | (with_reducible exact ih3 _ _ _ _ _)
      | (with_reducible exact ih4 _ _ _ _)
      | (with_reducible exact ih5 _ _ _)
      | (with_reducible exact LeO.refl _)
      | (with_reducible exact LeO.none _)
      | (with_reducible refine LeO.ite ?_ ?_)
      | (with_reducible refine LeO.bind ?_ (fun _ => ?_))
      | exact ih0 _ _ _
      | exact ih1 _ _ _ _
      | exact ih2 _ _ _ _ _
      | exact ih3 _ _ _ _ _
      | exact ih4 _ _ _ _
      | exact ih5 _ _ _
      | exact LeO.none _
      | refine LeO.ite ?_ ?_
      | refine LeO.bind ?_ (fun _ => ?_)
    · intro y0 y1 y2 y3
      unfold skiarearef34_Add.l1
      repeat' first
      | (with_reducible exact ih0 _ _ _)
      | (with_reducible exact ih1 _ _ _ _)
      | (with_reducible exact ih2 _ _ _ _ _)
      | (with_reducible exact ih3 _ _ _ _ _)
      | (with_reducible exact ih4 _ _ _ _)
      | (with_reducible exact ih5 _ _ _)
      | (with_reducible exact LeO.refl _)
      | (with_reducible exact LeO.none _)
      | (with_reducible refine LeO.ite ?_ ?_)
      | (with_reducible refine LeO.bind ?_ (fun _ => ?_))
      | exact ih0 _ _ _
      | exact ih1 _ _ _ _
      | exact ih2 _ _ _ _ _
      | exact ih3 _ _ _ _ _
      | exact ih4 _ _ _ _
      | exact ih5 _ _ _
      | exact LeO.none _
      | refine LeO.ite ?_ ?_
      | refine LeO.bind ?_ (fun _ => ?_)
    · intro y0 y1 y2
      unfold skiarearef34_Add.l3
      repeat' first
      | (with_reducible exact ih0 _ _ _)
      | (with_reducible exact ih1 _ _ _ _)
      | (with_reducible exact ih2 _ _ _ _ _)
      | (with_reducible exact ih3 _ _ _ _ _)
      | (with_reducible exact ih4 _ _ _ _)
      | (with_reducible exact ih5 _ _ _)
      | (with_reducible exact LeO.refl _)
      | (with_reducible exact LeO.none _)
      | (with_reducible refine LeO.ite ?_ ?_)
      | (with_reducible refine LeO.bind ?_ (fun _ => ?_))
      | exact ih0 _ _ _
      | exact ih1 _ _ _ _
      | exact ih2 _ _ _ _ _
      | exact ih3 _ _ _ _ _
      | exact ih4 _ _ _ _
      | exact ih5 _ _ _
      | exact LeO.none _
      | refine LeO.ite ?_ ?_
      | refine LeO.bind ?_ (fun _ => ?_)
theorem skiarearef34_Add.mono : ∀ a0 a1 k, LeO (skiarearef34_Add.f k a0 a1) (skiarearef34_Add.f (k + 1) a0 a1) := by
  intro a0 a1 k
  obtain ⟨ih0, ih1, ih2, ih3, ih4, ih5⟩ := skiarearef34_Add.mono_l k
  unfold skiarearef34_Add.f
  repeat' first
      | (with_reducible exact ih0 _ _ _)
      | (with_reducible exact ih1 _ _ _ _)
      | (with_reducible exact ih2 _ _ _ _ _)
      | (with_reducible exact ih3 _ _ _ _ _)
      | (with_reducible exact ih4 _ _ _ _)
      | (with_reducible exact ih5 _ _ _)
      | (with_reducible exact LeO.refl _)
      | (with_reducible exact LeO.none _)
      | (with_reducible refine LeO.ite ?_ ?_)
      | (with_reducible refine LeO.bind ?_ (fun _ => ?_))
      | exact ih0 _ _ _
      | exact ih1 _ _ _ _
      | exact ih2 _ _ _ _ _
      | exact ih3 _ _ _ _ _
      | exact ih4 _ _ _ _
      | exact ih5 _ _ _
      | exact LeO.none _
      | refine LeO.ite ?_ ?_
      | refine LeO.bind ?_ (fun _ => ?_)
set_option maxHeartbeats 8000000 in
set_option maxRecDepth 100000 in
theorem skiarearef34_Add.calls (k : Nat) (A0 : Option Addr) (c0 : Nat) (l0 : List (S41)) (A1 : Option Addr) (c1 : Nat) (l1 : List (S41)) (r1 : List (S41)) (r2 : Int) (w : World) (hr0 : Kd.C k41 w A0 l0.length l0) (hc0 : l0.length ≤ c0) (hr1 : Kd.C k41 w A1 l1.length l1) (hc1 : l1.length ≤ c1) (h : skiarearef34_Add.f k l0 l1 = some (r1, r2)) :
    Calls Try.prog 19 #[.slice A0 l0.length c0, .slice A1 l1.length c1] w fun e w' => ∃ v0_ : Value, e = .returned (.tuple #[v0_, .int .i64 r2]) ∧ Kd.R k41 41 w' w.heap.size (fun _ => True) v0_ r1 ∧ Below w.heap.size w w' := by
  have hu41 := Try.underlying41
  have HR0 := Aside0.mk hr0
  have HC0 := Aside0.mk hc0
  clear hr0 hc0
  have HR1 := Aside0.mk hr1
  have HC1 := Aside0.mk hc1
  clear hr1 hc1
  have HB := Aside0.mk (Below.refl w.heap.size w)
  have H : (if ([] : List (S41)).length + l0.length < 8796093022208 then ((some (([] : List (S41)) ++ l0 : List (S41))).bind fun y204 => (if y204.length + l1.length < 8796093022208 then (skiarearef34_Add.l0 k (y204 ++ l1) ([] : List (S41)) 0) else (none))) else (none)) = some (r1, r2) := h
  clear h
  by_cases c3 : ([] : List (S41)).length + l0.length < 8796093022208
  · rw [if_pos c3] at H
    have LMc3 := Aside0.mk c3
    clear c3
    obtain ⟨y204, hy204⟩ : ∃ y_ : List (S41), y_ = (([] : List (S41)) ++ l0) := ⟨_, rfl⟩
    replace H : (if y204.length + l1.length < 8796093022208 then (skiarearef34_Add.l0 k (y204 ++ l1) ([] : List (S41)) 0) else (none)) = some (r1, r2) := by first | (rw [hy204]; with_reducible exact H) | (have H2_ := (Option.bind_some _ _).symm.trans H; rw [hy204]; with_reducible exact H2_) | (have H2_ := (Option.bind_some _ _).symm.trans H; with_reducible exact H2_) | with_reducible exact H | (rw [hy204]; exact H) | exact H
    have Ny204 := Aside0.mk hy204
    clear hy204
    by_cases c4 : y204.length + l1.length < 8796093022208
    · rw [if_pos c4] at H
      have LMc4 := Aside0.mk c4
      clear c4
      obtain ⟨y207, hy207⟩ : ∃ y_ : List (S41), y_ = (y204 ++ l1) := ⟨_, rfl⟩
      replace H : (skiarearef34_Add.l0 k y207 ([] : List (S41)) 0) = some (r1, r2) := by first | (rw [hy207]; with_reducible exact H) | (have H2_ := (Option.bind_some _ _).symm.trans H; rw [hy207]; with_reducible exact H2_) | (have H2_ := (Option.bind_some _ _).symm.trans H; with_reducible exact H2_) | with_reducible exact H | (rw [hy207]; exact H) | exact H
      have Ny207 := Aside0.mk hy207
      clear hy207
      have H' := Aside0.mk H
      clear H
      go_enter Try.func19, Try.ntmps19
      go_wp2_with (first | ((with_reducible refine gate_builtin (b := .append) (xs := #[.const (.slice none 0 0), .tmp 15]) rfl ?_); at_builtin; refine Kd.R_append_rows k41 (w0 := w) w.heap.size rfl (.const (.slice none 0 0)) (.tmp 15) 32 41 (.agg #[(.int .i64 0), (.int .i64 0)]) 16 rfl Try.underlying32 info41 rfl (by decide) (by omega) (.slice none 0 0) ([] : List (S41)) l0 _ _ _ (fun _ => True) (fun _ => False) rfl rfl ?aO ?aR (fun _ _ h => h) (fun _ h => h.elim) ?aF ?aB ?aS ?aL ?_; (case aR => repeat (first | exact HR0.out | (with_reducible refine Kd.C_alloc ?_ _) | (with_reducible refine Kd.C_drewN ?_ _) | (with_reducible refine Kd.C_drew ?_))); (case aB => exact (by repeat (first | (with_reducible first | exact HB.out | apply below_alloc | apply pw_below_drewN | apply below_drew1) | exact HB.out))); (case aF => exact (fun _ _ => trivial)); (case aO => exact ((Kd.R_nil _ _ _ _ (fun _ => True)))); (case aS => exact (below_size (by repeat (first | (with_reducible first | exact HB.out | apply below_alloc | apply pw_below_drewN | apply below_drew1) | exact HB.out)))); (case aL => have := LMc3.out; omega); intro v205 w5 ho hb hg hat; rw [← Ny204.out] at ho; have n0_ := Aside0.mk (hb); have n1_ := Aside0.mk (ho); clear HB; have HB := n0_; have HO206 := n1_; clear n0_ n1_; clear ho hb hg hat) | ((with_reducible refine gate_builtin (b := .append) (xs := #[.tmp 16, .tmp 17]) rfl ?_); at_builtin; refine Kd.R_append_rows k41 (w0 := w) w.heap.size rfl (.tmp 16) (.tmp 17) 32 41 (.agg #[(.int .i64 0), (.int .i64 0)]) 16 rfl Try.underlying32 info41 rfl (by decide) (by omega) v205 y204 l1 _ _ _ (fun _ => True) (fun _ => False) rfl rfl ?aO ?aR (fun _ _ h => h) (fun _ h => h.elim) ?aF ?aB ?aS ?aL ?_; (case aR => repeat (first | exact (Kd.C_below HR1.out HB.out) | (with_reducible refine Kd.C_alloc ?_ _) | (with_reducible refine Kd.C_drewN ?_ _) | (with_reducible refine Kd.C_drew ?_))); (case aB => exact (by repeat (first | (with_reducible first | exact HB.out | apply below_alloc | apply pw_below_drewN | apply below_drew1) | exact HB.out))); (case aF => exact (fun _ _ => trivial)); (case aO => exact (by (with_reducible repeat (first | apply Kd.R_alloc | apply Kd.R_drewN | apply Kd.R_drew)); exact HO206.out)); (case aS => exact (below_size (by repeat (first | (with_reducible first | exact HB.out | apply below_alloc | apply pw_below_drewN | apply below_drew1) | exact HB.out)))); (case aL => have := LMc4.out; omega); intro v208 w6 ho hb hg hat; rw [← Ny207.out] at ho; have n0_ := Aside0.mk (hb); have n1_ := Aside0.mk (ho); clear HB; clear HO206; have HB := n0_; have HO209 := n1_; clear n0_ n1_; clear ho hb hg hat))
      repeat (go_quiet (first | ((with_reducible refine gate_builtin (b := .append) (xs := #[.const (.slice none 0 0), .tmp 15]) rfl ?_); at_builtin; refine Kd.R_append_rows k41 (w0 := w) w.heap.size rfl (.const (.slice none 0 0)) (.tmp 15) 32 41 (.agg #[(.int .i64 0), (.int .i64 0)]) 16 rfl Try.underlying32 info41 rfl (by decide) (by omega) (.slice none 0 0) ([] : List (S41)) l0 _ _ _ (fun _ => True) (fun _ => False) rfl rfl ?aO ?aR (fun _ _ h => h) (fun _ h => h.elim) ?aF ?aB ?aS ?aL ?_; (case aR => repeat (first | exact HR0.out | (with_reducible refine Kd.C_alloc ?_ _) | (with_reducible refine Kd.C_drewN ?_ _) | (with_reducible refine Kd.C_drew ?_))); (case aB => exact (by repeat (first | (with_reducible first | exact HB.out | apply below_alloc | apply pw_below_drewN | apply below_drew1) | exact HB.out))); (case aF => exact (fun _ _ => trivial)); (case aO => exact ((Kd.R_nil _ _ _ _ (fun _ => True)))); (case aS => exact (below_size (by repeat (first | (with_reducible first | exact HB.out | apply below_alloc | apply pw_below_drewN | apply below_drew1) | exact HB.out)))); (case aL => have := LMc3.out; omega); intro v205 w5 ho hb hg hat; rw [← Ny204.out] at ho; have n0_ := Aside0.mk (hb); have n1_ := Aside0.mk (ho); clear HB; have HB := n0_; have HO206 := n1_; clear n0_ n1_; clear ho hb hg hat) | ((with_reducible refine gate_builtin (b := .append) (xs := #[.tmp 16, .tmp 17]) rfl ?_); at_builtin; refine Kd.R_append_rows k41 (w0 := w) w.heap.size rfl (.tmp 16) (.tmp 17) 32 41 (.agg #[(.int .i64 0), (.int .i64 0)]) 16 rfl Try.underlying32 info41 rfl (by decide) (by omega) v205 y204 l1 _ _ _ (fun _ => True) (fun _ => False) rfl rfl ?aO ?aR (fun _ _ h => h) (fun _ h => h.elim) ?aF ?aB ?aS ?aL ?_; (case aR => repeat (first | exact (Kd.C_below HR1.out HB.out) | (with_reducible refine Kd.C_alloc ?_ _) | (with_reducible refine Kd.C_drewN ?_ _) | (with_reducible refine Kd.C_drew ?_))); (case aB => exact (by repeat (first | (with_reducible first | exact HB.out | apply below_alloc | apply pw_below_drewN | apply below_drew1) | exact HB.out))); (case aF => exact (fun _ _ => trivial)); (case aO => exact (by (with_reducible repeat (first | apply Kd.R_alloc | apply Kd.R_drewN | apply Kd.R_drew)); exact HO206.out)); (case aS => exact (below_size (by repeat (first | (with_reducible first | exact HB.out | apply below_alloc | apply pw_below_drewN | apply below_drew1) | exact HB.out)))); (case aL => have := LMc4.out; omega); intro v208 w6 ho hb hg hat; rw [← Ny207.out] at ho; have n0_ := Aside0.mk (hb); have n1_ := Aside0.mk (ho); clear HB; clear HO206; have HB := n0_; have HO209 := n1_; clear n0_ n1_; clear ho hb hg hat)); try go_wp2_with (first | ((with_reducible refine gate_builtin (b := .append) (xs := #[.const (.slice none 0 0), .tmp 15]) rfl ?_); at_builtin; refine Kd.R_append_rows k41 (w0 := w) w.heap.size rfl (.const (.slice none 0 0)) (.tmp 15) 32 41 (.agg #[(.int .i64 0), (.int .i64 0)]) 16 rfl Try.underlying32 info41 rfl (by decide) (by omega) (.slice none 0 0) ([] : List (S41)) l0 _ _ _ (fun _ => True) (fun _ => False) rfl rfl ?aO ?aR (fun _ _ h => h) (fun _ h => h.elim) ?aF ?aB ?aS ?aL ?_; (case aR => repeat (first | exact HR0.out | (with_reducible refine Kd.C_alloc ?_ _) | (with_reducible refine Kd.C_drewN ?_ _) | (with_reducible refine Kd.C_drew ?_))); (case aB => exact (by repeat (first | (with_reducible first | exact HB.out | apply below_alloc | apply pw_below_drewN | apply below_drew1) | exact HB.out))); (case aF => exact (fun _ _ => trivial)); (case aO => exact ((Kd.R_nil _ _ _ _ (fun _ => True)))); (case aS => exact (below_size (by repeat (first | (with_reducible first | exact HB.out | apply below_alloc | apply pw_below_drewN | apply below_drew1) | exact HB.out)))); (case aL => have := LMc3.out; omega); intro v205 w5 ho hb hg hat; rw [← Ny204.out] at ho; have n0_ := Aside0.mk (hb); have n1_ := Aside0.mk (ho); clear HB; have HB := n0_; have HO206 := n1_; clear n0_ n1_; clear ho hb hg hat) | ((with_reducible refine gate_builtin (b := .append) (xs := #[.tmp 16, .tmp 17]) rfl ?_); at_builtin; refine Kd.R_append_rows k41 (w0 := w) w.heap.size rfl (.tmp 16) (.tmp 17) 32 41 (.agg #[(.int .i64 0), (.int .i64 0)]) 16 rfl Try.underlying32 info41 rfl (by decide) (by omega) v205 y204 l1 _ _ _ (fun _ => True) (fun _ => False) rfl rfl ?aO ?aR (fun _ _ h => h) (fun _ h => h.elim) ?aF ?aB ?aS ?aL ?_; (case aR => repeat (first | exact (Kd.C_below HR1.out HB.out) | (with_reducible refine Kd.C_alloc ?_ _) | (with_reducible refine Kd.C_drewN ?_ _) | (with_reducible refine Kd.C_drew ?_))); (case aB => exact (by repeat (first | (with_reducible first | exact HB.out | apply below_alloc | apply pw_below_drewN | apply below_drew1) | exact HB.out))); (case aF => exact (fun _ _ => trivial)); (case aO => exact (by (with_reducible repeat (first | apply Kd.R_alloc | apply Kd.R_drewN | apply Kd.R_drew)); exact HO206.out)); (case aS => exact (below_size (by repeat (first | (with_reducible first | exact HB.out | apply below_alloc | apply pw_below_drewN | apply below_drew1) | exact HB.out)))); (case aL => have := LMc4.out; omega); intro v208 w6 ho hb hg hat; rw [← Ny207.out] at ho; have n0_ := Aside0.mk (hb); have n1_ := Aside0.mk (ho); clear HB; clear HO206; have HB := n0_; have HO209 := n1_; clear n0_ n1_; clear ho hb hg hat)))
      go_loopg [7, 8] k (fun kq v7 v8 w' => ∃ (x6_1 : List (S41)) (x7_1 : List (S41)) (x8_1 : Int), v8 = .int .i64 x8_1 ∧ Aside0 (skiarearef34_Add.l0 kq x6_1 x7_1 x8_1 = some (r1, r2)) ∧ Aside0 (kq ≤ k) ∧ Aside0 (Kd.R k41 41 w' w.heap.size (fun k_ => some k_ ≠ (v7 : Value).ownBlock) v208 x6_1) ∧ Aside0 (Kd.R k41 41 w' w.heap.size (fun k_ => some k_ ≠ (v208 : Value).ownBlock) v7 x7_1) ∧ Aside0 (Below w.heap.size w w'))
      case atStart => exact ⟨(y207), (([] : List (S41))), (0), (by first | rfl | (simp; done) | (simp [*]; done)), H', ⟨Nat.le_refl _⟩, ⟨by (with_reducible repeat (first | apply Kd.R_alloc | apply Kd.R_drewN | apply Kd.R_drew)); exact Kd.R_mono HO209.out (fun _ hk => (by simp [Value.ownBlock]))⟩, ⟨by first | exact Kd.R_nil _ _ _ _ _ | exact Kd.N_nil _ _ _ _ _ | exact Kd.V_nil _ _ _ _ _ | exact Kd.Q_nil _ _ _ _ _ | exact Kd.S_nil _ _ _ _ _⟩, ⟨by repeat (first | (with_reducible first | exact HB.out | apply below_alloc | apply pw_below_drewN | apply below_drew1) | exact HB.out)⟩⟩
      case round =>
        clear H'
        try clear c1
        try clear p2
        try clear c3
        try clear c4
        obtain ⟨x6_1, x7_1, x8_1, rfl, HA, HK1, HO_6, HO_7, HB⟩ := hrel
        cases gk with
        | zero => exact absurd HA.out (by simp [skiarearef34_Add.l0])
        | succ k1 =>
          have H := HA.out
          clear HA
          simp only [skiarearef34_Add.l0] at H
          by_cases c7 : x8_1 < (x6_1.length : Int)
          · rw [if_pos c7] at H
            have c7b0 : decide (x8_1 < (x6_1.length : Int)) = true := decide_eq_true c7
            clear c7
            have HC8 := Aside0.mk H
            clear H
            obtain ⟨Ao9, co9, eo9⟩ := Kd.R_slice HO_6.out
            subst eo9
            go_upto_block 2 with (fail)
            repeat (go_quiet (fail); go_upto_block 2 with (fail))
            go_cut [9] (fun v9 wc => ∃ (kq : Nat) (x9_7 : Int), v9 = .int .i64 x9_7 ∧ Aside0 (skiarearef34_Add.j2 kq x6_1 x7_1 x8_1 x9_7 = some (r1, r2)) ∧ Aside0 (kq ≤ k1) ∧ Aside0 (Kd.R k41 41 wc w.heap.size (fun k_ => some k_ ≠ (u7 : Value).ownBlock) (.slice Ao9 x6_1.length co9) x6_1) ∧ Aside0 (Kd.R k41 41 wc w.heap.size (fun k_ => some k_ ≠ ((.slice Ao9 x6_1.length co9) : Value).ownBlock) u7 x7_1) ∧ Aside0 (Below w.heap.size w wc))
            case first =>
              have H := HC8.out
              clear HC8
              have H' := Aside0.mk H
              clear H
              go_wp2
              repeat (go_quiet (fail); try go_wp2)
              go_loopg [9] k1 (fun kq v9 w' => ∃ (x9_2 : Int), v9 = .int .i64 x9_2 ∧ Aside0 (skiarearef34_Add.l1 kq x6_1 x7_1 x8_1 x9_2 = some (r1, r2)) ∧ Aside0 (kq ≤ k1) ∧ Aside0 (Kd.R k41 41 w' w.heap.size (fun k_ => some k_ ≠ (u7 : Value).ownBlock) (.slice Ao9 x6_1.length co9) x6_1) ∧ Aside0 (Kd.R k41 41 w' w.heap.size (fun k_ => some k_ ≠ ((.slice Ao9 x6_1.length co9) : Value).ownBlock) u7 x7_1) ∧ Aside0 (Below w.heap.size w w'))
              case atStart => exact ⟨(0), (by first | rfl | (simp; done) | (simp [*]; done)), H', ⟨Nat.le_refl _⟩, ⟨by (with_reducible repeat (first | apply Kd.R_alloc | apply Kd.R_drewN | apply Kd.R_drew)); exact HO_6.out⟩, ⟨by (with_reducible repeat (first | apply Kd.R_alloc | apply Kd.R_drewN | apply Kd.R_drew)); exact HO_7.out⟩, ⟨by repeat (first | (with_reducible first | exact HB.out | apply below_alloc | apply pw_below_drewN | apply below_drew1) | exact HB.out)⟩⟩
              case round =>
                clear H'
                try clear c1
                try clear p2
                try clear c3
                try clear c4
                try clear c7
                try clear c7b0
                try clear p2
                obtain ⟨x9_2, rfl, HA, HK2, HO_6, HO_7, HB⟩ := hrel
                cases gk with
                | zero => exact absurd HA.out (by simp [skiarearef34_Add.l1])
                | succ k2 =>
                  have H := HA.out
                  clear HA
                  simp only [skiarearef34_Add.l1] at H
                  by_cases c10 : x9_2 < (x7_1.length : Int)
                  · rw [if_pos c10] at H
                    have c10b0 : decide (x9_2 < (x7_1.length : Int)) = true := decide_eq_true c10
                    clear c10
                    (first | rw [c10b0] | (simp only [i64_w, i32_w]; rw [c10b0]) | skip)
                    by_cases c11 : 0 ≤ x9_2
                    · rw [if_pos c11] at H
                      have c11b0 : decide (0 ≤ x9_2) = true := decide_eq_true c11
                      clear c11
                      by_cases c12 : 0 ≤ x8_1
                      · rw [if_pos c12] at H
                        have c12b0 : decide (0 ≤ x8_1) = true := decide_eq_true c12
                        clear c12
                        by_cases c13 : x8_1 < (x6_1.length : Int)
                        · rw [if_pos c13] at H
                          have c13b0 : decide (x8_1 < (x6_1.length : Int)) = true := decide_eq_true c13
                          clear c13
                          by_cases c14 : ((rd_T41 x7_1 x9_2).f0) < ((rd_T41 x6_1 x8_1).f0)
                          · rw [if_pos c14] at H
                            have c14b0 : decide (((rd_T41 x7_1 x9_2).f0) < ((rd_T41 x6_1 x8_1).f0)) = true := decide_eq_true c14
                            clear c14
                            have H' := Aside0.mk H
                            clear H
                            obtain ⟨Ao15, co15, eo15⟩ := Kd.R_slice HO_7.out
                            subst eo15
                            have p210 : 0 ≤ (x9_2 : Int) := of_decide_eq_true (by first | (with_reducible assumption) | assumption)
                            have q210 : x9_2 < (x7_1.length : Int) := of_decide_eq_true (by first | (with_reducible assumption) | assumption)
                            obtain ⟨ad210, e210, hx210_0, hx210_1⟩ := at_T41 (Kd.R_reads' HO_7.out).2.2 x9_2 p210 q210
                            cases e210
                            replace p210 := eq_true p210
                            replace q210 := eq_true q210
                            have p211 : 0 ≤ (x8_1 : Int) := of_decide_eq_true (by first | (with_reducible assumption) | assumption)
                            have q211 : x8_1 < (x6_1.length : Int) := of_decide_eq_true (by first | (with_reducible assumption) | assumption)
                            obtain ⟨ad211, e211, hx211_0, hx211_1⟩ := at_T41 (Kd.R_reads' HO_6.out).2.2 x8_1 p211 q211
                            cases e211
                            replace p211 := eq_true p211
                            replace q211 := eq_true q211
                            go_wp2
                            repeat (go_quiet (fail); try go_wp2)
                            go_roundg k2
                            case measure => have := HK1.out; have := HK2.out; omega
                            case rel => exact ⟨(wrap64 (x9_2 + 1)), (by first | rfl | (simp; done) | (simp [*]; done)), H', ⟨by have := HK1.out; have := HK2.out; omega⟩, ⟨by (with_reducible repeat (first | apply Kd.R_alloc | apply Kd.R_drewN | apply Kd.R_drew)); exact HO_6.out⟩, ⟨by (with_reducible repeat (first | apply Kd.R_alloc | apply Kd.R_drewN | apply Kd.R_drew)); exact HO_7.out⟩, ⟨by repeat (first | (with_reducible first | exact HB.out | apply below_alloc | apply pw_below_drewN | apply below_drew1) | exact HB.out)⟩⟩
                          · rw [if_neg c14] at H
                            have c14b0 : decide (((rd_T41 x7_1 x9_2).f0) < ((rd_T41 x6_1 x8_1).f0)) = false := decide_eq_false c14
                            clear c14
                            have H' := Aside0.mk H
                            clear H
                            obtain ⟨Ao16, co16, eo16⟩ := Kd.R_slice HO_7.out
                            subst eo16
                            have p210 : 0 ≤ (x9_2 : Int) := of_decide_eq_true (by first | (with_reducible assumption) | assumption)
                            have q210 : x9_2 < (x7_1.length : Int) := of_decide_eq_true (by first | (with_reducible assumption) | assumption)
                            obtain ⟨ad210, e210, hx210_0, hx210_1⟩ := at_T41 (Kd.R_reads' HO_7.out).2.2 x9_2 p210 q210
                            cases e210
                            replace p210 := eq_true p210
                            replace q210 := eq_true q210
                            have p211 : 0 ≤ (x8_1 : Int) := of_decide_eq_true (by first | (with_reducible assumption) | assumption)
                            have q211 : x8_1 < (x6_1.length : Int) := of_decide_eq_true (by first | (with_reducible assumption) | assumption)
                            obtain ⟨ad211, e211, hx211_0, hx211_1⟩ := at_T41 (Kd.R_reads' HO_6.out).2.2 x8_1 p211 q211
                            cases e211
                            replace p211 := eq_true p211
                            replace q211 := eq_true q211
                            go_wp2
                            repeat (go_quiet (fail); try go_wp2)
                            go_meet
                            case rel => exact ⟨_, (x9_2), (by first | rfl | (simp; done) | (simp [*]; done)), H', ⟨by have := HK1.out; have := HK2.out; first | omega | exact Nat.le_refl _⟩, ⟨by (with_reducible repeat (first | apply Kd.R_alloc | apply Kd.R_drewN | apply Kd.R_drew)); exact HO_6.out⟩, ⟨by (with_reducible repeat (first | apply Kd.R_alloc | apply Kd.R_drewN | apply Kd.R_drew)); exact HO_7.out⟩, ⟨by repeat (first | (with_reducible first | exact HB.out | apply below_alloc | apply pw_below_drewN | apply below_drew1) | exact HB.out)⟩⟩
                        · rw [if_neg c13] at H
                          exact absurd H (by simp)
                      · rw [if_neg c12] at H
                        exact absurd H (by simp)
                    · rw [if_neg c11] at H
                      exact absurd H (by simp)
                  · rw [if_neg c10] at H
                    have c10b0 : decide (x9_2 < (x7_1.length : Int)) = false := decide_eq_false c10
                    clear c10
                    (first | rw [c10b0] | (simp only [i64_w, i32_w]; rw [c10b0]) | skip)
                    have H' := Aside0.mk H
                    clear H
                    obtain ⟨Ao17, co17, eo17⟩ := Kd.R_slice HO_7.out
                    subst eo17
                    go_wp2
                    repeat (go_quiet (fail); try go_wp2)
                    go_meet
                    case rel => exact ⟨_, (x9_2), (by first | rfl | (simp; done) | (simp [*]; done)), H', ⟨by have := HK1.out; have := HK2.out; first | omega | exact Nat.le_refl _⟩, ⟨by (with_reducible repeat (first | apply Kd.R_alloc | apply Kd.R_drewN | apply Kd.R_drew)); exact HO_6.out⟩, ⟨by (with_reducible repeat (first | apply Kd.R_alloc | apply Kd.R_drewN | apply Kd.R_drew)); exact HO_7.out⟩, ⟨by repeat (first | (with_reducible first | exact HB.out | apply below_alloc | apply pw_below_drewN | apply below_drew1) | exact HB.out)⟩⟩
            case rest =>
              clear HC8
              try clear c1
              try clear p2
              try clear q2
              try clear hx2
              try clear c3
              try clear c4
              try clear p6
              try clear c7
              try clear c7b0
              try clear c10
              try clear c10b0
              try clear c11
              try clear c11b0
              try clear c12
              try clear c12b0
              try clear c13
              try clear c13b0
              try clear c14
              try clear c14b0
              try clear hx210_0
              try clear hx210_1
              try clear hx211_0
              try clear hx211_1
              try clear p2
              try clear p210
              try clear p211
              try clear q210
              try clear q211
              obtain ⟨kq, x9_7, rfl, HA, HJ7, HO_6, HO_7, HB⟩ := hcut
              cases kq with
              | zero => exact absurd HA.out (by simp [skiarearef34_Add.j2])
              | succ kj7 =>
                have H := HA.out
                clear HA
                simp only [skiarearef34_Add.j2] at H
                have HC18 := Aside0.mk H
                clear H
                go_upto_region 9 with (fail)
                repeat (go_quiet (fail); go_upto_region 9 with (fail))
                go_cut [60] (fun v60 wc => ∃ (kq : Nat) (x60_17 : Bool), v60 = .bool x60_17 ∧ Aside0 (skiarearef34_Add.j3 kq x6_1 x7_1 x8_1 x9_7 x60_17 = some (r1, r2)) ∧ Aside0 (kq ≤ kj7) ∧ Aside0 (Kd.R k41 41 wc w.heap.size (fun k_ => some k_ ≠ (u7 : Value).ownBlock) (.slice Ao9 x6_1.length co9) x6_1) ∧ Aside0 (Kd.R k41 41 wc w.heap.size (fun k_ => some k_ ≠ ((.slice Ao9 x6_1.length co9) : Value).ownBlock) u7 x7_1) ∧ Aside0 (Below w.heap.size w wc))
                case first =>
                  have H := HC18.out
                  clear HC18
                  by_cases c19 : x9_7 = (x7_1.length : Int)
                  · rw [if_pos c19] at H
                    have c19b0 : (x9_7 == (x7_1.length : Int)) = true := beq_iff_eq.mpr c19
                    have c19b1 : (x9_7 != (x7_1.length : Int)) = false := bne_eq_false_iff_eq.mpr c19
                    clear c19
                    (first | rw [c19b0] | (simp only [i64_w, i32_w]; rw [c19b0]) | skip)
                    have H' := Aside0.mk H
                    clear H
                    obtain ⟨Ao20, co20, eo20⟩ := Kd.R_slice HO_7.out
                    subst eo20
                    go_wp2
                    repeat (go_quiet (fail); try go_wp2)
                    go_meet
                    case rel => exact ⟨_, (true), (by first | rfl | (simp; done) | (simp [*]; done)), H', ⟨by have := HK1.out; have := HJ7.out; first | omega | exact Nat.le_refl _⟩, ⟨by (with_reducible repeat (first | apply Kd.R_alloc | apply Kd.R_drewN | apply Kd.R_drew)); exact HO_6.out⟩, ⟨by (with_reducible repeat (first | apply Kd.R_alloc | apply Kd.R_drewN | apply Kd.R_drew)); exact HO_7.out⟩, ⟨by repeat (first | (with_reducible first | exact HB.out | apply below_alloc | apply pw_below_drewN | apply below_drew1) | exact HB.out)⟩⟩
                  · rw [if_neg c19] at H
                    have c19b0 : (x9_7 == (x7_1.length : Int)) = false := beq_eq_false_iff_ne.mpr c19
                    have c19b1 : (x9_7 != (x7_1.length : Int)) = true := bne_iff_ne.mpr c19
                    (first | rw [c19b0] | (simp only [i64_w, i32_w]; rw [c19b0]) | skip)
                    by_cases c21 : 0 ≤ x9_7
                    · rw [if_pos c21] at H
                      have c21b0 : decide (0 ≤ x9_7) = true := decide_eq_true c21
                      clear c21
                      by_cases c22 : x9_7 < (x7_1.length : Int)
                      · rw [if_pos c22] at H
                        have c22b0 : decide (x9_7 < (x7_1.length : Int)) = true := decide_eq_true c22
                        clear c22
                        by_cases c23 : 0 ≤ x8_1
                        · rw [if_pos c23] at H
                          have c23b0 : decide (0 ≤ x8_1) = true := decide_eq_true c23
                          clear c23
                          by_cases c24 : x8_1 < (x6_1.length : Int)
                          · rw [if_pos c24] at H
                            have c24b0 : decide (x8_1 < (x6_1.length : Int)) = true := decide_eq_true c24
                            clear c24
                            have H' := Aside0.mk H
                            clear H
                            obtain ⟨Ao25, co25, eo25⟩ := Kd.R_slice HO_7.out
                            subst eo25
                            have p212 : 0 ≤ (x9_7 : Int) := of_decide_eq_true (by first | (with_reducible assumption) | assumption)
                            have q212 : x9_7 < (x7_1.length : Int) := of_decide_eq_true (by first | (with_reducible assumption) | assumption)
                            obtain ⟨ad212, e212, hx212_0, hx212_1⟩ := at_T41 (Kd.R_reads' HO_7.out).2.2 x9_7 p212 q212
                            cases e212
                            replace p212 := eq_true p212
                            replace q212 := eq_true q212
                            have p213 : 0 ≤ (x8_1 : Int) := of_decide_eq_true (by first | (with_reducible assumption) | assumption)
                            have q213 : x8_1 < (x6_1.length : Int) := of_decide_eq_true (by first | (with_reducible assumption) | assumption)
                            obtain ⟨ad213, e213, hx213_0, hx213_1⟩ := at_T41 (Kd.R_reads' HO_6.out).2.2 x8_1 p213 q213
                            cases e213
                            replace p213 := eq_true p213
                            replace q213 := eq_true q213
                            go_wp2
                            repeat (go_quiet (fail); try go_wp2)
                            go_meet
                            case rel => exact ⟨_, ((((rd_T41 x7_1 x9_7).f0) != ((rd_T41 x6_1 x8_1).f0))), (by first | rfl | (simp; done) | (simp [*]; done)), H', ⟨by have := HK1.out; have := HJ7.out; first | omega | exact Nat.le_refl _⟩, ⟨by (with_reducible repeat (first | apply Kd.R_alloc | apply Kd.R_drewN | apply Kd.R_drew)); exact HO_6.out⟩, ⟨by (with_reducible repeat (first | apply Kd.R_alloc | apply Kd.R_drewN | apply Kd.R_drew)); exact HO_7.out⟩, ⟨by repeat (first | (with_reducible first | exact HB.out | apply below_alloc | apply pw_below_drewN | apply below_drew1) | exact HB.out)⟩⟩
                          · rw [if_neg c24] at H
                            exact absurd H (by simp)
                        · rw [if_neg c23] at H
                          exact absurd H (by simp)
                      · rw [if_neg c22] at H
                        exact absurd H (by simp)
                    · rw [if_neg c21] at H
                      exact absurd H (by simp)
                case rest =>
                  clear HC18
                  try clear c1
                  try clear c2
                  try clear p2
                  try clear q2
                  try clear hx2
                  try clear c3
                  try clear c4
                  try clear p6
                  try clear c7
                  try clear c7b0
                  try clear c10
                  try clear c10b0
                  try clear c11
                  try clear c11b0
                  try clear c12
                  try clear c12b0
                  try clear c13
                  try clear c13b0
                  try clear c14
                  try clear c14b0
                  try clear c19
                  try clear c19b0
                  try clear c19b1
                  try clear c21
                  try clear c21b0
                  try clear p21
                  try clear q21
                  try clear hx21
                  try clear c22
                  try clear c22b0
                  try clear c23
                  try clear c23b0
                  try clear c24
                  try clear c24b0
                  try clear hx210_0
                  try clear hx210_1
                  try clear hx211_0
                  try clear hx211_1
                  try clear hx212_0
                  try clear hx212_1
                  try clear hx213_0
                  try clear hx213_1
                  try clear p2
                  try clear p210
                  try clear p211
                  try clear p212
                  try clear p213
                  try clear p6
                  try clear q2
                  try clear q210
                  try clear q211
                  try clear q212
                  try clear q213
                  obtain ⟨kq, x60_17, rfl, HA, HJ17, HO_6, HO_7, HB⟩ := hcut
                  cases kq with
                  | zero => exact absurd HA.out (by simp [skiarearef34_Add.j3])
                  | succ kj17 =>
                    have H := HA.out
                    clear HA
                    simp only [skiarearef34_Add.j3] at H
                    by_cases c26 : x60_17 = true
                    · subst c26
                      have H1 : (if x7_1.length < 8796093022208 then ((some (x7_1 ++ [(⟨0, 0⟩ : S41)] : List (S41))).bind fun y214 => (skiarearef34_Add.l2 kj17 x6_1 y214 x8_1 x9_7 (wrap64 ((y214.length : Int) - 1)))) else (none)) = some (r1, r2) := by rw [if_pos rfl] at H; exact H
                      clear H
                      have H := H1
                      clear H1
                      by_cases c27 : x7_1.length < 8796093022208
                      · rw [if_pos c27] at H
                        have LMc27 := Aside0.mk c27
                        clear c27
                        obtain ⟨y214, hy214⟩ : ∃ y_ : List (S41), y_ = (x7_1 ++ [(⟨0, 0⟩ : S41)]) := ⟨_, rfl⟩
                        replace H : (skiarearef34_Add.l2 kj17 x6_1 y214 x8_1 x9_7 (wrap64 ((y214.length : Int) - 1))) = some (r1, r2) := by first | (rw [hy214]; with_reducible exact H) | (have H2_ := (Option.bind_some _ _).symm.trans H; rw [hy214]; with_reducible exact H2_) | (have H2_ := (Option.bind_some _ _).symm.trans H; with_reducible exact H2_) | with_reducible exact H | (rw [hy214]; exact H) | exact H
                        have Ny214 := Aside0.mk hy214
                        clear hy214
                        have H' := Aside0.mk H
                        clear H
                        go_wp2_with (first | ((with_reducible refine gate_builtin (b := .append) (xs := #[.tmp 61, .tmp 63]) rfl ?_); at_builtin; refine Kd.R_append k41 (w0 := w) w.heap.size rfl (.tmp 61) (.tmp 63) 32 41 (.agg #[(.int .i64 0), (.int .i64 0)]) 16 rfl Try.underlying32 info41 rfl (by decide) (by omega) u7 x7_1 (⟨0, 0⟩ : S41) [.int .i64 0, .int .i64 0] (fun k_ => some k_ ≠ (.slice Ao9 x6_1.length co9 : Value).ownBlock) (fun _ => False) rfl rfl ?aP (fun _ hk => hk.elim) ?aF ?aO ?aB ?aS ?aL ?_; (case aP => exact k41_mkM _ _ _ (⟨0, 0⟩ : S41)); (case aB => exact (by repeat (first | (with_reducible first | exact HB.out | apply below_alloc | apply pw_below_drewN | apply below_drew1) | exact HB.out))); (case aF => exact (fun k_ hk => Kd.fresh' (Kd.R_lt (by (with_reducible repeat (first | apply Kd.R_alloc | apply Kd.R_drewN | apply Kd.R_drew)); exact HO_6.out)) k_ hk)); (case aO => exact (by (with_reducible repeat (first | apply Kd.R_alloc | apply Kd.R_drewN | apply Kd.R_drew)); exact HO_7.out)); (case aS => exact (below_size (by repeat (first | (with_reducible first | exact HB.out | apply below_alloc | apply pw_below_drewN | apply below_drew1) | exact HB.out)))); (case aL => have := LMc27.out; omega); intro v215 w28 ho hb hg hat; rw [← Ny214.out] at ho; have n0_ := Aside0.mk (Kd.R_after (ok := (fun _ => True)) (by (with_reducible repeat (first | apply Kd.R_alloc | apply Kd.R_drewN | apply Kd.R_drew)); exact Kd.R_mono HO_6.out (fun _ hk => ⟨trivial, hk⟩)) hg hat); have n1_ := Aside0.mk (hb); have n2_ := Aside0.mk (ho); clear HO_6; clear HB; clear HO_7; have HO_6 := n0_; have HB := n1_; have HO216 := n2_; clear n0_ n1_ n2_; clear ho hb hg hat; obtain ⟨Ao29, co29, eo29⟩ := Kd.R_slice HO216.out; subst eo29))
                        repeat (go_quiet (first | ((with_reducible refine gate_builtin (b := .append) (xs := #[.tmp 61, .tmp 63]) rfl ?_); at_builtin; refine Kd.R_append k41 (w0 := w) w.heap.size rfl (.tmp 61) (.tmp 63) 32 41 (.agg #[(.int .i64 0), (.int .i64 0)]) 16 rfl Try.underlying32 info41 rfl (by decide) (by omega) u7 x7_1 (⟨0, 0⟩ : S41) [.int .i64 0, .int .i64 0] (fun k_ => some k_ ≠ (.slice Ao9 x6_1.length co9 : Value).ownBlock) (fun _ => False) rfl rfl ?aP (fun _ hk => hk.elim) ?aF ?aO ?aB ?aS ?aL ?_; (case aP => exact k41_mkM _ _ _ (⟨0, 0⟩ : S41)); (case aB => exact (by repeat (first | (with_reducible first | exact HB.out | apply below_alloc | apply pw_below_drewN | apply below_drew1) | exact HB.out))); (case aF => exact (fun k_ hk => Kd.fresh' (Kd.R_lt (by (with_reducible repeat (first | apply Kd.R_alloc | apply Kd.R_drewN | apply Kd.R_drew)); exact HO_6.out)) k_ hk)); (case aO => exact (by (with_reducible repeat (first | apply Kd.R_alloc | apply Kd.R_drewN | apply Kd.R_drew)); exact HO_7.out)); (case aS => exact (below_size (by repeat (first | (with_reducible first | exact HB.out | apply below_alloc | apply pw_below_drewN | apply below_drew1) | exact HB.out)))); (case aL => have := LMc27.out; omega); intro v215 w28 ho hb hg hat; rw [← Ny214.out] at ho; have n0_ := Aside0.mk (Kd.R_after (ok := (fun _ => True)) (by (with_reducible repeat (first | apply Kd.R_alloc | apply Kd.R_drewN | apply Kd.R_drew)); exact Kd.R_mono HO_6.out (fun _ hk => ⟨trivial, hk⟩)) hg hat); have n1_ := Aside0.mk (hb); have n2_ := Aside0.mk (ho); clear HO_6; clear HB; clear HO_7; have HO_6 := n0_; have HB := n1_; have HO216 := n2_; clear n0_ n1_ n2_; clear ho hb hg hat; obtain ⟨Ao29, co29, eo29⟩ := Kd.R_slice HO216.out; subst eo29)); try go_wp2_with (first | ((with_reducible refine gate_builtin (b := .append) (xs := #[.tmp 61, .tmp 63]) rfl ?_); at_builtin; refine Kd.R_append k41 (w0 := w) w.heap.size rfl (.tmp 61) (.tmp 63) 32 41 (.agg #[(.int .i64 0), (.int .i64 0)]) 16 rfl Try.underlying32 info41 rfl (by decide) (by omega) u7 x7_1 (⟨0, 0⟩ : S41) [.int .i64 0, .int .i64 0] (fun k_ => some k_ ≠ (.slice Ao9 x6_1.length co9 : Value).ownBlock) (fun _ => False) rfl rfl ?aP (fun _ hk => hk.elim) ?aF ?aO ?aB ?aS ?aL ?_; (case aP => exact k41_mkM _ _ _ (⟨0, 0⟩ : S41)); (case aB => exact (by repeat (first | (with_reducible first | exact HB.out | apply below_alloc | apply pw_below_drewN | apply below_drew1) | exact HB.out))); (case aF => exact (fun k_ hk => Kd.fresh' (Kd.R_lt (by (with_reducible repeat (first | apply Kd.R_alloc | apply Kd.R_drewN | apply Kd.R_drew)); exact HO_6.out)) k_ hk)); (case aO => exact (by (with_reducible repeat (first | apply Kd.R_alloc | apply Kd.R_drewN | apply Kd.R_drew)); exact HO_7.out)); (case aS => exact (below_size (by repeat (first | (with_reducible first | exact HB.out | apply below_alloc | apply pw_below_drewN | apply below_drew1) | exact HB.out)))); (case aL => have := LMc27.out; omega); intro v215 w28 ho hb hg hat; rw [← Ny214.out] at ho; have n0_ := Aside0.mk (Kd.R_after (ok := (fun _ => True)) (by (with_reducible repeat (first | apply Kd.R_alloc | apply Kd.R_drewN | apply Kd.R_drew)); exact Kd.R_mono HO_6.out (fun _ hk => ⟨trivial, hk⟩)) hg hat); have n1_ := Aside0.mk (hb); have n2_ := Aside0.mk (ho); clear HO_6; clear HB; clear HO_7; have HO_6 := n0_; have HB := n1_; have HO216 := n2_; clear n0_ n1_ n2_; clear ho hb hg hat; obtain ⟨Ao29, co29, eo29⟩ := Kd.R_slice HO216.out; subst eo29)))
                        go_loopg [10] kj17 (fun kq v10 w' => ∃ (x7_4 : List (S41)) (x10_4 : Int), v10 = .int .i64 x10_4 ∧ Aside0 (skiarearef34_Add.l2 kq x6_1 x7_4 x8_1 x9_7 x10_4 = some (r1, r2)) ∧ Aside0 (kq ≤ kj17) ∧ Aside0 (Kd.R k41 41 w' w.heap.size (fun k_ => some k_ ≠ ((.slice Ao29 y214.length co29) : Value).ownBlock) (.slice Ao9 x6_1.length co9) x6_1) ∧ Aside0 (Kd.R k41 41 w' w.heap.size (fun k_ => some k_ ≠ ((.slice Ao9 x6_1.length co9) : Value).ownBlock) (.slice Ao29 y214.length co29) x7_4) ∧ Aside0 (Below w.heap.size w w'))
                        case atStart => exact ⟨(y214), (wrap64 ((y214.length : Int) - 1)), (by first | rfl | (simp; done) | (simp [*]; done)), H', ⟨Nat.le_refl _⟩, ⟨by (with_reducible repeat (first | apply Kd.R_alloc | apply Kd.R_drewN | apply Kd.R_drew)); exact Kd.R_mono HO_6.out (fun _ hk => hk.2)⟩, ⟨by (with_reducible repeat (first | apply Kd.R_alloc | apply Kd.R_drewN | apply Kd.R_drew)); exact HO216.out⟩, ⟨by repeat (first | (with_reducible first | exact HB.out | apply below_alloc | apply pw_below_drewN | apply below_drew1) | exact HB.out)⟩⟩
                        case round =>
                          clear H'
                          try clear c1
                          try clear c2
                          try clear p2
                          try clear q2
                          try clear hx2
                          try clear c3
                          try clear c4
                          try clear p6
                          try clear c7
                          try clear c7b0
                          try clear c10
                          try clear c10b0
                          try clear c11
                          try clear c11b0
                          try clear c12
                          try clear c12b0
                          try clear c13
                          try clear c13b0
                          try clear c14
                          try clear c14b0
                          try clear c19
                          try clear c19b0
                          try clear c19b1
                          try clear c21
                          try clear c21b0
                          try clear p21
                          try clear q21
                          try clear hx21
                          try clear c22
                          try clear c22b0
                          try clear c23
                          try clear c23b0
                          try clear c24
                          try clear c24b0
                          try clear c26
                          try clear c27
                          try clear hx210_0
                          try clear hx210_1
                          try clear hx211_0
                          try clear hx211_1
                          try clear hx212_0
                          try clear hx212_1
                          try clear hx213_0
                          try clear hx213_1
                          try clear p2
                          try clear p21
                          try clear p210
                          try clear p211
                          try clear p212
                          try clear p213
                          try clear p6
                          try clear q2
                          try clear q21
                          try clear q210
                          try clear q211
                          try clear q212
                          try clear q213
                          obtain ⟨x7_4, x10_4, rfl, HA, HK4, HO_6, HO_7, HB⟩ := hrel
                          have hl7_4 := (Kd.R_reads' HO_7.out).1
                          rw [hl7_4] at HO_7
                          (try simp only [hl7_4])
                          (try simp only [hl7_4] at HO_6)
                          cases gk with
                          | zero => exact absurd HA.out (by simp [skiarearef34_Add.l2])
                          | succ k4 =>
                            have H := HA.out
                            clear HA
                            simp only [skiarearef34_Add.l2] at H
                            by_cases c30 : x10_4 > x9_7
                            · rw [if_pos c30] at H
                              have c30b0 : decide (x9_7 < x10_4) = true := decide_eq_true c30
                              clear c30
                              obtain ⟨ji31, hji31⟩ : ∃ j_ : Int, (wrap64 (x10_4 - 1)) = j_ := ⟨_, rfl⟩
                              replace H : (if 0 ≤ (ji31) then (if (ji31) < (x7_4.length : Int) then (if 0 ≤ x10_4 then (if x10_4 < (x7_4.length : Int) then (skiarearef34_Add.l2 k4 x6_1 (x7_4.set (x10_4 : Int).toNat (⟨(rd_T41 x7_4 (ji31)).f0, (rd_T41 x7_4 (ji31)).f1⟩ : S41)) x8_1 x9_7 ji31) else (none)) else (none)) else (none)) else (none)) = some (r1, r2) := by first | (rw [hji31] at H; exact H) | (simp only [hji31] at H ⊢; exact H)
                              have hji31w : (IntKind.i64.wrap (x10_4 - 1)) = ji31 := (i64_w _).trans hji31
                              by_cases c32 : 0 ≤ (ji31)
                              · rw [if_pos c32] at H
                                have c32b0 : decide (0 ≤ (ji31)) = true := decide_eq_true c32
                                clear c32
                                by_cases c33 : (ji31) < (x7_4.length : Int)
                                · rw [if_pos c33] at H
                                  have c33b0 : decide ((ji31) < (x7_4.length : Int)) = true := decide_eq_true c33
                                  clear c33
                                  by_cases c34 : 0 ≤ x10_4
                                  · rw [if_pos c34] at H
                                    have c34b0 : decide (0 ≤ x10_4) = true := decide_eq_true c34
                                    clear c34
                                    by_cases c35 : x10_4 < (x7_4.length : Int)
                                    · rw [if_pos c35] at H
                                      have c35b0 : decide (x10_4 < (x7_4.length : Int)) = true := decide_eq_true c35
                                      clear c35
                                      obtain ⟨y218, hy218⟩ : ∃ y_ : List (S41), y_ = (x7_4.set (x10_4 : Int).toNat (⟨(rd_T41 x7_4 (ji31)).f0, (rd_T41 x7_4 (ji31)).f1⟩ : S41)) := ⟨_, rfl⟩
                                      replace H : (skiarearef34_Add.l2 k4 x6_1 y218 x8_1 x9_7 ji31) = some (r1, r2) := by first | (rw [hy218]; with_reducible exact H) | (have H2_ := (Option.bind_some _ _).symm.trans H; rw [hy218]; with_reducible exact H2_) | (have H2_ := (Option.bind_some _ _).symm.trans H; with_reducible exact H2_) | with_reducible exact H | (rw [hy218]; exact H) | exact H
                                      have Ny218 := Aside0.mk hy218
                                      clear hy218
                                      have H' := Aside0.mk H
                                      clear H
                                      have p217 : 0 ≤ ((ji31) : Int) := of_decide_eq_true (by first | (with_reducible assumption) | assumption)
                                      have q217 : (ji31) < (x7_4.length : Int) := of_decide_eq_true (by first | (with_reducible assumption) | assumption)
                                      obtain ⟨ad217, e217, hx217_0, hx217_1⟩ := at_T41 (Kd.R_reads' HO_7.out).2.2 (ji31) p217 q217
                                      cases e217
                                      replace p217 := eq_true p217
                                      replace q217 := eq_true q217
                                      have p36 : 0 ≤ (x10_4 : Int) := of_decide_eq_true (by first | (with_reducible assumption) | assumption)
                                      have q36 : (x10_4 : Int) < ((x7_4.length : Int) : Int) := of_decide_eq_true (by first | (with_reducible assumption) | assumption)
                                      obtain ⟨go36, co36, eo36, gb36, gl36, cl36, HG36⟩ := Kd.R_form HO_7.out (by omega)
                                      (first | cases eo36 | (injection eo36 with ea_ en_ ec_; (first | subst ea_ | (injection ea_ with ea_; subst ea_)); subst ec_; clear en_))
                                      have GB36 := Aside0.mk gb36
                                      have GG36 := Aside0.mk HG36
                                      clear gb36 gl36 HG36
                                      (first | simp only [add_plain] at hx217_0 | skip)
                                      (first | simp only [add_plain] at hx217_1 | skip)
                                      obtain ⟨ce36, hcl36, hM36, hcc36, hfr36⟩ := Kd.R_elem HO_7.out z41 (x10_4 : Int) p36 q36
                                      obtain rfl := k41_openM hM36
                                      have hx36_0 : wr.cell? ⟨go36, (x10_4 : Int).toNat * 2, none⟩ = some (.int .i64 ((rd_T41 x7_4 x10_4).f0)) := hcc36 0 _ rfl
                                      have hx36_1 : wr.cell? ⟨go36, (x10_4 : Int).toNat * 2 + 1, none⟩ = some (.int .i64 ((rd_T41 x7_4 x10_4).f1)) := hcc36 1 _ rfl
                                      have hf36_0 : wr.frozen? ⟨go36, (x10_4 : Int).toNat * 2, none⟩ = false := hfr36 0
                                      have hf36_1 : wr.frozen? ⟨go36, (x10_4 : Int).toNat * 2 + 1, none⟩ = false := hfr36 1
                                      clear hcl36 hcc36 hfr36 hM36
                                      replace p36 := eq_true p36
                                      replace q36 := eq_true q36
                                      have HX37 := Aside0.mk (show Kd.R k41 41 wr w.heap.size (fun k_ => some k_ ≠ (.slice Ao9 x6_1.length co9 : Value).ownBlock) (.slice (some ⟨go36, 0, none⟩) x7_4.length co29) x7_4 from (by (with_reducible repeat (first | apply Kd.R_alloc | apply Kd.R_drewN | apply Kd.R_drew)); exact HO_7.out))
                                      obtain ⟨ce37, hcl37, hM37, hcc37, hfr37⟩ := Kd.R_elem HX37.out z41 (x10_4 : Int) (of_decide_eq_true (by first | (with_reducible assumption) | assumption)) (by have h_ : (x10_4 : Int) < ((x7_4.length : Int) : Int) := of_decide_eq_true (by first | (with_reducible assumption) | assumption); first | exact h_ | (have e_ := (Kd.R_reads' HO_7.out).1; omega) | simpa using h_)
                                      obtain rfl := k41_openM hM37
                                      have HP37 := Kd.R_seg HX37.out (x10_4 : Int) (of_decide_eq_true (by first | (with_reducible assumption) | assumption)) (by have h_ : (x10_4 : Int) < ((x7_4.length : Int) : Int) := of_decide_eq_true (by first | (with_reducible assumption) | assumption); first | exact h_ | (have e_ := (Kd.R_reads' HO_7.out).1; omega) | simpa using h_) (seg := [.int .i64 ((rd_T41 x7_4 (ji31)).f0), .int .i64 ((rd_T41 x7_4 (ji31)).f1)]) (j := 0) hcl37 hcc37 (show 2 ≤ 2 from by decide) (x' := (⟨(rd_T41 x7_4 (ji31)).f0, (rd_T41 x7_4 (ji31)).f1⟩ : S41)) (k41_mkM _ _ _ (⟨(rd_T41 x7_4 (ji31)).f0, (rd_T41 x7_4 (ji31)).f1⟩ : S41) ) (fun _ hk => hk)
                                      have hx37_0 := hcc37 0 _ rfl
                                      (try simp only [show (k41).sz = 2 from rfl, Nat.mul_one, Nat.add_zero] at hx37_0)
                                      have hf37_0 := hfr37 0
                                      (try simp only [show (k41).sz = 2 from rfl, Nat.mul_one, Nat.add_zero] at hf37_0)
                                      have hx37_1 := hcc37 1 _ rfl
                                      (try simp only [show (k41).sz = 2 from rfl, Nat.mul_one, Nat.add_zero] at hx37_1)
                                      have hf37_1 := hfr37 1
                                      (try simp only [show (k41).sz = 2 from rfl, Nat.mul_one, Nat.add_zero] at hf37_1)
                                      clear hcl37 hcc37 hfr37 hM37
                                      go_wp2_with (first | ((with_reducible refine gate_store (t := 41) (p := 80) rfl ?_); (try (rw [drewN_self wr]; generalize hq_ : World.drewN wr _ = wr; have n0_ := Aside0.mk (Kd.R_at hq_ HO_6.out); have n1_ := Aside0.mk (Kd.R_at hq_ HO_7.out); have n2_ := Aside0.mk (below_at hq_ HB.out); clear hq_ HO_6 HO_7 HB; have HO_6 := n0_; have HO_7 := n1_; have HB := n2_; clear n0_ n1_ n2_; (try (have HX37 := Aside0.mk (show Kd.R k41 41 wr w.heap.size (fun k_ => some k_ ≠ (.slice Ao9 x6_1.length co9 : Value).ownBlock) (.slice (some ⟨go36, 0, none⟩) x7_4.length co29) x7_4 from (by (with_reducible repeat (first | apply Kd.R_alloc | apply Kd.R_drewN | apply Kd.R_drew)); exact HO_7.out)))); (try (obtain ⟨ce37, hcl37, hM37, hcc37, hfr37⟩ := Kd.R_elem HX37.out z41 (x10_4 : Int) (of_decide_eq_true (by first | (with_reducible assumption) | assumption)) (by have h_ : (x10_4 : Int) < ((x7_4.length : Int) : Int) := of_decide_eq_true (by first | (with_reducible assumption) | assumption); first | exact h_ | (have e_ := (Kd.R_reads' HO_7.out).1; omega) | simpa using h_))); (try (obtain rfl := k41_openM hM37)); (try (have HP37 := Kd.R_seg HX37.out (x10_4 : Int) (of_decide_eq_true (by first | (with_reducible assumption) | assumption)) (by have h_ : (x10_4 : Int) < ((x7_4.length : Int) : Int) := of_decide_eq_true (by first | (with_reducible assumption) | assumption); first | exact h_ | (have e_ := (Kd.R_reads' HO_7.out).1; omega) | simpa using h_) (seg := [.int .i64 ((rd_T41 x7_4 (ji31)).f0), .int .i64 ((rd_T41 x7_4 (ji31)).f1)]) (j := 0) hcl37 hcc37 (show 2 ≤ 2 from by decide) (x' := (⟨(rd_T41 x7_4 (ji31)).f0, (rd_T41 x7_4 (ji31)).f1⟩ : S41)) (k41_mkM _ _ _ (⟨(rd_T41 x7_4 (ji31)).f0, (rd_T41 x7_4 (ji31)).f1⟩ : S41) ) (fun _ hk => hk))); (try (have hx37_0 := hcc37 0 _ rfl)); (try (try simp only [show (k41).sz = 2 from rfl, Nat.mul_one, Nat.add_zero] at hx37_0)); (try (have hf37_0 := hfr37 0)); (try (try simp only [show (k41).sz = 2 from rfl, Nat.mul_one, Nat.add_zero] at hf37_0)); (try (have hx37_1 := hcc37 1 _ rfl)); (try (try simp only [show (k41).sz = 2 from rfl, Nat.mul_one, Nat.add_zero] at hx37_1)); (try (have hf37_1 := hfr37 1)); (try (try simp only [show (k41).sz = 2 from rfl, Nat.mul_one, Nat.add_zero] at hf37_1)); (try (clear hcl37 hcc37 hfr37 hM37)))); refine store_event (t := 41) (p := 80) (v := ?vo_w38) (w1 := ((wr.setCell ⟨go36, (x10_4 : Int).toNat * 2, none⟩ (.int .i64 ((rd_T41 x7_4 (ji31)).f0))).setCell ⟨go36, (x10_4 : Int).toNat * 2 + 1, none⟩ (.int .i64 ((rd_T41 x7_4 (ji31)).f1)))) ?hg ?ho ?hn ?hr ?_; (case ho => rfl); (case hg => rfl); (case hn => rfl); (case hr => first | (go_simp; done) | (go_simp; rfl)); intro w38 hw; have hg : wr.grownBy w38 (some go36) := (by rw [hw]; exact HP37.2); have hp_ : Kd.R k41 41 w38 w.heap.size (fun k_ => some k_ ≠ (.slice Ao9 x6_1.length co9 : Value).ownBlock) (.slice (some ⟨go36, 0, none⟩) x7_4.length co29) y218 := (by rw [hw, Ny218.out]; exact HP37.1); clear HP37; have n0_ := Aside0.mk (Kd.R_after (v := (.slice (some ⟨go36, 0, none⟩) x7_4.length co29)) (v1 := (.slice (some ⟨go36, 0, none⟩) x7_4.length co29)) (ok := (fun _ => True)) (by (with_reducible repeat (first | apply Kd.R_alloc | apply Kd.R_drewN | apply Kd.R_drew)); exact Kd.R_mono HO_6.out (fun _ hk => ⟨trivial, hk⟩)) hg (.inl rfl)); have n1_ := Aside0.mk (hp_); have n2_ := Aside0.mk ((by rw [hw]; exact below_set (below_set (HB.out) GB36.out) GB36.out : Below w.heap.size w w38)); clear HO_6; clear HO_7; clear HB; have HO_6 := n0_; have HO_7 := n1_; have HB := n2_; clear n0_ n1_ n2_; clear hg hw hp_))
                                      repeat (go_quiet (first | ((with_reducible refine gate_store (t := 41) (p := 80) rfl ?_); (try (rw [drewN_self wr]; generalize hq_ : World.drewN wr _ = wr; have n0_ := Aside0.mk (Kd.R_at hq_ HO_6.out); have n1_ := Aside0.mk (Kd.R_at hq_ HO_7.out); have n2_ := Aside0.mk (below_at hq_ HB.out); clear hq_ HO_6 HO_7 HB; have HO_6 := n0_; have HO_7 := n1_; have HB := n2_; clear n0_ n1_ n2_; (try (have HX37 := Aside0.mk (show Kd.R k41 41 wr w.heap.size (fun k_ => some k_ ≠ (.slice Ao9 x6_1.length co9 : Value).ownBlock) (.slice (some ⟨go36, 0, none⟩) x7_4.length co29) x7_4 from (by (with_reducible repeat (first | apply Kd.R_alloc | apply Kd.R_drewN | apply Kd.R_drew)); exact HO_7.out)))); (try (obtain ⟨ce37, hcl37, hM37, hcc37, hfr37⟩ := Kd.R_elem HX37.out z41 (x10_4 : Int) (of_decide_eq_true (by first | (with_reducible assumption) | assumption)) (by have h_ : (x10_4 : Int) < ((x7_4.length : Int) : Int) := of_decide_eq_true (by first | (with_reducible assumption) | assumption); first | exact h_ | (have e_ := (Kd.R_reads' HO_7.out).1; omega) | simpa using h_))); (try (obtain rfl := k41_openM hM37)); (try (have HP37 := Kd.R_seg HX37.out (x10_4 : Int) (of_decide_eq_true (by first | (with_reducible assumption) | assumption)) (by have h_ : (x10_4 : Int) < ((x7_4.length : Int) : Int) := of_decide_eq_true (by first | (with_reducible assumption) | assumption); first | exact h_ | (have e_ := (Kd.R_reads' HO_7.out).1; omega) | simpa using h_) (seg := [.int .i64 ((rd_T41 x7_4 (ji31)).f0), .int .i64 ((rd_T41 x7_4 (ji31)).f1)]) (j := 0) hcl37 hcc37 (show 2 ≤ 2 from by decide) (x' := (⟨(rd_T41 x7_4 (ji31)).f0, (rd_T41 x7_4 (ji31)).f1⟩ : S41)) (k41_mkM _ _ _ (⟨(rd_T41 x7_4 (ji31)).f0, (rd_T41 x7_4 (ji31)).f1⟩ : S41) ) (fun _ hk => hk))); (try (have hx37_0 := hcc37 0 _ rfl)); (try (try simp only [show (k41).sz = 2 from rfl, Nat.mul_one, Nat.add_zero] at hx37_0)); (try (have hf37_0 := hfr37 0)); (try (try simp only [show (k41).sz = 2 from rfl, Nat.mul_one, Nat.add_zero] at hf37_0)); (try (have hx37_1 := hcc37 1 _ rfl)); (try (try simp only [show (k41).sz = 2 from rfl, Nat.mul_one, Nat.add_zero] at hx37_1)); (try (have hf37_1 := hfr37 1)); (try (try simp only [show (k41).sz = 2 from rfl, Nat.mul_one, Nat.add_zero] at hf37_1)); (try (clear hcl37 hcc37 hfr37 hM37)))); refine store_event (t := 41) (p := 80) (v := ?vo_w38) (w1 := ((wr.setCell ⟨go36, (x10_4 : Int).toNat * 2, none⟩ (.int .i64 ((rd_T41 x7_4 (ji31)).f0))).setCell ⟨go36, (x10_4 : Int).toNat * 2 + 1, none⟩ (.int .i64 ((rd_T41 x7_4 (ji31)).f1)))) ?hg ?ho ?hn ?hr ?_; (case ho => rfl); (case hg => rfl); (case hn => rfl); (case hr => first | (go_simp; done) | (go_simp; rfl)); intro w38 hw; have hg : wr.grownBy w38 (some go36) := (by rw [hw]; exact HP37.2); have hp_ : Kd.R k41 41 w38 w.heap.size (fun k_ => some k_ ≠ (.slice Ao9 x6_1.length co9 : Value).ownBlock) (.slice (some ⟨go36, 0, none⟩) x7_4.length co29) y218 := (by rw [hw, Ny218.out]; exact HP37.1); clear HP37; have n0_ := Aside0.mk (Kd.R_after (v := (.slice (some ⟨go36, 0, none⟩) x7_4.length co29)) (v1 := (.slice (some ⟨go36, 0, none⟩) x7_4.length co29)) (ok := (fun _ => True)) (by (with_reducible repeat (first | apply Kd.R_alloc | apply Kd.R_drewN | apply Kd.R_drew)); exact Kd.R_mono HO_6.out (fun _ hk => ⟨trivial, hk⟩)) hg (.inl rfl)); have n1_ := Aside0.mk (hp_); have n2_ := Aside0.mk ((by rw [hw]; exact below_set (below_set (HB.out) GB36.out) GB36.out : Below w.heap.size w w38)); clear HO_6; clear HO_7; clear HB; have HO_6 := n0_; have HO_7 := n1_; have HB := n2_; clear n0_ n1_ n2_; clear hg hw hp_)); try go_wp2_with (first | ((with_reducible refine gate_store (t := 41) (p := 80) rfl ?_); (try (rw [drewN_self wr]; generalize hq_ : World.drewN wr _ = wr; have n0_ := Aside0.mk (Kd.R_at hq_ HO_6.out); have n1_ := Aside0.mk (Kd.R_at hq_ HO_7.out); have n2_ := Aside0.mk (below_at hq_ HB.out); clear hq_ HO_6 HO_7 HB; have HO_6 := n0_; have HO_7 := n1_; have HB := n2_; clear n0_ n1_ n2_; (try (have HX37 := Aside0.mk (show Kd.R k41 41 wr w.heap.size (fun k_ => some k_ ≠ (.slice Ao9 x6_1.length co9 : Value).ownBlock) (.slice (some ⟨go36, 0, none⟩) x7_4.length co29) x7_4 from (by (with_reducible repeat (first | apply Kd.R_alloc | apply Kd.R_drewN | apply Kd.R_drew)); exact HO_7.out)))); (try (obtain ⟨ce37, hcl37, hM37, hcc37, hfr37⟩ := Kd.R_elem HX37.out z41 (x10_4 : Int) (of_decide_eq_true (by first | (with_reducible assumption) | assumption)) (by have h_ : (x10_4 : Int) < ((x7_4.length : Int) : Int) := of_decide_eq_true (by first | (with_reducible assumption) | assumption); first | exact h_ | (have e_ := (Kd.R_reads' HO_7.out).1; omega) | simpa using h_))); (try (obtain rfl := k41_openM hM37)); (try (have HP37 := Kd.R_seg HX37.out (x10_4 : Int) (of_decide_eq_true (by first | (with_reducible assumption) | assumption)) (by have h_ : (x10_4 : Int) < ((x7_4.length : Int) : Int) := of_decide_eq_true (by first | (with_reducible assumption) | assumption); first | exact h_ | (have e_ := (Kd.R_reads' HO_7.out).1; omega) | simpa using h_) (seg := [.int .i64 ((rd_T41 x7_4 (ji31)).f0), .int .i64 ((rd_T41 x7_4 (ji31)).f1)]) (j := 0) hcl37 hcc37 (show 2 ≤ 2 from by decide) (x' := (⟨(rd_T41 x7_4 (ji31)).f0, (rd_T41 x7_4 (ji31)).f1⟩ : S41)) (k41_mkM _ _ _ (⟨(rd_T41 x7_4 (ji31)).f0, (rd_T41 x7_4 (ji31)).f1⟩ : S41) ) (fun _ hk => hk))); (try (have hx37_0 := hcc37 0 _ rfl)); (try (try simp only [show (k41).sz = 2 from rfl, Nat.mul_one, Nat.add_zero] at hx37_0)); (try (have hf37_0 := hfr37 0)); (try (try simp only [show (k41).sz = 2 from rfl, Nat.mul_one, Nat.add_zero] at hf37_0)); (try (have hx37_1 := hcc37 1 _ rfl)); (try (try simp only [show (k41).sz = 2 from rfl, Nat.mul_one, Nat.add_zero] at hx37_1)); (try (have hf37_1 := hfr37 1)); (try (try simp only [show (k41).sz = 2 from rfl, Nat.mul_one, Nat.add_zero] at hf37_1)); (try (clear hcl37 hcc37 hfr37 hM37)))); refine store_event (t := 41) (p := 80) (v := ?vo_w38) (w1 := ((wr.setCell ⟨go36, (x10_4 : Int).toNat * 2, none⟩ (.int .i64 ((rd_T41 x7_4 (ji31)).f0))).setCell ⟨go36, (x10_4 : Int).toNat * 2 + 1, none⟩ (.int .i64 ((rd_T41 x7_4 (ji31)).f1)))) ?hg ?ho ?hn ?hr ?_; (case ho => rfl); (case hg => rfl); (case hn => rfl); (case hr => first | (go_simp; done) | (go_simp; rfl)); intro w38 hw; have hg : wr.grownBy w38 (some go36) := (by rw [hw]; exact HP37.2); have hp_ : Kd.R k41 41 w38 w.heap.size (fun k_ => some k_ ≠ (.slice Ao9 x6_1.length co9 : Value).ownBlock) (.slice (some ⟨go36, 0, none⟩) x7_4.length co29) y218 := (by rw [hw, Ny218.out]; exact HP37.1); clear HP37; have n0_ := Aside0.mk (Kd.R_after (v := (.slice (some ⟨go36, 0, none⟩) x7_4.length co29)) (v1 := (.slice (some ⟨go36, 0, none⟩) x7_4.length co29)) (ok := (fun _ => True)) (by (with_reducible repeat (first | apply Kd.R_alloc | apply Kd.R_drewN | apply Kd.R_drew)); exact Kd.R_mono HO_6.out (fun _ hk => ⟨trivial, hk⟩)) hg (.inl rfl)); have n1_ := Aside0.mk (hp_); have n2_ := Aside0.mk ((by rw [hw]; exact below_set (below_set (HB.out) GB36.out) GB36.out : Below w.heap.size w w38)); clear HO_6; clear HO_7; clear HB; have HO_6 := n0_; have HO_7 := n1_; have HB := n2_; clear n0_ n1_ n2_; clear hg hw hp_)))
                                      (try simp only [← hl7_4])
                                      go_roundg k4
                                      case measure => have := HK1.out; have := HJ7.out; have := HJ17.out; have := HK4.out; omega
                                      case rel => exact ⟨(y218), (ji31), (by first | rfl | (simp; done) | (simp only [← hji31] <;> (first | rfl | simp)) | (simp [*]; done)), H', ⟨by have := HK1.out; have := HJ7.out; have := HJ17.out; have := HK4.out; omega⟩, ⟨by (try simp only [hl7_4]); (with_reducible repeat (first | apply Kd.R_alloc | apply Kd.R_drewN | apply Kd.R_drew)); exact Kd.R_mono HO_6.out (fun _ hk => hk.2)⟩, ⟨by (try simp only [hl7_4]); (with_reducible repeat (first | apply Kd.R_alloc | apply Kd.R_drewN | apply Kd.R_drew)); exact HO_7.out⟩, ⟨by repeat (first | (with_reducible first | exact HB.out | apply below_alloc | apply pw_below_drewN | apply below_drew1) | exact HB.out)⟩⟩
                                    · rw [if_neg c35] at H
                                      exact absurd H (by simp)
                                  · rw [if_neg c34] at H
                                    exact absurd H (by simp)
                                · rw [if_neg c33] at H
                                  exact absurd H (by simp)
                              · rw [if_neg c32] at H
                                exact absurd H (by simp)
                            · rw [if_neg c30] at H
                              have c30b0 : decide (x9_7 < x10_4) = false := decide_eq_false c30
                              clear c30
                              by_cases c39 : 0 ≤ x8_1
                              · rw [if_pos c39] at H
                                have c39b0 : decide (0 ≤ x8_1) = true := decide_eq_true c39
                                clear c39
                                by_cases c40 : x8_1 < (x6_1.length : Int)
                                · rw [if_pos c40] at H
                                  have c40b0 : decide (x8_1 < (x6_1.length : Int)) = true := decide_eq_true c40
                                  clear c40
                                  by_cases c41 : 0 ≤ x9_7
                                  · rw [if_pos c41] at H
                                    have c41b0 : decide (0 ≤ x9_7) = true := decide_eq_true c41
                                    clear c41
                                    by_cases c42 : x9_7 < (x7_4.length : Int)
                                    · rw [if_pos c42] at H
                                      have c42b0 : decide (x9_7 < (x7_4.length : Int)) = true := decide_eq_true c42
                                      clear c42
                                      obtain ⟨y220, hy220⟩ : ∃ y_ : List (S41), y_ = (x7_4.set (x9_7 : Int).toNat (⟨(rd_T41 x6_1 x8_1).f0, 0⟩ : S41)) := ⟨_, rfl⟩
                                      replace H : ((skiarearef34_more.f ((rd_T41 y220 x9_7).f1) ((rd_T41 x6_1 x8_1).f1)).bind fun bt223 => (if bt223.2 = true then (skiarearef34_Add.l0 k4 x6_1 (y220.set (x9_7 : Int).toNat (⟨(rd_T41 y220 x9_7).f0, bt223.1⟩ : S41)) (wrap64 (x8_1 + 1))) else (some (([] : List (S41)), 12)))) = some (r1, r2) := by first | (rw [hy220]; with_reducible exact H) | (have H2_ := (Option.bind_some _ _).symm.trans H; rw [hy220]; with_reducible exact H2_) | (have H2_ := (Option.bind_some _ _).symm.trans H; with_reducible exact H2_) | with_reducible exact H | (rw [hy220]; exact H) | exact H
                                      have Ny220 := Aside0.mk hy220
                                      clear hy220
                                      replace H := Option.bind_eq_some_iff.mp H
                                      obtain ⟨⟨t223, t224⟩, A440, H⟩ := H
                                      replace H : (if t224 = true then (skiarearef34_Add.l0 k4 x6_1 (y220.set (x9_7 : Int).toNat (⟨(rd_T41 y220 x9_7).f0, t223⟩ : S41)) (wrap64 (x8_1 + 1))) else (some (([] : List (S41)), 12))) = some (r1, r2) := H
                                      have A44 := Aside0.mk A440
                                      clear A440
                                      by_cases c45 : t224 = true
                                      · subst c45
                                        have H1 : (skiarearef34_Add.l0 k4 x6_1 (y220.set (x9_7 : Int).toNat (⟨(rd_T41 y220 x9_7).f0, t223⟩ : S41)) (wrap64 (x8_1 + 1))) = some (r1, r2) := by rw [if_pos rfl] at H; exact H
                                        clear H
                                        have H := H1
                                        clear H1
                                        obtain ⟨y225, hy225⟩ : ∃ y_ : List (S41), y_ = (y220.set (x9_7 : Int).toNat (⟨(rd_T41 y220 x9_7).f0, t223⟩ : S41)) := ⟨_, rfl⟩
                                        replace H : (skiarearef34_Add.l0 k4 x6_1 y225 (wrap64 (x8_1 + 1))) = some (r1, r2) := by first | (rw [hy225]; with_reducible exact H) | (have H2_ := (Option.bind_some _ _).symm.trans H; rw [hy225]; with_reducible exact H2_) | (have H2_ := (Option.bind_some _ _).symm.trans H; with_reducible exact H2_) | with_reducible exact H | (rw [hy225]; exact H) | exact H
                                        have Ny225 := Aside0.mk hy225
                                        clear hy225
                                        have H' := Aside0.mk H
                                        clear H
                                        have p219 : 0 ≤ (x8_1 : Int) := of_decide_eq_true (by first | (with_reducible assumption) | assumption)
                                        have q219 : x8_1 < (x6_1.length : Int) := of_decide_eq_true (by first | (with_reducible assumption) | assumption)
                                        obtain ⟨ad219, e219, hx219_0, hx219_1⟩ := at_T41 (Kd.R_reads' HO_6.out).2.2 x8_1 p219 q219
                                        cases e219
                                        replace p219 := eq_true p219
                                        replace q219 := eq_true q219
                                        have p43 : 0 ≤ (x9_7 : Int) := of_decide_eq_true (by first | (with_reducible assumption) | assumption)
                                        have q43 : (x9_7 : Int) < ((x7_4.length : Int) : Int) := of_decide_eq_true (by first | (with_reducible assumption) | assumption)
                                        obtain ⟨go43, co43, eo43, gb43, gl43, cl43, HG43⟩ := Kd.R_form HO_7.out (by omega)
                                        (first | cases eo43 | (injection eo43 with ea_ en_ ec_; (first | subst ea_ | (injection ea_ with ea_; subst ea_)); subst ec_; clear en_))
                                        have GB43 := Aside0.mk gb43
                                        have GG43 := Aside0.mk HG43
                                        clear gb43 gl43 HG43
                                        obtain ⟨ce43, hcl43, hM43, hcc43, hfr43⟩ := Kd.R_elem HO_7.out z41 (x9_7 : Int) p43 q43
                                        obtain rfl := k41_openM hM43
                                        have hx43_0 : wr.cell? ⟨go43, (x9_7 : Int).toNat * 2, none⟩ = some (.int .i64 ((rd_T41 x7_4 x9_7).f0)) := hcc43 0 _ rfl
                                        have hx43_1 : wr.cell? ⟨go43, (x9_7 : Int).toNat * 2 + 1, none⟩ = some (.int .i64 ((rd_T41 x7_4 x9_7).f1)) := hcc43 1 _ rfl
                                        have hf43_0 : wr.frozen? ⟨go43, (x9_7 : Int).toNat * 2, none⟩ = false := hfr43 0
                                        have hf43_1 : wr.frozen? ⟨go43, (x9_7 : Int).toNat * 2 + 1, none⟩ = false := hfr43 1
                                        clear hcl43 hcc43 hfr43 hM43
                                        replace p43 := eq_true p43
                                        replace q43 := eq_true q43
                                        have HX47 := Aside0.mk (show Kd.R k41 41 wr w.heap.size (fun k_ => some k_ ≠ (.slice (some ad219) x6_1.length co9 : Value).ownBlock) (.slice (some ⟨go43, 0, none⟩) x7_4.length co29) x7_4 from (by (with_reducible repeat (first | apply Kd.R_alloc | apply Kd.R_drewN | apply Kd.R_drew)); exact HO_7.out))
                                        obtain ⟨ce47, hcl47, hM47, hcc47, hfr47⟩ := Kd.R_elem HX47.out z41 (x9_7 : Int) (of_decide_eq_true (by first | (with_reducible assumption) | assumption)) (by have h_ : (x9_7 : Int) < ((x7_4.length : Int) : Int) := of_decide_eq_true (by first | (with_reducible assumption) | assumption); first | exact h_ | (have e_ := (Kd.R_reads' HO_7.out).1; omega) | simpa using h_)
                                        obtain rfl := k41_openM hM47
                                        have HP47 := Kd.R_seg HX47.out (x9_7 : Int) (of_decide_eq_true (by first | (with_reducible assumption) | assumption)) (by have h_ : (x9_7 : Int) < ((x7_4.length : Int) : Int) := of_decide_eq_true (by first | (with_reducible assumption) | assumption); first | exact h_ | (have e_ := (Kd.R_reads' HO_7.out).1; omega) | simpa using h_) (seg := [.int .i64 ((rd_T41 x6_1 x8_1).f0), .int .i64 0]) (j := 0) hcl47 hcc47 (show 2 ≤ 2 from by decide) (x' := (⟨(rd_T41 x6_1 x8_1).f0, 0⟩ : S41)) (k41_mkM _ _ _ (⟨(rd_T41 x6_1 x8_1).f0, 0⟩ : S41) ) (fun _ hk => hk)
                                        have hx47_0 := hcc47 0 _ rfl
                                        (try simp only [show (k41).sz = 2 from rfl, Nat.mul_one, Nat.add_zero] at hx47_0)
                                        have hf47_0 := hfr47 0
                                        (try simp only [show (k41).sz = 2 from rfl, Nat.mul_one, Nat.add_zero] at hf47_0)
                                        have hx47_1 := hcc47 1 _ rfl
                                        (try simp only [show (k41).sz = 2 from rfl, Nat.mul_one, Nat.add_zero] at hx47_1)
                                        have hf47_1 := hfr47 1
                                        (try simp only [show (k41).sz = 2 from rfl, Nat.mul_one, Nat.add_zero] at hf47_1)
                                        clear hcl47 hcc47 hfr47 hM47
                                        go_wp2_with (first | ((with_reducible refine gate_store (t := 41) (p := 89) rfl ?_); (try (rw [drewN_self wr]; generalize hq_ : World.drewN wr _ = wr; have n0_ := Aside0.mk (Kd.R_at hq_ HO_6.out); have n1_ := Aside0.mk (Kd.R_at hq_ HO_7.out); have n2_ := Aside0.mk (below_at hq_ HB.out); clear hq_ HO_6 HO_7 HB; have HO_6 := n0_; have HO_7 := n1_; have HB := n2_; clear n0_ n1_ n2_; (try (have HX47 := Aside0.mk (show Kd.R k41 41 wr w.heap.size (fun k_ => some k_ ≠ (.slice (some ad219) x6_1.length co9 : Value).ownBlock) (.slice (some ⟨go43, 0, none⟩) x7_4.length co29) x7_4 from (by (with_reducible repeat (first | apply Kd.R_alloc | apply Kd.R_drewN | apply Kd.R_drew)); exact HO_7.out)))); (try (obtain ⟨ce47, hcl47, hM47, hcc47, hfr47⟩ := Kd.R_elem HX47.out z41 (x9_7 : Int) (of_decide_eq_true (by first | (with_reducible assumption) | assumption)) (by have h_ : (x9_7 : Int) < ((x7_4.length : Int) : Int) := of_decide_eq_true (by first | (with_reducible assumption) | assumption); first | exact h_ | (have e_ := (Kd.R_reads' HO_7.out).1; omega) | simpa using h_))); (try (obtain rfl := k41_openM hM47)); (try (have HP47 := Kd.R_seg HX47.out (x9_7 : Int) (of_decide_eq_true (by first | (with_reducible assumption) | assumption)) (by have h_ : (x9_7 : Int) < ((x7_4.length : Int) : Int) := of_decide_eq_true (by first | (with_reducible assumption) | assumption); first | exact h_ | (have e_ := (Kd.R_reads' HO_7.out).1; omega) | simpa using h_) (seg := [.int .i64 ((rd_T41 x6_1 x8_1).f0), .int .i64 0]) (j := 0) hcl47 hcc47 (show 2 ≤ 2 from by decide) (x' := (⟨(rd_T41 x6_1 x8_1).f0, 0⟩ : S41)) (k41_mkM _ _ _ (⟨(rd_T41 x6_1 x8_1).f0, 0⟩ : S41) ) (fun _ hk => hk))); (try (have hx47_0 := hcc47 0 _ rfl)); (try (try simp only [show (k41).sz = 2 from rfl, Nat.mul_one, Nat.add_zero] at hx47_0)); (try (have hf47_0 := hfr47 0)); (try (try simp only [show (k41).sz = 2 from rfl, Nat.mul_one, Nat.add_zero] at hf47_0)); (try (have hx47_1 := hcc47 1 _ rfl)); (try (try simp only [show (k41).sz = 2 from rfl, Nat.mul_one, Nat.add_zero] at hx47_1)); (try (have hf47_1 := hfr47 1)); (try (try simp only [show (k41).sz = 2 from rfl, Nat.mul_one, Nat.add_zero] at hf47_1)); (try (clear hcl47 hcc47 hfr47 hM47)))); refine store_event (t := 41) (p := 89) (v := ?vo_w48) (w1 := ((wr.setCell ⟨go43, (x9_7 : Int).toNat * 2, none⟩ (.int .i64 ((rd_T41 x6_1 x8_1).f0))).setCell ⟨go43, (x9_7 : Int).toNat * 2 + 1, none⟩ (.int .i64 0))) ?hg ?ho ?hn ?hr ?_; (case ho => rfl); (case hg => rfl); (case hn => rfl); (case hr => first | (go_simp; done) | (go_simp; rfl)); intro w48 hw; have hg : wr.grownBy w48 (some go43) := (by rw [hw]; exact HP47.2); have hp_ : Kd.R k41 41 w48 w.heap.size (fun k_ => some k_ ≠ (.slice (some ad219) x6_1.length co9 : Value).ownBlock) (.slice (some ⟨go43, 0, none⟩) x7_4.length co29) y220 := (by rw [hw, Ny220.out]; exact HP47.1); clear HP47; have n0_ := Aside0.mk (Kd.R_after (v := (.slice (some ⟨go43, 0, none⟩) x7_4.length co29)) (v1 := (.slice (some ⟨go43, 0, none⟩) x7_4.length co29)) (ok := (fun _ => True)) (by (with_reducible repeat (first | apply Kd.R_alloc | apply Kd.R_drewN | apply Kd.R_drew)); exact Kd.R_mono HO_6.out (fun _ hk => ⟨trivial, hk⟩)) hg (.inl rfl)); have n1_ := Aside0.mk (hp_); have n2_ := Aside0.mk ((by rw [hw]; exact below_set (below_set (HB.out) GB43.out) GB43.out : Below w.heap.size w w48)); clear HO_6; clear HO_7; clear HB; have HO_6 := n0_; have HO_7 := n1_; have HB := n2_; clear n0_ n1_ n2_; clear hg hw hp_; have p221 : 0 ≤ (x9_7 : Int) := of_decide_eq_true (by first | (with_reducible assumption) | assumption); have q221 : x9_7 < (y220.length : Int) := (by have h_ : (x9_7 : Int) < ((x7_4.length : Int) : Int) := of_decide_eq_true (by first | (with_reducible assumption) | assumption); first | (have e_ := (Kd.R_reads' HO_7.out).1; omega) | simpa only [Ny220.out, List.length_set] using h_); have ql221 : ((x9_7 : Int) < ((x7_4.length : Int) : Int)) = True := eq_true (of_decide_eq_true (by first | (with_reducible assumption) | assumption)); obtain ⟨ad221, e221, hx221_0, hx221_1⟩ := at_T41 (Kd.R_reads' HO_7.out).2.2 x9_7 p221 q221; obtain rfl : (⟨go43, 0, none⟩ : Addr) = ad221 := (by injection e221); (first | simp only [add_plain] at hx221_0 | simp only [add_at] at hx221_0 | simp only [Addr.add, Nat.zero_add] at hx221_0 | skip); (first | simp only [add_plain] at hx221_1 | simp only [add_at] at hx221_1 | simp only [Addr.add, Nat.zero_add] at hx221_1 | skip); replace p221 := eq_true p221; replace q221 := eq_true q221; have p222 : 0 ≤ (x8_1 : Int) := of_decide_eq_true (by first | (with_reducible assumption) | assumption); have q222 : x8_1 < (x6_1.length : Int) := of_decide_eq_true (by first | (with_reducible assumption) | assumption); obtain ⟨ad222, e222, hx222_0, hx222_1⟩ := at_T41 (Kd.R_reads' HO_6.out).2.2 x8_1 p222 q222; obtain rfl : ad219 = ad222 := (by injection e222); replace p222 := eq_true p222; replace q222 := eq_true q222) | (go_at_call 41; (with_reducible refine (skiarearef34_more.calls ((rd_T41 y220 x9_7).f1) ((rd_T41 x6_1 x8_1).f1) t223 true _ A44.out).mono ?_); rintro e w' ⟨rfl, ⟨nd, rfl⟩⟩; (try first | exact ⟨rfl, _, World.drewN_drewN _ _ _⟩ | exact ⟨rfl, _, Eq.trans (World.drewN_drewN _ _ _) (congrArg (World.drewN _) (Nat.add_assoc _ _ _))⟩); have p46 : 0 ≤ (x9_7 : Int) := of_decide_eq_true (by first | (with_reducible assumption) | assumption); have q46 : (x9_7 : Int) < ((x7_4.length : Int) : Int) := of_decide_eq_true (by first | (with_reducible assumption) | assumption); obtain ⟨ce46, hcl46, hM46, hcc46, hfr46⟩ := Kd.R_elem HO_7.out z41 (x9_7 : Int) p46 q46; obtain rfl := k41_openM hM46; have hx46_0 : w48.cell? ⟨go43, (x9_7 : Int).toNat * 2, none⟩ = some (.int .i64 ((rd_T41 y220 x9_7).f0)) := hcc46 0 _ rfl; have hx46_1 : w48.cell? ⟨go43, (x9_7 : Int).toNat * 2 + 1, none⟩ = some (.int .i64 ((rd_T41 y220 x9_7).f1)) := hcc46 1 _ rfl; have hf46_0 : w48.frozen? ⟨go43, (x9_7 : Int).toNat * 2, none⟩ = false := hfr46 0; have hf46_1 : w48.frozen? ⟨go43, (x9_7 : Int).toNat * 2 + 1, none⟩ = false := hfr46 1; clear hcl46 hcc46 hfr46 hM46; replace p46 := eq_true p46; replace q46 := eq_true q46; have HX49 := Aside0.mk (show Kd.R k41 41 w48 w.heap.size (fun k_ => some k_ ≠ (.slice (some ad219) x6_1.length co9 : Value).ownBlock) (.slice (some ⟨go43, 0, none⟩) x7_4.length co29) y220 from (by (with_reducible repeat (first | apply Kd.R_alloc | apply Kd.R_drewN | apply Kd.R_drew)); exact HO_7.out)); obtain ⟨ce49, hcl49, hM49, hcc49, hfr49⟩ := Kd.R_elem HX49.out z41 (x9_7 : Int) (of_decide_eq_true (by first | (with_reducible assumption) | assumption)) (by have h_ : (x9_7 : Int) < ((x7_4.length : Int) : Int) := of_decide_eq_true (by first | (with_reducible assumption) | assumption); first | exact h_ | (have e_ := (Kd.R_reads' HO_7.out).1; omega) | simpa using h_); obtain rfl := k41_openM hM49; have HP49 := Kd.R_seg HX49.out (x9_7 : Int) (of_decide_eq_true (by first | (with_reducible assumption) | assumption)) (by have h_ : (x9_7 : Int) < ((x7_4.length : Int) : Int) := of_decide_eq_true (by first | (with_reducible assumption) | assumption); first | exact h_ | (have e_ := (Kd.R_reads' HO_7.out).1; omega) | simpa using h_) (seg := [.int .i64 t223]) (j := 1) hcl49 hcc49 (show 2 ≤ 2 from by decide) (x' := (⟨(rd_T41 y220 x9_7).f0, t223⟩ : S41)) (k41_mkM _ _ _ (⟨(rd_T41 y220 x9_7).f0, t223⟩ : S41) ) (fun _ hk => hk); have hx49_1 := hcc49 1 _ rfl; (try simp only [show (k41).sz = 2 from rfl, Nat.mul_one, Nat.add_zero] at hx49_1); have hf49_1 := hfr49 1; (try simp only [show (k41).sz = 2 from rfl, Nat.mul_one, Nat.add_zero] at hf49_1); clear hcl49 hcc49 hfr49 hM49) | ((with_reducible refine gate_store (t := 3) (p := 110) rfl ?_); (try (rw [drewN_self w48]; generalize hq_ : World.drewN w48 _ = w48; have n0_ := Aside0.mk (Kd.R_at hq_ HO_6.out); have n1_ := Aside0.mk (Kd.R_at hq_ HO_7.out); have n2_ := Aside0.mk (below_at hq_ HB.out); clear hq_ HO_6 HO_7 HB; have HO_6 := n0_; have HO_7 := n1_; have HB := n2_; clear n0_ n1_ n2_; (try (have HX49 := Aside0.mk (show Kd.R k41 41 w48 w.heap.size (fun k_ => some k_ ≠ (.slice (some ad219) x6_1.length co9 : Value).ownBlock) (.slice (some ⟨go43, 0, none⟩) x7_4.length co29) y220 from (by (with_reducible repeat (first | apply Kd.R_alloc | apply Kd.R_drewN | apply Kd.R_drew)); exact HO_7.out)))); (try (obtain ⟨ce49, hcl49, hM49, hcc49, hfr49⟩ := Kd.R_elem HX49.out z41 (x9_7 : Int) (of_decide_eq_true (by first | (with_reducible assumption) | assumption)) (by have h_ : (x9_7 : Int) < ((x7_4.length : Int) : Int) := of_decide_eq_true (by first | (with_reducible assumption) | assumption); first | exact h_ | (have e_ := (Kd.R_reads' HO_7.out).1; omega) | simpa using h_))); (try (obtain rfl := k41_openM hM49)); (try (have HP49 := Kd.R_seg HX49.out (x9_7 : Int) (of_decide_eq_true (by first | (with_reducible assumption) | assumption)) (by have h_ : (x9_7 : Int) < ((x7_4.length : Int) : Int) := of_decide_eq_true (by first | (with_reducible assumption) | assumption); first | exact h_ | (have e_ := (Kd.R_reads' HO_7.out).1; omega) | simpa using h_) (seg := [.int .i64 t223]) (j := 1) hcl49 hcc49 (show 2 ≤ 2 from by decide) (x' := (⟨(rd_T41 y220 x9_7).f0, t223⟩ : S41)) (k41_mkM _ _ _ (⟨(rd_T41 y220 x9_7).f0, t223⟩ : S41) ) (fun _ hk => hk))); (try (have hx49_1 := hcc49 1 _ rfl)); (try (try simp only [show (k41).sz = 2 from rfl, Nat.mul_one, Nat.add_zero] at hx49_1)); (try (have hf49_1 := hfr49 1)); (try (try simp only [show (k41).sz = 2 from rfl, Nat.mul_one, Nat.add_zero] at hf49_1)); (try (clear hcl49 hcc49 hfr49 hM49)))); refine store_event (t := 3) (p := 110) (v := ?vo_w50) (w1 := (w48.setCell ⟨go43, (x9_7 : Int).toNat * 2 + 1, none⟩ (.int .i64 t223))) ?hg ?ho ?hn ?hr ?_; (case ho => rfl); (case hg => rfl); (case hn => rfl); (case hr => first | (go_simp; done) | (go_simp; rfl)); intro w50 hw; have hg : w48.grownBy w50 (some go43) := (by rw [hw]; exact HP49.2); have hp_ : Kd.R k41 41 w50 w.heap.size (fun k_ => some k_ ≠ (.slice (some ad219) x6_1.length co9 : Value).ownBlock) (.slice (some ⟨go43, 0, none⟩) x7_4.length co29) y225 := (by rw [hw, Ny225.out]; exact HP49.1); clear HP49; have n0_ := Aside0.mk (Kd.R_after (v := (.slice (some ⟨go43, 0, none⟩) x7_4.length co29)) (v1 := (.slice (some ⟨go43, 0, none⟩) x7_4.length co29)) (ok := (fun _ => True)) (by (with_reducible repeat (first | apply Kd.R_alloc | apply Kd.R_drewN | apply Kd.R_drew)); exact HO_6.out) hg (.inl rfl)); have n1_ := Aside0.mk (hp_); have n2_ := Aside0.mk ((by rw [hw]; exact below_set (HB.out) GB43.out : Below w.heap.size w w50)); clear HO_6; clear HO_7; clear HB; have HO_6 := n0_; have HO_7 := n1_; have HB := n2_; clear n0_ n1_ n2_; clear hg hw hp_))
                                        repeat (go_quiet (first | ((with_reducible refine gate_store (t := 41) (p := 89) rfl ?_); (try (rw [drewN_self wr]; generalize hq_ : World.drewN wr _ = wr; have n0_ := Aside0.mk (Kd.R_at hq_ HO_6.out); have n1_ := Aside0.mk (Kd.R_at hq_ HO_7.out); have n2_ := Aside0.mk (below_at hq_ HB.out); clear hq_ HO_6 HO_7 HB; have HO_6 := n0_; have HO_7 := n1_; have HB := n2_; clear n0_ n1_ n2_; (try (have HX47 := Aside0.mk (show Kd.R k41 41 wr w.heap.size (fun k_ => some k_ ≠ (.slice (some ad219) x6_1.length co9 : Value).ownBlock) (.slice (some ⟨go43, 0, none⟩) x7_4.length co29) x7_4 from (by (with_reducible repeat (first | apply Kd.R_alloc | apply Kd.R_drewN | apply Kd.R_drew)); exact HO_7.out)))); (try (obtain ⟨ce47, hcl47, hM47, hcc47, hfr47⟩ := Kd.R_elem HX47.out z41 (x9_7 : Int) (of_decide_eq_true (by first | (with_reducible assumption) | assumption)) (by have h_ : (x9_7 : Int) < ((x7_4.length : Int) : Int) := of_decide_eq_true (by first | (with_reducible assumption) | assumption); first | exact h_ | (have e_ := (Kd.R_reads' HO_7.out).1; omega) | simpa using h_))); (try (obtain rfl := k41_openM hM47)); (try (have HP47 := Kd.R_seg HX47.out (x9_7 : Int) (of_decide_eq_true (by first | (with_reducible assumption) | assumption)) (by have h_ : (x9_7 : Int) < ((x7_4.length : Int) : Int) := of_decide_eq_true (by first | (with_reducible assumption) | assumption); first | exact h_ | (have e_ := (Kd.R_reads' HO_7.out).1; omega) | simpa using h_) (seg := [.int .i64 ((rd_T41 x6_1 x8_1).f0), .int .i64 0]) (j := 0) hcl47 hcc47 (show 2 ≤ 2 from by decide) (x' := (⟨(rd_T41 x6_1 x8_1).f0, 0⟩ : S41)) (k41_mkM _ _ _ (⟨(rd_T41 x6_1 x8_1).f0, 0⟩ : S41) ) (fun _ hk => hk))); (try (have hx47_0 := hcc47 0 _ rfl)); (try (try simp only [show (k41).sz = 2 from rfl, Nat.mul_one, Nat.add_zero] at hx47_0)); (try (have hf47_0 := hfr47 0)); (try (try simp only [show (k41).sz = 2 from rfl, Nat.mul_one, Nat.add_zero] at hf47_0)); (try (have hx47_1 := hcc47 1 _ rfl)); (try (try simp only [show (k41).sz = 2 from rfl, Nat.mul_one, Nat.add_zero] at hx47_1)); (try (have hf47_1 := hfr47 1)); (try (try simp only [show (k41).sz = 2 from rfl, Nat.mul_one, Nat.add_zero] at hf47_1)); (try (clear hcl47 hcc47 hfr47 hM47)))); refine store_event (t := 41) (p := 89) (v := ?vo_w48) (w1 := ((wr.setCell ⟨go43, (x9_7 : Int).toNat * 2, none⟩ (.int .i64 ((rd_T41 x6_1 x8_1).f0))).setCell ⟨go43, (x9_7 : Int).toNat * 2 + 1, none⟩ (.int .i64 0))) ?hg ?ho ?hn ?hr ?_; (case ho => rfl); (case hg => rfl); (case hn => rfl); (case hr => first | (go_simp; done) | (go_simp; rfl)); intro w48 hw; have hg : wr.grownBy w48 (some go43) := (by rw [hw]; exact HP47.2); have hp_ : Kd.R k41 41 w48 w.heap.size (fun k_ => some k_ ≠ (.slice (some ad219) x6_1.length co9 : Value).ownBlock) (.slice (some ⟨go43, 0, none⟩) x7_4.length co29) y220 := (by rw [hw, Ny220.out]; exact HP47.1); clear HP47; have n0_ := Aside0.mk (Kd.R_after (v := (.slice (some ⟨go43, 0, none⟩) x7_4.length co29)) (v1 := (.slice (some ⟨go43, 0, none⟩) x7_4.length co29)) (ok := (fun _ => True)) (by (with_reducible repeat (first | apply Kd.R_alloc | apply Kd.R_drewN | apply Kd.R_drew)); exact Kd.R_mono HO_6.out (fun _ hk => ⟨trivial, hk⟩)) hg (.inl rfl)); have n1_ := Aside0.mk (hp_); have n2_ := Aside0.mk ((by rw [hw]; exact below_set (below_set (HB.out) GB43.out) GB43.out : Below w.heap.size w w48)); clear HO_6; clear HO_7; clear HB; have HO_6 := n0_; have HO_7 := n1_; have HB := n2_; clear n0_ n1_ n2_; clear hg hw hp_; have p221 : 0 ≤ (x9_7 : Int) := of_decide_eq_true (by first | (with_reducible assumption) | assumption); have q221 : x9_7 < (y220.length : Int) := (by have h_ : (x9_7 : Int) < ((x7_4.length : Int) : Int) := of_decide_eq_true (by first | (with_reducible assumption) | assumption); first | (have e_ := (Kd.R_reads' HO_7.out).1; omega) | simpa only [Ny220.out, List.length_set] using h_); have ql221 : ((x9_7 : Int) < ((x7_4.length : Int) : Int)) = True := eq_true (of_decide_eq_true (by first | (with_reducible assumption) | assumption)); obtain ⟨ad221, e221, hx221_0, hx221_1⟩ := at_T41 (Kd.R_reads' HO_7.out).2.2 x9_7 p221 q221; obtain rfl : (⟨go43, 0, none⟩ : Addr) = ad221 := (by injection e221); (first | simp only [add_plain] at hx221_0 | simp only [add_at] at hx221_0 | simp only [Addr.add, Nat.zero_add] at hx221_0 | skip); (first | simp only [add_plain] at hx221_1 | simp only [add_at] at hx221_1 | simp only [Addr.add, Nat.zero_add] at hx221_1 | skip); replace p221 := eq_true p221; replace q221 := eq_true q221; have p222 : 0 ≤ (x8_1 : Int) := of_decide_eq_true (by first | (with_reducible assumption) | assumption); have q222 : x8_1 < (x6_1.length : Int) := of_decide_eq_true (by first | (with_reducible assumption) | assumption); obtain ⟨ad222, e222, hx222_0, hx222_1⟩ := at_T41 (Kd.R_reads' HO_6.out).2.2 x8_1 p222 q222; obtain rfl : ad219 = ad222 := (by injection e222); replace p222 := eq_true p222; replace q222 := eq_true q222) | (go_at_call 41; (with_reducible refine (skiarearef34_more.calls ((rd_T41 y220 x9_7).f1) ((rd_T41 x6_1 x8_1).f1) t223 true _ A44.out).mono ?_); rintro e w' ⟨rfl, ⟨nd, rfl⟩⟩; (try first | exact ⟨rfl, _, World.drewN_drewN _ _ _⟩ | exact ⟨rfl, _, Eq.trans (World.drewN_drewN _ _ _) (congrArg (World.drewN _) (Nat.add_assoc _ _ _))⟩); have p46 : 0 ≤ (x9_7 : Int) := of_decide_eq_true (by first | (with_reducible assumption) | assumption); have q46 : (x9_7 : Int) < ((x7_4.length : Int) : Int) := of_decide_eq_true (by first | (with_reducible assumption) | assumption); obtain ⟨ce46, hcl46, hM46, hcc46, hfr46⟩ := Kd.R_elem HO_7.out z41 (x9_7 : Int) p46 q46; obtain rfl := k41_openM hM46; have hx46_0 : w48.cell? ⟨go43, (x9_7 : Int).toNat * 2, none⟩ = some (.int .i64 ((rd_T41 y220 x9_7).f0)) := hcc46 0 _ rfl; have hx46_1 : w48.cell? ⟨go43, (x9_7 : Int).toNat * 2 + 1, none⟩ = some (.int .i64 ((rd_T41 y220 x9_7).f1)) := hcc46 1 _ rfl; have hf46_0 : w48.frozen? ⟨go43, (x9_7 : Int).toNat * 2, none⟩ = false := hfr46 0; have hf46_1 : w48.frozen? ⟨go43, (x9_7 : Int).toNat * 2 + 1, none⟩ = false := hfr46 1; clear hcl46 hcc46 hfr46 hM46; replace p46 := eq_true p46; replace q46 := eq_true q46; have HX49 := Aside0.mk (show Kd.R k41 41 w48 w.heap.size (fun k_ => some k_ ≠ (.slice (some ad219) x6_1.length co9 : Value).ownBlock) (.slice (some ⟨go43, 0, none⟩) x7_4.length co29) y220 from (by (with_reducible repeat (first | apply Kd.R_alloc | apply Kd.R_drewN | apply Kd.R_drew)); exact HO_7.out)); obtain ⟨ce49, hcl49, hM49, hcc49, hfr49⟩ := Kd.R_elem HX49.out z41 (x9_7 : Int) (of_decide_eq_true (by first | (with_reducible assumption) | assumption)) (by have h_ : (x9_7 : Int) < ((x7_4.length : Int) : Int) := of_decide_eq_true (by first | (with_reducible assumption) | assumption); first | exact h_ | (have e_ := (Kd.R_reads' HO_7.out).1; omega) | simpa using h_); obtain rfl := k41_openM hM49; have HP49 := Kd.R_seg HX49.out (x9_7 : Int) (of_decide_eq_true (by first | (with_reducible assumption) | assumption)) (by have h_ : (x9_7 : Int) < ((x7_4.length : Int) : Int) := of_decide_eq_true (by first | (with_reducible assumption) | assumption); first | exact h_ | (have e_ := (Kd.R_reads' HO_7.out).1; omega) | simpa using h_) (seg := [.int .i64 t223]) (j := 1) hcl49 hcc49 (show 2 ≤ 2 from by decide) (x' := (⟨(rd_T41 y220 x9_7).f0, t223⟩ : S41)) (k41_mkM _ _ _ (⟨(rd_T41 y220 x9_7).f0, t223⟩ : S41) ) (fun _ hk => hk); have hx49_1 := hcc49 1 _ rfl; (try simp only [show (k41).sz = 2 from rfl, Nat.mul_one, Nat.add_zero] at hx49_1); have hf49_1 := hfr49 1; (try simp only [show (k41).sz = 2 from rfl, Nat.mul_one, Nat.add_zero] at hf49_1); clear hcl49 hcc49 hfr49 hM49) | ((with_reducible refine gate_store (t := 3) (p := 110) rfl ?_); (try (rw [drewN_self w48]; generalize hq_ : World.drewN w48 _ = w48; have n0_ := Aside0.mk (Kd.R_at hq_ HO_6.out); have n1_ := Aside0.mk (Kd.R_at hq_ HO_7.out); have n2_ := Aside0.mk (below_at hq_ HB.out); clear hq_ HO_6 HO_7 HB; have HO_6 := n0_; have HO_7 := n1_; have HB := n2_; clear n0_ n1_ n2_; (try (have HX49 := Aside0.mk (show Kd.R k41 41 w48 w.heap.size (fun k_ => some k_ ≠ (.slice (some ad219) x6_1.length co9 : Value).ownBlock) (.slice (some ⟨go43, 0, none⟩) x7_4.length co29) y220 from (by (with_reducible repeat (first | apply Kd.R_alloc | apply Kd.R_drewN | apply Kd.R_drew)); exact HO_7.out)))); (try (obtain ⟨ce49, hcl49, hM49, hcc49, hfr49⟩ := Kd.R_elem HX49.out z41 (x9_7 : Int) (of_decide_eq_true (by first | (with_reducible assumption) | assumption)) (by have h_ : (x9_7 : Int) < ((x7_4.length : Int) : Int) := of_decide_eq_true (by first | (with_reducible assumption) | assumption); first | exact h_ | (have e_ := (Kd.R_reads' HO_7.out).1; omega) | simpa using h_))); (try (obtain rfl := k41_openM hM49)); (try (have HP49 := Kd.R_seg HX49.out (x9_7 : Int) (of_decide_eq_true (by first | (with_reducible assumption) | assumption)) (by have h_ : (x9_7 : Int) < ((x7_4.length : Int) : Int) := of_decide_eq_true (by first | (with_reducible assumption) | assumption); first | exact h_ | (have e_ := (Kd.R_reads' HO_7.out).1; omega) | simpa using h_) (seg := [.int .i64 t223]) (j := 1) hcl49 hcc49 (show 2 ≤ 2 from by decide) (x' := (⟨(rd_T41 y220 x9_7).f0, t223⟩ : S41)) (k41_mkM _ _ _ (⟨(rd_T41 y220 x9_7).f0, t223⟩ : S41) ) (fun _ hk => hk))); (try (have hx49_1 := hcc49 1 _ rfl)); (try (try simp only [show (k41).sz = 2 from rfl, Nat.mul_one, Nat.add_zero] at hx49_1)); (try (have hf49_1 := hfr49 1)); (try (try simp only [show (k41).sz = 2 from rfl, Nat.mul_one, Nat.add_zero] at hf49_1)); (try (clear hcl49 hcc49 hfr49 hM49)))); refine store_event (t := 3) (p := 110) (v := ?vo_w50) (w1 := (w48.setCell ⟨go43, (x9_7 : Int).toNat * 2 + 1, none⟩ (.int .i64 t223))) ?hg ?ho ?hn ?hr ?_; (case ho => rfl); (case hg => rfl); (case hn => rfl); (case hr => first | (go_simp; done) | (go_simp; rfl)); intro w50 hw; have hg : w48.grownBy w50 (some go43) := (by rw [hw]; exact HP49.2); have hp_ : Kd.R k41 41 w50 w.heap.size (fun k_ => some k_ ≠ (.slice (some ad219) x6_1.length co9 : Value).ownBlock) (.slice (some ⟨go43, 0, none⟩) x7_4.length co29) y225 := (by rw [hw, Ny225.out]; exact HP49.1); clear HP49; have n0_ := Aside0.mk (Kd.R_after (v := (.slice (some ⟨go43, 0, none⟩) x7_4.length co29)) (v1 := (.slice (some ⟨go43, 0, none⟩) x7_4.length co29)) (ok := (fun _ => True)) (by (with_reducible repeat (first | apply Kd.R_alloc | apply Kd.R_drewN | apply Kd.R_drew)); exact HO_6.out) hg (.inl rfl)); have n1_ := Aside0.mk (hp_); have n2_ := Aside0.mk ((by rw [hw]; exact below_set (HB.out) GB43.out : Below w.heap.size w w50)); clear HO_6; clear HO_7; clear HB; have HO_6 := n0_; have HO_7 := n1_; have HB := n2_; clear n0_ n1_ n2_; clear hg hw hp_)); try go_wp2_with (first | ((with_reducible refine gate_store (t := 41) (p := 89) rfl ?_); (try (rw [drewN_self wr]; generalize hq_ : World.drewN wr _ = wr; have n0_ := Aside0.mk (Kd.R_at hq_ HO_6.out); have n1_ := Aside0.mk (Kd.R_at hq_ HO_7.out); have n2_ := Aside0.mk (below_at hq_ HB.out); clear hq_ HO_6 HO_7 HB; have HO_6 := n0_; have HO_7 := n1_; have HB := n2_; clear n0_ n1_ n2_; (try (have HX47 := Aside0.mk (show Kd.R k41 41 wr w.heap.size (fun k_ => some k_ ≠ (.slice (some ad219) x6_1.length co9 : Value).ownBlock) (.slice (some ⟨go43, 0, none⟩) x7_4.length co29) x7_4 from (by (with_reducible repeat (first | apply Kd.R_alloc | apply Kd.R_drewN | apply Kd.R_drew)); exact HO_7.out)))); (try (obtain ⟨ce47, hcl47, hM47, hcc47, hfr47⟩ := Kd.R_elem HX47.out z41 (x9_7 : Int) (of_decide_eq_true (by first | (with_reducible assumption) | assumption)) (by have h_ : (x9_7 : Int) < ((x7_4.length : Int) : Int) := of_decide_eq_true (by first | (with_reducible assumption) | assumption); first | exact h_ | (have e_ := (Kd.R_reads' HO_7.out).1; omega) | simpa using h_))); (try (obtain rfl := k41_openM hM47)); (try (have HP47 := Kd.R_seg HX47.out (x9_7 : Int) (of_decide_eq_true (by first | (with_reducible assumption) | assumption)) (by have h_ : (x9_7 : Int) < ((x7_4.length : Int) : Int) := of_decide_eq_true (by first | (with_reducible assumption) | assumption); first | exact h_ | (have e_ := (Kd.R_reads' HO_7.out).1; omega) | simpa using h_) (seg := [.int .i64 ((rd_T41 x6_1 x8_1).f0), .int .i64 0]) (j := 0) hcl47 hcc47 (show 2 ≤ 2 from by decide) (x' := (⟨(rd_T41 x6_1 x8_1).f0, 0⟩ : S41)) (k41_mkM _ _ _ (⟨(rd_T41 x6_1 x8_1).f0, 0⟩ : S41) ) (fun _ hk => hk))); (try (have hx47_0 := hcc47 0 _ rfl)); (try (try simp only [show (k41).sz = 2 from rfl, Nat.mul_one, Nat.add_zero] at hx47_0)); (try (have hf47_0 := hfr47 0)); (try (try simp only [show (k41).sz = 2 from rfl, Nat.mul_one, Nat.add_zero] at hf47_0)); (try (have hx47_1 := hcc47 1 _ rfl)); (try (try simp only [show (k41).sz = 2 from rfl, Nat.mul_one, Nat.add_zero] at hx47_1)); (try (have hf47_1 := hfr47 1)); (try (try simp only [show (k41).sz = 2 from rfl, Nat.mul_one, Nat.add_zero] at hf47_1)); (try (clear hcl47 hcc47 hfr47 hM47)))); refine store_event (t := 41) (p := 89) (v := ?vo_w48) (w1 := ((wr.setCell ⟨go43, (x9_7 : Int).toNat * 2, none⟩ (.int .i64 ((rd_T41 x6_1 x8_1).f0))).setCell ⟨go43, (x9_7 : Int).toNat * 2 + 1, none⟩ (.int .i64 0))) ?hg ?ho ?hn ?hr ?_; (case ho => rfl); (case hg => rfl); (case hn => rfl); (case hr => first | (go_simp; done) | (go_simp; rfl)); intro w48 hw; have hg : wr.grownBy w48 (some go43) := (by rw [hw]; exact HP47.2); have hp_ : Kd.R k41 41 w48 w.heap.size (fun k_ => some k_ ≠ (.slice (some ad219) x6_1.length co9 : Value).ownBlock) (.slice (some ⟨go43, 0, none⟩) x7_4.length co29) y220 := (by rw [hw, Ny220.out]; exact HP47.1); clear HP47; have n0_ := Aside0.mk (Kd.R_after (v := (.slice (some ⟨go43, 0, none⟩) x7_4.length co29)) (v1 := (.slice (some ⟨go43, 0, none⟩) x7_4.length co29)) (ok := (fun _ => True)) (by (with_reducible repeat (first | apply Kd.R_alloc | apply Kd.R_drewN | apply Kd.R_drew)); exact Kd.R_mono HO_6.out (fun _ hk => ⟨trivial, hk⟩)) hg (.inl rfl)); have n1_ := Aside0.mk (hp_); have n2_ := Aside0.mk ((by rw [hw]; exact below_set (below_set (HB.out) GB43.out) GB43.out : Below w.heap.size w w48)); clear HO_6; clear HO_7; clear HB; have HO_6 := n0_; have HO_7 := n1_; have HB := n2_; clear n0_ n1_ n2_; clear hg hw hp_; have p221 : 0 ≤ (x9_7 : Int) := of_decide_eq_true (by first | (with_reducible assumption) | assumption); have q221 : x9_7 < (y220.length : Int) := (by have h_ : (x9_7 : Int) < ((x7_4.length : Int) : Int) := of_decide_eq_true (by first | (with_reducible assumption) | assumption); first | (have e_ := (Kd.R_reads' HO_7.out).1; omega) | simpa only [Ny220.out, List.length_set] using h_); have ql221 : ((x9_7 : Int) < ((x7_4.length : Int) : Int)) = True := eq_true (of_decide_eq_true (by first | (with_reducible assumption) | assumption)); obtain ⟨ad221, e221, hx221_0, hx221_1⟩ := at_T41 (Kd.R_reads' HO_7.out).2.2 x9_7 p221 q221; obtain rfl : (⟨go43, 0, none⟩ : Addr) = ad221 := (by injection e221); (first | simp only [add_plain] at hx221_0 | simp only [add_at] at hx221_0 | simp only [Addr.add, Nat.zero_add] at hx221_0 | skip); (first | simp only [add_plain] at hx221_1 | simp only [add_at] at hx221_1 | simp only [Addr.add, Nat.zero_add] at hx221_1 | skip); replace p221 := eq_true p221; replace q221 := eq_true q221; have p222 : 0 ≤ (x8_1 : Int) := of_decide_eq_true (by first | (with_reducible assumption) | assumption); have q222 : x8_1 < (x6_1.length : Int) := of_decide_eq_true (by first | (with_reducible assumption) | assumption); obtain ⟨ad222, e222, hx222_0, hx222_1⟩ := at_T41 (Kd.R_reads' HO_6.out).2.2 x8_1 p222 q222; obtain rfl : ad219 = ad222 := (by injection e222); replace p222 := eq_true p222; replace q222 := eq_true q222) | (go_at_call 41; (with_reducible refine (skiarearef34_more.calls ((rd_T41 y220 x9_7).f1) ((rd_T41 x6_1 x8_1).f1) t223 true _ A44.out).mono ?_); rintro e w' ⟨rfl, ⟨nd, rfl⟩⟩; (try first | exact ⟨rfl, _, World.drewN_drewN _ _ _⟩ | exact ⟨rfl, _, Eq.trans (World.drewN_drewN _ _ _) (congrArg (World.drewN _) (Nat.add_assoc _ _ _))⟩); have p46 : 0 ≤ (x9_7 : Int) := of_decide_eq_true (by first | (with_reducible assumption) | assumption); have q46 : (x9_7 : Int) < ((x7_4.length : Int) : Int) := of_decide_eq_true (by first | (with_reducible assumption) | assumption); obtain ⟨ce46, hcl46, hM46, hcc46, hfr46⟩ := Kd.R_elem HO_7.out z41 (x9_7 : Int) p46 q46; obtain rfl := k41_openM hM46; have hx46_0 : w48.cell? ⟨go43, (x9_7 : Int).toNat * 2, none⟩ = some (.int .i64 ((rd_T41 y220 x9_7).f0)) := hcc46 0 _ rfl; have hx46_1 : w48.cell? ⟨go43, (x9_7 : Int).toNat * 2 + 1, none⟩ = some (.int .i64 ((rd_T41 y220 x9_7).f1)) := hcc46 1 _ rfl; have hf46_0 : w48.frozen? ⟨go43, (x9_7 : Int).toNat * 2, none⟩ = false := hfr46 0; have hf46_1 : w48.frozen? ⟨go43, (x9_7 : Int).toNat * 2 + 1, none⟩ = false := hfr46 1; clear hcl46 hcc46 hfr46 hM46; replace p46 := eq_true p46; replace q46 := eq_true q46; have HX49 := Aside0.mk (show Kd.R k41 41 w48 w.heap.size (fun k_ => some k_ ≠ (.slice (some ad219) x6_1.length co9 : Value).ownBlock) (.slice (some ⟨go43, 0, none⟩) x7_4.length co29) y220 from (by (with_reducible repeat (first | apply Kd.R_alloc | apply Kd.R_drewN | apply Kd.R_drew)); exact HO_7.out)); obtain ⟨ce49, hcl49, hM49, hcc49, hfr49⟩ := Kd.R_elem HX49.out z41 (x9_7 : Int) (of_decide_eq_true (by first | (with_reducible assumption) | assumption)) (by have h_ : (x9_7 : Int) < ((x7_4.length : Int) : Int) := of_decide_eq_true (by first | (with_reducible assumption) | assumption); first | exact h_ | (have e_ := (Kd.R_reads' HO_7.out).1; omega) | simpa using h_); obtain rfl := k41_openM hM49; have HP49 := Kd.R_seg HX49.out (x9_7 : Int) (of_decide_eq_true (by first | (with_reducible assumption) | assumption)) (by have h_ : (x9_7 : Int) < ((x7_4.length : Int) : Int) := of_decide_eq_true (by first | (with_reducible assumption) | assumption); first | exact h_ | (have e_ := (Kd.R_reads' HO_7.out).1; omega) | simpa using h_) (seg := [.int .i64 t223]) (j := 1) hcl49 hcc49 (show 2 ≤ 2 from by decide) (x' := (⟨(rd_T41 y220 x9_7).f0, t223⟩ : S41)) (k41_mkM _ _ _ (⟨(rd_T41 y220 x9_7).f0, t223⟩ : S41) ) (fun _ hk => hk); have hx49_1 := hcc49 1 _ rfl; (try simp only [show (k41).sz = 2 from rfl, Nat.mul_one, Nat.add_zero] at hx49_1); have hf49_1 := hfr49 1; (try simp only [show (k41).sz = 2 from rfl, Nat.mul_one, Nat.add_zero] at hf49_1); clear hcl49 hcc49 hfr49 hM49) | ((with_reducible refine gate_store (t := 3) (p := 110) rfl ?_); (try (rw [drewN_self w48]; generalize hq_ : World.drewN w48 _ = w48; have n0_ := Aside0.mk (Kd.R_at hq_ HO_6.out); have n1_ := Aside0.mk (Kd.R_at hq_ HO_7.out); have n2_ := Aside0.mk (below_at hq_ HB.out); clear hq_ HO_6 HO_7 HB; have HO_6 := n0_; have HO_7 := n1_; have HB := n2_; clear n0_ n1_ n2_; (try (have HX49 := Aside0.mk (show Kd.R k41 41 w48 w.heap.size (fun k_ => some k_ ≠ (.slice (some ad219) x6_1.length co9 : Value).ownBlock) (.slice (some ⟨go43, 0, none⟩) x7_4.length co29) y220 from (by (with_reducible repeat (first | apply Kd.R_alloc | apply Kd.R_drewN | apply Kd.R_drew)); exact HO_7.out)))); (try (obtain ⟨ce49, hcl49, hM49, hcc49, hfr49⟩ := Kd.R_elem HX49.out z41 (x9_7 : Int) (of_decide_eq_true (by first | (with_reducible assumption) | assumption)) (by have h_ : (x9_7 : Int) < ((x7_4.length : Int) : Int) := of_decide_eq_true (by first | (with_reducible assumption) | assumption); first | exact h_ | (have e_ := (Kd.R_reads' HO_7.out).1; omega) | simpa using h_))); (try (obtain rfl := k41_openM hM49)); (try (have HP49 := Kd.R_seg HX49.out (x9_7 : Int) (of_decide_eq_true (by first | (with_reducible assumption) | assumption)) (by have h_ : (x9_7 : Int) < ((x7_4.length : Int) : Int) := of_decide_eq_true (by first | (with_reducible assumption) | assumption); first | exact h_ | (have e_ := (Kd.R_reads' HO_7.out).1; omega) | simpa using h_) (seg := [.int .i64 t223]) (j := 1) hcl49 hcc49 (show 2 ≤ 2 from by decide) (x' := (⟨(rd_T41 y220 x9_7).f0, t223⟩ : S41)) (k41_mkM _ _ _ (⟨(rd_T41 y220 x9_7).f0, t223⟩ : S41) ) (fun _ hk => hk))); (try (have hx49_1 := hcc49 1 _ rfl)); (try (try simp only [show (k41).sz = 2 from rfl, Nat.mul_one, Nat.add_zero] at hx49_1)); (try (have hf49_1 := hfr49 1)); (try (try simp only [show (k41).sz = 2 from rfl, Nat.mul_one, Nat.add_zero] at hf49_1)); (try (clear hcl49 hcc49 hfr49 hM49)))); refine store_event (t := 3) (p := 110) (v := ?vo_w50) (w1 := (w48.setCell ⟨go43, (x9_7 : Int).toNat * 2 + 1, none⟩ (.int .i64 t223))) ?hg ?ho ?hn ?hr ?_; (case ho => rfl); (case hg => rfl); (case hn => rfl); (case hr => first | (go_simp; done) | (go_simp; rfl)); intro w50 hw; have hg : w48.grownBy w50 (some go43) := (by rw [hw]; exact HP49.2); have hp_ : Kd.R k41 41 w50 w.heap.size (fun k_ => some k_ ≠ (.slice (some ad219) x6_1.length co9 : Value).ownBlock) (.slice (some ⟨go43, 0, none⟩) x7_4.length co29) y225 := (by rw [hw, Ny225.out]; exact HP49.1); clear HP49; have n0_ := Aside0.mk (Kd.R_after (v := (.slice (some ⟨go43, 0, none⟩) x7_4.length co29)) (v1 := (.slice (some ⟨go43, 0, none⟩) x7_4.length co29)) (ok := (fun _ => True)) (by (with_reducible repeat (first | apply Kd.R_alloc | apply Kd.R_drewN | apply Kd.R_drew)); exact HO_6.out) hg (.inl rfl)); have n1_ := Aside0.mk (hp_); have n2_ := Aside0.mk ((by rw [hw]; exact below_set (HB.out) GB43.out : Below w.heap.size w w50)); clear HO_6; clear HO_7; clear HB; have HO_6 := n0_; have HO_7 := n1_; have HB := n2_; clear n0_ n1_ n2_; clear hg hw hp_)))
                                        (try simp only [← hl7_4])
                                        go_roundg k4
                                        case measure => have := HK1.out; have := HJ7.out; have := HJ17.out; have := HK4.out; omega
                                        case rel => exact ⟨(x6_1), (y225), (wrap64 (x8_1 + 1)), (by first | rfl | (simp; done) | (simp [*]; done)), H', ⟨by have := HK1.out; have := HJ7.out; have := HJ17.out; have := HK4.out; omega⟩, ⟨by (try simp only [hl7_4]); (with_reducible repeat (first | apply Kd.R_alloc | apply Kd.R_drewN | apply Kd.R_drew)); exact Kd.R_mono HO_6.out (fun _ hk => hk.2)⟩, ⟨by (try simp only [hl7_4]); (with_reducible repeat (first | apply Kd.R_alloc | apply Kd.R_drewN | apply Kd.R_drew)); exact HO_7.out⟩, ⟨by repeat (first | (with_reducible first | exact HB.out | apply below_alloc | apply pw_below_drewN | apply below_drew1) | exact HB.out)⟩⟩
                                      · replace c45 := Bool.eq_false_iff.mpr c45
                                        subst c45
                                        have H1 : (some (([] : List (S41)), 12)) = some (r1, r2) := by rw [if_neg (show ¬ (false = true) by decide)] at H; exact H
                                        clear H
                                        have H := H1
                                        clear H1
                                        simp only [Option.some.injEq, Prod.mk.injEq] at H
                                        obtain ⟨rfl, rfl⟩ := H
                                        have p219 : 0 ≤ (x8_1 : Int) := of_decide_eq_true (by first | (with_reducible assumption) | assumption)
                                        have q219 : x8_1 < (x6_1.length : Int) := of_decide_eq_true (by first | (with_reducible assumption) | assumption)
                                        obtain ⟨ad219, e219, hx219_0, hx219_1⟩ := at_T41 (Kd.R_reads' HO_6.out).2.2 x8_1 p219 q219
                                        cases e219
                                        replace p219 := eq_true p219
                                        replace q219 := eq_true q219
                                        have p43 : 0 ≤ (x9_7 : Int) := of_decide_eq_true (by first | (with_reducible assumption) | assumption)
                                        have q43 : (x9_7 : Int) < ((x7_4.length : Int) : Int) := of_decide_eq_true (by first | (with_reducible assumption) | assumption)
                                        obtain ⟨go43, co43, eo43, gb43, gl43, cl43, HG43⟩ := Kd.R_form HO_7.out (by omega)
                                        (first | cases eo43 | (injection eo43 with ea_ en_ ec_; (first | subst ea_ | (injection ea_ with ea_; subst ea_)); subst ec_; clear en_))
                                        have GB43 := Aside0.mk gb43
                                        have GG43 := Aside0.mk HG43
                                        clear gb43 gl43 HG43
                                        obtain ⟨ce43, hcl43, hM43, hcc43, hfr43⟩ := Kd.R_elem HO_7.out z41 (x9_7 : Int) p43 q43
                                        obtain rfl := k41_openM hM43
                                        have hx43_0 : wr.cell? ⟨go43, (x9_7 : Int).toNat * 2, none⟩ = some (.int .i64 ((rd_T41 x7_4 x9_7).f0)) := hcc43 0 _ rfl
                                        have hx43_1 : wr.cell? ⟨go43, (x9_7 : Int).toNat * 2 + 1, none⟩ = some (.int .i64 ((rd_T41 x7_4 x9_7).f1)) := hcc43 1 _ rfl
                                        have hf43_0 : wr.frozen? ⟨go43, (x9_7 : Int).toNat * 2, none⟩ = false := hfr43 0
                                        have hf43_1 : wr.frozen? ⟨go43, (x9_7 : Int).toNat * 2 + 1, none⟩ = false := hfr43 1
                                        clear hcl43 hcc43 hfr43 hM43
                                        replace p43 := eq_true p43
                                        replace q43 := eq_true q43
                                        have HX51 := Aside0.mk (show Kd.R k41 41 wr w.heap.size (fun k_ => some k_ ≠ (.slice (some ad219) x6_1.length co9 : Value).ownBlock) (.slice (some ⟨go43, 0, none⟩) x7_4.length co29) x7_4 from (by (with_reducible repeat (first | apply Kd.R_alloc | apply Kd.R_drewN | apply Kd.R_drew)); exact HO_7.out))
                                        obtain ⟨ce51, hcl51, hM51, hcc51, hfr51⟩ := Kd.R_elem HX51.out z41 (x9_7 : Int) (of_decide_eq_true (by first | (with_reducible assumption) | assumption)) (by have h_ : (x9_7 : Int) < ((x7_4.length : Int) : Int) := of_decide_eq_true (by first | (with_reducible assumption) | assumption); first | exact h_ | (have e_ := (Kd.R_reads' HO_7.out).1; omega) | simpa using h_)
                                        obtain rfl := k41_openM hM51
                                        have HP51 := Kd.R_seg HX51.out (x9_7 : Int) (of_decide_eq_true (by first | (with_reducible assumption) | assumption)) (by have h_ : (x9_7 : Int) < ((x7_4.length : Int) : Int) := of_decide_eq_true (by first | (with_reducible assumption) | assumption); first | exact h_ | (have e_ := (Kd.R_reads' HO_7.out).1; omega) | simpa using h_) (seg := [.int .i64 ((rd_T41 x6_1 x8_1).f0), .int .i64 0]) (j := 0) hcl51 hcc51 (show 2 ≤ 2 from by decide) (x' := (⟨(rd_T41 x6_1 x8_1).f0, 0⟩ : S41)) (k41_mkM _ _ _ (⟨(rd_T41 x6_1 x8_1).f0, 0⟩ : S41) ) (fun _ hk => hk)
                                        have hx51_0 := hcc51 0 _ rfl
                                        (try simp only [show (k41).sz = 2 from rfl, Nat.mul_one, Nat.add_zero] at hx51_0)
                                        have hf51_0 := hfr51 0
                                        (try simp only [show (k41).sz = 2 from rfl, Nat.mul_one, Nat.add_zero] at hf51_0)
                                        have hx51_1 := hcc51 1 _ rfl
                                        (try simp only [show (k41).sz = 2 from rfl, Nat.mul_one, Nat.add_zero] at hx51_1)
                                        have hf51_1 := hfr51 1
                                        (try simp only [show (k41).sz = 2 from rfl, Nat.mul_one, Nat.add_zero] at hf51_1)
                                        clear hcl51 hcc51 hfr51 hM51
                                        go_wp2_with (first | ((with_reducible refine gate_store (t := 41) (p := 89) rfl ?_); (try (rw [drewN_self wr]; generalize hq_ : World.drewN wr _ = wr; have n0_ := Aside0.mk (Kd.R_at hq_ HO_6.out); have n1_ := Aside0.mk (Kd.R_at hq_ HO_7.out); have n2_ := Aside0.mk (below_at hq_ HB.out); clear hq_ HO_6 HO_7 HB; have HO_6 := n0_; have HO_7 := n1_; have HB := n2_; clear n0_ n1_ n2_; (try (have HX51 := Aside0.mk (show Kd.R k41 41 wr w.heap.size (fun k_ => some k_ ≠ (.slice (some ad219) x6_1.length co9 : Value).ownBlock) (.slice (some ⟨go43, 0, none⟩) x7_4.length co29) x7_4 from (by (with_reducible repeat (first | apply Kd.R_alloc | apply Kd.R_drewN | apply Kd.R_drew)); exact HO_7.out)))); (try (obtain ⟨ce51, hcl51, hM51, hcc51, hfr51⟩ := Kd.R_elem HX51.out z41 (x9_7 : Int) (of_decide_eq_true (by first | (with_reducible assumption) | assumption)) (by have h_ : (x9_7 : Int) < ((x7_4.length : Int) : Int) := of_decide_eq_true (by first | (with_reducible assumption) | assumption); first | exact h_ | (have e_ := (Kd.R_reads' HO_7.out).1; omega) | simpa using h_))); (try (obtain rfl := k41_openM hM51)); (try (have HP51 := Kd.R_seg HX51.out (x9_7 : Int) (of_decide_eq_true (by first | (with_reducible assumption) | assumption)) (by have h_ : (x9_7 : Int) < ((x7_4.length : Int) : Int) := of_decide_eq_true (by first | (with_reducible assumption) | assumption); first | exact h_ | (have e_ := (Kd.R_reads' HO_7.out).1; omega) | simpa using h_) (seg := [.int .i64 ((rd_T41 x6_1 x8_1).f0), .int .i64 0]) (j := 0) hcl51 hcc51 (show 2 ≤ 2 from by decide) (x' := (⟨(rd_T41 x6_1 x8_1).f0, 0⟩ : S41)) (k41_mkM _ _ _ (⟨(rd_T41 x6_1 x8_1).f0, 0⟩ : S41) ) (fun _ hk => hk))); (try (have hx51_0 := hcc51 0 _ rfl)); (try (try simp only [show (k41).sz = 2 from rfl, Nat.mul_one, Nat.add_zero] at hx51_0)); (try (have hf51_0 := hfr51 0)); (try (try simp only [show (k41).sz = 2 from rfl, Nat.mul_one, Nat.add_zero] at hf51_0)); (try (have hx51_1 := hcc51 1 _ rfl)); (try (try simp only [show (k41).sz = 2 from rfl, Nat.mul_one, Nat.add_zero] at hx51_1)); (try (have hf51_1 := hfr51 1)); (try (try simp only [show (k41).sz = 2 from rfl, Nat.mul_one, Nat.add_zero] at hf51_1)); (try (clear hcl51 hcc51 hfr51 hM51)))); refine store_event (t := 41) (p := 89) (v := ?vo_w52) (w1 := ((wr.setCell ⟨go43, (x9_7 : Int).toNat * 2, none⟩ (.int .i64 ((rd_T41 x6_1 x8_1).f0))).setCell ⟨go43, (x9_7 : Int).toNat * 2 + 1, none⟩ (.int .i64 0))) ?hg ?ho ?hn ?hr ?_; (case ho => rfl); (case hg => rfl); (case hn => rfl); (case hr => first | (go_simp; done) | (go_simp; rfl)); intro w52 hw; have hg : wr.grownBy w52 (some go43) := (by rw [hw]; exact HP51.2); have hp_ : Kd.R k41 41 w52 w.heap.size (fun k_ => some k_ ≠ (.slice (some ad219) x6_1.length co9 : Value).ownBlock) (.slice (some ⟨go43, 0, none⟩) x7_4.length co29) y220 := (by rw [hw, Ny220.out]; exact HP51.1); clear HP51; have n0_ := Aside0.mk (Kd.R_after (v := (.slice (some ⟨go43, 0, none⟩) x7_4.length co29)) (v1 := (.slice (some ⟨go43, 0, none⟩) x7_4.length co29)) (ok := (fun _ => True)) (by (with_reducible repeat (first | apply Kd.R_alloc | apply Kd.R_drewN | apply Kd.R_drew)); exact Kd.R_mono HO_6.out (fun _ hk => ⟨trivial, hk⟩)) hg (.inl rfl)); have n1_ := Aside0.mk (hp_); have n2_ := Aside0.mk ((by rw [hw]; exact below_set (below_set (HB.out) GB43.out) GB43.out : Below w.heap.size w w52)); clear HO_6; clear HO_7; clear HB; have HO_6 := n0_; have HO_7 := n1_; have HB := n2_; clear n0_ n1_ n2_; clear hg hw hp_; have p221 : 0 ≤ (x9_7 : Int) := of_decide_eq_true (by first | (with_reducible assumption) | assumption); have q221 : x9_7 < (y220.length : Int) := (by have h_ : (x9_7 : Int) < ((x7_4.length : Int) : Int) := of_decide_eq_true (by first | (with_reducible assumption) | assumption); first | (have e_ := (Kd.R_reads' HO_7.out).1; omega) | simpa only [Ny220.out, List.length_set] using h_); have ql221 : ((x9_7 : Int) < ((x7_4.length : Int) : Int)) = True := eq_true (of_decide_eq_true (by first | (with_reducible assumption) | assumption)); obtain ⟨ad221, e221, hx221_0, hx221_1⟩ := at_T41 (Kd.R_reads' HO_7.out).2.2 x9_7 p221 q221; obtain rfl : (⟨go43, 0, none⟩ : Addr) = ad221 := (by injection e221); (first | simp only [add_plain] at hx221_0 | simp only [add_at] at hx221_0 | simp only [Addr.add, Nat.zero_add] at hx221_0 | skip); (first | simp only [add_plain] at hx221_1 | simp only [add_at] at hx221_1 | simp only [Addr.add, Nat.zero_add] at hx221_1 | skip); replace p221 := eq_true p221; replace q221 := eq_true q221; have p222 : 0 ≤ (x8_1 : Int) := of_decide_eq_true (by first | (with_reducible assumption) | assumption); have q222 : x8_1 < (x6_1.length : Int) := of_decide_eq_true (by first | (with_reducible assumption) | assumption); obtain ⟨ad222, e222, hx222_0, hx222_1⟩ := at_T41 (Kd.R_reads' HO_6.out).2.2 x8_1 p222 q222; obtain rfl : ad219 = ad222 := (by injection e222); replace p222 := eq_true p222; replace q222 := eq_true q222) | (go_at_call 41; (with_reducible refine (skiarearef34_more.calls ((rd_T41 y220 x9_7).f1) ((rd_T41 x6_1 x8_1).f1) t223 false _ A44.out).mono ?_); rintro e w' ⟨rfl, ⟨nd, rfl⟩⟩; (try first | exact ⟨rfl, _, World.drewN_drewN _ _ _⟩ | exact ⟨rfl, _, Eq.trans (World.drewN_drewN _ _ _) (congrArg (World.drewN _) (Nat.add_assoc _ _ _))⟩)))
                                        repeat (go_quiet (first | ((with_reducible refine gate_store (t := 41) (p := 89) rfl ?_); (try (rw [drewN_self wr]; generalize hq_ : World.drewN wr _ = wr; have n0_ := Aside0.mk (Kd.R_at hq_ HO_6.out); have n1_ := Aside0.mk (Kd.R_at hq_ HO_7.out); have n2_ := Aside0.mk (below_at hq_ HB.out); clear hq_ HO_6 HO_7 HB; have HO_6 := n0_; have HO_7 := n1_; have HB := n2_; clear n0_ n1_ n2_; (try (have HX51 := Aside0.mk (show Kd.R k41 41 wr w.heap.size (fun k_ => some k_ ≠ (.slice (some ad219) x6_1.length co9 : Value).ownBlock) (.slice (some ⟨go43, 0, none⟩) x7_4.length co29) x7_4 from (by (with_reducible repeat (first | apply Kd.R_alloc | apply Kd.R_drewN | apply Kd.R_drew)); exact HO_7.out)))); (try (obtain ⟨ce51, hcl51, hM51, hcc51, hfr51⟩ := Kd.R_elem HX51.out z41 (x9_7 : Int) (of_decide_eq_true (by first | (with_reducible assumption) | assumption)) (by have h_ : (x9_7 : Int) < ((x7_4.length : Int) : Int) := of_decide_eq_true (by first | (with_reducible assumption) | assumption); first | exact h_ | (have e_ := (Kd.R_reads' HO_7.out).1; omega) | simpa using h_))); (try (obtain rfl := k41_openM hM51)); (try (have HP51 := Kd.R_seg HX51.out (x9_7 : Int) (of_decide_eq_true (by first | (with_reducible assumption) | assumption)) (by have h_ : (x9_7 : Int) < ((x7_4.length : Int) : Int) := of_decide_eq_true (by first | (with_reducible assumption) | assumption); first | exact h_ | (have e_ := (Kd.R_reads' HO_7.out).1; omega) | simpa using h_) (seg := [.int .i64 ((rd_T41 x6_1 x8_1).f0), .int .i64 0]) (j := 0) hcl51 hcc51 (show 2 ≤ 2 from by decide) (x' := (⟨(rd_T41 x6_1 x8_1).f0, 0⟩ : S41)) (k41_mkM _ _ _ (⟨(rd_T41 x6_1 x8_1).f0, 0⟩ : S41) ) (fun _ hk => hk))); (try (have hx51_0 := hcc51 0 _ rfl)); (try (try simp only [show (k41).sz = 2 from rfl, Nat.mul_one, Nat.add_zero] at hx51_0)); (try (have hf51_0 := hfr51 0)); (try (try simp only [show (k41).sz = 2 from rfl, Nat.mul_one, Nat.add_zero] at hf51_0)); (try (have hx51_1 := hcc51 1 _ rfl)); (try (try simp only [show (k41).sz = 2 from rfl, Nat.mul_one, Nat.add_zero] at hx51_1)); (try (have hf51_1 := hfr51 1)); (try (try simp only [show (k41).sz = 2 from rfl, Nat.mul_one, Nat.add_zero] at hf51_1)); (try (clear hcl51 hcc51 hfr51 hM51)))); refine store_event (t := 41) (p := 89) (v := ?vo_w52) (w1 := ((wr.setCell ⟨go43, (x9_7 : Int).toNat * 2, none⟩ (.int .i64 ((rd_T41 x6_1 x8_1).f0))).setCell ⟨go43, (x9_7 : Int).toNat * 2 + 1, none⟩ (.int .i64 0))) ?hg ?ho ?hn ?hr ?_; (case ho => rfl); (case hg => rfl); (case hn => rfl); (case hr => first | (go_simp; done) | (go_simp; rfl)); intro w52 hw; have hg : wr.grownBy w52 (some go43) := (by rw [hw]; exact HP51.2); have hp_ : Kd.R k41 41 w52 w.heap.size (fun k_ => some k_ ≠ (.slice (some ad219) x6_1.length co9 : Value).ownBlock) (.slice (some ⟨go43, 0, none⟩) x7_4.length co29) y220 := (by rw [hw, Ny220.out]; exact HP51.1); clear HP51; have n0_ := Aside0.mk (Kd.R_after (v := (.slice (some ⟨go43, 0, none⟩) x7_4.length co29)) (v1 := (.slice (some ⟨go43, 0, none⟩) x7_4.length co29)) (ok := (fun _ => True)) (by (with_reducible repeat (first | apply Kd.R_alloc | apply Kd.R_drewN | apply Kd.R_drew)); exact Kd.R_mono HO_6.out (fun _ hk => ⟨trivial, hk⟩)) hg (.inl rfl)); have n1_ := Aside0.mk (hp_); have n2_ := Aside0.mk ((by rw [hw]; exact below_set (below_set (HB.out) GB43.out) GB43.out : Below w.heap.size w w52)); clear HO_6; clear HO_7; clear HB; have HO_6 := n0_; have HO_7 := n1_; have HB := n2_; clear n0_ n1_ n2_; clear hg hw hp_; have p221 : 0 ≤ (x9_7 : Int) := of_decide_eq_true (by first | (with_reducible assumption) | assumption); have q221 : x9_7 < (y220.length : Int) := (by have h_ : (x9_7 : Int) < ((x7_4.length : Int) : Int) := of_decide_eq_true (by first | (with_reducible assumption) | assumption); first | (have e_ := (Kd.R_reads' HO_7.out).1; omega) | simpa only [Ny220.out, List.length_set] using h_); have ql221 : ((x9_7 : Int) < ((x7_4.length : Int) : Int)) = True := eq_true (of_decide_eq_true (by first | (with_reducible assumption) | assumption)); obtain ⟨ad221, e221, hx221_0, hx221_1⟩ := at_T41 (Kd.R_reads' HO_7.out).2.2 x9_7 p221 q221; obtain rfl : (⟨go43, 0, none⟩ : Addr) = ad221 := (by injection e221); (first | simp only [add_plain] at hx221_0 | simp only [add_at] at hx221_0 | simp only [Addr.add, Nat.zero_add] at hx221_0 | skip); (first | simp only [add_plain] at hx221_1 | simp only [add_at] at hx221_1 | simp only [Addr.add, Nat.zero_add] at hx221_1 | skip); replace p221 := eq_true p221; replace q221 := eq_true q221; have p222 : 0 ≤ (x8_1 : Int) := of_decide_eq_true (by first | (with_reducible assumption) | assumption); have q222 : x8_1 < (x6_1.length : Int) := of_decide_eq_true (by first | (with_reducible assumption) | assumption); obtain ⟨ad222, e222, hx222_0, hx222_1⟩ := at_T41 (Kd.R_reads' HO_6.out).2.2 x8_1 p222 q222; obtain rfl : ad219 = ad222 := (by injection e222); replace p222 := eq_true p222; replace q222 := eq_true q222) | (go_at_call 41; (with_reducible refine (skiarearef34_more.calls ((rd_T41 y220 x9_7).f1) ((rd_T41 x6_1 x8_1).f1) t223 false _ A44.out).mono ?_); rintro e w' ⟨rfl, ⟨nd, rfl⟩⟩; (try first | exact ⟨rfl, _, World.drewN_drewN _ _ _⟩ | exact ⟨rfl, _, Eq.trans (World.drewN_drewN _ _ _) (congrArg (World.drewN _) (Nat.add_assoc _ _ _))⟩))); try go_wp2_with (first | ((with_reducible refine gate_store (t := 41) (p := 89) rfl ?_); (try (rw [drewN_self wr]; generalize hq_ : World.drewN wr _ = wr; have n0_ := Aside0.mk (Kd.R_at hq_ HO_6.out); have n1_ := Aside0.mk (Kd.R_at hq_ HO_7.out); have n2_ := Aside0.mk (below_at hq_ HB.out); clear hq_ HO_6 HO_7 HB; have HO_6 := n0_; have HO_7 := n1_; have HB := n2_; clear n0_ n1_ n2_; (try (have HX51 := Aside0.mk (show Kd.R k41 41 wr w.heap.size (fun k_ => some k_ ≠ (.slice (some ad219) x6_1.length co9 : Value).ownBlock) (.slice (some ⟨go43, 0, none⟩) x7_4.length co29) x7_4 from (by (with_reducible repeat (first | apply Kd.R_alloc | apply Kd.R_drewN | apply Kd.R_drew)); exact HO_7.out)))); (try (obtain ⟨ce51, hcl51, hM51, hcc51, hfr51⟩ := Kd.R_elem HX51.out z41 (x9_7 : Int) (of_decide_eq_true (by first | (with_reducible assumption) | assumption)) (by have h_ : (x9_7 : Int) < ((x7_4.length : Int) : Int) := of_decide_eq_true (by first | (with_reducible assumption) | assumption); first | exact h_ | (have e_ := (Kd.R_reads' HO_7.out).1; omega) | simpa using h_))); (try (obtain rfl := k41_openM hM51)); (try (have HP51 := Kd.R_seg HX51.out (x9_7 : Int) (of_decide_eq_true (by first | (with_reducible assumption) | assumption)) (by have h_ : (x9_7 : Int) < ((x7_4.length : Int) : Int) := of_decide_eq_true (by first | (with_reducible assumption) | assumption); first | exact h_ | (have e_ := (Kd.R_reads' HO_7.out).1; omega) | simpa using h_) (seg := [.int .i64 ((rd_T41 x6_1 x8_1).f0), .int .i64 0]) (j := 0) hcl51 hcc51 (show 2 ≤ 2 from by decide) (x' := (⟨(rd_T41 x6_1 x8_1).f0, 0⟩ : S41)) (k41_mkM _ _ _ (⟨(rd_T41 x6_1 x8_1).f0, 0⟩ : S41) ) (fun _ hk => hk))); (try (have hx51_0 := hcc51 0 _ rfl)); (try (try simp only [show (k41).sz = 2 from rfl, Nat.mul_one, Nat.add_zero] at hx51_0)); (try (have hf51_0 := hfr51 0)); (try (try simp only [show (k41).sz = 2 from rfl, Nat.mul_one, Nat.add_zero] at hf51_0)); (try (have hx51_1 := hcc51 1 _ rfl)); (try (try simp only [show (k41).sz = 2 from rfl, Nat.mul_one, Nat.add_zero] at hx51_1)); (try (have hf51_1 := hfr51 1)); (try (try simp only [show (k41).sz = 2 from rfl, Nat.mul_one, Nat.add_zero] at hf51_1)); (try (clear hcl51 hcc51 hfr51 hM51)))); refine store_event (t := 41) (p := 89) (v := ?vo_w52) (w1 := ((wr.setCell ⟨go43, (x9_7 : Int).toNat * 2, none⟩ (.int .i64 ((rd_T41 x6_1 x8_1).f0))).setCell ⟨go43, (x9_7 : Int).toNat * 2 + 1, none⟩ (.int .i64 0))) ?hg ?ho ?hn ?hr ?_; (case ho => rfl); (case hg => rfl); (case hn => rfl); (case hr => first | (go_simp; done) | (go_simp; rfl)); intro w52 hw; have hg : wr.grownBy w52 (some go43) := (by rw [hw]; exact HP51.2); have hp_ : Kd.R k41 41 w52 w.heap.size (fun k_ => some k_ ≠ (.slice (some ad219) x6_1.length co9 : Value).ownBlock) (.slice (some ⟨go43, 0, none⟩) x7_4.length co29) y220 := (by rw [hw, Ny220.out]; exact HP51.1); clear HP51; have n0_ := Aside0.mk (Kd.R_after (v := (.slice (some ⟨go43, 0, none⟩) x7_4.length co29)) (v1 := (.slice (some ⟨go43, 0, none⟩) x7_4.length co29)) (ok := (fun _ => True)) (by (with_reducible repeat (first | apply Kd.R_alloc | apply Kd.R_drewN | apply Kd.R_drew)); exact Kd.R_mono HO_6.out (fun _ hk => ⟨trivial, hk⟩)) hg (.inl rfl)); have n1_ := Aside0.mk (hp_); have n2_ := Aside0.mk ((by rw [hw]; exact below_set (below_set (HB.out) GB43.out) GB43.out : Below w.heap.size w w52)); clear HO_6; clear HO_7; clear HB; have HO_6 := n0_; have HO_7 := n1_; have HB := n2_; clear n0_ n1_ n2_; clear hg hw hp_; have p221 : 0 ≤ (x9_7 : Int) := of_decide_eq_true (by first | (with_reducible assumption) | assumption); have q221 : x9_7 < (y220.length : Int) := (by have h_ : (x9_7 : Int) < ((x7_4.length : Int) : Int) := of_decide_eq_true (by first | (with_reducible assumption) | assumption); first | (have e_ := (Kd.R_reads' HO_7.out).1; omega) | simpa only [Ny220.out, List.length_set] using h_); have ql221 : ((x9_7 : Int) < ((x7_4.length : Int) : Int)) = True := eq_true (of_decide_eq_true (by first | (with_reducible assumption) | assumption)); obtain ⟨ad221, e221, hx221_0, hx221_1⟩ := at_T41 (Kd.R_reads' HO_7.out).2.2 x9_7 p221 q221; obtain rfl : (⟨go43, 0, none⟩ : Addr) = ad221 := (by injection e221); (first | simp only [add_plain] at hx221_0 | simp only [add_at] at hx221_0 | simp only [Addr.add, Nat.zero_add] at hx221_0 | skip); (first | simp only [add_plain] at hx221_1 | simp only [add_at] at hx221_1 | simp only [Addr.add, Nat.zero_add] at hx221_1 | skip); replace p221 := eq_true p221; replace q221 := eq_true q221; have p222 : 0 ≤ (x8_1 : Int) := of_decide_eq_true (by first | (with_reducible assumption) | assumption); have q222 : x8_1 < (x6_1.length : Int) := of_decide_eq_true (by first | (with_reducible assumption) | assumption); obtain ⟨ad222, e222, hx222_0, hx222_1⟩ := at_T41 (Kd.R_reads' HO_6.out).2.2 x8_1 p222 q222; obtain rfl : ad219 = ad222 := (by injection e222); replace p222 := eq_true p222; replace q222 := eq_true q222) | (go_at_call 41; (with_reducible refine (skiarearef34_more.calls ((rd_T41 y220 x9_7).f1) ((rd_T41 x6_1 x8_1).f1) t223 false _ A44.out).mono ?_); rintro e w' ⟨rfl, ⟨nd, rfl⟩⟩; (try first | exact ⟨rfl, _, World.drewN_drewN _ _ _⟩ | exact ⟨rfl, _, Eq.trans (World.drewN_drewN _ _ _) (congrArg (World.drewN _) (Nat.add_assoc _ _ _))⟩))))
                                        go_ret2
                                        exact ⟨_, by first | rfl | (simp [errW_none, errW_some] <;> rfl) | (simp [*, errW_none, errW_some] <;> rfl), by first | exact Kd.R_nil _ _ _ _ _ | exact Kd.N_nil _ _ _ _ _ | exact Kd.V_nil _ _ _ _ _ | exact Kd.Q_nil _ _ _ _ _ | exact Kd.S_nil _ _ _ _ _, by repeat (first | (with_reducible first | exact HB.out | apply below_alloc | apply pw_below_drewN | apply below_drew1) | exact HB.out)⟩
                                    · rw [if_neg c42] at H
                                      exact absurd H (by simp)
                                  · rw [if_neg c41] at H
                                    exact absurd H (by simp)
                                · rw [if_neg c40] at H
                                  exact absurd H (by simp)
                              · rw [if_neg c39] at H
                                exact absurd H (by simp)
                      · rw [if_neg c27] at H
                        exact absurd H (by simp)
                    · replace c26 := Bool.eq_false_iff.mpr c26
                      subst c26
                      have H1 : (if 0 ≤ x9_7 then (if x9_7 < (x7_1.length : Int) then (if 0 ≤ x8_1 then (if x8_1 < (x6_1.length : Int) then ((skiarearef34_more.f ((rd_T41 x7_1 x9_7).f1) ((rd_T41 x6_1 x8_1).f1)).bind fun bt228 => (if bt228.2 = true then (skiarearef34_Add.l0 kj17 x6_1 (x7_1.set (x9_7 : Int).toNat (⟨(rd_T41 x7_1 x9_7).f0, bt228.1⟩ : S41)) (wrap64 (x8_1 + 1))) else (some (([] : List (S41)), 12)))) else (none)) else (none)) else (none)) else (none)) = some (r1, r2) := by rw [if_neg (show ¬ (false = true) by decide)] at H; exact H
                      clear H
                      have H := H1
                      clear H1
                      by_cases c53 : 0 ≤ x9_7
                      · rw [if_pos c53] at H
                        have c53b0 : decide (0 ≤ x9_7) = true := decide_eq_true c53
                        clear c53
                        by_cases c54 : x9_7 < (x7_1.length : Int)
                        · rw [if_pos c54] at H
                          have c54b0 : decide (x9_7 < (x7_1.length : Int)) = true := decide_eq_true c54
                          clear c54
                          by_cases c55 : 0 ≤ x8_1
                          · rw [if_pos c55] at H
                            have c55b0 : decide (0 ≤ x8_1) = true := decide_eq_true c55
                            clear c55
                            by_cases c56 : x8_1 < (x6_1.length : Int)
                            · rw [if_pos c56] at H
                              have c56b0 : decide (x8_1 < (x6_1.length : Int)) = true := decide_eq_true c56
                              clear c56
                              replace H := Option.bind_eq_some_iff.mp H
                              obtain ⟨⟨t228, t229⟩, A570, H⟩ := H
                              replace H : (if t229 = true then (skiarearef34_Add.l0 kj17 x6_1 (x7_1.set (x9_7 : Int).toNat (⟨(rd_T41 x7_1 x9_7).f0, t228⟩ : S41)) (wrap64 (x8_1 + 1))) else (some (([] : List (S41)), 12))) = some (r1, r2) := H
                              have A57 := Aside0.mk A570
                              clear A570
                              by_cases c58 : t229 = true
                              · subst c58
                                have H1 : (skiarearef34_Add.l0 kj17 x6_1 (x7_1.set (x9_7 : Int).toNat (⟨(rd_T41 x7_1 x9_7).f0, t228⟩ : S41)) (wrap64 (x8_1 + 1))) = some (r1, r2) := by rw [if_pos rfl] at H; exact H
                                clear H
                                have H := H1
                                clear H1
                                obtain ⟨y230, hy230⟩ : ∃ y_ : List (S41), y_ = (x7_1.set (x9_7 : Int).toNat (⟨(rd_T41 x7_1 x9_7).f0, t228⟩ : S41)) := ⟨_, rfl⟩
                                replace H : (skiarearef34_Add.l0 kj17 x6_1 y230 (wrap64 (x8_1 + 1))) = some (r1, r2) := by first | (rw [hy230]; with_reducible exact H) | (have H2_ := (Option.bind_some _ _).symm.trans H; rw [hy230]; with_reducible exact H2_) | (have H2_ := (Option.bind_some _ _).symm.trans H; with_reducible exact H2_) | with_reducible exact H | (rw [hy230]; exact H) | exact H
                                have Ny230 := Aside0.mk hy230
                                clear hy230
                                have H' := Aside0.mk H
                                clear H
                                obtain ⟨Ao60, co60, eo60⟩ := Kd.R_slice HO_7.out
                                subst eo60
                                have p226 : 0 ≤ (x9_7 : Int) := of_decide_eq_true (by first | (with_reducible assumption) | assumption)
                                have q226 : x9_7 < (x7_1.length : Int) := of_decide_eq_true (by first | (with_reducible assumption) | assumption)
                                obtain ⟨ad226, e226, hx226_0, hx226_1⟩ := at_T41 (Kd.R_reads' HO_7.out).2.2 x9_7 p226 q226
                                cases e226
                                replace p226 := eq_true p226
                                replace q226 := eq_true q226
                                have p227 : 0 ≤ (x8_1 : Int) := of_decide_eq_true (by first | (with_reducible assumption) | assumption)
                                have q227 : x8_1 < (x6_1.length : Int) := of_decide_eq_true (by first | (with_reducible assumption) | assumption)
                                obtain ⟨ad227, e227, hx227_0, hx227_1⟩ := at_T41 (Kd.R_reads' HO_6.out).2.2 x8_1 p227 q227
                                cases e227
                                replace p227 := eq_true p227
                                replace q227 := eq_true q227
                                go_wp2_with (first | (go_at_call 41; (with_reducible refine (skiarearef34_more.calls ((rd_T41 x7_1 x9_7).f1) ((rd_T41 x6_1 x8_1).f1) t228 true _ A57.out).mono ?_); rintro e w' ⟨rfl, ⟨nd, rfl⟩⟩; (try first | exact ⟨rfl, _, World.drewN_drewN _ _ _⟩ | exact ⟨rfl, _, Eq.trans (World.drewN_drewN _ _ _) (congrArg (World.drewN _) (Nat.add_assoc _ _ _))⟩); have p59 : 0 ≤ (x9_7 : Int) := of_decide_eq_true (by first | (with_reducible assumption) | assumption); have q59 : (x9_7 : Int) < ((x7_1.length : Int) : Int) := of_decide_eq_true (by first | (with_reducible assumption) | assumption); obtain ⟨go59, co59, eo59, gb59, gl59, cl59, HG59⟩ := Kd.R_form HO_7.out (by omega); (first | cases eo59 | (injection eo59 with ea_ en_ ec_; (first | subst ea_ | (injection ea_ with ea_; subst ea_)); subst ec_; clear en_)); have GB59 := Aside0.mk gb59; have GG59 := Aside0.mk HG59; clear gb59 gl59 HG59; (first | simp only [add_plain] at hx226_0 | skip); (first | simp only [add_plain] at hx226_1 | skip); obtain ⟨ce59, hcl59, hM59, hcc59, hfr59⟩ := Kd.R_elem HO_7.out z41 (x9_7 : Int) p59 q59; obtain rfl := k41_openM hM59; have hx59_0 : wc.cell? ⟨go59, (x9_7 : Int).toNat * 2, none⟩ = some (.int .i64 ((rd_T41 x7_1 x9_7).f0)) := hcc59 0 _ rfl; have hx59_1 : wc.cell? ⟨go59, (x9_7 : Int).toNat * 2 + 1, none⟩ = some (.int .i64 ((rd_T41 x7_1 x9_7).f1)) := hcc59 1 _ rfl; have hf59_0 : wc.frozen? ⟨go59, (x9_7 : Int).toNat * 2, none⟩ = false := hfr59 0; have hf59_1 : wc.frozen? ⟨go59, (x9_7 : Int).toNat * 2 + 1, none⟩ = false := hfr59 1; clear hcl59 hcc59 hfr59 hM59; replace p59 := eq_true p59; replace q59 := eq_true q59; have HX61 := Aside0.mk (show Kd.R k41 41 wc w.heap.size (fun k_ => some k_ ≠ (.slice (some ad227) x6_1.length co9 : Value).ownBlock) (.slice (some ⟨go59, 0, none⟩) x7_1.length co60) x7_1 from (by (with_reducible repeat (first | apply Kd.R_alloc | apply Kd.R_drewN | apply Kd.R_drew)); exact HO_7.out)); obtain ⟨ce61, hcl61, hM61, hcc61, hfr61⟩ := Kd.R_elem HX61.out z41 (x9_7 : Int) (of_decide_eq_true (by first | (with_reducible assumption) | assumption)) (by have h_ : (x9_7 : Int) < ((x7_1.length : Int) : Int) := of_decide_eq_true (by first | (with_reducible assumption) | assumption); first | exact h_ | (have e_ := (Kd.R_reads' HO_7.out).1; omega) | simpa using h_); obtain rfl := k41_openM hM61; have HP61 := Kd.R_seg HX61.out (x9_7 : Int) (of_decide_eq_true (by first | (with_reducible assumption) | assumption)) (by have h_ : (x9_7 : Int) < ((x7_1.length : Int) : Int) := of_decide_eq_true (by first | (with_reducible assumption) | assumption); first | exact h_ | (have e_ := (Kd.R_reads' HO_7.out).1; omega) | simpa using h_) (seg := [.int .i64 t228]) (j := 1) hcl61 hcc61 (show 2 ≤ 2 from by decide) (x' := (⟨(rd_T41 x7_1 x9_7).f0, t228⟩ : S41)) (k41_mkM _ _ _ (⟨(rd_T41 x7_1 x9_7).f0, t228⟩ : S41) ) (fun _ hk => hk); have hx61_1 := hcc61 1 _ rfl; (try simp only [show (k41).sz = 2 from rfl, Nat.mul_one, Nat.add_zero] at hx61_1); have hf61_1 := hfr61 1; (try simp only [show (k41).sz = 2 from rfl, Nat.mul_one, Nat.add_zero] at hf61_1); clear hcl61 hcc61 hfr61 hM61) | ((with_reducible refine gate_store (t := 3) (p := 110) rfl ?_); (try (rw [drewN_self wc]; generalize hq_ : World.drewN wc _ = wc; have n0_ := Aside0.mk (Kd.R_at hq_ HO_6.out); have n1_ := Aside0.mk (Kd.R_at hq_ HO_7.out); have n2_ := Aside0.mk (below_at hq_ HB.out); clear hq_ HO_6 HO_7 HB; have HO_6 := n0_; have HO_7 := n1_; have HB := n2_; clear n0_ n1_ n2_; (try (have HX61 := Aside0.mk (show Kd.R k41 41 wc w.heap.size (fun k_ => some k_ ≠ (.slice (some ad227) x6_1.length co9 : Value).ownBlock) (.slice (some ⟨go59, 0, none⟩) x7_1.length co60) x7_1 from (by (with_reducible repeat (first | apply Kd.R_alloc | apply Kd.R_drewN | apply Kd.R_drew)); exact HO_7.out)))); (try (obtain ⟨ce61, hcl61, hM61, hcc61, hfr61⟩ := Kd.R_elem HX61.out z41 (x9_7 : Int) (of_decide_eq_true (by first | (with_reducible assumption) | assumption)) (by have h_ : (x9_7 : Int) < ((x7_1.length : Int) : Int) := of_decide_eq_true (by first | (with_reducible assumption) | assumption); first | exact h_ | (have e_ := (Kd.R_reads' HO_7.out).1; omega) | simpa using h_))); (try (obtain rfl := k41_openM hM61)); (try (have HP61 := Kd.R_seg HX61.out (x9_7 : Int) (of_decide_eq_true (by first | (with_reducible assumption) | assumption)) (by have h_ : (x9_7 : Int) < ((x7_1.length : Int) : Int) := of_decide_eq_true (by first | (with_reducible assumption) | assumption); first | exact h_ | (have e_ := (Kd.R_reads' HO_7.out).1; omega) | simpa using h_) (seg := [.int .i64 t228]) (j := 1) hcl61 hcc61 (show 2 ≤ 2 from by decide) (x' := (⟨(rd_T41 x7_1 x9_7).f0, t228⟩ : S41)) (k41_mkM _ _ _ (⟨(rd_T41 x7_1 x9_7).f0, t228⟩ : S41) ) (fun _ hk => hk))); (try (have hx61_1 := hcc61 1 _ rfl)); (try (try simp only [show (k41).sz = 2 from rfl, Nat.mul_one, Nat.add_zero] at hx61_1)); (try (have hf61_1 := hfr61 1)); (try (try simp only [show (k41).sz = 2 from rfl, Nat.mul_one, Nat.add_zero] at hf61_1)); (try (clear hcl61 hcc61 hfr61 hM61)))); refine store_event (t := 3) (p := 110) (v := ?vo_w62) (w1 := (wc.setCell ⟨go59, (x9_7 : Int).toNat * 2 + 1, none⟩ (.int .i64 t228))) ?hg ?ho ?hn ?hr ?_; (case ho => rfl); (case hg => rfl); (case hn => rfl); (case hr => first | (go_simp; done) | (go_simp; rfl)); intro w62 hw; have hg : wc.grownBy w62 (some go59) := (by rw [hw]; exact HP61.2); have hp_ : Kd.R k41 41 w62 w.heap.size (fun k_ => some k_ ≠ (.slice (some ad227) x6_1.length co9 : Value).ownBlock) (.slice (some ⟨go59, 0, none⟩) x7_1.length co60) y230 := (by rw [hw, Ny230.out]; exact HP61.1); clear HP61; have n0_ := Aside0.mk (Kd.R_after (v := (.slice (some ⟨go59, 0, none⟩) x7_1.length co60)) (v1 := (.slice (some ⟨go59, 0, none⟩) x7_1.length co60)) (ok := (fun _ => True)) (by (with_reducible repeat (first | apply Kd.R_alloc | apply Kd.R_drewN | apply Kd.R_drew)); exact Kd.R_mono HO_6.out (fun _ hk => ⟨trivial, hk⟩)) hg (.inl rfl)); have n1_ := Aside0.mk (hp_); have n2_ := Aside0.mk ((by rw [hw]; exact below_set (HB.out) GB59.out : Below w.heap.size w w62)); clear HO_6; clear HO_7; clear HB; have HO_6 := n0_; have HO_7 := n1_; have HB := n2_; clear n0_ n1_ n2_; clear hg hw hp_))
                                repeat (go_quiet (first | (go_at_call 41; (with_reducible refine (skiarearef34_more.calls ((rd_T41 x7_1 x9_7).f1) ((rd_T41 x6_1 x8_1).f1) t228 true _ A57.out).mono ?_); rintro e w' ⟨rfl, ⟨nd, rfl⟩⟩; (try first | exact ⟨rfl, _, World.drewN_drewN _ _ _⟩ | exact ⟨rfl, _, Eq.trans (World.drewN_drewN _ _ _) (congrArg (World.drewN _) (Nat.add_assoc _ _ _))⟩); have p59 : 0 ≤ (x9_7 : Int) := of_decide_eq_true (by first | (with_reducible assumption) | assumption); have q59 : (x9_7 : Int) < ((x7_1.length : Int) : Int) := of_decide_eq_true (by first | (with_reducible assumption) | assumption); obtain ⟨go59, co59, eo59, gb59, gl59, cl59, HG59⟩ := Kd.R_form HO_7.out (by omega); (first | cases eo59 | (injection eo59 with ea_ en_ ec_; (first | subst ea_ | (injection ea_ with ea_; subst ea_)); subst ec_; clear en_)); have GB59 := Aside0.mk gb59; have GG59 := Aside0.mk HG59; clear gb59 gl59 HG59; (first | simp only [add_plain] at hx226_0 | skip); (first | simp only [add_plain] at hx226_1 | skip); obtain ⟨ce59, hcl59, hM59, hcc59, hfr59⟩ := Kd.R_elem HO_7.out z41 (x9_7 : Int) p59 q59; obtain rfl := k41_openM hM59; have hx59_0 : wc.cell? ⟨go59, (x9_7 : Int).toNat * 2, none⟩ = some (.int .i64 ((rd_T41 x7_1 x9_7).f0)) := hcc59 0 _ rfl; have hx59_1 : wc.cell? ⟨go59, (x9_7 : Int).toNat * 2 + 1, none⟩ = some (.int .i64 ((rd_T41 x7_1 x9_7).f1)) := hcc59 1 _ rfl; have hf59_0 : wc.frozen? ⟨go59, (x9_7 : Int).toNat * 2, none⟩ = false := hfr59 0; have hf59_1 : wc.frozen? ⟨go59, (x9_7 : Int).toNat * 2 + 1, none⟩ = false := hfr59 1; clear hcl59 hcc59 hfr59 hM59; replace p59 := eq_true p59; replace q59 := eq_true q59; have HX61 := Aside0.mk (show Kd.R k41 41 wc w.heap.size (fun k_ => some k_ ≠ (.slice (some ad227) x6_1.length co9 : Value).ownBlock) (.slice (some ⟨go59, 0, none⟩) x7_1.length co60) x7_1 from (by (with_reducible repeat (first | apply Kd.R_alloc | apply Kd.R_drewN | apply Kd.R_drew)); exact HO_7.out)); obtain ⟨ce61, hcl61, hM61, hcc61, hfr61⟩ := Kd.R_elem HX61.out z41 (x9_7 : Int) (of_decide_eq_true (by first | (with_reducible assumption) | assumption)) (by have h_ : (x9_7 : Int) < ((x7_1.length : Int) : Int) := of_decide_eq_true (by first | (with_reducible assumption) | assumption); first | exact h_ | (have e_ := (Kd.R_reads' HO_7.out).1; omega) | simpa using h_); obtain rfl := k41_openM hM61; have HP61 := Kd.R_seg HX61.out (x9_7 : Int) (of_decide_eq_true (by first | (with_reducible assumption) | assumption)) (by have h_ : (x9_7 : Int) < ((x7_1.length : Int) : Int) := of_decide_eq_true (by first | (with_reducible assumption) | assumption); first | exact h_ | (have e_ := (Kd.R_reads' HO_7.out).1; omega) | simpa using h_) (seg := [.int .i64 t228]) (j := 1) hcl61 hcc61 (show 2 ≤ 2 from by decide) (x' := (⟨(rd_T41 x7_1 x9_7).f0, t228⟩ : S41)) (k41_mkM _ _ _ (⟨(rd_T41 x7_1 x9_7).f0, t228⟩ : S41) ) (fun _ hk => hk); have hx61_1 := hcc61 1 _ rfl; (try simp only [show (k41).sz = 2 from rfl, Nat.mul_one, Nat.add_zero] at hx61_1); have hf61_1 := hfr61 1; (try simp only [show (k41).sz = 2 from rfl, Nat.mul_one, Nat.add_zero] at hf61_1); clear hcl61 hcc61 hfr61 hM61) | ((with_reducible refine gate_store (t := 3) (p := 110) rfl ?_); (try (rw [drewN_self wc]; generalize hq_ : World.drewN wc _ = wc; have n0_ := Aside0.mk (Kd.R_at hq_ HO_6.out); have n1_ := Aside0.mk (Kd.R_at hq_ HO_7.out); have n2_ := Aside0.mk (below_at hq_ HB.out); clear hq_ HO_6 HO_7 HB; have HO_6 := n0_; have HO_7 := n1_; have HB := n2_; clear n0_ n1_ n2_; (try (have HX61 := Aside0.mk (show Kd.R k41 41 wc w.heap.size (fun k_ => some k_ ≠ (.slice (some ad227) x6_1.length co9 : Value).ownBlock) (.slice (some ⟨go59, 0, none⟩) x7_1.length co60) x7_1 from (by (with_reducible repeat (first | apply Kd.R_alloc | apply Kd.R_drewN | apply Kd.R_drew)); exact HO_7.out)))); (try (obtain ⟨ce61, hcl61, hM61, hcc61, hfr61⟩ := Kd.R_elem HX61.out z41 (x9_7 : Int) (of_decide_eq_true (by first | (with_reducible assumption) | assumption)) (by have h_ : (x9_7 : Int) < ((x7_1.length : Int) : Int) := of_decide_eq_true (by first | (with_reducible assumption) | assumption); first | exact h_ | (have e_ := (Kd.R_reads' HO_7.out).1; omega) | simpa using h_))); (try (obtain rfl := k41_openM hM61)); (try (have HP61 := Kd.R_seg HX61.out (x9_7 : Int) (of_decide_eq_true (by first | (with_reducible assumption) | assumption)) (by have h_ : (x9_7 : Int) < ((x7_1.length : Int) : Int) := of_decide_eq_true (by first | (with_reducible assumption) | assumption); first | exact h_ | (have e_ := (Kd.R_reads' HO_7.out).1; omega) | simpa using h_) (seg := [.int .i64 t228]) (j := 1) hcl61 hcc61 (show 2 ≤ 2 from by decide) (x' := (⟨(rd_T41 x7_1 x9_7).f0, t228⟩ : S41)) (k41_mkM _ _ _ (⟨(rd_T41 x7_1 x9_7).f0, t228⟩ : S41) ) (fun _ hk => hk))); (try (have hx61_1 := hcc61 1 _ rfl)); (try (try simp only [show (k41).sz = 2 from rfl, Nat.mul_one, Nat.add_zero] at hx61_1)); (try (have hf61_1 := hfr61 1)); (try (try simp only [show (k41).sz = 2 from rfl, Nat.mul_one, Nat.add_zero] at hf61_1)); (try (clear hcl61 hcc61 hfr61 hM61)))); refine store_event (t := 3) (p := 110) (v := ?vo_w62) (w1 := (wc.setCell ⟨go59, (x9_7 : Int).toNat * 2 + 1, none⟩ (.int .i64 t228))) ?hg ?ho ?hn ?hr ?_; (case ho => rfl); (case hg => rfl); (case hn => rfl); (case hr => first | (go_simp; done) | (go_simp; rfl)); intro w62 hw; have hg : wc.grownBy w62 (some go59) := (by rw [hw]; exact HP61.2); have hp_ : Kd.R k41 41 w62 w.heap.size (fun k_ => some k_ ≠ (.slice (some ad227) x6_1.length co9 : Value).ownBlock) (.slice (some ⟨go59, 0, none⟩) x7_1.length co60) y230 := (by rw [hw, Ny230.out]; exact HP61.1); clear HP61; have n0_ := Aside0.mk (Kd.R_after (v := (.slice (some ⟨go59, 0, none⟩) x7_1.length co60)) (v1 := (.slice (some ⟨go59, 0, none⟩) x7_1.length co60)) (ok := (fun _ => True)) (by (with_reducible repeat (first | apply Kd.R_alloc | apply Kd.R_drewN | apply Kd.R_drew)); exact Kd.R_mono HO_6.out (fun _ hk => ⟨trivial, hk⟩)) hg (.inl rfl)); have n1_ := Aside0.mk (hp_); have n2_ := Aside0.mk ((by rw [hw]; exact below_set (HB.out) GB59.out : Below w.heap.size w w62)); clear HO_6; clear HO_7; clear HB; have HO_6 := n0_; have HO_7 := n1_; have HB := n2_; clear n0_ n1_ n2_; clear hg hw hp_)); try go_wp2_with (first | (go_at_call 41; (with_reducible refine (skiarearef34_more.calls ((rd_T41 x7_1 x9_7).f1) ((rd_T41 x6_1 x8_1).f1) t228 true _ A57.out).mono ?_); rintro e w' ⟨rfl, ⟨nd, rfl⟩⟩; (try first | exact ⟨rfl, _, World.drewN_drewN _ _ _⟩ | exact ⟨rfl, _, Eq.trans (World.drewN_drewN _ _ _) (congrArg (World.drewN _) (Nat.add_assoc _ _ _))⟩); have p59 : 0 ≤ (x9_7 : Int) := of_decide_eq_true (by first | (with_reducible assumption) | assumption); have q59 : (x9_7 : Int) < ((x7_1.length : Int) : Int) := of_decide_eq_true (by first | (with_reducible assumption) | assumption); obtain ⟨go59, co59, eo59, gb59, gl59, cl59, HG59⟩ := Kd.R_form HO_7.out (by omega); (first | cases eo59 | (injection eo59 with ea_ en_ ec_; (first | subst ea_ | (injection ea_ with ea_; subst ea_)); subst ec_; clear en_)); have GB59 := Aside0.mk gb59; have GG59 := Aside0.mk HG59; clear gb59 gl59 HG59; (first | simp only [add_plain] at hx226_0 | skip); (first | simp only [add_plain] at hx226_1 | skip); obtain ⟨ce59, hcl59, hM59, hcc59, hfr59⟩ := Kd.R_elem HO_7.out z41 (x9_7 : Int) p59 q59; obtain rfl := k41_openM hM59; have hx59_0 : wc.cell? ⟨go59, (x9_7 : Int).toNat * 2, none⟩ = some (.int .i64 ((rd_T41 x7_1 x9_7).f0)) := hcc59 0 _ rfl; have hx59_1 : wc.cell? ⟨go59, (x9_7 : Int).toNat * 2 + 1, none⟩ = some (.int .i64 ((rd_T41 x7_1 x9_7).f1)) := hcc59 1 _ rfl; have hf59_0 : wc.frozen? ⟨go59, (x9_7 : Int).toNat * 2, none⟩ = false := hfr59 0; have hf59_1 : wc.frozen? ⟨go59, (x9_7 : Int).toNat * 2 + 1, none⟩ = false := hfr59 1; clear hcl59 hcc59 hfr59 hM59; replace p59 := eq_true p59; replace q59 := eq_true q59; have HX61 := Aside0.mk (show Kd.R k41 41 wc w.heap.size (fun k_ => some k_ ≠ (.slice (some ad227) x6_1.length co9 : Value).ownBlock) (.slice (some ⟨go59, 0, none⟩) x7_1.length co60) x7_1 from (by (with_reducible repeat (first | apply Kd.R_alloc | apply Kd.R_drewN | apply Kd.R_drew)); exact HO_7.out)); obtain ⟨ce61, hcl61, hM61, hcc61, hfr61⟩ := Kd.R_elem HX61.out z41 (x9_7 : Int) (of_decide_eq_true (by first | (with_reducible assumption) | assumption)) (by have h_ : (x9_7 : Int) < ((x7_1.length : Int) : Int) := of_decide_eq_true (by first | (with_reducible assumption) | assumption); first | exact h_ | (have e_ := (Kd.R_reads' HO_7.out).1; omega) | simpa using h_); obtain rfl := k41_openM hM61; have HP61 := Kd.R_seg HX61.out (x9_7 : Int) (of_decide_eq_true (by first | (with_reducible assumption) | assumption)) (by have h_ : (x9_7 : Int) < ((x7_1.length : Int) : Int) := of_decide_eq_true (by first | (with_reducible assumption) | assumption); first | exact h_ | (have e_ := (Kd.R_reads' HO_7.out).1; omega) | simpa using h_) (seg := [.int .i64 t228]) (j := 1) hcl61 hcc61 (show 2 ≤ 2 from by decide) (x' := (⟨(rd_T41 x7_1 x9_7).f0, t228⟩ : S41)) (k41_mkM _ _ _ (⟨(rd_T41 x7_1 x9_7).f0, t228⟩ : S41) ) (fun _ hk => hk); have hx61_1 := hcc61 1 _ rfl; (try simp only [show (k41).sz = 2 from rfl, Nat.mul_one, Nat.add_zero] at hx61_1); have hf61_1 := hfr61 1; (try simp only [show (k41).sz = 2 from rfl, Nat.mul_one, Nat.add_zero] at hf61_1); clear hcl61 hcc61 hfr61 hM61) | ((with_reducible refine gate_store (t := 3) (p := 110) rfl ?_); (try (rw [drewN_self wc]; generalize hq_ : World.drewN wc _ = wc; have n0_ := Aside0.mk (Kd.R_at hq_ HO_6.out); have n1_ := Aside0.mk (Kd.R_at hq_ HO_7.out); have n2_ := Aside0.mk (below_at hq_ HB.out); clear hq_ HO_6 HO_7 HB; have HO_6 := n0_; have HO_7 := n1_; have HB := n2_; clear n0_ n1_ n2_; (try (have HX61 := Aside0.mk (show Kd.R k41 41 wc w.heap.size (fun k_ => some k_ ≠ (.slice (some ad227) x6_1.length co9 : Value).ownBlock) (.slice (some ⟨go59, 0, none⟩) x7_1.length co60) x7_1 from (by (with_reducible repeat (first | apply Kd.R_alloc | apply Kd.R_drewN | apply Kd.R_drew)); exact HO_7.out)))); (try (obtain ⟨ce61, hcl61, hM61, hcc61, hfr61⟩ := Kd.R_elem HX61.out z41 (x9_7 : Int) (of_decide_eq_true (by first | (with_reducible assumption) | assumption)) (by have h_ : (x9_7 : Int) < ((x7_1.length : Int) : Int) := of_decide_eq_true (by first | (with_reducible assumption) | assumption); first | exact h_ | (have e_ := (Kd.R_reads' HO_7.out).1; omega) | simpa using h_))); (try (obtain rfl := k41_openM hM61)); (try (have HP61 := Kd.R_seg HX61.out (x9_7 : Int) (of_decide_eq_true (by first | (with_reducible assumption) | assumption)) (by have h_ : (x9_7 : Int) < ((x7_1.length : Int) : Int) := of_decide_eq_true (by first | (with_reducible assumption) | assumption); first | exact h_ | (have e_ := (Kd.R_reads' HO_7.out).1; omega) | simpa using h_) (seg := [.int .i64 t228]) (j := 1) hcl61 hcc61 (show 2 ≤ 2 from by decide) (x' := (⟨(rd_T41 x7_1 x9_7).f0, t228⟩ : S41)) (k41_mkM _ _ _ (⟨(rd_T41 x7_1 x9_7).f0, t228⟩ : S41) ) (fun _ hk => hk))); (try (have hx61_1 := hcc61 1 _ rfl)); (try (try simp only [show (k41).sz = 2 from rfl, Nat.mul_one, Nat.add_zero] at hx61_1)); (try (have hf61_1 := hfr61 1)); (try (try simp only [show (k41).sz = 2 from rfl, Nat.mul_one, Nat.add_zero] at hf61_1)); (try (clear hcl61 hcc61 hfr61 hM61)))); refine store_event (t := 3) (p := 110) (v := ?vo_w62) (w1 := (wc.setCell ⟨go59, (x9_7 : Int).toNat * 2 + 1, none⟩ (.int .i64 t228))) ?hg ?ho ?hn ?hr ?_; (case ho => rfl); (case hg => rfl); (case hn => rfl); (case hr => first | (go_simp; done) | (go_simp; rfl)); intro w62 hw; have hg : wc.grownBy w62 (some go59) := (by rw [hw]; exact HP61.2); have hp_ : Kd.R k41 41 w62 w.heap.size (fun k_ => some k_ ≠ (.slice (some ad227) x6_1.length co9 : Value).ownBlock) (.slice (some ⟨go59, 0, none⟩) x7_1.length co60) y230 := (by rw [hw, Ny230.out]; exact HP61.1); clear HP61; have n0_ := Aside0.mk (Kd.R_after (v := (.slice (some ⟨go59, 0, none⟩) x7_1.length co60)) (v1 := (.slice (some ⟨go59, 0, none⟩) x7_1.length co60)) (ok := (fun _ => True)) (by (with_reducible repeat (first | apply Kd.R_alloc | apply Kd.R_drewN | apply Kd.R_drew)); exact Kd.R_mono HO_6.out (fun _ hk => ⟨trivial, hk⟩)) hg (.inl rfl)); have n1_ := Aside0.mk (hp_); have n2_ := Aside0.mk ((by rw [hw]; exact below_set (HB.out) GB59.out : Below w.heap.size w w62)); clear HO_6; clear HO_7; clear HB; have HO_6 := n0_; have HO_7 := n1_; have HB := n2_; clear n0_ n1_ n2_; clear hg hw hp_)))
                                go_roundg kj17
                                case measure => have := HK1.out; have := HJ7.out; have := HJ17.out; omega
                                case rel => exact ⟨(x6_1), (y230), (wrap64 (x8_1 + 1)), (by first | rfl | (simp; done) | (simp [*]; done)), H', ⟨by have := HK1.out; have := HJ7.out; have := HJ17.out; omega⟩, ⟨by (with_reducible repeat (first | apply Kd.R_alloc | apply Kd.R_drewN | apply Kd.R_drew)); exact Kd.R_mono HO_6.out (fun _ hk => hk.2)⟩, ⟨by (with_reducible repeat (first | apply Kd.R_alloc | apply Kd.R_drewN | apply Kd.R_drew)); exact HO_7.out⟩, ⟨by repeat (first | (with_reducible first | exact HB.out | apply below_alloc | apply pw_below_drewN | apply below_drew1) | exact HB.out)⟩⟩
                              · replace c58 := Bool.eq_false_iff.mpr c58
                                subst c58
                                have H1 : (some (([] : List (S41)), 12)) = some (r1, r2) := by rw [if_neg (show ¬ (false = true) by decide)] at H; exact H
                                clear H
                                have H := H1
                                clear H1
                                simp only [Option.some.injEq, Prod.mk.injEq] at H
                                obtain ⟨rfl, rfl⟩ := H
                                obtain ⟨Ao63, co63, eo63⟩ := Kd.R_slice HO_7.out
                                subst eo63
                                have p226 : 0 ≤ (x9_7 : Int) := of_decide_eq_true (by first | (with_reducible assumption) | assumption)
                                have q226 : x9_7 < (x7_1.length : Int) := of_decide_eq_true (by first | (with_reducible assumption) | assumption)
                                obtain ⟨ad226, e226, hx226_0, hx226_1⟩ := at_T41 (Kd.R_reads' HO_7.out).2.2 x9_7 p226 q226
                                cases e226
                                replace p226 := eq_true p226
                                replace q226 := eq_true q226
                                have p227 : 0 ≤ (x8_1 : Int) := of_decide_eq_true (by first | (with_reducible assumption) | assumption)
                                have q227 : x8_1 < (x6_1.length : Int) := of_decide_eq_true (by first | (with_reducible assumption) | assumption)
                                obtain ⟨ad227, e227, hx227_0, hx227_1⟩ := at_T41 (Kd.R_reads' HO_6.out).2.2 x8_1 p227 q227
                                cases e227
                                replace p227 := eq_true p227
                                replace q227 := eq_true q227
                                go_wp2_with (first | (go_at_call 41; (with_reducible refine (skiarearef34_more.calls ((rd_T41 x7_1 x9_7).f1) ((rd_T41 x6_1 x8_1).f1) t228 false _ A57.out).mono ?_); rintro e w' ⟨rfl, ⟨nd, rfl⟩⟩; (try first | exact ⟨rfl, _, World.drewN_drewN _ _ _⟩ | exact ⟨rfl, _, Eq.trans (World.drewN_drewN _ _ _) (congrArg (World.drewN _) (Nat.add_assoc _ _ _))⟩)))
                                repeat (go_quiet (first | (go_at_call 41; (with_reducible refine (skiarearef34_more.calls ((rd_T41 x7_1 x9_7).f1) ((rd_T41 x6_1 x8_1).f1) t228 false _ A57.out).mono ?_); rintro e w' ⟨rfl, ⟨nd, rfl⟩⟩; (try first | exact ⟨rfl, _, World.drewN_drewN _ _ _⟩ | exact ⟨rfl, _, Eq.trans (World.drewN_drewN _ _ _) (congrArg (World.drewN _) (Nat.add_assoc _ _ _))⟩))); try go_wp2_with (first | (go_at_call 41; (with_reducible refine (skiarearef34_more.calls ((rd_T41 x7_1 x9_7).f1) ((rd_T41 x6_1 x8_1).f1) t228 false _ A57.out).mono ?_); rintro e w' ⟨rfl, ⟨nd, rfl⟩⟩; (try first | exact ⟨rfl, _, World.drewN_drewN _ _ _⟩ | exact ⟨rfl, _, Eq.trans (World.drewN_drewN _ _ _) (congrArg (World.drewN _) (Nat.add_assoc _ _ _))⟩))))
                                go_ret2
                                exact ⟨_, by first | rfl | (simp [errW_none, errW_some] <;> rfl) | (simp [*, errW_none, errW_some] <;> rfl), by first | exact Kd.R_nil _ _ _ _ _ | exact Kd.N_nil _ _ _ _ _ | exact Kd.V_nil _ _ _ _ _ | exact Kd.Q_nil _ _ _ _ _ | exact Kd.S_nil _ _ _ _ _, by repeat (first | (with_reducible first | exact HB.out | apply below_alloc | apply pw_below_drewN | apply below_drew1) | exact HB.out)⟩
                            · rw [if_neg c56] at H
                              exact absurd H (by simp)
                          · rw [if_neg c55] at H
                            exact absurd H (by simp)
                        · rw [if_neg c54] at H
                          exact absurd H (by simp)
                      · rw [if_neg c53] at H
                        exact absurd H (by simp)
          · rw [if_neg c7] at H
            have c7b0 : decide (x8_1 < (x6_1.length : Int)) = false := decide_eq_false c7
            clear c7
            have H' := Aside0.mk H
            clear H
            obtain ⟨Ao64, co64, eo64⟩ := Kd.R_slice HO_6.out
            subst eo64
            go_wp2
            repeat (go_quiet (fail); try go_wp2)
            go_loopg [13, 14] k1 (fun kq v13 v14 w' => ∃ (x13_2 : List (S41)) (x14_2 : Int), v14 = .int .i64 x14_2 ∧ Aside0 (skiarearef34_Add.l3 kq x7_1 x13_2 x14_2 = some (r1, r2)) ∧ Aside0 (kq ≤ k1) ∧ Aside0 (Kd.R k41 41 w' w.heap.size (fun k_ => some k_ ≠ (v13 : Value).ownBlock) u7 x7_1) ∧ Aside0 (Kd.R k41 41 w' w.heap.size (fun k_ => some k_ ≠ (u7 : Value).ownBlock) v13 x13_2) ∧ Aside0 (Below w.heap.size w w'))
            case atStart => exact ⟨(([] : List (S41))), (0), (by first | rfl | (simp; done) | (simp [*]; done)), H', ⟨Nat.le_refl _⟩, ⟨by (with_reducible repeat (first | apply Kd.R_alloc | apply Kd.R_drewN | apply Kd.R_drew)); exact Kd.R_mono HO_7.out (fun _ hk => (by simp [Value.ownBlock]))⟩, ⟨by first | exact Kd.R_nil _ _ _ _ _ | exact Kd.N_nil _ _ _ _ _ | exact Kd.V_nil _ _ _ _ _ | exact Kd.Q_nil _ _ _ _ _ | exact Kd.S_nil _ _ _ _ _⟩, ⟨by repeat (first | (with_reducible first | exact HB.out | apply below_alloc | apply pw_below_drewN | apply below_drew1) | exact HB.out)⟩⟩
            case round =>
              clear H'
              try clear c1
              try clear c2
              try clear p2
              try clear q2
              try clear hx2
              try clear c3
              try clear p3
              try clear q3
              try clear hx3
              try clear hf3
              try clear c4
              try clear p4
              try clear q4
              try clear hx4
              try clear hf4
              try clear c5
              try clear p5
              try clear q5
              try clear hx5
              try clear hf5
              try clear c6
              try clear p6
              try clear hx6
              try clear hf6
              try clear c7
              try clear c7b0
              try clear c10
              try clear c10b0
              try clear c11
              try clear c11b0
              try clear c12
              try clear c12b0
              try clear c13
              try clear c13b0
              try clear c14
              try clear c14b0
              try clear c19
              try clear c19b0
              try clear c19b1
              try clear c21
              try clear c21b0
              try clear p21
              try clear q21
              try clear hx21
              try clear c22
              try clear c22b0
              try clear p22
              try clear q22
              try clear hx22
              try clear c23
              try clear c23b0
              try clear c24
              try clear c24b0
              try clear c26
              try clear c27
              try clear c30
              try clear c30b0
              try clear c32
              try clear c32b0
              try clear c33
              try clear c33b0
              try clear c34
              try clear c34b0
              try clear c35
              try clear c35b0
              try clear c36
              try clear p36
              try clear q36
              try clear hx36
              try clear hf36
              try clear c37
              try clear hx37
              try clear hf37
              try clear c39
              try clear c39b0
              try clear c40
              try clear c40b0
              try clear c41
              try clear c41b0
              try clear c42
              try clear c42b0
              try clear c43
              try clear p43
              try clear q43
              try clear hx43
              try clear hf43
              try clear c45
              try clear c46
              try clear p46
              try clear q46
              try clear hx46
              try clear hf46
              try clear c47
              try clear hx47
              try clear hf47
              try clear c49
              try clear hx49
              try clear hf49
              try clear c51
              try clear hx51
              try clear hf51
              try clear c53
              try clear c53b0
              try clear c54
              try clear c54b0
              try clear c55
              try clear c55b0
              try clear c56
              try clear c56b0
              try clear c58
              try clear c59
              try clear p59
              try clear q59
              try clear hx59
              try clear hf59
              try clear c61
              try clear hx61
              try clear hf61
              try clear p64
              try clear hx210_0
              try clear hx210_1
              try clear hx211_0
              try clear hx211_1
              try clear hx212_0
              try clear hx212_1
              try clear hx213_0
              try clear hx213_1
              try clear hx217_0
              try clear hx217_1
              try clear hx219_0
              try clear hx219_1
              try clear hx221_0
              try clear hx221_1
              try clear hx222_0
              try clear hx222_1
              try clear hx226_0
              try clear hx226_1
              try clear hx227_0
              try clear hx227_1
              try clear hx36_0
              try clear hx36_1
              try clear hx37_0
              try clear hx37_1
              try clear hx43_0
              try clear hx43_1
              try clear hx46_0
              try clear hx46_1
              try clear hx47_0
              try clear hx47_1
              try clear hx49_1
              try clear hx51_0
              try clear hx51_1
              try clear hx59_0
              try clear hx59_1
              try clear hx61_1
              try clear p2
              try clear p21
              try clear p210
              try clear p211
              try clear p212
              try clear p213
              try clear p217
              try clear p219
              try clear p221
              try clear p222
              try clear p226
              try clear p227
              try clear p36
              try clear p43
              try clear p46
              try clear p59
              try clear p6
              try clear q2
              try clear q21
              try clear q210
              try clear q211
              try clear q212
              try clear q213
              try clear q217
              try clear q219
              try clear q221
              try clear q222
              try clear q226
              try clear q227
              try clear q36
              try clear q43
              try clear q46
              try clear q59
              obtain ⟨x13_2, x14_2, rfl, HA, HK2, HO_7, HO_13, HB⟩ := hrel
              cases gk with
              | zero => exact absurd HA.out (by simp [skiarearef34_Add.l3])
              | succ k2 =>
                have H := HA.out
                clear HA
                simp only [skiarearef34_Add.l3] at H
                by_cases c65 : x14_2 < (x7_1.length : Int)
                · rw [if_pos c65] at H
                  have c65b0 : decide (x14_2 < (x7_1.length : Int)) = true := decide_eq_true c65
                  clear c65
                  by_cases c66 : 0 ≤ x14_2
                  · rw [if_pos c66] at H
                    have c66b0 : decide (0 ≤ x14_2) = true := decide_eq_true c66
                    clear c66
                    by_cases c67 : ((rd_T41 x7_1 x14_2).f1) = 0
                    · rw [if_pos c67] at H
                      have c67b0 : (((rd_T41 x7_1 x14_2).f1) == 0) = true := beq_iff_eq.mpr c67
                      have c67b1 : (((rd_T41 x7_1 x14_2).f1) != 0) = false := bne_eq_false_iff_eq.mpr c67
                      clear c67
                      have H' := Aside0.mk H
                      clear H
                      obtain ⟨Ao68, co68, eo68⟩ := Kd.R_slice HO_7.out
                      subst eo68
                      have p231 : 0 ≤ (x14_2 : Int) := of_decide_eq_true (by first | (with_reducible assumption) | assumption)
                      have q231 : x14_2 < (x7_1.length : Int) := of_decide_eq_true (by first | (with_reducible assumption) | assumption)
                      obtain ⟨ad231, e231, hx231_0, hx231_1⟩ := at_T41 (Kd.R_reads' HO_7.out).2.2 x14_2 p231 q231
                      cases e231
                      replace p231 := eq_true p231
                      replace q231 := eq_true q231
                      go_wp2
                      repeat (go_quiet (fail); try go_wp2)
                      go_roundg k2
                      case measure => have := HK1.out; have := HK2.out; omega
                      case rel => exact ⟨(x13_2), (wrap64 (x14_2 + 1)), (by first | rfl | (simp; done) | (simp [*]; done)), H', ⟨by have := HK1.out; have := HK2.out; omega⟩, ⟨by (with_reducible repeat (first | apply Kd.R_alloc | apply Kd.R_drewN | apply Kd.R_drew)); exact HO_7.out⟩, ⟨by (with_reducible repeat (first | apply Kd.R_alloc | apply Kd.R_drewN | apply Kd.R_drew)); exact HO_13.out⟩, ⟨by repeat (first | (with_reducible first | exact HB.out | apply below_alloc | apply pw_below_drewN | apply below_drew1) | exact HB.out)⟩⟩
                    · rw [if_neg c67] at H
                      have c67b0 : (((rd_T41 x7_1 x14_2).f1) == 0) = false := beq_eq_false_iff_ne.mpr c67
                      have c67b1 : (((rd_T41 x7_1 x14_2).f1) != 0) = true := bne_iff_ne.mpr c67
                      by_cases c69 : x13_2.length < 8796093022208
                      · rw [if_pos c69] at H
                        have LMc69 := Aside0.mk c69
                        clear c69
                        obtain ⟨y233, hy233⟩ : ∃ y_ : List (S41), y_ = (x13_2 ++ [(⟨(rd_T41 x7_1 x14_2).f0, (rd_T41 x7_1 x14_2).f1⟩ : S41)]) := ⟨_, rfl⟩
                        replace H : (skiarearef34_Add.l3 k2 x7_1 y233 (wrap64 (x14_2 + 1))) = some (r1, r2) := by first | (rw [hy233]; with_reducible exact H) | (have H2_ := (Option.bind_some _ _).symm.trans H; rw [hy233]; with_reducible exact H2_) | (have H2_ := (Option.bind_some _ _).symm.trans H; with_reducible exact H2_) | with_reducible exact H | (rw [hy233]; exact H) | exact H
                        have Ny233 := Aside0.mk hy233
                        clear hy233
                        have H' := Aside0.mk H
                        clear H
                        obtain ⟨Ao70, co70, eo70⟩ := Kd.R_slice HO_7.out
                        subst eo70
                        have p231 : 0 ≤ (x14_2 : Int) := of_decide_eq_true (by first | (with_reducible assumption) | assumption)
                        have q231 : x14_2 < (x7_1.length : Int) := of_decide_eq_true (by first | (with_reducible assumption) | assumption)
                        obtain ⟨ad231, e231, hx231_0, hx231_1⟩ := at_T41 (Kd.R_reads' HO_7.out).2.2 x14_2 p231 q231
                        cases e231
                        replace p231 := eq_true p231
                        replace q231 := eq_true q231
                        have p232 : 0 ≤ (x14_2 : Int) := of_decide_eq_true (by first | (with_reducible assumption) | assumption)
                        have q232 : x14_2 < (x7_1.length : Int) := of_decide_eq_true (by first | (with_reducible assumption) | assumption)
                        obtain ⟨ad232, e232, hx232_0, hx232_1⟩ := at_T41 (Kd.R_reads' HO_7.out).2.2 x14_2 p232 q232
                        obtain rfl : ad231 = ad232 := (by injection e232)
                        replace p232 := eq_true p232
                        replace q232 := eq_true q232
                        go_wp2_with (first | ((with_reducible refine gate_builtin (b := .append) (xs := #[.tmp 123, .tmp 128]) rfl ?_); at_builtin; refine Kd.R_append k41 (w0 := w) w.heap.size rfl (.tmp 123) (.tmp 128) 32 41 (.agg #[(.int .i64 0), (.int .i64 0)]) 16 rfl Try.underlying32 info41 rfl (by decide) (by omega) u13 x13_2 (⟨(rd_T41 x7_1 x14_2).f0, (rd_T41 x7_1 x14_2).f1⟩ : S41) [.int .i64 ((rd_T41 x7_1 x14_2).f0), .int .i64 ((rd_T41 x7_1 x14_2).f1)] (fun k_ => some k_ ≠ (.slice (some ad231) x7_1.length co70 : Value).ownBlock) (fun _ => False) rfl rfl ?aP (fun _ hk => hk.elim) ?aF ?aO ?aB ?aS ?aL ?_; (case aP => exact k41_mkM _ _ _ (⟨(rd_T41 x7_1 x14_2).f0, (rd_T41 x7_1 x14_2).f1⟩ : S41)); (case aB => exact (by repeat (first | (with_reducible first | exact HB.out | apply below_alloc | apply pw_below_drewN | apply below_drew1) | exact HB.out))); (case aF => exact (fun k_ hk => Kd.fresh' (Kd.R_lt (by (with_reducible repeat (first | apply Kd.R_alloc | apply Kd.R_drewN | apply Kd.R_drew)); exact HO_7.out)) k_ hk)); (case aO => exact (by (with_reducible repeat (first | apply Kd.R_alloc | apply Kd.R_drewN | apply Kd.R_drew)); exact HO_13.out)); (case aS => exact (below_size (by repeat (first | (with_reducible first | exact HB.out | apply below_alloc | apply pw_below_drewN | apply below_drew1) | exact HB.out)))); (case aL => have := LMc69.out; omega); intro v234 w71 ho hb hg hat; rw [← Ny233.out] at ho; have n0_ := Aside0.mk (Kd.R_after (ok := (fun _ => True)) (by (with_reducible repeat (first | apply Kd.R_alloc | apply Kd.R_drewN | apply Kd.R_drew)); exact Kd.R_mono HO_7.out (fun _ hk => ⟨trivial, hk⟩)) hg hat); have n1_ := Aside0.mk (hb); have n2_ := Aside0.mk (ho); clear HO_7; clear HB; clear HO_13; have HO_7 := n0_; have HB := n1_; have HO235 := n2_; clear n0_ n1_ n2_; clear ho hb hg hat))
                        repeat (go_quiet (first | ((with_reducible refine gate_builtin (b := .append) (xs := #[.tmp 123, .tmp 128]) rfl ?_); at_builtin; refine Kd.R_append k41 (w0 := w) w.heap.size rfl (.tmp 123) (.tmp 128) 32 41 (.agg #[(.int .i64 0), (.int .i64 0)]) 16 rfl Try.underlying32 info41 rfl (by decide) (by omega) u13 x13_2 (⟨(rd_T41 x7_1 x14_2).f0, (rd_T41 x7_1 x14_2).f1⟩ : S41) [.int .i64 ((rd_T41 x7_1 x14_2).f0), .int .i64 ((rd_T41 x7_1 x14_2).f1)] (fun k_ => some k_ ≠ (.slice (some ad231) x7_1.length co70 : Value).ownBlock) (fun _ => False) rfl rfl ?aP (fun _ hk => hk.elim) ?aF ?aO ?aB ?aS ?aL ?_; (case aP => exact k41_mkM _ _ _ (⟨(rd_T41 x7_1 x14_2).f0, (rd_T41 x7_1 x14_2).f1⟩ : S41)); (case aB => exact (by repeat (first | (with_reducible first | exact HB.out | apply below_alloc | apply pw_below_drewN | apply below_drew1) | exact HB.out))); (case aF => exact (fun k_ hk => Kd.fresh' (Kd.R_lt (by (with_reducible repeat (first | apply Kd.R_alloc | apply Kd.R_drewN | apply Kd.R_drew)); exact HO_7.out)) k_ hk)); (case aO => exact (by (with_reducible repeat (first | apply Kd.R_alloc | apply Kd.R_drewN | apply Kd.R_drew)); exact HO_13.out)); (case aS => exact (below_size (by repeat (first | (with_reducible first | exact HB.out | apply below_alloc | apply pw_below_drewN | apply below_drew1) | exact HB.out)))); (case aL => have := LMc69.out; omega); intro v234 w71 ho hb hg hat; rw [← Ny233.out] at ho; have n0_ := Aside0.mk (Kd.R_after (ok := (fun _ => True)) (by (with_reducible repeat (first | apply Kd.R_alloc | apply Kd.R_drewN | apply Kd.R_drew)); exact Kd.R_mono HO_7.out (fun _ hk => ⟨trivial, hk⟩)) hg hat); have n1_ := Aside0.mk (hb); have n2_ := Aside0.mk (ho); clear HO_7; clear HB; clear HO_13; have HO_7 := n0_; have HB := n1_; have HO235 := n2_; clear n0_ n1_ n2_; clear ho hb hg hat)); try go_wp2_with (first | ((with_reducible refine gate_builtin (b := .append) (xs := #[.tmp 123, .tmp 128]) rfl ?_); at_builtin; refine Kd.R_append k41 (w0 := w) w.heap.size rfl (.tmp 123) (.tmp 128) 32 41 (.agg #[(.int .i64 0), (.int .i64 0)]) 16 rfl Try.underlying32 info41 rfl (by decide) (by omega) u13 x13_2 (⟨(rd_T41 x7_1 x14_2).f0, (rd_T41 x7_1 x14_2).f1⟩ : S41) [.int .i64 ((rd_T41 x7_1 x14_2).f0), .int .i64 ((rd_T41 x7_1 x14_2).f1)] (fun k_ => some k_ ≠ (.slice (some ad231) x7_1.length co70 : Value).ownBlock) (fun _ => False) rfl rfl ?aP (fun _ hk => hk.elim) ?aF ?aO ?aB ?aS ?aL ?_; (case aP => exact k41_mkM _ _ _ (⟨(rd_T41 x7_1 x14_2).f0, (rd_T41 x7_1 x14_2).f1⟩ : S41)); (case aB => exact (by repeat (first | (with_reducible first | exact HB.out | apply below_alloc | apply pw_below_drewN | apply below_drew1) | exact HB.out))); (case aF => exact (fun k_ hk => Kd.fresh' (Kd.R_lt (by (with_reducible repeat (first | apply Kd.R_alloc | apply Kd.R_drewN | apply Kd.R_drew)); exact HO_7.out)) k_ hk)); (case aO => exact (by (with_reducible repeat (first | apply Kd.R_alloc | apply Kd.R_drewN | apply Kd.R_drew)); exact HO_13.out)); (case aS => exact (below_size (by repeat (first | (with_reducible first | exact HB.out | apply below_alloc | apply pw_below_drewN | apply below_drew1) | exact HB.out)))); (case aL => have := LMc69.out; omega); intro v234 w71 ho hb hg hat; rw [← Ny233.out] at ho; have n0_ := Aside0.mk (Kd.R_after (ok := (fun _ => True)) (by (with_reducible repeat (first | apply Kd.R_alloc | apply Kd.R_drewN | apply Kd.R_drew)); exact Kd.R_mono HO_7.out (fun _ hk => ⟨trivial, hk⟩)) hg hat); have n1_ := Aside0.mk (hb); have n2_ := Aside0.mk (ho); clear HO_7; clear HB; clear HO_13; have HO_7 := n0_; have HB := n1_; have HO235 := n2_; clear n0_ n1_ n2_; clear ho hb hg hat)))
                        go_roundg k2
                        case measure => have := HK1.out; have := HK2.out; omega
                        case rel => exact ⟨(y233), (wrap64 (x14_2 + 1)), (by first | rfl | (simp; done) | (simp [*]; done)), H', ⟨by have := HK1.out; have := HK2.out; omega⟩, ⟨by (with_reducible repeat (first | apply Kd.R_alloc | apply Kd.R_drewN | apply Kd.R_drew)); exact Kd.R_mono HO_7.out (fun _ hk => hk.2)⟩, ⟨by (with_reducible repeat (first | apply Kd.R_alloc | apply Kd.R_drewN | apply Kd.R_drew)); exact HO235.out⟩, ⟨by repeat (first | (with_reducible first | exact HB.out | apply below_alloc | apply pw_below_drewN | apply below_drew1) | exact HB.out)⟩⟩
                      · rw [if_neg c69] at H
                        exact absurd H (by simp)
                  · rw [if_neg c66] at H
                    exact absurd H (by simp)
                · rw [if_neg c65] at H
                  have c65b0 : decide (x14_2 < (x7_1.length : Int)) = false := decide_eq_false c65
                  clear c65
                  simp only [Option.some.injEq, Prod.mk.injEq] at H
                  obtain ⟨rfl, rfl⟩ := H
                  obtain ⟨Ao72, co72, eo72⟩ := Kd.R_slice HO_7.out
                  subst eo72
                  go_wp2
                  repeat (go_quiet (fail); try go_wp2)
                  go_ret2
                  exact ⟨_, by first | rfl | (simp [errW_none, errW_some] <;> rfl) | (simp [*, errW_none, errW_some] <;> rfl), by (with_reducible repeat (first | apply Kd.R_alloc | apply Kd.R_drewN | apply Kd.R_drew)); exact Kd.R_mono HO_13.out (fun _ hk => trivial), by repeat (first | (with_reducible first | exact HB.out | apply below_alloc | apply pw_below_drewN | apply below_drew1) | exact HB.out)⟩
    · rw [if_neg c4] at H
      exact absurd H (by simp)
  · rw [if_neg c3] at H
    exact absurd H (by simp)

end Go.Proofs.Ytamockdikeadnaa.Px
