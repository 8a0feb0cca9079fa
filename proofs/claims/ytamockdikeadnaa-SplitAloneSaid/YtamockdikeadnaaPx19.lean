-- Lines of this text were written by the print of the kit, run by a program of this session (print2.py).
import Derived.Test.YtamockdikeadnaaPx0
import Derived.Test.YtamockdikeadnaaPx7
import Derived.Test.YtamockdikeadnaaPx10
namespace Go.Proofs.Ytamockdikeadnaa.Px
open Go.RowKit Go.Proofs.YtamockdikeadnaaW.PrintWords Go.Proofs.YtamockdikeadnaaW.PrintLast Go.Proofs.YtamockdikeadnaaW.PrintMore
attribute [local go_sem] max2_int min2_int max_two min_two max_three min_three max_four min_four   -- for this text's walks alone
set_option linter.unusedVariables false
set_option linter.unusedSimpArgs false

/-! ### skiarealaw34_SplitAlone: function 9 -/
mutual
def skiarealaw34_SplitAlone.j0 : Nat → Int → List Int → Int → Bool → Option (Bool)
  | 0, _, _, _, _ => none
  | k + 1, x0, x1, x2, x25 => if x25 = true then (some true) else ((split_Split.f k x0 x1).bind fun bt383 => ((some (([] : List Int) : List Int)).bind fun y387 => (if y387.length + x1.length < 17592186044416 then ((some (y387 ++ x1 : List Int)).bind fun y390 => (if y390.length < 17592186044416 then ((split_Split.f k x0 (y390 ++ [0])).bind fun bt396 => (if bt383.2 = bt396.2 then (if bt383.2 = 0 then (if (bt396.1.length : Int) = (wrap64 ((bt383.1.length : Int) + 1)) then (if 0 ≤ (bt383.1.length : Int) then (if (bt383.1.length : Int) < (bt396.1.length : Int) then (if (rd bt396.1 (bt383.1.length : Int)) = 0 then (if (bt383.1.length : Int) ≤ (bt396.1.length : Int) then ((skiarearef34_Same.f k (bt396.1.take ((bt383.1.length : Int) : Int).toNat) bt383.1).bind fun t405 => (skiarealaw34_SplitAlone.j1 k x0 x1 x2 bt383.2 (!t405))) else (none)) else (skiarealaw34_SplitAlone.j1 k x0 x1 x2 bt383.2 true)) else (none)) else (none)) else (skiarealaw34_SplitAlone.j1 k x0 x1 x2 bt383.2 true)) else (skiarealaw34_SplitAlone.j1 k x0 x1 x2 bt383.2 false)) else (skiarealaw34_SplitAlone.j1 k x0 x1 x2 bt383.2 true))) else (none))) else (none))))
def skiarealaw34_SplitAlone.j1 : Nat → Int → List Int → Int → Int → Bool → Option (Bool)
  | 0, _, _, _, _, _ => none
  | k + 1, x0, x1, x2, x8, x73 => if x73 = true then (some false) else (if x8 = 0 then (if (x1.length : Int) = 0 then (none) else (if 0 ≤ (x1.length : Int) then (if ((x1.length : Int) : Int).toNat ≤ 35184372088832 then ((some (List.replicate ((x1.length : Int) : Int).toNat 0 : List Int)).bind fun y406 => (if 0 ≤ (Int.tmod (wrap64 (x2)) (x1.length : Int)) then (if (Int.tmod (wrap64 (x2)) (x1.length : Int)) < (x1.length : Int) then (if (Int.tmod (wrap64 (x2)) (x1.length : Int)) < (y406.length : Int) then ((split_Split.f k x0 (y406.set ((Int.tmod (wrap64 (x2)) (x1.length : Int)) : Int).toNat (wrap64 (1 + (wrap64 (Int.tdiv (rd x1 (Int.tmod (wrap64 (x2)) (x1.length : Int))) 2)))))).bind fun bt411 => (if bt411.2 = 0 then (skiarealaw34_SplitAlone.j2 k x0 (Int.tmod (wrap64 (x2)) (x1.length : Int)) bt411.1 ((bt411.1.length : Int) != (x1.length : Int))) else (skiarealaw34_SplitAlone.j2 k x0 (Int.tmod (wrap64 (x2)) (x1.length : Int)) bt411.1 true))) else (none)) else (none)) else (none))) else (none)) else (none))) else (some true))
def skiarealaw34_SplitAlone.j2 : Nat → Int → Int → List Int → Bool → Option (Bool)
  | 0, _, _, _, _ => none
  | k + 1, x0, x11, x13, x107 => if x107 = true then (some false) else (skiarealaw34_SplitAlone.l0 k x0 x11 x13 0)
def skiarealaw34_SplitAlone.l0 : Nat → Int → Int → List Int → Int → Option (Bool)
  | 0, _, _, _, _ => none
  | k + 1, x0, x11, x13, x15 => if x15 < (x13.length : Int) then (if x15 = x11 then (if 0 ≤ x15 then (if (rd x13 x15) = x0 then (skiarealaw34_SplitAlone.l0 k x0 x11 x13 (wrap64 (x15 + 1))) else (some false)) else (none)) else (if 0 ≤ x15 then (if (rd x13 x15) = 0 then (skiarealaw34_SplitAlone.l0 k x0 x11 x13 (wrap64 (x15 + 1))) else (some false)) else (none))) else (some true)
end
def skiarealaw34_SplitAlone.f (k : Nat) (a0 : Int) (l1 : List Int) (a2 : Int) : Option (Bool) := (skiarealaw34_alive.f k).bind fun t382 => (if t382 = true then (if (l1.length : Int) = 0 then (skiarealaw34_SplitAlone.j0 k a0 l1 a2 true) else (skiarealaw34_SplitAlone.j0 k a0 l1 a2 (decide ((l1.length : Int) > 63)))) else (some false))
theorem skiarealaw34_SplitAlone.mono_l : ∀ k, (∀ y0 y1 y2 y3, LeO (skiarealaw34_SplitAlone.j0 k y0 y1 y2 y3) (skiarealaw34_SplitAlone.j0 (k + 1) y0 y1 y2 y3)) ∧ (∀ y0 y1 y2 y3 y4, LeO (skiarealaw34_SplitAlone.j1 k y0 y1 y2 y3 y4) (skiarealaw34_SplitAlone.j1 (k + 1) y0 y1 y2 y3 y4)) ∧ (∀ y0 y1 y2 y3, LeO (skiarealaw34_SplitAlone.j2 k y0 y1 y2 y3) (skiarealaw34_SplitAlone.j2 (k + 1) y0 y1 y2 y3)) ∧ (∀ y0 y1 y2 y3, LeO (skiarealaw34_SplitAlone.l0 k y0 y1 y2 y3) (skiarealaw34_SplitAlone.l0 (k + 1) y0 y1 y2 y3))
  | 0 => ⟨fun _ _ _ _ r h => by simp [skiarealaw34_SplitAlone.j0] at h, fun _ _ _ _ _ r h => by simp [skiarealaw34_SplitAlone.j1] at h, fun _ _ _ _ r h => by simp [skiarealaw34_SplitAlone.j2] at h, fun _ _ _ _ r h => by simp [skiarealaw34_SplitAlone.l0] at h⟩
  | k + 1 => by
    obtain ⟨ih0, ih1, ih2, ih3⟩ := skiarealaw34_SplitAlone.mono_l k
    refine ⟨?_, ?_, ?_, ?_⟩
    · intro y0 y1 y2 y3
      unfold skiarealaw34_SplitAlone.j0
      repeat' first
      | (with_reducible exact ih0 _ _ _ _)
      | (with_reducible exact ih1 _ _ _ _ _)
      | (with_reducible exact ih2 _ _ _ _)
      | (with_reducible exact ih3 _ _ _ _)
      | (with_reducible exact skiarealaw34_alive.mono _)
      | (with_reducible exact skiarearef34_Same.mono _ _ _)
      | (with_reducible exact split_Split.mono _ _ _)
      | (with_reducible exact LeO.refl _)
      | (with_reducible exact LeO.none _)
      | (with_reducible refine LeO.ite ?_ ?_)
      | (with_reducible refine LeO.bind ?_ (fun _ => ?_))
      | exact ih0 _ _ _ _
      | exact ih1 _ _ _ _ _
      | exact ih2 _ _ _ _
      | exact ih3 _ _ _ _
      | exact skiarealaw34_alive.mono _
      | exact skiarearef34_Same.mono _ _ _
      | exact split_Split.mono _ _ _
      | exact LeO.none _
      | refine LeO.ite ?_ ?_
      | refine LeO.bind ?_ (fun _ => ?_)
    · intro y0 y1 y2 y3 y4
      unfold skiarealaw34_SplitAlone.j1
      repeat' first
      | (with_reducible exact ih0 _ _ _ _)
      | (with_reducible exact ih1 _ _ _ _ _)
      | (with_reducible exact ih2 _ _ _ _)
      | (with_reducible exact ih3 _ _ _ _)
      | (with_reducible exact skiarealaw34_alive.mono _)
      | (with_reducible exact skiarearef34_Same.mono _ _ _)
      | (with_reducible exact split_Split.mono _ _ _)
      | (with_reducible exact LeO.refl _)
      | (with_reducible exact LeO.none _)
      | (with_reducible refine LeO.ite ?_ ?_)
      | (with_reducible refine LeO.bind ?_ (fun _ => ?_))
      | exact ih0 _ _ _ _
      | exact ih1 _ _ _ _ _
      | exact ih2 _ _ _ _
      | exact ih3 _ _ _ _
      | exact skiarealaw34_alive.mono _
      | exact skiarearef34_Same.mono _ _ _
      | exact split_Split.mono _ _ _
      | exact LeO.none _
      | refine LeO.ite ?_ ?_
      | refine LeO.bind ?_ (fun _ => ?_)
    · intro y0 y1 y2 y3
      unfold skiarealaw34_SplitAlone.j2
      repeat' first
      | (with_reducible exact ih0 _ _ _ _)
      | (with_reducible exact ih1 _ _ _ _ _)
      | (with_reducible exact ih2 _ _ _ _)
      | (with_reducible exact ih3 _ _ _ _)
      | (with_reducible exact skiarealaw34_alive.mono _)
      | (with_reducible exact skiarearef34_Same.mono _ _ _)
      | (with_reducible exact split_Split.mono _ _ _)
      | (with_reducible exact LeO.refl _)
      | (with_reducible exact LeO.none _)
      | (with_reducible refine LeO.ite ?_ ?_)
      | (with_reducible refine LeO.bind ?_ (fun _ => ?_))
      | exact ih0 _ _ _ _
      | exact ih1 _ _ _ _ _
      | exact ih2 _ _ _ _
      | exact ih3 _ _ _ _
      | exact skiarealaw34_alive.mono _
      | exact skiarearef34_Same.mono _ _ _
      | exact split_Split.mono _ _ _
      | exact LeO.none _
      | refine LeO.ite ?_ ?_
      | refine LeO.bind ?_ (fun _ => ?_)
    · intro y0 y1 y2 y3
      unfold skiarealaw34_SplitAlone.l0
      repeat' first
      | (with_reducible exact ih0 _ _ _ _)
      | (with_reducible exact ih1 _ _ _ _ _)
      | (with_reducible exact ih2 _ _ _ _)
      | (with_reducible exact ih3 _ _ _ _)
      | (with_reducible exact skiarealaw34_alive.mono _)
      | (with_reducible exact skiarearef34_Same.mono _ _ _)
      | (with_reducible exact split_Split.mono _ _ _)
      | (with_reducible exact LeO.refl _)
      | (with_reducible exact LeO.none _)
      | (with_reducible refine LeO.ite ?_ ?_)
      | (with_reducible refine LeO.bind ?_ (fun _ => ?_))
      | exact ih0 _ _ _ _
      | exact ih1 _ _ _ _ _
      | exact ih2 _ _ _ _
      | exact ih3 _ _ _ _
      | exact skiarealaw34_alive.mono _
      | exact skiarearef34_Same.mono _ _ _
      | exact split_Split.mono _ _ _
      | exact LeO.none _
      | refine LeO.ite ?_ ?_
      | refine LeO.bind ?_ (fun _ => ?_)
theorem skiarealaw34_SplitAlone.mono : ∀ a0 a1 a2 k, LeO (skiarealaw34_SplitAlone.f k a0 a1 a2) (skiarealaw34_SplitAlone.f (k + 1) a0 a1 a2) := by
  intro a0 a1 a2 k
  obtain ⟨ih0, ih1, ih2, ih3⟩ := skiarealaw34_SplitAlone.mono_l k
  unfold skiarealaw34_SplitAlone.f
  repeat' first
      | (with_reducible exact ih0 _ _ _ _)
      | (with_reducible exact ih1 _ _ _ _ _)
      | (with_reducible exact ih2 _ _ _ _)
      | (with_reducible exact ih3 _ _ _ _)
      | (with_reducible exact skiarealaw34_alive.mono _)
      | (with_reducible exact skiarearef34_Same.mono _ _ _)
      | (with_reducible exact split_Split.mono _ _ _)
      | (with_reducible exact LeO.refl _)
      | (with_reducible exact LeO.none _)
      | (with_reducible refine LeO.ite ?_ ?_)
      | (with_reducible refine LeO.bind ?_ (fun _ => ?_))
      | exact ih0 _ _ _ _
      | exact ih1 _ _ _ _ _
      | exact ih2 _ _ _ _
      | exact ih3 _ _ _ _
      | exact skiarealaw34_alive.mono _
      | exact skiarearef34_Same.mono _ _ _
      | exact split_Split.mono _ _ _
      | exact LeO.none _
      | refine LeO.ite ?_ ?_
      | refine LeO.bind ?_ (fun _ => ?_)
set_option maxHeartbeats 8000000 in
set_option maxRecDepth 100000 in
theorem skiarealaw34_SplitAlone.calls (k : Nat) (a0 : Int) (A1 : Option Addr) (c1 : Nat) (l1 : List Int) (a2 : Int) (r : Bool) (w : World) (hr1 : Kd.C (Kd.int .i64) w A1 l1.length l1) (hc1 : l1.length ≤ c1) (h : skiarealaw34_SplitAlone.f k a0 l1 a2 = some r) :
    Calls Try.prog 9 #[.int .i64 a0, .slice A1 l1.length c1, .int .u8 a2] w fun e w' => e = .returned (.bool r) ∧ Below w.heap.size w w' := by
  have HR1 := Aside0.mk hr1
  have HC1 := Aside0.mk hc1
  clear hr1 hc1
  have HB := Aside0.mk (Below.refl w.heap.size w)
  have H : ((skiarealaw34_alive.f k).bind fun t382 => (if t382 = true then (if (l1.length : Int) = 0 then (skiarealaw34_SplitAlone.j0 k a0 l1 a2 true) else (skiarealaw34_SplitAlone.j0 k a0 l1 a2 (decide ((l1.length : Int) > 63)))) else (some false))) = some r := h
  clear h
  replace H := Option.bind_eq_some_iff.mp H
  obtain ⟨t382, A40, H⟩ := H
  replace H : (if t382 = true then (if (l1.length : Int) = 0 then (skiarealaw34_SplitAlone.j0 k a0 l1 a2 true) else (skiarealaw34_SplitAlone.j0 k a0 l1 a2 (decide ((l1.length : Int) > 63)))) else (some false)) = some r := H
  have A4 := Aside0.mk A40
  clear A40
  by_cases c5 : t382 = true
  · subst c5
    have H1 : (if (l1.length : Int) = 0 then (skiarealaw34_SplitAlone.j0 k a0 l1 a2 true) else (skiarealaw34_SplitAlone.j0 k a0 l1 a2 (decide ((l1.length : Int) > 63)))) = some r := by rw [if_pos rfl] at H; exact H
    clear H
    have H := H1
    clear H1
    have HC6 := Aside0.mk H
    clear H
    go_enter Try.func9, Try.ntmps9
    go_upto_region 3 with (first | ((with_reducible refine gate_callee (f := 10) rfl ?_); refine goesL_ (some 16) rfl rfl Try.func10 (by kernel_rfl) rfl #[] rfl (by (try simp only [List.map_toArray, List.map_cons, List.map_nil]); first | done | rfl | (simp only [List.length_drop, List.length_take]; rfl)) ?_; (with_reducible refine (skiarealaw34_alive.calls k  true _ A4.out).mono ?_); rintro e w7 ⟨rfl, hb⟩; refine ⟨_, rfl, ?_⟩; have n0_ := Aside0.mk (below_step (by repeat (first | (with_reducible first | exact HB.out | apply below_alloc | apply pw_below_drewN | apply below_drew1) | exact HB.out)) hb); clear HB; have HB := n0_; clear n0_; (try clear hb); (try clear hb2); (try clear hk); (try clear hi)))
    (try simp only [Act.put, List.setIfInBounds_toArray, List.set_cons_zero, List.set_cons_succ])
    go_cut [25] (fun v25 wc => ∃ (kq : Nat) (x25_5 : Bool), v25 = .bool x25_5 ∧ Aside0 (skiarealaw34_SplitAlone.j0 kq a0 l1 a2 x25_5 = some r) ∧ Aside0 (kq ≤ k) ∧ Aside0 (Below w.heap.size w wc))
    case first =>
      have H := HC6.out
      clear HC6
      by_cases c8 : (l1.length : Int) = 0
      · rw [if_pos c8] at H
        have c8b0 : ((l1.length : Int) == 0) = true := beq_iff_eq.mpr c8
        have c8b1 : ((l1.length : Int) != 0) = false := bne_eq_false_iff_eq.mpr c8
        clear c8
        (first | rw [c8b0] | (simp only [i64_w, i32_w]; rw [c8b0]) | skip)
        have H' := Aside0.mk H
        clear H
        go_wp2
        go_meet
        case rel => exact ⟨_, (true), (by first | rfl | (simp; done) | (simp [*]; done)), H', ⟨by first | omega | exact Nat.le_refl _⟩, ⟨by repeat (first | (with_reducible first | exact HB.out | apply below_alloc | apply pw_below_drewN | apply below_drew1) | exact HB.out)⟩⟩
      · rw [if_neg c8] at H
        have c8b0 : ((l1.length : Int) == 0) = false := beq_eq_false_iff_ne.mpr c8
        have c8b1 : ((l1.length : Int) != 0) = true := bne_iff_ne.mpr c8
        have c8b2 : ¬ (l1 = []) := fun h_ => c8 (by rw [h_]; rfl)
        (first | rw [c8b0] | (simp only [i64_w, i32_w]; rw [c8b0]) | skip)
        have H' := Aside0.mk H
        clear H
        go_wp2
        go_meet
        case rel => exact ⟨_, (decide ((l1.length : Int) > 63)), (by first | rfl | (simp; done) | (simp [*]; done)), H', ⟨by first | omega | exact Nat.le_refl _⟩, ⟨by repeat (first | (with_reducible first | exact HB.out | apply below_alloc | apply pw_below_drewN | apply below_drew1) | exact HB.out)⟩⟩
    case rest =>
      clear HC6
      try clear c1
      try clear p2
      try clear c5
      try clear c8
      try clear c8b0
      try clear c8b1
      try clear c8b2
      obtain ⟨kq, x25_5, rfl, HA, HJ5, HB⟩ := hcut
      cases kq with
      | zero => exact absurd HA.out (by simp [skiarealaw34_SplitAlone.j0])
      | succ kj5 =>
        have H := HA.out
        clear HA
        simp only [skiarealaw34_SplitAlone.j0] at H
        by_cases c9 : x25_5 = true
        · subst c9
          have H1 : (some true) = some r := by rw [if_pos rfl] at H; exact H
          clear H
          have H := H1
          clear H1
          obtain rfl := Option.some.inj H
          go_wp2
          go_ret
          exact ⟨by first | rfl | (simp [errW_none, errW_some] <;> rfl) | (simp [*, errW_none, errW_some] <;> rfl), by repeat (first | (with_reducible first | exact HB.out | apply below_alloc | apply pw_below_drewN | apply below_drew1) | exact HB.out)⟩
        · replace c9 := Bool.eq_false_iff.mpr c9
          subst c9
          have H1 : ((split_Split.f kj5 a0 l1).bind fun bt383 => ((some (([] : List Int) : List Int)).bind fun y387 => (if y387.length + l1.length < 17592186044416 then ((some (y387 ++ l1 : List Int)).bind fun y390 => (if y390.length < 17592186044416 then ((split_Split.f kj5 a0 (y390 ++ [0])).bind fun bt396 => (if bt383.2 = bt396.2 then (if bt383.2 = 0 then (if (bt396.1.length : Int) = (wrap64 ((bt383.1.length : Int) + 1)) then (if 0 ≤ (bt383.1.length : Int) then (if (bt383.1.length : Int) < (bt396.1.length : Int) then (if (rd bt396.1 (bt383.1.length : Int)) = 0 then (if (bt383.1.length : Int) ≤ (bt396.1.length : Int) then ((skiarearef34_Same.f kj5 (bt396.1.take ((bt383.1.length : Int) : Int).toNat) bt383.1).bind fun t405 => (skiarealaw34_SplitAlone.j1 kj5 a0 l1 a2 bt383.2 (!t405))) else (none)) else (skiarealaw34_SplitAlone.j1 kj5 a0 l1 a2 bt383.2 true)) else (none)) else (none)) else (skiarealaw34_SplitAlone.j1 kj5 a0 l1 a2 bt383.2 true)) else (skiarealaw34_SplitAlone.j1 kj5 a0 l1 a2 bt383.2 false)) else (skiarealaw34_SplitAlone.j1 kj5 a0 l1 a2 bt383.2 true))) else (none))) else (none)))) = some r := by rw [if_neg (show ¬ (false = true) by decide)] at H; exact H
          clear H
          have H := H1
          clear H1
          replace H := Option.bind_eq_some_iff.mp H
          obtain ⟨⟨t383, t384⟩, A100, H⟩ := H
          replace H : ((some (([] : List Int) : List Int)).bind fun y387 => (if y387.length + l1.length < 17592186044416 then ((some (y387 ++ l1 : List Int)).bind fun y390 => (if y390.length < 17592186044416 then ((split_Split.f kj5 a0 (y390 ++ [0])).bind fun bt396 => (if t384 = bt396.2 then (if t384 = 0 then (if (bt396.1.length : Int) = (wrap64 ((t383.length : Int) + 1)) then (if 0 ≤ (t383.length : Int) then (if (t383.length : Int) < (bt396.1.length : Int) then (if (rd bt396.1 (t383.length : Int)) = 0 then (if (t383.length : Int) ≤ (bt396.1.length : Int) then ((skiarearef34_Same.f kj5 (bt396.1.take ((t383.length : Int) : Int).toNat) t383).bind fun t405 => (skiarealaw34_SplitAlone.j1 kj5 a0 l1 a2 t384 (!t405))) else (none)) else (skiarealaw34_SplitAlone.j1 kj5 a0 l1 a2 t384 true)) else (none)) else (none)) else (skiarealaw34_SplitAlone.j1 kj5 a0 l1 a2 t384 true)) else (skiarealaw34_SplitAlone.j1 kj5 a0 l1 a2 t384 false)) else (skiarealaw34_SplitAlone.j1 kj5 a0 l1 a2 t384 true))) else (none))) else (none))) = some r := H
          have A10 := Aside0.mk A100
          clear A100
          obtain ⟨y387, hy387⟩ : ∃ y_ : List Int, y_ = (([] : List Int)) := ⟨_, rfl⟩
          replace H : (if y387.length + l1.length < 17592186044416 then ((some (y387 ++ l1 : List Int)).bind fun y390 => (if y390.length < 17592186044416 then ((split_Split.f kj5 a0 (y390 ++ [0])).bind fun bt396 => (if t384 = bt396.2 then (if t384 = 0 then (if (bt396.1.length : Int) = (wrap64 ((t383.length : Int) + 1)) then (if 0 ≤ (t383.length : Int) then (if (t383.length : Int) < (bt396.1.length : Int) then (if (rd bt396.1 (t383.length : Int)) = 0 then (if (t383.length : Int) ≤ (bt396.1.length : Int) then ((skiarearef34_Same.f kj5 (bt396.1.take ((t383.length : Int) : Int).toNat) t383).bind fun t405 => (skiarealaw34_SplitAlone.j1 kj5 a0 l1 a2 t384 (!t405))) else (none)) else (skiarealaw34_SplitAlone.j1 kj5 a0 l1 a2 t384 true)) else (none)) else (none)) else (skiarealaw34_SplitAlone.j1 kj5 a0 l1 a2 t384 true)) else (skiarealaw34_SplitAlone.j1 kj5 a0 l1 a2 t384 false)) else (skiarealaw34_SplitAlone.j1 kj5 a0 l1 a2 t384 true))) else (none))) else (none)) = some r := by first | (rw [hy387]; with_reducible exact H) | (have H2_ := (Option.bind_some _ _).symm.trans H; rw [hy387]; with_reducible exact H2_) | (have H2_ := (Option.bind_some _ _).symm.trans H; with_reducible exact H2_) | with_reducible exact H | (rw [hy387]; exact H) | exact H
          have Ny387 := Aside0.mk hy387
          clear hy387
          by_cases c11 : y387.length + l1.length < 17592186044416
          · rw [if_pos c11] at H
            have LMc11 := Aside0.mk c11
            clear c11
            obtain ⟨y390, hy390⟩ : ∃ y_ : List Int, y_ = (y387 ++ l1) := ⟨_, rfl⟩
            replace H : (if y390.length < 17592186044416 then ((split_Split.f kj5 a0 (y390 ++ [0])).bind fun bt396 => (if t384 = bt396.2 then (if t384 = 0 then (if (bt396.1.length : Int) = (wrap64 ((t383.length : Int) + 1)) then (if 0 ≤ (t383.length : Int) then (if (t383.length : Int) < (bt396.1.length : Int) then (if (rd bt396.1 (t383.length : Int)) = 0 then (if (t383.length : Int) ≤ (bt396.1.length : Int) then ((skiarearef34_Same.f kj5 (bt396.1.take ((t383.length : Int) : Int).toNat) t383).bind fun t405 => (skiarealaw34_SplitAlone.j1 kj5 a0 l1 a2 t384 (!t405))) else (none)) else (skiarealaw34_SplitAlone.j1 kj5 a0 l1 a2 t384 true)) else (none)) else (none)) else (skiarealaw34_SplitAlone.j1 kj5 a0 l1 a2 t384 true)) else (skiarealaw34_SplitAlone.j1 kj5 a0 l1 a2 t384 false)) else (skiarealaw34_SplitAlone.j1 kj5 a0 l1 a2 t384 true))) else (none)) = some r := by first | (rw [hy390]; with_reducible exact H) | (have H2_ := (Option.bind_some _ _).symm.trans H; rw [hy390]; with_reducible exact H2_) | (have H2_ := (Option.bind_some _ _).symm.trans H; with_reducible exact H2_) | with_reducible exact H | (rw [hy390]; exact H) | exact H
            have Ny390 := Aside0.mk hy390
            clear hy390
            by_cases c12 : y390.length < 17592186044416
            · rw [if_pos c12] at H
              have LMc12 := Aside0.mk c12
              clear c12
              obtain ⟨y393, hy393⟩ : ∃ y_ : List Int, y_ = (y390 ++ [0]) := ⟨_, rfl⟩
              replace H : ((split_Split.f kj5 a0 y393).bind fun bt396 => (if t384 = bt396.2 then (if t384 = 0 then (if (bt396.1.length : Int) = (wrap64 ((t383.length : Int) + 1)) then (if 0 ≤ (t383.length : Int) then (if (t383.length : Int) < (bt396.1.length : Int) then (if (rd bt396.1 (t383.length : Int)) = 0 then (if (t383.length : Int) ≤ (bt396.1.length : Int) then ((skiarearef34_Same.f kj5 (bt396.1.take ((t383.length : Int) : Int).toNat) t383).bind fun t405 => (skiarealaw34_SplitAlone.j1 kj5 a0 l1 a2 t384 (!t405))) else (none)) else (skiarealaw34_SplitAlone.j1 kj5 a0 l1 a2 t384 true)) else (none)) else (none)) else (skiarealaw34_SplitAlone.j1 kj5 a0 l1 a2 t384 true)) else (skiarealaw34_SplitAlone.j1 kj5 a0 l1 a2 t384 false)) else (skiarealaw34_SplitAlone.j1 kj5 a0 l1 a2 t384 true))) = some r := by first | (rw [hy393]; with_reducible exact H) | (have H2_ := (Option.bind_some _ _).symm.trans H; rw [hy393]; with_reducible exact H2_) | (have H2_ := (Option.bind_some _ _).symm.trans H; with_reducible exact H2_) | with_reducible exact H | (rw [hy393]; exact H) | exact H
              have Ny393 := Aside0.mk hy393
              clear hy393
              replace H := Option.bind_eq_some_iff.mp H
              obtain ⟨⟨t396, t397⟩, A130, H⟩ := H
              replace H : (if t384 = t397 then (if t384 = 0 then (if (t396.length : Int) = (wrap64 ((t383.length : Int) + 1)) then (if 0 ≤ (t383.length : Int) then (if (t383.length : Int) < (t396.length : Int) then (if (rd t396 (t383.length : Int)) = 0 then (if (t383.length : Int) ≤ (t396.length : Int) then ((skiarearef34_Same.f kj5 (t396.take ((t383.length : Int) : Int).toNat) t383).bind fun t405 => (skiarealaw34_SplitAlone.j1 kj5 a0 l1 a2 t384 (!t405))) else (none)) else (skiarealaw34_SplitAlone.j1 kj5 a0 l1 a2 t384 true)) else (none)) else (none)) else (skiarealaw34_SplitAlone.j1 kj5 a0 l1 a2 t384 true)) else (skiarealaw34_SplitAlone.j1 kj5 a0 l1 a2 t384 false)) else (skiarealaw34_SplitAlone.j1 kj5 a0 l1 a2 t384 true)) = some r := H
              have A13 := Aside0.mk A130
              clear A130
              have HC14 := Aside0.mk H
              clear H
              go_upto_region 7 with (first | ((with_reducible refine gate_callee (f := 11) rfl ?_); refine goesL_ (some 29) rfl rfl Try.func11 (by kernel_rfl) rfl #[.int .i64 a0, .slice A1 l1.length c1] rfl (by (try simp only [List.map_toArray, List.map_cons, List.map_nil]); first | done | rfl | (simp only [List.length_drop, List.length_take]; rfl)) ?_; (with_reducible refine (split_Split.calls kj5 a0 _ _ l1 t383 t384 _ ?side1 ?side2 A10.out).mono ?_); (case side1 => repeat (first | exact (Kd.C_below HR1.out HB.out) | (with_reducible refine Kd.C_alloc ?_ _) | (with_reducible refine Kd.C_drewN ?_ _) | (with_reducible refine Kd.C_drew ?_))); (case side2 => exact HC1.out); rintro e w15 ⟨v385, rfl, ho0, hb⟩; refine ⟨_, rfl, ?_⟩; have n0_ := Aside0.mk (Kd.R_lower ho0 (below_size (by repeat (first | (with_reducible first | exact HB.out | apply below_alloc | apply pw_below_drewN | apply below_drew1) | exact HB.out)))); have n1_ := Aside0.mk (below_step (by repeat (first | (with_reducible first | exact HB.out | apply below_alloc | apply pw_below_drewN | apply below_drew1) | exact HB.out)) hb); clear HB; have HO386 := n0_; have HB := n1_; clear n0_ n1_; (try clear hb); (try clear hb2); (try clear hk); (try clear hi); (try clear ho0)) | ((with_reducible refine gate_dst (N := 34) rfl ?_); (try (refine gate_guard (by rfl) ?_; dsimp only)); refine Kd.R_lit (Kd.int .i64) _ 3 ?hg (N := 34) ?hd (xs := ([] : List Int)) (inner := []) (ok := fun _ => True) (okp := fun _ => True) ?hr ?hp (fun _ hk => hk) trivial (Below.refl _ _) (Nat.le_refl _) (by simp) ?_; (case hd => rfl); (case hg => rfl); (case hr => first | (go_simp; done) | (go_simp; rfl)); (case hp => exact (Reps.none _ _)); intro v388 w16 ho17 hb hg_ hnew_; clear hg_ hnew_; (first | rw [← Ny387.out] at ho17 | (simp only [Int.reduceToNat] at ho17; rw [← Ny387.out] at ho17)); have n0_ := Aside0.mk (Kd.R_elder' (by (with_reducible repeat (first | apply Kd.R_alloc | apply Kd.R_drewN | apply Kd.R_drew)); exact HO386.out) (Kd.R_base ho17) hb); have n1_ := Aside0.mk (Kd.R_lower (Kd.R_new' ho17 (Kd.R_lt (by (with_reducible repeat (first | apply Kd.R_alloc | apply Kd.R_drewN | apply Kd.R_drew)); exact HO386.out))) (below_size (by repeat (first | (with_reducible first | exact HB.out | apply below_alloc | apply pw_below_drewN | apply below_drew1) | exact HB.out)))); have n2_ := Aside0.mk (below_step (by repeat (first | (with_reducible first | exact HB.out | apply below_alloc | apply pw_below_drewN | apply below_drew1) | exact HB.out)) hb); clear HO386; clear HB; have HO386 := n0_; have HO389 := n1_; have HB := n2_; clear n0_ n1_ n2_; clear hb ho17) | ((with_reducible refine gate_builtin (b := .append) (xs := #[.tmp 34, .tmp 35]) rfl ?_); (try (refine gate_guard (by rfl) ?_; dsimp only)); at_builtin; refine Kd.R_append_rows (Kd.int .i64) (w0 := w) w.heap.size rfl (.tmp 34) (.tmp 35) 22 3 (.int .i64 0) 8 rfl Try.underlying22 info3 rfl (by decide) (by omega) v388 y387 l1 _ _ _ (fun k_ => some k_ ≠ (v385 : Value).ownBlock) (fun _ => False) rfl rfl ?aO ?aR (fun _ _ h => h) (fun _ h => h.elim) ?aF ?aB ?aS ?aL ?_; (case aR => repeat (first | exact (Kd.C_below HR1.out HB.out) | (with_reducible refine Kd.C_alloc ?_ _) | (with_reducible refine Kd.C_drewN ?_ _) | (with_reducible refine Kd.C_drew ?_))); (case aB => exact (by repeat (first | (with_reducible first | exact HB.out | apply below_alloc | apply pw_below_drewN | apply below_drew1) | exact HB.out))); (case aF => exact (fun k_ hk => Kd.fresh' (Kd.R_lt (by (with_reducible repeat (first | apply Kd.R_alloc | apply Kd.R_drewN | apply Kd.R_drew)); exact HO386.out)) k_ hk)); (case aO => exact (by (with_reducible repeat (first | apply Kd.R_alloc | apply Kd.R_drewN | apply Kd.R_drew)); exact Kd.R_mono HO389.out (fun _ hk => hk.2))); (case aS => exact (below_size (by repeat (first | (with_reducible first | exact HB.out | apply below_alloc | apply pw_below_drewN | apply below_drew1) | exact HB.out)))); (case aL => have := LMc11.out; omega); intro v391 w18 ho hb hg hat; rw [← Ny390.out] at ho; have n0_ := Aside0.mk (Kd.R_after (ok := (fun _ => True)) (by (with_reducible repeat (first | apply Kd.R_alloc | apply Kd.R_drewN | apply Kd.R_drew)); exact HO386.out) hg hat); have n1_ := Aside0.mk (hb); have n2_ := Aside0.mk (ho); clear HO386; clear HB; clear HO389; have HO386 := n0_; have HB := n1_; have HO392 := n2_; clear n0_ n1_ n2_; clear ho hb hg hat) | ((with_reducible refine gate_builtin (b := .append) (xs := #[.tmp 36, .tmp 37]) rfl ?_); (try (refine gate_guard (by rfl) ?_; dsimp only)); at_builtin; refine Kd.R_append (Kd.int .i64) (w0 := w) w.heap.size rfl (.tmp 36) (.tmp 37) 22 3 (.int .i64 0) 8 rfl Try.underlying22 info3 rfl (by decide) (by omega) v391 y390 0 [.int .i64 0] (fun k_ => some k_ ≠ (v385 : Value).ownBlock) (fun _ => False) rfl rfl ?aP (fun _ hk => hk.elim) ?aF ?aO ?aB ?aS ?aL ?_; (case aP => exact rfl); (case aB => exact (by repeat (first | (with_reducible first | exact HB.out | apply below_alloc | apply pw_below_drewN | apply below_drew1) | exact HB.out))); (case aF => exact (fun k_ hk => Kd.fresh' (Kd.R_lt (by (with_reducible repeat (first | apply Kd.R_alloc | apply Kd.R_drewN | apply Kd.R_drew)); exact HO386.out)) k_ hk)); (case aO => exact (by (with_reducible repeat (first | apply Kd.R_alloc | apply Kd.R_drewN | apply Kd.R_drew)); exact HO392.out)); (case aS => exact (below_size (by repeat (first | (with_reducible first | exact HB.out | apply below_alloc | apply pw_below_drewN | apply below_drew1) | exact HB.out)))); (case aL => have := LMc12.out; omega); intro v394 w19 ho hb hg hat; rw [← Ny393.out] at ho; have n0_ := Aside0.mk (Kd.R_after (ok := (fun _ => True)) (by (with_reducible repeat (first | apply Kd.R_alloc | apply Kd.R_drewN | apply Kd.R_drew)); exact HO386.out) hg hat); have n1_ := Aside0.mk (hb); have n2_ := Aside0.mk (ho); clear HO386; clear HB; clear HO392; have HO386 := n0_; have HB := n1_; have HO395 := n2_; clear n0_ n1_ n2_; clear ho hb hg hat; obtain ⟨Ao20, co20, eo20⟩ := Kd.R_slice HO395.out; subst eo20) | ((with_reducible refine gate_callee (f := 11) rfl ?_); refine goesL_ (some 39) rfl rfl Try.func11 (by kernel_rfl) rfl #[.int .i64 a0, .slice Ao20 y393.length co20] rfl (by (try simp only [List.map_toArray, List.map_cons, List.map_nil]); first | done | rfl | (simp only [List.length_drop, List.length_take]; rfl)) ?_; (with_reducible refine (split_Split.calls kj5 a0 _ _ y393 t396 t397 _ ?side1 ?side2 A13.out).mono ?_); (case side1 => repeat (first | exact (Kd.R_reads' HO395.out).2.2 | (with_reducible refine Kd.C_alloc ?_ _) | (with_reducible refine Kd.C_drewN ?_ _) | (with_reducible refine Kd.C_drew ?_))); (case side2 => exact (Kd.R_reads' HO395.out).2.1); rintro e w21 ⟨v398, rfl, ho0, hb⟩; refine ⟨_, rfl, ?_⟩; have n0_ := Aside0.mk (Kd.R_elder' (by (with_reducible repeat (first | apply Kd.R_alloc | apply Kd.R_drewN | apply Kd.R_drew)); exact HO386.out) (Kd.R_base ho0) hb); have n1_ := Aside0.mk (Kd.R_elder' (by (with_reducible repeat (first | apply Kd.R_alloc | apply Kd.R_drewN | apply Kd.R_drew)); exact HO395.out) (Kd.R_base ho0) hb); have n2_ := Aside0.mk (Kd.R_lower (Kd.R_new' (Kd.R_new' ho0 (Kd.R_lt (by (with_reducible repeat (first | apply Kd.R_alloc | apply Kd.R_drewN | apply Kd.R_drew)); exact HO386.out))) (Kd.R_lt (by (with_reducible repeat (first | apply Kd.R_alloc | apply Kd.R_drewN | apply Kd.R_drew)); exact HO395.out))) (below_size (by repeat (first | (with_reducible first | exact HB.out | apply below_alloc | apply pw_below_drewN | apply below_drew1) | exact HB.out)))); have n3_ := Aside0.mk (below_step (by repeat (first | (with_reducible first | exact HB.out | apply below_alloc | apply pw_below_drewN | apply below_drew1) | exact HB.out)) hb); clear HO386; clear HO395; clear HB; have HO386 := n0_; have HO395 := n1_; have HO399 := n2_; have HB := n3_; clear n0_ n1_ n2_ n3_; (try clear hb); (try clear hb2); (try clear hk); (try clear hi); (try clear ho0)))
              (try simp only [Act.put, List.setIfInBounds_toArray, List.set_cons_zero, List.set_cons_succ])
              go_cut [73] (fun v73 wc => ∃ (kq : Nat) (x73_13 : Bool), v73 = .bool x73_13 ∧ Aside0 (skiarealaw34_SplitAlone.j1 kq a0 l1 a2 t384 x73_13 = some r) ∧ Aside0 (kq ≤ kj5) ∧ Aside0 (Below w.heap.size w wc))
              case first =>
                have H := HC14.out
                clear HC14
                by_cases c22 : t384 = t397
                · rw [if_pos c22] at H
                  have c22b0 : (t384 == t397) = true := beq_iff_eq.mpr c22
                  have c22b1 : (t384 != t397) = false := bne_eq_false_iff_eq.mpr c22
                  clear c22
                  (first | rw [c22b0] | (simp only [i64_w, i32_w]; rw [c22b0]) | skip)
                  by_cases c23 : t384 = 0
                  · rw [if_pos c23] at H
                    have c23b0 : (t384 == 0) = true := beq_iff_eq.mpr c23
                    have c23b1 : (t384 != 0) = false := bne_eq_false_iff_eq.mpr c23
                    clear c23
                    by_cases c24 : (t396.length : Int) = (wrap64 ((t383.length : Int) + 1))
                    · rw [if_pos c24] at H
                      have c24b0 : ((t396.length : Int) == (wrap64 ((t383.length : Int) + 1))) = true := beq_iff_eq.mpr c24
                      have c24b1 : ((t396.length : Int) != (wrap64 ((t383.length : Int) + 1))) = false := bne_eq_false_iff_eq.mpr c24
                      clear c24
                      by_cases c25 : 0 ≤ (t383.length : Int)
                      · rw [if_pos c25] at H
                        have c25b0 : decide (0 ≤ (t383.length : Int)) = true := decide_eq_true c25
                        have c25b1 : decide (0 ≤ t383.length) = true := decide_eq_true (by omega)
                        clear c25
                        by_cases c26 : (t383.length : Int) < (t396.length : Int)
                        · rw [if_pos c26] at H
                          have c26b0 : decide ((t383.length : Int) < (t396.length : Int)) = true := decide_eq_true c26
                          have c26b1 : decide (t383.length < t396.length) = true := decide_eq_true (Int.ofNat_lt.mp c26)
                          clear c26
                          by_cases c27 : (rd t396 (t383.length : Int)) = 0
                          · rw [if_pos c27] at H
                            have c27b0 : ((rd t396 (t383.length : Int)) == 0) = true := beq_iff_eq.mpr c27
                            have c27b1 : ((rd t396 (t383.length : Int)) != 0) = false := bne_eq_false_iff_eq.mpr c27
                            clear c27
                            have c28b0 := eq_true (of_decide_eq_true (by first | (with_reducible assumption) | assumption) : 0 ≤ (t383.length : Int))
                            by_cases c29 : (t383.length : Int) ≤ (t396.length : Int)
                            · rw [if_pos c29] at H
                              have c29b0 := eq_true c29
                              have c29b1 : decide ((t383.length : Int) ≤ (t396.length : Int)) = true := decide_eq_true c29
                              clear c29
                              obtain ⟨y401, hy401⟩ : ∃ y_ : List Int, y_ = (t396.take ((t383.length : Int) : Int).toNat) := ⟨_, rfl⟩
                              replace H : ((skiarearef34_Same.f kj5 y401 t383).bind fun t405 => (skiarealaw34_SplitAlone.j1 kj5 a0 l1 a2 t384 (!t405))) = some r := by first | (rw [hy401]; with_reducible exact H) | (have H2_ := (Option.bind_some _ _).symm.trans H; rw [hy401]; with_reducible exact H2_) | (have H2_ := (Option.bind_some _ _).symm.trans H; with_reducible exact H2_) | with_reducible exact H | (rw [hy401]; exact H) | exact H
                              have Ny401 := Aside0.mk hy401
                              clear hy401
                              replace H := Option.bind_eq_some_iff.mp H
                              obtain ⟨t405, A300, H⟩ := H
                              replace H : (skiarealaw34_SplitAlone.j1 kj5 a0 l1 a2 t384 (!t405)) = some r := H
                              have A30 := Aside0.mk A300
                              clear A300
                              have H' := Aside0.mk H
                              clear H
                              obtain ⟨Ao31, co31, eo31⟩ := Kd.R_slice HO399.out
                              subst eo31
                              obtain ⟨Ao32, co32, eo32⟩ := Kd.R_slice HO386.out
                              subst eo32
                              have p400 : 0 ≤ ((t383.length : Int) : Int) := of_decide_eq_true (by first | (with_reducible assumption) | assumption)
                              have q400 : (t383.length : Int) < (t396.length : Int) := of_decide_eq_true (by first | (with_reducible assumption) | assumption)
                              obtain ⟨ad400, e400, hx400_0⟩ := Kd.at_int (Kd.R_reads' HO399.out).2.2 (t383.length : Int) p400 q400
                              cases e400
                              (try simp only [Go.IntWalk.toNatUp] at hx400_0)
                              replace p400 := eq_true p400
                              replace q400 := eq_true q400
                              have q33 : ((t383.length : Int) : Int) ≤ ((t396.length : Int) : Int) := of_decide_eq_true (by first | (with_reducible assumption) | assumption)
                              obtain ⟨i033, hi033, _, hsz33, _⟩ := info_parts info3
                              have hroom33 : t396.length ≤ co31 := (Kd.R_reads' HO399.out).2.1
                              have hC33 : Kd.C (Kd.int .i64) _ (some ad400) t396.length t396 := (Kd.R_reads' HO399.out).2.2
                              have hcut33 := cut_to (P := Try.prog) 22 3 .i64 Try.underlying22 hi033 (some ad400) t396.length co31 (t383.length : Int) (of_decide_eq_true (by first | (with_reducible assumption) | assumption)) q33 hroom33
                              have hr33 := Kd.C_take (m := ((t383.length : Int) : Int).toNat) hC33 (by omega)
                              have hy33 : y401.length = ((t383.length : Int) : Int).toNat := (by rw [Ny401.out, List.length_take]; omega)
                              rw [← Ny401.out] at hr33
                              rw [← hy33] at hcut33
                              have HR404 := Aside0.mk hr33
                              have HC404 := Aside0.mk (show y401.length ≤ co31 from by omega)
                              clear hr33 hC33 hroom33 hi033 hsz33
                              have KY33 := Aside0.mk hy33
                              clear hy33
                              have KL33 := Aside0.mk (show ((t383.length : Int) : Int).toNat ≤ t396.length from by omega)
                              replace q33 := eq_true q33
                              go_wp2_with (first | (go_at_call 13; (with_reducible refine (skiarearef34_Same.calls kj5 _ _ y401 _ _ t383 t405 _ ?side1 ?side2 ?side3 ?side4 A30.out).mono ?_); (case side1 => repeat (first | exact (by repeat (first | (with_reducible exact HR404.out) | (with_reducible refine Kd.C_alloc ?_ _) | (with_reducible refine Kd.C_drewN ?_ _) | (with_reducible refine Kd.C_drew ?_) | exact HR404.out)) | (with_reducible refine Kd.C_alloc ?_ _) | (with_reducible refine Kd.C_drewN ?_ _) | (with_reducible refine Kd.C_drew ?_))); (case side2 => exact HC404.out); (case side3 => repeat (first | exact (Kd.R_reads' HO386.out).2.2 | (with_reducible refine Kd.C_alloc ?_ _) | (with_reducible refine Kd.C_drewN ?_ _) | (with_reducible refine Kd.C_drew ?_))); (case side4 => exact (Kd.R_reads' HO386.out).2.1); rintro e w' ⟨rfl, ⟨nd, rfl⟩⟩))
                              go_meet
                              case rel => exact ⟨_, (!t405), (by first | rfl | (simp; done) | (simp [*]; done)), H', ⟨by have := HJ5.out; first | omega | exact Nat.le_refl _⟩, ⟨by repeat (first | (with_reducible first | exact HB.out | apply below_alloc | apply pw_below_drewN | apply below_drew1) | exact HB.out)⟩⟩
                            · rw [if_neg c29] at H
                              exact absurd H (by simp)
                          · rw [if_neg c27] at H
                            have c27b0 : ((rd t396 (t383.length : Int)) == 0) = false := beq_eq_false_iff_ne.mpr c27
                            have c27b1 : ((rd t396 (t383.length : Int)) != 0) = true := bne_iff_ne.mpr c27
                            have H' := Aside0.mk H
                            clear H
                            obtain ⟨Ao34, co34, eo34⟩ := Kd.R_slice HO399.out
                            subst eo34
                            obtain ⟨Ao35, co35, eo35⟩ := Kd.R_slice HO386.out
                            subst eo35
                            have p400 : 0 ≤ ((t383.length : Int) : Int) := of_decide_eq_true (by first | (with_reducible assumption) | assumption)
                            have q400 : (t383.length : Int) < (t396.length : Int) := of_decide_eq_true (by first | (with_reducible assumption) | assumption)
                            obtain ⟨ad400, e400, hx400_0⟩ := Kd.at_int (Kd.R_reads' HO399.out).2.2 (t383.length : Int) p400 q400
                            cases e400
                            (try simp only [Go.IntWalk.toNatUp] at hx400_0)
                            replace p400 := eq_true p400
                            replace q400 := eq_true q400
                            go_wp2
                            go_meet
                            case rel => exact ⟨_, (true), (by first | rfl | (simp; done) | (simp [*]; done)), H', ⟨by have := HJ5.out; first | omega | exact Nat.le_refl _⟩, ⟨by repeat (first | (with_reducible first | exact HB.out | apply below_alloc | apply pw_below_drewN | apply below_drew1) | exact HB.out)⟩⟩
                        · rw [if_neg c26] at H
                          exact absurd H (by simp)
                      · rw [if_neg c25] at H
                        exact absurd H (by simp)
                    · rw [if_neg c24] at H
                      have c24b0 : ((t396.length : Int) == (wrap64 ((t383.length : Int) + 1))) = false := beq_eq_false_iff_ne.mpr c24
                      have c24b1 : ((t396.length : Int) != (wrap64 ((t383.length : Int) + 1))) = true := bne_iff_ne.mpr c24
                      have H' := Aside0.mk H
                      clear H
                      obtain ⟨Ao36, co36, eo36⟩ := Kd.R_slice HO399.out
                      subst eo36
                      obtain ⟨Ao37, co37, eo37⟩ := Kd.R_slice HO386.out
                      subst eo37
                      go_wp2
                      go_meet
                      case rel => exact ⟨_, (true), (by first | rfl | (simp; done) | (simp [*]; done)), H', ⟨by have := HJ5.out; first | omega | exact Nat.le_refl _⟩, ⟨by repeat (first | (with_reducible first | exact HB.out | apply below_alloc | apply pw_below_drewN | apply below_drew1) | exact HB.out)⟩⟩
                  · rw [if_neg c23] at H
                    have c23b0 : (t384 == 0) = false := beq_eq_false_iff_ne.mpr c23
                    have c23b1 : (t384 != 0) = true := bne_iff_ne.mpr c23
                    have H' := Aside0.mk H
                    clear H
                    go_wp2
                    go_meet
                    case rel => exact ⟨_, (false), (by first | rfl | (simp; done) | (simp [*]; done)), H', ⟨by have := HJ5.out; first | omega | exact Nat.le_refl _⟩, ⟨by repeat (first | (with_reducible first | exact HB.out | apply below_alloc | apply pw_below_drewN | apply below_drew1) | exact HB.out)⟩⟩
                · rw [if_neg c22] at H
                  have c22b0 : (t384 == t397) = false := beq_eq_false_iff_ne.mpr c22
                  have c22b1 : (t384 != t397) = true := bne_iff_ne.mpr c22
                  (first | rw [c22b0] | (simp only [i64_w, i32_w]; rw [c22b0]) | skip)
                  have H' := Aside0.mk H
                  clear H
                  go_wp2
                  go_meet
                  case rel => exact ⟨_, (true), (by first | rfl | (simp; done) | (simp [*]; done)), H', ⟨by have := HJ5.out; first | omega | exact Nat.le_refl _⟩, ⟨by repeat (first | (with_reducible first | exact HB.out | apply below_alloc | apply pw_below_drewN | apply below_drew1) | exact HB.out)⟩⟩
              case rest =>
                clear HC14
                try clear c1
                try clear c2
                try clear p2
                try clear q3
                try clear p4
                try clear q4
                try clear hx4
                try clear c5
                try clear p6
                try clear c8
                try clear c8b0
                try clear c8b1
                try clear c8b2
                try clear c9
                try clear c10
                try clear c11
                try clear c12
                try clear c22
                try clear c22b0
                try clear c22b1
                try clear c23
                try clear c23b0
                try clear c23b1
                try clear c24
                try clear c24b0
                try clear c24b1
                try clear c25
                try clear c25b0
                try clear c25b1
                try clear c26
                try clear c26b0
                try clear c26b1
                try clear c27
                try clear c27b0
                try clear c27b1
                try clear c28
                try clear c28b0
                try clear c29
                try clear c29b0
                try clear c29b1
                try clear q33
                try clear hx400_0
                try clear p2
                try clear p400
                try clear q33
                try clear q400
                obtain ⟨kq, x73_13, rfl, HA, HJ13, HB⟩ := hcut
                cases kq with
                | zero => exact absurd HA.out (by simp [skiarealaw34_SplitAlone.j1])
                | succ kj13 =>
                  have H := HA.out
                  clear HA
                  simp only [skiarealaw34_SplitAlone.j1] at H
                  by_cases c38 : x73_13 = true
                  · subst c38
                    have H1 : (some false) = some r := by rw [if_pos rfl] at H; exact H
                    clear H
                    have H := H1
                    clear H1
                    obtain rfl := Option.some.inj H
                    go_wp2
                    go_ret
                    exact ⟨by first | rfl | (simp [errW_none, errW_some] <;> rfl) | (simp [*, errW_none, errW_some] <;> rfl), by repeat (first | (with_reducible first | exact HB.out | apply below_alloc | apply pw_below_drewN | apply below_drew1) | exact HB.out)⟩
                  · replace c38 := Bool.eq_false_iff.mpr c38
                    subst c38
                    have H1 : (if t384 = 0 then (if (l1.length : Int) = 0 then (none) else (if 0 ≤ (l1.length : Int) then (if ((l1.length : Int) : Int).toNat ≤ 35184372088832 then ((some (List.replicate ((l1.length : Int) : Int).toNat 0 : List Int)).bind fun y406 => (if 0 ≤ (Int.tmod (wrap64 (a2)) (l1.length : Int)) then (if (Int.tmod (wrap64 (a2)) (l1.length : Int)) < (l1.length : Int) then (if (Int.tmod (wrap64 (a2)) (l1.length : Int)) < (y406.length : Int) then ((split_Split.f kj13 a0 (y406.set ((Int.tmod (wrap64 (a2)) (l1.length : Int)) : Int).toNat (wrap64 (1 + (wrap64 (Int.tdiv (rd l1 (Int.tmod (wrap64 (a2)) (l1.length : Int))) 2)))))).bind fun bt411 => (if bt411.2 = 0 then (skiarealaw34_SplitAlone.j2 kj13 a0 (Int.tmod (wrap64 (a2)) (l1.length : Int)) bt411.1 ((bt411.1.length : Int) != (l1.length : Int))) else (skiarealaw34_SplitAlone.j2 kj13 a0 (Int.tmod (wrap64 (a2)) (l1.length : Int)) bt411.1 true))) else (none)) else (none)) else (none))) else (none)) else (none))) else (some true)) = some r := by rw [if_neg (show ¬ (false = true) by decide)] at H; exact H
                    clear H
                    have H := H1
                    clear H1
                    by_cases c39 : t384 = 0
                    · rw [if_pos c39] at H
                      have c39b0 : (t384 == 0) = true := beq_iff_eq.mpr c39
                      have c39b1 : (t384 != 0) = false := bne_eq_false_iff_eq.mpr c39
                      clear c39
                      by_cases c40 : (l1.length : Int) = 0
                      · rw [if_pos c40] at H
                        exact absurd H (by simp)
                      · rw [if_neg c40] at H
                        have c40b0 : ((l1.length : Int) == 0) = false := beq_eq_false_iff_ne.mpr c40
                        have c40b1 : ((l1.length : Int) != 0) = true := bne_iff_ne.mpr c40
                        have c40b2 : ¬ (l1 = []) := fun h_ => c40 (by rw [h_]; rfl)
                        by_cases c41 : 0 ≤ (l1.length : Int)
                        · rw [if_pos c41] at H
                          have c41b0 := eq_true c41
                          have c41b1 : decide (0 ≤ (l1.length : Int)) = true := decide_eq_true c41
                          clear c41
                          by_cases c42 : ((l1.length : Int) : Int).toNat ≤ 35184372088832
                          · rw [if_pos c42] at H
                            have c42b0 := eq_true c42
                            have c42b1 : decide (((l1.length : Int) : Int).toNat ≤ 35184372088832) = true := decide_eq_true c42
                            clear c42
                            obtain ⟨y406, hy406⟩ : ∃ y_ : List Int, y_ = (List.replicate ((l1.length : Int) : Int).toNat 0) := ⟨_, rfl⟩
                            replace H : (if 0 ≤ (Int.tmod (wrap64 (a2)) (l1.length : Int)) then (if (Int.tmod (wrap64 (a2)) (l1.length : Int)) < (l1.length : Int) then (if (Int.tmod (wrap64 (a2)) (l1.length : Int)) < (y406.length : Int) then ((split_Split.f kj13 a0 (y406.set ((Int.tmod (wrap64 (a2)) (l1.length : Int)) : Int).toNat (wrap64 (1 + (wrap64 (Int.tdiv (rd l1 (Int.tmod (wrap64 (a2)) (l1.length : Int))) 2)))))).bind fun bt411 => (if bt411.2 = 0 then (skiarealaw34_SplitAlone.j2 kj13 a0 (Int.tmod (wrap64 (a2)) (l1.length : Int)) bt411.1 ((bt411.1.length : Int) != (l1.length : Int))) else (skiarealaw34_SplitAlone.j2 kj13 a0 (Int.tmod (wrap64 (a2)) (l1.length : Int)) bt411.1 true))) else (none)) else (none)) else (none)) = some r := by first | (rw [hy406]; with_reducible exact H) | (have H2_ := (Option.bind_some _ _).symm.trans H; rw [hy406]; with_reducible exact H2_) | (have H2_ := (Option.bind_some _ _).symm.trans H; with_reducible exact H2_) | with_reducible exact H | (rw [hy406]; exact H) | exact H
                            have Ny406 := Aside0.mk hy406
                            clear hy406
                            obtain ⟨ji43, hji43⟩ : ∃ j_ : Int, (Int.tmod (wrap64 (a2)) (l1.length : Int)) = j_ := ⟨_, rfl⟩
                            replace H : (if 0 ≤ (ji43) then (if (ji43) < (l1.length : Int) then (if (ji43) < (y406.length : Int) then ((split_Split.f kj13 a0 (y406.set ((ji43) : Int).toNat (wrap64 (1 + (wrap64 (Int.tdiv (rd l1 (ji43)) 2)))))).bind fun bt411 => (if bt411.2 = 0 then (skiarealaw34_SplitAlone.j2 kj13 a0 ji43 bt411.1 ((bt411.1.length : Int) != (l1.length : Int))) else (skiarealaw34_SplitAlone.j2 kj13 a0 ji43 bt411.1 true))) else (none)) else (none)) else (none)) = some r := by first | (rw [hji43] at H; exact H) | (simp only [hji43] at H ⊢; exact H)
                            by_cases c44 : 0 ≤ (ji43)
                            · rw [if_pos c44] at H
                              have c44b0 : decide (0 ≤ (ji43)) = true := decide_eq_true c44
                              clear c44
                              by_cases c45 : (ji43) < (l1.length : Int)
                              · rw [if_pos c45] at H
                                have c45b0 : decide ((ji43) < (l1.length : Int)) = true := decide_eq_true c45
                                clear c45
                                by_cases c46 : (ji43) < (y406.length : Int)
                                · rw [if_pos c46] at H
                                  have c46b0 : decide ((ji43) < (y406.length : Int)) = true := decide_eq_true c46
                                  clear c46
                                  obtain ⟨y410, hy410⟩ : ∃ y_ : List Int, y_ = (y406.set ((ji43) : Int).toNat (wrap64 (1 + (wrap64 (Int.tdiv (rd l1 (ji43)) 2))))) := ⟨_, rfl⟩
                                  replace H : ((split_Split.f kj13 a0 y410).bind fun bt411 => (if bt411.2 = 0 then (skiarealaw34_SplitAlone.j2 kj13 a0 ji43 bt411.1 ((bt411.1.length : Int) != (l1.length : Int))) else (skiarealaw34_SplitAlone.j2 kj13 a0 ji43 bt411.1 true))) = some r := by first | (rw [hy410]; with_reducible exact H) | (have H2_ := (Option.bind_some _ _).symm.trans H; rw [hy410]; with_reducible exact H2_) | (have H2_ := (Option.bind_some _ _).symm.trans H; with_reducible exact H2_) | with_reducible exact H | (rw [hy410]; exact H) | exact H
                                  have Ny410 := Aside0.mk hy410
                                  clear hy410
                                  replace H := Option.bind_eq_some_iff.mp H
                                  obtain ⟨⟨t411, t412⟩, A480, H⟩ := H
                                  replace H : (if t412 = 0 then (skiarealaw34_SplitAlone.j2 kj13 a0 ji43 t411 ((t411.length : Int) != (l1.length : Int))) else (skiarealaw34_SplitAlone.j2 kj13 a0 ji43 t411 true)) = some r := H
                                  have A48 := Aside0.mk A480
                                  clear A480
                                  have HC49 := Aside0.mk H
                                  clear H
                                  go_upto_region 15 with (first | ((with_reducible refine gate_dst (N := 83) rfl ?_); (try (refine gate_guard (by rfl) ?_; dsimp only)); refine Kd.R_make (Kd.int .i64) _ 3 rfl (N := 83) rfl 22 _ _ rfl (l1.length : Int) rfl rfl Try.underlying22 (.int .i64 0) 8 info3 rfl (by decide) (by omega) 0 (ok := fun _ => True) (okp := fun _ => True) rfl (fun _ hk => hk) trivial (of_decide_eq_true (by first | (with_reducible assumption) | assumption)) (Nat.le_trans (Nat.mul_le_mul_right _ (of_decide_eq_true (by first | (with_reducible assumption) | assumption) : (l1.length : Int).toNat ≤ 35184372088832)) (by omega)) (Below.refl _ _) (Nat.le_refl _) ?_; intro v407 w50 ho51 hb hg_ hnew_; clear hg_ hnew_; (first | rw [← Ny406.out] at ho51 | (simp only [Int.reduceToNat] at ho51; rw [← Ny406.out] at ho51)); have n0_ := Aside0.mk (Kd.R_lower ho51 (below_size (by repeat (first | (with_reducible first | exact HB.out | apply below_alloc | apply pw_below_drewN | apply below_drew1) | exact HB.out)))); have n1_ := Aside0.mk (below_step (by repeat (first | (with_reducible first | exact HB.out | apply below_alloc | apply pw_below_drewN | apply below_drew1) | exact HB.out)) hb); clear HB; have HO408 := n0_; have HB := n1_; clear n0_ n1_; clear hb ho51; have p409 : 0 ≤ ((ji43) : Int) := of_decide_eq_true (by first | (with_reducible assumption) | assumption); have q409 : (ji43) < (l1.length : Int) := of_decide_eq_true (by first | (with_reducible assumption) | assumption); obtain ⟨ad409, e409, hx409_0⟩ := Kd.at_int HR1.out (ji43) p409 q409; cases e409; replace hx409_0 := (HB.out.cell (World.block_lt_of_cell? w _ hx409_0)).trans hx409_0; replace p409 := eq_true p409; replace q409 := eq_true q409; have p47 : 0 ≤ ((ji43) : Int) := of_decide_eq_true (by first | (with_reducible assumption) | assumption); have q47 : ((ji43) : Int) < ((y406.length : Int) : Int) := of_decide_eq_true (by first | (with_reducible assumption) | assumption); obtain ⟨go47, co47, eo47, gb47, gl47, cl47, HG47⟩ := Kd.R_form HO408.out (by omega); (first | cases eo47 | (injection eo47 with ea_ en_ ec_; (first | subst ea_ | (injection ea_ with ea_; subst ea_)); subst ec_; clear en_)); have GB47 := Aside0.mk gb47; have GG47 := Aside0.mk HG47; clear gb47 gl47 HG47; obtain ⟨hx47_0, hf47_0⟩ := Kd.R_celln 0 HO408.out ((ji43) : Int) p47 q47; replace p47 := eq_true p47; replace q47 := eq_true q47; obtain ⟨hy52_, hz52_⟩ := Kd.R_celln 0 HO408.out ((ji43) : Int) (of_decide_eq_true (by first | (with_reducible assumption) | assumption)) (of_decide_eq_true (by first | (with_reducible assumption) | assumption)); have HP52 := Kd.R_putg HO408.out ((ji43) : Int) (wrap64 (1 + (wrap64 (Int.tdiv (rd l1 (ji43)) 2))))) | ((with_reducible refine gate_store (t := 3) (p := 92) rfl ?_); refine store_event (t := 3) (p := 92) (v := ?vo_w53) (w1 := (w50.setCell ⟨go47, ((ji43) : Int).toNat, none⟩ (.int .i64 (wrap64 (1 + (wrap64 (Int.tdiv (rd l1 (ji43)) 2))))))) ?hg ?ho ?hn ?hr ?_; (case ho => rfl); (case hg => rfl); (case hn => rfl); (case hr => first | (go_simp; done) | (go_simp; rfl)); intro w53 hw; have hg : w50.grownBy w53 (some go47) := (by rw [hw]; exact HP52.2); have hp_ : Kd.R (Kd.int .i64) 3 w53 w.heap.size (fun _ => True) (.slice (some ⟨go47, 0, none⟩) y406.length co47) y410 := (by rw [hw, Ny410.out]; exact HP52.1); clear HP52; have n0_ := Aside0.mk (hp_); have n1_ := Aside0.mk ((by rw [hw]; exact below_set (HB.out) GB47.out : Below w.heap.size w w53)); clear HO408; clear HB; have HO408 := n0_; have HB := n1_; clear n0_ n1_; clear hg hw hp_) | ((with_reducible refine gate_callee (f := 11) rfl ?_); refine goesL_ (some 96) rfl rfl Try.func11 (by kernel_rfl) rfl #[.int .i64 a0, .slice (some ⟨go47, 0, none⟩) y410.length co47] rfl (by (try simp only [List.map_toArray, List.map_cons, List.map_nil]); first | done | (rw [show y410.length = y406.length from (Kd.R_reads' HO408.out).1.symm] <;> rfl) | rfl | (simp only [List.length_drop, List.length_take]; rfl)) ?_; (with_reducible refine (split_Split.calls kj13 a0 _ _ y410 t411 t412 _ ?side1 ?side2 A48.out).mono ?_); (case side1 => repeat (first | exact (Kd.R_reads' HO408.out).2.2 | (with_reducible refine Kd.C_alloc ?_ _) | (with_reducible refine Kd.C_drewN ?_ _) | (with_reducible refine Kd.C_drew ?_))); (case side2 => rw [show y410.length = y406.length from (Kd.R_reads' HO408.out).1.symm]; exact (Kd.R_reads' HO408.out).2.1); rintro e w54 ⟨v413, rfl, ho0, hb⟩; refine ⟨_, rfl, ?_⟩; have n0_ := Aside0.mk (Kd.R_elder' (by (with_reducible repeat (first | apply Kd.R_alloc | apply Kd.R_drewN | apply Kd.R_drew)); exact HO408.out) (Kd.R_base ho0) hb); have n1_ := Aside0.mk (Kd.R_lower (Kd.R_new' ho0 (Kd.R_lt (by (with_reducible repeat (first | apply Kd.R_alloc | apply Kd.R_drewN | apply Kd.R_drew)); exact HO408.out))) (below_size (by repeat (first | (with_reducible first | exact HB.out | apply below_alloc | apply pw_below_drewN | apply below_drew1) | exact HB.out)))); have n2_ := Aside0.mk (below_step (by repeat (first | (with_reducible first | exact HB.out | apply below_alloc | apply pw_below_drewN | apply below_drew1) | exact HB.out)) hb); clear HO408; clear HB; have HO408 := n0_; have HO414 := n1_; have HB := n2_; clear n0_ n1_ n2_; (try clear hb); (try clear hb2); (try clear hk); (try clear hi); (try clear ho0)))
                                  (try simp only [Act.put, List.setIfInBounds_toArray, List.set_cons_zero, List.set_cons_succ])
                                  go_cut [107] (fun v107 wc => ∃ (kq : Nat) (x107_48 : Bool), v107 = .bool x107_48 ∧ Aside0 (skiarealaw34_SplitAlone.j2 kq a0 ji43 t411 x107_48 = some r) ∧ Aside0 (kq ≤ kj13) ∧ Aside0 (Kd.R (Kd.int .i64) 3 wc w.heap.size (fun _ => True) v413 t411) ∧ Aside0 (Below w.heap.size w wc))
                                  case first =>
                                    have H := HC49.out
                                    clear HC49
                                    by_cases c55 : t412 = 0
                                    · rw [if_pos c55] at H
                                      have c55b0 : (t412 == 0) = true := beq_iff_eq.mpr c55
                                      have c55b1 : (t412 != 0) = false := bne_eq_false_iff_eq.mpr c55
                                      clear c55
                                      (first | rw [c55b0] | (simp only [i64_w, i32_w]; rw [c55b0]) | skip)
                                      have H' := Aside0.mk H
                                      clear H
                                      obtain ⟨Ao56, co56, eo56⟩ := Kd.R_slice HO414.out
                                      subst eo56
                                      go_wp2
                                      go_meet
                                      case rel => exact ⟨_, (((t411.length : Int) != (l1.length : Int))), (by first | rfl | (simp; done) | (simp [*]; done)), H', ⟨by have := HJ5.out; have := HJ13.out; first | omega | exact Nat.le_refl _⟩, ⟨by (with_reducible repeat (first | apply Kd.R_alloc | apply Kd.R_drewN | apply Kd.R_drew)); exact Kd.R_mono HO414.out (fun _ hk => trivial)⟩, ⟨by repeat (first | (with_reducible first | exact HB.out | apply below_alloc | apply pw_below_drewN | apply below_drew1) | exact HB.out)⟩⟩
                                    · rw [if_neg c55] at H
                                      have c55b0 : (t412 == 0) = false := beq_eq_false_iff_ne.mpr c55
                                      have c55b1 : (t412 != 0) = true := bne_iff_ne.mpr c55
                                      (first | rw [c55b0] | (simp only [i64_w, i32_w]; rw [c55b0]) | skip)
                                      have H' := Aside0.mk H
                                      clear H
                                      go_wp2
                                      go_meet
                                      case rel => exact ⟨_, (true), (by first | rfl | (simp; done) | (simp [*]; done)), H', ⟨by have := HJ5.out; have := HJ13.out; first | omega | exact Nat.le_refl _⟩, ⟨by (with_reducible repeat (first | apply Kd.R_alloc | apply Kd.R_drewN | apply Kd.R_drew)); exact Kd.R_mono HO414.out (fun _ hk => trivial)⟩, ⟨by repeat (first | (with_reducible first | exact HB.out | apply below_alloc | apply pw_below_drewN | apply below_drew1) | exact HB.out)⟩⟩
                                  case rest =>
                                    clear HC49
                                    try clear c1
                                    try clear c2
                                    try clear p2
                                    try clear c3
                                    try clear q3
                                    try clear c4
                                    try clear p4
                                    try clear q4
                                    try clear hx4
                                    try clear hf4
                                    try clear c5
                                    try clear p6
                                    try clear c8
                                    try clear c8b0
                                    try clear c8b1
                                    try clear c8b2
                                    try clear c9
                                    try clear c10
                                    try clear c11
                                    try clear c12
                                    try clear c22
                                    try clear c22b0
                                    try clear c22b1
                                    try clear c23
                                    try clear c23b0
                                    try clear c23b1
                                    try clear c24
                                    try clear c24b0
                                    try clear c24b1
                                    try clear c25
                                    try clear c25b0
                                    try clear c25b1
                                    try clear c26
                                    try clear c26b0
                                    try clear c26b1
                                    try clear c27
                                    try clear c27b0
                                    try clear c27b1
                                    try clear c28
                                    try clear c28b0
                                    try clear c29
                                    try clear c29b0
                                    try clear c29b1
                                    try clear q33
                                    try clear c38
                                    try clear c39
                                    try clear c39b0
                                    try clear c39b1
                                    try clear c40
                                    try clear c40b0
                                    try clear c40b1
                                    try clear c40b2
                                    try clear p40
                                    try clear q40
                                    try clear hx40
                                    try clear c41
                                    try clear c41b0
                                    try clear c41b1
                                    try clear c42
                                    try clear c42b0
                                    try clear c42b1
                                    try clear c44
                                    try clear c44b0
                                    try clear c45
                                    try clear c45b0
                                    try clear c46
                                    try clear c46b0
                                    try clear p47
                                    try clear q47
                                    try clear hx47
                                    try clear hf47
                                    try clear c55
                                    try clear c55b0
                                    try clear c55b1
                                    try clear hx400_0
                                    try clear hx409_0
                                    try clear hx47_0
                                    try clear p2
                                    try clear p4
                                    try clear p400
                                    try clear p409
                                    try clear p47
                                    try clear p6
                                    try clear q3
                                    try clear q33
                                    try clear q4
                                    try clear q400
                                    try clear q409
                                    try clear q47
                                    obtain ⟨kq, x107_48, rfl, HA, HJ48, HO_13, HB⟩ := hcut
                                    cases kq with
                                    | zero => exact absurd HA.out (by simp [skiarealaw34_SplitAlone.j2])
                                    | succ kj48 =>
                                      have H := HA.out
                                      clear HA
                                      simp only [skiarealaw34_SplitAlone.j2] at H
                                      by_cases c57 : x107_48 = true
                                      · subst c57
                                        have H1 : (some false) = some r := by rw [if_pos rfl] at H; exact H
                                        clear H
                                        have H := H1
                                        clear H1
                                        obtain rfl := Option.some.inj H
                                        go_wp2
                                        go_ret
                                        exact ⟨by first | rfl | (simp [errW_none, errW_some] <;> rfl) | (simp only [← hji43]; first | rfl | (simp [errW_none, errW_some] <;> rfl)) | (simp [*, errW_none, errW_some] <;> rfl), by repeat (first | (with_reducible first | exact HB.out | apply below_alloc | apply pw_below_drewN | apply below_drew1) | exact HB.out)⟩
                                      · replace c57 := Bool.eq_false_iff.mpr c57
                                        subst c57
                                        have H1 : (skiarealaw34_SplitAlone.l0 kj48 a0 ji43 t411 0) = some r := by rw [if_neg (show ¬ (false = true) by decide)] at H; exact H
                                        clear H
                                        have H := H1
                                        clear H1
                                        have H' := Aside0.mk H
                                        clear H
                                        go_wp2
                                        go_loopg [15] kj48 (fun kq v15 w' => ∃ (x15_4 : Int), v15 = .int .i64 x15_4 ∧ Aside0 (skiarealaw34_SplitAlone.l0 kq a0 ji43 t411 x15_4 = some r) ∧ Aside0 (kq ≤ kj48) ∧ Aside0 (Kd.R (Kd.int .i64) 3 w' w.heap.size (fun _ => True) v413 t411) ∧ Aside0 (Below w.heap.size w w'))
                                        case atStart => exact ⟨(0), (by first | rfl | (simp; done) | (simp [*]; done)), H', ⟨Nat.le_refl _⟩, ⟨by (with_reducible repeat (first | apply Kd.R_alloc | apply Kd.R_drewN | apply Kd.R_drew)); exact HO_13.out⟩, ⟨by repeat (first | (with_reducible first | exact HB.out | apply below_alloc | apply pw_below_drewN | apply below_drew1) | exact HB.out)⟩⟩
                                        case round =>
                                          clear H'
                                          try clear c1
                                          try clear c2
                                          try clear p2
                                          try clear c3
                                          try clear q3
                                          try clear c4
                                          try clear p4
                                          try clear q4
                                          try clear hx4
                                          try clear hf4
                                          try clear c5
                                          try clear p6
                                          try clear c8
                                          try clear c8b0
                                          try clear c8b1
                                          try clear c8b2
                                          try clear c9
                                          try clear c10
                                          try clear c11
                                          try clear c12
                                          try clear c22
                                          try clear c22b0
                                          try clear c22b1
                                          try clear c23
                                          try clear c23b0
                                          try clear c23b1
                                          try clear c24
                                          try clear c24b0
                                          try clear c24b1
                                          try clear c25
                                          try clear c25b0
                                          try clear c25b1
                                          try clear c26
                                          try clear c26b0
                                          try clear c26b1
                                          try clear c27
                                          try clear c27b0
                                          try clear c27b1
                                          try clear c28
                                          try clear c28b0
                                          try clear c29
                                          try clear c29b0
                                          try clear c29b1
                                          try clear q33
                                          try clear c38
                                          try clear c39
                                          try clear c39b0
                                          try clear c39b1
                                          try clear c40
                                          try clear c40b0
                                          try clear c40b1
                                          try clear c40b2
                                          try clear p40
                                          try clear q40
                                          try clear hx40
                                          try clear c41
                                          try clear c41b0
                                          try clear c41b1
                                          try clear c42
                                          try clear c42b0
                                          try clear c42b1
                                          try clear c44
                                          try clear c44b0
                                          try clear c45
                                          try clear c45b0
                                          try clear c46
                                          try clear c46b0
                                          try clear p47
                                          try clear q47
                                          try clear hx47
                                          try clear hf47
                                          try clear c55
                                          try clear c55b0
                                          try clear c55b1
                                          try clear c57
                                          try clear hx400_0
                                          try clear hx409_0
                                          try clear hx47_0
                                          try clear p2
                                          try clear p4
                                          try clear p40
                                          try clear p400
                                          try clear p409
                                          try clear p47
                                          try clear p6
                                          try clear q3
                                          try clear q33
                                          try clear q4
                                          try clear q40
                                          try clear q400
                                          try clear q409
                                          try clear q47
                                          obtain ⟨x15_4, rfl, HA, HK4, HO_13, HB⟩ := hrel
                                          cases gk with
                                          | zero => exact absurd HA.out (by simp [skiarealaw34_SplitAlone.l0])
                                          | succ k4 =>
                                            have H := HA.out
                                            clear HA
                                            simp only [skiarealaw34_SplitAlone.l0] at H
                                            by_cases c58 : x15_4 < (t411.length : Int)
                                            · rw [if_pos c58] at H
                                              have c58b0 : decide (x15_4 < (t411.length : Int)) = true := decide_eq_true c58
                                              clear c58
                                              by_cases c59 : x15_4 = ji43
                                              · rw [if_pos c59] at H
                                                have c59b0 : (x15_4 == ji43) = true := beq_iff_eq.mpr c59
                                                have c59b1 : (x15_4 != ji43) = false := bne_eq_false_iff_eq.mpr c59
                                                clear c59
                                                by_cases c60 : 0 ≤ x15_4
                                                · rw [if_pos c60] at H
                                                  have c60b0 : decide (0 ≤ x15_4) = true := decide_eq_true c60
                                                  clear c60
                                                  by_cases c61 : (rd t411 x15_4) = a0
                                                  · rw [if_pos c61] at H
                                                    have c61b0 : ((rd t411 x15_4) == a0) = true := beq_iff_eq.mpr c61
                                                    have c61b1 : ((rd t411 x15_4) != a0) = false := bne_eq_false_iff_eq.mpr c61
                                                    clear c61
                                                    have H' := Aside0.mk H
                                                    clear H
                                                    obtain ⟨Ao62, co62, eo62⟩ := Kd.R_slice HO_13.out
                                                    subst eo62
                                                    have p415 : 0 ≤ (x15_4 : Int) := of_decide_eq_true (by first | (with_reducible assumption) | assumption)
                                                    have q415 : x15_4 < (t411.length : Int) := of_decide_eq_true (by first | (with_reducible assumption) | assumption)
                                                    obtain ⟨ad415, e415, hx415_0⟩ := Kd.at_int (Kd.R_reads' HO_13.out).2.2 x15_4 p415 q415
                                                    cases e415
                                                    replace p415 := eq_true p415
                                                    replace q415 := eq_true q415
                                                    go_wp2
                                                    go_roundg k4
                                                    case measure => have := HJ5.out; have := HJ13.out; have := HJ48.out; have := HK4.out; omega
                                                    case rel => exact ⟨(wrap64 (x15_4 + 1)), (by first | rfl | (simp; done) | (simp [*]; done)), H', ⟨by have := HJ5.out; have := HJ13.out; have := HJ48.out; have := HK4.out; omega⟩, ⟨by (with_reducible repeat (first | apply Kd.R_alloc | apply Kd.R_drewN | apply Kd.R_drew)); exact HO_13.out⟩, ⟨by repeat (first | (with_reducible first | exact HB.out | apply below_alloc | apply pw_below_drewN | apply below_drew1) | exact HB.out)⟩⟩
                                                  · rw [if_neg c61] at H
                                                    have c61b0 : ((rd t411 x15_4) == a0) = false := beq_eq_false_iff_ne.mpr c61
                                                    have c61b1 : ((rd t411 x15_4) != a0) = true := bne_iff_ne.mpr c61
                                                    obtain rfl := Option.some.inj H
                                                    obtain ⟨Ao63, co63, eo63⟩ := Kd.R_slice HO_13.out
                                                    subst eo63
                                                    have p415 : 0 ≤ (x15_4 : Int) := of_decide_eq_true (by first | (with_reducible assumption) | assumption)
                                                    have q415 : x15_4 < (t411.length : Int) := of_decide_eq_true (by first | (with_reducible assumption) | assumption)
                                                    obtain ⟨ad415, e415, hx415_0⟩ := Kd.at_int (Kd.R_reads' HO_13.out).2.2 x15_4 p415 q415
                                                    cases e415
                                                    replace p415 := eq_true p415
                                                    replace q415 := eq_true q415
                                                    go_wp2
                                                    go_ret
                                                    exact ⟨by first | rfl | (simp [errW_none, errW_some] <;> rfl) | (simp only [← hji43]; first | rfl | (simp [errW_none, errW_some] <;> rfl)) | (simp [*, errW_none, errW_some] <;> rfl), by repeat (first | (with_reducible first | exact HB.out | apply below_alloc | apply pw_below_drewN | apply below_drew1) | exact HB.out)⟩
                                                · rw [if_neg c60] at H
                                                  exact absurd H (by simp)
                                              · rw [if_neg c59] at H
                                                have c59b0 : (x15_4 == ji43) = false := beq_eq_false_iff_ne.mpr c59
                                                have c59b1 : (x15_4 != ji43) = true := bne_iff_ne.mpr c59
                                                by_cases c64 : 0 ≤ x15_4
                                                · rw [if_pos c64] at H
                                                  have c64b0 : decide (0 ≤ x15_4) = true := decide_eq_true c64
                                                  clear c64
                                                  by_cases c65 : (rd t411 x15_4) = 0
                                                  · rw [if_pos c65] at H
                                                    have c65b0 : ((rd t411 x15_4) == 0) = true := beq_iff_eq.mpr c65
                                                    have c65b1 : ((rd t411 x15_4) != 0) = false := bne_eq_false_iff_eq.mpr c65
                                                    clear c65
                                                    have H' := Aside0.mk H
                                                    clear H
                                                    obtain ⟨Ao66, co66, eo66⟩ := Kd.R_slice HO_13.out
                                                    subst eo66
                                                    have p416 : 0 ≤ (x15_4 : Int) := of_decide_eq_true (by first | (with_reducible assumption) | assumption)
                                                    have q416 : x15_4 < (t411.length : Int) := of_decide_eq_true (by first | (with_reducible assumption) | assumption)
                                                    obtain ⟨ad416, e416, hx416_0⟩ := Kd.at_int (Kd.R_reads' HO_13.out).2.2 x15_4 p416 q416
                                                    cases e416
                                                    replace p416 := eq_true p416
                                                    replace q416 := eq_true q416
                                                    go_wp2
                                                    go_roundg k4
                                                    case measure => have := HJ5.out; have := HJ13.out; have := HJ48.out; have := HK4.out; omega
                                                    case rel => exact ⟨(wrap64 (x15_4 + 1)), (by first | rfl | (simp; done) | (simp [*]; done)), H', ⟨by have := HJ5.out; have := HJ13.out; have := HJ48.out; have := HK4.out; omega⟩, ⟨by (with_reducible repeat (first | apply Kd.R_alloc | apply Kd.R_drewN | apply Kd.R_drew)); exact HO_13.out⟩, ⟨by repeat (first | (with_reducible first | exact HB.out | apply below_alloc | apply pw_below_drewN | apply below_drew1) | exact HB.out)⟩⟩
                                                  · rw [if_neg c65] at H
                                                    have c65b0 : ((rd t411 x15_4) == 0) = false := beq_eq_false_iff_ne.mpr c65
                                                    have c65b1 : ((rd t411 x15_4) != 0) = true := bne_iff_ne.mpr c65
                                                    obtain rfl := Option.some.inj H
                                                    obtain ⟨Ao67, co67, eo67⟩ := Kd.R_slice HO_13.out
                                                    subst eo67
                                                    have p416 : 0 ≤ (x15_4 : Int) := of_decide_eq_true (by first | (with_reducible assumption) | assumption)
                                                    have q416 : x15_4 < (t411.length : Int) := of_decide_eq_true (by first | (with_reducible assumption) | assumption)
                                                    obtain ⟨ad416, e416, hx416_0⟩ := Kd.at_int (Kd.R_reads' HO_13.out).2.2 x15_4 p416 q416
                                                    cases e416
                                                    replace p416 := eq_true p416
                                                    replace q416 := eq_true q416
                                                    go_wp2
                                                    go_ret
                                                    exact ⟨by first | rfl | (simp [errW_none, errW_some] <;> rfl) | (simp only [← hji43]; first | rfl | (simp [errW_none, errW_some] <;> rfl)) | (simp [*, errW_none, errW_some] <;> rfl), by repeat (first | (with_reducible first | exact HB.out | apply below_alloc | apply pw_below_drewN | apply below_drew1) | exact HB.out)⟩
                                                · rw [if_neg c64] at H
                                                  exact absurd H (by simp)
                                            · rw [if_neg c58] at H
                                              have c58b0 : decide (x15_4 < (t411.length : Int)) = false := decide_eq_false c58
                                              clear c58
                                              obtain rfl := Option.some.inj H
                                              obtain ⟨Ao68, co68, eo68⟩ := Kd.R_slice HO_13.out
                                              subst eo68
                                              go_wp2
                                              go_ret
                                              exact ⟨by first | rfl | (simp [errW_none, errW_some] <;> rfl) | (simp only [← hji43]; first | rfl | (simp [errW_none, errW_some] <;> rfl)) | (simp [*, errW_none, errW_some] <;> rfl), by repeat (first | (with_reducible first | exact HB.out | apply below_alloc | apply pw_below_drewN | apply below_drew1) | exact HB.out)⟩
                                · rw [if_neg c46] at H
                                  exact absurd H (by simp)
                              · rw [if_neg c45] at H
                                exact absurd H (by simp)
                            · rw [if_neg c44] at H
                              exact absurd H (by simp)
                          · rw [if_neg c42] at H
                            exact absurd H (by simp)
                        · rw [if_neg c41] at H
                          exact absurd H (by simp)
                    · rw [if_neg c39] at H
                      have c39b0 : (t384 == 0) = false := beq_eq_false_iff_ne.mpr c39
                      have c39b1 : (t384 != 0) = true := bne_iff_ne.mpr c39
                      obtain rfl := Option.some.inj H
                      go_wp2
                      go_ret
                      exact ⟨by first | rfl | (simp [errW_none, errW_some] <;> rfl) | (simp [*, errW_none, errW_some] <;> rfl), by repeat (first | (with_reducible first | exact HB.out | apply below_alloc | apply pw_below_drewN | apply below_drew1) | exact HB.out)⟩
            · rw [if_neg c12] at H
              exact absurd H (by simp)
          · rw [if_neg c11] at H
            exact absurd H (by simp)
  · replace c5 := Bool.eq_false_iff.mpr c5
    subst c5
    have H1 : (some false) = some r := by rw [if_neg (show ¬ (false = true) by decide)] at H; exact H
    clear H
    have H := H1
    clear H1
    obtain rfl := Option.some.inj H
    go_enter Try.func9, Try.ntmps9
    go_wp2_with (first | ((with_reducible refine gate_callee (f := 10) rfl ?_); refine goesL_ (some 16) rfl rfl Try.func10 (by kernel_rfl) rfl #[] rfl (by (try simp only [List.map_toArray, List.map_cons, List.map_nil]); first | done | rfl | (simp only [List.length_drop, List.length_take]; rfl)) ?_; (with_reducible refine (skiarealaw34_alive.calls k  false _ A4.out).mono ?_); rintro e w69 ⟨rfl, hb⟩; refine ⟨_, rfl, ?_⟩; have n0_ := Aside0.mk (below_step (by repeat (first | (with_reducible first | exact HB.out | apply below_alloc | apply pw_below_drewN | apply below_drew1) | exact HB.out)) hb); clear HB; have HB := n0_; clear n0_; (try clear hb); (try clear hb2); (try clear hk); (try clear hi)))
    go_ret
    exact ⟨by first | rfl | (simp [errW_none, errW_some] <;> rfl) | (simp [*, errW_none, errW_some] <;> rfl), by repeat (first | (with_reducible first | exact HB.out | apply below_alloc | apply pw_below_drewN | apply below_drew1) | exact HB.out)⟩

end Go.Proofs.Ytamockdikeadnaa.Px
