-- Lines of this text were written by the print of the kit, run by a program of this session (print2.py).
import Derived.Test.YtamockdikeadnaaPx0
import Derived.Test.YtamockdikeadnaaPx2
import Derived.Test.YtamockdikeadnaaPx3
import Derived.Test.YtamockdikeadnaaPx4
namespace Go.Proofs.Ytamockdikeadnaa.Px
open Go.RowKit Go.Proofs.YtamockdikeadnaaW.PrintWords Go.Proofs.YtamockdikeadnaaW.PrintLast Go.Proofs.YtamockdikeadnaaW.PrintMore
attribute [local go_sem] max2_int min2_int max_two min_two max_three min_three max_four min_four   -- for this text's walks alone
set_option linter.unusedVariables false
set_option linter.unusedSimpArgs false

/-! ### split_Fair: function 16 -/
def split_Fair.l0 : Nat → Int → List Int → List Int → Int → List Int → Int → Int → Option (Bool)
  | 0, _, _, _, _, _, _, _ => none
  | k + 1, x0, x1, x2, x7, x19, x20, x21 => if x21 < x20 then (if 0 ≤ x21 then (if x21 < (x19.length : Int) then (if x21 < (x1.length : Int) then ((split_exact.f k x0 (rd x1 x21) x7).bind fun bt114 => (if (rd x19 x21) = bt114.1 then (split_Fair.l0 k x0 x1 x2 x7 x19 x20 (wrap64 (x21 + 1))) else (if bt114.2 = 0 then (some false) else (if (rd x19 x21) = (wrap64 (bt114.1 + 1)) then (split_Fair.l0 k x0 x1 x2 x7 x19 x20 (wrap64 (x21 + 1))) else (some false))))) else (none)) else (none)) else (none)) else ((split_sum.f k x2).bind fun t116 => (some (t116 == x0)))
def split_Fair.f (k : Nat) (a0 : Int) (l1 : List Int) (l2 : List Int) : Option (Bool) := if (l2.length : Int) = (l1.length : Int) then ((split_sum.f k l1).bind fun t111 => (split_Fair.l0 k a0 l1 l2 t111 l2 (l2.length : Int) 0)) else (some false)
theorem split_Fair.mono_l : ∀ k, (∀ y0 y1 y2 y3 y4 y5 y6, LeO (split_Fair.l0 k y0 y1 y2 y3 y4 y5 y6) (split_Fair.l0 (k + 1) y0 y1 y2 y3 y4 y5 y6))
  | 0 => fun _ _ _ _ _ _ _ r h => by simp [split_Fair.l0] at h
  | k + 1 => by
    have ih0 := split_Fair.mono_l k
    · intro y0 y1 y2 y3 y4 y5 y6
      unfold split_Fair.l0
      repeat' first
      | (with_reducible exact ih0 _ _ _ _ _ _ _)
      | (with_reducible exact split_exact.mono _ _ _ _)
      | (with_reducible exact split_sum.mono _ _)
      | (with_reducible exact LeO.refl _)
      | (with_reducible exact LeO.none _)
      | (with_reducible refine LeO.ite ?_ ?_)
      | (with_reducible refine LeO.bind ?_ (fun _ => ?_))
      | exact ih0 _ _ _ _ _ _ _
      | exact split_exact.mono _ _ _ _
      | exact split_sum.mono _ _
      | exact LeO.none _
      | refine LeO.ite ?_ ?_
      | refine LeO.bind ?_ (fun _ => ?_)
theorem split_Fair.mono : ∀ a0 a1 a2 k, LeO (split_Fair.f k a0 a1 a2) (split_Fair.f (k + 1) a0 a1 a2) := by
  intro a0 a1 a2 k
  have ih0 := split_Fair.mono_l k
  unfold split_Fair.f
  repeat' first
      | (with_reducible exact ih0 _ _ _ _ _ _ _)
      | (with_reducible exact split_exact.mono _ _ _ _)
      | (with_reducible exact split_sum.mono _ _)
      | (with_reducible exact LeO.refl _)
      | (with_reducible exact LeO.none _)
      | (with_reducible refine LeO.ite ?_ ?_)
      | (with_reducible refine LeO.bind ?_ (fun _ => ?_))
      | exact ih0 _ _ _ _ _ _ _
      | exact split_exact.mono _ _ _ _
      | exact split_sum.mono _ _
      | exact LeO.none _
      | refine LeO.ite ?_ ?_
      | refine LeO.bind ?_ (fun _ => ?_)
set_option maxHeartbeats 8000000 in
set_option maxRecDepth 100000 in
theorem split_Fair.calls (k : Nat) (a0 : Int) (A1 : Option Addr) (c1 : Nat) (l1 : List Int) (A2 : Option Addr) (c2 : Nat) (l2 : List Int) (r : Bool) (w : World) (hr1 : Kd.C (Kd.int .i64) w A1 l1.length l1) (hc1 : l1.length ≤ c1) (hr2 : Kd.C (Kd.int .i64) w A2 l2.length l2) (hc2 : l2.length ≤ c2) (h : split_Fair.f k a0 l1 l2 = some r) :
    Calls Try.prog 16 #[.int .i64 a0, .slice A1 l1.length c1, .slice A2 l2.length c2] w fun e w' => e = .returned (.bool r) ∧ Drawn0 w w' := by
  have HR1 := Aside0.mk hr1
  have HC1 := Aside0.mk hc1
  clear hr1 hc1
  have HR2 := Aside0.mk hr2
  have HC2 := Aside0.mk hc2
  clear hr2 hc2
  have H : (if (l2.length : Int) = (l1.length : Int) then ((split_sum.f k l1).bind fun t111 => (split_Fair.l0 k a0 l1 l2 t111 l2 (l2.length : Int) 0)) else (some false)) = some r := h
  clear h
  by_cases c4 : (l2.length : Int) = (l1.length : Int)
  · rw [if_pos c4] at H
    have c4b0 : ((l2.length : Int) == (l1.length : Int)) = true := beq_iff_eq.mpr c4
    have c4b1 : ((l2.length : Int) != (l1.length : Int)) = false := bne_eq_false_iff_eq.mpr c4
    have c4b2 : (l2.length == l1.length) = true := by first | simpa using c4 | (simp at c4 ⊢; omega)
    clear c4
    replace H := Option.bind_eq_some_iff.mp H
    obtain ⟨t111, A50, H⟩ := H
    replace H : (split_Fair.l0 k a0 l1 l2 t111 l2 (l2.length : Int) 0) = some r := H
    have A5 := Aside0.mk A50
    clear A50
    have H' := Aside0.mk H
    clear H
    go_enter Try.func16, Try.ntmps16
    go_wp2_with (first | ((with_reducible refine gate_callee (f := 27) rfl ?_); refine goesL_ (some 18) rfl rfl Try.func27 (by kernel_rfl) rfl #[.slice A1 l1.length c1] rfl (by (try simp only [List.map_toArray, List.map_cons, List.map_nil]); first | done | rfl | (simp only [List.length_drop, List.length_take]; rfl)) ?_; (with_reducible refine (split_sum.calls k _ _ l1 t111 _ ?side1 ?side2 A5.out).mono ?_); (case side1 => repeat (first | exact HR1.out | (with_reducible refine Kd.C_alloc ?_ _) | (with_reducible refine Kd.C_drewN ?_ _) | (with_reducible refine Kd.C_drew ?_))); (case side2 => exact HC1.out); rintro e w' ⟨rfl, ⟨nd, rfl⟩⟩; refine ⟨_, rfl, ?_⟩))
    go_loopg [21] k (fun kq v21 w' => ∃ (x21_1 : Int), v21 = .int .i64 x21_1 ∧ Aside0 (split_Fair.l0 kq a0 l1 l2 t111 l2 (l2.length : Int) x21_1 = some r) ∧ Aside0 (kq ≤ k) ∧ Drawn0 w w')
    case atStart => exact ⟨(0), (by first | rfl | (simp; done) | (simp [*]; done)), H', ⟨Nat.le_refl _⟩, by repeat (first | exact Drawn0.refl _ | apply Drawn0.step)⟩
    case round =>
      clear H'
      try clear c1
      try clear c2
      try clear p2
      try clear c4
      try clear c4b0
      try clear c4b1
      try clear c4b2
      obtain ⟨x21_1, rfl, HA, HK1, ⟨m1, rfl⟩⟩ := hrel
      cases gk with
      | zero => exact absurd HA.out (by simp [split_Fair.l0])
      | succ k1 =>
        have H := HA.out
        clear HA
        simp only [split_Fair.l0] at H
        by_cases c6 : x21_1 < (l2.length : Int)
        · rw [if_pos c6] at H
          have c6b0 : decide (x21_1 < (l2.length : Int)) = true := decide_eq_true c6
          clear c6
          by_cases c7 : 0 ≤ x21_1
          · rw [if_pos c7] at H
            have c7b0 : decide (0 ≤ x21_1) = true := decide_eq_true c7
            clear c7
            by_cases c8 : x21_1 < (l2.length : Int)
            · rw [if_pos c8] at H
              have c8b0 : decide (x21_1 < (l2.length : Int)) = true := decide_eq_true c8
              clear c8
              by_cases c9 : x21_1 < (l1.length : Int)
              · rw [if_pos c9] at H
                have c9b0 : decide (x21_1 < (l1.length : Int)) = true := decide_eq_true c9
                clear c9
                replace H := Option.bind_eq_some_iff.mp H
                obtain ⟨⟨t114, t115⟩, A100, H⟩ := H
                replace H : (if (rd l2 x21_1) = t114 then (split_Fair.l0 k1 a0 l1 l2 t111 l2 (l2.length : Int) (wrap64 (x21_1 + 1))) else (if t115 = 0 then (some false) else (if (rd l2 x21_1) = (wrap64 (t114 + 1)) then (split_Fair.l0 k1 a0 l1 l2 t111 l2 (l2.length : Int) (wrap64 (x21_1 + 1))) else (some false)))) = some r := H
                have A10 := Aside0.mk A100
                clear A100
                by_cases c11 : (rd l2 x21_1) = t114
                · rw [if_pos c11] at H
                  have c11b0 : ((rd l2 x21_1) == t114) = true := beq_iff_eq.mpr c11
                  have c11b1 : ((rd l2 x21_1) != t114) = false := bne_eq_false_iff_eq.mpr c11
                  clear c11
                  have H' := Aside0.mk H
                  clear H
                  have p112 : 0 ≤ (x21_1 : Int) := of_decide_eq_true (by first | (with_reducible assumption) | assumption)
                  have q112 : x21_1 < (l2.length : Int) := of_decide_eq_true (by first | (with_reducible assumption) | assumption)
                  obtain ⟨ad112, e112, hx112_0⟩ := Kd.at_int HR2.out x21_1 p112 q112
                  cases e112
                  replace p112 := eq_true p112
                  replace q112 := eq_true q112
                  have p113 : 0 ≤ (x21_1 : Int) := of_decide_eq_true (by first | (with_reducible assumption) | assumption)
                  have q113 : x21_1 < (l1.length : Int) := of_decide_eq_true (by first | (with_reducible assumption) | assumption)
                  obtain ⟨ad113, e113, hx113_0⟩ := Kd.at_int HR1.out x21_1 p113 q113
                  cases e113
                  replace p113 := eq_true p113
                  replace q113 := eq_true q113
                  go_wp2_with (first | ((with_reducible refine gate_callee (f := 30) rfl ?_); refine goesL_ (some 33) rfl rfl Try.func30 (by kernel_rfl) rfl #[.int .i64 a0, .int .i64 (rd l1 x21_1), .int .i64 t111] rfl (by (try simp only [List.map_toArray, List.map_cons, List.map_nil]); first | done | rfl | (simp only [List.length_drop, List.length_take]; rfl)) ?_; (with_reducible refine (split_exact.calls k1 a0 (rd l1 x21_1) t111 t114 t115 _ A10.out).mono ?_); rintro e w' ⟨rfl, ⟨nd, rfl⟩⟩; refine ⟨_, rfl, ?_⟩))
                  go_roundg k1
                  case measure => have := HK1.out; omega
                  case rel => exact ⟨(wrap64 (x21_1 + 1)), (by first | rfl | (simp; done) | (simp [*]; done)), H', ⟨by have := HK1.out; omega⟩, by repeat (first | exact Drawn0.refl _ | apply Drawn0.step)⟩
                · rw [if_neg c11] at H
                  have c11b0 : ((rd l2 x21_1) == t114) = false := beq_eq_false_iff_ne.mpr c11
                  have c11b1 : ((rd l2 x21_1) != t114) = true := bne_iff_ne.mpr c11
                  by_cases c12 : t115 = 0
                  · rw [if_pos c12] at H
                    have c12b0 : (t115 == 0) = true := beq_iff_eq.mpr c12
                    have c12b1 : (t115 != 0) = false := bne_eq_false_iff_eq.mpr c12
                    clear c12
                    obtain rfl := Option.some.inj H
                    have p112 : 0 ≤ (x21_1 : Int) := of_decide_eq_true (by first | (with_reducible assumption) | assumption)
                    have q112 : x21_1 < (l2.length : Int) := of_decide_eq_true (by first | (with_reducible assumption) | assumption)
                    obtain ⟨ad112, e112, hx112_0⟩ := Kd.at_int HR2.out x21_1 p112 q112
                    cases e112
                    replace p112 := eq_true p112
                    replace q112 := eq_true q112
                    have p113 : 0 ≤ (x21_1 : Int) := of_decide_eq_true (by first | (with_reducible assumption) | assumption)
                    have q113 : x21_1 < (l1.length : Int) := of_decide_eq_true (by first | (with_reducible assumption) | assumption)
                    obtain ⟨ad113, e113, hx113_0⟩ := Kd.at_int HR1.out x21_1 p113 q113
                    cases e113
                    replace p113 := eq_true p113
                    replace q113 := eq_true q113
                    go_wp2_with (first | ((with_reducible refine gate_callee (f := 30) rfl ?_); refine goesL_ (some 33) rfl rfl Try.func30 (by kernel_rfl) rfl #[.int .i64 a0, .int .i64 (rd l1 x21_1), .int .i64 t111] rfl (by (try simp only [List.map_toArray, List.map_cons, List.map_nil]); first | done | rfl | (simp only [List.length_drop, List.length_take]; rfl)) ?_; (with_reducible refine (split_exact.calls k1 a0 (rd l1 x21_1) t111 t114 t115 _ A10.out).mono ?_); rintro e w' ⟨rfl, ⟨nd, rfl⟩⟩; refine ⟨_, rfl, ?_⟩))
                    go_ret
                    exact ⟨by first | rfl | (simp; done) | (simp [*]; done), by repeat (first | exact Drawn0.refl _ | apply Drawn0.step)⟩
                  · rw [if_neg c12] at H
                    have c12b0 : (t115 == 0) = false := beq_eq_false_iff_ne.mpr c12
                    have c12b1 : (t115 != 0) = true := bne_iff_ne.mpr c12
                    by_cases c13 : (rd l2 x21_1) = (wrap64 (t114 + 1))
                    · rw [if_pos c13] at H
                      have c13b0 : ((rd l2 x21_1) == (wrap64 (t114 + 1))) = true := beq_iff_eq.mpr c13
                      have c13b1 : ((rd l2 x21_1) != (wrap64 (t114 + 1))) = false := bne_eq_false_iff_eq.mpr c13
                      clear c13
                      have H' := Aside0.mk H
                      clear H
                      have p112 : 0 ≤ (x21_1 : Int) := of_decide_eq_true (by first | (with_reducible assumption) | assumption)
                      have q112 : x21_1 < (l2.length : Int) := of_decide_eq_true (by first | (with_reducible assumption) | assumption)
                      obtain ⟨ad112, e112, hx112_0⟩ := Kd.at_int HR2.out x21_1 p112 q112
                      cases e112
                      replace p112 := eq_true p112
                      replace q112 := eq_true q112
                      have p113 : 0 ≤ (x21_1 : Int) := of_decide_eq_true (by first | (with_reducible assumption) | assumption)
                      have q113 : x21_1 < (l1.length : Int) := of_decide_eq_true (by first | (with_reducible assumption) | assumption)
                      obtain ⟨ad113, e113, hx113_0⟩ := Kd.at_int HR1.out x21_1 p113 q113
                      cases e113
                      replace p113 := eq_true p113
                      replace q113 := eq_true q113
                      go_wp2_with (first | ((with_reducible refine gate_callee (f := 30) rfl ?_); refine goesL_ (some 33) rfl rfl Try.func30 (by kernel_rfl) rfl #[.int .i64 a0, .int .i64 (rd l1 x21_1), .int .i64 t111] rfl (by (try simp only [List.map_toArray, List.map_cons, List.map_nil]); first | done | rfl | (simp only [List.length_drop, List.length_take]; rfl)) ?_; (with_reducible refine (split_exact.calls k1 a0 (rd l1 x21_1) t111 t114 t115 _ A10.out).mono ?_); rintro e w' ⟨rfl, ⟨nd, rfl⟩⟩; refine ⟨_, rfl, ?_⟩))
                      go_roundg k1
                      case measure => have := HK1.out; omega
                      case rel => exact ⟨(wrap64 (x21_1 + 1)), (by first | rfl | (simp; done) | (simp [*]; done)), H', ⟨by have := HK1.out; omega⟩, by repeat (first | exact Drawn0.refl _ | apply Drawn0.step)⟩
                    · rw [if_neg c13] at H
                      have c13b0 : ((rd l2 x21_1) == (wrap64 (t114 + 1))) = false := beq_eq_false_iff_ne.mpr c13
                      have c13b1 : ((rd l2 x21_1) != (wrap64 (t114 + 1))) = true := bne_iff_ne.mpr c13
                      obtain rfl := Option.some.inj H
                      have p112 : 0 ≤ (x21_1 : Int) := of_decide_eq_true (by first | (with_reducible assumption) | assumption)
                      have q112 : x21_1 < (l2.length : Int) := of_decide_eq_true (by first | (with_reducible assumption) | assumption)
                      obtain ⟨ad112, e112, hx112_0⟩ := Kd.at_int HR2.out x21_1 p112 q112
                      cases e112
                      replace p112 := eq_true p112
                      replace q112 := eq_true q112
                      have p113 : 0 ≤ (x21_1 : Int) := of_decide_eq_true (by first | (with_reducible assumption) | assumption)
                      have q113 : x21_1 < (l1.length : Int) := of_decide_eq_true (by first | (with_reducible assumption) | assumption)
                      obtain ⟨ad113, e113, hx113_0⟩ := Kd.at_int HR1.out x21_1 p113 q113
                      cases e113
                      replace p113 := eq_true p113
                      replace q113 := eq_true q113
                      go_wp2_with (first | ((with_reducible refine gate_callee (f := 30) rfl ?_); refine goesL_ (some 33) rfl rfl Try.func30 (by kernel_rfl) rfl #[.int .i64 a0, .int .i64 (rd l1 x21_1), .int .i64 t111] rfl (by (try simp only [List.map_toArray, List.map_cons, List.map_nil]); first | done | rfl | (simp only [List.length_drop, List.length_take]; rfl)) ?_; (with_reducible refine (split_exact.calls k1 a0 (rd l1 x21_1) t111 t114 t115 _ A10.out).mono ?_); rintro e w' ⟨rfl, ⟨nd, rfl⟩⟩; refine ⟨_, rfl, ?_⟩))
                      go_ret
                      exact ⟨by first | rfl | (simp; done) | (simp [*]; done), by repeat (first | exact Drawn0.refl _ | apply Drawn0.step)⟩
              · rw [if_neg c9] at H
                exact absurd H (by simp)
            · rw [if_neg c8] at H
              exact absurd H (by simp)
          · rw [if_neg c7] at H
            exact absurd H (by simp)
        · rw [if_neg c6] at H
          have c6b0 : decide (x21_1 < (l2.length : Int)) = false := decide_eq_false c6
          clear c6
          replace H := Option.bind_eq_some_iff.mp H
          obtain ⟨t116, A140, H⟩ := H
          replace H : (some (t116 == a0)) = some r := H
          have A14 := Aside0.mk A140
          clear A140
          obtain rfl := Option.some.inj H
          go_wp2_with (first | ((with_reducible refine gate_callee (f := 27) rfl ?_); refine goesL_ (some 51) rfl rfl Try.func27 (by kernel_rfl) rfl #[.slice A2 l2.length c2] rfl (by (try simp only [List.map_toArray, List.map_cons, List.map_nil]); first | done | rfl | (simp only [List.length_drop, List.length_take]; rfl)) ?_; (with_reducible refine (split_sum.calls k1 _ _ l2 t116 _ ?side1 ?side2 A14.out).mono ?_); (case side1 => repeat (first | exact HR2.out | (with_reducible refine Kd.C_alloc ?_ _) | (with_reducible refine Kd.C_drewN ?_ _) | (with_reducible refine Kd.C_drew ?_))); (case side2 => exact HC2.out); rintro e w' ⟨rfl, ⟨nd, rfl⟩⟩; refine ⟨_, rfl, ?_⟩))
          go_ret
          exact ⟨by first | rfl | (simp; done) | (simp [*]; done), by repeat (first | exact Drawn0.refl _ | apply Drawn0.step)⟩
  · rw [if_neg c4] at H
    have c4b0 : ((l2.length : Int) == (l1.length : Int)) = false := beq_eq_false_iff_ne.mpr c4
    have c4b1 : ((l2.length : Int) != (l1.length : Int)) = true := bne_iff_ne.mpr c4
    have c4b2 : (l2.length == l1.length) = false := by first | simpa using c4 | (simp at c4 ⊢; omega)
    obtain rfl := Option.some.inj H
    go_enter Try.func16, Try.ntmps16
    go_wp2
    go_ret
    exact ⟨by first | rfl | (simp; done) | (simp [*]; done), by repeat (first | exact Drawn0.refl _ | apply Drawn0.step)⟩

/-! ### api_Share_37: function 37 (by hand) -/
theorem shareInfo : (Try.prog.info? 41).map (fun i => (i.zero, i.size, i.bytes)) = some (some (.agg #[(.int .i64 0), (.int .i64 0)]), 2, 16) := by kernel_rfl
theorem growNil (n : Nat) (hn : n ≤ 1000000) (w : World) : Calls Try.prog 47 #[.slice none 0 0, .int .i64 (n : Int)] w fun e w' => ∃ v, e = .returned v ∧ Kd.R k41 41 w' w.heap.size (fun _ => True) v ([] : List S41) ∧ Below w.heap.size w w' := by
  rcases Nat.eq_zero_or_pos n with rfl | h
  · refine (Any8.slices_Grow_room Try.growShare none 0 0 0 w (Nat.le_refl _) (by omega) (by omega) (by omega)).mono ?_
    rintro e w' ⟨rfl, rfl⟩
    exact ⟨_, rfl, Kd.R_nil _ _ _ _ _, Below.refl _ _⟩
  · obtain ⟨i0, hi, hzz⟩ := Option.map_eq_some_iff.1 shareInfo
    simp only [Prod.mk.injEq] at hzz
    obtain ⟨hz0, hz1, hz2⟩ := hzz
    refine (Any8.slices_Grow_grow Try.growShare i0 _ hi hz0 (by omega) none 0 0 n [] w (Nat.le_refl _) (by omega) (by rw [hz2]; omega) (by omega) (by simp) (fun _ => rfl) (fun a h => by cases h)).mono ?_
    rintro e w' ⟨rfl, rfl⟩
    refine ⟨_, rfl, ⟨fun _ _ => trivial, [], ⟨by simp, .inr ⟨w.heap.size, _, _, rfl, Nat.le_refl _, blk_new w.drew _, Nat.zero_le _, ?_, ?_, by simp⟩⟩, Reps.none _ _⟩, ?_⟩
    · exact grownCap_le_maxLen w _ _ _ (by simp only [maxLen]; omega)
    · have hg := grownCap_ge w (0 + n) 0 (Try.growShare_ren.t 25)
      have h2 : (Value.agg #[Value.int .i64 0, Value.int .i64 0]).cells.size = 2 := rfl
      have h3 : (k41).sz = 2 := rfl
      simp only [Array.size_append, size_zeroCells, h2, h3, List.size_toArray, List.length_nil]
      omega
    · exact below_alloc (below_drew1 (Below.refl _ _)) _
/-- A literal of numbers, just laid. -/
theorem litInts (W : World) (xs : List Int) (h : xs.length ≤ 1000) : Kd.C (Kd.int .i64) (W.alloc (.cells (nums .i64 xs).toArray 3)) (some ⟨W.heap.size, 0, none⟩) xs.length xs := by
  have h1 := World.ownsRow_lit (base := W.heap.size) (e := 3) (size := 1) W (nums .i64 xs).toArray xs.length (Nat.le_refl _) (by simp only [maxLen]; omega) (by simp [nums])
  rw [List.toList_toArray] at h1
  exact (Kd.R_reads' (R_of_nums (ok := fun _ => True) h1 rfl (fun _ _ => trivial))).2.2
theorem litShare2 (W : World) (a b : S41) : Kd.C k41 (W.alloc (.cells #[.int .i64 a.f0, .int .i64 a.f1, .int .i64 b.f0, .int .i64 b.f1] 41)) (some ⟨W.heap.size, 0, none⟩) 2 [a, b] := by
  refine ⟨rfl, by omega, fun _ => ⟨_, rfl, fun j p hj => ?_⟩⟩
  match j, hj with
  | 0, hj =>
    obtain rfl : a = p := by simpa using hj
    refine ⟨[.int .i64 a.f0, .int .i64 a.f1], rfl, k41_mk _ _, fun i u hu => ?_⟩
    match i, hu with
    | 0, hu => obtain rfl : Value.int .i64 a.f0 = u := by simpa using hu
               simp [Addr.add]
    | 1, hu => obtain rfl : Value.int .i64 a.f1 = u := by simpa using hu
               simp [Addr.add]
  | 1, hj =>
    obtain rfl : b = p := by simpa using hj
    refine ⟨[.int .i64 b.f0, .int .i64 b.f1], rfl, k41_mk _ _, fun i u hu => ?_⟩
    match i, hu with
    | 0, hu => obtain rfl : Value.int .i64 b.f0 = u := by simpa using hu
               show World.cell? _ (Addr.add ⟨W.heap.size, 0, none⟩ 2) = _
               simp [Addr.add]
    | 1, hu => obtain rfl : Value.int .i64 b.f1 = u := by simpa using hu
               show World.cell? _ (Addr.add ⟨W.heap.size, 0, none⟩ 3) = _
               simp [Addr.add]
theorem litInts2 (W : World) (g : Nat) (hg : g = W.heap.size) (xs : List Int) (h : xs.length ≤ 1000) : Kd.C (Kd.int .i64) (W.alloc (.cells (nums .i64 xs).toArray 3)) (some ⟨g, 0, none⟩) xs.length xs := by
  subst hg
  exact litInts W xs h
theorem litShare22 (W : World) (g : Nat) (hg : g = W.heap.size) (a b : S41) : Kd.C k41 (W.alloc (.cells #[.int .i64 a.f0, .int .i64 a.f1, .int .i64 b.f0, .int .i64 b.f1] 41)) (some ⟨g, 0, none⟩) 2 [a, b] := by
  subst hg
  exact litShare2 W a b
set_option maxHeartbeats 4000000 in
set_option maxRecDepth 100000 in
theorem concat2 (A0 : Option Addr) (c0 : Nat) (l0 : List S41) (A1 : Option Addr) (c1 : Nat) (l1 : List S41) (g : Nat) (w : World) (h0 : w.cell? ⟨g, 0, none⟩ = some (.slice A0 l0.length c0)) (h1 : w.cell? ⟨g, 1, none⟩ = some (.slice A1 l1.length c1))
    (hr0 : Kd.C k41 w A0 l0.length l0) (hr1 : Kd.C k41 w A1 l1.length l1) (hl : l0.length + l1.length ≤ 1000) :
    Calls Try.prog 37 #[.slice (some ⟨g, 0, none⟩) 2 2] w fun e w' => ∃ v, e = .returned v ∧ Kd.R k41 41 w' w.heap.size (fun _ => True) v (l0 ++ l1) ∧ Below w.heap.size w w' := by
  have HR0 := Aside0.mk hr0
  have HR1 := Aside0.mk hr1
  have HL := Aside0.mk hl
  have HB0 := Aside0.mk (Below.refl w.heap.size w)
  obtain ⟨N, hN⟩ : ∃ N, N = l0.length + l1.length := ⟨_, rfl⟩
  have HN := Aside0.mk hN
  have e1 : wrap64 ((l0.length : Nat) : Int) = ((l0.length : Nat) : Int) := w64 rfl (by omega)
  have e2 : wrap64 (((l0.length : Nat) : Int) + ((l1.length : Nat) : Int)) = (N : Int) := w64 (by rw [hN]; simp) (by clear e1; omega)
  have n1 : ¬ ((l0.length : Nat) : Int) < 0 := by clear e1 e2; omega
  have n2 : ¬ (N : Int) < 0 := by clear e1 e2; omega
  have HG : Aside0 (∀ W, Calls Try.prog 47 #[.slice none 0 0, .int .i64 (N : Int)] W fun e w' => ∃ v, e = .returned v ∧ Kd.R k41 41 w' W.heap.size (fun _ => True) v ([] : List S41) ∧ Below W.heap.size W w') := ⟨fun W => growNil N (by clear e1 e2; omega) W⟩
  have HGL : Aside0 (g < w.heap.size) := ⟨World.block_lt_of_cell? w _ h0⟩
  clear hr0 hr1 hl hN
  go_enter Try.func37, Try.ntmps37
  go_wp2
  refine wp_loop_rounds 3 ?_
  rw [rounds_succ]
  go_wp2
  rw [rounds_succ]
  go_wp2
  rw [rounds_succ]
  go_wp2_with (go_at_call 47; refine (HG.out _).mono ?_; rintro e w1 ⟨v1, rfl, ho1, hb1⟩; have HO1 := Aside0.mk ho1; have HB1 := Aside0.mk hb1; have hc0 := pw_cell_below hb1 h0; have hc1 := pw_cell_below hb1 h1; clear ho1 hb1)
  clear e1 e2 n1 n2
  refine wp_loop_rounds 3 ?_
  rw [rounds_succ]
  go_wp2_with (((with_reducible refine gate_builtin (b := .append) (xs := #[.tmp 31, .tmp 32]) rfl ?_); at_builtin; refine Kd.R_append_rows k41 (w0 := w) w.heap.size rfl (.tmp 31) (.tmp 32) 32 41 (.agg #[(.int .i64 0), (.int .i64 0)]) 16 rfl Try.underlying32 shareInfo rfl (by decide) (by omega) v1 ([] : List S41) l0 _ _ _ (fun _ => True) (fun _ => False) rfl rfl HO1.out (Kd.C_below HR0.out HB1.out) (fun _ _ h => h) (fun _ h => h.elim) (fun _ _ => trivial) HB1.out HB1.out.size (by have := HL.out; simp; omega) ?_; intro v2 w2 ho hb _ _; have HO2 := Aside0.mk ho; have HB2 := Aside0.mk hb; have hd0 := (World.cell?_of_block (hb.block g HGL.out)).trans h0; have hd1 := (World.cell?_of_block (hb.block g HGL.out)).trans h1; clear ho hb))
  rw [rounds_succ]
  go_wp2_with (((with_reducible refine gate_builtin (b := .append) (xs := #[.tmp 31, .tmp 32]) rfl ?_); at_builtin; refine Kd.R_append_rows k41 (w0 := w) w.heap.size rfl (.tmp 31) (.tmp 32) 32 41 (.agg #[(.int .i64 0), (.int .i64 0)]) 16 rfl Try.underlying32 shareInfo rfl (by decide) (by omega) v2 ([] ++ l0) l1 _ _ _ (fun _ => True) (fun _ => False) rfl rfl HO2.out (Kd.C_below HR1.out HB2.out) (fun _ _ h => h) (fun _ h => h.elim) (fun _ _ => trivial) HB2.out HB2.out.size (by have := HL.out; simp; omega) ?_; intro v3 w3 ho hb _ _; have HO3 := Aside0.mk ho; have HB3 := Aside0.mk hb; clear ho hb))
  rw [rounds_succ]
  go_wp2
  go_ret
  exact ⟨_, rfl, by simpa using HO3.out, HB3.out⟩

/-! ### split_plus: function 38 -/
def split_plus.f (a0 : Int) (a1 : Int) : Option (Int × Bool) := if a1 > (wrap64 (1099511627776 - a0)) then (some (0, false)) else (if a1 < (wrap64 ((-1099511627776) - a0)) then (some (0, false)) else (some (wrap64 (a0 + a1), true)))
set_option maxHeartbeats 8000000 in
set_option maxRecDepth 100000 in
theorem split_plus.calls (a0 : Int) (a1 : Int) (r1 : Int) (r2 : Bool) (w : World) (h : split_plus.f a0 a1 = some (r1, r2)) :
    Calls Try.prog 38 #[.int .i64 a0, .int .i64 a1] w fun e w' => e = .returned (.tuple #[.int .i64 r1, .bool r2]) ∧ Drawn0 w w' := by
  have H : (if a1 > (wrap64 (1099511627776 - a0)) then (some (0, false)) else (if a1 < (wrap64 ((-1099511627776) - a0)) then (some (0, false)) else (some (wrap64 (a0 + a1), true)))) = some (r1, r2) := h
  clear h
  by_cases c3 : a1 > (wrap64 (1099511627776 - a0))
  · rw [if_pos c3] at H
    have c3b0 : decide ((wrap64 (1099511627776 - a0)) < a1) = true := decide_eq_true c3
    clear c3
    simp only [Option.some.injEq, Prod.mk.injEq] at H
    obtain ⟨rfl, rfl⟩ := H
    go_enter Try.func38, Try.ntmps38
    go_wp2
    go_ret2
    exact ⟨by first | rfl | (simp; done) | (simp [*]; done), by repeat (first | exact Drawn0.refl _ | apply Drawn0.step)⟩
  · rw [if_neg c3] at H
    have c3b0 : decide ((wrap64 (1099511627776 - a0)) < a1) = false := decide_eq_false c3
    clear c3
    by_cases c4 : a1 < (wrap64 ((-1099511627776) - a0))
    · rw [if_pos c4] at H
      have c4b0 : decide (a1 < (wrap64 ((-1099511627776) - a0))) = true := decide_eq_true c4
      clear c4
      simp only [Option.some.injEq, Prod.mk.injEq] at H
      obtain ⟨rfl, rfl⟩ := H
      go_enter Try.func38, Try.ntmps38
      go_wp2
      go_ret2
      exact ⟨by first | rfl | (simp; done) | (simp [*]; done), by repeat (first | exact Drawn0.refl _ | apply Drawn0.step)⟩
    · rw [if_neg c4] at H
      have c4b0 : decide (a1 < (wrap64 ((-1099511627776) - a0))) = false := decide_eq_false c4
      clear c4
      simp only [Option.some.injEq, Prod.mk.injEq] at H
      obtain ⟨rfl, rfl⟩ := H
      go_enter Try.func38, Try.ntmps38
      go_wp2
      go_ret2
      exact ⟨by first | rfl | (simp; done) | (simp [*]; done), by repeat (first | exact Drawn0.refl _ | apply Drawn0.step)⟩

/-! ### split_Add_1: function 40 -/
def split_Add_1.f (a0_0 : Int) (a0_1 : Int) (a1_0 : Int) (a1_1 : Int) : Option (Int) := (cmp_Compare_int.f a0_0 a1_0).bind fun t119 => (some t119)
set_option maxHeartbeats 8000000 in
set_option maxRecDepth 100000 in
theorem split_Add_1.calls (a0_0 : Int) (a0_1 : Int) (a1_0 : Int) (a1_1 : Int) (r : Int) (w : World) (h : split_Add_1.f a0_0 a0_1 a1_0 a1_1 = some r) :
    Calls Try.prog 40 #[.agg #[.int .i64 a0_0, .int .i64 a0_1], .agg #[.int .i64 a1_0, .int .i64 a1_1]] w fun e w' => e = .returned (.int .i64 r) ∧ BelowD w w' := by
  have hu41 := Try.underlying41
  have HB := Aside0.mk (BelowD.refl w)
  have H : ((cmp_Compare_int.f a0_0 a1_0).bind fun t119 => (some t119)) = some r := h
  clear h
  replace H := Option.bind_eq_some_iff.mp H
  obtain ⟨t119, A30, H⟩ := H
  replace H : (some t119) = some r := H
  have A3 := Aside0.mk A30
  clear A30
  obtain rfl := Option.some.inj H
  go_enter Try.func40, Try.ntmps40
  go_wp2_with (first | ((with_reducible refine gate_dst (N := 2) rfl ?_); refine dbox_event ?hg (N := 2) ?hd (cs := #[.int .i64 a0_0, .int .i64 a0_1]) (t := 41) ?hr ?_; (case hd => rfl); (case hg => rfl); (case hr => first | (go_simp; done) | (go_simp; rfl)); intro gb117 hg w4 hbox hb; have n0_ := Aside0.mk (dbelow_step (by repeat (first | (with_reducible first | exact HB.out | apply dbelow_alloc | apply dbelow_drewN | apply dbelow_drew1) | exact HB.out)) hb); have n1_ := Aside0.mk (hbox); have n2_ := Aside0.mk ((by rw [hg]; exact (dbelow_size (by repeat (first | (with_reducible first | exact HB.out | apply dbelow_alloc | apply dbelow_drewN | apply dbelow_drew1) | exact HB.out))) : w.heap.size ≤ gb117)); have n3_ := Aside0.mk ((by rw [hg]; exact (dbelow_size (by repeat (first | (with_reducible first | exact HB.out | apply dbelow_alloc | apply dbelow_drewN | apply dbelow_drew1) | exact HB.out))) : w.heap.size ≤ gb117)); clear HB; have HB := n0_; have BK117 := n1_; have GW117 := n2_; have GE117 := n3_; clear n0_ n1_ n2_ n3_; clear hb hbox hg) | ((with_reducible refine gate_dst (N := 3) rfl ?_); refine dbox_event ?hg (N := 3) ?hd (cs := #[.int .i64 a1_0, .int .i64 a1_1]) (t := 41) ?hr ?_; (case hd => rfl); (case hg => rfl); (case hr => first | (go_simp; done) | (go_simp; rfl)); intro gb118 hg w5 hbox hb; have n0_ := Aside0.mk (dblk_below (g := gb117) (o := .cells #[.int .i64 a0_0, .int .i64 a0_1] 41 (0, 0)) (by (with_reducible repeat (first | refine blk_drewN ?_ _ | refine blk_drew ?_ | refine blk_alloc ?_ _)); exact BK117.out) hb); have n1_ := Aside0.mk (dbelow_step (by repeat (first | (with_reducible first | exact HB.out | apply dbelow_alloc | apply dbelow_drewN | apply dbelow_drew1 | refine dbelow_set ?_ GE117.out) | exact HB.out)) hb); have n2_ := Aside0.mk (hbox); have n3_ := Aside0.mk ((by rw [hg]; exact (dbelow_size (by repeat (first | (with_reducible first | exact HB.out | apply dbelow_alloc | apply dbelow_drewN | apply dbelow_drew1 | refine dbelow_set ?_ GE117.out) | exact HB.out))) : w.heap.size ≤ gb118)); have n4_ := Aside0.mk ((by rw [hg]; exact (dbelow_size (by repeat (first | (with_reducible first | exact HB.out | apply dbelow_alloc | apply dbelow_drewN | apply dbelow_drew1 | refine dbelow_set ?_ GE117.out) | exact HB.out))) : w.heap.size ≤ gb118)); have n5_ := Aside0.mk ((by rw [hg]; exact Nat.ne_of_lt (blk_lt (g := gb117) (o := .cells #[.int .i64 a0_0, .int .i64 a0_1] 41 (0, 0)) (by (with_reducible repeat (first | refine blk_drewN ?_ _ | refine blk_drew ?_ | refine blk_alloc ?_ _)); exact BK117.out)) : gb117 ≠ gb118)); have n6_ := Aside0.mk ((by rw [hg]; exact Nat.ne_of_gt (blk_lt (g := gb117) (o := .cells #[.int .i64 a0_0, .int .i64 a0_1] 41 (0, 0)) (by (with_reducible repeat (first | refine blk_drewN ?_ _ | refine blk_drew ?_ | refine blk_alloc ?_ _)); exact BK117.out)) : gb118 ≠ gb117)); clear BK117; clear HB; have BK117 := n0_; have HB := n1_; have BK118 := n2_; have GW118 := n3_; have GE118 := n4_; have NB117_118 := n5_; have NB118_117 := n6_; clear n0_ n1_ n2_ n3_ n4_ n5_ n6_; clear hb hbox hg; have hnb6 := NB117_118.out; have hnc6 := NB118_117.out; have hcz7_0 : w5.cell? ⟨gb117, 0, none⟩ = some (.int .i64 a0_0) := (blk_cell BK117.out 0).trans rfl; have hcz7_1 : w5.cell? ⟨gb117, 1, none⟩ = some (.int .i64 a0_1) := (blk_cell BK117.out 1).trans rfl; have hfz7_0 := blk_frozen BK117.out 0; have hfz7_1 := blk_frozen BK117.out 1; have hcz8_0 : w5.cell? ⟨gb118, 0, none⟩ = some (.int .i64 a1_0) := (blk_cell BK118.out 0).trans rfl; have hcz8_1 : w5.cell? ⟨gb118, 1, none⟩ = some (.int .i64 a1_1) := (blk_cell BK118.out 1).trans rfl; have hfz8_0 := blk_frozen BK118.out 0; have hfz8_1 := blk_frozen BK118.out 1) | ((with_reducible refine gate_callee (f := 34) rfl ?_); refine goesL_ (some 9) rfl rfl Try.func34 (by kernel_rfl) rfl #[.int .i64 a0_0, .int .i64 a1_0] rfl (by (try simp only [List.map_toArray, List.map_cons, List.map_nil]); first | done | rfl | (simp only [List.length_drop, List.length_take]; rfl)) ?_; (with_reducible refine (cmp_Compare_int.calls a0_0 a1_0 t119 _ A3.out).mono ?_); rintro e w' ⟨rfl, ⟨nd, rfl⟩⟩; refine ⟨_, rfl, ?_⟩))
  go_ret
  exact ⟨by first | rfl | (simp [errW_none, errW_some] <;> rfl) | (simp [*, errW_none, errW_some] <;> rfl), by repeat (first | (with_reducible first | exact HB.out | apply dbelow_alloc | apply dbelow_drewN | apply dbelow_drew1 | refine dbelow_set ?_ GE117.out | refine dbelow_set ?_ GE118.out) | exact HB.out)⟩

/-! ### api_Share_39: function 39 (by hand) -/
instance : Inhabited S41 := ⟨z41⟩
/-- The order of Add: by the operator. -/
def api_Share_39.cf (x y : S41) : Int := if x.f0 < y.f0 then -1 else if y.f0 < x.f0 then 1 else 0
theorem api_Share_39.lt (x y : S41) : ltOf api_Share_39.cf x y = decide (x.f0 < y.f0) := by
  unfold ltOf api_Share_39.cf
  by_cases h1 : x.f0 < y.f0
  · simp [h1]
  · by_cases h2 : y.f0 < x.f0 <;> simp [h1, h2]
theorem api_Share_39.swo : Go.Sort.SWO (ltOf api_Share_39.cf) where
  irrefl x := by rw [api_Share_39.lt]; simp
  trans x y z h1 h2 := by rw [api_Share_39.lt] at *; simp at *; omega
  ntrans x y z h1 h2 := by rw [api_Share_39.lt] at *; simp at *; omega
theorem api_Share_39.cmp (x y : S41) : split_Add_1.f x.f0 x.f1 y.f0 y.f1 = some (api_Share_39.cf x y) := by
  unfold split_Add_1.f api_Share_39.cf
  rw [compare_is]
  rfl
def api_Share_39.f (l0 : List (S41)) : Option (List (S41)) := if (l0.length : Int) < 4611686018427387904 then some (sortPdq api_Share_39.cf l0) else none
def api_Share_39.enc (x : S41) : List Value := [.int .i64 x.f0, .int .i64 x.f1]
theorem api_Share_39.lays (blk off size : Nat) (w : World) : CmpLays Try.prog 40 #[] api_Share_39.enc 2 api_Share_39.cf blk off size w := by
  intro m os dk _ x y
  exact (split_Add_1.calls x.f0 x.f1 y.f0 y.f1 _ _ (api_Share_39.cmp x y)).mono fun e w' ⟨he, hb⟩ => ⟨he, hb.grown⟩
set_option maxHeartbeats 4000000 in
theorem api_Share_39.calls (P0_ : Nat → Prop) (u9000_ : Value) (l0 : List (S41)) (r : List (S41)) (w0 w : World) (hB : Below w0.heap.size w0 w) (ho0 : Kd.R k41 41 w w0.heap.size P0_ u9000_ l0) (h : api_Share_39.f l0 = some r) :
    Calls Try.prog 39 #[u9000_, .func (.func 40) #[] #[]] w fun e w' => e = .returned (.tuple #[]) ∧ Kd.R k41 41 w' w0.heap.size (fun k_ => (P0_ k_ ∨ w.heap.size ≤ k_)) u9000_ r ∧ Below w0.heap.size w0 w' ∧ Kept w w' (fun k_ => P0_ k_) := by
  unfold api_Share_39.f at h
  by_cases hsz : (l0.length : Int) < 4611686018427387904
  · rw [if_pos hsz] at h
    obtain rfl := Option.some.inj h
    by_cases hl : l0 = []
    · subst hl
      obtain ⟨A0, c0, rfl⟩ := Kd.R_slice ho0
      refine (AnyF.slices_SortFunc_none { Try.sortShare with } A0 c0 (.func (.func 40) #[] #[]) w).mono ?_
      rintro e w' ⟨rfl, rfl⟩
      rw [sortPdq_nil _ api_Share_39.swo]
      exact ⟨rfl, Kd.R_mono ho0 (fun k_ hk => .inl hk), hB, Kept.refl _ _⟩
    · obtain ⟨g, cap, rfl, hBg, hPg, hg, hH, hpost⟩ := sort_row k41 api_Share_39.enc (fun h => k41_openM h) (k41_mkM _ _ _ _) (fun _ => rfl) _ w _ P0_ u9000_ l0 ho0 hl
      have eg : ∀ args w, (callFunc 40 args).run Try.prog w = .ok (.enter 40 args) w := enters_of Try.func40 (by kernel_rfl) rfl
      have hsz' : l0.toArray.size < 4611686018427387904 := by rw [List.size_toArray]; omega
      have hcon := AnyQ.slices_SortFunc_eq Try.sortShare 2 Try.isAgg41 Try.sizeOf41 api_Share_39.enc (fun _ => rfl) (fun x v hv => by simp [api_Share_39.enc] at hv; rcases hv with rfl | rfl <;> rfl) api_Share_39.cf api_Share_39.swo 40 #[] g 0 cap l0.toArray w eg (api_Share_39.lays g 0 _ w) hH hg hsz'
      refine hcon.mono ?_
      rintro e w' ⟨rfl, n, os, rfl⟩
      obtain ⟨hR, hK, hBB⟩ := hpost (Go.Sort.pdq (ltOf api_Share_39.cf) l0.toArray 0 l0.toArray.size (Lib.bitLen l0.toArray.size) true true) n os (by simpa using sortPdq_size api_Share_39.cf api_Share_39.swo l0)
      exact ⟨rfl, Kd.R_mono hR (fun k_ hk => .inl hk), hBB w0 rfl hB, hK⟩
  · rw [if_neg hsz] at h
    exact absurd h (by simp)

end Go.Proofs.Ytamockdikeadnaa.Px
