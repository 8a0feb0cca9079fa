-- Lines of this text were written by the print of the kit, run by a program of this session (print2.py).
import Derived.Test.YtmijeihhioiliaaPx0
import Derived.Test.YtmijeihhioiliaaPx2
import Derived.Test.YtmijeihhioiliaaPx3
import Derived.Test.YtmijeihhioiliaaPx4
import Derived.Test.YtmijeihhioiliaaPx10
namespace Go.Proofs.Ytmijeihhioiliaa.Px
open Go.RowKit Go.Proofs.YtmijeihhioiliaaW.PrintWords Go.Proofs.YtmijeihhioiliaaW.PrintLast Go.Proofs.YtmijeihhioiliaaW.PrintMore
attribute [local go_sem] max2_int min2_int max_two min_two max_three min_three max_four min_four   -- for this text's walks alone
set_option linter.unusedVariables false
set_option linter.unusedSimpArgs false

/-! ### skiarealaw02_ClockFirst: function 8 -/
mutual
def skiarealaw02_ClockFirst.j0 : Nat → List (S42) → Int → Bool → Option (Bool)
  | 0, _, _, _ => none
  | k + 1, x0, x2, x62 => if x62 = true then (some false) else (if x2 < 0 then (skiarealaw02_ClockFirst.j1 k x0 x2 true) else (skiarealaw02_ClockFirst.j1 k x0 x2 (decide (x2 > 19395200))))
def skiarealaw02_ClockFirst.j1 : Nat → List (S42) → Int → Bool → Option (Bool)
  | 0, _, _, _ => none
  | k + 1, x0, x2, x68 => if x68 = true then (some true) else ((clock_In.f x0 x2).bind fun t339 => ((clock_In.f x0 (wrap64 (x2 + 604800))).bind fun t340 => (if (t339 == t340) = true then ((clock_Weekday.f x2).bind fun t341 => ((clock_Weekday.f (wrap64 (x2 + 604800))).bind fun t342 => (if t341 = t342 then ((clock_Day.f (wrap64 (x2 + 604800))).bind fun t343 => ((clock_Day.f x2).bind fun t344 => (if t343 = (wrap64 (t344 + 7)) then ((clock_Second.f x2).bind fun t345 => (some ((wrap64 ((wrap64 (t344 * 86400)) + t345)) == x2))) else (some false)))) else (some false)))) else (some false))))
end
def skiarealaw02_ClockFirst.f (k : Nat) (l0 : List (S42)) (a1 : Int) (a2 : Int) : Option (Bool) := (skiarealaw02_alive.f k).bind fun t333 => (if t333 = true then (if (l0.length : Int) > 100 then (some true) else ((clock_Next.f k l0 a1).bind fun bt334 => (if bt334.2 = true then (if bt334.1 < a1 then (skiarealaw02_ClockFirst.j0 k l0 a2 true) else (if bt334.1 < 0 then (skiarealaw02_ClockFirst.j0 k l0 a2 true) else ((clock_In.f l0 bt334.1).bind fun t336 => (if t336 = true then (if a2 ≥ a1 then (if a2 < bt334.1 then ((clock_In.f l0 a2).bind fun t337 => (skiarealaw02_ClockFirst.j0 k l0 a2 t337)) else (skiarealaw02_ClockFirst.j0 k l0 a2 false)) else (skiarealaw02_ClockFirst.j0 k l0 a2 false)) else (skiarealaw02_ClockFirst.j0 k l0 a2 true))))) else (if bt334.1 = 0 then (if a2 ≥ a1 then ((clock_In.f l0 a2).bind fun t338 => (skiarealaw02_ClockFirst.j0 k l0 a2 t338)) else (skiarealaw02_ClockFirst.j0 k l0 a2 false)) else (skiarealaw02_ClockFirst.j0 k l0 a2 true))))) else (some false))
theorem skiarealaw02_ClockFirst.mono_l : ∀ k, (∀ y0 y1 y2, LeO (skiarealaw02_ClockFirst.j0 k y0 y1 y2) (skiarealaw02_ClockFirst.j0 (k + 1) y0 y1 y2)) ∧ (∀ y0 y1 y2, LeO (skiarealaw02_ClockFirst.j1 k y0 y1 y2) (skiarealaw02_ClockFirst.j1 (k + 1) y0 y1 y2))
  | 0 => ⟨fun _ _ _ r h => by simp [skiarealaw02_ClockFirst.j0] at h, fun _ _ _ r h => by simp [skiarealaw02_ClockFirst.j1] at h⟩
  | k + 1 => by
    obtain ⟨ih0, ih1⟩ := skiarealaw02_ClockFirst.mono_l k
    refine ⟨?_, ?_⟩
    · intro y0 y1 y2
      unfold skiarealaw02_ClockFirst.j0
      repeat' first
      | (with_reducible exact ih0 _ _ _)
      | (with_reducible exact ih1 _ _ _)
      | (with_reducible exact clock_Next.mono _ _ _)
      | (with_reducible exact skiarealaw02_alive.mono _)
      | (with_reducible exact LeO.refl _)
      | (with_reducible exact LeO.none _)
      | (with_reducible refine LeO.ite ?_ ?_)
      | (with_reducible refine LeO.bind ?_ (fun _ => ?_))
      | exact ih0 _ _ _
      | exact ih1 _ _ _
      | exact clock_Next.mono _ _ _
      | exact skiarealaw02_alive.mono _
      | exact LeO.none _
      | refine LeO.ite ?_ ?_
      | refine LeO.bind ?_ (fun _ => ?_)
    · intro y0 y1 y2
      unfold skiarealaw02_ClockFirst.j1
      repeat' first
      | (with_reducible exact ih0 _ _ _)
      | (with_reducible exact ih1 _ _ _)
      | (with_reducible exact clock_Next.mono _ _ _)
      | (with_reducible exact skiarealaw02_alive.mono _)
      | (with_reducible exact LeO.refl _)
      | (with_reducible exact LeO.none _)
      | (with_reducible refine LeO.ite ?_ ?_)
      | (with_reducible refine LeO.bind ?_ (fun _ => ?_))
      | exact ih0 _ _ _
      | exact ih1 _ _ _
      | exact clock_Next.mono _ _ _
      | exact skiarealaw02_alive.mono _
      | exact LeO.none _
      | refine LeO.ite ?_ ?_
      | refine LeO.bind ?_ (fun _ => ?_)
theorem skiarealaw02_ClockFirst.mono : ∀ a0 a1 a2 k, LeO (skiarealaw02_ClockFirst.f k a0 a1 a2) (skiarealaw02_ClockFirst.f (k + 1) a0 a1 a2) := by
  intro a0 a1 a2 k
  obtain ⟨ih0, ih1⟩ := skiarealaw02_ClockFirst.mono_l k
  unfold skiarealaw02_ClockFirst.f
  repeat' first
      | (with_reducible exact ih0 _ _ _)
      | (with_reducible exact ih1 _ _ _)
      | (with_reducible exact clock_Next.mono _ _ _)
      | (with_reducible exact skiarealaw02_alive.mono _)
      | (with_reducible exact LeO.refl _)
      | (with_reducible exact LeO.none _)
      | (with_reducible refine LeO.ite ?_ ?_)
      | (with_reducible refine LeO.bind ?_ (fun _ => ?_))
      | exact ih0 _ _ _
      | exact ih1 _ _ _
      | exact clock_Next.mono _ _ _
      | exact skiarealaw02_alive.mono _
      | exact LeO.none _
      | refine LeO.ite ?_ ?_
      | refine LeO.bind ?_ (fun _ => ?_)
set_option maxHeartbeats 8000000 in
set_option maxRecDepth 100000 in
theorem skiarealaw02_ClockFirst.calls (k : Nat) (A0 : Option Addr) (c0 : Nat) (l0 : List (S42)) (a1 : Int) (a2 : Int) (r : Bool) (w : World) (hr0 : Kd.C k42 w A0 l0.length l0) (hc0 : l0.length ≤ c0) (h : skiarealaw02_ClockFirst.f k l0 a1 a2 = some r) :
    Calls Try.prog 8 #[.slice A0 l0.length c0, .int .i64 a1, .int .i64 a2] w fun e w' => e = .returned (.bool r) ∧ Below w.heap.size w w' := by
  have HR0 := Aside0.mk hr0
  have HC0 := Aside0.mk hc0
  clear hr0 hc0
  have HB := Aside0.mk (Below.refl w.heap.size w)
  have H : ((skiarealaw02_alive.f k).bind fun t333 => (if t333 = true then (if (l0.length : Int) > 100 then (some true) else ((clock_Next.f k l0 a1).bind fun bt334 => (if bt334.2 = true then (if bt334.1 < a1 then (skiarealaw02_ClockFirst.j0 k l0 a2 true) else (if bt334.1 < 0 then (skiarealaw02_ClockFirst.j0 k l0 a2 true) else ((clock_In.f l0 bt334.1).bind fun t336 => (if t336 = true then (if a2 ≥ a1 then (if a2 < bt334.1 then ((clock_In.f l0 a2).bind fun t337 => (skiarealaw02_ClockFirst.j0 k l0 a2 t337)) else (skiarealaw02_ClockFirst.j0 k l0 a2 false)) else (skiarealaw02_ClockFirst.j0 k l0 a2 false)) else (skiarealaw02_ClockFirst.j0 k l0 a2 true))))) else (if bt334.1 = 0 then (if a2 ≥ a1 then ((clock_In.f l0 a2).bind fun t338 => (skiarealaw02_ClockFirst.j0 k l0 a2 t338)) else (skiarealaw02_ClockFirst.j0 k l0 a2 false)) else (skiarealaw02_ClockFirst.j0 k l0 a2 true))))) else (some false))) = some r := h
  clear h
  replace H := Option.bind_eq_some_iff.mp H
  obtain ⟨t333, A40, H⟩ := H
  replace H : (if t333 = true then (if (l0.length : Int) > 100 then (some true) else ((clock_Next.f k l0 a1).bind fun bt334 => (if bt334.2 = true then (if bt334.1 < a1 then (skiarealaw02_ClockFirst.j0 k l0 a2 true) else (if bt334.1 < 0 then (skiarealaw02_ClockFirst.j0 k l0 a2 true) else ((clock_In.f l0 bt334.1).bind fun t336 => (if t336 = true then (if a2 ≥ a1 then (if a2 < bt334.1 then ((clock_In.f l0 a2).bind fun t337 => (skiarealaw02_ClockFirst.j0 k l0 a2 t337)) else (skiarealaw02_ClockFirst.j0 k l0 a2 false)) else (skiarealaw02_ClockFirst.j0 k l0 a2 false)) else (skiarealaw02_ClockFirst.j0 k l0 a2 true))))) else (if bt334.1 = 0 then (if a2 ≥ a1 then ((clock_In.f l0 a2).bind fun t338 => (skiarealaw02_ClockFirst.j0 k l0 a2 t338)) else (skiarealaw02_ClockFirst.j0 k l0 a2 false)) else (skiarealaw02_ClockFirst.j0 k l0 a2 true))))) else (some false)) = some r := H
  have A4 := Aside0.mk A40
  clear A40
  by_cases c5 : t333 = true
  · subst c5
    have H1 : (if (l0.length : Int) > 100 then (some true) else ((clock_Next.f k l0 a1).bind fun bt334 => (if bt334.2 = true then (if bt334.1 < a1 then (skiarealaw02_ClockFirst.j0 k l0 a2 true) else (if bt334.1 < 0 then (skiarealaw02_ClockFirst.j0 k l0 a2 true) else ((clock_In.f l0 bt334.1).bind fun t336 => (if t336 = true then (if a2 ≥ a1 then (if a2 < bt334.1 then ((clock_In.f l0 a2).bind fun t337 => (skiarealaw02_ClockFirst.j0 k l0 a2 t337)) else (skiarealaw02_ClockFirst.j0 k l0 a2 false)) else (skiarealaw02_ClockFirst.j0 k l0 a2 false)) else (skiarealaw02_ClockFirst.j0 k l0 a2 true))))) else (if bt334.1 = 0 then (if a2 ≥ a1 then ((clock_In.f l0 a2).bind fun t338 => (skiarealaw02_ClockFirst.j0 k l0 a2 t338)) else (skiarealaw02_ClockFirst.j0 k l0 a2 false)) else (skiarealaw02_ClockFirst.j0 k l0 a2 true))))) = some r := by rw [if_pos rfl] at H; exact H
    clear H
    have H := H1
    clear H1
    by_cases c6 : (l0.length : Int) > 100
    · rw [if_pos c6] at H
      have c6b0 : decide (100 < (l0.length : Int)) = true := decide_eq_true c6
      have c6b1 : decide (100 < l0.length) = true := decide_eq_true (by omega)
      clear c6
      obtain rfl := Option.some.inj H
      go_enter Try.func8, Try.ntmps8
      go_wp2_with (first | ((with_reducible refine gate_callee (f := 11) rfl ?_); refine goesL_ (some 9) rfl rfl Try.func11 (by kernel_rfl) rfl #[] rfl (by (try simp only [List.map_toArray, List.map_cons, List.map_nil]); first | done | rfl | (simp only [List.length_drop, List.length_take]; rfl)) ?_; (with_reducible refine (skiarealaw02_alive.calls k  true _ A4.out).mono ?_); rintro e w7 ⟨rfl, hb⟩; refine ⟨_, rfl, ?_⟩; have n0_ := Aside0.mk (below_step (by repeat (first | (with_reducible first | exact HB.out | apply below_alloc | apply pw_below_drewN | apply below_drew1) | exact HB.out)) hb); clear HB; have HB := n0_; clear n0_; (try clear hb); (try clear hb2); (try clear hk); (try clear hi)))
      go_ret
      exact ⟨by first | rfl | (simp [errW_none, errW_some] <;> rfl) | (simp [*, errW_none, errW_some] <;> rfl), by repeat (first | (with_reducible first | exact HB.out | apply below_alloc | apply pw_below_drewN | apply below_drew1) | exact HB.out)⟩
    · rw [if_neg c6] at H
      have c6b0 : decide (100 < (l0.length : Int)) = false := decide_eq_false c6
      have c6b1 : decide (100 < l0.length) = false := decide_eq_false (by omega)
      clear c6
      replace H := Option.bind_eq_some_iff.mp H
      obtain ⟨⟨t334, t335⟩, A80, H⟩ := H
      replace H : (if t335 = true then (if t334 < a1 then (skiarealaw02_ClockFirst.j0 k l0 a2 true) else (if t334 < 0 then (skiarealaw02_ClockFirst.j0 k l0 a2 true) else ((clock_In.f l0 t334).bind fun t336 => (if t336 = true then (if a2 ≥ a1 then (if a2 < t334 then ((clock_In.f l0 a2).bind fun t337 => (skiarealaw02_ClockFirst.j0 k l0 a2 t337)) else (skiarealaw02_ClockFirst.j0 k l0 a2 false)) else (skiarealaw02_ClockFirst.j0 k l0 a2 false)) else (skiarealaw02_ClockFirst.j0 k l0 a2 true))))) else (if t334 = 0 then (if a2 ≥ a1 then ((clock_In.f l0 a2).bind fun t338 => (skiarealaw02_ClockFirst.j0 k l0 a2 t338)) else (skiarealaw02_ClockFirst.j0 k l0 a2 false)) else (skiarealaw02_ClockFirst.j0 k l0 a2 true))) = some r := H
      have A8 := Aside0.mk A80
      clear A80
      have HC9 := Aside0.mk H
      clear H
      go_enter Try.func8, Try.ntmps8
      go_upto_region 6 with (first | ((with_reducible refine gate_callee (f := 11) rfl ?_); refine goesL_ (some 9) rfl rfl Try.func11 (by kernel_rfl) rfl #[] rfl (by (try simp only [List.map_toArray, List.map_cons, List.map_nil]); first | done | rfl | (simp only [List.length_drop, List.length_take]; rfl)) ?_; (with_reducible refine (skiarealaw02_alive.calls k  true _ A4.out).mono ?_); rintro e w10 ⟨rfl, hb⟩; refine ⟨_, rfl, ?_⟩; have n0_ := Aside0.mk (below_step (by repeat (first | (with_reducible first | exact HB.out | apply below_alloc | apply pw_below_drewN | apply below_drew1) | exact HB.out)) hb); clear HB; have HB := n0_; clear n0_; (try clear hb); (try clear hb2); (try clear hk); (try clear hi)) | ((with_reducible refine gate_callee (f := 22) rfl ?_); refine goesL_ (some 17) rfl rfl Try.func22 (by kernel_rfl) rfl #[.slice A0 l0.length c0, .int .i64 a1] rfl (by (try simp only [List.map_toArray, List.map_cons, List.map_nil]); first | done | rfl | (simp only [List.length_drop, List.length_take]; rfl)) ?_; (with_reducible refine (clock_Next.calls k _ _ l0 a1 t334 t335 _ ?side1 ?side2 A8.out).mono ?_); (case side1 => repeat (first | exact (Kd.C_below HR0.out HB.out) | (with_reducible refine Kd.C_alloc ?_ _) | (with_reducible refine Kd.C_drewN ?_ _) | (with_reducible refine Kd.C_drew ?_))); (case side2 => exact HC0.out); rintro e w11 ⟨rfl, hb⟩; refine ⟨_, rfl, ?_⟩; have n0_ := Aside0.mk (below_step (by repeat (first | (with_reducible first | exact HB.out | apply below_alloc | apply pw_below_drewN | apply below_drew1) | exact HB.out)) hb); clear HB; have HB := n0_; clear n0_; (try clear hb); (try clear hb2); (try clear hk); (try clear hi)))
      (try simp only [Act.put, List.setIfInBounds_toArray, List.set_cons_zero, List.set_cons_succ])
      go_cut [62] (fun v62 wc => ∃ (kq : Nat) (x62_8 : Bool), v62 = .bool x62_8 ∧ Aside0 (skiarealaw02_ClockFirst.j0 kq l0 a2 x62_8 = some r) ∧ Aside0 (kq ≤ k) ∧ Aside0 (Below w.heap.size w wc))
      case first =>
        have H := HC9.out
        clear HC9
        by_cases c12 : t335 = true
        · subst c12
          have H1 : (if t334 < a1 then (skiarealaw02_ClockFirst.j0 k l0 a2 true) else (if t334 < 0 then (skiarealaw02_ClockFirst.j0 k l0 a2 true) else ((clock_In.f l0 t334).bind fun t336 => (if t336 = true then (if a2 ≥ a1 then (if a2 < t334 then ((clock_In.f l0 a2).bind fun t337 => (skiarealaw02_ClockFirst.j0 k l0 a2 t337)) else (skiarealaw02_ClockFirst.j0 k l0 a2 false)) else (skiarealaw02_ClockFirst.j0 k l0 a2 false)) else (skiarealaw02_ClockFirst.j0 k l0 a2 true))))) = some r := by rw [if_pos rfl] at H; exact H
          clear H
          have H := H1
          clear H1
          by_cases c13 : t334 < a1
          · rw [if_pos c13] at H
            have c13b0 : decide (t334 < a1) = true := decide_eq_true c13
            clear c13
            (first | rw [c13b0] | (simp only [i64_w, i32_w]; rw [c13b0]) | skip)
            have H' := Aside0.mk H
            clear H
            go_wp2
            go_meet
            case rel => exact ⟨_, (true), (by first | rfl | (simp; done) | (simp [*]; done)), H', ⟨by first | omega | exact Nat.le_refl _⟩, ⟨by repeat (first | (with_reducible first | exact HB.out | apply below_alloc | apply pw_below_drewN | apply below_drew1) | exact HB.out)⟩⟩
          · rw [if_neg c13] at H
            have c13b0 : decide (t334 < a1) = false := decide_eq_false c13
            clear c13
            (first | rw [c13b0] | (simp only [i64_w, i32_w]; rw [c13b0]) | skip)
            by_cases c14 : t334 < 0
            · rw [if_pos c14] at H
              have c14b0 : decide (t334 < 0) = true := decide_eq_true c14
              clear c14
              have H' := Aside0.mk H
              clear H
              go_wp2
              go_meet
              case rel => exact ⟨_, (true), (by first | rfl | (simp; done) | (simp [*]; done)), H', ⟨by first | omega | exact Nat.le_refl _⟩, ⟨by repeat (first | (with_reducible first | exact HB.out | apply below_alloc | apply pw_below_drewN | apply below_drew1) | exact HB.out)⟩⟩
            · rw [if_neg c14] at H
              have c14b0 : decide (t334 < 0) = false := decide_eq_false c14
              clear c14
              replace H := Option.bind_eq_some_iff.mp H
              obtain ⟨t336, A150, H⟩ := H
              replace H : (if t336 = true then (if a2 ≥ a1 then (if a2 < t334 then ((clock_In.f l0 a2).bind fun t337 => (skiarealaw02_ClockFirst.j0 k l0 a2 t337)) else (skiarealaw02_ClockFirst.j0 k l0 a2 false)) else (skiarealaw02_ClockFirst.j0 k l0 a2 false)) else (skiarealaw02_ClockFirst.j0 k l0 a2 true)) = some r := H
              have A15 := Aside0.mk A150
              clear A150
              by_cases c16 : t336 = true
              · subst c16
                have H1 : (if a2 ≥ a1 then (if a2 < t334 then ((clock_In.f l0 a2).bind fun t337 => (skiarealaw02_ClockFirst.j0 k l0 a2 t337)) else (skiarealaw02_ClockFirst.j0 k l0 a2 false)) else (skiarealaw02_ClockFirst.j0 k l0 a2 false)) = some r := by rw [if_pos rfl] at H; exact H
                clear H
                have H := H1
                clear H1
                by_cases c17 : a2 ≥ a1
                · rw [if_pos c17] at H
                  have c17b0 : decide (a1 ≤ a2) = true := decide_eq_true c17
                  clear c17
                  by_cases c18 : a2 < t334
                  · rw [if_pos c18] at H
                    have c18b0 : decide (a2 < t334) = true := decide_eq_true c18
                    clear c18
                    replace H := Option.bind_eq_some_iff.mp H
                    obtain ⟨t337, A190, H⟩ := H
                    replace H : (skiarealaw02_ClockFirst.j0 k l0 a2 t337) = some r := H
                    have A19 := Aside0.mk A190
                    clear A190
                    have H' := Aside0.mk H
                    clear H
                    go_wp2_with (first | (go_at_call 20; (with_reducible refine (clock_In.calls _ _ l0 t334 true _ ?side1 ?side2 A15.out).mono ?_); (case side1 => repeat (first | exact (Kd.C_below HR0.out HB.out) | (with_reducible refine Kd.C_alloc ?_ _) | (with_reducible refine Kd.C_drewN ?_ _) | (with_reducible refine Kd.C_drew ?_))); (case side2 => exact HC0.out); rintro e w20 ⟨rfl, hb⟩; have n0_ := Aside0.mk (below_step (by repeat (first | (with_reducible first | exact HB.out | apply below_alloc | apply pw_below_drewN | apply below_drew1) | exact HB.out)) hb); clear HB; have HB := n0_; clear n0_; (try clear hb); (try clear hb2); (try clear hk); (try clear hi)) | (go_at_call 20; (with_reducible refine (clock_In.calls _ _ l0 a2 t337 _ ?side1 ?side2 A19.out).mono ?_); (case side1 => repeat (first | exact (Kd.C_below HR0.out HB.out) | (with_reducible refine Kd.C_alloc ?_ _) | (with_reducible refine Kd.C_drewN ?_ _) | (with_reducible refine Kd.C_drew ?_))); (case side2 => exact HC0.out); rintro e w21 ⟨rfl, hb⟩; have n0_ := Aside0.mk (below_step (by repeat (first | (with_reducible first | exact HB.out | apply below_alloc | apply pw_below_drewN | apply below_drew1) | exact HB.out)) hb); clear HB; have HB := n0_; clear n0_; (try clear hb); (try clear hb2); (try clear hk); (try clear hi)))
                    go_meet
                    case rel => exact ⟨_, (t337), (by first | rfl | (simp; done) | (simp [*]; done)), H', ⟨by first | omega | exact Nat.le_refl _⟩, ⟨by repeat (first | (with_reducible first | exact HB.out | apply below_alloc | apply pw_below_drewN | apply below_drew1) | exact HB.out)⟩⟩
                  · rw [if_neg c18] at H
                    have c18b0 : decide (a2 < t334) = false := decide_eq_false c18
                    clear c18
                    have H' := Aside0.mk H
                    clear H
                    go_wp2_with (first | (go_at_call 20; (with_reducible refine (clock_In.calls _ _ l0 t334 true _ ?side1 ?side2 A15.out).mono ?_); (case side1 => repeat (first | exact (Kd.C_below HR0.out HB.out) | (with_reducible refine Kd.C_alloc ?_ _) | (with_reducible refine Kd.C_drewN ?_ _) | (with_reducible refine Kd.C_drew ?_))); (case side2 => exact HC0.out); rintro e w22 ⟨rfl, hb⟩; have n0_ := Aside0.mk (below_step (by repeat (first | (with_reducible first | exact HB.out | apply below_alloc | apply pw_below_drewN | apply below_drew1) | exact HB.out)) hb); clear HB; have HB := n0_; clear n0_; (try clear hb); (try clear hb2); (try clear hk); (try clear hi)))
                    go_meet
                    case rel => exact ⟨_, (false), (by first | rfl | (simp; done) | (simp [*]; done)), H', ⟨by first | omega | exact Nat.le_refl _⟩, ⟨by repeat (first | (with_reducible first | exact HB.out | apply below_alloc | apply pw_below_drewN | apply below_drew1) | exact HB.out)⟩⟩
                · rw [if_neg c17] at H
                  have c17b0 : decide (a1 ≤ a2) = false := decide_eq_false c17
                  clear c17
                  have H' := Aside0.mk H
                  clear H
                  go_wp2_with (first | (go_at_call 20; (with_reducible refine (clock_In.calls _ _ l0 t334 true _ ?side1 ?side2 A15.out).mono ?_); (case side1 => repeat (first | exact (Kd.C_below HR0.out HB.out) | (with_reducible refine Kd.C_alloc ?_ _) | (with_reducible refine Kd.C_drewN ?_ _) | (with_reducible refine Kd.C_drew ?_))); (case side2 => exact HC0.out); rintro e w23 ⟨rfl, hb⟩; have n0_ := Aside0.mk (below_step (by repeat (first | (with_reducible first | exact HB.out | apply below_alloc | apply pw_below_drewN | apply below_drew1) | exact HB.out)) hb); clear HB; have HB := n0_; clear n0_; (try clear hb); (try clear hb2); (try clear hk); (try clear hi)))
                  go_meet
                  case rel => exact ⟨_, (false), (by first | rfl | (simp; done) | (simp [*]; done)), H', ⟨by first | omega | exact Nat.le_refl _⟩, ⟨by repeat (first | (with_reducible first | exact HB.out | apply below_alloc | apply pw_below_drewN | apply below_drew1) | exact HB.out)⟩⟩
              · replace c16 := Bool.eq_false_iff.mpr c16
                subst c16
                have H1 : (skiarealaw02_ClockFirst.j0 k l0 a2 true) = some r := by rw [if_neg (show ¬ (false = true) by decide)] at H; exact H
                clear H
                have H := H1
                clear H1
                have H' := Aside0.mk H
                clear H
                go_wp2_with (first | (go_at_call 20; (with_reducible refine (clock_In.calls _ _ l0 t334 false _ ?side1 ?side2 A15.out).mono ?_); (case side1 => repeat (first | exact (Kd.C_below HR0.out HB.out) | (with_reducible refine Kd.C_alloc ?_ _) | (with_reducible refine Kd.C_drewN ?_ _) | (with_reducible refine Kd.C_drew ?_))); (case side2 => exact HC0.out); rintro e w24 ⟨rfl, hb⟩; have n0_ := Aside0.mk (below_step (by repeat (first | (with_reducible first | exact HB.out | apply below_alloc | apply pw_below_drewN | apply below_drew1) | exact HB.out)) hb); clear HB; have HB := n0_; clear n0_; (try clear hb); (try clear hb2); (try clear hk); (try clear hi)))
                go_meet
                case rel => exact ⟨_, (true), (by first | rfl | (simp; done) | (simp [*]; done)), H', ⟨by first | omega | exact Nat.le_refl _⟩, ⟨by repeat (first | (with_reducible first | exact HB.out | apply below_alloc | apply pw_below_drewN | apply below_drew1) | exact HB.out)⟩⟩
        · replace c12 := Bool.eq_false_iff.mpr c12
          subst c12
          have H1 : (if t334 = 0 then (if a2 ≥ a1 then ((clock_In.f l0 a2).bind fun t338 => (skiarealaw02_ClockFirst.j0 k l0 a2 t338)) else (skiarealaw02_ClockFirst.j0 k l0 a2 false)) else (skiarealaw02_ClockFirst.j0 k l0 a2 true)) = some r := by rw [if_neg (show ¬ (false = true) by decide)] at H; exact H
          clear H
          have H := H1
          clear H1
          by_cases c25 : t334 = 0
          · rw [if_pos c25] at H
            have c25b0 : (t334 == 0) = true := beq_iff_eq.mpr c25
            have c25b1 : (t334 != 0) = false := bne_eq_false_iff_eq.mpr c25
            clear c25
            by_cases c26 : a2 ≥ a1
            · rw [if_pos c26] at H
              have c26b0 : decide (a1 ≤ a2) = true := decide_eq_true c26
              clear c26
              replace H := Option.bind_eq_some_iff.mp H
              obtain ⟨t338, A270, H⟩ := H
              replace H : (skiarealaw02_ClockFirst.j0 k l0 a2 t338) = some r := H
              have A27 := Aside0.mk A270
              clear A270
              have H' := Aside0.mk H
              clear H
              go_wp2_with (first | (go_at_call 20; (with_reducible refine (clock_In.calls _ _ l0 a2 t338 _ ?side1 ?side2 A27.out).mono ?_); (case side1 => repeat (first | exact (Kd.C_below HR0.out HB.out) | (with_reducible refine Kd.C_alloc ?_ _) | (with_reducible refine Kd.C_drewN ?_ _) | (with_reducible refine Kd.C_drew ?_))); (case side2 => exact HC0.out); rintro e w28 ⟨rfl, hb⟩; have n0_ := Aside0.mk (below_step (by repeat (first | (with_reducible first | exact HB.out | apply below_alloc | apply pw_below_drewN | apply below_drew1) | exact HB.out)) hb); clear HB; have HB := n0_; clear n0_; (try clear hb); (try clear hb2); (try clear hk); (try clear hi)))
              go_meet
              case rel => exact ⟨_, (t338), (by first | rfl | (simp; done) | (simp [*]; done)), H', ⟨by first | omega | exact Nat.le_refl _⟩, ⟨by repeat (first | (with_reducible first | exact HB.out | apply below_alloc | apply pw_below_drewN | apply below_drew1) | exact HB.out)⟩⟩
            · rw [if_neg c26] at H
              have c26b0 : decide (a1 ≤ a2) = false := decide_eq_false c26
              clear c26
              have H' := Aside0.mk H
              clear H
              go_wp2
              go_meet
              case rel => exact ⟨_, (false), (by first | rfl | (simp; done) | (simp [*]; done)), H', ⟨by first | omega | exact Nat.le_refl _⟩, ⟨by repeat (first | (with_reducible first | exact HB.out | apply below_alloc | apply pw_below_drewN | apply below_drew1) | exact HB.out)⟩⟩
          · rw [if_neg c25] at H
            have c25b0 : (t334 == 0) = false := beq_eq_false_iff_ne.mpr c25
            have c25b1 : (t334 != 0) = true := bne_iff_ne.mpr c25
            have H' := Aside0.mk H
            clear H
            go_wp2
            go_meet
            case rel => exact ⟨_, (true), (by first | rfl | (simp; done) | (simp [*]; done)), H', ⟨by first | omega | exact Nat.le_refl _⟩, ⟨by repeat (first | (with_reducible first | exact HB.out | apply below_alloc | apply pw_below_drewN | apply below_drew1) | exact HB.out)⟩⟩
      case rest =>
        clear HC9
        try clear c1
        try clear c2
        try clear p2
        try clear c5
        try clear c6
        try clear c6b0
        try clear c6b1
        try clear c8
        try clear c11
        try clear c12
        try clear c13
        try clear c13b0
        try clear c14
        try clear c14b0
        try clear c16
        try clear c17
        try clear c17b0
        try clear c18
        try clear c18b0
        try clear c22
        try clear c25
        try clear c25b0
        try clear c25b1
        try clear c26
        try clear c26b0
        obtain ⟨kq, x62_8, rfl, HA, HJ8, HB⟩ := hcut
        cases kq with
        | zero => exact absurd HA.out (by simp [skiarealaw02_ClockFirst.j0])
        | succ kj8 =>
          have H := HA.out
          clear HA
          simp only [skiarealaw02_ClockFirst.j0] at H
          by_cases c29 : x62_8 = true
          · subst c29
            have H1 : (some false) = some r := by rw [if_pos rfl] at H; exact H
            clear H
            have H := H1
            clear H1
            obtain rfl := Option.some.inj H
            go_wp2
            go_ret
            exact ⟨by first | rfl | (simp [errW_none, errW_some] <;> rfl) | (simp [*, errW_none, errW_some] <;> rfl), by repeat (first | (with_reducible first | exact HB.out | apply below_alloc | apply pw_below_drewN | apply below_drew1) | exact HB.out)⟩
          · replace c29 := Bool.eq_false_iff.mpr c29
            subst c29
            have H1 : (if a2 < 0 then (skiarealaw02_ClockFirst.j1 kj8 l0 a2 true) else (skiarealaw02_ClockFirst.j1 kj8 l0 a2 (decide (a2 > 19395200)))) = some r := by rw [if_neg (show ¬ (false = true) by decide)] at H; exact H
            clear H
            have H := H1
            clear H1
            have HC30 := Aside0.mk H
            clear H
            go_upto_region 8 with (fail)
            go_cut [68] (fun v68 wc => ∃ (kq : Nat) (x68_29 : Bool), v68 = .bool x68_29 ∧ Aside0 (skiarealaw02_ClockFirst.j1 kq l0 a2 x68_29 = some r) ∧ Aside0 (kq ≤ kj8) ∧ Aside0 (Below w.heap.size w wc))
            case first =>
              have H := HC30.out
              clear HC30
              by_cases c31 : a2 < 0
              · rw [if_pos c31] at H
                have c31b0 : decide (a2 < 0) = true := decide_eq_true c31
                clear c31
                (first | rw [c31b0] | (simp only [i64_w, i32_w]; rw [c31b0]) | skip)
                have H' := Aside0.mk H
                clear H
                go_wp2
                go_meet
                case rel => exact ⟨_, (true), (by first | rfl | (simp; done) | (simp [*]; done)), H', ⟨by have := HJ8.out; first | omega | exact Nat.le_refl _⟩, ⟨by repeat (first | (with_reducible first | exact HB.out | apply below_alloc | apply pw_below_drewN | apply below_drew1) | exact HB.out)⟩⟩
              · rw [if_neg c31] at H
                have c31b0 : decide (a2 < 0) = false := decide_eq_false c31
                clear c31
                (first | rw [c31b0] | (simp only [i64_w, i32_w]; rw [c31b0]) | skip)
                have H' := Aside0.mk H
                clear H
                go_wp2
                go_meet
                case rel => exact ⟨_, (decide (a2 > 19395200)), (by first | rfl | (simp; done) | (simp [*]; done)), H', ⟨by have := HJ8.out; first | omega | exact Nat.le_refl _⟩, ⟨by repeat (first | (with_reducible first | exact HB.out | apply below_alloc | apply pw_below_drewN | apply below_drew1) | exact HB.out)⟩⟩
            case rest =>
              clear HC30
              try clear c1
              try clear c2
              try clear p2
              try clear c3
              try clear c5
              try clear c6
              try clear c6b0
              try clear c6b1
              try clear c8
              try clear c11
              try clear c12
              try clear c13
              try clear c13b0
              try clear c14
              try clear c14b0
              try clear c16
              try clear c17
              try clear c17b0
              try clear c18
              try clear c18b0
              try clear c22
              try clear c25
              try clear c25b0
              try clear c25b1
              try clear c26
              try clear c26b0
              try clear c29
              try clear c31
              try clear c31b0
              try clear p2
              obtain ⟨kq, x68_29, rfl, HA, HJ29, HB⟩ := hcut
              cases kq with
              | zero => exact absurd HA.out (by simp [skiarealaw02_ClockFirst.j1])
              | succ kj29 =>
                have H := HA.out
                clear HA
                simp only [skiarealaw02_ClockFirst.j1] at H
                by_cases c32 : x68_29 = true
                · subst c32
                  have H1 : (some true) = some r := by rw [if_pos rfl] at H; exact H
                  clear H
                  have H := H1
                  clear H1
                  obtain rfl := Option.some.inj H
                  go_wp2
                  go_ret
                  exact ⟨by first | rfl | (simp [errW_none, errW_some] <;> rfl) | (simp [*, errW_none, errW_some] <;> rfl), by repeat (first | (with_reducible first | exact HB.out | apply below_alloc | apply pw_below_drewN | apply below_drew1) | exact HB.out)⟩
                · replace c32 := Bool.eq_false_iff.mpr c32
                  subst c32
                  have H1 : ((clock_In.f l0 a2).bind fun t339 => ((clock_In.f l0 (wrap64 (a2 + 604800))).bind fun t340 => (if (t339 == t340) = true then ((clock_Weekday.f a2).bind fun t341 => ((clock_Weekday.f (wrap64 (a2 + 604800))).bind fun t342 => (if t341 = t342 then ((clock_Day.f (wrap64 (a2 + 604800))).bind fun t343 => ((clock_Day.f a2).bind fun t344 => (if t343 = (wrap64 (t344 + 7)) then ((clock_Second.f a2).bind fun t345 => (some ((wrap64 ((wrap64 (t344 * 86400)) + t345)) == a2))) else (some false)))) else (some false)))) else (some false)))) = some r := by rw [if_neg (show ¬ (false = true) by decide)] at H; exact H
                  clear H
                  have H := H1
                  clear H1
                  replace H := Option.bind_eq_some_iff.mp H
                  obtain ⟨t339, A330, H⟩ := H
                  replace H : ((clock_In.f l0 (wrap64 (a2 + 604800))).bind fun t340 => (if (t339 == t340) = true then ((clock_Weekday.f a2).bind fun t341 => ((clock_Weekday.f (wrap64 (a2 + 604800))).bind fun t342 => (if t341 = t342 then ((clock_Day.f (wrap64 (a2 + 604800))).bind fun t343 => ((clock_Day.f a2).bind fun t344 => (if t343 = (wrap64 (t344 + 7)) then ((clock_Second.f a2).bind fun t345 => (some ((wrap64 ((wrap64 (t344 * 86400)) + t345)) == a2))) else (some false)))) else (some false)))) else (some false))) = some r := H
                  have A33 := Aside0.mk A330
                  clear A330
                  replace H := Option.bind_eq_some_iff.mp H
                  obtain ⟨t340, A340, H⟩ := H
                  replace H : (if (t339 == t340) = true then ((clock_Weekday.f a2).bind fun t341 => ((clock_Weekday.f (wrap64 (a2 + 604800))).bind fun t342 => (if t341 = t342 then ((clock_Day.f (wrap64 (a2 + 604800))).bind fun t343 => ((clock_Day.f a2).bind fun t344 => (if t343 = (wrap64 (t344 + 7)) then ((clock_Second.f a2).bind fun t345 => (some ((wrap64 ((wrap64 (t344 * 86400)) + t345)) == a2))) else (some false)))) else (some false)))) else (some false)) = some r := H
                  have A34 := Aside0.mk A340
                  clear A340
                  by_cases c35 : (t339 == t340) = true
                  · rw [if_pos c35] at H
                    have c35b0 : (t339 == t340) = true := c35
                    (try (have c35b1 : decide (t339 = t340) = true := by simpa using c35))
                    (try (have c35b2 : (t339 == t340) = true := by simpa using c35))
                    clear c35
                    replace H := Option.bind_eq_some_iff.mp H
                    obtain ⟨t341, A360, H⟩ := H
                    replace H : ((clock_Weekday.f (wrap64 (a2 + 604800))).bind fun t342 => (if t341 = t342 then ((clock_Day.f (wrap64 (a2 + 604800))).bind fun t343 => ((clock_Day.f a2).bind fun t344 => (if t343 = (wrap64 (t344 + 7)) then ((clock_Second.f a2).bind fun t345 => (some ((wrap64 ((wrap64 (t344 * 86400)) + t345)) == a2))) else (some false)))) else (some false))) = some r := H
                    have A36 := Aside0.mk A360
                    clear A360
                    replace H := Option.bind_eq_some_iff.mp H
                    obtain ⟨t342, A370, H⟩ := H
                    replace H : (if t341 = t342 then ((clock_Day.f (wrap64 (a2 + 604800))).bind fun t343 => ((clock_Day.f a2).bind fun t344 => (if t343 = (wrap64 (t344 + 7)) then ((clock_Second.f a2).bind fun t345 => (some ((wrap64 ((wrap64 (t344 * 86400)) + t345)) == a2))) else (some false)))) else (some false)) = some r := H
                    have A37 := Aside0.mk A370
                    clear A370
                    by_cases c38 : t341 = t342
                    · rw [if_pos c38] at H
                      have c38b0 : (t341 == t342) = true := beq_iff_eq.mpr c38
                      have c38b1 : (t341 != t342) = false := bne_eq_false_iff_eq.mpr c38
                      clear c38
                      replace H := Option.bind_eq_some_iff.mp H
                      obtain ⟨t343, A390, H⟩ := H
                      replace H : ((clock_Day.f a2).bind fun t344 => (if t343 = (wrap64 (t344 + 7)) then ((clock_Second.f a2).bind fun t345 => (some ((wrap64 ((wrap64 (t344 * 86400)) + t345)) == a2))) else (some false))) = some r := H
                      have A39 := Aside0.mk A390
                      clear A390
                      replace H := Option.bind_eq_some_iff.mp H
                      obtain ⟨t344, A400, H⟩ := H
                      replace H : (if t343 = (wrap64 (t344 + 7)) then ((clock_Second.f a2).bind fun t345 => (some ((wrap64 ((wrap64 (t344 * 86400)) + t345)) == a2))) else (some false)) = some r := H
                      have A40 := Aside0.mk A400
                      clear A400
                      by_cases c41 : t343 = (wrap64 (t344 + 7))
                      · rw [if_pos c41] at H
                        have c41b0 : (t343 == (wrap64 (t344 + 7))) = true := beq_iff_eq.mpr c41
                        have c41b1 : (t343 != (wrap64 (t344 + 7))) = false := bne_eq_false_iff_eq.mpr c41
                        clear c41
                        replace H := Option.bind_eq_some_iff.mp H
                        obtain ⟨t345, A420, H⟩ := H
                        replace H : (some ((wrap64 ((wrap64 (t344 * 86400)) + t345)) == a2)) = some r := H
                        have A42 := Aside0.mk A420
                        clear A420
                        obtain rfl := Option.some.inj H
                        go_wp2_with (first | ((with_reducible refine gate_callee (f := 20) rfl ?_); refine goesL_ (some 71) rfl rfl Try.func20 (by kernel_rfl) rfl #[.slice A0 l0.length c0, .int .i64 a2] rfl (by (try simp only [List.map_toArray, List.map_cons, List.map_nil]); first | done | rfl | (simp only [List.length_drop, List.length_take]; rfl)) ?_; (with_reducible refine (clock_In.calls _ _ l0 a2 t339 _ ?side1 ?side2 A33.out).mono ?_); (case side1 => repeat (first | exact (Kd.C_below HR0.out HB.out) | (with_reducible refine Kd.C_alloc ?_ _) | (with_reducible refine Kd.C_drewN ?_ _) | (with_reducible refine Kd.C_drew ?_))); (case side2 => exact HC0.out); rintro e w43 ⟨rfl, hb⟩; refine ⟨_, rfl, ?_⟩; have n0_ := Aside0.mk (below_step (by repeat (first | (with_reducible first | exact HB.out | apply below_alloc | apply pw_below_drewN | apply below_drew1) | exact HB.out)) hb); clear HB; have HB := n0_; clear n0_; (try clear hb); (try clear hb2); (try clear hk); (try clear hi)) | ((with_reducible refine gate_callee (f := 20) rfl ?_); refine goesL_ (some 75) rfl rfl Try.func20 (by kernel_rfl) rfl #[.slice A0 l0.length c0, .int .i64 (wrap64 (a2 + 604800))] rfl (by (try simp only [List.map_toArray, List.map_cons, List.map_nil]); first | done | rfl | (simp only [List.length_drop, List.length_take]; rfl)) ?_; (with_reducible refine (clock_In.calls _ _ l0 (wrap64 (a2 + 604800)) t340 _ ?side1 ?side2 A34.out).mono ?_); (case side1 => repeat (first | exact (Kd.C_below HR0.out HB.out) | (with_reducible refine Kd.C_alloc ?_ _) | (with_reducible refine Kd.C_drewN ?_ _) | (with_reducible refine Kd.C_drew ?_))); (case side2 => exact HC0.out); rintro e w44 ⟨rfl, hb⟩; refine ⟨_, rfl, ?_⟩; have n0_ := Aside0.mk (below_step (by repeat (first | (with_reducible first | exact HB.out | apply below_alloc | apply pw_below_drewN | apply below_drew1) | exact HB.out)) hb); clear HB; have HB := n0_; clear n0_; (try clear hb); (try clear hb2); (try clear hk); (try clear hi)) | (go_at_call 16; (with_reducible refine (clock_Weekday.calls a2 t341 _ A36.out).mono ?_); rintro e w' ⟨rfl, ⟨nd, rfl⟩⟩) | (go_at_call 16; (with_reducible refine (clock_Weekday.calls (wrap64 (a2 + 604800)) t342 _ A37.out).mono ?_); rintro e w' ⟨rfl, ⟨nd, rfl⟩⟩) | (go_at_call 12; (with_reducible refine (clock_Day.calls (wrap64 (a2 + 604800)) t343 _ A39.out).mono ?_); rintro e w' ⟨rfl, ⟨nd, rfl⟩⟩) | (go_at_call 12; (with_reducible refine (clock_Day.calls a2 t344 _ A40.out).mono ?_); rintro e w' ⟨rfl, ⟨nd, rfl⟩⟩) | (go_at_call 14; (with_reducible refine (clock_Second.calls a2 t345 _ A42.out).mono ?_); rintro e w' ⟨rfl, ⟨nd, rfl⟩⟩))
                        go_ret
                        exact ⟨by first | rfl | (simp [errW_none, errW_some] <;> rfl) | (simp [*, errW_none, errW_some] <;> rfl), by repeat (first | (with_reducible first | exact HB.out | apply below_alloc | apply pw_below_drewN | apply below_drew1) | exact HB.out)⟩
                      · rw [if_neg c41] at H
                        have c41b0 : (t343 == (wrap64 (t344 + 7))) = false := beq_eq_false_iff_ne.mpr c41
                        have c41b1 : (t343 != (wrap64 (t344 + 7))) = true := bne_iff_ne.mpr c41
                        obtain rfl := Option.some.inj H
                        go_wp2_with (first | ((with_reducible refine gate_callee (f := 20) rfl ?_); refine goesL_ (some 71) rfl rfl Try.func20 (by kernel_rfl) rfl #[.slice A0 l0.length c0, .int .i64 a2] rfl (by (try simp only [List.map_toArray, List.map_cons, List.map_nil]); first | done | rfl | (simp only [List.length_drop, List.length_take]; rfl)) ?_; (with_reducible refine (clock_In.calls _ _ l0 a2 t339 _ ?side1 ?side2 A33.out).mono ?_); (case side1 => repeat (first | exact (Kd.C_below HR0.out HB.out) | (with_reducible refine Kd.C_alloc ?_ _) | (with_reducible refine Kd.C_drewN ?_ _) | (with_reducible refine Kd.C_drew ?_))); (case side2 => exact HC0.out); rintro e w45 ⟨rfl, hb⟩; refine ⟨_, rfl, ?_⟩; have n0_ := Aside0.mk (below_step (by repeat (first | (with_reducible first | exact HB.out | apply below_alloc | apply pw_below_drewN | apply below_drew1) | exact HB.out)) hb); clear HB; have HB := n0_; clear n0_; (try clear hb); (try clear hb2); (try clear hk); (try clear hi)) | ((with_reducible refine gate_callee (f := 20) rfl ?_); refine goesL_ (some 75) rfl rfl Try.func20 (by kernel_rfl) rfl #[.slice A0 l0.length c0, .int .i64 (wrap64 (a2 + 604800))] rfl (by (try simp only [List.map_toArray, List.map_cons, List.map_nil]); first | done | rfl | (simp only [List.length_drop, List.length_take]; rfl)) ?_; (with_reducible refine (clock_In.calls _ _ l0 (wrap64 (a2 + 604800)) t340 _ ?side1 ?side2 A34.out).mono ?_); (case side1 => repeat (first | exact (Kd.C_below HR0.out HB.out) | (with_reducible refine Kd.C_alloc ?_ _) | (with_reducible refine Kd.C_drewN ?_ _) | (with_reducible refine Kd.C_drew ?_))); (case side2 => exact HC0.out); rintro e w46 ⟨rfl, hb⟩; refine ⟨_, rfl, ?_⟩; have n0_ := Aside0.mk (below_step (by repeat (first | (with_reducible first | exact HB.out | apply below_alloc | apply pw_below_drewN | apply below_drew1) | exact HB.out)) hb); clear HB; have HB := n0_; clear n0_; (try clear hb); (try clear hb2); (try clear hk); (try clear hi)) | (go_at_call 16; (with_reducible refine (clock_Weekday.calls a2 t341 _ A36.out).mono ?_); rintro e w' ⟨rfl, ⟨nd, rfl⟩⟩) | (go_at_call 16; (with_reducible refine (clock_Weekday.calls (wrap64 (a2 + 604800)) t342 _ A37.out).mono ?_); rintro e w' ⟨rfl, ⟨nd, rfl⟩⟩) | (go_at_call 12; (with_reducible refine (clock_Day.calls (wrap64 (a2 + 604800)) t343 _ A39.out).mono ?_); rintro e w' ⟨rfl, ⟨nd, rfl⟩⟩) | (go_at_call 12; (with_reducible refine (clock_Day.calls a2 t344 _ A40.out).mono ?_); rintro e w' ⟨rfl, ⟨nd, rfl⟩⟩))
                        go_ret
                        exact ⟨by first | rfl | (simp [errW_none, errW_some] <;> rfl) | (simp [*, errW_none, errW_some] <;> rfl), by repeat (first | (with_reducible first | exact HB.out | apply below_alloc | apply pw_below_drewN | apply below_drew1) | exact HB.out)⟩
                    · rw [if_neg c38] at H
                      have c38b0 : (t341 == t342) = false := beq_eq_false_iff_ne.mpr c38
                      have c38b1 : (t341 != t342) = true := bne_iff_ne.mpr c38
                      obtain rfl := Option.some.inj H
                      go_wp2_with (first | ((with_reducible refine gate_callee (f := 20) rfl ?_); refine goesL_ (some 71) rfl rfl Try.func20 (by kernel_rfl) rfl #[.slice A0 l0.length c0, .int .i64 a2] rfl (by (try simp only [List.map_toArray, List.map_cons, List.map_nil]); first | done | rfl | (simp only [List.length_drop, List.length_take]; rfl)) ?_; (with_reducible refine (clock_In.calls _ _ l0 a2 t339 _ ?side1 ?side2 A33.out).mono ?_); (case side1 => repeat (first | exact (Kd.C_below HR0.out HB.out) | (with_reducible refine Kd.C_alloc ?_ _) | (with_reducible refine Kd.C_drewN ?_ _) | (with_reducible refine Kd.C_drew ?_))); (case side2 => exact HC0.out); rintro e w47 ⟨rfl, hb⟩; refine ⟨_, rfl, ?_⟩; have n0_ := Aside0.mk (below_step (by repeat (first | (with_reducible first | exact HB.out | apply below_alloc | apply pw_below_drewN | apply below_drew1) | exact HB.out)) hb); clear HB; have HB := n0_; clear n0_; (try clear hb); (try clear hb2); (try clear hk); (try clear hi)) | ((with_reducible refine gate_callee (f := 20) rfl ?_); refine goesL_ (some 75) rfl rfl Try.func20 (by kernel_rfl) rfl #[.slice A0 l0.length c0, .int .i64 (wrap64 (a2 + 604800))] rfl (by (try simp only [List.map_toArray, List.map_cons, List.map_nil]); first | done | rfl | (simp only [List.length_drop, List.length_take]; rfl)) ?_; (with_reducible refine (clock_In.calls _ _ l0 (wrap64 (a2 + 604800)) t340 _ ?side1 ?side2 A34.out).mono ?_); (case side1 => repeat (first | exact (Kd.C_below HR0.out HB.out) | (with_reducible refine Kd.C_alloc ?_ _) | (with_reducible refine Kd.C_drewN ?_ _) | (with_reducible refine Kd.C_drew ?_))); (case side2 => exact HC0.out); rintro e w48 ⟨rfl, hb⟩; refine ⟨_, rfl, ?_⟩; have n0_ := Aside0.mk (below_step (by repeat (first | (with_reducible first | exact HB.out | apply below_alloc | apply pw_below_drewN | apply below_drew1) | exact HB.out)) hb); clear HB; have HB := n0_; clear n0_; (try clear hb); (try clear hb2); (try clear hk); (try clear hi)) | (go_at_call 16; (with_reducible refine (clock_Weekday.calls a2 t341 _ A36.out).mono ?_); rintro e w' ⟨rfl, ⟨nd, rfl⟩⟩) | (go_at_call 16; (with_reducible refine (clock_Weekday.calls (wrap64 (a2 + 604800)) t342 _ A37.out).mono ?_); rintro e w' ⟨rfl, ⟨nd, rfl⟩⟩))
                      go_ret
                      exact ⟨by first | rfl | (simp [errW_none, errW_some] <;> rfl) | (simp [*, errW_none, errW_some] <;> rfl), by repeat (first | (with_reducible first | exact HB.out | apply below_alloc | apply pw_below_drewN | apply below_drew1) | exact HB.out)⟩
                  · rw [if_neg c35] at H
                    have c35b0 : (t339 == t340) = false := by simpa using c35
                    (try (have c35b1 : decide (t339 = t340) = false := by simpa using c35))
                    (try (have c35b2 : (t339 == t340) = false := by simpa using c35))
                    (try (have c35b3 : ¬ (t339 = t340) := by simpa using c35))
                    clear c35
                    obtain rfl := Option.some.inj H
                    go_wp2_with (first | ((with_reducible refine gate_callee (f := 20) rfl ?_); refine goesL_ (some 71) rfl rfl Try.func20 (by kernel_rfl) rfl #[.slice A0 l0.length c0, .int .i64 a2] rfl (by (try simp only [List.map_toArray, List.map_cons, List.map_nil]); first | done | rfl | (simp only [List.length_drop, List.length_take]; rfl)) ?_; (with_reducible refine (clock_In.calls _ _ l0 a2 t339 _ ?side1 ?side2 A33.out).mono ?_); (case side1 => repeat (first | exact (Kd.C_below HR0.out HB.out) | (with_reducible refine Kd.C_alloc ?_ _) | (with_reducible refine Kd.C_drewN ?_ _) | (with_reducible refine Kd.C_drew ?_))); (case side2 => exact HC0.out); rintro e w49 ⟨rfl, hb⟩; refine ⟨_, rfl, ?_⟩; have n0_ := Aside0.mk (below_step (by repeat (first | (with_reducible first | exact HB.out | apply below_alloc | apply pw_below_drewN | apply below_drew1) | exact HB.out)) hb); clear HB; have HB := n0_; clear n0_; (try clear hb); (try clear hb2); (try clear hk); (try clear hi)) | ((with_reducible refine gate_callee (f := 20) rfl ?_); refine goesL_ (some 75) rfl rfl Try.func20 (by kernel_rfl) rfl #[.slice A0 l0.length c0, .int .i64 (wrap64 (a2 + 604800))] rfl (by (try simp only [List.map_toArray, List.map_cons, List.map_nil]); first | done | rfl | (simp only [List.length_drop, List.length_take]; rfl)) ?_; (with_reducible refine (clock_In.calls _ _ l0 (wrap64 (a2 + 604800)) t340 _ ?side1 ?side2 A34.out).mono ?_); (case side1 => repeat (first | exact (Kd.C_below HR0.out HB.out) | (with_reducible refine Kd.C_alloc ?_ _) | (with_reducible refine Kd.C_drewN ?_ _) | (with_reducible refine Kd.C_drew ?_))); (case side2 => exact HC0.out); rintro e w50 ⟨rfl, hb⟩; refine ⟨_, rfl, ?_⟩; have n0_ := Aside0.mk (below_step (by repeat (first | (with_reducible first | exact HB.out | apply below_alloc | apply pw_below_drewN | apply below_drew1) | exact HB.out)) hb); clear HB; have HB := n0_; clear n0_; (try clear hb); (try clear hb2); (try clear hk); (try clear hi)))
                    go_ret
                    exact ⟨by first | rfl | (simp [errW_none, errW_some] <;> rfl) | (simp [*, errW_none, errW_some] <;> rfl), by repeat (first | (with_reducible first | exact HB.out | apply below_alloc | apply pw_below_drewN | apply below_drew1) | exact HB.out)⟩
  · replace c5 := Bool.eq_false_iff.mpr c5
    subst c5
    have H1 : (some false) = some r := by rw [if_neg (show ¬ (false = true) by decide)] at H; exact H
    clear H
    have H := H1
    clear H1
    obtain rfl := Option.some.inj H
    go_enter Try.func8, Try.ntmps8
    go_wp2_with (first | ((with_reducible refine gate_callee (f := 11) rfl ?_); refine goesL_ (some 9) rfl rfl Try.func11 (by kernel_rfl) rfl #[] rfl (by (try simp only [List.map_toArray, List.map_cons, List.map_nil]); first | done | rfl | (simp only [List.length_drop, List.length_take]; rfl)) ?_; (with_reducible refine (skiarealaw02_alive.calls k  false _ A4.out).mono ?_); rintro e w51 ⟨rfl, hb⟩; refine ⟨_, rfl, ?_⟩; have n0_ := Aside0.mk (below_step (by repeat (first | (with_reducible first | exact HB.out | apply below_alloc | apply pw_below_drewN | apply below_drew1) | exact HB.out)) hb); clear HB; have HB := n0_; clear n0_; (try clear hb); (try clear hb2); (try clear hk); (try clear hi)))
    go_ret
    exact ⟨by first | rfl | (simp [errW_none, errW_some] <;> rfl) | (simp [*, errW_none, errW_some] <;> rfl), by repeat (first | (with_reducible first | exact HB.out | apply below_alloc | apply pw_below_drewN | apply below_drew1) | exact HB.out)⟩

end Go.Proofs.Ytmijeihhioiliaa.Px
