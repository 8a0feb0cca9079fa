-- Lines of this text were written by the print of the kit, run by a program of this session (print2.py).
import Derived.Test.YtmijeihhioiliaaPx0
import Derived.Test.YtmijeihhioiliaaPx11
import Derived.Test.YtmijeihhioiliaaPx13
namespace Go.Proofs.Ytmijeihhioiliaa.Px
open Go.RowKit Go.Proofs.YtmijeihhioiliaaW.PrintWords Go.Proofs.YtmijeihhioiliaaW.PrintLast Go.Proofs.YtmijeihhioiliaaW.PrintMore
attribute [local go_sem] max2_int min2_int max_two min_two max_three min_three max_four min_four   -- for this text's walks alone
set_option linter.unusedVariables false
set_option linter.unusedSimpArgs false

/-! ### skiarearef02_Next: function 23 -/
mutual
def skiarearef02_Next.l0 : Nat → List (S42) → Int → Int → Option (Int × Bool)
  | 0, _, _, _ => none
  | k + 1, x0, x1, x6 => (skiarearef02_Day.f x1).bind fun t238 => (if x6 ≤ (wrap64 (t238 + 7)) then (skiarearef02_Next.l1 k x0 x1 x6 0 false 0) else (some (0, false)))
def skiarearef02_Next.l1 : Nat → List (S42) → Int → Int → Int → Bool → Int → Option (Int × Bool)
  | 0, _, _, _, _, _, _ => none
  | k + 1, x0, x1, x6, x7, x8, x9 => if x9 < (x0.length : Int) then (if 0 ≤ x9 then (if (mx x1 (wrap64 ((wrap64 (x6 * 86400)) + (mx 0 (mn ((rd_T42 x0 x9).f1) 86400))))) < (wrap64 ((wrap64 (x6 + 1)) * 86400)) then ((skiarearef02_In.f k (([(⟨(rd_T42 x0 x9).f0, (rd_T42 x0 x9).f1, (rd_T42 x0 x9).f2⟩ : S42)] : List (S42))) (mx x1 (wrap64 ((wrap64 (x6 * 86400)) + (mx 0 (mn ((rd_T42 x0 x9).f1) 86400)))))).bind fun t244 => (if t244 = true then (if x8 = true then (if (mx x1 (wrap64 ((wrap64 (x6 * 86400)) + (mx 0 (mn ((rd_T42 x0 x9).f1) 86400))))) < x7 then (skiarearef02_Next.l1 k x0 x1 x6 (mx x1 (wrap64 ((wrap64 (x6 * 86400)) + (mx 0 (mn ((rd_T42 x0 x9).f1) 86400))))) true (wrap64 (x9 + 1))) else (skiarearef02_Next.l1 k x0 x1 x6 x7 x8 (wrap64 (x9 + 1)))) else (skiarearef02_Next.l1 k x0 x1 x6 (mx x1 (wrap64 ((wrap64 (x6 * 86400)) + (mx 0 (mn ((rd_T42 x0 x9).f1) 86400))))) true (wrap64 (x9 + 1)))) else (skiarearef02_Next.l1 k x0 x1 x6 x7 x8 (wrap64 (x9 + 1))))) else (skiarearef02_Next.l1 k x0 x1 x6 x7 x8 (wrap64 (x9 + 1)))) else (none)) else (if x8 = true then (some (x7, true)) else (skiarearef02_Next.l0 k x0 x1 (wrap64 (x6 + 1))))
end
def skiarearef02_Next.f (k : Nat) (l0 : List (S42)) (a1 : Int) : Option (Int × Bool) := if a1 > 20000000 then (some (0, false)) else ((skiarearef02_Day.f (mx a1 0)).bind fun t237 => (skiarearef02_Next.l0 k l0 (mx a1 0) t237))
theorem skiarearef02_Next.mono_l : ∀ k, (∀ y0 y1 y2, LeO (skiarearef02_Next.l0 k y0 y1 y2) (skiarearef02_Next.l0 (k + 1) y0 y1 y2)) ∧ (∀ y0 y1 y2 y3 y4 y5, LeO (skiarearef02_Next.l1 k y0 y1 y2 y3 y4 y5) (skiarearef02_Next.l1 (k + 1) y0 y1 y2 y3 y4 y5))
  | 0 => ⟨fun _ _ _ r h => by simp [skiarearef02_Next.l0] at h, fun _ _ _ _ _ _ r h => by simp [skiarearef02_Next.l1] at h⟩
  | k + 1 => by
    obtain ⟨ih0, ih1⟩ := skiarearef02_Next.mono_l k
    refine ⟨?_, ?_⟩
    · intro y0 y1 y2
      unfold skiarearef02_Next.l0
      repeat' first
      | (with_reducible exact ih0 _ _ _)
      | (with_reducible exact ih1 _ _ _ _ _ _)
      | (with_reducible exact skiarearef02_In.mono _ _ _)
      | (with_reducible exact LeO.refl _)
      | (with_reducible exact LeO.none _)
      | (with_reducible refine LeO.ite ?_ ?_)
      | (with_reducible refine LeO.bind ?_ (fun _ => ?_))
      | exact ih0 _ _ _
      | exact ih1 _ _ _ _ _ _
      | exact skiarearef02_In.mono _ _ _
      | exact LeO.none _
      | refine LeO.ite ?_ ?_
      | refine LeO.bind ?_ (fun _ => ?_)
    · intro y0 y1 y2 y3 y4 y5
      unfold skiarearef02_Next.l1
      repeat' first
      | (with_reducible exact ih0 _ _ _)
      | (with_reducible exact ih1 _ _ _ _ _ _)
      | (with_reducible exact skiarearef02_In.mono _ _ _)
      | (with_reducible exact LeO.refl _)
      | (with_reducible exact LeO.none _)
      | (with_reducible refine LeO.ite ?_ ?_)
      | (with_reducible refine LeO.bind ?_ (fun _ => ?_))
      | exact ih0 _ _ _
      | exact ih1 _ _ _ _ _ _
      | exact skiarearef02_In.mono _ _ _
      | exact LeO.none _
      | refine LeO.ite ?_ ?_
      | refine LeO.bind ?_ (fun _ => ?_)
theorem skiarearef02_Next.mono : ∀ a0 a1 k, LeO (skiarearef02_Next.f k a0 a1) (skiarearef02_Next.f (k + 1) a0 a1) := by
  intro a0 a1 k
  obtain ⟨ih0, ih1⟩ := skiarearef02_Next.mono_l k
  unfold skiarearef02_Next.f
  repeat' first
      | (with_reducible exact ih0 _ _ _)
      | (with_reducible exact ih1 _ _ _ _ _ _)
      | (with_reducible exact skiarearef02_In.mono _ _ _)
      | (with_reducible exact LeO.refl _)
      | (with_reducible exact LeO.none _)
      | (with_reducible refine LeO.ite ?_ ?_)
      | (with_reducible refine LeO.bind ?_ (fun _ => ?_))
      | exact ih0 _ _ _
      | exact ih1 _ _ _ _ _ _
      | exact skiarearef02_In.mono _ _ _
      | exact LeO.none _
      | refine LeO.ite ?_ ?_
      | refine LeO.bind ?_ (fun _ => ?_)
set_option maxHeartbeats 8000000 in
set_option maxRecDepth 100000 in
theorem skiarearef02_Next.calls (k : Nat) (A0 : Option Addr) (c0 : Nat) (l0 : List (S42)) (a1 : Int) (r1 : Int) (r2 : Bool) (w : World) (hr0 : Kd.C k42 w A0 l0.length l0) (hc0 : l0.length ≤ c0) (h : skiarearef02_Next.f k l0 a1 = some (r1, r2)) :
    Calls Try.prog 23 #[.slice A0 l0.length c0, .int .i64 a1] w fun e w' => e = .returned (.tuple #[.int .i64 r1, .bool r2]) ∧ Below w.heap.size w w' := by
  have hu42 := Try.underlying42
  have HR0 := Aside0.mk hr0
  have HC0 := Aside0.mk hc0
  clear hr0 hc0
  have HB := Aside0.mk (Below.refl w.heap.size w)
  have H : (if a1 > 20000000 then (some (0, false)) else ((skiarearef02_Day.f (mx a1 0)).bind fun t237 => (skiarearef02_Next.l0 k l0 (mx a1 0) t237))) = some (r1, r2) := h
  clear h
  by_cases c3 : a1 > 20000000
  · rw [if_pos c3] at H
    have c3b0 : decide (20000000 < a1) = true := decide_eq_true c3
    clear c3
    simp only [Option.some.injEq, Prod.mk.injEq] at H
    obtain ⟨rfl, rfl⟩ := H
    go_enter Try.func23, Try.ntmps23
    go_wp2
    go_ret2
    exact ⟨by first | rfl | (simp [errW_none, errW_some] <;> rfl) | (simp [*, errW_none, errW_some] <;> rfl), by repeat (first | (with_reducible first | exact HB.out | apply below_alloc | apply pw_below_drewN | apply below_drew1) | exact HB.out)⟩
  · rw [if_neg c3] at H
    have c3b0 : decide (20000000 < a1) = false := decide_eq_false c3
    clear c3
    obtain ⟨ji4, hji4⟩ : ∃ j_ : Int, (mx a1 0) = j_ := ⟨_, rfl⟩
    replace H : ((skiarearef02_Day.f (ji4)).bind fun t237 => (skiarearef02_Next.l0 k l0 ji4 t237)) = some (r1, r2) := by first | (rw [hji4] at H; exact H) | (simp only [hji4] at H ⊢; exact H)
    (try (have hji4l : 0 ≤ ji4 := by (rw [← hji4]; unfold mx; (repeat' split) <;> omega)))
    (try (have hji4m : 0 ≤ ji4 := by omega))
    have hji4_ : (if a1 < 0 then 0 else a1) = ji4 := hji4
    replace H := Option.bind_eq_some_iff.mp H
    obtain ⟨t237, A50, H⟩ := H
    replace H : (skiarearef02_Next.l0 k l0 ji4 t237) = some (r1, r2) := H
    have A5 := Aside0.mk A50
    clear A50
    have H' := Aside0.mk H
    clear H
    go_enter Try.func23, Try.ntmps23
    go_wp2_with (first | ((with_reducible refine gate_callee (f := 13) rfl ?_); refine goesL_ (some 16) rfl rfl Try.func13 (by kernel_rfl) rfl #[.int .i64 ji4] rfl (by (try simp only [List.map_toArray, List.map_cons, List.map_nil]); first | done | (simp only [hji4]; rfl) | rfl | (simp only [List.length_drop, List.length_take]; rfl)) ?_; (with_reducible refine (skiarearef02_Day.calls ji4 t237 _ A5.out).mono ?_); rintro e w' ⟨rfl, ⟨nd, rfl⟩⟩; refine ⟨_, rfl, ?_⟩))
    go_loopg [6] k (fun kq v6 w' => ∃ (x6_1 : Int), v6 = .int .i64 x6_1 ∧ Aside0 (skiarearef02_Next.l0 kq l0 ji4 x6_1 = some (r1, r2)) ∧ Aside0 (kq ≤ k) ∧ Aside0 (Below w.heap.size w w'))
    case atStart => exact ⟨(t237), (by first | rfl | (simp; done) | (simp [*]; done)), H', ⟨Nat.le_refl _⟩, ⟨by repeat (first | (with_reducible first | exact HB.out | apply below_alloc | apply pw_below_drewN | apply below_drew1) | exact HB.out)⟩⟩
    case round =>
      clear H'
      try clear c1
      try clear c2
      try clear p2
      try clear c3
      try clear c3b0
      obtain ⟨x6_1, rfl, HA, HK1, HB⟩ := hrel
      cases gk with
      | zero => exact absurd HA.out (by simp [skiarearef02_Next.l0])
      | succ k1 =>
        have H := HA.out
        clear HA
        simp only [skiarearef02_Next.l0] at H
        replace H := Option.bind_eq_some_iff.mp H
        obtain ⟨t238, A60, H⟩ := H
        replace H : (if x6_1 ≤ (wrap64 (t238 + 7)) then (skiarearef02_Next.l1 k1 l0 ji4 x6_1 0 false 0) else (some (0, false))) = some (r1, r2) := H
        have A6 := Aside0.mk A60
        clear A60
        by_cases c7 : x6_1 ≤ (wrap64 (t238 + 7))
        · rw [if_pos c7] at H
          have c7b0 : decide (x6_1 ≤ (wrap64 (t238 + 7))) = true := decide_eq_true c7
          clear c7
          have H' := Aside0.mk H
          clear H
          go_wp2_with (first | ((with_reducible refine gate_callee (f := 13) rfl ?_); refine goesL_ (some 19) rfl rfl Try.func13 (by kernel_rfl) rfl #[.int .i64 ji4] rfl (by (try simp only [List.map_toArray, List.map_cons, List.map_nil]); first | done | (simp only [hji4]; rfl) | rfl | (simp only [List.length_drop, List.length_take]; rfl)) ?_; (with_reducible refine (skiarearef02_Day.calls ji4 t238 _ A6.out).mono ?_); rintro e w' ⟨rfl, ⟨nd, rfl⟩⟩; refine ⟨_, rfl, ?_⟩))
          go_loopg [7, 8, 9] k1 (fun kq v7 v8 v9 w' => ∃ (x7_2 : Int) (x8_2 : Bool) (x9_2 : Int), v7 = .int .i64 x7_2 ∧ v8 = .bool x8_2 ∧ v9 = .int .i64 x9_2 ∧ Aside0 (skiarearef02_Next.l1 kq l0 ji4 x6_1 x7_2 x8_2 x9_2 = some (r1, r2)) ∧ Aside0 (kq ≤ k1) ∧ Aside0 (Below w.heap.size w w'))
          case atStart => exact ⟨(0), (false), (0), (by first | rfl | (simp; done) | (simp [*]; done)), (by first | rfl | (simp; done) | (simp [*]; done)), (by first | rfl | (simp; done) | (simp [*]; done)), H', ⟨Nat.le_refl _⟩, ⟨by repeat (first | (with_reducible first | exact HB.out | apply below_alloc | apply pw_below_drewN | apply below_drew1) | exact HB.out)⟩⟩
          case round =>
            clear H'
            try clear c1
            try clear c2
            try clear p2
            try clear c3
            try clear c3b0
            try clear p6
            try clear c7
            try clear c7b0
            try clear p2
            obtain ⟨x7_2, x8_2, x9_2, rfl, rfl, rfl, HA, HK2, HB⟩ := hrel
            cases gk with
            | zero => exact absurd HA.out (by simp [skiarearef02_Next.l1])
            | succ k2 =>
              have H := HA.out
              clear HA
              simp only [skiarearef02_Next.l1] at H
              by_cases c8 : x9_2 < (l0.length : Int)
              · rw [if_pos c8] at H
                have c8b0 : decide (x9_2 < (l0.length : Int)) = true := decide_eq_true c8
                clear c8
                by_cases c9 : 0 ≤ x9_2
                · rw [if_pos c9] at H
                  have c9b0 : decide (0 ≤ x9_2) = true := decide_eq_true c9
                  clear c9
                  obtain ⟨ji10, hji10⟩ : ∃ j_ : Int, (mn ((rd_T42 l0 x9_2).f1) 86400) = j_ := ⟨_, rfl⟩
                  replace H : (if (mx ji4 (wrap64 ((wrap64 (x6_1 * 86400)) + (mx 0 (ji10))))) < (wrap64 ((wrap64 (x6_1 + 1)) * 86400)) then ((skiarearef02_In.f k2 (([(⟨(rd_T42 l0 x9_2).f0, (rd_T42 l0 x9_2).f1, (rd_T42 l0 x9_2).f2⟩ : S42)] : List (S42))) (mx ji4 (wrap64 ((wrap64 (x6_1 * 86400)) + (mx 0 (ji10)))))).bind fun t244 => (if t244 = true then (if x8_2 = true then (if (mx ji4 (wrap64 ((wrap64 (x6_1 * 86400)) + (mx 0 (ji10))))) < x7_2 then (skiarearef02_Next.l1 k2 l0 ji4 x6_1 (mx ji4 (wrap64 ((wrap64 (x6_1 * 86400)) + (mx 0 (ji10))))) true (wrap64 (x9_2 + 1))) else (skiarearef02_Next.l1 k2 l0 ji4 x6_1 x7_2 x8_2 (wrap64 (x9_2 + 1)))) else (skiarearef02_Next.l1 k2 l0 ji4 x6_1 (mx ji4 (wrap64 ((wrap64 (x6_1 * 86400)) + (mx 0 (ji10))))) true (wrap64 (x9_2 + 1)))) else (skiarearef02_Next.l1 k2 l0 ji4 x6_1 x7_2 x8_2 (wrap64 (x9_2 + 1))))) else (skiarearef02_Next.l1 k2 l0 ji4 x6_1 x7_2 x8_2 (wrap64 (x9_2 + 1)))) = some (r1, r2) := by first | (rw [hji10] at H; exact H) | (simp only [hji10] at H ⊢; exact H)
                  have hji10_ : (if 86400 < ((rd_T42 l0 x9_2).f1) then 86400 else ((rd_T42 l0 x9_2).f1)) = ji10 := hji10
                  obtain ⟨ji11, hji11⟩ : ∃ j_ : Int, (mx 0 (ji10)) = j_ := ⟨_, rfl⟩
                  replace H : (if (mx ji4 (wrap64 ((wrap64 (x6_1 * 86400)) + (ji11)))) < (wrap64 ((wrap64 (x6_1 + 1)) * 86400)) then ((skiarearef02_In.f k2 (([(⟨(rd_T42 l0 x9_2).f0, (rd_T42 l0 x9_2).f1, (rd_T42 l0 x9_2).f2⟩ : S42)] : List (S42))) (mx ji4 (wrap64 ((wrap64 (x6_1 * 86400)) + (ji11))))).bind fun t244 => (if t244 = true then (if x8_2 = true then (if (mx ji4 (wrap64 ((wrap64 (x6_1 * 86400)) + (ji11)))) < x7_2 then (skiarearef02_Next.l1 k2 l0 ji4 x6_1 (mx ji4 (wrap64 ((wrap64 (x6_1 * 86400)) + (ji11)))) true (wrap64 (x9_2 + 1))) else (skiarearef02_Next.l1 k2 l0 ji4 x6_1 x7_2 x8_2 (wrap64 (x9_2 + 1)))) else (skiarearef02_Next.l1 k2 l0 ji4 x6_1 (mx ji4 (wrap64 ((wrap64 (x6_1 * 86400)) + (ji11)))) true (wrap64 (x9_2 + 1)))) else (skiarearef02_Next.l1 k2 l0 ji4 x6_1 x7_2 x8_2 (wrap64 (x9_2 + 1))))) else (skiarearef02_Next.l1 k2 l0 ji4 x6_1 x7_2 x8_2 (wrap64 (x9_2 + 1)))) = some (r1, r2) := by first | (rw [hji11] at H; exact H) | (simp only [hji11] at H ⊢; exact H)
                  have hji11_ : (if 0 < (ji10) then (ji10) else 0) = ji11 := hji11
                  obtain ⟨ji12, hji12⟩ : ∃ j_ : Int, (mx ji4 (wrap64 ((wrap64 (x6_1 * 86400)) + (ji11)))) = j_ := ⟨_, rfl⟩
                  replace H : (if (ji12) < (wrap64 ((wrap64 (x6_1 + 1)) * 86400)) then ((skiarearef02_In.f k2 (([(⟨(rd_T42 l0 x9_2).f0, (rd_T42 l0 x9_2).f1, (rd_T42 l0 x9_2).f2⟩ : S42)] : List (S42))) (ji12)).bind fun t244 => (if t244 = true then (if x8_2 = true then (if (ji12) < x7_2 then (skiarearef02_Next.l1 k2 l0 ji4 x6_1 ji12 true (wrap64 (x9_2 + 1))) else (skiarearef02_Next.l1 k2 l0 ji4 x6_1 x7_2 x8_2 (wrap64 (x9_2 + 1)))) else (skiarearef02_Next.l1 k2 l0 ji4 x6_1 ji12 true (wrap64 (x9_2 + 1)))) else (skiarearef02_Next.l1 k2 l0 ji4 x6_1 x7_2 x8_2 (wrap64 (x9_2 + 1))))) else (skiarearef02_Next.l1 k2 l0 ji4 x6_1 x7_2 x8_2 (wrap64 (x9_2 + 1)))) = some (r1, r2) := by first | (rw [hji12] at H; exact H) | (simp only [hji12] at H ⊢; exact H)
                  have hji12_ : (if ji4 < (wrap64 ((wrap64 (x6_1 * 86400)) + (ji11))) then (wrap64 ((wrap64 (x6_1 * 86400)) + (ji11))) else ji4) = ji12 := hji12
                  by_cases c13 : (ji12) < (wrap64 ((wrap64 (x6_1 + 1)) * 86400))
                  · rw [if_pos c13] at H
                    have c13b0 : decide ((ji12) < (wrap64 ((wrap64 (x6_1 + 1)) * 86400))) = true := decide_eq_true c13
                    clear c13
                    obtain ⟨y241, hy241⟩ : ∃ y_ : List (S42), y_ = (([(⟨(rd_T42 l0 x9_2).f0, (rd_T42 l0 x9_2).f1, (rd_T42 l0 x9_2).f2⟩ : S42)] : List (S42))) := ⟨_, rfl⟩
                    replace H : ((skiarearef02_In.f k2 y241 (ji12)).bind fun t244 => (if t244 = true then (if x8_2 = true then (if (ji12) < x7_2 then (skiarearef02_Next.l1 k2 l0 ji4 x6_1 ji12 true (wrap64 (x9_2 + 1))) else (skiarearef02_Next.l1 k2 l0 ji4 x6_1 x7_2 x8_2 (wrap64 (x9_2 + 1)))) else (skiarearef02_Next.l1 k2 l0 ji4 x6_1 ji12 true (wrap64 (x9_2 + 1)))) else (skiarearef02_Next.l1 k2 l0 ji4 x6_1 x7_2 x8_2 (wrap64 (x9_2 + 1))))) = some (r1, r2) := by first | (rw [hy241]; with_reducible exact H) | (have H2_ := (Option.bind_some _ _).symm.trans H; rw [hy241]; with_reducible exact H2_) | (have H2_ := (Option.bind_some _ _).symm.trans H; with_reducible exact H2_) | with_reducible exact H | (rw [hy241]; exact H) | exact H
                    have Ny241 := Aside0.mk hy241
                    clear hy241
                    replace H := Option.bind_eq_some_iff.mp H
                    obtain ⟨t244, A140, H⟩ := H
                    replace H : (if t244 = true then (if x8_2 = true then (if (ji12) < x7_2 then (skiarearef02_Next.l1 k2 l0 ji4 x6_1 ji12 true (wrap64 (x9_2 + 1))) else (skiarearef02_Next.l1 k2 l0 ji4 x6_1 x7_2 x8_2 (wrap64 (x9_2 + 1)))) else (skiarearef02_Next.l1 k2 l0 ji4 x6_1 ji12 true (wrap64 (x9_2 + 1)))) else (skiarearef02_Next.l1 k2 l0 ji4 x6_1 x7_2 x8_2 (wrap64 (x9_2 + 1)))) = some (r1, r2) := H
                    have A14 := Aside0.mk A140
                    clear A140
                    by_cases c15 : t244 = true
                    · subst c15
                      have H1 : (if x8_2 = true then (if (ji12) < x7_2 then (skiarearef02_Next.l1 k2 l0 ji4 x6_1 ji12 true (wrap64 (x9_2 + 1))) else (skiarearef02_Next.l1 k2 l0 ji4 x6_1 x7_2 x8_2 (wrap64 (x9_2 + 1)))) else (skiarearef02_Next.l1 k2 l0 ji4 x6_1 ji12 true (wrap64 (x9_2 + 1)))) = some (r1, r2) := by rw [if_pos rfl] at H; exact H
                      clear H
                      have H := H1
                      clear H1
                      by_cases c16 : x8_2 = true
                      · subst c16
                        have H1 : (if (ji12) < x7_2 then (skiarearef02_Next.l1 k2 l0 ji4 x6_1 ji12 true (wrap64 (x9_2 + 1))) else (skiarearef02_Next.l1 k2 l0 ji4 x6_1 x7_2 true (wrap64 (x9_2 + 1)))) = some (r1, r2) := by rw [if_pos rfl] at H; exact H
                        clear H
                        have H := H1
                        clear H1
                        by_cases c17 : (ji12) < x7_2
                        · rw [if_pos c17] at H
                          have c17b0 : decide ((ji12) < x7_2) = true := decide_eq_true c17
                          clear c17
                          have H' := Aside0.mk H
                          clear H
                          have p239 : 0 ≤ (x9_2 : Int) := of_decide_eq_true (by first | (with_reducible assumption) | assumption)
                          have q239 : x9_2 < (l0.length : Int) := of_decide_eq_true (by first | (with_reducible assumption) | assumption)
                          obtain ⟨ad239, e239, hx239_0, hx239_1, hx239_2⟩ := at_T42 HR0.out x9_2 p239 q239
                          cases e239
                          replace hx239_0 := (HB.out.cell (World.block_lt_of_cell? w _ hx239_0)).trans hx239_0
                          replace hx239_1 := (HB.out.cell (World.block_lt_of_cell? w _ hx239_1)).trans hx239_1
                          replace hx239_2 := (HB.out.cell (World.block_lt_of_cell? w _ hx239_2)).trans hx239_2
                          replace p239 := eq_true p239
                          replace q239 := eq_true q239
                          have p240 : 0 ≤ (x9_2 : Int) := of_decide_eq_true (by first | (with_reducible assumption) | assumption)
                          have q240 : x9_2 < (l0.length : Int) := of_decide_eq_true (by first | (with_reducible assumption) | assumption)
                          obtain ⟨ad240, e240, hx240_0, hx240_1, hx240_2⟩ := at_T42 HR0.out x9_2 p240 q240
                          obtain rfl : ad239 = ad240 := (by injection e240)
                          replace hx240_0 := (HB.out.cell (World.block_lt_of_cell? w _ hx240_0)).trans hx240_0
                          replace hx240_1 := (HB.out.cell (World.block_lt_of_cell? w _ hx240_1)).trans hx240_1
                          replace hx240_2 := (HB.out.cell (World.block_lt_of_cell? w _ hx240_2)).trans hx240_2
                          replace p240 := eq_true p240
                          replace q240 := eq_true q240
                          go_wp2_with (first | ((with_reducible refine gate_dst (N := 52) rfl ?_); (try (refine gate_guard (by rfl) ?_; dsimp only)); refine Kd.R_lit k42 _ 42 ?hg (N := 52) ?hd (xs := ([(⟨(rd_T42 l0 x9_2).f0, (rd_T42 l0 x9_2).f1, (rd_T42 l0 x9_2).f2⟩ : S42)] : List (S42))) (inner := [.int .i64 ((rd_T42 l0 x9_2).f0), .int .i64 ((rd_T42 l0 x9_2).f1), .int .i64 ((rd_T42 l0 x9_2).f2)]) (ok := fun _ => True) (okp := fun _ => True) ?hr ?hp (fun _ hk => hk) trivial (Below.refl _ _) (Nat.le_refl _) (by simp) ?_; (case hd => rfl); (case hg => rfl); (case hr => first | (go_simp; done) | (go_simp; rfl)); (case hp => exact (Reps.c3 (show Kd.M k42 _ _ _ (⟨(rd_T42 l0 x9_2).f0, (rd_T42 l0 x9_2).f1, (rd_T42 l0 x9_2).f2⟩ : S42) [.int .i64 ((rd_T42 l0 x9_2).f0), .int .i64 ((rd_T42 l0 x9_2).f1), .int .i64 ((rd_T42 l0 x9_2).f2)] from (k42_mkM _ _ _ (⟨(rd_T42 l0 x9_2).f0, (rd_T42 l0 x9_2).f1, (rd_T42 l0 x9_2).f2⟩ : S42) )) (Reps.none _ _))); intro v242 w18 ho19 hb hg_ hnew_; clear hg_ hnew_; (first | rw [← Ny241.out] at ho19 | (simp only [Int.reduceToNat] at ho19; rw [← Ny241.out] at ho19)); have n0_ := Aside0.mk (Kd.R_lower ho19 (below_size (by repeat (first | (with_reducible first | exact HB.out | apply below_alloc | apply pw_below_drewN | apply below_drew1) | exact HB.out)))); have n1_ := Aside0.mk (below_step (by repeat (first | (with_reducible first | exact HB.out | apply below_alloc | apply pw_below_drewN | apply below_drew1) | exact HB.out)) hb); clear HB; have HO243 := n0_; have HB := n1_; clear n0_ n1_; clear hb ho19; obtain ⟨Ao20, co20, eo20⟩ := Kd.R_slice HO243.out; subst eo20) | (go_at_call 21; (with_reducible refine (skiarearef02_In.calls k2 _ _ y241 ji12 true _ ?side1 ?side2 A14.out).mono ?_); (case side1 => repeat (first | exact (Kd.R_reads' HO243.out).2.2 | (with_reducible refine Kd.C_alloc ?_ _) | (with_reducible refine Kd.C_drewN ?_ _) | (with_reducible refine Kd.C_drew ?_))); (case side2 => exact (Kd.R_reads' HO243.out).2.1); rintro e w' ⟨rfl, ⟨nd, rfl⟩⟩))
                          go_roundg k2
                          case measure => have := HK1.out; have := HK2.out; omega
                          case rel => exact ⟨(ji12), (true), (wrap64 (x9_2 + 1)), (by first | rfl | (simp; done) | (simp only [← hji12] <;> (first | rfl | simp)) | (simp [*]; done)), (by first | rfl | (simp; done) | (simp [*]; done)), (by first | rfl | (simp; done) | (simp [*]; done)), H', ⟨by have := HK1.out; have := HK2.out; omega⟩, ⟨by repeat (first | (with_reducible first | exact HB.out | apply below_alloc | apply pw_below_drewN | apply below_drew1) | exact HB.out)⟩⟩
                        · rw [if_neg c17] at H
                          have c17b0 : decide ((ji12) < x7_2) = false := decide_eq_false c17
                          clear c17
                          have H' := Aside0.mk H
                          clear H
                          have p239 : 0 ≤ (x9_2 : Int) := of_decide_eq_true (by first | (with_reducible assumption) | assumption)
                          have q239 : x9_2 < (l0.length : Int) := of_decide_eq_true (by first | (with_reducible assumption) | assumption)
                          obtain ⟨ad239, e239, hx239_0, hx239_1, hx239_2⟩ := at_T42 HR0.out x9_2 p239 q239
                          cases e239
                          replace hx239_0 := (HB.out.cell (World.block_lt_of_cell? w _ hx239_0)).trans hx239_0
                          replace hx239_1 := (HB.out.cell (World.block_lt_of_cell? w _ hx239_1)).trans hx239_1
                          replace hx239_2 := (HB.out.cell (World.block_lt_of_cell? w _ hx239_2)).trans hx239_2
                          replace p239 := eq_true p239
                          replace q239 := eq_true q239
                          have p240 : 0 ≤ (x9_2 : Int) := of_decide_eq_true (by first | (with_reducible assumption) | assumption)
                          have q240 : x9_2 < (l0.length : Int) := of_decide_eq_true (by first | (with_reducible assumption) | assumption)
                          obtain ⟨ad240, e240, hx240_0, hx240_1, hx240_2⟩ := at_T42 HR0.out x9_2 p240 q240
                          obtain rfl : ad239 = ad240 := (by injection e240)
                          replace hx240_0 := (HB.out.cell (World.block_lt_of_cell? w _ hx240_0)).trans hx240_0
                          replace hx240_1 := (HB.out.cell (World.block_lt_of_cell? w _ hx240_1)).trans hx240_1
                          replace hx240_2 := (HB.out.cell (World.block_lt_of_cell? w _ hx240_2)).trans hx240_2
                          replace p240 := eq_true p240
                          replace q240 := eq_true q240
                          go_wp2_with (first | ((with_reducible refine gate_dst (N := 52) rfl ?_); (try (refine gate_guard (by rfl) ?_; dsimp only)); refine Kd.R_lit k42 _ 42 ?hg (N := 52) ?hd (xs := ([(⟨(rd_T42 l0 x9_2).f0, (rd_T42 l0 x9_2).f1, (rd_T42 l0 x9_2).f2⟩ : S42)] : List (S42))) (inner := [.int .i64 ((rd_T42 l0 x9_2).f0), .int .i64 ((rd_T42 l0 x9_2).f1), .int .i64 ((rd_T42 l0 x9_2).f2)]) (ok := fun _ => True) (okp := fun _ => True) ?hr ?hp (fun _ hk => hk) trivial (Below.refl _ _) (Nat.le_refl _) (by simp) ?_; (case hd => rfl); (case hg => rfl); (case hr => first | (go_simp; done) | (go_simp; rfl)); (case hp => exact (Reps.c3 (show Kd.M k42 _ _ _ (⟨(rd_T42 l0 x9_2).f0, (rd_T42 l0 x9_2).f1, (rd_T42 l0 x9_2).f2⟩ : S42) [.int .i64 ((rd_T42 l0 x9_2).f0), .int .i64 ((rd_T42 l0 x9_2).f1), .int .i64 ((rd_T42 l0 x9_2).f2)] from (k42_mkM _ _ _ (⟨(rd_T42 l0 x9_2).f0, (rd_T42 l0 x9_2).f1, (rd_T42 l0 x9_2).f2⟩ : S42) )) (Reps.none _ _))); intro v242 w21 ho22 hb hg_ hnew_; clear hg_ hnew_; (first | rw [← Ny241.out] at ho22 | (simp only [Int.reduceToNat] at ho22; rw [← Ny241.out] at ho22)); have n0_ := Aside0.mk (Kd.R_lower ho22 (below_size (by repeat (first | (with_reducible first | exact HB.out | apply below_alloc | apply pw_below_drewN | apply below_drew1) | exact HB.out)))); have n1_ := Aside0.mk (below_step (by repeat (first | (with_reducible first | exact HB.out | apply below_alloc | apply pw_below_drewN | apply below_drew1) | exact HB.out)) hb); clear HB; have HO243 := n0_; have HB := n1_; clear n0_ n1_; clear hb ho22; obtain ⟨Ao23, co23, eo23⟩ := Kd.R_slice HO243.out; subst eo23) | (go_at_call 21; (with_reducible refine (skiarearef02_In.calls k2 _ _ y241 ji12 true _ ?side1 ?side2 A14.out).mono ?_); (case side1 => repeat (first | exact (Kd.R_reads' HO243.out).2.2 | (with_reducible refine Kd.C_alloc ?_ _) | (with_reducible refine Kd.C_drewN ?_ _) | (with_reducible refine Kd.C_drew ?_))); (case side2 => exact (Kd.R_reads' HO243.out).2.1); rintro e w' ⟨rfl, ⟨nd, rfl⟩⟩))
                          go_roundg k2
                          case measure => have := HK1.out; have := HK2.out; omega
                          case rel => exact ⟨(x7_2), (true), (wrap64 (x9_2 + 1)), (by first | rfl | (simp; done) | (simp [*]; done)), (by first | rfl | (simp; done) | (simp [*]; done)), (by first | rfl | (simp; done) | (simp [*]; done)), H', ⟨by have := HK1.out; have := HK2.out; omega⟩, ⟨by repeat (first | (with_reducible first | exact HB.out | apply below_alloc | apply pw_below_drewN | apply below_drew1) | exact HB.out)⟩⟩
                      · replace c16 := Bool.eq_false_iff.mpr c16
                        subst c16
                        have H1 : (skiarearef02_Next.l1 k2 l0 ji4 x6_1 ji12 true (wrap64 (x9_2 + 1))) = some (r1, r2) := by rw [if_neg (show ¬ (false = true) by decide)] at H; exact H
                        clear H
                        have H := H1
                        clear H1
                        have H' := Aside0.mk H
                        clear H
                        have p239 : 0 ≤ (x9_2 : Int) := of_decide_eq_true (by first | (with_reducible assumption) | assumption)
                        have q239 : x9_2 < (l0.length : Int) := of_decide_eq_true (by first | (with_reducible assumption) | assumption)
                        obtain ⟨ad239, e239, hx239_0, hx239_1, hx239_2⟩ := at_T42 HR0.out x9_2 p239 q239
                        cases e239
                        replace hx239_0 := (HB.out.cell (World.block_lt_of_cell? w _ hx239_0)).trans hx239_0
                        replace hx239_1 := (HB.out.cell (World.block_lt_of_cell? w _ hx239_1)).trans hx239_1
                        replace hx239_2 := (HB.out.cell (World.block_lt_of_cell? w _ hx239_2)).trans hx239_2
                        replace p239 := eq_true p239
                        replace q239 := eq_true q239
                        have p240 : 0 ≤ (x9_2 : Int) := of_decide_eq_true (by first | (with_reducible assumption) | assumption)
                        have q240 : x9_2 < (l0.length : Int) := of_decide_eq_true (by first | (with_reducible assumption) | assumption)
                        obtain ⟨ad240, e240, hx240_0, hx240_1, hx240_2⟩ := at_T42 HR0.out x9_2 p240 q240
                        obtain rfl : ad239 = ad240 := (by injection e240)
                        replace hx240_0 := (HB.out.cell (World.block_lt_of_cell? w _ hx240_0)).trans hx240_0
                        replace hx240_1 := (HB.out.cell (World.block_lt_of_cell? w _ hx240_1)).trans hx240_1
                        replace hx240_2 := (HB.out.cell (World.block_lt_of_cell? w _ hx240_2)).trans hx240_2
                        replace p240 := eq_true p240
                        replace q240 := eq_true q240
                        go_wp2_with (first | ((with_reducible refine gate_dst (N := 52) rfl ?_); (try (refine gate_guard (by rfl) ?_; dsimp only)); refine Kd.R_lit k42 _ 42 ?hg (N := 52) ?hd (xs := ([(⟨(rd_T42 l0 x9_2).f0, (rd_T42 l0 x9_2).f1, (rd_T42 l0 x9_2).f2⟩ : S42)] : List (S42))) (inner := [.int .i64 ((rd_T42 l0 x9_2).f0), .int .i64 ((rd_T42 l0 x9_2).f1), .int .i64 ((rd_T42 l0 x9_2).f2)]) (ok := fun _ => True) (okp := fun _ => True) ?hr ?hp (fun _ hk => hk) trivial (Below.refl _ _) (Nat.le_refl _) (by simp) ?_; (case hd => rfl); (case hg => rfl); (case hr => first | (go_simp; done) | (go_simp; rfl)); (case hp => exact (Reps.c3 (show Kd.M k42 _ _ _ (⟨(rd_T42 l0 x9_2).f0, (rd_T42 l0 x9_2).f1, (rd_T42 l0 x9_2).f2⟩ : S42) [.int .i64 ((rd_T42 l0 x9_2).f0), .int .i64 ((rd_T42 l0 x9_2).f1), .int .i64 ((rd_T42 l0 x9_2).f2)] from (k42_mkM _ _ _ (⟨(rd_T42 l0 x9_2).f0, (rd_T42 l0 x9_2).f1, (rd_T42 l0 x9_2).f2⟩ : S42) )) (Reps.none _ _))); intro v242 w24 ho25 hb hg_ hnew_; clear hg_ hnew_; (first | rw [← Ny241.out] at ho25 | (simp only [Int.reduceToNat] at ho25; rw [← Ny241.out] at ho25)); have n0_ := Aside0.mk (Kd.R_lower ho25 (below_size (by repeat (first | (with_reducible first | exact HB.out | apply below_alloc | apply pw_below_drewN | apply below_drew1) | exact HB.out)))); have n1_ := Aside0.mk (below_step (by repeat (first | (with_reducible first | exact HB.out | apply below_alloc | apply pw_below_drewN | apply below_drew1) | exact HB.out)) hb); clear HB; have HO243 := n0_; have HB := n1_; clear n0_ n1_; clear hb ho25; obtain ⟨Ao26, co26, eo26⟩ := Kd.R_slice HO243.out; subst eo26) | (go_at_call 21; (with_reducible refine (skiarearef02_In.calls k2 _ _ y241 ji12 true _ ?side1 ?side2 A14.out).mono ?_); (case side1 => repeat (first | exact (Kd.R_reads' HO243.out).2.2 | (with_reducible refine Kd.C_alloc ?_ _) | (with_reducible refine Kd.C_drewN ?_ _) | (with_reducible refine Kd.C_drew ?_))); (case side2 => exact (Kd.R_reads' HO243.out).2.1); rintro e w' ⟨rfl, ⟨nd, rfl⟩⟩))
                        go_roundg k2
                        case measure => have := HK1.out; have := HK2.out; omega
                        case rel => exact ⟨(ji12), (true), (wrap64 (x9_2 + 1)), (by first | rfl | (simp; done) | (simp only [← hji12] <;> (first | rfl | simp)) | (simp [*]; done)), (by first | rfl | (simp; done) | (simp [*]; done)), (by first | rfl | (simp; done) | (simp [*]; done)), H', ⟨by have := HK1.out; have := HK2.out; omega⟩, ⟨by repeat (first | (with_reducible first | exact HB.out | apply below_alloc | apply pw_below_drewN | apply below_drew1) | exact HB.out)⟩⟩
                    · replace c15 := Bool.eq_false_iff.mpr c15
                      subst c15
                      have H1 : (skiarearef02_Next.l1 k2 l0 ji4 x6_1 x7_2 x8_2 (wrap64 (x9_2 + 1))) = some (r1, r2) := by rw [if_neg (show ¬ (false = true) by decide)] at H; exact H
                      clear H
                      have H := H1
                      clear H1
                      have H' := Aside0.mk H
                      clear H
                      have p239 : 0 ≤ (x9_2 : Int) := of_decide_eq_true (by first | (with_reducible assumption) | assumption)
                      have q239 : x9_2 < (l0.length : Int) := of_decide_eq_true (by first | (with_reducible assumption) | assumption)
                      obtain ⟨ad239, e239, hx239_0, hx239_1, hx239_2⟩ := at_T42 HR0.out x9_2 p239 q239
                      cases e239
                      replace hx239_0 := (HB.out.cell (World.block_lt_of_cell? w _ hx239_0)).trans hx239_0
                      replace hx239_1 := (HB.out.cell (World.block_lt_of_cell? w _ hx239_1)).trans hx239_1
                      replace hx239_2 := (HB.out.cell (World.block_lt_of_cell? w _ hx239_2)).trans hx239_2
                      replace p239 := eq_true p239
                      replace q239 := eq_true q239
                      have p240 : 0 ≤ (x9_2 : Int) := of_decide_eq_true (by first | (with_reducible assumption) | assumption)
                      have q240 : x9_2 < (l0.length : Int) := of_decide_eq_true (by first | (with_reducible assumption) | assumption)
                      obtain ⟨ad240, e240, hx240_0, hx240_1, hx240_2⟩ := at_T42 HR0.out x9_2 p240 q240
                      obtain rfl : ad239 = ad240 := (by injection e240)
                      replace hx240_0 := (HB.out.cell (World.block_lt_of_cell? w _ hx240_0)).trans hx240_0
                      replace hx240_1 := (HB.out.cell (World.block_lt_of_cell? w _ hx240_1)).trans hx240_1
                      replace hx240_2 := (HB.out.cell (World.block_lt_of_cell? w _ hx240_2)).trans hx240_2
                      replace p240 := eq_true p240
                      replace q240 := eq_true q240
                      go_wp2_with (first | ((with_reducible refine gate_dst (N := 52) rfl ?_); (try (refine gate_guard (by rfl) ?_; dsimp only)); refine Kd.R_lit k42 _ 42 ?hg (N := 52) ?hd (xs := ([(⟨(rd_T42 l0 x9_2).f0, (rd_T42 l0 x9_2).f1, (rd_T42 l0 x9_2).f2⟩ : S42)] : List (S42))) (inner := [.int .i64 ((rd_T42 l0 x9_2).f0), .int .i64 ((rd_T42 l0 x9_2).f1), .int .i64 ((rd_T42 l0 x9_2).f2)]) (ok := fun _ => True) (okp := fun _ => True) ?hr ?hp (fun _ hk => hk) trivial (Below.refl _ _) (Nat.le_refl _) (by simp) ?_; (case hd => rfl); (case hg => rfl); (case hr => first | (go_simp; done) | (go_simp; rfl)); (case hp => exact (Reps.c3 (show Kd.M k42 _ _ _ (⟨(rd_T42 l0 x9_2).f0, (rd_T42 l0 x9_2).f1, (rd_T42 l0 x9_2).f2⟩ : S42) [.int .i64 ((rd_T42 l0 x9_2).f0), .int .i64 ((rd_T42 l0 x9_2).f1), .int .i64 ((rd_T42 l0 x9_2).f2)] from (k42_mkM _ _ _ (⟨(rd_T42 l0 x9_2).f0, (rd_T42 l0 x9_2).f1, (rd_T42 l0 x9_2).f2⟩ : S42) )) (Reps.none _ _))); intro v242 w27 ho28 hb hg_ hnew_; clear hg_ hnew_; (first | rw [← Ny241.out] at ho28 | (simp only [Int.reduceToNat] at ho28; rw [← Ny241.out] at ho28)); have n0_ := Aside0.mk (Kd.R_lower ho28 (below_size (by repeat (first | (with_reducible first | exact HB.out | apply below_alloc | apply pw_below_drewN | apply below_drew1) | exact HB.out)))); have n1_ := Aside0.mk (below_step (by repeat (first | (with_reducible first | exact HB.out | apply below_alloc | apply pw_below_drewN | apply below_drew1) | exact HB.out)) hb); clear HB; have HO243 := n0_; have HB := n1_; clear n0_ n1_; clear hb ho28; obtain ⟨Ao29, co29, eo29⟩ := Kd.R_slice HO243.out; subst eo29) | (go_at_call 21; (with_reducible refine (skiarearef02_In.calls k2 _ _ y241 ji12 false _ ?side1 ?side2 A14.out).mono ?_); (case side1 => repeat (first | exact (Kd.R_reads' HO243.out).2.2 | (with_reducible refine Kd.C_alloc ?_ _) | (with_reducible refine Kd.C_drewN ?_ _) | (with_reducible refine Kd.C_drew ?_))); (case side2 => exact (Kd.R_reads' HO243.out).2.1); rintro e w' ⟨rfl, ⟨nd, rfl⟩⟩))
                      go_roundg k2
                      case measure => have := HK1.out; have := HK2.out; omega
                      case rel => exact ⟨(x7_2), (x8_2), (wrap64 (x9_2 + 1)), (by first | rfl | (simp; done) | (simp [*]; done)), (by first | rfl | (simp; done) | (simp [*]; done)), (by first | rfl | (simp; done) | (simp [*]; done)), H', ⟨by have := HK1.out; have := HK2.out; omega⟩, ⟨by repeat (first | (with_reducible first | exact HB.out | apply below_alloc | apply pw_below_drewN | apply below_drew1) | exact HB.out)⟩⟩
                  · rw [if_neg c13] at H
                    have c13b0 : decide ((ji12) < (wrap64 ((wrap64 (x6_1 + 1)) * 86400))) = false := decide_eq_false c13
                    clear c13
                    have H' := Aside0.mk H
                    clear H
                    have p239 : 0 ≤ (x9_2 : Int) := of_decide_eq_true (by first | (with_reducible assumption) | assumption)
                    have q239 : x9_2 < (l0.length : Int) := of_decide_eq_true (by first | (with_reducible assumption) | assumption)
                    obtain ⟨ad239, e239, hx239_0, hx239_1, hx239_2⟩ := at_T42 HR0.out x9_2 p239 q239
                    cases e239
                    replace hx239_0 := (HB.out.cell (World.block_lt_of_cell? w _ hx239_0)).trans hx239_0
                    replace hx239_1 := (HB.out.cell (World.block_lt_of_cell? w _ hx239_1)).trans hx239_1
                    replace hx239_2 := (HB.out.cell (World.block_lt_of_cell? w _ hx239_2)).trans hx239_2
                    replace p239 := eq_true p239
                    replace q239 := eq_true q239
                    go_wp2
                    go_roundg k2
                    case measure => have := HK1.out; have := HK2.out; omega
                    case rel => exact ⟨(x7_2), (x8_2), (wrap64 (x9_2 + 1)), (by first | rfl | (simp; done) | (simp [*]; done)), (by first | rfl | (simp; done) | (simp [*]; done)), (by first | rfl | (simp; done) | (simp [*]; done)), H', ⟨by have := HK1.out; have := HK2.out; omega⟩, ⟨by repeat (first | (with_reducible first | exact HB.out | apply below_alloc | apply pw_below_drewN | apply below_drew1) | exact HB.out)⟩⟩
                · rw [if_neg c9] at H
                  exact absurd H (by simp)
              · rw [if_neg c8] at H
                have c8b0 : decide (x9_2 < (l0.length : Int)) = false := decide_eq_false c8
                clear c8
                by_cases c30 : x8_2 = true
                · subst c30
                  have H1 : (some (x7_2, true)) = some (r1, r2) := by rw [if_pos rfl] at H; exact H
                  clear H
                  have H := H1
                  clear H1
                  simp only [Option.some.injEq, Prod.mk.injEq] at H
                  obtain ⟨rfl, rfl⟩ := H
                  go_wp2
                  go_ret2
                  exact ⟨by first | rfl | (simp [errW_none, errW_some] <;> rfl) | (simp only [← hji4]; first | rfl | (simp [errW_none, errW_some] <;> rfl)) | (simp [*, errW_none, errW_some] <;> rfl), by repeat (first | (with_reducible first | exact HB.out | apply below_alloc | apply pw_below_drewN | apply below_drew1) | exact HB.out)⟩
                · replace c30 := Bool.eq_false_iff.mpr c30
                  subst c30
                  have H1 : (skiarearef02_Next.l0 k2 l0 ji4 (wrap64 (x6_1 + 1))) = some (r1, r2) := by rw [if_neg (show ¬ (false = true) by decide)] at H; exact H
                  clear H
                  have H := H1
                  clear H1
                  have H' := Aside0.mk H
                  clear H
                  go_wp2
                  go_roundg k2
                  case measure => have := HK1.out; have := HK2.out; omega
                  case rel => exact ⟨(wrap64 (x6_1 + 1)), (by first | rfl | (simp; done) | (simp [*]; done)), H', ⟨by have := HK1.out; have := HK2.out; omega⟩, ⟨by repeat (first | (with_reducible first | exact HB.out | apply below_alloc | apply pw_below_drewN | apply below_drew1) | exact HB.out)⟩⟩
        · rw [if_neg c7] at H
          have c7b0 : decide (x6_1 ≤ (wrap64 (t238 + 7))) = false := decide_eq_false c7
          clear c7
          simp only [Option.some.injEq, Prod.mk.injEq] at H
          obtain ⟨rfl, rfl⟩ := H
          go_wp2_with (first | ((with_reducible refine gate_callee (f := 13) rfl ?_); refine goesL_ (some 19) rfl rfl Try.func13 (by kernel_rfl) rfl #[.int .i64 ji4] rfl (by (try simp only [List.map_toArray, List.map_cons, List.map_nil]); first | done | (simp only [hji4]; rfl) | rfl | (simp only [List.length_drop, List.length_take]; rfl)) ?_; (with_reducible refine (skiarearef02_Day.calls ji4 t238 _ A6.out).mono ?_); rintro e w' ⟨rfl, ⟨nd, rfl⟩⟩; refine ⟨_, rfl, ?_⟩))
          go_ret2
          exact ⟨by first | rfl | (simp [errW_none, errW_some] <;> rfl) | (simp only [← hji4]; first | rfl | (simp [errW_none, errW_some] <;> rfl)) | (simp [*, errW_none, errW_some] <;> rfl), by repeat (first | (with_reducible first | exact HB.out | apply below_alloc | apply pw_below_drewN | apply below_drew1) | exact HB.out)⟩

end Go.Proofs.Ytmijeihhioiliaa.Px
