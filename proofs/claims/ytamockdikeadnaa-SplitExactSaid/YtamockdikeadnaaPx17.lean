-- Lines of this text were written by the print of the kit, run by a program of this session (print2.py).
import Derived.Test.YtamockdikeadnaaPx0
import Derived.Test.YtamockdikeadnaaPx7
import Derived.Test.YtamockdikeadnaaPx8
import Derived.Test.YtamockdikeadnaaPx10
namespace Go.Proofs.Ytamockdikeadnaa.Px
open Go.RowKit Go.Proofs.YtamockdikeadnaaW.PrintWords Go.Proofs.YtamockdikeadnaaW.PrintLast Go.Proofs.YtamockdikeadnaaW.PrintMore
attribute [local go_sem] max2_int min2_int max_two min_two max_three min_three max_four min_four   -- for this text's walks alone
set_option linter.unusedVariables false
set_option linter.unusedSimpArgs false

/-! ### skiarealaw34_SplitExact: function 7 -/
mutual
def skiarealaw34_SplitExact.j0 : Nat → Int → List Int → List Int → Bool → Option (Bool)
  | 0, _, _, _, _ => none
  | k + 1, x0, x1, x5, x41 => if x41 = true then (some false) else (skiarealaw34_SplitExact.l0 k x0 x1 x5 0 0 0)
def skiarealaw34_SplitExact.l0 : Nat → Int → List Int → List Int → Int → Int → Int → Option (Bool)
  | 0, _, _, _, _, _, _ => none
  | k + 1, x0, x1, x5, x7, x8, x9 => if x9 < (x1.length : Int) then (if 0 ≤ x9 then (if (rd x1 x9) < 0 then (some false) else (if (rd x1 x9) > 1000000000 then (some false) else (skiarealaw34_SplitExact.l0 k x0 x1 x5 x7 (wrap64 (x8 + (rd x1 x9))) (wrap64 (x9 + 1))))) else (none)) else (if x8 = 0 then (skiarealaw34_SplitExact.j2 k x0 x1 x5 x7 x8 true) else (if x0 < 0 then (skiarealaw34_SplitExact.j2 k x0 x1 x5 x7 x8 true) else (skiarealaw34_SplitExact.j2 k x0 x1 x5 x7 x8 (decide (x0 > 1099511627776)))))
def skiarealaw34_SplitExact.j2 : Nat → Int → List Int → List Int → Int → Int → Bool → Option (Bool)
  | 0, _, _, _, _, _, _ => none
  | k + 1, x0, x1, x5, x7, x8, x75 => if x75 = true then (some false) else (skiarealaw34_SplitExact.l1 k x0 x1 x5 x7 x8 0)
def skiarealaw34_SplitExact.l1 : Nat → Int → List Int → List Int → Int → Int → Int → Option (Bool)
  | 0, _, _, _, _, _, _ => none
  | k + 1, x0, x1, x5, x7, x8, x10 => if x10 < (x5.length : Int) then (if 0 ≤ x10 then (if x10 < (x1.length : Int) then ((skiarearef34_Quotient.f k x0 (rd x1 x10) x8).bind fun bt330 => (if (rd x5 x10) = bt330.1 then (skiarealaw34_SplitExact.j4 k x0 x1 x5 x7 x8 x10 false) else (if bt330.2 = 0 then (skiarealaw34_SplitExact.j4 k x0 x1 x5 x7 x8 x10 true) else (skiarealaw34_SplitExact.j4 k x0 x1 x5 x7 x8 x10 ((rd x5 x10) != (wrap64 (bt330.1 + 1))))))) else (none)) else (none)) else (some (x7 == x0))
def skiarealaw34_SplitExact.j4 : Nat → Int → List Int → List Int → Int → Int → Int → Bool → Option (Bool)
  | 0, _, _, _, _, _, _, _ => none
  | k + 1, x0, x1, x5, x7, x8, x10, x110 => if x110 = true then (some false) else (skiarealaw34_SplitExact.l2 k x0 x1 x5 x7 x8 x10 0)
def skiarealaw34_SplitExact.l2 : Nat → Int → List Int → List Int → Int → Int → Int → Int → Option (Bool)
  | 0, _, _, _, _, _, _, _ => none
  | k + 1, x0, x1, x5, x7, x8, x10, x13 => if x13 < x10 then (if 0 ≤ x13 then (if x13 < (x1.length : Int) then (if 0 ≤ x10 then (if x10 < (x1.length : Int) then (if (rd x1 x13) < (rd x1 x10) then (if x13 < (x5.length : Int) then (if x10 < (x5.length : Int) then (if (rd x5 x13) > (rd x5 x10) then (some false) else (if (rd x1 x13) > (rd x1 x10) then (if (rd x5 x13) < (rd x5 x10) then (some false) else (if (rd x1 x13) = (rd x1 x10) then (skiarealaw34_SplitExact.l2 k x0 x1 x5 x7 x8 x10 (wrap64 (x13 + 1))) else (skiarealaw34_SplitExact.l2 k x0 x1 x5 x7 x8 x10 (wrap64 (x13 + 1))))) else (if (rd x1 x13) = (rd x1 x10) then (if (rd x5 x13) < (rd x5 x10) then (some false) else (skiarealaw34_SplitExact.l2 k x0 x1 x5 x7 x8 x10 (wrap64 (x13 + 1)))) else (skiarealaw34_SplitExact.l2 k x0 x1 x5 x7 x8 x10 (wrap64 (x13 + 1)))))) else (none)) else (none)) else (if (rd x1 x13) > (rd x1 x10) then (if x13 < (x5.length : Int) then (if x10 < (x5.length : Int) then (if (rd x5 x13) < (rd x5 x10) then (some false) else (if (rd x1 x13) = (rd x1 x10) then (skiarealaw34_SplitExact.l2 k x0 x1 x5 x7 x8 x10 (wrap64 (x13 + 1))) else (skiarealaw34_SplitExact.l2 k x0 x1 x5 x7 x8 x10 (wrap64 (x13 + 1))))) else (none)) else (none)) else (if (rd x1 x13) = (rd x1 x10) then (if x13 < (x5.length : Int) then (if x10 < (x5.length : Int) then (if (rd x5 x13) < (rd x5 x10) then (some false) else (skiarealaw34_SplitExact.l2 k x0 x1 x5 x7 x8 x10 (wrap64 (x13 + 1)))) else (none)) else (none)) else (skiarealaw34_SplitExact.l2 k x0 x1 x5 x7 x8 x10 (wrap64 (x13 + 1)))))) else (none)) else (none)) else (none)) else (none)) else (if 0 ≤ x10 then (if x10 < (x5.length : Int) then (skiarealaw34_SplitExact.l1 k x0 x1 x5 (wrap64 (x7 + (rd x5 x10))) x8 (wrap64 (x10 + 1))) else (none)) else (none))
end
def skiarealaw34_SplitExact.f (k : Nat) (a0 : Int) (l1 : List Int) : Option (Bool) := (skiarealaw34_alive.f k).bind fun t320 => (if t320 = true then (if (l1.length : Int) > 100 then (some true) else ((split_Split.f k a0 l1).bind fun bt321 => (if bt321.2 = 0 then (if (bt321.1.length : Int) = (l1.length : Int) then ((split_Fair.f k a0 l1 bt321.1).bind fun t325 => (skiarealaw34_SplitExact.j0 k a0 l1 bt321.1 (!t325))) else (skiarealaw34_SplitExact.j0 k a0 l1 bt321.1 true)) else (some ((bt321.1.length : Int) == 0))))) else (some false))
theorem skiarealaw34_SplitExact.mono_l : ∀ k, (∀ y0 y1 y2 y3, LeO (skiarealaw34_SplitExact.j0 k y0 y1 y2 y3) (skiarealaw34_SplitExact.j0 (k + 1) y0 y1 y2 y3)) ∧ (∀ y0 y1 y2 y3 y4 y5, LeO (skiarealaw34_SplitExact.l0 k y0 y1 y2 y3 y4 y5) (skiarealaw34_SplitExact.l0 (k + 1) y0 y1 y2 y3 y4 y5)) ∧ (∀ y0 y1 y2 y3 y4 y5, LeO (skiarealaw34_SplitExact.j2 k y0 y1 y2 y3 y4 y5) (skiarealaw34_SplitExact.j2 (k + 1) y0 y1 y2 y3 y4 y5)) ∧ (∀ y0 y1 y2 y3 y4 y5, LeO (skiarealaw34_SplitExact.l1 k y0 y1 y2 y3 y4 y5) (skiarealaw34_SplitExact.l1 (k + 1) y0 y1 y2 y3 y4 y5)) ∧ (∀ y0 y1 y2 y3 y4 y5 y6, LeO (skiarealaw34_SplitExact.j4 k y0 y1 y2 y3 y4 y5 y6) (skiarealaw34_SplitExact.j4 (k + 1) y0 y1 y2 y3 y4 y5 y6)) ∧ (∀ y0 y1 y2 y3 y4 y5 y6, LeO (skiarealaw34_SplitExact.l2 k y0 y1 y2 y3 y4 y5 y6) (skiarealaw34_SplitExact.l2 (k + 1) y0 y1 y2 y3 y4 y5 y6))
  | 0 => ⟨fun _ _ _ _ r h => by simp [skiarealaw34_SplitExact.j0] at h, fun _ _ _ _ _ _ r h => by simp [skiarealaw34_SplitExact.l0] at h, fun _ _ _ _ _ _ r h => by simp [skiarealaw34_SplitExact.j2] at h, fun _ _ _ _ _ _ r h => by simp [skiarealaw34_SplitExact.l1] at h, fun _ _ _ _ _ _ _ r h => by simp [skiarealaw34_SplitExact.j4] at h, fun _ _ _ _ _ _ _ r h => by simp [skiarealaw34_SplitExact.l2] at h⟩
  | k + 1 => by
    obtain ⟨ih0, ih1, ih2, ih3, ih4, ih5⟩ := skiarealaw34_SplitExact.mono_l k
    refine ⟨?_, ?_, ?_, ?_, ?_, ?_⟩
    · intro y0 y1 y2 y3
      unfold skiarealaw34_SplitExact.j0
      repeat' first
      | (with_reducible exact ih0 _ _ _ _)
      | (with_reducible exact ih1 _ _ _ _ _ _)
      | (with_reducible exact ih2 _ _ _ _ _ _)
      | (with_reducible exact ih3 _ _ _ _ _ _)
      | (with_reducible exact ih4 _ _ _ _ _ _ _)
      | (with_reducible exact ih5 _ _ _ _ _ _ _)
      | (with_reducible exact skiarealaw34_alive.mono _)
      | (with_reducible exact skiarearef34_Quotient.mono _ _ _ _)
      | (with_reducible exact split_Fair.mono _ _ _ _)
      | (with_reducible exact split_Split.mono _ _ _)
      | (with_reducible exact LeO.refl _)
      | (with_reducible exact LeO.none _)
      | (with_reducible refine LeO.ite ?_ ?_)
      | (with_reducible refine LeO.bind ?_ (fun _ => ?_))
      | exact ih0 _ _ _ _
      | exact ih1 _ _ _ _ _ _
      | exact ih2 _ _ _ _ _ _
      | exact ih3 _ _ _ _ _ _
      | exact ih4 _ _ _ _ _ _ _
      | exact ih5 _ _ _ _ _ _ _
      | exact skiarealaw34_alive.mono _
      | exact skiarearef34_Quotient.mono _ _ _ _
      | exact split_Fair.mono _ _ _ _
      | exact split_Split.mono _ _ _
      | exact LeO.none _
      | refine LeO.ite ?_ ?_
      | refine LeO.bind ?_ (fun _ => ?_)
    · intro y0 y1 y2 y3 y4 y5
      unfold skiarealaw34_SplitExact.l0
      repeat' first
      | (with_reducible exact ih0 _ _ _ _)
      | (with_reducible exact ih1 _ _ _ _ _ _)
      | (with_reducible exact ih2 _ _ _ _ _ _)
      | (with_reducible exact ih3 _ _ _ _ _ _)
      | (with_reducible exact ih4 _ _ _ _ _ _ _)
      | (with_reducible exact ih5 _ _ _ _ _ _ _)
      | (with_reducible exact skiarealaw34_alive.mono _)
      | (with_reducible exact skiarearef34_Quotient.mono _ _ _ _)
      | (with_reducible exact split_Fair.mono _ _ _ _)
      | (with_reducible exact split_Split.mono _ _ _)
      | (with_reducible exact LeO.refl _)
      | (with_reducible exact LeO.none _)
      | (with_reducible refine LeO.ite ?_ ?_)
      | (with_reducible refine LeO.bind ?_ (fun _ => ?_))
      | exact ih0 _ _ _ _
      | exact ih1 _ _ _ _ _ _
      | exact ih2 _ _ _ _ _ _
      | exact ih3 _ _ _ _ _ _
      | exact ih4 _ _ _ _ _ _ _
      | exact ih5 _ _ _ _ _ _ _
      | exact skiarealaw34_alive.mono _
      | exact skiarearef34_Quotient.mono _ _ _ _
      | exact split_Fair.mono _ _ _ _
      | exact split_Split.mono _ _ _
      | exact LeO.none _
      | refine LeO.ite ?_ ?_
      | refine LeO.bind ?_ (fun _ => ?_)
    · intro y0 y1 y2 y3 y4 y5
      unfold skiarealaw34_SplitExact.j2
      repeat' first
      | (with_reducible exact ih0 _ _ _ _)
      | (with_reducible exact ih1 _ _ _ _ _ _)
      | (with_reducible exact ih2 _ _ _ _ _ _)
      | (with_reducible exact ih3 _ _ _ _ _ _)
      | (with_reducible exact ih4 _ _ _ _ _ _ _)
      | (with_reducible exact ih5 _ _ _ _ _ _ _)
      | (with_reducible exact skiarealaw34_alive.mono _)
      | (with_reducible exact skiarearef34_Quotient.mono _ _ _ _)
      | (with_reducible exact split_Fair.mono _ _ _ _)
      | (with_reducible exact split_Split.mono _ _ _)
      | (with_reducible exact LeO.refl _)
      | (with_reducible exact LeO.none _)
      | (with_reducible refine LeO.ite ?_ ?_)
      | (with_reducible refine LeO.bind ?_ (fun _ => ?_))
      | exact ih0 _ _ _ _
      | exact ih1 _ _ _ _ _ _
      | exact ih2 _ _ _ _ _ _
      | exact ih3 _ _ _ _ _ _
      | exact ih4 _ _ _ _ _ _ _
      | exact ih5 _ _ _ _ _ _ _
      | exact skiarealaw34_alive.mono _
      | exact skiarearef34_Quotient.mono _ _ _ _
      | exact split_Fair.mono _ _ _ _
      | exact split_Split.mono _ _ _
      | exact LeO.none _
      | refine LeO.ite ?_ ?_
      | refine LeO.bind ?_ (fun _ => ?_)
    · intro y0 y1 y2 y3 y4 y5
      unfold skiarealaw34_SplitExact.l1
      repeat' first
      | (with_reducible exact ih0 _ _ _ _)
      | (with_reducible exact ih1 _ _ _ _ _ _)
      | (with_reducible exact ih2 _ _ _ _ _ _)
      | (with_reducible exact ih3 _ _ _ _ _ _)
      | (with_reducible exact ih4 _ _ _ _ _ _ _)
      | (with_reducible exact ih5 _ _ _ _ _ _ _)
      | (with_reducible exact skiarealaw34_alive.mono _)
      | (with_reducible exact skiarearef34_Quotient.mono _ _ _ _)
      | (with_reducible exact split_Fair.mono _ _ _ _)
      | (with_reducible exact split_Split.mono _ _ _)
      | (with_reducible exact LeO.refl _)
      | (with_reducible exact LeO.none _)
      | (with_reducible refine LeO.ite ?_ ?_)
      | (with_reducible refine LeO.bind ?_ (fun _ => ?_))
      | exact ih0 _ _ _ _
      | exact ih1 _ _ _ _ _ _
      | exact ih2 _ _ _ _ _ _
      | exact ih3 _ _ _ _ _ _
      | exact ih4 _ _ _ _ _ _ _
      | exact ih5 _ _ _ _ _ _ _
      | exact skiarealaw34_alive.mono _
      | exact skiarearef34_Quotient.mono _ _ _ _
      | exact split_Fair.mono _ _ _ _
      | exact split_Split.mono _ _ _
      | exact LeO.none _
      | refine LeO.ite ?_ ?_
      | refine LeO.bind ?_ (fun _ => ?_)
    · intro y0 y1 y2 y3 y4 y5 y6
      unfold skiarealaw34_SplitExact.j4
      repeat' first
      | (with_reducible exact ih0 _ _ _ _)
      | (with_reducible exact ih1 _ _ _ _ _ _)
      | (with_reducible exact ih2 _ _ _ _ _ _)
      | (with_reducible exact ih3 _ _ _ _ _ _)
      | (with_reducible exact ih4 _ _ _ _ _ _ _)
      | (with_reducible exact ih5 _ _ _ _ _ _ _)
      | (with_reducible exact skiarealaw34_alive.mono _)
      | (with_reducible exact skiarearef34_Quotient.mono _ _ _ _)
      | (with_reducible exact split_Fair.mono _ _ _ _)
      | (with_reducible exact split_Split.mono _ _ _)
      | (with_reducible exact LeO.refl _)
      | (with_reducible exact LeO.none _)
      | (with_reducible refine LeO.ite ?_ ?_)
      | (with_reducible refine LeO.bind ?_ (fun _ => ?_))
      | exact ih0 _ _ _ _
      | exact ih1 _ _ _ _ _ _
      | exact ih2 _ _ _ _ _ _
      | exact ih3 _ _ _ _ _ _
      | exact ih4 _ _ _ _ _ _ _
      | exact ih5 _ _ _ _ _ _ _
      | exact skiarealaw34_alive.mono _
      | exact skiarearef34_Quotient.mono _ _ _ _
      | exact split_Fair.mono _ _ _ _
      | exact split_Split.mono _ _ _
      | exact LeO.none _
      | refine LeO.ite ?_ ?_
      | refine LeO.bind ?_ (fun _ => ?_)
    · intro y0 y1 y2 y3 y4 y5 y6
      unfold skiarealaw34_SplitExact.l2
      repeat' first
      | (with_reducible exact ih0 _ _ _ _)
      | (with_reducible exact ih1 _ _ _ _ _ _)
      | (with_reducible exact ih2 _ _ _ _ _ _)
      | (with_reducible exact ih3 _ _ _ _ _ _)
      | (with_reducible exact ih4 _ _ _ _ _ _ _)
      | (with_reducible exact ih5 _ _ _ _ _ _ _)
      | (with_reducible exact skiarealaw34_alive.mono _)
      | (with_reducible exact skiarearef34_Quotient.mono _ _ _ _)
      | (with_reducible exact split_Fair.mono _ _ _ _)
      | (with_reducible exact split_Split.mono _ _ _)
      | (with_reducible exact LeO.refl _)
      | (with_reducible exact LeO.none _)
      | (with_reducible refine LeO.ite ?_ ?_)
      | (with_reducible refine LeO.bind ?_ (fun _ => ?_))
      | exact ih0 _ _ _ _
      | exact ih1 _ _ _ _ _ _
      | exact ih2 _ _ _ _ _ _
      | exact ih3 _ _ _ _ _ _
      | exact ih4 _ _ _ _ _ _ _
      | exact ih5 _ _ _ _ _ _ _
      | exact skiarealaw34_alive.mono _
      | exact skiarearef34_Quotient.mono _ _ _ _
      | exact split_Fair.mono _ _ _ _
      | exact split_Split.mono _ _ _
      | exact LeO.none _
      | refine LeO.ite ?_ ?_
      | refine LeO.bind ?_ (fun _ => ?_)
theorem skiarealaw34_SplitExact.mono : ∀ a0 a1 k, LeO (skiarealaw34_SplitExact.f k a0 a1) (skiarealaw34_SplitExact.f (k + 1) a0 a1) := by
  intro a0 a1 k
  obtain ⟨ih0, ih1, ih2, ih3, ih4, ih5⟩ := skiarealaw34_SplitExact.mono_l k
  unfold skiarealaw34_SplitExact.f
  repeat' first
      | (with_reducible exact ih0 _ _ _ _)
      | (with_reducible exact ih1 _ _ _ _ _ _)
      | (with_reducible exact ih2 _ _ _ _ _ _)
      | (with_reducible exact ih3 _ _ _ _ _ _)
      | (with_reducible exact ih4 _ _ _ _ _ _ _)
      | (with_reducible exact ih5 _ _ _ _ _ _ _)
      | (with_reducible exact skiarealaw34_alive.mono _)
      | (with_reducible exact skiarearef34_Quotient.mono _ _ _ _)
      | (with_reducible exact split_Fair.mono _ _ _ _)
      | (with_reducible exact split_Split.mono _ _ _)
      | (with_reducible exact LeO.refl _)
      | (with_reducible exact LeO.none _)
      | (with_reducible refine LeO.ite ?_ ?_)
      | (with_reducible refine LeO.bind ?_ (fun _ => ?_))
      | exact ih0 _ _ _ _
      | exact ih1 _ _ _ _ _ _
      | exact ih2 _ _ _ _ _ _
      | exact ih3 _ _ _ _ _ _
      | exact ih4 _ _ _ _ _ _ _
      | exact ih5 _ _ _ _ _ _ _
      | exact skiarealaw34_alive.mono _
      | exact skiarearef34_Quotient.mono _ _ _ _
      | exact split_Fair.mono _ _ _ _
      | exact split_Split.mono _ _ _
      | exact LeO.none _
      | refine LeO.ite ?_ ?_
      | refine LeO.bind ?_ (fun _ => ?_)
set_option maxHeartbeats 8000000 in
set_option maxRecDepth 100000 in
theorem skiarealaw34_SplitExact.calls (k : Nat) (a0 : Int) (A1 : Option Addr) (c1 : Nat) (l1 : List Int) (r : Bool) (w : World) (hr1 : Kd.C (Kd.int .i64) w A1 l1.length l1) (hc1 : l1.length ≤ c1) (h : skiarealaw34_SplitExact.f k a0 l1 = some r) :
    Calls Try.prog 7 #[.int .i64 a0, .slice A1 l1.length c1] w fun e w' => e = .returned (.bool r) ∧ Below w.heap.size w w' := by
  have HR1 := Aside0.mk hr1
  have HC1 := Aside0.mk hc1
  clear hr1 hc1
  have HB := Aside0.mk (Below.refl w.heap.size w)
  have H : ((skiarealaw34_alive.f k).bind fun t320 => (if t320 = true then (if (l1.length : Int) > 100 then (some true) else ((split_Split.f k a0 l1).bind fun bt321 => (if bt321.2 = 0 then (if (bt321.1.length : Int) = (l1.length : Int) then ((split_Fair.f k a0 l1 bt321.1).bind fun t325 => (skiarealaw34_SplitExact.j0 k a0 l1 bt321.1 (!t325))) else (skiarealaw34_SplitExact.j0 k a0 l1 bt321.1 true)) else (some ((bt321.1.length : Int) == 0))))) else (some false))) = some r := h
  clear h
  replace H := Option.bind_eq_some_iff.mp H
  obtain ⟨t320, A30, H⟩ := H
  replace H : (if t320 = true then (if (l1.length : Int) > 100 then (some true) else ((split_Split.f k a0 l1).bind fun bt321 => (if bt321.2 = 0 then (if (bt321.1.length : Int) = (l1.length : Int) then ((split_Fair.f k a0 l1 bt321.1).bind fun t325 => (skiarealaw34_SplitExact.j0 k a0 l1 bt321.1 (!t325))) else (skiarealaw34_SplitExact.j0 k a0 l1 bt321.1 true)) else (some ((bt321.1.length : Int) == 0))))) else (some false)) = some r := H
  have A3 := Aside0.mk A30
  clear A30
  by_cases c4 : t320 = true
  · subst c4
    have H1 : (if (l1.length : Int) > 100 then (some true) else ((split_Split.f k a0 l1).bind fun bt321 => (if bt321.2 = 0 then (if (bt321.1.length : Int) = (l1.length : Int) then ((split_Fair.f k a0 l1 bt321.1).bind fun t325 => (skiarealaw34_SplitExact.j0 k a0 l1 bt321.1 (!t325))) else (skiarealaw34_SplitExact.j0 k a0 l1 bt321.1 true)) else (some ((bt321.1.length : Int) == 0))))) = some r := by rw [if_pos rfl] at H; exact H
    clear H
    have H := H1
    clear H1
    by_cases c5 : (l1.length : Int) > 100
    · rw [if_pos c5] at H
      have c5b0 : decide (100 < (l1.length : Int)) = true := decide_eq_true c5
      have c5b1 : decide (100 < l1.length) = true := decide_eq_true (by omega)
      clear c5
      as_aux_lemma =>
        obtain rfl := Option.some.inj H
        go_enter Try.func7, Try.ntmps7
        go_wp2_with (first | (go_at_call 10; (with_reducible refine (skiarealaw34_alive.calls k  true _ A3.out).mono ?_); rintro e w6 ⟨rfl, hb⟩; have n0_ := Aside0.mk (below_step (by repeat (first | (with_reducible first | exact HB.out | apply below_alloc | apply pw_below_drewN | apply below_drew1) | exact HB.out)) hb); clear HB; have HB := n0_; clear n0_; (try clear hb); (try clear hb2); (try clear hk); (try clear hi)))
        repeat (go_quiet (first | (go_at_call 10; (with_reducible refine (skiarealaw34_alive.calls k  true _ A3.out).mono ?_); rintro e w6 ⟨rfl, hb⟩; have n0_ := Aside0.mk (below_step (by repeat (first | (with_reducible first | exact HB.out | apply below_alloc | apply pw_below_drewN | apply below_drew1) | exact HB.out)) hb); clear HB; have HB := n0_; clear n0_; (try clear hb); (try clear hb2); (try clear hk); (try clear hi))); try go_wp2_with (first | (go_at_call 10; (with_reducible refine (skiarealaw34_alive.calls k  true _ A3.out).mono ?_); rintro e w6 ⟨rfl, hb⟩; have n0_ := Aside0.mk (below_step (by repeat (first | (with_reducible first | exact HB.out | apply below_alloc | apply pw_below_drewN | apply below_drew1) | exact HB.out)) hb); clear HB; have HB := n0_; clear n0_; (try clear hb); (try clear hb2); (try clear hk); (try clear hi))))
        go_ret
        exact ⟨by first | rfl | (simp [errW_none, errW_some] <;> rfl) | (simp [*, errW_none, errW_some] <;> rfl), by repeat (first | (with_reducible first | exact HB.out | apply below_alloc | apply pw_below_drewN | apply below_drew1) | exact HB.out)⟩
    · rw [if_neg c5] at H
      have c5b0 : decide (100 < (l1.length : Int)) = false := decide_eq_false c5
      have c5b1 : decide (100 < l1.length) = false := decide_eq_false (by omega)
      clear c5
      replace H := Option.bind_eq_some_iff.mp H
      obtain ⟨⟨t321, t322⟩, A70, H⟩ := H
      replace H : (if t322 = 0 then (if (t321.length : Int) = (l1.length : Int) then ((split_Fair.f k a0 l1 t321).bind fun t325 => (skiarealaw34_SplitExact.j0 k a0 l1 t321 (!t325))) else (skiarealaw34_SplitExact.j0 k a0 l1 t321 true)) else (some ((t321.length : Int) == 0))) = some r := H
      have A7 := Aside0.mk A70
      clear A70
      by_cases c8 : t322 = 0
      · rw [if_pos c8] at H
        have c8b0 : (t322 == 0) = true := beq_iff_eq.mpr c8
        have c8b1 : (t322 != 0) = false := bne_eq_false_iff_eq.mpr c8
        clear c8
        have HC9 := Aside0.mk H
        clear H
        go_enter Try.func7, Try.ntmps7
        go_upto_region 8 with (first | (go_at_call 10; (with_reducible refine (skiarealaw34_alive.calls k  true _ A3.out).mono ?_); rintro e w10 ⟨rfl, hb⟩; have n0_ := Aside0.mk (below_step (by repeat (first | (with_reducible first | exact HB.out | apply below_alloc | apply pw_below_drewN | apply below_drew1) | exact HB.out)) hb); clear HB; have HB := n0_; clear n0_; (try clear hb); (try clear hb2); (try clear hk); (try clear hi)) | (go_at_call 11; (with_reducible refine (split_Split.calls k a0 _ _ l1 t321 t322 _ ?side1 ?side2 A7.out).mono ?_); (case side1 => repeat (first | exact (Kd.C_below HR1.out HB.out) | (with_reducible refine Kd.C_alloc ?_ _) | (with_reducible refine Kd.C_drewN ?_ _) | (with_reducible refine Kd.C_drew ?_))); (case side2 => exact HC1.out); rintro e w11 ⟨v323, rfl, ho0, hb⟩; have n0_ := Aside0.mk (Kd.R_lower ho0 (below_size (by repeat (first | (with_reducible first | exact HB.out | apply below_alloc | apply pw_below_drewN | apply below_drew1) | exact HB.out)))); have n1_ := Aside0.mk (below_step (by repeat (first | (with_reducible first | exact HB.out | apply below_alloc | apply pw_below_drewN | apply below_drew1) | exact HB.out)) hb); clear HB; have HO324 := n0_; have HB := n1_; clear n0_ n1_; (try clear hb); (try clear hb2); (try clear hk); (try clear hi); (try clear ho0)))
        repeat (go_quiet (first | (go_at_call 10; (with_reducible refine (skiarealaw34_alive.calls k  true _ A3.out).mono ?_); rintro e w10 ⟨rfl, hb⟩; have n0_ := Aside0.mk (below_step (by repeat (first | (with_reducible first | exact HB.out | apply below_alloc | apply pw_below_drewN | apply below_drew1) | exact HB.out)) hb); clear HB; have HB := n0_; clear n0_; (try clear hb); (try clear hb2); (try clear hk); (try clear hi)) | (go_at_call 11; (with_reducible refine (split_Split.calls k a0 _ _ l1 t321 t322 _ ?side1 ?side2 A7.out).mono ?_); (case side1 => repeat (first | exact (Kd.C_below HR1.out HB.out) | (with_reducible refine Kd.C_alloc ?_ _) | (with_reducible refine Kd.C_drewN ?_ _) | (with_reducible refine Kd.C_drew ?_))); (case side2 => exact HC1.out); rintro e w11 ⟨v323, rfl, ho0, hb⟩; have n0_ := Aside0.mk (Kd.R_lower ho0 (below_size (by repeat (first | (with_reducible first | exact HB.out | apply below_alloc | apply pw_below_drewN | apply below_drew1) | exact HB.out)))); have n1_ := Aside0.mk (below_step (by repeat (first | (with_reducible first | exact HB.out | apply below_alloc | apply pw_below_drewN | apply below_drew1) | exact HB.out)) hb); clear HB; have HO324 := n0_; have HB := n1_; clear n0_ n1_; (try clear hb); (try clear hb2); (try clear hk); (try clear hi); (try clear ho0))); go_upto_region 8 with (first | (go_at_call 10; (with_reducible refine (skiarealaw34_alive.calls k  true _ A3.out).mono ?_); rintro e w10 ⟨rfl, hb⟩; have n0_ := Aside0.mk (below_step (by repeat (first | (with_reducible first | exact HB.out | apply below_alloc | apply pw_below_drewN | apply below_drew1) | exact HB.out)) hb); clear HB; have HB := n0_; clear n0_; (try clear hb); (try clear hb2); (try clear hk); (try clear hi)) | (go_at_call 11; (with_reducible refine (split_Split.calls k a0 _ _ l1 t321 t322 _ ?side1 ?side2 A7.out).mono ?_); (case side1 => repeat (first | exact (Kd.C_below HR1.out HB.out) | (with_reducible refine Kd.C_alloc ?_ _) | (with_reducible refine Kd.C_drewN ?_ _) | (with_reducible refine Kd.C_drew ?_))); (case side2 => exact HC1.out); rintro e w11 ⟨v323, rfl, ho0, hb⟩; have n0_ := Aside0.mk (Kd.R_lower ho0 (below_size (by repeat (first | (with_reducible first | exact HB.out | apply below_alloc | apply pw_below_drewN | apply below_drew1) | exact HB.out)))); have n1_ := Aside0.mk (below_step (by repeat (first | (with_reducible first | exact HB.out | apply below_alloc | apply pw_below_drewN | apply below_drew1) | exact HB.out)) hb); clear HB; have HO324 := n0_; have HB := n1_; clear n0_ n1_; (try clear hb); (try clear hb2); (try clear hk); (try clear hi); (try clear ho0))))
        (try simp only [Act.put, List.setIfInBounds_toArray, List.set_cons_zero, List.set_cons_succ])
        go_cut [41] (fun v41 wc => ∃ (kq : Nat) (x41_8 : Bool), v41 = .bool x41_8 ∧ Aside0 (skiarealaw34_SplitExact.j0 kq a0 l1 t321 x41_8 = some r) ∧ Aside0 (kq ≤ k) ∧ Aside0 (Kd.R (Kd.int .i64) 3 wc w.heap.size (fun _ => True) v323 t321) ∧ Aside0 (Below w.heap.size w wc))
        case first =>
          have H := HC9.out
          clear HC9
          by_cases c12 : (t321.length : Int) = (l1.length : Int)
          · rw [if_pos c12] at H
            have c12b0 : ((t321.length : Int) == (l1.length : Int)) = true := beq_iff_eq.mpr c12
            have c12b1 : ((t321.length : Int) != (l1.length : Int)) = false := bne_eq_false_iff_eq.mpr c12
            have c12b2 : (t321.length == l1.length) = true := by first | simpa using c12 | (simp at c12 ⊢; omega)
            clear c12
            (first | rw [c12b0] | (simp only [i64_w, i32_w]; rw [c12b0]) | skip)
            replace H := Option.bind_eq_some_iff.mp H
            obtain ⟨t325, A130, H⟩ := H
            replace H : (skiarealaw34_SplitExact.j0 k a0 l1 t321 (!t325)) = some r := H
            have A13 := Aside0.mk A130
            clear A130
            as_aux_lemma =>
              have H' := Aside0.mk H
              clear H
              obtain ⟨Ao14, co14, eo14⟩ := Kd.R_slice HO324.out
              subst eo14
              go_wp2_with (first | (go_at_call 16; (with_reducible refine (split_Fair.calls k a0 _ _ l1 _ _ t321 t325 _ ?side1 ?side2 ?side3 ?side4 A13.out).mono ?_); (case side1 => repeat (first | exact (Kd.C_below HR1.out HB.out) | (with_reducible refine Kd.C_alloc ?_ _) | (with_reducible refine Kd.C_drewN ?_ _) | (with_reducible refine Kd.C_drew ?_))); (case side2 => exact HC1.out); (case side3 => repeat (first | exact (Kd.R_reads' HO324.out).2.2 | (with_reducible refine Kd.C_alloc ?_ _) | (with_reducible refine Kd.C_drewN ?_ _) | (with_reducible refine Kd.C_drew ?_))); (case side4 => exact (Kd.R_reads' HO324.out).2.1); rintro e w' ⟨rfl, ⟨nd, rfl⟩⟩; (try first | exact ⟨rfl, _, World.drewN_drewN _ _ _⟩ | exact ⟨rfl, _, Eq.trans (World.drewN_drewN _ _ _) (congrArg (World.drewN _) (Nat.add_assoc _ _ _))⟩)))
              repeat (go_quiet (first | (go_at_call 16; (with_reducible refine (split_Fair.calls k a0 _ _ l1 _ _ t321 t325 _ ?side1 ?side2 ?side3 ?side4 A13.out).mono ?_); (case side1 => repeat (first | exact (Kd.C_below HR1.out HB.out) | (with_reducible refine Kd.C_alloc ?_ _) | (with_reducible refine Kd.C_drewN ?_ _) | (with_reducible refine Kd.C_drew ?_))); (case side2 => exact HC1.out); (case side3 => repeat (first | exact (Kd.R_reads' HO324.out).2.2 | (with_reducible refine Kd.C_alloc ?_ _) | (with_reducible refine Kd.C_drewN ?_ _) | (with_reducible refine Kd.C_drew ?_))); (case side4 => exact (Kd.R_reads' HO324.out).2.1); rintro e w' ⟨rfl, ⟨nd, rfl⟩⟩; (try first | exact ⟨rfl, _, World.drewN_drewN _ _ _⟩ | exact ⟨rfl, _, Eq.trans (World.drewN_drewN _ _ _) (congrArg (World.drewN _) (Nat.add_assoc _ _ _))⟩))); try go_wp2_with (first | (go_at_call 16; (with_reducible refine (split_Fair.calls k a0 _ _ l1 _ _ t321 t325 _ ?side1 ?side2 ?side3 ?side4 A13.out).mono ?_); (case side1 => repeat (first | exact (Kd.C_below HR1.out HB.out) | (with_reducible refine Kd.C_alloc ?_ _) | (with_reducible refine Kd.C_drewN ?_ _) | (with_reducible refine Kd.C_drew ?_))); (case side2 => exact HC1.out); (case side3 => repeat (first | exact (Kd.R_reads' HO324.out).2.2 | (with_reducible refine Kd.C_alloc ?_ _) | (with_reducible refine Kd.C_drewN ?_ _) | (with_reducible refine Kd.C_drew ?_))); (case side4 => exact (Kd.R_reads' HO324.out).2.1); rintro e w' ⟨rfl, ⟨nd, rfl⟩⟩; (try first | exact ⟨rfl, _, World.drewN_drewN _ _ _⟩ | exact ⟨rfl, _, Eq.trans (World.drewN_drewN _ _ _) (congrArg (World.drewN _) (Nat.add_assoc _ _ _))⟩))))
              go_meet
              case rel => exact ⟨_, (!t325), (by first | rfl | (simp; done) | (simp [*]; done)), H', ⟨by first | omega | exact Nat.le_refl _⟩, ⟨by (with_reducible repeat (first | apply Kd.R_alloc | apply Kd.R_drewN | apply Kd.R_drew)); exact HO324.out⟩, ⟨by repeat (first | (with_reducible first | exact HB.out | apply below_alloc | apply pw_below_drewN | apply below_drew1) | exact HB.out)⟩⟩
          · rw [if_neg c12] at H
            have c12b0 : ((t321.length : Int) == (l1.length : Int)) = false := beq_eq_false_iff_ne.mpr c12
            have c12b1 : ((t321.length : Int) != (l1.length : Int)) = true := bne_iff_ne.mpr c12
            have c12b2 : (t321.length == l1.length) = false := by first | simpa using c12 | (simp at c12 ⊢; omega)
            (first | rw [c12b0] | (simp only [i64_w, i32_w]; rw [c12b0]) | skip)
            as_aux_lemma =>
              have H' := Aside0.mk H
              clear H
              obtain ⟨Ao15, co15, eo15⟩ := Kd.R_slice HO324.out
              subst eo15
              go_wp2
              repeat (go_quiet (fail); try go_wp2)
              go_meet
              case rel => exact ⟨_, (true), (by first | rfl | (simp; done) | (simp [*]; done)), H', ⟨by first | omega | exact Nat.le_refl _⟩, ⟨by (with_reducible repeat (first | apply Kd.R_alloc | apply Kd.R_drewN | apply Kd.R_drew)); exact HO324.out⟩, ⟨by repeat (first | (with_reducible first | exact HB.out | apply below_alloc | apply pw_below_drewN | apply below_drew1) | exact HB.out)⟩⟩
        case rest =>
          clear HC9
          try clear c1
          try clear p2
          try clear c4
          try clear c5
          try clear c5b0
          try clear c5b1
          try clear c7
          try clear c8
          try clear c8b0
          try clear c8b1
          try clear c12
          try clear c12b0
          try clear c12b1
          try clear c12b2
          obtain ⟨kq, x41_8, rfl, HA, HJ8, HO_5, HB⟩ := hcut
          cases kq with
          | zero => exact absurd HA.out (by simp [skiarealaw34_SplitExact.j0])
          | succ kj8 =>
            have H := HA.out
            clear HA
            simp only [skiarealaw34_SplitExact.j0] at H
            by_cases c16 : x41_8 = true
            · subst c16
              have H1 : (some false) = some r := by rw [if_pos rfl] at H; exact H
              clear H
              have H := H1
              clear H1
              as_aux_lemma =>
                obtain rfl := Option.some.inj H
                go_wp2
                repeat (go_quiet (fail); try go_wp2)
                go_ret
                exact ⟨by first | rfl | (simp [errW_none, errW_some] <;> rfl) | (simp [*, errW_none, errW_some] <;> rfl), by repeat (first | (with_reducible first | exact HB.out | apply below_alloc | apply pw_below_drewN | apply below_drew1) | exact HB.out)⟩
            · replace c16 := Bool.eq_false_iff.mpr c16
              subst c16
              have H1 : (skiarealaw34_SplitExact.l0 kj8 a0 l1 t321 0 0 0) = some r := by rw [if_neg (show ¬ (false = true) by decide)] at H; exact H
              clear H
              have H := H1
              clear H1
              have H' := Aside0.mk H
              clear H
              go_wp2
              repeat (go_quiet (fail); try go_wp2)
              go_loopg [8, 9] kj8 (fun kq v8 v9 w' => ∃ (x8_2 : Int) (x9_2 : Int), v8 = .int .i64 x8_2 ∧ v9 = .int .i64 x9_2 ∧ Aside0 (skiarealaw34_SplitExact.l0 kq a0 l1 t321 0 x8_2 x9_2 = some r) ∧ Aside0 (kq ≤ kj8) ∧ Aside0 (Kd.R (Kd.int .i64) 3 w' w.heap.size (fun _ => True) v323 t321) ∧ Aside0 (Below w.heap.size w w'))
              case atStart => exact ⟨(0), (0), (by first | rfl | (simp; done) | (simp [*]; done)), (by first | rfl | (simp; done) | (simp [*]; done)), H', ⟨Nat.le_refl _⟩, ⟨by (with_reducible repeat (first | apply Kd.R_alloc | apply Kd.R_drewN | apply Kd.R_drew)); exact HO_5.out⟩, ⟨by repeat (first | (with_reducible first | exact HB.out | apply below_alloc | apply pw_below_drewN | apply below_drew1) | exact HB.out)⟩⟩
              case round =>
                clear H'
                try clear c1
                try clear p2
                try clear c4
                try clear c5
                try clear c5b0
                try clear c5b1
                try clear c7
                try clear c8
                try clear c8b0
                try clear c8b1
                try clear c12
                try clear c12b0
                try clear c12b1
                try clear c12b2
                try clear c16
                try clear p2
                obtain ⟨x8_2, x9_2, rfl, rfl, HA, HK2, HO_5, HB⟩ := hrel
                cases gk with
                | zero => exact absurd HA.out (by simp [skiarealaw34_SplitExact.l0])
                | succ k2 =>
                  have H := HA.out
                  clear HA
                  simp only [skiarealaw34_SplitExact.l0] at H
                  by_cases c17 : x9_2 < (l1.length : Int)
                  · rw [if_pos c17] at H
                    have c17b0 : decide (x9_2 < (l1.length : Int)) = true := decide_eq_true c17
                    clear c17
                    by_cases c18 : 0 ≤ x9_2
                    · rw [if_pos c18] at H
                      have c18b0 : decide (0 ≤ x9_2) = true := decide_eq_true c18
                      clear c18
                      by_cases c19 : (rd l1 x9_2) < 0
                      · rw [if_pos c19] at H
                        have c19b0 : decide ((rd l1 x9_2) < 0) = true := decide_eq_true c19
                        clear c19
                        as_aux_lemma =>
                          obtain rfl := Option.some.inj H
                          have p326 : 0 ≤ (x9_2 : Int) := of_decide_eq_true (by first | (with_reducible assumption) | assumption)
                          have q326 : x9_2 < (l1.length : Int) := of_decide_eq_true (by first | (with_reducible assumption) | assumption)
                          obtain ⟨ad326, e326, hx326_0⟩ := Kd.at_int HR1.out x9_2 p326 q326
                          cases e326
                          replace hx326_0 := (HB.out.cell (World.block_lt_of_cell? w _ hx326_0)).trans hx326_0
                          replace p326 := eq_true p326
                          replace q326 := eq_true q326
                          go_wp2
                          repeat (go_quiet (fail); try go_wp2)
                          go_ret
                          exact ⟨by first | rfl | (simp [errW_none, errW_some] <;> rfl) | (simp [*, errW_none, errW_some] <;> rfl), by repeat (first | (with_reducible first | exact HB.out | apply below_alloc | apply pw_below_drewN | apply below_drew1) | exact HB.out)⟩
                      · rw [if_neg c19] at H
                        have c19b0 : decide ((rd l1 x9_2) < 0) = false := decide_eq_false c19
                        clear c19
                        by_cases c20 : (rd l1 x9_2) > 1000000000
                        · rw [if_pos c20] at H
                          have c20b0 : decide (1000000000 < (rd l1 x9_2)) = true := decide_eq_true c20
                          clear c20
                          as_aux_lemma =>
                            obtain rfl := Option.some.inj H
                            have p326 : 0 ≤ (x9_2 : Int) := of_decide_eq_true (by first | (with_reducible assumption) | assumption)
                            have q326 : x9_2 < (l1.length : Int) := of_decide_eq_true (by first | (with_reducible assumption) | assumption)
                            obtain ⟨ad326, e326, hx326_0⟩ := Kd.at_int HR1.out x9_2 p326 q326
                            cases e326
                            replace hx326_0 := (HB.out.cell (World.block_lt_of_cell? w _ hx326_0)).trans hx326_0
                            replace p326 := eq_true p326
                            replace q326 := eq_true q326
                            have p327 : 0 ≤ (x9_2 : Int) := of_decide_eq_true (by first | (with_reducible assumption) | assumption)
                            have q327 : x9_2 < (l1.length : Int) := of_decide_eq_true (by first | (with_reducible assumption) | assumption)
                            obtain ⟨ad327, e327, hx327_0⟩ := Kd.at_int HR1.out x9_2 p327 q327
                            obtain rfl : ad326 = ad327 := (by injection e327)
                            replace hx327_0 := (HB.out.cell (World.block_lt_of_cell? w _ hx327_0)).trans hx327_0
                            replace p327 := eq_true p327
                            replace q327 := eq_true q327
                            go_wp2
                            repeat (go_quiet (fail); try go_wp2)
                            go_ret
                            exact ⟨by first | rfl | (simp [errW_none, errW_some] <;> rfl) | (simp [*, errW_none, errW_some] <;> rfl), by repeat (first | (with_reducible first | exact HB.out | apply below_alloc | apply pw_below_drewN | apply below_drew1) | exact HB.out)⟩
                        · rw [if_neg c20] at H
                          have c20b0 : decide (1000000000 < (rd l1 x9_2)) = false := decide_eq_false c20
                          clear c20
                          as_aux_lemma =>
                            have H' := Aside0.mk H
                            clear H
                            have p326 : 0 ≤ (x9_2 : Int) := of_decide_eq_true (by first | (with_reducible assumption) | assumption)
                            have q326 : x9_2 < (l1.length : Int) := of_decide_eq_true (by first | (with_reducible assumption) | assumption)
                            obtain ⟨ad326, e326, hx326_0⟩ := Kd.at_int HR1.out x9_2 p326 q326
                            cases e326
                            replace hx326_0 := (HB.out.cell (World.block_lt_of_cell? w _ hx326_0)).trans hx326_0
                            replace p326 := eq_true p326
                            replace q326 := eq_true q326
                            have p327 : 0 ≤ (x9_2 : Int) := of_decide_eq_true (by first | (with_reducible assumption) | assumption)
                            have q327 : x9_2 < (l1.length : Int) := of_decide_eq_true (by first | (with_reducible assumption) | assumption)
                            obtain ⟨ad327, e327, hx327_0⟩ := Kd.at_int HR1.out x9_2 p327 q327
                            obtain rfl : ad326 = ad327 := (by injection e327)
                            replace hx327_0 := (HB.out.cell (World.block_lt_of_cell? w _ hx327_0)).trans hx327_0
                            replace p327 := eq_true p327
                            replace q327 := eq_true q327
                            have p328 : 0 ≤ (x9_2 : Int) := of_decide_eq_true (by first | (with_reducible assumption) | assumption)
                            have q328 : x9_2 < (l1.length : Int) := of_decide_eq_true (by first | (with_reducible assumption) | assumption)
                            obtain ⟨ad328, e328, hx328_0⟩ := Kd.at_int HR1.out x9_2 p328 q328
                            obtain rfl : ad326 = ad328 := (by injection e328)
                            replace hx328_0 := (HB.out.cell (World.block_lt_of_cell? w _ hx328_0)).trans hx328_0
                            replace p328 := eq_true p328
                            replace q328 := eq_true q328
                            go_wp2
                            repeat (go_quiet (fail); try go_wp2)
                            go_roundg k2
                            case measure => have := HJ8.out; have := HK2.out; omega
                            case rel => exact ⟨(wrap64 (x8_2 + (rd l1 x9_2))), (wrap64 (x9_2 + 1)), (by first | rfl | (simp; done) | (simp [*]; done)), (by first | rfl | (simp; done) | (simp [*]; done)), H', ⟨by have := HJ8.out; have := HK2.out; omega⟩, ⟨by (with_reducible repeat (first | apply Kd.R_alloc | apply Kd.R_drewN | apply Kd.R_drew)); exact HO_5.out⟩, ⟨by repeat (first | (with_reducible first | exact HB.out | apply below_alloc | apply pw_below_drewN | apply below_drew1) | exact HB.out)⟩⟩
                    · rw [if_neg c18] at H
                      exact absurd H (by simp)
                  · rw [if_neg c17] at H
                    have c17b0 : decide (x9_2 < (l1.length : Int)) = false := decide_eq_false c17
                    clear c17
                    have HC21 := Aside0.mk H
                    clear H
                    go_upto_region 17 with (fail)
                    repeat (go_quiet (fail); go_upto_region 17 with (fail))
                    go_cut [75] (fun v75 wc => ∃ (kq : Nat) (x75_20 : Bool), v75 = .bool x75_20 ∧ Aside0 (skiarealaw34_SplitExact.j2 kq a0 l1 t321 0 x8_2 x75_20 = some r) ∧ Aside0 (kq ≤ k2) ∧ Aside0 (Kd.R (Kd.int .i64) 3 wc w.heap.size (fun _ => True) v323 t321) ∧ Aside0 (Below w.heap.size w wc))
                    case first =>
                      have H := HC21.out
                      clear HC21
                      by_cases c22 : x8_2 = 0
                      · rw [if_pos c22] at H
                        have c22b0 : (x8_2 == 0) = true := beq_iff_eq.mpr c22
                        have c22b1 : (x8_2 != 0) = false := bne_eq_false_iff_eq.mpr c22
                        clear c22
                        (first | rw [c22b0] | (simp only [i64_w, i32_w]; rw [c22b0]) | skip)
                        as_aux_lemma =>
                          have H' := Aside0.mk H
                          clear H
                          go_wp2
                          repeat (go_quiet (fail); try go_wp2)
                          go_meet
                          case rel => exact ⟨_, (true), (by first | rfl | (simp; done) | (simp [*]; done)), H', ⟨by have := HJ8.out; have := HK2.out; first | omega | exact Nat.le_refl _⟩, ⟨by (with_reducible repeat (first | apply Kd.R_alloc | apply Kd.R_drewN | apply Kd.R_drew)); exact HO_5.out⟩, ⟨by repeat (first | (with_reducible first | exact HB.out | apply below_alloc | apply pw_below_drewN | apply below_drew1) | exact HB.out)⟩⟩
                      · rw [if_neg c22] at H
                        have c22b0 : (x8_2 == 0) = false := beq_eq_false_iff_ne.mpr c22
                        have c22b1 : (x8_2 != 0) = true := bne_iff_ne.mpr c22
                        (first | rw [c22b0] | (simp only [i64_w, i32_w]; rw [c22b0]) | skip)
                        by_cases c23 : a0 < 0
                        · rw [if_pos c23] at H
                          have c23b0 : decide (a0 < 0) = true := decide_eq_true c23
                          clear c23
                          as_aux_lemma =>
                            have H' := Aside0.mk H
                            clear H
                            go_wp2
                            repeat (go_quiet (fail); try go_wp2)
                            go_meet
                            case rel => exact ⟨_, (true), (by first | rfl | (simp; done) | (simp [*]; done)), H', ⟨by have := HJ8.out; have := HK2.out; first | omega | exact Nat.le_refl _⟩, ⟨by (with_reducible repeat (first | apply Kd.R_alloc | apply Kd.R_drewN | apply Kd.R_drew)); exact HO_5.out⟩, ⟨by repeat (first | (with_reducible first | exact HB.out | apply below_alloc | apply pw_below_drewN | apply below_drew1) | exact HB.out)⟩⟩
                        · rw [if_neg c23] at H
                          have c23b0 : decide (a0 < 0) = false := decide_eq_false c23
                          clear c23
                          as_aux_lemma =>
                            have H' := Aside0.mk H
                            clear H
                            go_wp2
                            repeat (go_quiet (fail); try go_wp2)
                            go_meet
                            case rel => exact ⟨_, (decide (a0 > 1099511627776)), (by first | rfl | (simp; done) | (simp [*]; done)), H', ⟨by have := HJ8.out; have := HK2.out; first | omega | exact Nat.le_refl _⟩, ⟨by (with_reducible repeat (first | apply Kd.R_alloc | apply Kd.R_drewN | apply Kd.R_drew)); exact HO_5.out⟩, ⟨by repeat (first | (with_reducible first | exact HB.out | apply below_alloc | apply pw_below_drewN | apply below_drew1) | exact HB.out)⟩⟩
                    case rest =>
                      clear HC21
                      try clear c1
                      try clear c2
                      try clear p2
                      try clear p3
                      try clear q3
                      try clear hx3
                      try clear c4
                      try clear c5
                      try clear c5b0
                      try clear c5b1
                      try clear p6
                      try clear c7
                      try clear c8
                      try clear c8b0
                      try clear c8b1
                      try clear c12
                      try clear c12b0
                      try clear c12b1
                      try clear c12b2
                      try clear c16
                      try clear c17
                      try clear c17b0
                      try clear c18
                      try clear c18b0
                      try clear c19
                      try clear c19b0
                      try clear c20
                      try clear c20b0
                      try clear c22
                      try clear c22b0
                      try clear c22b1
                      try clear c23
                      try clear c23b0
                      try clear hx326_0
                      try clear hx327_0
                      try clear hx328_0
                      try clear p2
                      try clear p326
                      try clear p327
                      try clear p328
                      try clear q326
                      try clear q327
                      try clear q328
                      obtain ⟨kq, x75_20, rfl, HA, HJ20, HO_5, HB⟩ := hcut
                      cases kq with
                      | zero => exact absurd HA.out (by simp [skiarealaw34_SplitExact.j2])
                      | succ kj20 =>
                        have H := HA.out
                        clear HA
                        simp only [skiarealaw34_SplitExact.j2] at H
                        by_cases c24 : x75_20 = true
                        · subst c24
                          have H1 : (some false) = some r := by rw [if_pos rfl] at H; exact H
                          clear H
                          have H := H1
                          clear H1
                          as_aux_lemma =>
                            obtain rfl := Option.some.inj H
                            go_wp2
                            repeat (go_quiet (fail); try go_wp2)
                            go_ret
                            exact ⟨by first | rfl | (simp [errW_none, errW_some] <;> rfl) | (simp [*, errW_none, errW_some] <;> rfl), by repeat (first | (with_reducible first | exact HB.out | apply below_alloc | apply pw_below_drewN | apply below_drew1) | exact HB.out)⟩
                        · replace c24 := Bool.eq_false_iff.mpr c24
                          subst c24
                          have H1 : (skiarealaw34_SplitExact.l1 kj20 a0 l1 t321 0 x8_2 0) = some r := by rw [if_neg (show ¬ (false = true) by decide)] at H; exact H
                          clear H
                          have H := H1
                          clear H1
                          have H' := Aside0.mk H
                          clear H
                          go_wp2
                          repeat (go_quiet (fail); try go_wp2)
                          go_loopg [7, 10] kj20 (fun kq v7 v10 w' => ∃ (x7_4 : Int) (x10_4 : Int), v7 = .int .i64 x7_4 ∧ v10 = .int .i64 x10_4 ∧ Aside0 (skiarealaw34_SplitExact.l1 kq a0 l1 t321 x7_4 x8_2 x10_4 = some r) ∧ Aside0 (kq ≤ kj20) ∧ Aside0 (Kd.R (Kd.int .i64) 3 w' w.heap.size (fun _ => True) v323 t321) ∧ Aside0 (Below w.heap.size w w'))
                          case atStart => exact ⟨(0), (0), (by first | rfl | (simp; done) | (simp [*]; done)), (by first | rfl | (simp; done) | (simp [*]; done)), H', ⟨Nat.le_refl _⟩, ⟨by (with_reducible repeat (first | apply Kd.R_alloc | apply Kd.R_drewN | apply Kd.R_drew)); exact HO_5.out⟩, ⟨by repeat (first | (with_reducible first | exact HB.out | apply below_alloc | apply pw_below_drewN | apply below_drew1) | exact HB.out)⟩⟩
                          case round =>
                            clear H'
                            try clear c1
                            try clear c2
                            try clear p2
                            try clear p3
                            try clear q3
                            try clear hx3
                            try clear c4
                            try clear c5
                            try clear c5b0
                            try clear c5b1
                            try clear p6
                            try clear c7
                            try clear c8
                            try clear c8b0
                            try clear c8b1
                            try clear c12
                            try clear c12b0
                            try clear c12b1
                            try clear c12b2
                            try clear c16
                            try clear c17
                            try clear c17b0
                            try clear c18
                            try clear c18b0
                            try clear c19
                            try clear c19b0
                            try clear c20
                            try clear c20b0
                            try clear c22
                            try clear c22b0
                            try clear c22b1
                            try clear c23
                            try clear c23b0
                            try clear c24
                            try clear hx326_0
                            try clear hx327_0
                            try clear hx328_0
                            try clear p2
                            try clear p3
                            try clear p326
                            try clear p327
                            try clear p328
                            try clear p6
                            try clear q3
                            try clear q326
                            try clear q327
                            try clear q328
                            obtain ⟨x7_4, x10_4, rfl, rfl, HA, HK4, HO_5, HB⟩ := hrel
                            cases gk with
                            | zero => exact absurd HA.out (by simp [skiarealaw34_SplitExact.l1])
                            | succ k4 =>
                              have H := HA.out
                              clear HA
                              simp only [skiarealaw34_SplitExact.l1] at H
                              by_cases c25 : x10_4 < (t321.length : Int)
                              · rw [if_pos c25] at H
                                have c25b0 : decide (x10_4 < (t321.length : Int)) = true := decide_eq_true c25
                                clear c25
                                by_cases c26 : 0 ≤ x10_4
                                · rw [if_pos c26] at H
                                  have c26b0 : decide (0 ≤ x10_4) = true := decide_eq_true c26
                                  clear c26
                                  by_cases c27 : x10_4 < (l1.length : Int)
                                  · rw [if_pos c27] at H
                                    have c27b0 : decide (x10_4 < (l1.length : Int)) = true := decide_eq_true c27
                                    clear c27
                                    replace H := Option.bind_eq_some_iff.mp H
                                    obtain ⟨⟨t330, t331⟩, A280, H⟩ := H
                                    replace H : (if (rd t321 x10_4) = t330 then (skiarealaw34_SplitExact.j4 k4 a0 l1 t321 x7_4 x8_2 x10_4 false) else (if t331 = 0 then (skiarealaw34_SplitExact.j4 k4 a0 l1 t321 x7_4 x8_2 x10_4 true) else (skiarealaw34_SplitExact.j4 k4 a0 l1 t321 x7_4 x8_2 x10_4 ((rd t321 x10_4) != (wrap64 (t330 + 1)))))) = some r := H
                                    have A28 := Aside0.mk A280
                                    clear A280
                                    have HC29 := Aside0.mk H
                                    clear H
                                    obtain ⟨Ao30, co30, eo30⟩ := Kd.R_slice HO_5.out
                                    subst eo30
                                    have p329 : 0 ≤ (x10_4 : Int) := of_decide_eq_true (by first | (with_reducible assumption) | assumption)
                                    have q329 : x10_4 < (l1.length : Int) := of_decide_eq_true (by first | (with_reducible assumption) | assumption)
                                    obtain ⟨ad329, e329, hx329_0⟩ := Kd.at_int HR1.out x10_4 p329 q329
                                    cases e329
                                    replace hx329_0 := (HB.out.cell (World.block_lt_of_cell? w _ hx329_0)).trans hx329_0
                                    replace p329 := eq_true p329
                                    replace q329 := eq_true q329
                                    go_upto_region 23 with (first | (go_at_call 23; (with_reducible refine (skiarearef34_Quotient.calls k4 a0 (rd l1 x10_4) x8_2 t330 t331 _ A28.out).mono ?_); rintro e w' ⟨rfl, ⟨nd, rfl⟩⟩; (try first | exact ⟨rfl, _, World.drewN_drewN _ _ _⟩ | exact ⟨rfl, _, Eq.trans (World.drewN_drewN _ _ _) (congrArg (World.drewN _) (Nat.add_assoc _ _ _))⟩)))
                                    repeat (go_quiet (first | (go_at_call 23; (with_reducible refine (skiarearef34_Quotient.calls k4 a0 (rd l1 x10_4) x8_2 t330 t331 _ A28.out).mono ?_); rintro e w' ⟨rfl, ⟨nd, rfl⟩⟩; (try first | exact ⟨rfl, _, World.drewN_drewN _ _ _⟩ | exact ⟨rfl, _, Eq.trans (World.drewN_drewN _ _ _) (congrArg (World.drewN _) (Nat.add_assoc _ _ _))⟩))); go_upto_region 23 with (first | (go_at_call 23; (with_reducible refine (skiarearef34_Quotient.calls k4 a0 (rd l1 x10_4) x8_2 t330 t331 _ A28.out).mono ?_); rintro e w' ⟨rfl, ⟨nd, rfl⟩⟩; (try first | exact ⟨rfl, _, World.drewN_drewN _ _ _⟩ | exact ⟨rfl, _, Eq.trans (World.drewN_drewN _ _ _) (congrArg (World.drewN _) (Nat.add_assoc _ _ _))⟩))))
                                    (try simp only [Act.put, List.setIfInBounds_toArray, List.set_cons_zero, List.set_cons_succ])
                                    go_cut [110] (fun v110 wc => ∃ (kq : Nat) (x110_28 : Bool), v110 = .bool x110_28 ∧ Aside0 (skiarealaw34_SplitExact.j4 kq a0 l1 t321 x7_4 x8_2 x10_4 x110_28 = some r) ∧ Aside0 (kq ≤ k4) ∧ Aside0 (Kd.R (Kd.int .i64) 3 wc w.heap.size (fun _ => True) (.slice Ao30 t321.length co30) t321) ∧ Aside0 (Below w.heap.size w wc))
                                    case first =>
                                      have H := HC29.out
                                      clear HC29
                                      by_cases c31 : (rd t321 x10_4) = t330
                                      · rw [if_pos c31] at H
                                        have c31b0 : ((rd t321 x10_4) == t330) = true := beq_iff_eq.mpr c31
                                        have c31b1 : ((rd t321 x10_4) != t330) = false := bne_eq_false_iff_eq.mpr c31
                                        clear c31
                                        (first | rw [c31b0] | (simp only [i64_w, i32_w]; rw [c31b0]) | skip)
                                        as_aux_lemma =>
                                          have H' := Aside0.mk H
                                          clear H
                                          have p332 : 0 ≤ (x10_4 : Int) := of_decide_eq_true (by first | (with_reducible assumption) | assumption)
                                          have q332 : x10_4 < (t321.length : Int) := of_decide_eq_true (by first | (with_reducible assumption) | assumption)
                                          obtain ⟨ad332, e332, hx332_0⟩ := Kd.at_int (Kd.R_reads' HO_5.out).2.2 x10_4 p332 q332
                                          cases e332
                                          replace p332 := eq_true p332
                                          replace q332 := eq_true q332
                                          go_wp2
                                          repeat (go_quiet (fail); try go_wp2)
                                          go_meet
                                          case rel => exact ⟨_, (false), (by first | rfl | (simp; done) | (simp [*]; done)), H', ⟨by have := HJ8.out; have := HK2.out; have := HJ20.out; have := HK4.out; first | omega | exact Nat.le_refl _⟩, ⟨by (with_reducible repeat (first | apply Kd.R_alloc | apply Kd.R_drewN | apply Kd.R_drew)); exact HO_5.out⟩, ⟨by repeat (first | (with_reducible first | exact HB.out | apply below_alloc | apply pw_below_drewN | apply below_drew1) | exact HB.out)⟩⟩
                                      · rw [if_neg c31] at H
                                        have c31b0 : ((rd t321 x10_4) == t330) = false := beq_eq_false_iff_ne.mpr c31
                                        have c31b1 : ((rd t321 x10_4) != t330) = true := bne_iff_ne.mpr c31
                                        (first | rw [c31b0] | (simp only [i64_w, i32_w]; rw [c31b0]) | skip)
                                        by_cases c32 : t331 = 0
                                        · rw [if_pos c32] at H
                                          have c32b0 : (t331 == 0) = true := beq_iff_eq.mpr c32
                                          have c32b1 : (t331 != 0) = false := bne_eq_false_iff_eq.mpr c32
                                          clear c32
                                          as_aux_lemma =>
                                            have H' := Aside0.mk H
                                            clear H
                                            have p332 : 0 ≤ (x10_4 : Int) := of_decide_eq_true (by first | (with_reducible assumption) | assumption)
                                            have q332 : x10_4 < (t321.length : Int) := of_decide_eq_true (by first | (with_reducible assumption) | assumption)
                                            obtain ⟨ad332, e332, hx332_0⟩ := Kd.at_int (Kd.R_reads' HO_5.out).2.2 x10_4 p332 q332
                                            cases e332
                                            replace p332 := eq_true p332
                                            replace q332 := eq_true q332
                                            go_wp2
                                            repeat (go_quiet (fail); try go_wp2)
                                            go_meet
                                            case rel => exact ⟨_, (true), (by first | rfl | (simp; done) | (simp [*]; done)), H', ⟨by have := HJ8.out; have := HK2.out; have := HJ20.out; have := HK4.out; first | omega | exact Nat.le_refl _⟩, ⟨by (with_reducible repeat (first | apply Kd.R_alloc | apply Kd.R_drewN | apply Kd.R_drew)); exact HO_5.out⟩, ⟨by repeat (first | (with_reducible first | exact HB.out | apply below_alloc | apply pw_below_drewN | apply below_drew1) | exact HB.out)⟩⟩
                                        · rw [if_neg c32] at H
                                          have c32b0 : (t331 == 0) = false := beq_eq_false_iff_ne.mpr c32
                                          have c32b1 : (t331 != 0) = true := bne_iff_ne.mpr c32
                                          as_aux_lemma =>
                                            have H' := Aside0.mk H
                                            clear H
                                            have p332 : 0 ≤ (x10_4 : Int) := of_decide_eq_true (by first | (with_reducible assumption) | assumption)
                                            have q332 : x10_4 < (t321.length : Int) := of_decide_eq_true (by first | (with_reducible assumption) | assumption)
                                            obtain ⟨ad332, e332, hx332_0⟩ := Kd.at_int (Kd.R_reads' HO_5.out).2.2 x10_4 p332 q332
                                            cases e332
                                            replace p332 := eq_true p332
                                            replace q332 := eq_true q332
                                            have p333 : 0 ≤ (x10_4 : Int) := of_decide_eq_true (by first | (with_reducible assumption) | assumption)
                                            have q333 : x10_4 < (t321.length : Int) := of_decide_eq_true (by first | (with_reducible assumption) | assumption)
                                            obtain ⟨ad333, e333, hx333_0⟩ := Kd.at_int (Kd.R_reads' HO_5.out).2.2 x10_4 p333 q333
                                            obtain rfl : ad332 = ad333 := (by injection e333)
                                            replace p333 := eq_true p333
                                            replace q333 := eq_true q333
                                            go_wp2
                                            repeat (go_quiet (fail); try go_wp2)
                                            go_meet
                                            case rel => exact ⟨_, (((rd t321 x10_4) != (wrap64 (t330 + 1)))), (by first | rfl | (simp; done) | (simp [*]; done)), H', ⟨by have := HJ8.out; have := HK2.out; have := HJ20.out; have := HK4.out; first | omega | exact Nat.le_refl _⟩, ⟨by (with_reducible repeat (first | apply Kd.R_alloc | apply Kd.R_drewN | apply Kd.R_drew)); exact HO_5.out⟩, ⟨by repeat (first | (with_reducible first | exact HB.out | apply below_alloc | apply pw_below_drewN | apply below_drew1) | exact HB.out)⟩⟩
                                    case rest =>
                                      clear HC29
                                      try clear c1
                                      try clear c2
                                      try clear p2
                                      try clear c3
                                      try clear p3
                                      try clear q3
                                      try clear hx3
                                      try clear c4
                                      try clear c5
                                      try clear c5b0
                                      try clear c5b1
                                      try clear p6
                                      try clear c7
                                      try clear c8
                                      try clear c8b0
                                      try clear c8b1
                                      try clear c12
                                      try clear c12b0
                                      try clear c12b1
                                      try clear c12b2
                                      try clear c16
                                      try clear c17
                                      try clear c17b0
                                      try clear c18
                                      try clear c18b0
                                      try clear c19
                                      try clear c19b0
                                      try clear c20
                                      try clear c20b0
                                      try clear c22
                                      try clear c22b0
                                      try clear c22b1
                                      try clear c23
                                      try clear c23b0
                                      try clear c24
                                      try clear c25
                                      try clear c25b0
                                      try clear c26
                                      try clear c26b0
                                      try clear c27
                                      try clear c27b0
                                      try clear c31
                                      try clear c31b0
                                      try clear c31b1
                                      try clear c32
                                      try clear c32b0
                                      try clear c32b1
                                      try clear p32
                                      try clear q32
                                      try clear hx32
                                      try clear hx326_0
                                      try clear hx327_0
                                      try clear hx328_0
                                      try clear hx329_0
                                      try clear hx332_0
                                      try clear hx333_0
                                      try clear p2
                                      try clear p3
                                      try clear p326
                                      try clear p327
                                      try clear p328
                                      try clear p329
                                      try clear p332
                                      try clear p333
                                      try clear p6
                                      try clear q3
                                      try clear q326
                                      try clear q327
                                      try clear q328
                                      try clear q329
                                      try clear q332
                                      try clear q333
                                      obtain ⟨kq, x110_28, rfl, HA, HJ28, HO_5, HB⟩ := hcut
                                      cases kq with
                                      | zero => exact absurd HA.out (by simp [skiarealaw34_SplitExact.j4])
                                      | succ kj28 =>
                                        have H := HA.out
                                        clear HA
                                        simp only [skiarealaw34_SplitExact.j4] at H
                                        by_cases c33 : x110_28 = true
                                        · subst c33
                                          have H1 : (some false) = some r := by rw [if_pos rfl] at H; exact H
                                          clear H
                                          have H := H1
                                          clear H1
                                          as_aux_lemma =>
                                            obtain rfl := Option.some.inj H
                                            go_wp2
                                            repeat (go_quiet (fail); try go_wp2)
                                            go_ret
                                            exact ⟨by first | rfl | (simp [errW_none, errW_some] <;> rfl) | (simp [*, errW_none, errW_some] <;> rfl), by repeat (first | (with_reducible first | exact HB.out | apply below_alloc | apply pw_below_drewN | apply below_drew1) | exact HB.out)⟩
                                        · replace c33 := Bool.eq_false_iff.mpr c33
                                          subst c33
                                          have H1 : (skiarealaw34_SplitExact.l2 kj28 a0 l1 t321 x7_4 x8_2 x10_4 0) = some r := by rw [if_neg (show ¬ (false = true) by decide)] at H; exact H
                                          clear H
                                          have H := H1
                                          clear H1
                                          have H' := Aside0.mk H
                                          clear H
                                          go_wp2
                                          repeat (go_quiet (fail); try go_wp2)
                                          go_loopg [13] kj28 (fun kq v13 w' => ∃ (x13_6 : Int), v13 = .int .i64 x13_6 ∧ Aside0 (skiarealaw34_SplitExact.l2 kq a0 l1 t321 x7_4 x8_2 x10_4 x13_6 = some r) ∧ Aside0 (kq ≤ kj28) ∧ Aside0 (Kd.R (Kd.int .i64) 3 w' w.heap.size (fun _ => True) (.slice Ao30 t321.length co30) t321) ∧ Aside0 (Below w.heap.size w w'))
                                          case atStart => exact ⟨(0), (by first | rfl | (simp; done) | (simp [*]; done)), H', ⟨Nat.le_refl _⟩, ⟨by (with_reducible repeat (first | apply Kd.R_alloc | apply Kd.R_drewN | apply Kd.R_drew)); exact HO_5.out⟩, ⟨by repeat (first | (with_reducible first | exact HB.out | apply below_alloc | apply pw_below_drewN | apply below_drew1) | exact HB.out)⟩⟩
                                          case round =>
                                            clear H'
                                            try clear c1
                                            try clear c2
                                            try clear p2
                                            try clear c3
                                            try clear p3
                                            try clear q3
                                            try clear hx3
                                            try clear c4
                                            try clear c5
                                            try clear c5b0
                                            try clear c5b1
                                            try clear p6
                                            try clear c7
                                            try clear c8
                                            try clear c8b0
                                            try clear c8b1
                                            try clear c12
                                            try clear c12b0
                                            try clear c12b1
                                            try clear c12b2
                                            try clear c16
                                            try clear c17
                                            try clear c17b0
                                            try clear c18
                                            try clear c18b0
                                            try clear c19
                                            try clear c19b0
                                            try clear c20
                                            try clear c20b0
                                            try clear c22
                                            try clear c22b0
                                            try clear c22b1
                                            try clear c23
                                            try clear c23b0
                                            try clear c24
                                            try clear c25
                                            try clear c25b0
                                            try clear c26
                                            try clear c26b0
                                            try clear c27
                                            try clear c27b0
                                            try clear c31
                                            try clear c31b0
                                            try clear c31b1
                                            try clear c32
                                            try clear c32b0
                                            try clear c32b1
                                            try clear p32
                                            try clear q32
                                            try clear hx32
                                            try clear c33
                                            try clear p33
                                            try clear q33
                                            try clear hx33
                                            try clear hx326_0
                                            try clear hx327_0
                                            try clear hx328_0
                                            try clear hx329_0
                                            try clear hx332_0
                                            try clear hx333_0
                                            try clear p2
                                            try clear p3
                                            try clear p32
                                            try clear p326
                                            try clear p327
                                            try clear p328
                                            try clear p329
                                            try clear p332
                                            try clear p333
                                            try clear p6
                                            try clear q3
                                            try clear q32
                                            try clear q326
                                            try clear q327
                                            try clear q328
                                            try clear q329
                                            try clear q332
                                            try clear q333
                                            obtain ⟨x13_6, rfl, HA, HK6, HO_5, HB⟩ := hrel
                                            cases gk with
                                            | zero => exact absurd HA.out (by simp [skiarealaw34_SplitExact.l2])
                                            | succ k6 =>
                                              have H := HA.out
                                              clear HA
                                              simp only [skiarealaw34_SplitExact.l2] at H
                                              by_cases c34 : x13_6 < x10_4
                                              · rw [if_pos c34] at H
                                                have c34b0 : decide (x13_6 < x10_4) = true := decide_eq_true c34
                                                clear c34
                                                by_cases c35 : 0 ≤ x13_6
                                                · rw [if_pos c35] at H
                                                  have c35b0 : decide (0 ≤ x13_6) = true := decide_eq_true c35
                                                  clear c35
                                                  by_cases c36 : x13_6 < (l1.length : Int)
                                                  · rw [if_pos c36] at H
                                                    have c36b0 : decide (x13_6 < (l1.length : Int)) = true := decide_eq_true c36
                                                    clear c36
                                                    by_cases c37 : 0 ≤ x10_4
                                                    · rw [if_pos c37] at H
                                                      have c37b0 : decide (0 ≤ x10_4) = true := decide_eq_true c37
                                                      clear c37
                                                      by_cases c38 : x10_4 < (l1.length : Int)
                                                      · rw [if_pos c38] at H
                                                        have c38b0 : decide (x10_4 < (l1.length : Int)) = true := decide_eq_true c38
                                                        clear c38
                                                        by_cases c39 : (rd l1 x13_6) < (rd l1 x10_4)
                                                        · rw [if_pos c39] at H
                                                          have c39b0 : decide ((rd l1 x13_6) < (rd l1 x10_4)) = true := decide_eq_true c39
                                                          clear c39
                                                          by_cases c40 : x13_6 < (t321.length : Int)
                                                          · rw [if_pos c40] at H
                                                            have c40b0 : decide (x13_6 < (t321.length : Int)) = true := decide_eq_true c40
                                                            clear c40
                                                            by_cases c41 : x10_4 < (t321.length : Int)
                                                            · rw [if_pos c41] at H
                                                              have c41b0 : decide (x10_4 < (t321.length : Int)) = true := decide_eq_true c41
                                                              clear c41
                                                              by_cases c42 : (rd t321 x13_6) > (rd t321 x10_4)
                                                              · rw [if_pos c42] at H
                                                                have c42b0 : decide ((rd t321 x10_4) < (rd t321 x13_6)) = true := decide_eq_true c42
                                                                clear c42
                                                                as_aux_lemma =>
                                                                  obtain rfl := Option.some.inj H
                                                                  have p334 : 0 ≤ (x13_6 : Int) := of_decide_eq_true (by first | (with_reducible assumption) | assumption)
                                                                  have q334 : x13_6 < (l1.length : Int) := of_decide_eq_true (by first | (with_reducible assumption) | assumption)
                                                                  obtain ⟨ad334, e334, hx334_0⟩ := Kd.at_int HR1.out x13_6 p334 q334
                                                                  obtain rfl : ad329 = ad334 := (by injection e334)
                                                                  replace hx334_0 := (HB.out.cell (World.block_lt_of_cell? w _ hx334_0)).trans hx334_0
                                                                  replace p334 := eq_true p334
                                                                  replace q334 := eq_true q334
                                                                  have p335 : 0 ≤ (x10_4 : Int) := of_decide_eq_true (by first | (with_reducible assumption) | assumption)
                                                                  have q335 : x10_4 < (l1.length : Int) := of_decide_eq_true (by first | (with_reducible assumption) | assumption)
                                                                  obtain ⟨ad335, e335, hx335_0⟩ := Kd.at_int HR1.out x10_4 p335 q335
                                                                  obtain rfl : ad329 = ad335 := (by injection e335)
                                                                  replace hx335_0 := (HB.out.cell (World.block_lt_of_cell? w _ hx335_0)).trans hx335_0
                                                                  replace p335 := eq_true p335
                                                                  replace q335 := eq_true q335
                                                                  have p336 : 0 ≤ (x13_6 : Int) := of_decide_eq_true (by first | (with_reducible assumption) | assumption)
                                                                  have q336 : x13_6 < (t321.length : Int) := of_decide_eq_true (by first | (with_reducible assumption) | assumption)
                                                                  obtain ⟨ad336, e336, hx336_0⟩ := Kd.at_int (Kd.R_reads' HO_5.out).2.2 x13_6 p336 q336
                                                                  cases e336
                                                                  replace p336 := eq_true p336
                                                                  replace q336 := eq_true q336
                                                                  have p337 : 0 ≤ (x10_4 : Int) := of_decide_eq_true (by first | (with_reducible assumption) | assumption)
                                                                  have q337 : x10_4 < (t321.length : Int) := of_decide_eq_true (by first | (with_reducible assumption) | assumption)
                                                                  obtain ⟨ad337, e337, hx337_0⟩ := Kd.at_int (Kd.R_reads' HO_5.out).2.2 x10_4 p337 q337
                                                                  obtain rfl : ad336 = ad337 := (by injection e337)
                                                                  replace p337 := eq_true p337
                                                                  replace q337 := eq_true q337
                                                                  go_wp2
                                                                  repeat (go_quiet (fail); try go_wp2)
                                                                  go_ret
                                                                  exact ⟨by first | rfl | (simp [errW_none, errW_some] <;> rfl) | (simp [*, errW_none, errW_some] <;> rfl), by repeat (first | (with_reducible first | exact HB.out | apply below_alloc | apply pw_below_drewN | apply below_drew1) | exact HB.out)⟩
                                                              · rw [if_neg c42] at H
                                                                have c42b0 : decide ((rd t321 x10_4) < (rd t321 x13_6)) = false := decide_eq_false c42
                                                                clear c42
                                                                by_cases c43 : (rd l1 x13_6) > (rd l1 x10_4)
                                                                · rw [if_pos c43] at H
                                                                  have c43b0 : decide ((rd l1 x10_4) < (rd l1 x13_6)) = true := decide_eq_true c43
                                                                  clear c43
                                                                  by_cases c44 : (rd t321 x13_6) < (rd t321 x10_4)
                                                                  · rw [if_pos c44] at H
                                                                    have c44b0 : decide ((rd t321 x13_6) < (rd t321 x10_4)) = true := decide_eq_true c44
                                                                    clear c44
                                                                    as_aux_lemma =>
                                                                      obtain rfl := Option.some.inj H
                                                                      have p334 : 0 ≤ (x13_6 : Int) := of_decide_eq_true (by first | (with_reducible assumption) | assumption)
                                                                      have q334 : x13_6 < (l1.length : Int) := of_decide_eq_true (by first | (with_reducible assumption) | assumption)
                                                                      obtain ⟨ad334, e334, hx334_0⟩ := Kd.at_int HR1.out x13_6 p334 q334
                                                                      obtain rfl : ad329 = ad334 := (by injection e334)
                                                                      replace hx334_0 := (HB.out.cell (World.block_lt_of_cell? w _ hx334_0)).trans hx334_0
                                                                      replace p334 := eq_true p334
                                                                      replace q334 := eq_true q334
                                                                      have p335 : 0 ≤ (x10_4 : Int) := of_decide_eq_true (by first | (with_reducible assumption) | assumption)
                                                                      have q335 : x10_4 < (l1.length : Int) := of_decide_eq_true (by first | (with_reducible assumption) | assumption)
                                                                      obtain ⟨ad335, e335, hx335_0⟩ := Kd.at_int HR1.out x10_4 p335 q335
                                                                      obtain rfl : ad329 = ad335 := (by injection e335)
                                                                      replace hx335_0 := (HB.out.cell (World.block_lt_of_cell? w _ hx335_0)).trans hx335_0
                                                                      replace p335 := eq_true p335
                                                                      replace q335 := eq_true q335
                                                                      have p336 : 0 ≤ (x13_6 : Int) := of_decide_eq_true (by first | (with_reducible assumption) | assumption)
                                                                      have q336 : x13_6 < (t321.length : Int) := of_decide_eq_true (by first | (with_reducible assumption) | assumption)
                                                                      obtain ⟨ad336, e336, hx336_0⟩ := Kd.at_int (Kd.R_reads' HO_5.out).2.2 x13_6 p336 q336
                                                                      cases e336
                                                                      replace p336 := eq_true p336
                                                                      replace q336 := eq_true q336
                                                                      have p337 : 0 ≤ (x10_4 : Int) := of_decide_eq_true (by first | (with_reducible assumption) | assumption)
                                                                      have q337 : x10_4 < (t321.length : Int) := of_decide_eq_true (by first | (with_reducible assumption) | assumption)
                                                                      obtain ⟨ad337, e337, hx337_0⟩ := Kd.at_int (Kd.R_reads' HO_5.out).2.2 x10_4 p337 q337
                                                                      obtain rfl : ad336 = ad337 := (by injection e337)
                                                                      replace p337 := eq_true p337
                                                                      replace q337 := eq_true q337
                                                                      have p338 : 0 ≤ (x13_6 : Int) := of_decide_eq_true (by first | (with_reducible assumption) | assumption)
                                                                      have q338 : x13_6 < (l1.length : Int) := of_decide_eq_true (by first | (with_reducible assumption) | assumption)
                                                                      obtain ⟨ad338, e338, hx338_0⟩ := Kd.at_int HR1.out x13_6 p338 q338
                                                                      obtain rfl : ad329 = ad338 := (by injection e338)
                                                                      replace hx338_0 := (HB.out.cell (World.block_lt_of_cell? w _ hx338_0)).trans hx338_0
                                                                      replace p338 := eq_true p338
                                                                      replace q338 := eq_true q338
                                                                      have p339 : 0 ≤ (x10_4 : Int) := of_decide_eq_true (by first | (with_reducible assumption) | assumption)
                                                                      have q339 : x10_4 < (l1.length : Int) := of_decide_eq_true (by first | (with_reducible assumption) | assumption)
                                                                      obtain ⟨ad339, e339, hx339_0⟩ := Kd.at_int HR1.out x10_4 p339 q339
                                                                      obtain rfl : ad329 = ad339 := (by injection e339)
                                                                      replace hx339_0 := (HB.out.cell (World.block_lt_of_cell? w _ hx339_0)).trans hx339_0
                                                                      replace p339 := eq_true p339
                                                                      replace q339 := eq_true q339
                                                                      have p340 : 0 ≤ (x13_6 : Int) := of_decide_eq_true (by first | (with_reducible assumption) | assumption)
                                                                      have q340 : x13_6 < (t321.length : Int) := of_decide_eq_true (by first | (with_reducible assumption) | assumption)
                                                                      obtain ⟨ad340, e340, hx340_0⟩ := Kd.at_int (Kd.R_reads' HO_5.out).2.2 x13_6 p340 q340
                                                                      obtain rfl : ad336 = ad340 := (by injection e340)
                                                                      replace p340 := eq_true p340
                                                                      replace q340 := eq_true q340
                                                                      have p341 : 0 ≤ (x10_4 : Int) := of_decide_eq_true (by first | (with_reducible assumption) | assumption)
                                                                      have q341 : x10_4 < (t321.length : Int) := of_decide_eq_true (by first | (with_reducible assumption) | assumption)
                                                                      obtain ⟨ad341, e341, hx341_0⟩ := Kd.at_int (Kd.R_reads' HO_5.out).2.2 x10_4 p341 q341
                                                                      obtain rfl : ad336 = ad341 := (by injection e341)
                                                                      replace p341 := eq_true p341
                                                                      replace q341 := eq_true q341
                                                                      go_wp2
                                                                      repeat (go_quiet (fail); try go_wp2)
                                                                      go_ret
                                                                      exact ⟨by first | rfl | (simp [errW_none, errW_some] <;> rfl) | (simp [*, errW_none, errW_some] <;> rfl), by repeat (first | (with_reducible first | exact HB.out | apply below_alloc | apply pw_below_drewN | apply below_drew1) | exact HB.out)⟩
                                                                  · rw [if_neg c44] at H
                                                                    have c44b0 : decide ((rd t321 x13_6) < (rd t321 x10_4)) = false := decide_eq_false c44
                                                                    clear c44
                                                                    by_cases c45 : (rd l1 x13_6) = (rd l1 x10_4)
                                                                    · rw [if_pos c45] at H
                                                                      have c45b0 : ((rd l1 x13_6) == (rd l1 x10_4)) = true := beq_iff_eq.mpr c45
                                                                      have c45b1 : ((rd l1 x13_6) != (rd l1 x10_4)) = false := bne_eq_false_iff_eq.mpr c45
                                                                      clear c45
                                                                      as_aux_lemma =>
                                                                        have H' := Aside0.mk H
                                                                        clear H
                                                                        have p334 : 0 ≤ (x13_6 : Int) := of_decide_eq_true (by first | (with_reducible assumption) | assumption)
                                                                        have q334 : x13_6 < (l1.length : Int) := of_decide_eq_true (by first | (with_reducible assumption) | assumption)
                                                                        obtain ⟨ad334, e334, hx334_0⟩ := Kd.at_int HR1.out x13_6 p334 q334
                                                                        obtain rfl : ad329 = ad334 := (by injection e334)
                                                                        replace hx334_0 := (HB.out.cell (World.block_lt_of_cell? w _ hx334_0)).trans hx334_0
                                                                        replace p334 := eq_true p334
                                                                        replace q334 := eq_true q334
                                                                        have p335 : 0 ≤ (x10_4 : Int) := of_decide_eq_true (by first | (with_reducible assumption) | assumption)
                                                                        have q335 : x10_4 < (l1.length : Int) := of_decide_eq_true (by first | (with_reducible assumption) | assumption)
                                                                        obtain ⟨ad335, e335, hx335_0⟩ := Kd.at_int HR1.out x10_4 p335 q335
                                                                        obtain rfl : ad329 = ad335 := (by injection e335)
                                                                        replace hx335_0 := (HB.out.cell (World.block_lt_of_cell? w _ hx335_0)).trans hx335_0
                                                                        replace p335 := eq_true p335
                                                                        replace q335 := eq_true q335
                                                                        have p336 : 0 ≤ (x13_6 : Int) := of_decide_eq_true (by first | (with_reducible assumption) | assumption)
                                                                        have q336 : x13_6 < (t321.length : Int) := of_decide_eq_true (by first | (with_reducible assumption) | assumption)
                                                                        obtain ⟨ad336, e336, hx336_0⟩ := Kd.at_int (Kd.R_reads' HO_5.out).2.2 x13_6 p336 q336
                                                                        cases e336
                                                                        replace p336 := eq_true p336
                                                                        replace q336 := eq_true q336
                                                                        have p337 : 0 ≤ (x10_4 : Int) := of_decide_eq_true (by first | (with_reducible assumption) | assumption)
                                                                        have q337 : x10_4 < (t321.length : Int) := of_decide_eq_true (by first | (with_reducible assumption) | assumption)
                                                                        obtain ⟨ad337, e337, hx337_0⟩ := Kd.at_int (Kd.R_reads' HO_5.out).2.2 x10_4 p337 q337
                                                                        obtain rfl : ad336 = ad337 := (by injection e337)
                                                                        replace p337 := eq_true p337
                                                                        replace q337 := eq_true q337
                                                                        have p338 : 0 ≤ (x13_6 : Int) := of_decide_eq_true (by first | (with_reducible assumption) | assumption)
                                                                        have q338 : x13_6 < (l1.length : Int) := of_decide_eq_true (by first | (with_reducible assumption) | assumption)
                                                                        obtain ⟨ad338, e338, hx338_0⟩ := Kd.at_int HR1.out x13_6 p338 q338
                                                                        obtain rfl : ad329 = ad338 := (by injection e338)
                                                                        replace hx338_0 := (HB.out.cell (World.block_lt_of_cell? w _ hx338_0)).trans hx338_0
                                                                        replace p338 := eq_true p338
                                                                        replace q338 := eq_true q338
                                                                        have p339 : 0 ≤ (x10_4 : Int) := of_decide_eq_true (by first | (with_reducible assumption) | assumption)
                                                                        have q339 : x10_4 < (l1.length : Int) := of_decide_eq_true (by first | (with_reducible assumption) | assumption)
                                                                        obtain ⟨ad339, e339, hx339_0⟩ := Kd.at_int HR1.out x10_4 p339 q339
                                                                        obtain rfl : ad329 = ad339 := (by injection e339)
                                                                        replace hx339_0 := (HB.out.cell (World.block_lt_of_cell? w _ hx339_0)).trans hx339_0
                                                                        replace p339 := eq_true p339
                                                                        replace q339 := eq_true q339
                                                                        have p340 : 0 ≤ (x13_6 : Int) := of_decide_eq_true (by first | (with_reducible assumption) | assumption)
                                                                        have q340 : x13_6 < (t321.length : Int) := of_decide_eq_true (by first | (with_reducible assumption) | assumption)
                                                                        obtain ⟨ad340, e340, hx340_0⟩ := Kd.at_int (Kd.R_reads' HO_5.out).2.2 x13_6 p340 q340
                                                                        obtain rfl : ad336 = ad340 := (by injection e340)
                                                                        replace p340 := eq_true p340
                                                                        replace q340 := eq_true q340
                                                                        have p341 : 0 ≤ (x10_4 : Int) := of_decide_eq_true (by first | (with_reducible assumption) | assumption)
                                                                        have q341 : x10_4 < (t321.length : Int) := of_decide_eq_true (by first | (with_reducible assumption) | assumption)
                                                                        obtain ⟨ad341, e341, hx341_0⟩ := Kd.at_int (Kd.R_reads' HO_5.out).2.2 x10_4 p341 q341
                                                                        obtain rfl : ad336 = ad341 := (by injection e341)
                                                                        replace p341 := eq_true p341
                                                                        replace q341 := eq_true q341
                                                                        have p342 : 0 ≤ (x13_6 : Int) := of_decide_eq_true (by first | (with_reducible assumption) | assumption)
                                                                        have q342 : x13_6 < (l1.length : Int) := of_decide_eq_true (by first | (with_reducible assumption) | assumption)
                                                                        obtain ⟨ad342, e342, hx342_0⟩ := Kd.at_int HR1.out x13_6 p342 q342
                                                                        obtain rfl : ad329 = ad342 := (by injection e342)
                                                                        replace hx342_0 := (HB.out.cell (World.block_lt_of_cell? w _ hx342_0)).trans hx342_0
                                                                        replace p342 := eq_true p342
                                                                        replace q342 := eq_true q342
                                                                        have p343 : 0 ≤ (x10_4 : Int) := of_decide_eq_true (by first | (with_reducible assumption) | assumption)
                                                                        have q343 : x10_4 < (l1.length : Int) := of_decide_eq_true (by first | (with_reducible assumption) | assumption)
                                                                        obtain ⟨ad343, e343, hx343_0⟩ := Kd.at_int HR1.out x10_4 p343 q343
                                                                        obtain rfl : ad329 = ad343 := (by injection e343)
                                                                        replace hx343_0 := (HB.out.cell (World.block_lt_of_cell? w _ hx343_0)).trans hx343_0
                                                                        replace p343 := eq_true p343
                                                                        replace q343 := eq_true q343
                                                                        have p344 : 0 ≤ (x13_6 : Int) := of_decide_eq_true (by first | (with_reducible assumption) | assumption)
                                                                        have q344 : x13_6 < (t321.length : Int) := of_decide_eq_true (by first | (with_reducible assumption) | assumption)
                                                                        obtain ⟨ad344, e344, hx344_0⟩ := Kd.at_int (Kd.R_reads' HO_5.out).2.2 x13_6 p344 q344
                                                                        obtain rfl : ad336 = ad344 := (by injection e344)
                                                                        replace p344 := eq_true p344
                                                                        replace q344 := eq_true q344
                                                                        have p345 : 0 ≤ (x10_4 : Int) := of_decide_eq_true (by first | (with_reducible assumption) | assumption)
                                                                        have q345 : x10_4 < (t321.length : Int) := of_decide_eq_true (by first | (with_reducible assumption) | assumption)
                                                                        obtain ⟨ad345, e345, hx345_0⟩ := Kd.at_int (Kd.R_reads' HO_5.out).2.2 x10_4 p345 q345
                                                                        obtain rfl : ad336 = ad345 := (by injection e345)
                                                                        replace p345 := eq_true p345
                                                                        replace q345 := eq_true q345
                                                                        go_wp2
                                                                        repeat (go_quiet (fail); try go_wp2)
                                                                        go_roundg k6
                                                                        case measure => have := HJ8.out; have := HK2.out; have := HJ20.out; have := HK4.out; have := HJ28.out; have := HK6.out; omega
                                                                        case rel => exact ⟨(wrap64 (x13_6 + 1)), (by first | rfl | (simp; done) | (simp [*]; done)), H', ⟨by have := HJ8.out; have := HK2.out; have := HJ20.out; have := HK4.out; have := HJ28.out; have := HK6.out; omega⟩, ⟨by (with_reducible repeat (first | apply Kd.R_alloc | apply Kd.R_drewN | apply Kd.R_drew)); exact HO_5.out⟩, ⟨by repeat (first | (with_reducible first | exact HB.out | apply below_alloc | apply pw_below_drewN | apply below_drew1) | exact HB.out)⟩⟩
                                                                    · rw [if_neg c45] at H
                                                                      have c45b0 : ((rd l1 x13_6) == (rd l1 x10_4)) = false := beq_eq_false_iff_ne.mpr c45
                                                                      have c45b1 : ((rd l1 x13_6) != (rd l1 x10_4)) = true := bne_iff_ne.mpr c45
                                                                      as_aux_lemma =>
                                                                        have H' := Aside0.mk H
                                                                        clear H
                                                                        have p334 : 0 ≤ (x13_6 : Int) := of_decide_eq_true (by first | (with_reducible assumption) | assumption)
                                                                        have q334 : x13_6 < (l1.length : Int) := of_decide_eq_true (by first | (with_reducible assumption) | assumption)
                                                                        obtain ⟨ad334, e334, hx334_0⟩ := Kd.at_int HR1.out x13_6 p334 q334
                                                                        obtain rfl : ad329 = ad334 := (by injection e334)
                                                                        replace hx334_0 := (HB.out.cell (World.block_lt_of_cell? w _ hx334_0)).trans hx334_0
                                                                        replace p334 := eq_true p334
                                                                        replace q334 := eq_true q334
                                                                        have p335 : 0 ≤ (x10_4 : Int) := of_decide_eq_true (by first | (with_reducible assumption) | assumption)
                                                                        have q335 : x10_4 < (l1.length : Int) := of_decide_eq_true (by first | (with_reducible assumption) | assumption)
                                                                        obtain ⟨ad335, e335, hx335_0⟩ := Kd.at_int HR1.out x10_4 p335 q335
                                                                        obtain rfl : ad329 = ad335 := (by injection e335)
                                                                        replace hx335_0 := (HB.out.cell (World.block_lt_of_cell? w _ hx335_0)).trans hx335_0
                                                                        replace p335 := eq_true p335
                                                                        replace q335 := eq_true q335
                                                                        have p336 : 0 ≤ (x13_6 : Int) := of_decide_eq_true (by first | (with_reducible assumption) | assumption)
                                                                        have q336 : x13_6 < (t321.length : Int) := of_decide_eq_true (by first | (with_reducible assumption) | assumption)
                                                                        obtain ⟨ad336, e336, hx336_0⟩ := Kd.at_int (Kd.R_reads' HO_5.out).2.2 x13_6 p336 q336
                                                                        cases e336
                                                                        replace p336 := eq_true p336
                                                                        replace q336 := eq_true q336
                                                                        have p337 : 0 ≤ (x10_4 : Int) := of_decide_eq_true (by first | (with_reducible assumption) | assumption)
                                                                        have q337 : x10_4 < (t321.length : Int) := of_decide_eq_true (by first | (with_reducible assumption) | assumption)
                                                                        obtain ⟨ad337, e337, hx337_0⟩ := Kd.at_int (Kd.R_reads' HO_5.out).2.2 x10_4 p337 q337
                                                                        obtain rfl : ad336 = ad337 := (by injection e337)
                                                                        replace p337 := eq_true p337
                                                                        replace q337 := eq_true q337
                                                                        have p338 : 0 ≤ (x13_6 : Int) := of_decide_eq_true (by first | (with_reducible assumption) | assumption)
                                                                        have q338 : x13_6 < (l1.length : Int) := of_decide_eq_true (by first | (with_reducible assumption) | assumption)
                                                                        obtain ⟨ad338, e338, hx338_0⟩ := Kd.at_int HR1.out x13_6 p338 q338
                                                                        obtain rfl : ad329 = ad338 := (by injection e338)
                                                                        replace hx338_0 := (HB.out.cell (World.block_lt_of_cell? w _ hx338_0)).trans hx338_0
                                                                        replace p338 := eq_true p338
                                                                        replace q338 := eq_true q338
                                                                        have p339 : 0 ≤ (x10_4 : Int) := of_decide_eq_true (by first | (with_reducible assumption) | assumption)
                                                                        have q339 : x10_4 < (l1.length : Int) := of_decide_eq_true (by first | (with_reducible assumption) | assumption)
                                                                        obtain ⟨ad339, e339, hx339_0⟩ := Kd.at_int HR1.out x10_4 p339 q339
                                                                        obtain rfl : ad329 = ad339 := (by injection e339)
                                                                        replace hx339_0 := (HB.out.cell (World.block_lt_of_cell? w _ hx339_0)).trans hx339_0
                                                                        replace p339 := eq_true p339
                                                                        replace q339 := eq_true q339
                                                                        have p340 : 0 ≤ (x13_6 : Int) := of_decide_eq_true (by first | (with_reducible assumption) | assumption)
                                                                        have q340 : x13_6 < (t321.length : Int) := of_decide_eq_true (by first | (with_reducible assumption) | assumption)
                                                                        obtain ⟨ad340, e340, hx340_0⟩ := Kd.at_int (Kd.R_reads' HO_5.out).2.2 x13_6 p340 q340
                                                                        obtain rfl : ad336 = ad340 := (by injection e340)
                                                                        replace p340 := eq_true p340
                                                                        replace q340 := eq_true q340
                                                                        have p341 : 0 ≤ (x10_4 : Int) := of_decide_eq_true (by first | (with_reducible assumption) | assumption)
                                                                        have q341 : x10_4 < (t321.length : Int) := of_decide_eq_true (by first | (with_reducible assumption) | assumption)
                                                                        obtain ⟨ad341, e341, hx341_0⟩ := Kd.at_int (Kd.R_reads' HO_5.out).2.2 x10_4 p341 q341
                                                                        obtain rfl : ad336 = ad341 := (by injection e341)
                                                                        replace p341 := eq_true p341
                                                                        replace q341 := eq_true q341
                                                                        have p342 : 0 ≤ (x13_6 : Int) := of_decide_eq_true (by first | (with_reducible assumption) | assumption)
                                                                        have q342 : x13_6 < (l1.length : Int) := of_decide_eq_true (by first | (with_reducible assumption) | assumption)
                                                                        obtain ⟨ad342, e342, hx342_0⟩ := Kd.at_int HR1.out x13_6 p342 q342
                                                                        obtain rfl : ad329 = ad342 := (by injection e342)
                                                                        replace hx342_0 := (HB.out.cell (World.block_lt_of_cell? w _ hx342_0)).trans hx342_0
                                                                        replace p342 := eq_true p342
                                                                        replace q342 := eq_true q342
                                                                        have p343 : 0 ≤ (x10_4 : Int) := of_decide_eq_true (by first | (with_reducible assumption) | assumption)
                                                                        have q343 : x10_4 < (l1.length : Int) := of_decide_eq_true (by first | (with_reducible assumption) | assumption)
                                                                        obtain ⟨ad343, e343, hx343_0⟩ := Kd.at_int HR1.out x10_4 p343 q343
                                                                        obtain rfl : ad329 = ad343 := (by injection e343)
                                                                        replace hx343_0 := (HB.out.cell (World.block_lt_of_cell? w _ hx343_0)).trans hx343_0
                                                                        replace p343 := eq_true p343
                                                                        replace q343 := eq_true q343
                                                                        go_wp2
                                                                        repeat (go_quiet (fail); try go_wp2)
                                                                        go_roundg k6
                                                                        case measure => have := HJ8.out; have := HK2.out; have := HJ20.out; have := HK4.out; have := HJ28.out; have := HK6.out; omega
                                                                        case rel => exact ⟨(wrap64 (x13_6 + 1)), (by first | rfl | (simp; done) | (simp [*]; done)), H', ⟨by have := HJ8.out; have := HK2.out; have := HJ20.out; have := HK4.out; have := HJ28.out; have := HK6.out; omega⟩, ⟨by (with_reducible repeat (first | apply Kd.R_alloc | apply Kd.R_drewN | apply Kd.R_drew)); exact HO_5.out⟩, ⟨by repeat (first | (with_reducible first | exact HB.out | apply below_alloc | apply pw_below_drewN | apply below_drew1) | exact HB.out)⟩⟩
                                                                · rw [if_neg c43] at H
                                                                  have c43b0 : decide ((rd l1 x10_4) < (rd l1 x13_6)) = false := decide_eq_false c43
                                                                  clear c43
                                                                  by_cases c46 : (rd l1 x13_6) = (rd l1 x10_4)
                                                                  · rw [if_pos c46] at H
                                                                    have c46b0 : ((rd l1 x13_6) == (rd l1 x10_4)) = true := beq_iff_eq.mpr c46
                                                                    have c46b1 : ((rd l1 x13_6) != (rd l1 x10_4)) = false := bne_eq_false_iff_eq.mpr c46
                                                                    clear c46
                                                                    by_cases c47 : (rd t321 x13_6) < (rd t321 x10_4)
                                                                    · rw [if_pos c47] at H
                                                                      have c47b0 : decide ((rd t321 x13_6) < (rd t321 x10_4)) = true := decide_eq_true c47
                                                                      clear c47
                                                                      as_aux_lemma =>
                                                                        obtain rfl := Option.some.inj H
                                                                        have p334 : 0 ≤ (x13_6 : Int) := of_decide_eq_true (by first | (with_reducible assumption) | assumption)
                                                                        have q334 : x13_6 < (l1.length : Int) := of_decide_eq_true (by first | (with_reducible assumption) | assumption)
                                                                        obtain ⟨ad334, e334, hx334_0⟩ := Kd.at_int HR1.out x13_6 p334 q334
                                                                        obtain rfl : ad329 = ad334 := (by injection e334)
                                                                        replace hx334_0 := (HB.out.cell (World.block_lt_of_cell? w _ hx334_0)).trans hx334_0
                                                                        replace p334 := eq_true p334
                                                                        replace q334 := eq_true q334
                                                                        have p335 : 0 ≤ (x10_4 : Int) := of_decide_eq_true (by first | (with_reducible assumption) | assumption)
                                                                        have q335 : x10_4 < (l1.length : Int) := of_decide_eq_true (by first | (with_reducible assumption) | assumption)
                                                                        obtain ⟨ad335, e335, hx335_0⟩ := Kd.at_int HR1.out x10_4 p335 q335
                                                                        obtain rfl : ad329 = ad335 := (by injection e335)
                                                                        replace hx335_0 := (HB.out.cell (World.block_lt_of_cell? w _ hx335_0)).trans hx335_0
                                                                        replace p335 := eq_true p335
                                                                        replace q335 := eq_true q335
                                                                        have p336 : 0 ≤ (x13_6 : Int) := of_decide_eq_true (by first | (with_reducible assumption) | assumption)
                                                                        have q336 : x13_6 < (t321.length : Int) := of_decide_eq_true (by first | (with_reducible assumption) | assumption)
                                                                        obtain ⟨ad336, e336, hx336_0⟩ := Kd.at_int (Kd.R_reads' HO_5.out).2.2 x13_6 p336 q336
                                                                        cases e336
                                                                        replace p336 := eq_true p336
                                                                        replace q336 := eq_true q336
                                                                        have p337 : 0 ≤ (x10_4 : Int) := of_decide_eq_true (by first | (with_reducible assumption) | assumption)
                                                                        have q337 : x10_4 < (t321.length : Int) := of_decide_eq_true (by first | (with_reducible assumption) | assumption)
                                                                        obtain ⟨ad337, e337, hx337_0⟩ := Kd.at_int (Kd.R_reads' HO_5.out).2.2 x10_4 p337 q337
                                                                        obtain rfl : ad336 = ad337 := (by injection e337)
                                                                        replace p337 := eq_true p337
                                                                        replace q337 := eq_true q337
                                                                        have p338 : 0 ≤ (x13_6 : Int) := of_decide_eq_true (by first | (with_reducible assumption) | assumption)
                                                                        have q338 : x13_6 < (l1.length : Int) := of_decide_eq_true (by first | (with_reducible assumption) | assumption)
                                                                        obtain ⟨ad338, e338, hx338_0⟩ := Kd.at_int HR1.out x13_6 p338 q338
                                                                        obtain rfl : ad329 = ad338 := (by injection e338)
                                                                        replace hx338_0 := (HB.out.cell (World.block_lt_of_cell? w _ hx338_0)).trans hx338_0
                                                                        replace p338 := eq_true p338
                                                                        replace q338 := eq_true q338
                                                                        have p339 : 0 ≤ (x10_4 : Int) := of_decide_eq_true (by first | (with_reducible assumption) | assumption)
                                                                        have q339 : x10_4 < (l1.length : Int) := of_decide_eq_true (by first | (with_reducible assumption) | assumption)
                                                                        obtain ⟨ad339, e339, hx339_0⟩ := Kd.at_int HR1.out x10_4 p339 q339
                                                                        obtain rfl : ad329 = ad339 := (by injection e339)
                                                                        replace hx339_0 := (HB.out.cell (World.block_lt_of_cell? w _ hx339_0)).trans hx339_0
                                                                        replace p339 := eq_true p339
                                                                        replace q339 := eq_true q339
                                                                        have p346 : 0 ≤ (x13_6 : Int) := of_decide_eq_true (by first | (with_reducible assumption) | assumption)
                                                                        have q346 : x13_6 < (l1.length : Int) := of_decide_eq_true (by first | (with_reducible assumption) | assumption)
                                                                        obtain ⟨ad346, e346, hx346_0⟩ := Kd.at_int HR1.out x13_6 p346 q346
                                                                        obtain rfl : ad329 = ad346 := (by injection e346)
                                                                        replace hx346_0 := (HB.out.cell (World.block_lt_of_cell? w _ hx346_0)).trans hx346_0
                                                                        replace p346 := eq_true p346
                                                                        replace q346 := eq_true q346
                                                                        have p347 : 0 ≤ (x10_4 : Int) := of_decide_eq_true (by first | (with_reducible assumption) | assumption)
                                                                        have q347 : x10_4 < (l1.length : Int) := of_decide_eq_true (by first | (with_reducible assumption) | assumption)
                                                                        obtain ⟨ad347, e347, hx347_0⟩ := Kd.at_int HR1.out x10_4 p347 q347
                                                                        obtain rfl : ad329 = ad347 := (by injection e347)
                                                                        replace hx347_0 := (HB.out.cell (World.block_lt_of_cell? w _ hx347_0)).trans hx347_0
                                                                        replace p347 := eq_true p347
                                                                        replace q347 := eq_true q347
                                                                        have p348 : 0 ≤ (x13_6 : Int) := of_decide_eq_true (by first | (with_reducible assumption) | assumption)
                                                                        have q348 : x13_6 < (t321.length : Int) := of_decide_eq_true (by first | (with_reducible assumption) | assumption)
                                                                        obtain ⟨ad348, e348, hx348_0⟩ := Kd.at_int (Kd.R_reads' HO_5.out).2.2 x13_6 p348 q348
                                                                        obtain rfl : ad336 = ad348 := (by injection e348)
                                                                        replace p348 := eq_true p348
                                                                        replace q348 := eq_true q348
                                                                        have p349 : 0 ≤ (x10_4 : Int) := of_decide_eq_true (by first | (with_reducible assumption) | assumption)
                                                                        have q349 : x10_4 < (t321.length : Int) := of_decide_eq_true (by first | (with_reducible assumption) | assumption)
                                                                        obtain ⟨ad349, e349, hx349_0⟩ := Kd.at_int (Kd.R_reads' HO_5.out).2.2 x10_4 p349 q349
                                                                        obtain rfl : ad336 = ad349 := (by injection e349)
                                                                        replace p349 := eq_true p349
                                                                        replace q349 := eq_true q349
                                                                        go_wp2
                                                                        repeat (go_quiet (fail); try go_wp2)
                                                                        go_ret
                                                                        exact ⟨by first | rfl | (simp [errW_none, errW_some] <;> rfl) | (simp [*, errW_none, errW_some] <;> rfl), by repeat (first | (with_reducible first | exact HB.out | apply below_alloc | apply pw_below_drewN | apply below_drew1) | exact HB.out)⟩
                                                                    · rw [if_neg c47] at H
                                                                      have c47b0 : decide ((rd t321 x13_6) < (rd t321 x10_4)) = false := decide_eq_false c47
                                                                      clear c47
                                                                      as_aux_lemma =>
                                                                        have H' := Aside0.mk H
                                                                        clear H
                                                                        have p334 : 0 ≤ (x13_6 : Int) := of_decide_eq_true (by first | (with_reducible assumption) | assumption)
                                                                        have q334 : x13_6 < (l1.length : Int) := of_decide_eq_true (by first | (with_reducible assumption) | assumption)
                                                                        obtain ⟨ad334, e334, hx334_0⟩ := Kd.at_int HR1.out x13_6 p334 q334
                                                                        obtain rfl : ad329 = ad334 := (by injection e334)
                                                                        replace hx334_0 := (HB.out.cell (World.block_lt_of_cell? w _ hx334_0)).trans hx334_0
                                                                        replace p334 := eq_true p334
                                                                        replace q334 := eq_true q334
                                                                        have p335 : 0 ≤ (x10_4 : Int) := of_decide_eq_true (by first | (with_reducible assumption) | assumption)
                                                                        have q335 : x10_4 < (l1.length : Int) := of_decide_eq_true (by first | (with_reducible assumption) | assumption)
                                                                        obtain ⟨ad335, e335, hx335_0⟩ := Kd.at_int HR1.out x10_4 p335 q335
                                                                        obtain rfl : ad329 = ad335 := (by injection e335)
                                                                        replace hx335_0 := (HB.out.cell (World.block_lt_of_cell? w _ hx335_0)).trans hx335_0
                                                                        replace p335 := eq_true p335
                                                                        replace q335 := eq_true q335
                                                                        have p336 : 0 ≤ (x13_6 : Int) := of_decide_eq_true (by first | (with_reducible assumption) | assumption)
                                                                        have q336 : x13_6 < (t321.length : Int) := of_decide_eq_true (by first | (with_reducible assumption) | assumption)
                                                                        obtain ⟨ad336, e336, hx336_0⟩ := Kd.at_int (Kd.R_reads' HO_5.out).2.2 x13_6 p336 q336
                                                                        cases e336
                                                                        replace p336 := eq_true p336
                                                                        replace q336 := eq_true q336
                                                                        have p337 : 0 ≤ (x10_4 : Int) := of_decide_eq_true (by first | (with_reducible assumption) | assumption)
                                                                        have q337 : x10_4 < (t321.length : Int) := of_decide_eq_true (by first | (with_reducible assumption) | assumption)
                                                                        obtain ⟨ad337, e337, hx337_0⟩ := Kd.at_int (Kd.R_reads' HO_5.out).2.2 x10_4 p337 q337
                                                                        obtain rfl : ad336 = ad337 := (by injection e337)
                                                                        replace p337 := eq_true p337
                                                                        replace q337 := eq_true q337
                                                                        have p338 : 0 ≤ (x13_6 : Int) := of_decide_eq_true (by first | (with_reducible assumption) | assumption)
                                                                        have q338 : x13_6 < (l1.length : Int) := of_decide_eq_true (by first | (with_reducible assumption) | assumption)
                                                                        obtain ⟨ad338, e338, hx338_0⟩ := Kd.at_int HR1.out x13_6 p338 q338
                                                                        obtain rfl : ad329 = ad338 := (by injection e338)
                                                                        replace hx338_0 := (HB.out.cell (World.block_lt_of_cell? w _ hx338_0)).trans hx338_0
                                                                        replace p338 := eq_true p338
                                                                        replace q338 := eq_true q338
                                                                        have p339 : 0 ≤ (x10_4 : Int) := of_decide_eq_true (by first | (with_reducible assumption) | assumption)
                                                                        have q339 : x10_4 < (l1.length : Int) := of_decide_eq_true (by first | (with_reducible assumption) | assumption)
                                                                        obtain ⟨ad339, e339, hx339_0⟩ := Kd.at_int HR1.out x10_4 p339 q339
                                                                        obtain rfl : ad329 = ad339 := (by injection e339)
                                                                        replace hx339_0 := (HB.out.cell (World.block_lt_of_cell? w _ hx339_0)).trans hx339_0
                                                                        replace p339 := eq_true p339
                                                                        replace q339 := eq_true q339
                                                                        have p346 : 0 ≤ (x13_6 : Int) := of_decide_eq_true (by first | (with_reducible assumption) | assumption)
                                                                        have q346 : x13_6 < (l1.length : Int) := of_decide_eq_true (by first | (with_reducible assumption) | assumption)
                                                                        obtain ⟨ad346, e346, hx346_0⟩ := Kd.at_int HR1.out x13_6 p346 q346
                                                                        obtain rfl : ad329 = ad346 := (by injection e346)
                                                                        replace hx346_0 := (HB.out.cell (World.block_lt_of_cell? w _ hx346_0)).trans hx346_0
                                                                        replace p346 := eq_true p346
                                                                        replace q346 := eq_true q346
                                                                        have p347 : 0 ≤ (x10_4 : Int) := of_decide_eq_true (by first | (with_reducible assumption) | assumption)
                                                                        have q347 : x10_4 < (l1.length : Int) := of_decide_eq_true (by first | (with_reducible assumption) | assumption)
                                                                        obtain ⟨ad347, e347, hx347_0⟩ := Kd.at_int HR1.out x10_4 p347 q347
                                                                        obtain rfl : ad329 = ad347 := (by injection e347)
                                                                        replace hx347_0 := (HB.out.cell (World.block_lt_of_cell? w _ hx347_0)).trans hx347_0
                                                                        replace p347 := eq_true p347
                                                                        replace q347 := eq_true q347
                                                                        have p348 : 0 ≤ (x13_6 : Int) := of_decide_eq_true (by first | (with_reducible assumption) | assumption)
                                                                        have q348 : x13_6 < (t321.length : Int) := of_decide_eq_true (by first | (with_reducible assumption) | assumption)
                                                                        obtain ⟨ad348, e348, hx348_0⟩ := Kd.at_int (Kd.R_reads' HO_5.out).2.2 x13_6 p348 q348
                                                                        obtain rfl : ad336 = ad348 := (by injection e348)
                                                                        replace p348 := eq_true p348
                                                                        replace q348 := eq_true q348
                                                                        have p349 : 0 ≤ (x10_4 : Int) := of_decide_eq_true (by first | (with_reducible assumption) | assumption)
                                                                        have q349 : x10_4 < (t321.length : Int) := of_decide_eq_true (by first | (with_reducible assumption) | assumption)
                                                                        obtain ⟨ad349, e349, hx349_0⟩ := Kd.at_int (Kd.R_reads' HO_5.out).2.2 x10_4 p349 q349
                                                                        obtain rfl : ad336 = ad349 := (by injection e349)
                                                                        replace p349 := eq_true p349
                                                                        replace q349 := eq_true q349
                                                                        go_wp2
                                                                        repeat (go_quiet (fail); try go_wp2)
                                                                        go_roundg k6
                                                                        case measure => have := HJ8.out; have := HK2.out; have := HJ20.out; have := HK4.out; have := HJ28.out; have := HK6.out; omega
                                                                        case rel => exact ⟨(wrap64 (x13_6 + 1)), (by first | rfl | (simp; done) | (simp [*]; done)), H', ⟨by have := HJ8.out; have := HK2.out; have := HJ20.out; have := HK4.out; have := HJ28.out; have := HK6.out; omega⟩, ⟨by (with_reducible repeat (first | apply Kd.R_alloc | apply Kd.R_drewN | apply Kd.R_drew)); exact HO_5.out⟩, ⟨by repeat (first | (with_reducible first | exact HB.out | apply below_alloc | apply pw_below_drewN | apply below_drew1) | exact HB.out)⟩⟩
                                                                  · rw [if_neg c46] at H
                                                                    have c46b0 : ((rd l1 x13_6) == (rd l1 x10_4)) = false := beq_eq_false_iff_ne.mpr c46
                                                                    have c46b1 : ((rd l1 x13_6) != (rd l1 x10_4)) = true := bne_iff_ne.mpr c46
                                                                    as_aux_lemma =>
                                                                      have H' := Aside0.mk H
                                                                      clear H
                                                                      have p334 : 0 ≤ (x13_6 : Int) := of_decide_eq_true (by first | (with_reducible assumption) | assumption)
                                                                      have q334 : x13_6 < (l1.length : Int) := of_decide_eq_true (by first | (with_reducible assumption) | assumption)
                                                                      obtain ⟨ad334, e334, hx334_0⟩ := Kd.at_int HR1.out x13_6 p334 q334
                                                                      obtain rfl : ad329 = ad334 := (by injection e334)
                                                                      replace hx334_0 := (HB.out.cell (World.block_lt_of_cell? w _ hx334_0)).trans hx334_0
                                                                      replace p334 := eq_true p334
                                                                      replace q334 := eq_true q334
                                                                      have p335 : 0 ≤ (x10_4 : Int) := of_decide_eq_true (by first | (with_reducible assumption) | assumption)
                                                                      have q335 : x10_4 < (l1.length : Int) := of_decide_eq_true (by first | (with_reducible assumption) | assumption)
                                                                      obtain ⟨ad335, e335, hx335_0⟩ := Kd.at_int HR1.out x10_4 p335 q335
                                                                      obtain rfl : ad329 = ad335 := (by injection e335)
                                                                      replace hx335_0 := (HB.out.cell (World.block_lt_of_cell? w _ hx335_0)).trans hx335_0
                                                                      replace p335 := eq_true p335
                                                                      replace q335 := eq_true q335
                                                                      have p336 : 0 ≤ (x13_6 : Int) := of_decide_eq_true (by first | (with_reducible assumption) | assumption)
                                                                      have q336 : x13_6 < (t321.length : Int) := of_decide_eq_true (by first | (with_reducible assumption) | assumption)
                                                                      obtain ⟨ad336, e336, hx336_0⟩ := Kd.at_int (Kd.R_reads' HO_5.out).2.2 x13_6 p336 q336
                                                                      cases e336
                                                                      replace p336 := eq_true p336
                                                                      replace q336 := eq_true q336
                                                                      have p337 : 0 ≤ (x10_4 : Int) := of_decide_eq_true (by first | (with_reducible assumption) | assumption)
                                                                      have q337 : x10_4 < (t321.length : Int) := of_decide_eq_true (by first | (with_reducible assumption) | assumption)
                                                                      obtain ⟨ad337, e337, hx337_0⟩ := Kd.at_int (Kd.R_reads' HO_5.out).2.2 x10_4 p337 q337
                                                                      obtain rfl : ad336 = ad337 := (by injection e337)
                                                                      replace p337 := eq_true p337
                                                                      replace q337 := eq_true q337
                                                                      have p338 : 0 ≤ (x13_6 : Int) := of_decide_eq_true (by first | (with_reducible assumption) | assumption)
                                                                      have q338 : x13_6 < (l1.length : Int) := of_decide_eq_true (by first | (with_reducible assumption) | assumption)
                                                                      obtain ⟨ad338, e338, hx338_0⟩ := Kd.at_int HR1.out x13_6 p338 q338
                                                                      obtain rfl : ad329 = ad338 := (by injection e338)
                                                                      replace hx338_0 := (HB.out.cell (World.block_lt_of_cell? w _ hx338_0)).trans hx338_0
                                                                      replace p338 := eq_true p338
                                                                      replace q338 := eq_true q338
                                                                      have p339 : 0 ≤ (x10_4 : Int) := of_decide_eq_true (by first | (with_reducible assumption) | assumption)
                                                                      have q339 : x10_4 < (l1.length : Int) := of_decide_eq_true (by first | (with_reducible assumption) | assumption)
                                                                      obtain ⟨ad339, e339, hx339_0⟩ := Kd.at_int HR1.out x10_4 p339 q339
                                                                      obtain rfl : ad329 = ad339 := (by injection e339)
                                                                      replace hx339_0 := (HB.out.cell (World.block_lt_of_cell? w _ hx339_0)).trans hx339_0
                                                                      replace p339 := eq_true p339
                                                                      replace q339 := eq_true q339
                                                                      have p346 : 0 ≤ (x13_6 : Int) := of_decide_eq_true (by first | (with_reducible assumption) | assumption)
                                                                      have q346 : x13_6 < (l1.length : Int) := of_decide_eq_true (by first | (with_reducible assumption) | assumption)
                                                                      obtain ⟨ad346, e346, hx346_0⟩ := Kd.at_int HR1.out x13_6 p346 q346
                                                                      obtain rfl : ad329 = ad346 := (by injection e346)
                                                                      replace hx346_0 := (HB.out.cell (World.block_lt_of_cell? w _ hx346_0)).trans hx346_0
                                                                      replace p346 := eq_true p346
                                                                      replace q346 := eq_true q346
                                                                      have p347 : 0 ≤ (x10_4 : Int) := of_decide_eq_true (by first | (with_reducible assumption) | assumption)
                                                                      have q347 : x10_4 < (l1.length : Int) := of_decide_eq_true (by first | (with_reducible assumption) | assumption)
                                                                      obtain ⟨ad347, e347, hx347_0⟩ := Kd.at_int HR1.out x10_4 p347 q347
                                                                      obtain rfl : ad329 = ad347 := (by injection e347)
                                                                      replace hx347_0 := (HB.out.cell (World.block_lt_of_cell? w _ hx347_0)).trans hx347_0
                                                                      replace p347 := eq_true p347
                                                                      replace q347 := eq_true q347
                                                                      go_wp2
                                                                      repeat (go_quiet (fail); try go_wp2)
                                                                      go_roundg k6
                                                                      case measure => have := HJ8.out; have := HK2.out; have := HJ20.out; have := HK4.out; have := HJ28.out; have := HK6.out; omega
                                                                      case rel => exact ⟨(wrap64 (x13_6 + 1)), (by first | rfl | (simp; done) | (simp [*]; done)), H', ⟨by have := HJ8.out; have := HK2.out; have := HJ20.out; have := HK4.out; have := HJ28.out; have := HK6.out; omega⟩, ⟨by (with_reducible repeat (first | apply Kd.R_alloc | apply Kd.R_drewN | apply Kd.R_drew)); exact HO_5.out⟩, ⟨by repeat (first | (with_reducible first | exact HB.out | apply below_alloc | apply pw_below_drewN | apply below_drew1) | exact HB.out)⟩⟩
                                                            · rw [if_neg c41] at H
                                                              exact absurd H (by simp)
                                                          · rw [if_neg c40] at H
                                                            exact absurd H (by simp)
                                                        · rw [if_neg c39] at H
                                                          have c39b0 : decide ((rd l1 x13_6) < (rd l1 x10_4)) = false := decide_eq_false c39
                                                          clear c39
                                                          by_cases c48 : (rd l1 x13_6) > (rd l1 x10_4)
                                                          · rw [if_pos c48] at H
                                                            have c48b0 : decide ((rd l1 x10_4) < (rd l1 x13_6)) = true := decide_eq_true c48
                                                            clear c48
                                                            by_cases c49 : x13_6 < (t321.length : Int)
                                                            · rw [if_pos c49] at H
                                                              have c49b0 : decide (x13_6 < (t321.length : Int)) = true := decide_eq_true c49
                                                              clear c49
                                                              by_cases c50 : x10_4 < (t321.length : Int)
                                                              · rw [if_pos c50] at H
                                                                have c50b0 : decide (x10_4 < (t321.length : Int)) = true := decide_eq_true c50
                                                                clear c50
                                                                by_cases c51 : (rd t321 x13_6) < (rd t321 x10_4)
                                                                · rw [if_pos c51] at H
                                                                  have c51b0 : decide ((rd t321 x13_6) < (rd t321 x10_4)) = true := decide_eq_true c51
                                                                  clear c51
                                                                  as_aux_lemma =>
                                                                    obtain rfl := Option.some.inj H
                                                                    have p334 : 0 ≤ (x13_6 : Int) := of_decide_eq_true (by first | (with_reducible assumption) | assumption)
                                                                    have q334 : x13_6 < (l1.length : Int) := of_decide_eq_true (by first | (with_reducible assumption) | assumption)
                                                                    obtain ⟨ad334, e334, hx334_0⟩ := Kd.at_int HR1.out x13_6 p334 q334
                                                                    obtain rfl : ad329 = ad334 := (by injection e334)
                                                                    replace hx334_0 := (HB.out.cell (World.block_lt_of_cell? w _ hx334_0)).trans hx334_0
                                                                    replace p334 := eq_true p334
                                                                    replace q334 := eq_true q334
                                                                    have p335 : 0 ≤ (x10_4 : Int) := of_decide_eq_true (by first | (with_reducible assumption) | assumption)
                                                                    have q335 : x10_4 < (l1.length : Int) := of_decide_eq_true (by first | (with_reducible assumption) | assumption)
                                                                    obtain ⟨ad335, e335, hx335_0⟩ := Kd.at_int HR1.out x10_4 p335 q335
                                                                    obtain rfl : ad329 = ad335 := (by injection e335)
                                                                    replace hx335_0 := (HB.out.cell (World.block_lt_of_cell? w _ hx335_0)).trans hx335_0
                                                                    replace p335 := eq_true p335
                                                                    replace q335 := eq_true q335
                                                                    have p350 : 0 ≤ (x13_6 : Int) := of_decide_eq_true (by first | (with_reducible assumption) | assumption)
                                                                    have q350 : x13_6 < (l1.length : Int) := of_decide_eq_true (by first | (with_reducible assumption) | assumption)
                                                                    obtain ⟨ad350, e350, hx350_0⟩ := Kd.at_int HR1.out x13_6 p350 q350
                                                                    obtain rfl : ad329 = ad350 := (by injection e350)
                                                                    replace hx350_0 := (HB.out.cell (World.block_lt_of_cell? w _ hx350_0)).trans hx350_0
                                                                    replace p350 := eq_true p350
                                                                    replace q350 := eq_true q350
                                                                    have p351 : 0 ≤ (x10_4 : Int) := of_decide_eq_true (by first | (with_reducible assumption) | assumption)
                                                                    have q351 : x10_4 < (l1.length : Int) := of_decide_eq_true (by first | (with_reducible assumption) | assumption)
                                                                    obtain ⟨ad351, e351, hx351_0⟩ := Kd.at_int HR1.out x10_4 p351 q351
                                                                    obtain rfl : ad329 = ad351 := (by injection e351)
                                                                    replace hx351_0 := (HB.out.cell (World.block_lt_of_cell? w _ hx351_0)).trans hx351_0
                                                                    replace p351 := eq_true p351
                                                                    replace q351 := eq_true q351
                                                                    have p352 : 0 ≤ (x13_6 : Int) := of_decide_eq_true (by first | (with_reducible assumption) | assumption)
                                                                    have q352 : x13_6 < (t321.length : Int) := of_decide_eq_true (by first | (with_reducible assumption) | assumption)
                                                                    obtain ⟨ad352, e352, hx352_0⟩ := Kd.at_int (Kd.R_reads' HO_5.out).2.2 x13_6 p352 q352
                                                                    cases e352
                                                                    replace p352 := eq_true p352
                                                                    replace q352 := eq_true q352
                                                                    have p353 : 0 ≤ (x10_4 : Int) := of_decide_eq_true (by first | (with_reducible assumption) | assumption)
                                                                    have q353 : x10_4 < (t321.length : Int) := of_decide_eq_true (by first | (with_reducible assumption) | assumption)
                                                                    obtain ⟨ad353, e353, hx353_0⟩ := Kd.at_int (Kd.R_reads' HO_5.out).2.2 x10_4 p353 q353
                                                                    obtain rfl : ad352 = ad353 := (by injection e353)
                                                                    replace p353 := eq_true p353
                                                                    replace q353 := eq_true q353
                                                                    go_wp2
                                                                    repeat (go_quiet (fail); try go_wp2)
                                                                    go_ret
                                                                    exact ⟨by first | rfl | (simp [errW_none, errW_some] <;> rfl) | (simp [*, errW_none, errW_some] <;> rfl), by repeat (first | (with_reducible first | exact HB.out | apply below_alloc | apply pw_below_drewN | apply below_drew1) | exact HB.out)⟩
                                                                · rw [if_neg c51] at H
                                                                  have c51b0 : decide ((rd t321 x13_6) < (rd t321 x10_4)) = false := decide_eq_false c51
                                                                  clear c51
                                                                  by_cases c52 : (rd l1 x13_6) = (rd l1 x10_4)
                                                                  · rw [if_pos c52] at H
                                                                    have c52b0 : ((rd l1 x13_6) == (rd l1 x10_4)) = true := beq_iff_eq.mpr c52
                                                                    have c52b1 : ((rd l1 x13_6) != (rd l1 x10_4)) = false := bne_eq_false_iff_eq.mpr c52
                                                                    clear c52
                                                                    as_aux_lemma =>
                                                                      have H' := Aside0.mk H
                                                                      clear H
                                                                      have p334 : 0 ≤ (x13_6 : Int) := of_decide_eq_true (by first | (with_reducible assumption) | assumption)
                                                                      have q334 : x13_6 < (l1.length : Int) := of_decide_eq_true (by first | (with_reducible assumption) | assumption)
                                                                      obtain ⟨ad334, e334, hx334_0⟩ := Kd.at_int HR1.out x13_6 p334 q334
                                                                      obtain rfl : ad329 = ad334 := (by injection e334)
                                                                      replace hx334_0 := (HB.out.cell (World.block_lt_of_cell? w _ hx334_0)).trans hx334_0
                                                                      replace p334 := eq_true p334
                                                                      replace q334 := eq_true q334
                                                                      have p335 : 0 ≤ (x10_4 : Int) := of_decide_eq_true (by first | (with_reducible assumption) | assumption)
                                                                      have q335 : x10_4 < (l1.length : Int) := of_decide_eq_true (by first | (with_reducible assumption) | assumption)
                                                                      obtain ⟨ad335, e335, hx335_0⟩ := Kd.at_int HR1.out x10_4 p335 q335
                                                                      obtain rfl : ad329 = ad335 := (by injection e335)
                                                                      replace hx335_0 := (HB.out.cell (World.block_lt_of_cell? w _ hx335_0)).trans hx335_0
                                                                      replace p335 := eq_true p335
                                                                      replace q335 := eq_true q335
                                                                      have p350 : 0 ≤ (x13_6 : Int) := of_decide_eq_true (by first | (with_reducible assumption) | assumption)
                                                                      have q350 : x13_6 < (l1.length : Int) := of_decide_eq_true (by first | (with_reducible assumption) | assumption)
                                                                      obtain ⟨ad350, e350, hx350_0⟩ := Kd.at_int HR1.out x13_6 p350 q350
                                                                      obtain rfl : ad329 = ad350 := (by injection e350)
                                                                      replace hx350_0 := (HB.out.cell (World.block_lt_of_cell? w _ hx350_0)).trans hx350_0
                                                                      replace p350 := eq_true p350
                                                                      replace q350 := eq_true q350
                                                                      have p351 : 0 ≤ (x10_4 : Int) := of_decide_eq_true (by first | (with_reducible assumption) | assumption)
                                                                      have q351 : x10_4 < (l1.length : Int) := of_decide_eq_true (by first | (with_reducible assumption) | assumption)
                                                                      obtain ⟨ad351, e351, hx351_0⟩ := Kd.at_int HR1.out x10_4 p351 q351
                                                                      obtain rfl : ad329 = ad351 := (by injection e351)
                                                                      replace hx351_0 := (HB.out.cell (World.block_lt_of_cell? w _ hx351_0)).trans hx351_0
                                                                      replace p351 := eq_true p351
                                                                      replace q351 := eq_true q351
                                                                      have p352 : 0 ≤ (x13_6 : Int) := of_decide_eq_true (by first | (with_reducible assumption) | assumption)
                                                                      have q352 : x13_6 < (t321.length : Int) := of_decide_eq_true (by first | (with_reducible assumption) | assumption)
                                                                      obtain ⟨ad352, e352, hx352_0⟩ := Kd.at_int (Kd.R_reads' HO_5.out).2.2 x13_6 p352 q352
                                                                      cases e352
                                                                      replace p352 := eq_true p352
                                                                      replace q352 := eq_true q352
                                                                      have p353 : 0 ≤ (x10_4 : Int) := of_decide_eq_true (by first | (with_reducible assumption) | assumption)
                                                                      have q353 : x10_4 < (t321.length : Int) := of_decide_eq_true (by first | (with_reducible assumption) | assumption)
                                                                      obtain ⟨ad353, e353, hx353_0⟩ := Kd.at_int (Kd.R_reads' HO_5.out).2.2 x10_4 p353 q353
                                                                      obtain rfl : ad352 = ad353 := (by injection e353)
                                                                      replace p353 := eq_true p353
                                                                      replace q353 := eq_true q353
                                                                      have p354 : 0 ≤ (x13_6 : Int) := of_decide_eq_true (by first | (with_reducible assumption) | assumption)
                                                                      have q354 : x13_6 < (l1.length : Int) := of_decide_eq_true (by first | (with_reducible assumption) | assumption)
                                                                      obtain ⟨ad354, e354, hx354_0⟩ := Kd.at_int HR1.out x13_6 p354 q354
                                                                      obtain rfl : ad329 = ad354 := (by injection e354)
                                                                      replace hx354_0 := (HB.out.cell (World.block_lt_of_cell? w _ hx354_0)).trans hx354_0
                                                                      replace p354 := eq_true p354
                                                                      replace q354 := eq_true q354
                                                                      have p355 : 0 ≤ (x10_4 : Int) := of_decide_eq_true (by first | (with_reducible assumption) | assumption)
                                                                      have q355 : x10_4 < (l1.length : Int) := of_decide_eq_true (by first | (with_reducible assumption) | assumption)
                                                                      obtain ⟨ad355, e355, hx355_0⟩ := Kd.at_int HR1.out x10_4 p355 q355
                                                                      obtain rfl : ad329 = ad355 := (by injection e355)
                                                                      replace hx355_0 := (HB.out.cell (World.block_lt_of_cell? w _ hx355_0)).trans hx355_0
                                                                      replace p355 := eq_true p355
                                                                      replace q355 := eq_true q355
                                                                      have p356 : 0 ≤ (x13_6 : Int) := of_decide_eq_true (by first | (with_reducible assumption) | assumption)
                                                                      have q356 : x13_6 < (t321.length : Int) := of_decide_eq_true (by first | (with_reducible assumption) | assumption)
                                                                      obtain ⟨ad356, e356, hx356_0⟩ := Kd.at_int (Kd.R_reads' HO_5.out).2.2 x13_6 p356 q356
                                                                      obtain rfl : ad352 = ad356 := (by injection e356)
                                                                      replace p356 := eq_true p356
                                                                      replace q356 := eq_true q356
                                                                      have p357 : 0 ≤ (x10_4 : Int) := of_decide_eq_true (by first | (with_reducible assumption) | assumption)
                                                                      have q357 : x10_4 < (t321.length : Int) := of_decide_eq_true (by first | (with_reducible assumption) | assumption)
                                                                      obtain ⟨ad357, e357, hx357_0⟩ := Kd.at_int (Kd.R_reads' HO_5.out).2.2 x10_4 p357 q357
                                                                      obtain rfl : ad352 = ad357 := (by injection e357)
                                                                      replace p357 := eq_true p357
                                                                      replace q357 := eq_true q357
                                                                      go_wp2
                                                                      repeat (go_quiet (fail); try go_wp2)
                                                                      go_roundg k6
                                                                      case measure => have := HJ8.out; have := HK2.out; have := HJ20.out; have := HK4.out; have := HJ28.out; have := HK6.out; omega
                                                                      case rel => exact ⟨(wrap64 (x13_6 + 1)), (by first | rfl | (simp; done) | (simp [*]; done)), H', ⟨by have := HJ8.out; have := HK2.out; have := HJ20.out; have := HK4.out; have := HJ28.out; have := HK6.out; omega⟩, ⟨by (with_reducible repeat (first | apply Kd.R_alloc | apply Kd.R_drewN | apply Kd.R_drew)); exact HO_5.out⟩, ⟨by repeat (first | (with_reducible first | exact HB.out | apply below_alloc | apply pw_below_drewN | apply below_drew1) | exact HB.out)⟩⟩
                                                                  · rw [if_neg c52] at H
                                                                    have c52b0 : ((rd l1 x13_6) == (rd l1 x10_4)) = false := beq_eq_false_iff_ne.mpr c52
                                                                    have c52b1 : ((rd l1 x13_6) != (rd l1 x10_4)) = true := bne_iff_ne.mpr c52
                                                                    as_aux_lemma =>
                                                                      have H' := Aside0.mk H
                                                                      clear H
                                                                      have p334 : 0 ≤ (x13_6 : Int) := of_decide_eq_true (by first | (with_reducible assumption) | assumption)
                                                                      have q334 : x13_6 < (l1.length : Int) := of_decide_eq_true (by first | (with_reducible assumption) | assumption)
                                                                      obtain ⟨ad334, e334, hx334_0⟩ := Kd.at_int HR1.out x13_6 p334 q334
                                                                      obtain rfl : ad329 = ad334 := (by injection e334)
                                                                      replace hx334_0 := (HB.out.cell (World.block_lt_of_cell? w _ hx334_0)).trans hx334_0
                                                                      replace p334 := eq_true p334
                                                                      replace q334 := eq_true q334
                                                                      have p335 : 0 ≤ (x10_4 : Int) := of_decide_eq_true (by first | (with_reducible assumption) | assumption)
                                                                      have q335 : x10_4 < (l1.length : Int) := of_decide_eq_true (by first | (with_reducible assumption) | assumption)
                                                                      obtain ⟨ad335, e335, hx335_0⟩ := Kd.at_int HR1.out x10_4 p335 q335
                                                                      obtain rfl : ad329 = ad335 := (by injection e335)
                                                                      replace hx335_0 := (HB.out.cell (World.block_lt_of_cell? w _ hx335_0)).trans hx335_0
                                                                      replace p335 := eq_true p335
                                                                      replace q335 := eq_true q335
                                                                      have p350 : 0 ≤ (x13_6 : Int) := of_decide_eq_true (by first | (with_reducible assumption) | assumption)
                                                                      have q350 : x13_6 < (l1.length : Int) := of_decide_eq_true (by first | (with_reducible assumption) | assumption)
                                                                      obtain ⟨ad350, e350, hx350_0⟩ := Kd.at_int HR1.out x13_6 p350 q350
                                                                      obtain rfl : ad329 = ad350 := (by injection e350)
                                                                      replace hx350_0 := (HB.out.cell (World.block_lt_of_cell? w _ hx350_0)).trans hx350_0
                                                                      replace p350 := eq_true p350
                                                                      replace q350 := eq_true q350
                                                                      have p351 : 0 ≤ (x10_4 : Int) := of_decide_eq_true (by first | (with_reducible assumption) | assumption)
                                                                      have q351 : x10_4 < (l1.length : Int) := of_decide_eq_true (by first | (with_reducible assumption) | assumption)
                                                                      obtain ⟨ad351, e351, hx351_0⟩ := Kd.at_int HR1.out x10_4 p351 q351
                                                                      obtain rfl : ad329 = ad351 := (by injection e351)
                                                                      replace hx351_0 := (HB.out.cell (World.block_lt_of_cell? w _ hx351_0)).trans hx351_0
                                                                      replace p351 := eq_true p351
                                                                      replace q351 := eq_true q351
                                                                      have p352 : 0 ≤ (x13_6 : Int) := of_decide_eq_true (by first | (with_reducible assumption) | assumption)
                                                                      have q352 : x13_6 < (t321.length : Int) := of_decide_eq_true (by first | (with_reducible assumption) | assumption)
                                                                      obtain ⟨ad352, e352, hx352_0⟩ := Kd.at_int (Kd.R_reads' HO_5.out).2.2 x13_6 p352 q352
                                                                      cases e352
                                                                      replace p352 := eq_true p352
                                                                      replace q352 := eq_true q352
                                                                      have p353 : 0 ≤ (x10_4 : Int) := of_decide_eq_true (by first | (with_reducible assumption) | assumption)
                                                                      have q353 : x10_4 < (t321.length : Int) := of_decide_eq_true (by first | (with_reducible assumption) | assumption)
                                                                      obtain ⟨ad353, e353, hx353_0⟩ := Kd.at_int (Kd.R_reads' HO_5.out).2.2 x10_4 p353 q353
                                                                      obtain rfl : ad352 = ad353 := (by injection e353)
                                                                      replace p353 := eq_true p353
                                                                      replace q353 := eq_true q353
                                                                      have p354 : 0 ≤ (x13_6 : Int) := of_decide_eq_true (by first | (with_reducible assumption) | assumption)
                                                                      have q354 : x13_6 < (l1.length : Int) := of_decide_eq_true (by first | (with_reducible assumption) | assumption)
                                                                      obtain ⟨ad354, e354, hx354_0⟩ := Kd.at_int HR1.out x13_6 p354 q354
                                                                      obtain rfl : ad329 = ad354 := (by injection e354)
                                                                      replace hx354_0 := (HB.out.cell (World.block_lt_of_cell? w _ hx354_0)).trans hx354_0
                                                                      replace p354 := eq_true p354
                                                                      replace q354 := eq_true q354
                                                                      have p355 : 0 ≤ (x10_4 : Int) := of_decide_eq_true (by first | (with_reducible assumption) | assumption)
                                                                      have q355 : x10_4 < (l1.length : Int) := of_decide_eq_true (by first | (with_reducible assumption) | assumption)
                                                                      obtain ⟨ad355, e355, hx355_0⟩ := Kd.at_int HR1.out x10_4 p355 q355
                                                                      obtain rfl : ad329 = ad355 := (by injection e355)
                                                                      replace hx355_0 := (HB.out.cell (World.block_lt_of_cell? w _ hx355_0)).trans hx355_0
                                                                      replace p355 := eq_true p355
                                                                      replace q355 := eq_true q355
                                                                      go_wp2
                                                                      repeat (go_quiet (fail); try go_wp2)
                                                                      go_roundg k6
                                                                      case measure => have := HJ8.out; have := HK2.out; have := HJ20.out; have := HK4.out; have := HJ28.out; have := HK6.out; omega
                                                                      case rel => exact ⟨(wrap64 (x13_6 + 1)), (by first | rfl | (simp; done) | (simp [*]; done)), H', ⟨by have := HJ8.out; have := HK2.out; have := HJ20.out; have := HK4.out; have := HJ28.out; have := HK6.out; omega⟩, ⟨by (with_reducible repeat (first | apply Kd.R_alloc | apply Kd.R_drewN | apply Kd.R_drew)); exact HO_5.out⟩, ⟨by repeat (first | (with_reducible first | exact HB.out | apply below_alloc | apply pw_below_drewN | apply below_drew1) | exact HB.out)⟩⟩
                                                              · rw [if_neg c50] at H
                                                                exact absurd H (by simp)
                                                            · rw [if_neg c49] at H
                                                              exact absurd H (by simp)
                                                          · rw [if_neg c48] at H
                                                            have c48b0 : decide ((rd l1 x10_4) < (rd l1 x13_6)) = false := decide_eq_false c48
                                                            clear c48
                                                            by_cases c53 : (rd l1 x13_6) = (rd l1 x10_4)
                                                            · rw [if_pos c53] at H
                                                              have c53b0 : ((rd l1 x13_6) == (rd l1 x10_4)) = true := beq_iff_eq.mpr c53
                                                              have c53b1 : ((rd l1 x13_6) != (rd l1 x10_4)) = false := bne_eq_false_iff_eq.mpr c53
                                                              clear c53
                                                              by_cases c54 : x13_6 < (t321.length : Int)
                                                              · rw [if_pos c54] at H
                                                                have c54b0 : decide (x13_6 < (t321.length : Int)) = true := decide_eq_true c54
                                                                clear c54
                                                                by_cases c55 : x10_4 < (t321.length : Int)
                                                                · rw [if_pos c55] at H
                                                                  have c55b0 : decide (x10_4 < (t321.length : Int)) = true := decide_eq_true c55
                                                                  clear c55
                                                                  by_cases c56 : (rd t321 x13_6) < (rd t321 x10_4)
                                                                  · rw [if_pos c56] at H
                                                                    have c56b0 : decide ((rd t321 x13_6) < (rd t321 x10_4)) = true := decide_eq_true c56
                                                                    clear c56
                                                                    as_aux_lemma =>
                                                                      obtain rfl := Option.some.inj H
                                                                      have p334 : 0 ≤ (x13_6 : Int) := of_decide_eq_true (by first | (with_reducible assumption) | assumption)
                                                                      have q334 : x13_6 < (l1.length : Int) := of_decide_eq_true (by first | (with_reducible assumption) | assumption)
                                                                      obtain ⟨ad334, e334, hx334_0⟩ := Kd.at_int HR1.out x13_6 p334 q334
                                                                      obtain rfl : ad329 = ad334 := (by injection e334)
                                                                      replace hx334_0 := (HB.out.cell (World.block_lt_of_cell? w _ hx334_0)).trans hx334_0
                                                                      replace p334 := eq_true p334
                                                                      replace q334 := eq_true q334
                                                                      have p335 : 0 ≤ (x10_4 : Int) := of_decide_eq_true (by first | (with_reducible assumption) | assumption)
                                                                      have q335 : x10_4 < (l1.length : Int) := of_decide_eq_true (by first | (with_reducible assumption) | assumption)
                                                                      obtain ⟨ad335, e335, hx335_0⟩ := Kd.at_int HR1.out x10_4 p335 q335
                                                                      obtain rfl : ad329 = ad335 := (by injection e335)
                                                                      replace hx335_0 := (HB.out.cell (World.block_lt_of_cell? w _ hx335_0)).trans hx335_0
                                                                      replace p335 := eq_true p335
                                                                      replace q335 := eq_true q335
                                                                      have p350 : 0 ≤ (x13_6 : Int) := of_decide_eq_true (by first | (with_reducible assumption) | assumption)
                                                                      have q350 : x13_6 < (l1.length : Int) := of_decide_eq_true (by first | (with_reducible assumption) | assumption)
                                                                      obtain ⟨ad350, e350, hx350_0⟩ := Kd.at_int HR1.out x13_6 p350 q350
                                                                      obtain rfl : ad329 = ad350 := (by injection e350)
                                                                      replace hx350_0 := (HB.out.cell (World.block_lt_of_cell? w _ hx350_0)).trans hx350_0
                                                                      replace p350 := eq_true p350
                                                                      replace q350 := eq_true q350
                                                                      have p351 : 0 ≤ (x10_4 : Int) := of_decide_eq_true (by first | (with_reducible assumption) | assumption)
                                                                      have q351 : x10_4 < (l1.length : Int) := of_decide_eq_true (by first | (with_reducible assumption) | assumption)
                                                                      obtain ⟨ad351, e351, hx351_0⟩ := Kd.at_int HR1.out x10_4 p351 q351
                                                                      obtain rfl : ad329 = ad351 := (by injection e351)
                                                                      replace hx351_0 := (HB.out.cell (World.block_lt_of_cell? w _ hx351_0)).trans hx351_0
                                                                      replace p351 := eq_true p351
                                                                      replace q351 := eq_true q351
                                                                      have p358 : 0 ≤ (x13_6 : Int) := of_decide_eq_true (by first | (with_reducible assumption) | assumption)
                                                                      have q358 : x13_6 < (l1.length : Int) := of_decide_eq_true (by first | (with_reducible assumption) | assumption)
                                                                      obtain ⟨ad358, e358, hx358_0⟩ := Kd.at_int HR1.out x13_6 p358 q358
                                                                      obtain rfl : ad329 = ad358 := (by injection e358)
                                                                      replace hx358_0 := (HB.out.cell (World.block_lt_of_cell? w _ hx358_0)).trans hx358_0
                                                                      replace p358 := eq_true p358
                                                                      replace q358 := eq_true q358
                                                                      have p359 : 0 ≤ (x10_4 : Int) := of_decide_eq_true (by first | (with_reducible assumption) | assumption)
                                                                      have q359 : x10_4 < (l1.length : Int) := of_decide_eq_true (by first | (with_reducible assumption) | assumption)
                                                                      obtain ⟨ad359, e359, hx359_0⟩ := Kd.at_int HR1.out x10_4 p359 q359
                                                                      obtain rfl : ad329 = ad359 := (by injection e359)
                                                                      replace hx359_0 := (HB.out.cell (World.block_lt_of_cell? w _ hx359_0)).trans hx359_0
                                                                      replace p359 := eq_true p359
                                                                      replace q359 := eq_true q359
                                                                      have p360 : 0 ≤ (x13_6 : Int) := of_decide_eq_true (by first | (with_reducible assumption) | assumption)
                                                                      have q360 : x13_6 < (t321.length : Int) := of_decide_eq_true (by first | (with_reducible assumption) | assumption)
                                                                      obtain ⟨ad360, e360, hx360_0⟩ := Kd.at_int (Kd.R_reads' HO_5.out).2.2 x13_6 p360 q360
                                                                      cases e360
                                                                      replace p360 := eq_true p360
                                                                      replace q360 := eq_true q360
                                                                      have p361 : 0 ≤ (x10_4 : Int) := of_decide_eq_true (by first | (with_reducible assumption) | assumption)
                                                                      have q361 : x10_4 < (t321.length : Int) := of_decide_eq_true (by first | (with_reducible assumption) | assumption)
                                                                      obtain ⟨ad361, e361, hx361_0⟩ := Kd.at_int (Kd.R_reads' HO_5.out).2.2 x10_4 p361 q361
                                                                      obtain rfl : ad360 = ad361 := (by injection e361)
                                                                      replace p361 := eq_true p361
                                                                      replace q361 := eq_true q361
                                                                      go_wp2
                                                                      repeat (go_quiet (fail); try go_wp2)
                                                                      go_ret
                                                                      exact ⟨by first | rfl | (simp [errW_none, errW_some] <;> rfl) | (simp [*, errW_none, errW_some] <;> rfl), by repeat (first | (with_reducible first | exact HB.out | apply below_alloc | apply pw_below_drewN | apply below_drew1) | exact HB.out)⟩
                                                                  · rw [if_neg c56] at H
                                                                    have c56b0 : decide ((rd t321 x13_6) < (rd t321 x10_4)) = false := decide_eq_false c56
                                                                    clear c56
                                                                    as_aux_lemma =>
                                                                      have H' := Aside0.mk H
                                                                      clear H
                                                                      have p334 : 0 ≤ (x13_6 : Int) := of_decide_eq_true (by first | (with_reducible assumption) | assumption)
                                                                      have q334 : x13_6 < (l1.length : Int) := of_decide_eq_true (by first | (with_reducible assumption) | assumption)
                                                                      obtain ⟨ad334, e334, hx334_0⟩ := Kd.at_int HR1.out x13_6 p334 q334
                                                                      obtain rfl : ad329 = ad334 := (by injection e334)
                                                                      replace hx334_0 := (HB.out.cell (World.block_lt_of_cell? w _ hx334_0)).trans hx334_0
                                                                      replace p334 := eq_true p334
                                                                      replace q334 := eq_true q334
                                                                      have p335 : 0 ≤ (x10_4 : Int) := of_decide_eq_true (by first | (with_reducible assumption) | assumption)
                                                                      have q335 : x10_4 < (l1.length : Int) := of_decide_eq_true (by first | (with_reducible assumption) | assumption)
                                                                      obtain ⟨ad335, e335, hx335_0⟩ := Kd.at_int HR1.out x10_4 p335 q335
                                                                      obtain rfl : ad329 = ad335 := (by injection e335)
                                                                      replace hx335_0 := (HB.out.cell (World.block_lt_of_cell? w _ hx335_0)).trans hx335_0
                                                                      replace p335 := eq_true p335
                                                                      replace q335 := eq_true q335
                                                                      have p350 : 0 ≤ (x13_6 : Int) := of_decide_eq_true (by first | (with_reducible assumption) | assumption)
                                                                      have q350 : x13_6 < (l1.length : Int) := of_decide_eq_true (by first | (with_reducible assumption) | assumption)
                                                                      obtain ⟨ad350, e350, hx350_0⟩ := Kd.at_int HR1.out x13_6 p350 q350
                                                                      obtain rfl : ad329 = ad350 := (by injection e350)
                                                                      replace hx350_0 := (HB.out.cell (World.block_lt_of_cell? w _ hx350_0)).trans hx350_0
                                                                      replace p350 := eq_true p350
                                                                      replace q350 := eq_true q350
                                                                      have p351 : 0 ≤ (x10_4 : Int) := of_decide_eq_true (by first | (with_reducible assumption) | assumption)
                                                                      have q351 : x10_4 < (l1.length : Int) := of_decide_eq_true (by first | (with_reducible assumption) | assumption)
                                                                      obtain ⟨ad351, e351, hx351_0⟩ := Kd.at_int HR1.out x10_4 p351 q351
                                                                      obtain rfl : ad329 = ad351 := (by injection e351)
                                                                      replace hx351_0 := (HB.out.cell (World.block_lt_of_cell? w _ hx351_0)).trans hx351_0
                                                                      replace p351 := eq_true p351
                                                                      replace q351 := eq_true q351
                                                                      have p358 : 0 ≤ (x13_6 : Int) := of_decide_eq_true (by first | (with_reducible assumption) | assumption)
                                                                      have q358 : x13_6 < (l1.length : Int) := of_decide_eq_true (by first | (with_reducible assumption) | assumption)
                                                                      obtain ⟨ad358, e358, hx358_0⟩ := Kd.at_int HR1.out x13_6 p358 q358
                                                                      obtain rfl : ad329 = ad358 := (by injection e358)
                                                                      replace hx358_0 := (HB.out.cell (World.block_lt_of_cell? w _ hx358_0)).trans hx358_0
                                                                      replace p358 := eq_true p358
                                                                      replace q358 := eq_true q358
                                                                      have p359 : 0 ≤ (x10_4 : Int) := of_decide_eq_true (by first | (with_reducible assumption) | assumption)
                                                                      have q359 : x10_4 < (l1.length : Int) := of_decide_eq_true (by first | (with_reducible assumption) | assumption)
                                                                      obtain ⟨ad359, e359, hx359_0⟩ := Kd.at_int HR1.out x10_4 p359 q359
                                                                      obtain rfl : ad329 = ad359 := (by injection e359)
                                                                      replace hx359_0 := (HB.out.cell (World.block_lt_of_cell? w _ hx359_0)).trans hx359_0
                                                                      replace p359 := eq_true p359
                                                                      replace q359 := eq_true q359
                                                                      have p360 : 0 ≤ (x13_6 : Int) := of_decide_eq_true (by first | (with_reducible assumption) | assumption)
                                                                      have q360 : x13_6 < (t321.length : Int) := of_decide_eq_true (by first | (with_reducible assumption) | assumption)
                                                                      obtain ⟨ad360, e360, hx360_0⟩ := Kd.at_int (Kd.R_reads' HO_5.out).2.2 x13_6 p360 q360
                                                                      cases e360
                                                                      replace p360 := eq_true p360
                                                                      replace q360 := eq_true q360
                                                                      have p361 : 0 ≤ (x10_4 : Int) := of_decide_eq_true (by first | (with_reducible assumption) | assumption)
                                                                      have q361 : x10_4 < (t321.length : Int) := of_decide_eq_true (by first | (with_reducible assumption) | assumption)
                                                                      obtain ⟨ad361, e361, hx361_0⟩ := Kd.at_int (Kd.R_reads' HO_5.out).2.2 x10_4 p361 q361
                                                                      obtain rfl : ad360 = ad361 := (by injection e361)
                                                                      replace p361 := eq_true p361
                                                                      replace q361 := eq_true q361
                                                                      go_wp2
                                                                      repeat (go_quiet (fail); try go_wp2)
                                                                      go_roundg k6
                                                                      case measure => have := HJ8.out; have := HK2.out; have := HJ20.out; have := HK4.out; have := HJ28.out; have := HK6.out; omega
                                                                      case rel => exact ⟨(wrap64 (x13_6 + 1)), (by first | rfl | (simp; done) | (simp [*]; done)), H', ⟨by have := HJ8.out; have := HK2.out; have := HJ20.out; have := HK4.out; have := HJ28.out; have := HK6.out; omega⟩, ⟨by (with_reducible repeat (first | apply Kd.R_alloc | apply Kd.R_drewN | apply Kd.R_drew)); exact HO_5.out⟩, ⟨by repeat (first | (with_reducible first | exact HB.out | apply below_alloc | apply pw_below_drewN | apply below_drew1) | exact HB.out)⟩⟩
                                                                · rw [if_neg c55] at H
                                                                  exact absurd H (by simp)
                                                              · rw [if_neg c54] at H
                                                                exact absurd H (by simp)
                                                            · rw [if_neg c53] at H
                                                              have c53b0 : ((rd l1 x13_6) == (rd l1 x10_4)) = false := beq_eq_false_iff_ne.mpr c53
                                                              have c53b1 : ((rd l1 x13_6) != (rd l1 x10_4)) = true := bne_iff_ne.mpr c53
                                                              as_aux_lemma =>
                                                                have H' := Aside0.mk H
                                                                clear H
                                                                have p334 : 0 ≤ (x13_6 : Int) := of_decide_eq_true (by first | (with_reducible assumption) | assumption)
                                                                have q334 : x13_6 < (l1.length : Int) := of_decide_eq_true (by first | (with_reducible assumption) | assumption)
                                                                obtain ⟨ad334, e334, hx334_0⟩ := Kd.at_int HR1.out x13_6 p334 q334
                                                                obtain rfl : ad329 = ad334 := (by injection e334)
                                                                replace hx334_0 := (HB.out.cell (World.block_lt_of_cell? w _ hx334_0)).trans hx334_0
                                                                replace p334 := eq_true p334
                                                                replace q334 := eq_true q334
                                                                have p335 : 0 ≤ (x10_4 : Int) := of_decide_eq_true (by first | (with_reducible assumption) | assumption)
                                                                have q335 : x10_4 < (l1.length : Int) := of_decide_eq_true (by first | (with_reducible assumption) | assumption)
                                                                obtain ⟨ad335, e335, hx335_0⟩ := Kd.at_int HR1.out x10_4 p335 q335
                                                                obtain rfl : ad329 = ad335 := (by injection e335)
                                                                replace hx335_0 := (HB.out.cell (World.block_lt_of_cell? w _ hx335_0)).trans hx335_0
                                                                replace p335 := eq_true p335
                                                                replace q335 := eq_true q335
                                                                have p350 : 0 ≤ (x13_6 : Int) := of_decide_eq_true (by first | (with_reducible assumption) | assumption)
                                                                have q350 : x13_6 < (l1.length : Int) := of_decide_eq_true (by first | (with_reducible assumption) | assumption)
                                                                obtain ⟨ad350, e350, hx350_0⟩ := Kd.at_int HR1.out x13_6 p350 q350
                                                                obtain rfl : ad329 = ad350 := (by injection e350)
                                                                replace hx350_0 := (HB.out.cell (World.block_lt_of_cell? w _ hx350_0)).trans hx350_0
                                                                replace p350 := eq_true p350
                                                                replace q350 := eq_true q350
                                                                have p351 : 0 ≤ (x10_4 : Int) := of_decide_eq_true (by first | (with_reducible assumption) | assumption)
                                                                have q351 : x10_4 < (l1.length : Int) := of_decide_eq_true (by first | (with_reducible assumption) | assumption)
                                                                obtain ⟨ad351, e351, hx351_0⟩ := Kd.at_int HR1.out x10_4 p351 q351
                                                                obtain rfl : ad329 = ad351 := (by injection e351)
                                                                replace hx351_0 := (HB.out.cell (World.block_lt_of_cell? w _ hx351_0)).trans hx351_0
                                                                replace p351 := eq_true p351
                                                                replace q351 := eq_true q351
                                                                have p358 : 0 ≤ (x13_6 : Int) := of_decide_eq_true (by first | (with_reducible assumption) | assumption)
                                                                have q358 : x13_6 < (l1.length : Int) := of_decide_eq_true (by first | (with_reducible assumption) | assumption)
                                                                obtain ⟨ad358, e358, hx358_0⟩ := Kd.at_int HR1.out x13_6 p358 q358
                                                                obtain rfl : ad329 = ad358 := (by injection e358)
                                                                replace hx358_0 := (HB.out.cell (World.block_lt_of_cell? w _ hx358_0)).trans hx358_0
                                                                replace p358 := eq_true p358
                                                                replace q358 := eq_true q358
                                                                have p359 : 0 ≤ (x10_4 : Int) := of_decide_eq_true (by first | (with_reducible assumption) | assumption)
                                                                have q359 : x10_4 < (l1.length : Int) := of_decide_eq_true (by first | (with_reducible assumption) | assumption)
                                                                obtain ⟨ad359, e359, hx359_0⟩ := Kd.at_int HR1.out x10_4 p359 q359
                                                                obtain rfl : ad329 = ad359 := (by injection e359)
                                                                replace hx359_0 := (HB.out.cell (World.block_lt_of_cell? w _ hx359_0)).trans hx359_0
                                                                replace p359 := eq_true p359
                                                                replace q359 := eq_true q359
                                                                go_wp2
                                                                repeat (go_quiet (fail); try go_wp2)
                                                                go_roundg k6
                                                                case measure => have := HJ8.out; have := HK2.out; have := HJ20.out; have := HK4.out; have := HJ28.out; have := HK6.out; omega
                                                                case rel => exact ⟨(wrap64 (x13_6 + 1)), (by first | rfl | (simp; done) | (simp [*]; done)), H', ⟨by have := HJ8.out; have := HK2.out; have := HJ20.out; have := HK4.out; have := HJ28.out; have := HK6.out; omega⟩, ⟨by (with_reducible repeat (first | apply Kd.R_alloc | apply Kd.R_drewN | apply Kd.R_drew)); exact HO_5.out⟩, ⟨by repeat (first | (with_reducible first | exact HB.out | apply below_alloc | apply pw_below_drewN | apply below_drew1) | exact HB.out)⟩⟩
                                                      · rw [if_neg c38] at H
                                                        exact absurd H (by simp)
                                                    · rw [if_neg c37] at H
                                                      exact absurd H (by simp)
                                                  · rw [if_neg c36] at H
                                                    exact absurd H (by simp)
                                                · rw [if_neg c35] at H
                                                  exact absurd H (by simp)
                                              · rw [if_neg c34] at H
                                                have c34b0 : decide (x13_6 < x10_4) = false := decide_eq_false c34
                                                clear c34
                                                by_cases c57 : 0 ≤ x10_4
                                                · rw [if_pos c57] at H
                                                  have c57b0 : decide (0 ≤ x10_4) = true := decide_eq_true c57
                                                  clear c57
                                                  by_cases c58 : x10_4 < (t321.length : Int)
                                                  · rw [if_pos c58] at H
                                                    have c58b0 : decide (x10_4 < (t321.length : Int)) = true := decide_eq_true c58
                                                    clear c58
                                                    as_aux_lemma =>
                                                      have H' := Aside0.mk H
                                                      clear H
                                                      have p362 : 0 ≤ (x10_4 : Int) := of_decide_eq_true (by first | (with_reducible assumption) | assumption)
                                                      have q362 : x10_4 < (t321.length : Int) := of_decide_eq_true (by first | (with_reducible assumption) | assumption)
                                                      obtain ⟨ad362, e362, hx362_0⟩ := Kd.at_int (Kd.R_reads' HO_5.out).2.2 x10_4 p362 q362
                                                      cases e362
                                                      replace p362 := eq_true p362
                                                      replace q362 := eq_true q362
                                                      go_wp2
                                                      repeat (go_quiet (fail); try go_wp2)
                                                      go_roundg k6
                                                      case measure => have := HJ8.out; have := HK2.out; have := HJ20.out; have := HK4.out; have := HJ28.out; have := HK6.out; omega
                                                      case rel => exact ⟨(wrap64 (x7_4 + (rd t321 x10_4))), (wrap64 (x10_4 + 1)), (by first | rfl | (simp; done) | (simp [*]; done)), (by first | rfl | (simp; done) | (simp [*]; done)), H', ⟨by have := HJ8.out; have := HK2.out; have := HJ20.out; have := HK4.out; have := HJ28.out; have := HK6.out; omega⟩, ⟨by (with_reducible repeat (first | apply Kd.R_alloc | apply Kd.R_drewN | apply Kd.R_drew)); exact HO_5.out⟩, ⟨by repeat (first | (with_reducible first | exact HB.out | apply below_alloc | apply pw_below_drewN | apply below_drew1) | exact HB.out)⟩⟩
                                                  · rw [if_neg c58] at H
                                                    exact absurd H (by simp)
                                                · rw [if_neg c57] at H
                                                  exact absurd H (by simp)
                                  · rw [if_neg c27] at H
                                    exact absurd H (by simp)
                                · rw [if_neg c26] at H
                                  exact absurd H (by simp)
                              · rw [if_neg c25] at H
                                have c25b0 : decide (x10_4 < (t321.length : Int)) = false := decide_eq_false c25
                                clear c25
                                as_aux_lemma =>
                                  obtain rfl := Option.some.inj H
                                  obtain ⟨Ao59, co59, eo59⟩ := Kd.R_slice HO_5.out
                                  subst eo59
                                  go_wp2
                                  repeat (go_quiet (fail); try go_wp2)
                                  go_ret
                                  exact ⟨by first | rfl | (simp [errW_none, errW_some] <;> rfl) | (simp [*, errW_none, errW_some] <;> rfl), by repeat (first | (with_reducible first | exact HB.out | apply below_alloc | apply pw_below_drewN | apply below_drew1) | exact HB.out)⟩
      · rw [if_neg c8] at H
        have c8b0 : (t322 == 0) = false := beq_eq_false_iff_ne.mpr c8
        have c8b1 : (t322 != 0) = true := bne_iff_ne.mpr c8
        as_aux_lemma =>
          obtain rfl := Option.some.inj H
          go_enter Try.func7, Try.ntmps7
          go_wp2_with (first | (go_at_call 10; (with_reducible refine (skiarealaw34_alive.calls k  true _ A3.out).mono ?_); rintro e w60 ⟨rfl, hb⟩; have n0_ := Aside0.mk (below_step (by repeat (first | (with_reducible first | exact HB.out | apply below_alloc | apply pw_below_drewN | apply below_drew1) | exact HB.out)) hb); clear HB; have HB := n0_; clear n0_; (try clear hb); (try clear hb2); (try clear hk); (try clear hi)) | (go_at_call 11; (with_reducible refine (split_Split.calls k a0 _ _ l1 t321 t322 _ ?side1 ?side2 A7.out).mono ?_); (case side1 => repeat (first | exact (Kd.C_below HR1.out HB.out) | (with_reducible refine Kd.C_alloc ?_ _) | (with_reducible refine Kd.C_drewN ?_ _) | (with_reducible refine Kd.C_drew ?_))); (case side2 => exact HC1.out); rintro e w61 ⟨v323, rfl, ho0, hb⟩; have n0_ := Aside0.mk (Kd.R_lower ho0 (below_size (by repeat (first | (with_reducible first | exact HB.out | apply below_alloc | apply pw_below_drewN | apply below_drew1) | exact HB.out)))); have n1_ := Aside0.mk (below_step (by repeat (first | (with_reducible first | exact HB.out | apply below_alloc | apply pw_below_drewN | apply below_drew1) | exact HB.out)) hb); clear HB; have HO324 := n0_; have HB := n1_; clear n0_ n1_; (try clear hb); (try clear hb2); (try clear hk); (try clear hi); (try clear ho0); obtain ⟨Ao62, co62, eo62⟩ := Kd.R_slice HO324.out; subst eo62))
          repeat (go_quiet (first | (go_at_call 10; (with_reducible refine (skiarealaw34_alive.calls k  true _ A3.out).mono ?_); rintro e w60 ⟨rfl, hb⟩; have n0_ := Aside0.mk (below_step (by repeat (first | (with_reducible first | exact HB.out | apply below_alloc | apply pw_below_drewN | apply below_drew1) | exact HB.out)) hb); clear HB; have HB := n0_; clear n0_; (try clear hb); (try clear hb2); (try clear hk); (try clear hi)) | (go_at_call 11; (with_reducible refine (split_Split.calls k a0 _ _ l1 t321 t322 _ ?side1 ?side2 A7.out).mono ?_); (case side1 => repeat (first | exact (Kd.C_below HR1.out HB.out) | (with_reducible refine Kd.C_alloc ?_ _) | (with_reducible refine Kd.C_drewN ?_ _) | (with_reducible refine Kd.C_drew ?_))); (case side2 => exact HC1.out); rintro e w61 ⟨v323, rfl, ho0, hb⟩; have n0_ := Aside0.mk (Kd.R_lower ho0 (below_size (by repeat (first | (with_reducible first | exact HB.out | apply below_alloc | apply pw_below_drewN | apply below_drew1) | exact HB.out)))); have n1_ := Aside0.mk (below_step (by repeat (first | (with_reducible first | exact HB.out | apply below_alloc | apply pw_below_drewN | apply below_drew1) | exact HB.out)) hb); clear HB; have HO324 := n0_; have HB := n1_; clear n0_ n1_; (try clear hb); (try clear hb2); (try clear hk); (try clear hi); (try clear ho0); obtain ⟨Ao62, co62, eo62⟩ := Kd.R_slice HO324.out; subst eo62)); try go_wp2_with (first | (go_at_call 10; (with_reducible refine (skiarealaw34_alive.calls k  true _ A3.out).mono ?_); rintro e w60 ⟨rfl, hb⟩; have n0_ := Aside0.mk (below_step (by repeat (first | (with_reducible first | exact HB.out | apply below_alloc | apply pw_below_drewN | apply below_drew1) | exact HB.out)) hb); clear HB; have HB := n0_; clear n0_; (try clear hb); (try clear hb2); (try clear hk); (try clear hi)) | (go_at_call 11; (with_reducible refine (split_Split.calls k a0 _ _ l1 t321 t322 _ ?side1 ?side2 A7.out).mono ?_); (case side1 => repeat (first | exact (Kd.C_below HR1.out HB.out) | (with_reducible refine Kd.C_alloc ?_ _) | (with_reducible refine Kd.C_drewN ?_ _) | (with_reducible refine Kd.C_drew ?_))); (case side2 => exact HC1.out); rintro e w61 ⟨v323, rfl, ho0, hb⟩; have n0_ := Aside0.mk (Kd.R_lower ho0 (below_size (by repeat (first | (with_reducible first | exact HB.out | apply below_alloc | apply pw_below_drewN | apply below_drew1) | exact HB.out)))); have n1_ := Aside0.mk (below_step (by repeat (first | (with_reducible first | exact HB.out | apply below_alloc | apply pw_below_drewN | apply below_drew1) | exact HB.out)) hb); clear HB; have HO324 := n0_; have HB := n1_; clear n0_ n1_; (try clear hb); (try clear hb2); (try clear hk); (try clear hi); (try clear ho0); obtain ⟨Ao62, co62, eo62⟩ := Kd.R_slice HO324.out; subst eo62)))
          go_ret
          exact ⟨by first | rfl | (simp [errW_none, errW_some] <;> rfl) | (simp [*, errW_none, errW_some] <;> rfl), by repeat (first | (with_reducible first | exact HB.out | apply below_alloc | apply pw_below_drewN | apply below_drew1) | exact HB.out)⟩
  · replace c4 := Bool.eq_false_iff.mpr c4
    subst c4
    have H1 : (some false) = some r := by rw [if_neg (show ¬ (false = true) by decide)] at H; exact H
    clear H
    have H := H1
    clear H1
    as_aux_lemma =>
      obtain rfl := Option.some.inj H
      go_enter Try.func7, Try.ntmps7
      go_wp2_with (first | (go_at_call 10; (with_reducible refine (skiarealaw34_alive.calls k  false _ A3.out).mono ?_); rintro e w63 ⟨rfl, hb⟩; have n0_ := Aside0.mk (below_step (by repeat (first | (with_reducible first | exact HB.out | apply below_alloc | apply pw_below_drewN | apply below_drew1) | exact HB.out)) hb); clear HB; have HB := n0_; clear n0_; (try clear hb); (try clear hb2); (try clear hk); (try clear hi)))
      repeat (go_quiet (first | (go_at_call 10; (with_reducible refine (skiarealaw34_alive.calls k  false _ A3.out).mono ?_); rintro e w63 ⟨rfl, hb⟩; have n0_ := Aside0.mk (below_step (by repeat (first | (with_reducible first | exact HB.out | apply below_alloc | apply pw_below_drewN | apply below_drew1) | exact HB.out)) hb); clear HB; have HB := n0_; clear n0_; (try clear hb); (try clear hb2); (try clear hk); (try clear hi))); try go_wp2_with (first | (go_at_call 10; (with_reducible refine (skiarealaw34_alive.calls k  false _ A3.out).mono ?_); rintro e w63 ⟨rfl, hb⟩; have n0_ := Aside0.mk (below_step (by repeat (first | (with_reducible first | exact HB.out | apply below_alloc | apply pw_below_drewN | apply below_drew1) | exact HB.out)) hb); clear HB; have HB := n0_; clear n0_; (try clear hb); (try clear hb2); (try clear hk); (try clear hi))))
      go_ret
      exact ⟨by first | rfl | (simp [errW_none, errW_some] <;> rfl) | (simp [*, errW_none, errW_some] <;> rfl), by repeat (first | (with_reducible first | exact HB.out | apply below_alloc | apply pw_below_drewN | apply below_drew1) | exact HB.out)⟩

end Go.Proofs.Ytamockdikeadnaa.Px
