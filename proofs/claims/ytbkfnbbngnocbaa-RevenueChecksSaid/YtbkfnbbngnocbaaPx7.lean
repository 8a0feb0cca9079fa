-- Lines of this text were written by the print of the kit, run by a program of this session (print2.py).
import Derived.Test.YtbkfnbbngnocbaaPx0
import Derived.Test.YtbkfnbbngnocbaaPx6
namespace Go.Proofs.Ytbkfnbbngnocbaa.Px
open Go.RowKit Go.Proofs.YtbkfnbbngnocbaaW.PrintWords Go.Proofs.YtbkfnbbngnocbaaW.PrintLast Go.Proofs.YtbkfnbbngnocbaaW.PrintMore
attribute [local go_sem] max2_int min2_int max_two min_two max_three min_three max_four min_four   -- for this text's walks alone
set_option linter.unusedVariables false
set_option linter.unusedSimpArgs false

/-! ### cmp_Compare_int: function 55 -/
def cmp_Compare_int.f (a0 : Int) (a1 : Int) : Option (Int) := (cmp_isNaN_int.f a0).bind fun t140 => ((cmp_isNaN_int.f a1).bind fun t141 => (if t140 = true then (if t141 = true then (some 0) else (some (-1))) else (if t141 = true then (some 1) else (if a0 < a1 then (some (-1)) else (if a0 > a1 then (some 1) else (some 0))))))
set_option maxHeartbeats 8000000 in
set_option maxRecDepth 100000 in
theorem cmp_Compare_int.calls (a0 : Int) (a1 : Int) (r : Int) (w : World) (h : cmp_Compare_int.f a0 a1 = some r) :
    Calls Try.prog 55 #[.int .i64 a0, .int .i64 a1] w fun e w' => e = .returned (.int .i64 r) ∧ Drawn0 w w' := by
  have H : ((cmp_isNaN_int.f a0).bind fun t140 => ((cmp_isNaN_int.f a1).bind fun t141 => (if t140 = true then (if t141 = true then (some 0) else (some (-1))) else (if t141 = true then (some 1) else (if a0 < a1 then (some (-1)) else (if a0 > a1 then (some 1) else (some 0))))))) = some r := h
  clear h
  replace H := Option.bind_eq_some_iff.mp H
  obtain ⟨t140, A30, H⟩ := H
  replace H : ((cmp_isNaN_int.f a1).bind fun t141 => (if t140 = true then (if t141 = true then (some 0) else (some (-1))) else (if t141 = true then (some 1) else (if a0 < a1 then (some (-1)) else (if a0 > a1 then (some 1) else (some 0)))))) = some r := H
  have A3 := Aside0.mk A30
  clear A30
  replace H := Option.bind_eq_some_iff.mp H
  obtain ⟨t141, A40, H⟩ := H
  replace H : (if t140 = true then (if t141 = true then (some 0) else (some (-1))) else (if t141 = true then (some 1) else (if a0 < a1 then (some (-1)) else (if a0 > a1 then (some 1) else (some 0))))) = some r := H
  have A4 := Aside0.mk A40
  clear A40
  by_cases c5 : t140 = true
  · subst c5
    have H1 : (if t141 = true then (some 0) else (some (-1))) = some r := by rw [if_pos rfl] at H; exact H
    clear H
    have H := H1
    clear H1
    by_cases c6 : t141 = true
    · subst c6
      have H1 : (some 0) = some r := by rw [if_pos rfl] at H; exact H
      clear H
      have H := H1
      clear H1
      obtain rfl := Option.some.inj H
      go_enter Try.func55, Try.ntmps55
      go_wp2_with (first | ((with_reducible refine gate_callee (f := 79) rfl ?_); refine goesL_ (some 8) rfl rfl Try.func79 (by kernel_rfl) rfl #[.int .i64 a0] rfl (by (try simp only [List.map_toArray, List.map_cons, List.map_nil]); first | done | rfl | (simp only [List.length_drop, List.length_take]; rfl)) ?_; (with_reducible refine (cmp_isNaN_int.calls a0 true _ A3.out).mono ?_); rintro e w' ⟨rfl, ⟨nd, rfl⟩⟩; refine ⟨_, rfl, ?_⟩) | ((with_reducible refine gate_callee (f := 79) rfl ?_); refine goesL_ (some 10) rfl rfl Try.func79 (by kernel_rfl) rfl #[.int .i64 a1] rfl (by (try simp only [List.map_toArray, List.map_cons, List.map_nil]); first | done | rfl | (simp only [List.length_drop, List.length_take]; rfl)) ?_; (with_reducible refine (cmp_isNaN_int.calls a1 true _ A4.out).mono ?_); rintro e w' ⟨rfl, ⟨nd, rfl⟩⟩; refine ⟨_, rfl, ?_⟩))
      go_ret
      exact ⟨by first | rfl | (simp; done) | (simp [*]; done), by repeat (first | exact Drawn0.refl _ | apply Drawn0.step)⟩
    · replace c6 := Bool.eq_false_iff.mpr c6
      subst c6
      have H1 : (some (-1)) = some r := by rw [if_neg (show ¬ (false = true) by decide)] at H; exact H
      clear H
      have H := H1
      clear H1
      obtain rfl := Option.some.inj H
      go_enter Try.func55, Try.ntmps55
      go_wp2_with (first | ((with_reducible refine gate_callee (f := 79) rfl ?_); refine goesL_ (some 8) rfl rfl Try.func79 (by kernel_rfl) rfl #[.int .i64 a0] rfl (by (try simp only [List.map_toArray, List.map_cons, List.map_nil]); first | done | rfl | (simp only [List.length_drop, List.length_take]; rfl)) ?_; (with_reducible refine (cmp_isNaN_int.calls a0 true _ A3.out).mono ?_); rintro e w' ⟨rfl, ⟨nd, rfl⟩⟩; refine ⟨_, rfl, ?_⟩) | ((with_reducible refine gate_callee (f := 79) rfl ?_); refine goesL_ (some 10) rfl rfl Try.func79 (by kernel_rfl) rfl #[.int .i64 a1] rfl (by (try simp only [List.map_toArray, List.map_cons, List.map_nil]); first | done | rfl | (simp only [List.length_drop, List.length_take]; rfl)) ?_; (with_reducible refine (cmp_isNaN_int.calls a1 false _ A4.out).mono ?_); rintro e w' ⟨rfl, ⟨nd, rfl⟩⟩; refine ⟨_, rfl, ?_⟩))
      go_ret
      exact ⟨by first | rfl | (simp; done) | (simp [*]; done), by repeat (first | exact Drawn0.refl _ | apply Drawn0.step)⟩
  · replace c5 := Bool.eq_false_iff.mpr c5
    subst c5
    have H1 : (if t141 = true then (some 1) else (if a0 < a1 then (some (-1)) else (if a0 > a1 then (some 1) else (some 0)))) = some r := by rw [if_neg (show ¬ (false = true) by decide)] at H; exact H
    clear H
    have H := H1
    clear H1
    by_cases c7 : t141 = true
    · subst c7
      have H1 : (some 1) = some r := by rw [if_pos rfl] at H; exact H
      clear H
      have H := H1
      clear H1
      obtain rfl := Option.some.inj H
      go_enter Try.func55, Try.ntmps55
      go_wp2_with (first | ((with_reducible refine gate_callee (f := 79) rfl ?_); refine goesL_ (some 8) rfl rfl Try.func79 (by kernel_rfl) rfl #[.int .i64 a0] rfl (by (try simp only [List.map_toArray, List.map_cons, List.map_nil]); first | done | rfl | (simp only [List.length_drop, List.length_take]; rfl)) ?_; (with_reducible refine (cmp_isNaN_int.calls a0 false _ A3.out).mono ?_); rintro e w' ⟨rfl, ⟨nd, rfl⟩⟩; refine ⟨_, rfl, ?_⟩) | ((with_reducible refine gate_callee (f := 79) rfl ?_); refine goesL_ (some 10) rfl rfl Try.func79 (by kernel_rfl) rfl #[.int .i64 a1] rfl (by (try simp only [List.map_toArray, List.map_cons, List.map_nil]); first | done | rfl | (simp only [List.length_drop, List.length_take]; rfl)) ?_; (with_reducible refine (cmp_isNaN_int.calls a1 true _ A4.out).mono ?_); rintro e w' ⟨rfl, ⟨nd, rfl⟩⟩; refine ⟨_, rfl, ?_⟩))
      go_ret
      exact ⟨by first | rfl | (simp; done) | (simp [*]; done), by repeat (first | exact Drawn0.refl _ | apply Drawn0.step)⟩
    · replace c7 := Bool.eq_false_iff.mpr c7
      subst c7
      have H1 : (if a0 < a1 then (some (-1)) else (if a0 > a1 then (some 1) else (some 0))) = some r := by rw [if_neg (show ¬ (false = true) by decide)] at H; exact H
      clear H
      have H := H1
      clear H1
      by_cases c8 : a0 < a1
      · rw [if_pos c8] at H
        have c8b0 : decide (a0 < a1) = true := decide_eq_true c8
        clear c8
        obtain rfl := Option.some.inj H
        go_enter Try.func55, Try.ntmps55
        go_wp2_with (first | ((with_reducible refine gate_callee (f := 79) rfl ?_); refine goesL_ (some 8) rfl rfl Try.func79 (by kernel_rfl) rfl #[.int .i64 a0] rfl (by (try simp only [List.map_toArray, List.map_cons, List.map_nil]); first | done | rfl | (simp only [List.length_drop, List.length_take]; rfl)) ?_; (with_reducible refine (cmp_isNaN_int.calls a0 false _ A3.out).mono ?_); rintro e w' ⟨rfl, ⟨nd, rfl⟩⟩; refine ⟨_, rfl, ?_⟩) | ((with_reducible refine gate_callee (f := 79) rfl ?_); refine goesL_ (some 10) rfl rfl Try.func79 (by kernel_rfl) rfl #[.int .i64 a1] rfl (by (try simp only [List.map_toArray, List.map_cons, List.map_nil]); first | done | rfl | (simp only [List.length_drop, List.length_take]; rfl)) ?_; (with_reducible refine (cmp_isNaN_int.calls a1 false _ A4.out).mono ?_); rintro e w' ⟨rfl, ⟨nd, rfl⟩⟩; refine ⟨_, rfl, ?_⟩))
        go_ret
        exact ⟨by first | rfl | (simp; done) | (simp [*]; done), by repeat (first | exact Drawn0.refl _ | apply Drawn0.step)⟩
      · rw [if_neg c8] at H
        have c8b0 : decide (a0 < a1) = false := decide_eq_false c8
        clear c8
        by_cases c9 : a0 > a1
        · rw [if_pos c9] at H
          have c9b0 : decide (a1 < a0) = true := decide_eq_true c9
          clear c9
          obtain rfl := Option.some.inj H
          go_enter Try.func55, Try.ntmps55
          go_wp2_with (first | ((with_reducible refine gate_callee (f := 79) rfl ?_); refine goesL_ (some 8) rfl rfl Try.func79 (by kernel_rfl) rfl #[.int .i64 a0] rfl (by (try simp only [List.map_toArray, List.map_cons, List.map_nil]); first | done | rfl | (simp only [List.length_drop, List.length_take]; rfl)) ?_; (with_reducible refine (cmp_isNaN_int.calls a0 false _ A3.out).mono ?_); rintro e w' ⟨rfl, ⟨nd, rfl⟩⟩; refine ⟨_, rfl, ?_⟩) | ((with_reducible refine gate_callee (f := 79) rfl ?_); refine goesL_ (some 10) rfl rfl Try.func79 (by kernel_rfl) rfl #[.int .i64 a1] rfl (by (try simp only [List.map_toArray, List.map_cons, List.map_nil]); first | done | rfl | (simp only [List.length_drop, List.length_take]; rfl)) ?_; (with_reducible refine (cmp_isNaN_int.calls a1 false _ A4.out).mono ?_); rintro e w' ⟨rfl, ⟨nd, rfl⟩⟩; refine ⟨_, rfl, ?_⟩))
          go_ret
          exact ⟨by first | rfl | (simp; done) | (simp [*]; done), by repeat (first | exact Drawn0.refl _ | apply Drawn0.step)⟩
        · rw [if_neg c9] at H
          have c9b0 : decide (a1 < a0) = false := decide_eq_false c9
          clear c9
          obtain rfl := Option.some.inj H
          go_enter Try.func55, Try.ntmps55
          go_wp2_with (first | ((with_reducible refine gate_callee (f := 79) rfl ?_); refine goesL_ (some 8) rfl rfl Try.func79 (by kernel_rfl) rfl #[.int .i64 a0] rfl (by (try simp only [List.map_toArray, List.map_cons, List.map_nil]); first | done | rfl | (simp only [List.length_drop, List.length_take]; rfl)) ?_; (with_reducible refine (cmp_isNaN_int.calls a0 false _ A3.out).mono ?_); rintro e w' ⟨rfl, ⟨nd, rfl⟩⟩; refine ⟨_, rfl, ?_⟩) | ((with_reducible refine gate_callee (f := 79) rfl ?_); refine goesL_ (some 10) rfl rfl Try.func79 (by kernel_rfl) rfl #[.int .i64 a1] rfl (by (try simp only [List.map_toArray, List.map_cons, List.map_nil]); first | done | rfl | (simp only [List.length_drop, List.length_take]; rfl)) ?_; (with_reducible refine (cmp_isNaN_int.calls a1 false _ A4.out).mono ?_); rintro e w' ⟨rfl, ⟨nd, rfl⟩⟩; refine ⟨_, rfl, ?_⟩))
          go_ret
          exact ⟨by first | rfl | (simp; done) | (simp [*]; done), by repeat (first | exact Drawn0.refl _ | apply Drawn0.step)⟩

/-! ### split_Split_4: function 54 (by hand) -/
/-- The greater rest first. -/
def restCmp (xs : List Int) (i k : Nat) : Int := if xs.getD k 0 < xs.getD i 0 then -1 else if xs.getD i 0 < xs.getD k 0 then 1 else 0
theorem compare_is (a b : Int) : cmp_Compare_int.f a b = some (if a < b then -1 else if b < a then 1 else 0) := by
  have hn : ∀ c : Int, cmp_isNaN_int.f c = some false := fun c => by unfold cmp_isNaN_int.f; simp
  unfold cmp_Compare_int.f
  rw [hn, hn]
  simp only [Option.bind_some]
  by_cases h1 : a < b
  · simp [h1]
  · by_cases h2 : b < a <;> simp [h1, h2]
set_option maxHeartbeats 4000000 in
set_option maxRecDepth 100000 in
theorem splitCmp (xs : List Int) (i k : Nat) (hi : i < xs.length) (hk : k < xs.length) (B3 R base n c : Nat) (hn : n = xs.length) (W : World) (h3 : W.cell? ⟨B3, 0, none⟩ = some (.slice (some ⟨R, 0, none⟩) n c))
    (ho : W.ownsRow base 3 1 (.slice (some ⟨R, 0, none⟩) n c) n (nums .i64 xs)) :
    Calls Try.prog 54 #[.int .i64 (i : Int), .int .i64 (k : Int), .pointer (some ⟨B3, 0, none⟩)] W fun e w' => e = .returned (.int .i64 (restCmp xs i k)) ∧ Drawn0 W w' := by
  have hx : cmp_Compare_int.f (rd xs (k : Int)) (rd xs (i : Int)) = some (restCmp xs i k) := by
    rw [compare_is]
    unfold restCmp rd
    simp only [Int.toNat_natCast]
  have HX := Aside0.mk hx
  subst hn
  obtain ⟨c1, _⟩ := own_at ho (i : Int) (by omega) (by omega)
  obtain ⟨c2, _⟩ := own_at ho (k : Int) (by omega) (by omega)
  rw [Int.toNat_natCast] at c1 c2
  have p0 : (0 : Int) ≤ (i : Int) := by omega
  have p1 : (i : Int) < (xs.length : Int) := by omega
  have q0 : (0 : Int) ≤ (k : Int) := by omega
  have q1 : (k : Int) < (xs.length : Int) := by omega
  generalize rd xs (i : Int) = x at c1 HX
  generalize rd xs (k : Int) = y at c2 HX
  clear hx ho hi hk
  go_enter Try.func54, Try.ntmps54
  go_wp2
  go_quiet (first | (go_at_call 55; (with_reducible refine (cmp_Compare_int.calls _ _ _ _ HX.out).mono ?_); rintro e w' ⟨rfl, ⟨nd, rfl⟩⟩; (try first | exact ⟨rfl, _, World.drewN_drewN _ _ _⟩ | exact ⟨rfl, _, Eq.trans (World.drewN_drewN _ _ _) (congrArg (World.drewN _) (Nat.add_assoc _ _ _))⟩)))
  go_wp2
  go_ret
  exact ⟨rfl, ⟨_, rfl⟩⟩

/-! ### slices_swapRangeCmpFunc_int: function 103 (by hand) -/
theorem own_block {w w' : World} {base e sz g n cap : Nat} {xs : List Value} (h : w.ownsRow base e sz (.slice (some ⟨g, 0, none⟩) n cap) n xs) (hh : w'.heap[g]? = w.heap[g]?) : w'.ownsRow base e sz (.slice (some ⟨g, 0, none⟩) n cap) n xs := by
  obtain ⟨h1, h2⟩ := h
  rcases h2 with ⟨h2, h3⟩ | ⟨g', cap', cur, h2, hb, hc, h3⟩
  · cases h2
  · have hg : g = g' := by injection h2 with h2; injection h2 with h2; injection h2
    subst hg
    exact ⟨h1, .inr ⟨g, cap', cur, h2, hb, hh.trans hc, h3⟩⟩
theorem w64 {z : Int} {n : Nat} (h : z = (n : Int)) (hn : n ≤ 1000000) : wrap64 z = (n : Int) := by subst h; unfold wrap64; omega
theorem w64sub (x i : Nat) (h : i ≤ x) (hx : x ≤ 1000000) : wrap64 ((x : Int) - (i : Int)) = ((x - i : Nat) : Int) := w64 (by omega) (by omega)
section
open Go.Shelf Go.Sort
def swapRun {α : Type} [Inhabited α] : Nat → Nat → Nat → Array α → Array α
  | 0, _, _, d => d
  | m + 1, a, b, d => swapRun m (a + 1) (b + 1) (Sort.swp d a b)
theorem swp_far {α : Type} [Inhabited α] (d : Array α) (p m q : List α) (x y : α) (h : d.toList = p ++ x :: m ++ y :: q) : (Sort.swp d p.length (p.length + m.length + 1)).toList = p ++ y :: m ++ x :: q := by
  have e1 : d[p.length]! = x := get_at d p (m ++ y :: q) x (by simpa using h)
  have e2 : d[p.length + m.length + 1]! = y := by
    have := get_at d (p ++ x :: m) q y (by simpa using h)
    rwa [List.length_append, List.length_cons, ← Nat.add_assoc] at this
  unfold Sort.swp
  rw [e1, e2, Array.toList_setIfInBounds, Array.toList_setIfInBounds, h]
  rw [List.append_assoc, List.set_append_right _ _ (by omega), List.set_append_right _ _ (by omega)]
  simp only [List.cons_append, Nat.sub_self, List.set_cons_zero]
  rw [show p.length + m.length + 1 - p.length = m.length + 1 by omega, List.set_cons_succ, List.set_append_right _ _ (by omega)]
  simp
theorem swapRun_list {α : Type} [Inhabited α] : ∀ (A B P M S : List α) (d : Array α), A.length = B.length → d.toList = P ++ A ++ M ++ B ++ S → (swapRun A.length P.length (P.length + A.length + M.length) d).toList = P ++ B ++ M ++ A ++ S
  | [], [], P, M, S, d, _, h => by simpa [swapRun] using h
  | [], y :: B, P, M, S, d, hl, h => by simp at hl
  | x :: A, [], P, M, S, d, hl, h => by simp at hl
  | x :: A, y :: B, P, M, S, d, hl, h => by
    have h1 := swp_far d P (A ++ M) (B ++ S) x y (by simpa using h)
    have h2 := swapRun_list A B (P ++ [y]) (M ++ [x]) S _ (by simpa using hl) (by simpa using h1)
    simp only [List.length_append, List.length_cons, List.length_nil] at h2
    rw [List.length_cons, swapRun]
    have e1 : P.length + (A.length + 1) + M.length = P.length + (A.length + M.length) + 1 := by omega
    have e2 : P.length + (0 + 1) + A.length + (M.length + (0 + 1)) = P.length + (A.length + 1) + M.length + 1 := by omega
    rw [e2] at h2
    rw [e1] at h2 ⊢
    simpa using h2
theorem swapRun_size {α : Type} [Inhabited α] : ∀ (m a b : Nat) (d : Array α), (swapRun m a b d).size = d.size
  | 0, _, _, d => rfl
  | m + 1, a, b, d => by rw [swapRun, swapRun_size m, Go.Sort.swp_size]
set_option maxHeartbeats 4000000 in
set_option maxRecDepth 1000000 in
theorem swapRange {α : Type} [Inhabited α] (enc : α → Value) (cf : Fn) (cb : Array Value) (blk off cap a b m : Nat) (d0 d : Array α) (w0 w : World) (R : Row1 enc w0 blk off d0) (hs : d0.size = d.size) (S : SW enc w0 blk off d w)
    (ha : a + m ≤ d.size) (hb : b + m ≤ d.size) (hsz : d.size ≤ 1000) :
    Calls Try.prog 103 #[.slice (some ⟨blk, off, none⟩) d.size cap, .int .i64 (a : Int), .int .i64 (b : Int), .int .i64 (m : Int), .func cf #[] cb] w fun e w' => e = .returned (.tuple #[]) ∧ SW enc w0 blk off (swapRun m a b d) w' := by
  have hcl0 := R.hO.cells
  simp only [Value.cells] at hcl0
  have hst := R.hO.store Try.prog
  have mixed := Try.insI.mixed
  have S0 : Aside (SW enc w0 blk off d w) := S
  have HA := Aside0.mk ha
  have HB := Aside0.mk hb
  have HN := Aside0.mk hsz
  clear S ha hb hsz
  go_enter Try.func103, Try.ntmps103
  go_wp2
  go_loopg [10] m (fun kx s wr => ∃ (i : Nat) (dk : Array α), s = .int .i64 (i : Int) ∧ Aside0 (i ≤ m ∧ m - i ≤ kx) ∧ Aside0 (dk.size = d.size) ∧ Aside (SW enc w0 blk off dk wr) ∧ Aside0 (swapRun (m - i) (a + i) (b + i) dk = swapRun m a b d))
  case atStart => exact ⟨0, d, rfl, ⟨by omega, by omega⟩, ⟨rfl⟩, S0, ⟨rfl⟩⟩
  case round =>
    clear S0
    obtain ⟨i, dk, rfl, HI, HD, S1, HE⟩ := hrel
    by_cases c3 : (i : Int) < (m : Int)
    · have hi : i < m := by omega
      have c3b : decide ((i : Int) < (m : Int)) = true := decide_eq_true c3
      have hda : a + i < dk.size := by have := HA.out; have := HD.out; omega
      have hdb : b + i < dk.size := by have := HB.out; have := HD.out; omega
      have hd0 : dk.size = d0.size := by have := HD.out; omega
      obtain ⟨x, hx⟩ : ∃ x, x = dk[a + i]! := ⟨_, rfl⟩
      obtain ⟨y, hy⟩ : ∃ x, x = dk[b + i]! := ⟨_, rfl⟩
      have S2 : Aside (SW enc w0 blk off (Sort.swp dk (a + i) (b + i)) ((wr.setCell ⟨blk, off + (a + i), none⟩ (enc y)).setCell ⟨blk, off + (b + i), none⟩ (enc x)).drew) := by rw [hx, hy]; exact S1.out.swapped R _ _ hda hdb
      have ca := S1.out.c1 R hd0 (a + i) hda
      have cb1 := S1.out.c1 R hd0 (b + i) hdb
      have fa := S1.out.f1 R hd0 (a + i) hda
      have fb := S1.out.f1 R hd0 (b + i) hdb
      obtain ⟨u, cc⟩ := S1.out.c2 R hd0 (a + i) (b + i) hda hdb (enc y)
      rw [← hx] at ca
      rw [← hy] at cb1
      have HE2 : Aside0 (swapRun (m - (i + 1)) (a + (i + 1)) (b + (i + 1)) (Sort.swp dk (a + i) (b + i)) = swapRun m a b d) := ⟨by
        have h := HE.out
        rw [show m - i = (m - (i + 1)) + 1 by omega, swapRun] at h
        exact h⟩
      have e1 : wrap64 ((a : Int) + (i : Int)) = ((a + i : Nat) : Int) := by have := HA.out; have := HN.out; unfold wrap64; omega
      have e2 : wrap64 ((b : Int) + (i : Int)) = ((b + i : Nat) : Int) := by have := HB.out; have := HN.out; unfold wrap64; omega
      have e3 : wrap64 ((i : Int) + 1) = ((i + 1 : Nat) : Int) := by have := HA.out; have := HN.out; unfold wrap64; omega
      have p1 : (0 : Int) ≤ ((a + i : Nat) : Int) := by omega
      have p2 : ((a + i : Nat) : Int) < (d.size : Int) := by have := HA.out; omega
      have p3 : (0 : Int) ≤ ((b + i : Nat) : Int) := by omega
      have p4 : ((b + i : Nat) : Int) < (d.size : Int) := by have := HB.out; omega
      have HM := Aside0.mk hi
      have HDD := Aside0.mk hd0
      have HS2 : Aside0 ((Sort.swp dk (a + i) (b + i)).size = d.size) := ⟨by rw [Go.Sort.swp_size]; exact HD.out⟩
      obtain ⟨p, hp⟩ : ∃ p, p = a + i := ⟨_, rfl⟩
      obtain ⟨q, hq⟩ : ∃ q, q = b + i := ⟨_, rfl⟩
      rw [← hp] at S2 ca fa cc e1 p1 p2 HE2 HS2
      rw [← hq] at S2 cb1 fb cc e2 p3 p4 HE2 HS2
      clear hx hy S1 hda hdb hd0 hp hq
      go_wp2_with fail
      go_big_region_o
      clear ca cb1 cc fa fb
      generalize ((wr.setCell ⟨blk, off + p, none⟩ (enc y)).setCell ⟨blk, off + q, none⟩ (enc x)).drew = w2 at S2 ⊢
      go_wp2
      go_roundg (m - (i + 1))
      case measure => have := HM.out; have := HI.out; omega
      case rel => exact ⟨i + 1, Sort.swp dk p q, by rw [e3], ⟨by have := HM.out; omega, Nat.le_refl _⟩, HS2, S2, HE2⟩
    · have c3b : decide ((i : Int) < (m : Int)) = false := decide_eq_false c3
      have hi : i = m := by have := HI.out; omega
      subst hi
      go_wp2
      go_end0
      refine ⟨rfl, ?_⟩
      have h := HE.out
      rw [Nat.sub_self, swapRun] at h
      rw [← h]
      exact S1.out
end

/-! ### slices_rotateCmpFunc_int: function 97 (by hand) -/
section
open Go.Shelf Go.Sort
theorem rot_lens {α : Type} {d : Array α} {P A B S : List α} (h : d.toList = P ++ A ++ B ++ S) : d.size = P.length + A.length + B.length + S.length := by
  rw [← Array.length_toList, h, List.length_append, List.length_append, List.length_append]
theorem take_two {α : Type} (l : List α) (n : Nat) (h : n ≤ l.length) : ∃ a b, l = a ++ b ∧ a.length = n ∧ b.length = l.length - n := ⟨l.take n, l.drop n, (List.take_append_drop _ _).symm, by rw [List.length_take]; omega, by simp⟩
set_option maxHeartbeats 4000000 in
set_option maxRecDepth 1000000 in
theorem rotate {α : Type} [Inhabited α] (enc : α → Value) (cf : Fn) (cb : Array Value) (blk off cap a m b : Nat) (d0 d : Array α) (w0 w : World) (R : Row1 enc w0 blk off d0) (hs : d0.size = d.size) (S0 : SW enc w0 blk off d w) (hsz : d.size ≤ 1000)
    (P A B S : List α) (hd : d.toList = P ++ A ++ B ++ S) (hA : A ≠ []) (hB : B ≠ []) (ha : a = P.length) (hm : m = P.length + A.length) (hb : b = P.length + A.length + B.length) :
    Calls Try.prog 97 #[.slice (some ⟨blk, off, none⟩) d.size cap, .int .i64 (a : Int), .int .i64 (m : Int), .int .i64 (b : Int), .func cf #[] cb] w fun e w' => e = .returned (.tuple #[]) ∧ ∃ dk, SW enc w0 blk off dk w' ∧ dk.toList = P ++ B ++ A ++ S := by
  have hl := rot_lens hd
  have hA0 := List.length_pos_iff.2 hA
  have hB0 := List.length_pos_iff.2 hB
  obtain ⟨iA, hiA⟩ : ∃ i, i = A.length := ⟨_, rfl⟩
  obtain ⟨iB, hiB⟩ : ∃ i, i = B.length := ⟨_, rfl⟩
  have e1 : wrap64 ((m : Int) - (a : Int)) = (iA : Int) := w64 (by omega) (by omega)
  have e2 : wrap64 ((b : Int) - (m : Int)) = (iB : Int) := w64 (by omega) (by omega)
  have SS : Aside (SW enc w0 blk off d w) := S0
  have HN := Aside0.mk hsz
  have RR := Aside0.mk R
  have H0 := Aside0.mk hs
  have HZ : Aside0 (∃ P1 A1 B1 S1 : List α, d.toList = P1 ++ A1 ++ B1 ++ S1 ∧ A1.length = iA ∧ B1.length = iB ∧ 0 < iA ∧ 0 < iB ∧ P1.length + iA = m ∧ P1 ++ B1 ++ A1 ++ S1 = P ++ B ++ A ++ S) := ⟨P, A, B, S, hd, hiA.symm, hiB.symm, by omega, by omega, by omega, rfl⟩
  clear S0 hsz hd hl hs R hA hB ha hm hb hA0 hB0 hiA hiB
  go_enter Try.func97, Try.ntmps97
  go_wp2
  go_loopg [10, 11] (iA + iB) (fun kx s10 s11 wr => ∃ (i j : Nat) (dk : Array α), s10 = .int .i64 (i : Int) ∧ s11 = .int .i64 (j : Int) ∧ Aside0 (i + j ≤ kx) ∧ Aside (SW enc w0 blk off dk wr) ∧ Aside0 (dk.size = d.size) ∧
    Aside0 (∃ P1 A1 B1 S1 : List α, dk.toList = P1 ++ A1 ++ B1 ++ S1 ∧ A1.length = i ∧ B1.length = j ∧ 0 < i ∧ 0 < j ∧ P1.length + i = m ∧ P1 ++ B1 ++ A1 ++ S1 = P ++ B ++ A ++ S))
  case atStart => exact ⟨iA, iB, d, by rw [e1], by rw [e2], ⟨Nat.le_refl _⟩, SS, ⟨rfl⟩, HZ⟩
  case round =>
    clear SS e1 e2 HZ
    obtain ⟨i, j, dk, rfl, rfl, HI, SK, HS, HZ⟩ := hrel
    obtain ⟨P1, A1, B1, S1, h1, hi, hj, i0, j0, hm, he⟩ := HZ.out
    have hl := rot_lens h1
    have hdz : dk.size ≤ 1000 := by rw [HS.out]; exact HN.out
    clear HZ
    rcases Nat.lt_trichotomy i j with c | c | c
    · obtain ⟨B2, B3, rfl, hB2, hB3⟩ := take_two B1 (j - i) (by omega)
      have c1 : ¬ (j < i) := by omega
      have c2 : ¬ (i = j) := by omega
      have hsw := swapRange enc cf cb blk off cap (m - i) (m + j - i) i d0 dk w0 wr RR.out (by rw [HS.out]; exact H0.out) SK.out (by omega) (by omega) hdz
      rw [HS.out] at hsw
      have HSW := Aside0.mk hsw
      have HY : Aside0 (∃ P2 A2 B4 S2 : List α, (swapRun i (m - i) (m + j - i) dk).toList = P2 ++ A2 ++ B4 ++ S2 ∧ A2.length = i ∧ B4.length = j - i ∧ 0 < i ∧ 0 < j - i ∧ P2.length + i = m ∧ P2 ++ B4 ++ A2 ++ S2 = P ++ B ++ A ++ S) := by
        have h2 := swapRun_list A1 B3 P1 B2 S1 dk (by omega) (by rw [h1]; simp)
        rw [show A1.length = i from hi, show P1.length = m - i by omega, show m - i + i + B2.length = m + j - i by omega] at h2
        exact ⟨P1, B3, B2, A1 ++ S1, by rw [h2]; simp, by omega, by omega, i0, by omega, hm, by rw [← he]; simp⟩
      have HSZ : Aside0 ((swapRun i (m - i) (m + j - i) dk).size = d.size) := ⟨by rw [swapRun_size]; exact HS.out⟩
      have q1 : i ≤ m := by omega
      have q2 : m ≤ 1000000 := by omega
      have q3 : i ≤ m + j := by omega
      have q4 : m + j ≤ 1000000 := by omega
      have q5 : i ≤ j := by omega
      have q6 : j ≤ 1000000 := by omega
      have HMS : Aside0 (i + (j - i) < i + j) := ⟨by omega⟩
      have e3 := w64sub m i q1 q2
      have e4 : wrap64 ((m : Int) + (j : Int)) = ((m + j : Nat) : Int) := w64 rfl q4
      have e5 := w64sub (m + j) i q3 q4
      have e6 := w64sub j i q5 q6
      obtain ⟨x1, hx1⟩ : ∃ x, x = m - i := ⟨_, rfl⟩
      obtain ⟨x2, hx2⟩ : ∃ x, x = m + j := ⟨_, rfl⟩
      obtain ⟨x3, hx3⟩ : ∃ x, x = x2 - i := ⟨_, rfl⟩
      obtain ⟨x4, hx4⟩ : ∃ x, x = j - i := ⟨_, rfl⟩
      rw [← hx2] at e4 e5 HSW HY HSZ
      rw [← hx3] at e5 HSW HY HSZ
      rw [← hx1] at e3 HSW HY HSZ
      rw [← hx4] at e6 HY HMS
      clear hx1 hx2 hx3 hx4 h1 hi hj i0 j0 hm he hl hdz hB2 hB3 hsw SK HS q1 q2 q3 q4 q5 q6
      go_wp2_with (go_at_call 103; refine HSW.out.mono ?_; rintro e w1 ⟨rfl, hs1⟩; have HS1 : Aside (SW enc w0 blk off _ w1) := hs1; clear hs1)
      go_roundg (i + x4)
      case measure => exact Nat.lt_of_lt_of_le HMS.out HI.out
      case rel => exact ⟨i, x4, _, rfl, by rw [e6], ⟨Nat.le_refl _⟩, HS1, HSZ, HY⟩
    · subst c
      have c1 : ¬ (i < i) := by omega
      have hsw := swapRange enc cf cb blk off cap (m - i) m i d0 dk w0 wr RR.out (by rw [HS.out]; exact H0.out) SK.out (by omega) (by omega) hdz
      rw [HS.out] at hsw
      have HSW := Aside0.mk hsw
      have HY : Aside0 ((swapRun i (m - i) m dk).toList = P ++ B ++ A ++ S) := by
        have h2 := swapRun_list A1 B1 P1 [] S1 dk (by omega) (by rw [h1]; simp)
        rw [show A1.length = i from hi, show P1.length = m - i by omega, List.length_nil, show m - i + i + 0 = m by omega] at h2
        exact ⟨by rw [h2, ← he]; simp⟩
      have q1 : i ≤ m := by omega
      have q2 : m ≤ 1000000 := by omega
      have e3 := w64sub m i q1 q2
      obtain ⟨x1, hx1⟩ : ∃ x, x = m - i := ⟨_, rfl⟩
      rw [← hx1] at e3 HSW HY
      clear hx1 h1 hi hj i0 j0 hm he hl hdz hsw SK HS q1 q2 c1
      go_wp2_with (go_at_call 103; refine HSW.out.mono ?_; rintro e w1 ⟨rfl, hs1⟩; have HS1 : Aside (SW enc w0 blk off _ w1) := hs1; clear hs1)
      go_end0
      exact ⟨rfl, _, HS1, HY.out⟩
    · obtain ⟨A2, A3, rfl, hA2, hA3⟩ := take_two A1 j (by omega)
      have c1 : j < i := c
      have c2 : ¬ (i = j) := by omega
      have hsw := swapRange enc cf cb blk off cap (m - i) m j d0 dk w0 wr RR.out (by rw [HS.out]; exact H0.out) SK.out (by omega) (by omega) hdz
      rw [HS.out] at hsw
      have HSW := Aside0.mk hsw
      have HY : Aside0 (∃ P2 A4 B4 S2 : List α, (swapRun j (m - i) m dk).toList = P2 ++ A4 ++ B4 ++ S2 ∧ A4.length = i - j ∧ B4.length = j ∧ 0 < i - j ∧ 0 < j ∧ P2.length + (i - j) = m ∧ P2 ++ B4 ++ A4 ++ S2 = P ++ B ++ A ++ S) := by
        have h2 := swapRun_list A2 B1 P1 A3 S1 dk (by omega) (by rw [h1]; simp)
        rw [show A2.length = j from hA2, show P1.length = m - i by omega, show m - i + j + A3.length = m by omega] at h2
        exact ⟨P1 ++ B1, A3, A2, S1, by rw [h2], by omega, by omega, by omega, j0, by simp; omega, by rw [← he]; simp⟩
      have HSZ : Aside0 ((swapRun j (m - i) m dk).size = d.size) := ⟨by rw [swapRun_size]; exact HS.out⟩
      have q1 : i ≤ m := by omega
      have q2 : m ≤ 1000000 := by omega
      have q5 : j ≤ i := by omega
      have q6 : i ≤ 1000000 := by omega
      have HMS : Aside0 ((i - j) + j < i + j) := ⟨by omega⟩
      have e3 := w64sub m i q1 q2
      have e6 := w64sub i j q5 q6
      obtain ⟨x1, hx1⟩ : ∃ x, x = m - i := ⟨_, rfl⟩
      obtain ⟨x4, hx4⟩ : ∃ x, x = i - j := ⟨_, rfl⟩
      rw [← hx1] at e3 HSW HY HSZ
      rw [← hx4] at e6 HY HMS
      clear hx1 hx4 h1 hi hj i0 j0 hm he hl hdz hA2 hA3 hsw SK HS c q1 q2 q5 q6
      go_wp2_with (go_at_call 103; refine HSW.out.mono ?_; rintro e w1 ⟨rfl, hs1⟩; have HS1 : Aside (SW enc w0 blk off _ w1) := hs1; clear hs1)
      go_roundg (x4 + j)
      case measure => exact Nat.lt_of_lt_of_le HMS.out HI.out
      case rel => exact ⟨x4, j, _, by rw [e6], rfl, ⟨Nat.le_refl _⟩, HS1, HSZ, HY⟩
end

end Go.Proofs.Ytbkfnbbngnocbaa.Px
