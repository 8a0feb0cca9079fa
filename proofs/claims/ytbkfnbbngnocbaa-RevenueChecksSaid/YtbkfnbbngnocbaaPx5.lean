-- Lines of this text were written by the print of the kit, run by a program of this session (print2.py).
import Derived.Test.YtbkfnbbngnocbaaPx0
namespace Go.Proofs.Ytbkfnbbngnocbaa.Px
open Go.RowKit Go.Proofs.YtbkfnbbngnocbaaW.PrintWords Go.Proofs.YtbkfnbbngnocbaaW.PrintLast Go.Proofs.YtbkfnbbngnocbaaW.PrintMore
attribute [local go_sem] max2_int min2_int max_two min_two max_three min_three max_four min_four   -- for this text's walks alone
set_option linter.unusedVariables false
set_option linter.unusedSimpArgs false

/-! ### split_isAmount: function 48 -/
def split_isAmount.f (a0 : Int) : Option (Bool) := if a0 ≥ 0 then (some (decide (a0 ≤ 1099511627776))) else (some false)
set_option maxHeartbeats 8000000 in
set_option maxRecDepth 100000 in
theorem split_isAmount.calls (a0 : Int) (r : Bool) (w : World) (h : split_isAmount.f a0 = some r) :
    Calls Try.prog 48 #[.int .i64 a0] w fun e w' => e = .returned (.bool r) ∧ Drawn0 w w' := by
  have H : (if a0 ≥ 0 then (some (decide (a0 ≤ 1099511627776))) else (some false)) = some r := h
  clear h
  by_cases c2 : a0 ≥ 0
  · rw [if_pos c2] at H
    have c2b0 : decide (0 ≤ a0) = true := decide_eq_true c2
    clear c2
    obtain rfl := Option.some.inj H
    go_enter Try.func48, Try.ntmps48
    go_wp2
    go_ret
    exact ⟨by first | rfl | (simp; done) | (simp [*]; done), by repeat (first | exact Drawn0.refl _ | apply Drawn0.step)⟩
  · rw [if_neg c2] at H
    have c2b0 : decide (0 ≤ a0) = false := decide_eq_false c2
    clear c2
    obtain rfl := Option.some.inj H
    go_enter Try.func48, Try.ntmps48
    go_wp2
    go_ret
    exact ⟨by first | rfl | (simp; done) | (simp [*]; done), by repeat (first | exact Drawn0.refl _ | apply Drawn0.step)⟩

/-! ### slices_IndexFunc_int_int: function 77 (by hand) -/
set_option maxHeartbeats 4000000 in
set_option maxRecDepth 100000 in
theorem idxInt (A : Option Addr) (c : Nat) (xs : List Int) (p : Int → Bool) (g : Nat) (lb : Array Value) (eg : ∀ args w, (callFunc g args).run Try.prog w = .ok (.enter g args) w) (w : World) (hr : Kd.C (Kd.int .i64) w A xs.length xs)
    (hp : ∀ W x, x ∈ xs → Below w.heap.size w W → Calls Try.prog g (#[.int .i64 x] ++ lb) W fun e w' => e = .returned (.bool (p x)) ∧ Below w.heap.size w w') :
    Calls Try.prog 77 #[.slice A xs.length c, .func (.func g) #[] lb] w fun e w' => e = .returned (.int .i64 (idxP p xs)) ∧ Below w.heap.size w w' := by
  have HR := Aside0.mk hr
  have HP := Aside0.mk hp
  have HM : Aside0 (xs.length ≤ 9223372036854775807) := ⟨hr.2.1⟩
  have HB := Aside0.mk (Below.refl w.heap.size w)
  clear hr hp
  go_enter Try.func77, Try.ntmps77
  go_wp2
  go_loopg [8] xs.length (fun gg s8 wr => ∃ x8 : Int, s8 = .int .i64 x8 ∧ Aside0 (0 ≤ x8 ∧ x8 ≤ xs.length ∧ (xs.length : Int) - x8 ≤ gg ∧ ∀ j : Nat, (j : Int) < x8 → p (xs.getD j (0 : Int)) = false) ∧ Aside0 (Below w.heap.size w wr))
  case atStart => exact ⟨0, rfl, ⟨by omega, by omega, by omega, fun j hj => absurd hj (by omega)⟩, HB⟩
  case round =>
    clear HB
    obtain ⟨x8, rfl, HA, HB⟩ := hrel
    obtain ⟨a1, a2, a3, a4⟩ := HA.out
    have A1 := Aside0.mk a1
    have A2 := Aside0.mk a2
    have A3 := Aside0.mk a3
    have A4 := Aside0.mk a4
    clear a1 a2 a3 a4 HA
    by_cases c3 : x8 < (xs.length : Int)
    · have q1 := c3
      have p1 := A1.out
      obtain ⟨ad, e0, hx0⟩ := Kd.at_int HR.out x8 p1 q1
      cases e0
      replace hx0 := (HB.out.cell (World.block_lt_of_cell? w _ hx0)).trans hx0
      have hmem : rd xs x8 ∈ xs := by
        have h1 : x8.toNat < xs.length := by omega
        unfold rd
        rw [List.getD_eq_getElem?_getD, List.getElem?_eq_getElem h1]
        exact List.getElem_mem h1
      have hcall := HP.out wr _ hmem HB.out
      have HX : Aside0 (rd xs x8 = xs.getD x8.toNat (0 : Int)) := ⟨rfl⟩
      have C3 := Aside0.mk c3
      clear hmem
      have c3b : decide (x8 < (xs.length : Int)) = true := decide_eq_true c3
      have hw : wrap64 (x8 + 1) = x8 + 1 := by have := HM.out; unfold wrap64; omega
      have HW := Aside0.mk hw
      clear hw c3
      replace p1 := eq_true p1
      replace q1 := eq_true q1
      generalize rd xs x8 = y at hx0 hcall HX
      cases hq : p y with
      | true =>
        rw [hq] at hcall
        have HQ := Aside0.mk hq
        clear hq
        go_wp2_with (go_at_fn g; refine hcall.mono ?_; rintro e w' ⟨rfl, hb'⟩)
        go_ret
        refine ⟨?_, hb'⟩
        rw [idxP_hit p xs x8.toNat (z := (0 : Int)) (by have := C3.out; have := A1.out; omega) (by rw [← HX.out]; exact HQ.out) (fun j hj => A4.out j (by have := A1.out; omega))]
        rw [Int.toNat_of_nonneg A1.out]
        rfl
      | false =>
        rw [hq] at hcall
        have HQ := Aside0.mk hq
        clear hq
        go_wp2_with (go_at_fn g; refine hcall.mono ?_; rintro e w' ⟨rfl, hb'⟩)
        go_roundg (xs.length - (x8.toNat + 1))
        case measure => have := A3.out; have := A1.out; have := C3.out; omega
        case rel =>
          refine ⟨x8 + 1, by rw [HW.out], ⟨?_⟩, ⟨hb'⟩⟩
          have h1 := A1.out
          have h2 := C3.out
          refine ⟨by omega, by omega, by omega, fun j hj => ?_⟩
          by_cases e : (j : Int) = x8
          · have : j = x8.toNat := by omega
            rw [this, ← HX.out]; exact HQ.out
          · exact A4.out j (by omega)
    · have c3b : decide (x8 < (xs.length : Int)) = false := decide_eq_false c3
      have C3 := Aside0.mk c3
      clear c3
      go_wp2
      go_ret
      refine ⟨?_, HB.out⟩
      rw [idxP_miss p xs (z := (0 : Int)) (fun j hj => A4.out j (by have := C3.out; omega))]
      rfl

/-! ### slices_ContainsFunc_int_int: function 49 (by hand) -/
set_option maxHeartbeats 4000000 in
set_option maxRecDepth 100000 in
theorem hasInt (A : Option Addr) (c : Nat) (xs : List Int) (p : Int → Bool) (g : Nat) (lb : Array Value) (eg : ∀ args w, (callFunc g args).run Try.prog w = .ok (.enter g args) w) (w : World) (hr : Kd.C (Kd.int .i64) w A xs.length xs)
    (hp : ∀ W x, x ∈ xs → Below w.heap.size w W → Calls Try.prog g (#[.int .i64 x] ++ lb) W fun e w' => e = .returned (.bool (p x)) ∧ Below w.heap.size w w') :
    Calls Try.prog 49 #[.slice A xs.length c, .func (.func g) #[] lb] w fun e w' => e = .returned (.bool (xs.any p)) ∧ Below w.heap.size w w' := by
  have HC := Aside0.mk (idxInt A c xs p g lb eg w hr hp)
  clear hr hp
  rw [← idxP_nonneg p xs]
  generalize idxP p xs = r at HC ⊢
  go_enter Try.func49, Try.ntmps49
  go_wp2_with (go_at_call 77; refine HC.out.mono ?_; rintro e w' ⟨rfl, hb'⟩)
  go_ret
  exact ⟨rfl, hb'⟩

/-! ### split_fill_int: function 50 (by hand) -/
theorem R_of_nums {k : IntKind} {e base n : Nat} {w : World} {v : Value} {xs : List Int} (h : w.ownsRow base e 1 v n (nums k xs)) (hl : xs.length = n) {ok : Nat → Prop} (hok : ∀ k, base ≤ k → ok k) : (Kd.int k).R e w base ok v xs := by
  subst hl
  exact ⟨fun k hk => hok k (own_base h k hk), nums k xs, h, Kd.reps_scalar xs⟩
theorem below_of_grown {w w' : World} (h : w.grownBy w' none) : Below w.heap.size w w' := ⟨h.os, h.tape, h.output, h.size, fun k hk => h.block k hk (by simp)⟩
theorem fill_step (n i : Nat) (f : Nat → Int) (h : i < n) : ((List.range i).map f ++ List.replicate (n - i) 0).set i (f i) = (List.range (i + 1)).map f ++ List.replicate (n - (i + 1)) 0 := by
  have e : n - i = (n - (i + 1)) + 1 := by omega
  rw [e, List.replicate_succ, List.set_append_right _ _ (by simp), List.range_succ, List.map_append]
  simp
set_option maxHeartbeats 4000000 in
set_option maxRecDepth 100000 in
/-- fill: the results of a function value for the numbers from 0 on. J i W: what holds of the world when i results are there; row: the block that the function may turn. -/
theorem fillInt (n : Nat) (hn : n ≤ 1000) (g : Nat) (lb : Array Value) (eg : ∀ args w, (callFunc g args).run Try.prog w = .ok (.enter g args) w) (f : Nat → Int) (w : World) (row : Option Nat) (hrow : ∀ k, row = some k → k < w.heap.size) (J : Nat → World → Prop)
    (hJ0 : J 0 w)
    (hst : ∀ i W W', J i W → (∀ k, k < w.heap.size → W'.heap[k]? = W.heap[k]?) → J i W')
    (hJ : ∀ i W, i < n → J i W → w.grownBy W row → Calls Try.prog g (#[.int .i64 (i : Int)] ++ lb) W fun e w' => e = .returned (.int .i64 (f i)) ∧ J (i + 1) w' ∧ W.grownBy w' row) :
    Calls Try.prog 50 #[.int .i64 (n : Int), .func (.func g) #[] lb] w fun e w' => ∃ v, e = .returned v ∧ w'.ownsRow w.heap.size 3 1 v n (nums .i64 ((List.range n).map f)) ∧ J n w' ∧ w.grownBy w' row := by
  have hmk := print_make (P := Try.prog) 30 3 .i64 8 Try.underlying30 rfl (by omega) n (by omega)
  have HR := Aside0.mk hrow
  have H0 := Aside0.mk hJ0
  have HS := Aside0.mk hst
  have HJ := Aside0.mk hJ
  have HN := Aside0.mk hn
  clear hrow hJ0 hst hJ
  go_enter Try.func50, Try.ntmps50
  go_wp2
  go_loopg [11] n (fun gg s11 wr => ∃ i : Nat, s11 = .int .i64 (i : Int) ∧ Aside0 (i ≤ n ∧ n - i ≤ gg) ∧ Aside0 (wr.ownsRow w.heap.size 3 1 (.slice (some ⟨w.heap.size, 0, none⟩) n n) n (nums .i64 ((List.range i).map f ++ List.replicate (n - i) 0)) ∧ J i wr ∧ w.grownBy wr row))
  case atStart =>
    refine ⟨0, rfl, ⟨by omega, by omega⟩, ⟨?_, ?_, ?_⟩⟩
    · exact own_made w w.heap.size 3 .i64 n (Nat.le_refl _) (by omega)
    · exact HS.out 0 w _ H0.out (fun k hk => heap_alloc_old w _ hk)
    · exact World.grownBy_alloc w _ row
  case round =>
    obtain ⟨i, rfl, HA, HW⟩ := hrel
    by_cases c3 : (i : Int) < (n : Int)
    · have hi : i < n := by omega
      have hcall := HJ.out i wr hi HW.out.2.1 HW.out.2.2
      have hown : wr.ownsRow w.heap.size 3 1 (.slice (some ⟨w.heap.size, 0, none⟩) n n) n (nums .i64 ((List.range i).map f ++ List.replicate (n - i) 0)) := HW.out.1
      have hne : (Value.slice (some ⟨w.heap.size, 0, none⟩) n n).ownBlock = none ∨ (Value.slice (some ⟨w.heap.size, 0, none⟩) n n).ownBlock ≠ row := by
        refine .inr fun h => ?_
        have := HR.out w.heap.size (by rw [← h]; rfl)
        omega
      have HO := Aside0.mk (fun w' (hg : wr.grownBy w' row) => own_other hown hg hne)
      have HG := Aside0.mk HW.out.2.2
      clear hown hne HW
      have hc0 : (0 : Int) ≤ (i : Int) := by omega
      have c3b : decide ((i : Int) < (n : Int)) = true := decide_eq_true c3
      have hw : wrap64 ((i : Int) + 1) = (i : Int) + 1 := by unfold wrap64; omega
      have HI := Aside0.mk hi
      clear hi
      go_wp2_with (go_at_fn g; refine hcall.mono ?_; rintro e w' ⟨rfl, hj', hg'⟩; have HP := Aside0.mk hj'; have HK := Aside0.mk hg'; obtain ⟨hcell, hfr⟩ := own_at (HO.out w' hg') (i : Int) (by omega) (by omega); rw [Int.toNat_natCast] at hcell hfr; clear hj' hg')
      go_roundg (n - (i + 1))
      case measure => have := HA.out; have := HI.out; omega
      case rel =>
        refine ⟨i + 1, by simp, ⟨by have := HI.out; omega, Nat.le_refl _⟩, ⟨?_, ?_, ?_⟩⟩
        · have h1 := (own_store (HO.out w' HK.out) (i : Int) (f i)).1
          rw [Int.toNat_natCast, fill_step n i f HI.out] at h1
          exact h1
        · exact HS.out _ w' _ HP.out (fun k hk => Below.heap_setCell w' _ _ k (by simp; omega))
        · have h2 := HG.out.trans HK.out
          exact ⟨h2.os, h2.tape, h2.output, by simp [World.setCell]; exact h2.size, fun k hk hr => (Below.heap_setCell w' _ _ k (by simp; omega)).trans (h2.block k hk hr)⟩
    · have c3b : decide ((i : Int) < (n : Int)) = false := decide_eq_false c3
      have hi : i = n := by have := HA.out; omega
      subst hi
      go_wp2
      go_ret
      have h := HW.out
      rw [Nat.sub_self, List.replicate_zero, List.append_nil] at h
      exact ⟨_, rfl, h⟩

/-- .. of a function value that turns nothing. -/
theorem fillPure (n : Nat) (hn : n ≤ 1000) (g : Nat) (lb : Array Value) (eg : ∀ args w, (callFunc g args).run Try.prog w = .ok (.enter g args) w) (f : Nat → Int) (w : World) (base : Nat) (hbase : base ≤ w.heap.size)
    (hf : ∀ i W, i < n → Below w.heap.size w W → Calls Try.prog g (#[.int .i64 (i : Int)] ++ lb) W fun e w' => e = .returned (.int .i64 (f i)) ∧ Below W.heap.size W w') :
    Calls Try.prog 50 #[.int .i64 (n : Int), .func (.func g) #[] lb] w fun e w' => ∃ v, e = .returned v ∧ Kd.R (Kd.int .i64) 3 w' base (fun _ => True) v ((List.range n).map f) ∧ Below w.heap.size w w' := by
  refine (fillInt n hn g lb eg f w none (fun k hk => by simp at hk) (fun _ W => ∀ k, k < w.heap.size → W.heap[k]? = w.heap[k]?) (fun _ _ => rfl) (fun _ W W' h h2 k hk => (h2 k hk).trans (h k hk)) ?_).mono ?_
  · intro i W hi hJ hg
    refine (hf i W hi (below_of_grown hg)).mono ?_
    rintro e w' ⟨he, hb⟩
    exact ⟨he, fun k hk => (hb.block k (Nat.lt_of_lt_of_le hk hg.size)).trans (hJ k hk), grown_of_below hb none⟩
  · rintro e w' ⟨v, he, ho, _, hg⟩
    exact ⟨v, he, Kd.R_lower (R_of_nums ho (by simp) (fun _ _ => trivial)) hbase, below_of_grown hg⟩

/-! ### bits_Mul64: function 60 -/
def bits_Mul64.f (a0 : Int) (a1 : Int) : Option (Int × Int) := some (IntKind.u64.wrap ((IntKind.u64.wrap ((IntKind.u64.wrap ((a0 / 4294967296) * (a1 / 4294967296))) + ((IntKind.u64.wrap ((IntKind.u64.wrap ((a0 / 4294967296) * (Go.bits .and .u64 a1 4294967295))) + ((IntKind.u64.wrap ((Go.bits .and .u64 a0 4294967295) * (Go.bits .and .u64 a1 4294967295))) / 4294967296))) / 4294967296))) + ((IntKind.u64.wrap ((Go.bits .and .u64 (IntKind.u64.wrap ((IntKind.u64.wrap ((a0 / 4294967296) * (Go.bits .and .u64 a1 4294967295))) + ((IntKind.u64.wrap ((Go.bits .and .u64 a0 4294967295) * (Go.bits .and .u64 a1 4294967295))) / 4294967296))) 4294967295) + (IntKind.u64.wrap ((Go.bits .and .u64 a0 4294967295) * (a1 / 4294967296))))) / 4294967296)), IntKind.u64.wrap (a0 * a1))
set_option maxHeartbeats 8000000 in
set_option maxRecDepth 100000 in
theorem bits_Mul64.calls (a0 : Int) (a1 : Int) (r1 : Int) (r2 : Int) (w : World) (h : bits_Mul64.f a0 a1 = some (r1, r2)) :
    Calls Try.prog 60 #[.int .u64 a0, .int .u64 a1] w fun e w' => e = .returned (.tuple #[.int .u64 r1, .int .u64 r2]) ∧ Drawn0 w w' := by
  have H : (some (IntKind.u64.wrap ((IntKind.u64.wrap ((IntKind.u64.wrap ((a0 / 4294967296) * (a1 / 4294967296))) + ((IntKind.u64.wrap ((IntKind.u64.wrap ((a0 / 4294967296) * (Go.bits .and .u64 a1 4294967295))) + ((IntKind.u64.wrap ((Go.bits .and .u64 a0 4294967295) * (Go.bits .and .u64 a1 4294967295))) / 4294967296))) / 4294967296))) + ((IntKind.u64.wrap ((Go.bits .and .u64 (IntKind.u64.wrap ((IntKind.u64.wrap ((a0 / 4294967296) * (Go.bits .and .u64 a1 4294967295))) + ((IntKind.u64.wrap ((Go.bits .and .u64 a0 4294967295) * (Go.bits .and .u64 a1 4294967295))) / 4294967296))) 4294967295) + (IntKind.u64.wrap ((Go.bits .and .u64 a0 4294967295) * (a1 / 4294967296))))) / 4294967296)), IntKind.u64.wrap (a0 * a1))) = some (r1, r2) := h
  clear h
  simp only [Option.some.injEq, Prod.mk.injEq] at H
  obtain ⟨rfl, rfl⟩ := H
  go_enter Try.func60, Try.ntmps60
  go_wp2
  go_ret2
  exact ⟨by first | rfl | (simp; done) | (simp [*]; done), by repeat (first | exact Drawn0.refl _ | apply Drawn0.step)⟩

/-! ### bits_LeadingZeros64: function 83 (by hand) -/
def bits_LeadingZeros64.f (a0 : Int) : Option Int := if 0 ≤ a0 ∧ a0 ≤ 18446744073709551615 then some (64 - (Lib.bitLen a0.toNat : Int)) else none
theorem bits_LeadingZeros64.calls (a0 : Int) (r : Int) (w : World) (h : bits_LeadingZeros64.f a0 = some r) : Calls Try.prog 83 #[.int .u64 a0] w fun e w' => e = .returned (.int .i64 r) ∧ Drawn0 w w' := by
  unfold bits_LeadingZeros64.f at h
  by_cases hc : 0 ≤ a0 ∧ a0 ≤ 18446744073709551615
  · rw [if_pos hc] at h
    obtain rfl := Option.some.inj h
    exact (Any.bits_LeadingZeros64 Try.lz64 a0 w hc.1 hc.2).mono fun e w' ⟨he, hw⟩ => ⟨he, hw ▸ Drawn0.refl w⟩
  · rw [if_neg hc] at h
    exact absurd h (by simp)

end Go.Proofs.Ytbkfnbbngnocbaa.Px
