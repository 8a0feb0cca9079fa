-- Lines of this text were written by the print of the kit, run by a program of this session (print2.py).
import Derived.Test.YtbkfnbbngnocbaaPx0
namespace Go.Proofs.Ytbkfnbbngnocbaa.Px
open Go.RowKit Go.Proofs.YtbkfnbbngnocbaaW.PrintWords Go.Proofs.YtbkfnbbngnocbaaW.PrintLast Go.Proofs.YtbkfnbbngnocbaaW.PrintMore
attribute [local go_sem] max2_int min2_int max_two min_two max_three min_three max_four min_four   -- for this text's walks alone
set_option linter.unusedVariables false
set_option linter.unusedSimpArgs false

/-! ### revenue_Right: function 9 (by hand) -/
def revenue_Right.bad (x : S42) : Bool := decide (x.f0 < 1) || decide (9999 < x.f0) || decide (x.f1 < 1) || decide (9999 < x.f1) || decide (x.f2 < 1) || decide (8 < x.f2) || decide (x.f3 < 0) || decide (20000000 < x.f3) || decide (x.f4 < 0) || decide (100000000 < x.f4)
def revenue_Right.chk : List S42 → List Int → Int
  | [], _ => 0
  | x :: l, S => if revenue_Right.bad x = true then 2 else if x.f5 < 0 ∨ x.f4 < x.f5 then 1 else if S.contains x.f0 = true then 7 else revenue_Right.chk l (S ++ [x.f0])
def revenue_Right.f (l0 : List (S42)) : Option Int := if 2000 < (l0.length : Int) then some 4 else some (revenue_Right.chk l0 [])
/-- The map that reads as D holds S. -/
structure revenue_Right.Seen (D : DataW Nat) (S : List Int) : Prop where
  isMap : Maps.IsMap D
  get : ∀ k, D.atKey (.int .i64 k) (.lit (.bool false)) = .lit (.bool (S.contains k))
theorem revenue_Right.Seen.empty : revenue_Right.Seen (.map []) [] := ⟨Maps.isMap_empty, fun k => rfl⟩
theorem revenue_Right.Seen.put {D : DataW Nat} {S : List Int} (h : revenue_Right.Seen D S) (k : Int) : revenue_Right.Seen (D.put (.int .i64 k) (.lit (.bool true))) (S ++ [k]) := by
  have hk : WideAt.IsKeyLit (.int .i64 k) := trivial
  refine ⟨h.isMap.put _ _, fun k2 => ?_⟩
  by_cases c : k2 = k
  · subst c
    rw [Maps.atKey_put_same h.isMap hk]
    simp
  · rw [Maps.atKey_put_other (by intro e; injection e with _ e; exact c e), h.get k2]
    simp [c]
theorem revenue_Right.look {H : Type} {P : Program} (w : World) {ops : Array Oper} {rest : List Oper} {o : Oper} {a : Act} {Q : Exit → Act → World → Prop}
    (hg : o.guard = none) (m x : Operand) (t : TypeId) (hop : o.op = Op.lookup t m x false)
    (k e : TypeId) (K : Maps.Keyed P k) (ht : P.underlying t = some (.map k e)) (he : P.underlying e = some .bool) (hz : (zeroValue e).run P w = .ok (.bool false) w) (b n : Nat) (D : DataW H)
    (hm : a.eval m = .map (some b)) (hown : w.ownsMap P k (plainElem P e) b n D) (key : Value) (kl : Lit) (hx : a.eval x = key) (hkey : keyOf P k key = some kl)
    (hK : ∀ c : Bool, D.atKey kl (.lit (.bool false)) = .lit (.bool c) → wpList P ops Q rest (a.put o.dst (.bool c)) w) :
    wpList P ops Q (o :: rest) a w := by
  refine wpList_plain hg fun K2 hK2 => ?_
  obtain ⟨v, ps, hrun, hv⟩ := hown.lookup K ht hz (zd := .lit (.bool false)) (zp := []) (by unfold plainElem; rw [he]) hkey
  obtain ⟨c, rfl, hat⟩ : ∃ c, v = .bool c ∧ D.atKey kl (.lit (.bool false)) = .lit (.bool c) := by
    unfold plainElem at hv
    rw [he] at hv
    cases v <;> simp at hv
    exact ⟨_, rfl, hv.1.symm⟩
  unfold Oper.wp
  simp [execOp, hop, hm, hx, hrun, Result.andThen]
  exact hK2 _ _ (hK c hat)
theorem revenue_Right.below {w W W2 : World} {base : Nat} {row : Option Nat} (hb : Below base w W) (hs : base ≤ W.heap.size) (h : W.grownBy W2 row) (hr : ∀ k, row = some k → base ≤ k) : Below base w W2 :=
  ⟨h.os.trans hb.os, h.tape.trans hb.tape, h.output.trans hb.output, Nat.le_trans hb.size h.size, fun k hk => (h.block k (Nat.lt_of_lt_of_le hk hs) (fun e => by have := hr k e.symm; omega)).trans (hb.block k hk)⟩
set_option maxHeartbeats 16000000 in
set_option maxRecDepth 100000 in
theorem revenue_Right.calls (A0 : Option Addr) (c0 : Nat) (l0 : List (S42)) (r : Int) (w : World) (hr0 : Kd.C k42 w A0 l0.length l0) (hc0 : l0.length ≤ c0) (h : revenue_Right.f l0 = some r) :
    Calls Try.prog 9 #[.slice A0 l0.length c0] w fun e w' => e = .returned (.int .i64 r) ∧ Below w.heap.size w w' := by
  unfold revenue_Right.f at h
  have hmm := @run_makeMap Try.prog
  have K3 : Go.Maps.Keyed Try.prog 3 := Go.Maps.int_keyed Try.underlying3
  have hu42 := Try.underlying42
  have HB := Aside0.mk (Below.refl w.heap.size w)
  have HC := Aside0.mk hr0
  by_cases g0 : 2000 < (l0.length : Int)
  · rw [if_pos g0] at h
    obtain rfl := Option.some.inj h
    have g1 : decide (2000 < (l0.length : Int)) = true := decide_eq_true g0
    clear hr0 hc0 h
    go_enter Try.func9, Try.ntmps9
    go_wp2
    go_ret
    exact ⟨rfl, HB.out⟩
  rw [if_neg g0] at h
  have HR0 := Aside0.mk (Option.some.inj h)
  have g1 : decide (2000 < (l0.length : Int)) = false := decide_eq_false g0
  have HLEN : Aside0 (l0.length ≤ 2000) := ⟨by omega⟩
  clear hr0 hc0 h g0
  go_enter Try.func9, Try.ntmps9
  go_wp2
  clear g1
  go_loopg [12] l0.length (fun gg s12 wr => ∃ (j : Nat) (D : DataW Nat) (S : List Int), s12 = .int .i64 (j : Int) ∧ Aside0 (l0.length - j ≤ gg ∧ j ≤ l0.length) ∧ Aside0 (wr.ownsMap Try.prog 3 (plainElem Try.prog 4) w.heap.size j D) ∧ Aside0 (revenue_Right.Seen D S) ∧ Aside0 (revenue_Right.chk (l0.drop j) S = r) ∧ Aside0 (Below w.heap.size w wr))
  case atStart => exact ⟨0, .map [], [], rfl, ⟨by omega, by omega⟩, ⟨World.ownsMap_made w Try.prog 3 _⟩, ⟨revenue_Right.Seen.empty⟩, HR0, ⟨below_alloc HB.out _⟩⟩
  case round =>
    clear HB HR0
    obtain ⟨j, D, S, rfl, HI, HM, HS, HR, HB⟩ := hrel
    by_cases c : j < l0.length
    · have hj1 : (0 : Int) ≤ (j : Int) := Int.natCast_nonneg _
      have hj2 : (j : Int) < (l0.length : Int) := by omega
      obtain ⟨ad, ead, hx0, hx1, hx2, hx3, hx4, hx5⟩ := at_T42 HC.out (j : Int) hj1 hj2
      obtain ⟨x, hx⟩ : ∃ x, x = rd_T42 l0 (j : Int) := ⟨_, rfl⟩
      rw [← hx, Int.toNat_natCast] at hx0 hx1 hx2 hx3 hx4 hx5
      cases ead
      have hdrop : l0.drop j = x :: l0.drop (j + 1) := by
        rw [List.drop_eq_getElem_cons c, hx]
        unfold rd_T42
        rw [Int.toNat_natCast, List.getD_eq_getElem?_getD, List.getElem?_eq_getElem c]
        rfl
      have hr := HR.out
      rw [hdrop] at hr
      clear HR
      have HR := Aside0.mk hr
      replace hx0 := (HB.out.cell (World.block_lt_of_cell? w _ hx0)).trans hx0
      replace hx1 := (HB.out.cell (World.block_lt_of_cell? w _ hx1)).trans hx1
      replace hx2 := (HB.out.cell (World.block_lt_of_cell? w _ hx2)).trans hx2
      replace hx3 := (HB.out.cell (World.block_lt_of_cell? w _ hx3)).trans hx3
      replace hx4 := (HB.out.cell (World.block_lt_of_cell? w _ hx4)).trans hx4
      replace hx5 := (HB.out.cell (World.block_lt_of_cell? w _ hx5)).trans hx5
      have HSZ := Aside0.mk HB.out.size
      have HCJ := Aside0.mk c
      replace hj1 := eq_true hj1
      replace hj2 := eq_true hj2
      have hlt : decide ((j : Int) < (l0.length : Int)) = true := decide_eq_true (by omega)
      clear hr hdrop hx c
      by_cases c0 : x.f0 < 1
      · have d0 : decide (x.f0 < 1) = true := decide_eq_true c0
        have e : r = 2 := by rw [← HR.out]; unfold revenue_Right.chk revenue_Right.bad; simp [c0]
        subst e
        go_wp2
        go_ret
        exact ⟨rfl, (by repeat (first | (with_reducible first | exact HB.out | apply below_alloc) | refine below_set ?_ HSZ.out))⟩
      have d0 : decide (x.f0 < 1) = false := decide_eq_false c0
      by_cases c1 : 9999 < x.f0
      · have d1 : decide (9999 < x.f0) = true := decide_eq_true c1
        have e : r = 2 := by rw [← HR.out]; unfold revenue_Right.chk revenue_Right.bad; simp [c1]
        subst e
        go_wp2
        go_ret
        exact ⟨rfl, (by repeat (first | (with_reducible first | exact HB.out | apply below_alloc) | refine below_set ?_ HSZ.out))⟩
      have d1 : decide (9999 < x.f0) = false := decide_eq_false c1
      by_cases c2 : x.f1 < 1
      · have d2 : decide (x.f1 < 1) = true := decide_eq_true c2
        have e : r = 2 := by rw [← HR.out]; unfold revenue_Right.chk revenue_Right.bad; simp [c2]
        subst e
        go_wp2
        go_ret
        exact ⟨rfl, (by repeat (first | (with_reducible first | exact HB.out | apply below_alloc) | refine below_set ?_ HSZ.out))⟩
      have d2 : decide (x.f1 < 1) = false := decide_eq_false c2
      by_cases c3 : 9999 < x.f1
      · have d3 : decide (9999 < x.f1) = true := decide_eq_true c3
        have e : r = 2 := by rw [← HR.out]; unfold revenue_Right.chk revenue_Right.bad; simp [c3]
        subst e
        go_wp2
        go_ret
        exact ⟨rfl, (by repeat (first | (with_reducible first | exact HB.out | apply below_alloc) | refine below_set ?_ HSZ.out))⟩
      have d3 : decide (9999 < x.f1) = false := decide_eq_false c3
      by_cases c4 : x.f2 < 1
      · have d4 : decide (x.f2 < 1) = true := decide_eq_true c4
        have e : r = 2 := by rw [← HR.out]; unfold revenue_Right.chk revenue_Right.bad; simp [c4]
        subst e
        go_wp2
        go_ret
        exact ⟨rfl, (by repeat (first | (with_reducible first | exact HB.out | apply below_alloc) | refine below_set ?_ HSZ.out))⟩
      have d4 : decide (x.f2 < 1) = false := decide_eq_false c4
      by_cases c5 : 8 < x.f2
      · have d5 : decide (8 < x.f2) = true := decide_eq_true c5
        have e : r = 2 := by rw [← HR.out]; unfold revenue_Right.chk revenue_Right.bad; simp [c5]
        subst e
        go_wp2
        go_ret
        exact ⟨rfl, (by repeat (first | (with_reducible first | exact HB.out | apply below_alloc) | refine below_set ?_ HSZ.out))⟩
      have d5 : decide (8 < x.f2) = false := decide_eq_false c5
      by_cases c6 : x.f3 < 0
      · have d6 : decide (x.f3 < 0) = true := decide_eq_true c6
        have e : r = 2 := by rw [← HR.out]; unfold revenue_Right.chk revenue_Right.bad; simp [c6]
        subst e
        go_wp2
        go_ret
        exact ⟨rfl, (by repeat (first | (with_reducible first | exact HB.out | apply below_alloc) | refine below_set ?_ HSZ.out))⟩
      have d6 : decide (x.f3 < 0) = false := decide_eq_false c6
      by_cases c7 : 20000000 < x.f3
      · have d7 : decide (20000000 < x.f3) = true := decide_eq_true c7
        have e : r = 2 := by rw [← HR.out]; unfold revenue_Right.chk revenue_Right.bad; simp [c7]
        subst e
        go_wp2
        go_ret
        exact ⟨rfl, (by repeat (first | (with_reducible first | exact HB.out | apply below_alloc) | refine below_set ?_ HSZ.out))⟩
      have d7 : decide (20000000 < x.f3) = false := decide_eq_false c7
      by_cases c8 : x.f4 < 0
      · have d8 : decide (x.f4 < 0) = true := decide_eq_true c8
        have e : r = 2 := by rw [← HR.out]; unfold revenue_Right.chk revenue_Right.bad; simp [c8]
        subst e
        go_wp2
        go_ret
        exact ⟨rfl, (by repeat (first | (with_reducible first | exact HB.out | apply below_alloc) | refine below_set ?_ HSZ.out))⟩
      have d8 : decide (x.f4 < 0) = false := decide_eq_false c8
      by_cases c9 : 100000000 < x.f4
      · have d9 : decide (100000000 < x.f4) = true := decide_eq_true c9
        have e : r = 2 := by rw [← HR.out]; unfold revenue_Right.chk revenue_Right.bad; simp [c9]
        subst e
        go_wp2
        go_ret
        exact ⟨rfl, (by repeat (first | (with_reducible first | exact HB.out | apply below_alloc) | refine below_set ?_ HSZ.out))⟩
      have d9 : decide (100000000 < x.f4) = false := decide_eq_false c9
      by_cases c10 : x.f5 < 0
      · have d10 : decide (x.f5 < 0) = true := decide_eq_true c10
        have e : r = 1 := by rw [← HR.out]; unfold revenue_Right.chk revenue_Right.bad; simp [c0, c1, c2, c3, c4, c5, c6, c7, c8, c9, c10]
        subst e
        go_wp2
        go_ret
        exact ⟨rfl, (by repeat (first | (with_reducible first | exact HB.out | apply below_alloc) | refine below_set ?_ HSZ.out))⟩
      have d10 : decide (x.f5 < 0) = false := decide_eq_false c10
      by_cases c11 : x.f4 < x.f5
      · have d11 : decide (x.f4 < x.f5) = true := decide_eq_true c11
        have e : r = 1 := by rw [← HR.out]; unfold revenue_Right.chk revenue_Right.bad; simp [c0, c1, c2, c3, c4, c5, c6, c7, c8, c9, c10, c11]
        subst e
        go_wp2
        go_ret
        exact ⟨rfl, (by repeat (first | (with_reducible first | exact HB.out | apply below_alloc) | refine below_set ?_ HSZ.out))⟩
      have d11 : decide (x.f4 < x.f5) = false := decide_eq_false c11
      have hkey : keyOf Try.prog 3 (.int .i64 x.f0) = some (.int .i64 x.f0) := Go.Maps.keyOf_int_mk Try.underlying3 (by
        simp only [Lit.wf, Bool.and_eq_true, decide_eq_true_eq]
        have e1 : IntKind.i64.min = -9223372036854775808 := by decide
        have e2 : IntKind.i64.max = 9223372036854775807 := by decide
        omega)
      have HKEY := Aside0.mk hkey
      have HJM : Aside0 (j < maxLen) := ⟨by have := HCJ.out; have := HLEN.out; simp only [maxLen]; omega⟩
      clear hkey
      cases hs : S.contains x.f0 with
      | true =>
        have e : r = 7 := by rw [← HR.out]; unfold revenue_Right.chk revenue_Right.bad; simp only [hs]; simp [c0, c1, c2, c3, c4, c5, c6, c7, c8, c9, c10, c11]
        subst e
        have HSC := Aside0.mk hs
        clear hs
        go_wp2_with (first | ((at_lookup; refine revenue_Right.look _ rfl _ _ 58 rfl 3 4 K3 Try.underlying58 Try.underlying4 (Try.zeroValue4 _) w.heap.size j D rfl (HM.out.kept (grown_of_below (by repeat (first | (with_reducible first | exact Below.refl _ _ | apply below_alloc) | refine below_set ?_ (Nat.le_refl _))) none) (by simp)) _ _ rfl HKEY.out ?_; intro c hat; rw [HS.out.get] at hat; injection hat with hat; injection hat with hat; subst hat); rw [HSC.out]) | go_in)
        go_ret
        exact ⟨rfl, (by repeat (first | (with_reducible first | exact HB.out | apply below_alloc) | refine below_set ?_ HSZ.out))⟩
      | false =>
        have hr : revenue_Right.chk (l0.drop (j + 1)) (S ++ [x.f0]) = r := by
          have h1 := HR.out
          unfold revenue_Right.chk revenue_Right.bad at h1
          simp only [hs] at h1
          simpa [c0, c1, c2, c3, c4, c5, c6, c7, c8, c9, c10, c11] using h1
        clear HR
        have HR := Aside0.mk hr
        have HSC := Aside0.mk hs
        clear hs hr
        have e3 : wrap64 ((j : Int) + 1) = ((j + 1 : Nat) : Int) := by have := HCJ.out; have := HLEN.out; unfold wrap64; omega
        go_wp2_with (first | ((at_lookup; refine revenue_Right.look _ rfl _ _ 58 rfl 3 4 K3 Try.underlying58 Try.underlying4 (Try.zeroValue4 _) w.heap.size j D rfl (HM.out.kept (grown_of_below (by repeat (first | (with_reducible first | exact Below.refl _ _ | apply below_alloc) | refine below_set ?_ (Nat.le_refl _))) none) (by simp)) _ _ rfl HKEY.out ?_; intro c hat; rw [HS.out.get] at hat; injection hat with hat; injection hat with hat; subst hat); rw [HSC.out]) | (at_mapUpdate; refine wpList_mapUpdate_own _ rfl _ _ _ 58 rfl 3 4 K3 Try.underlying58 _ w.heap.size j D rfl (HM.out.kept (grown_of_below (by repeat (first | (with_reducible first | exact Below.refl _ _ | apply below_alloc) | refine below_set ?_ (Nat.le_refl _))) none) (by simp)) HJM.out _ _ _ rfl rfl HKEY.out (.lit (.bool true)) [] (by unfold plainElem; rw [Try.underlying4]; first | done | rfl) ?_; intro w3 hown3 hgrow3; have HM3 := Aside0.mk hown3; have HG3 : Aside0 (wr.grownBy w3 (some w.heap.size)) := ⟨(grown_of_below (by repeat (first | (with_reducible first | exact Below.refl _ _ | apply below_alloc) | refine below_set ?_ (Nat.le_refl _))) _).trans hgrow3⟩; clear hown3 hgrow3) | go_in)
        go_roundg (l0.length - (j + 1))
        case measure => have h1 := HI.out; have h2 := HCJ.out; clear e3; omega
        case rel => exact ⟨j + 1, _, _, by first | rw [e3] | (simp; done) | exact congrArg _ (Int.natCast_succ j).symm, ⟨Nat.le_refl _, HCJ.out⟩, HM3, ⟨HS.out.put x.f0⟩, HR, ⟨revenue_Right.below HB.out HB.out.size HG3.out (fun k hk => by simp at hk; omega)⟩⟩
    · obtain rfl : j = l0.length := by have := HI.out; omega
      have hr := HR.out
      rw [List.drop_length, revenue_Right.chk] at hr
      subst hr
      go_wp2
      go_ret
      exact ⟨rfl, HB.out⟩

/-! ### skiarearef10_SameInts: function 12 -/
def skiarearef10_SameInts.l0 : Nat → List Int → List Int → Int → Option (Bool)
  | 0, _, _, _ => none
  | k + 1, x0, x1, x5 => if x5 < (x0.length : Int) then (if 0 ≤ x5 then (if x5 < (x1.length : Int) then (if (rd x0 x5) = (rd x1 x5) then (skiarearef10_SameInts.l0 k x0 x1 (wrap64 (x5 + 1))) else (some false)) else (none)) else (none)) else (some true)
def skiarearef10_SameInts.f (k : Nat) (l0 : List Int) (l1 : List Int) : Option (Bool) := if (l0.length : Int) = (l1.length : Int) then (skiarearef10_SameInts.l0 k l0 l1 0) else (some false)
theorem skiarearef10_SameInts.mono_l : ∀ k, (∀ y0 y1 y2, LeO (skiarearef10_SameInts.l0 k y0 y1 y2) (skiarearef10_SameInts.l0 (k + 1) y0 y1 y2))
  | 0 => fun _ _ _ r h => by simp [skiarearef10_SameInts.l0] at h
  | k + 1 => by
    have ih0 := skiarearef10_SameInts.mono_l k
    · intro y0 y1 y2
      unfold skiarearef10_SameInts.l0
      repeat' first
      | (with_reducible exact ih0 _ _ _)
      | (with_reducible exact LeO.refl _)
      | (with_reducible exact LeO.none _)
      | (with_reducible refine LeO.ite ?_ ?_)
      | (with_reducible refine LeO.bind ?_ (fun _ => ?_))
      | exact ih0 _ _ _
      | exact LeO.none _
      | refine LeO.ite ?_ ?_
      | refine LeO.bind ?_ (fun _ => ?_)
theorem skiarearef10_SameInts.mono : ∀ a0 a1 k, LeO (skiarearef10_SameInts.f k a0 a1) (skiarearef10_SameInts.f (k + 1) a0 a1) := by
  intro a0 a1 k
  have ih0 := skiarearef10_SameInts.mono_l k
  unfold skiarearef10_SameInts.f
  repeat' first
      | (with_reducible exact ih0 _ _ _)
      | (with_reducible exact LeO.refl _)
      | (with_reducible exact LeO.none _)
      | (with_reducible refine LeO.ite ?_ ?_)
      | (with_reducible refine LeO.bind ?_ (fun _ => ?_))
      | exact ih0 _ _ _
      | exact LeO.none _
      | refine LeO.ite ?_ ?_
      | refine LeO.bind ?_ (fun _ => ?_)
set_option maxHeartbeats 8000000 in
set_option maxRecDepth 100000 in
theorem skiarearef10_SameInts.calls (k : Nat) (A0 : Option Addr) (c0 : Nat) (l0 : List Int) (A1 : Option Addr) (c1 : Nat) (l1 : List Int) (r : Bool) (w : World) (hr0 : Kd.C (Kd.int .i64) w A0 l0.length l0) (hc0 : l0.length ≤ c0) (hr1 : Kd.C (Kd.int .i64) w A1 l1.length l1) (hc1 : l1.length ≤ c1) (h : skiarearef10_SameInts.f k l0 l1 = some r) :
    Calls Try.prog 12 #[.slice A0 l0.length c0, .slice A1 l1.length c1] w fun e w' => e = .returned (.bool r) ∧ Drawn0 w w' := by
  have HR0 := Aside0.mk hr0
  have HC0 := Aside0.mk hc0
  clear hr0 hc0
  have HR1 := Aside0.mk hr1
  have HC1 := Aside0.mk hc1
  clear hr1 hc1
  have H : (if (l0.length : Int) = (l1.length : Int) then (skiarearef10_SameInts.l0 k l0 l1 0) else (some false)) = some r := h
  clear h
  by_cases c3 : (l0.length : Int) = (l1.length : Int)
  · rw [if_pos c3] at H
    have c3b0 : ((l0.length : Int) == (l1.length : Int)) = true := beq_iff_eq.mpr c3
    have c3b1 : ((l0.length : Int) != (l1.length : Int)) = false := bne_eq_false_iff_eq.mpr c3
    have c3b2 : (l0.length == l1.length) = true := by first | simpa using c3 | (simp at c3 ⊢; omega)
    clear c3
    have H' := Aside0.mk H
    clear H
    go_enter Try.func12, Try.ntmps12
    go_wp2
    repeat (go_quiet (fail); try go_wp2)
    go_loopg [5] k (fun kq v5 w' => ∃ (x5_1 : Int), v5 = .int .i64 x5_1 ∧ Aside0 (skiarearef10_SameInts.l0 kq l0 l1 x5_1 = some r) ∧ Aside0 (kq ≤ k) ∧ Drawn0 w w')
    case atStart => exact ⟨(0), (by first | rfl | (simp; done) | (simp [*]; done)), H', ⟨Nat.le_refl _⟩, by repeat (first | exact Drawn0.refl _ | apply Drawn0.step)⟩
    case round =>
      clear H'
      try clear c1
      try clear p2
      try clear c3
      try clear c3b0
      try clear c3b1
      try clear c3b2
      obtain ⟨x5_1, rfl, HA, HK1, ⟨m1, rfl⟩⟩ := hrel
      cases gk with
      | zero => exact absurd HA.out (by simp [skiarearef10_SameInts.l0])
      | succ k1 =>
        have H := HA.out
        clear HA
        simp only [skiarearef10_SameInts.l0] at H
        by_cases c4 : x5_1 < (l0.length : Int)
        · rw [if_pos c4] at H
          have c4b0 : decide (x5_1 < (l0.length : Int)) = true := decide_eq_true c4
          clear c4
          by_cases c5 : 0 ≤ x5_1
          · rw [if_pos c5] at H
            have c5b0 : decide (0 ≤ x5_1) = true := decide_eq_true c5
            clear c5
            by_cases c6 : x5_1 < (l1.length : Int)
            · rw [if_pos c6] at H
              have c6b0 : decide (x5_1 < (l1.length : Int)) = true := decide_eq_true c6
              clear c6
              by_cases c7 : (rd l0 x5_1) = (rd l1 x5_1)
              · rw [if_pos c7] at H
                have c7b0 : ((rd l0 x5_1) == (rd l1 x5_1)) = true := beq_iff_eq.mpr c7
                have c7b1 : ((rd l0 x5_1) != (rd l1 x5_1)) = false := bne_eq_false_iff_eq.mpr c7
                clear c7
                have H' := Aside0.mk H
                clear H
                have p101 : 0 ≤ (x5_1 : Int) := of_decide_eq_true (by first | (with_reducible assumption) | assumption)
                have q101 : x5_1 < (l0.length : Int) := of_decide_eq_true (by first | (with_reducible assumption) | assumption)
                obtain ⟨ad101, e101, hx101_0⟩ := Kd.at_int HR0.out x5_1 p101 q101
                cases e101
                replace p101 := eq_true p101
                replace q101 := eq_true q101
                have p102 : 0 ≤ (x5_1 : Int) := of_decide_eq_true (by first | (with_reducible assumption) | assumption)
                have q102 : x5_1 < (l1.length : Int) := of_decide_eq_true (by first | (with_reducible assumption) | assumption)
                obtain ⟨ad102, e102, hx102_0⟩ := Kd.at_int HR1.out x5_1 p102 q102
                cases e102
                replace p102 := eq_true p102
                replace q102 := eq_true q102
                go_wp2
                repeat (go_quiet (fail); try go_wp2)
                go_roundg k1
                case measure => have := HK1.out; omega
                case rel => exact ⟨(wrap64 (x5_1 + 1)), (by first | rfl | (simp; done) | (simp [*]; done)), H', ⟨by have := HK1.out; omega⟩, by repeat (first | exact Drawn0.refl _ | apply Drawn0.step)⟩
              · rw [if_neg c7] at H
                have c7b0 : ((rd l0 x5_1) == (rd l1 x5_1)) = false := beq_eq_false_iff_ne.mpr c7
                have c7b1 : ((rd l0 x5_1) != (rd l1 x5_1)) = true := bne_iff_ne.mpr c7
                obtain rfl := Option.some.inj H
                have p101 : 0 ≤ (x5_1 : Int) := of_decide_eq_true (by first | (with_reducible assumption) | assumption)
                have q101 : x5_1 < (l0.length : Int) := of_decide_eq_true (by first | (with_reducible assumption) | assumption)
                obtain ⟨ad101, e101, hx101_0⟩ := Kd.at_int HR0.out x5_1 p101 q101
                cases e101
                replace p101 := eq_true p101
                replace q101 := eq_true q101
                have p102 : 0 ≤ (x5_1 : Int) := of_decide_eq_true (by first | (with_reducible assumption) | assumption)
                have q102 : x5_1 < (l1.length : Int) := of_decide_eq_true (by first | (with_reducible assumption) | assumption)
                obtain ⟨ad102, e102, hx102_0⟩ := Kd.at_int HR1.out x5_1 p102 q102
                cases e102
                replace p102 := eq_true p102
                replace q102 := eq_true q102
                go_wp2
                repeat (go_quiet (fail); try go_wp2)
                go_ret
                exact ⟨by first | rfl | (simp; done) | (simp [*]; done), by repeat (first | exact Drawn0.refl _ | apply Drawn0.step)⟩
            · rw [if_neg c6] at H
              exact absurd H (by simp)
          · rw [if_neg c5] at H
            exact absurd H (by simp)
        · rw [if_neg c4] at H
          have c4b0 : decide (x5_1 < (l0.length : Int)) = false := decide_eq_false c4
          clear c4
          obtain rfl := Option.some.inj H
          go_wp2
          repeat (go_quiet (fail); try go_wp2)
          go_ret
          exact ⟨by first | rfl | (simp; done) | (simp [*]; done), by repeat (first | exact Drawn0.refl _ | apply Drawn0.step)⟩
  · rw [if_neg c3] at H
    have c3b0 : ((l0.length : Int) == (l1.length : Int)) = false := beq_eq_false_iff_ne.mpr c3
    have c3b1 : ((l0.length : Int) != (l1.length : Int)) = true := bne_iff_ne.mpr c3
    have c3b2 : (l0.length == l1.length) = false := by first | simpa using c3 | (simp at c3 ⊢; omega)
    obtain rfl := Option.some.inj H
    go_enter Try.func12, Try.ntmps12
    go_wp2
    repeat (go_quiet (fail); try go_wp2)
    go_ret
    exact ⟨by first | rfl | (simp; done) | (simp [*]; done), by repeat (first | exact Drawn0.refl _ | apply Drawn0.step)⟩

/-! ### api_Lift: function 41 (by hand) -/
set_option maxHeartbeats 4000000 in
set_option maxRecDepth 100000 in
theorem idx64 (A : Option Addr) (c : Nat) (xs : List S64) (p : S64 → Bool) (g : Nat) (lb : Array Value) (eg : ∀ args w, (callFunc g args).run Try.prog w = .ok (.enter g args) w) (w : World) (hr : Kd.C k64 w A xs.length xs)
    (hp : ∀ W x, x ∈ xs → Below w.heap.size w W → Calls Try.prog g (#[.agg #[.int .i64 x.f0, .int .i64 x.f1, .int .i64 x.f2, .int .i64 x.f3, .int .i64 x.f4, .int .i64 x.f5, .int .i64 x.f6, .int .i64 x.f7]] ++ lb) W fun e w' => e = .returned (.bool (p x)) ∧ Below w.heap.size w w') :
    Calls Try.prog 41 #[.slice A xs.length c, .func (.func g) #[] lb] w fun e w' => e = .returned (.int .i64 (idxP p xs)) ∧ Below w.heap.size w w' := by
  have hu64 := Try.underlying64
  have HR := Aside0.mk hr
  have HP := Aside0.mk hp
  have HM : Aside0 (xs.length ≤ 9223372036854775807) := ⟨hr.2.1⟩
  have HB := Aside0.mk (Below.refl w.heap.size w)
  clear hr hp
  go_enter Try.func41, Try.ntmps41
  go_wp2
  go_loopg [8] xs.length (fun gg s8 wr => ∃ x8 : Int, s8 = .int .i64 x8 ∧ Aside0 (0 ≤ x8 ∧ x8 ≤ xs.length ∧ (xs.length : Int) - x8 ≤ gg ∧ ∀ j : Nat, (j : Int) < x8 → p (xs.getD j z64) = false) ∧ Aside0 (Below w.heap.size w wr))
  case atStart => exact ⟨0, rfl, ⟨by omega, by omega, by omega, fun j hj => absurd hj (by omega)⟩, HB⟩
  case round =>
    clear HB
    obtain ⟨x8, rfl, HA, HB⟩ := hrel
    obtain ⟨a1, a2, a3, a4⟩ := HA.out
    have A1 := Aside0.mk a1
    have A2 := Aside0.mk a2
    have A3 := Aside0.mk a3
    have A4 := Aside0.mk a4
    clear a1 a2 a3 a4 HA
    by_cases c3 : x8 < (xs.length : Int)
    · have q1 := c3
      have p1 := A1.out
      obtain ⟨ad, e0, hx0, hx1, hx2, hx3, hx4, hx5, hx6, hx7⟩ := at_T64 HR.out x8 p1 q1
      cases e0
      replace hx0 := (HB.out.cell (World.block_lt_of_cell? w _ hx0)).trans hx0
      replace hx1 := (HB.out.cell (World.block_lt_of_cell? w _ hx1)).trans hx1
      replace hx2 := (HB.out.cell (World.block_lt_of_cell? w _ hx2)).trans hx2
      replace hx3 := (HB.out.cell (World.block_lt_of_cell? w _ hx3)).trans hx3
      replace hx4 := (HB.out.cell (World.block_lt_of_cell? w _ hx4)).trans hx4
      replace hx5 := (HB.out.cell (World.block_lt_of_cell? w _ hx5)).trans hx5
      replace hx6 := (HB.out.cell (World.block_lt_of_cell? w _ hx6)).trans hx6
      replace hx7 := (HB.out.cell (World.block_lt_of_cell? w _ hx7)).trans hx7
      have hmem : rd_T64 xs x8 ∈ xs := by
        have h1 : x8.toNat < xs.length := by omega
        unfold rd_T64
        rw [List.getD_eq_getElem?_getD, List.getElem?_eq_getElem h1]
        exact List.getElem_mem h1
      have hcall := HP.out wr _ hmem HB.out
      have HX : Aside0 (rd_T64 xs x8 = xs.getD x8.toNat z64) := ⟨rfl⟩
      have C3 := Aside0.mk c3
      clear hmem
      have c3b : decide (x8 < (xs.length : Int)) = true := decide_eq_true c3
      have hw : wrap64 (x8 + 1) = x8 + 1 := by have := HM.out; unfold wrap64; omega
      have HW := Aside0.mk hw
      clear hw c3
      replace p1 := eq_true p1
      replace q1 := eq_true q1
      generalize rd_T64 xs x8 = y at hx0 hx1 hx2 hx3 hx4 hx5 hx6 hx7 hcall HX
      cases hq : p y with
      | true =>
        rw [hq] at hcall
        have HQ := Aside0.mk hq
        clear hq
        go_wp2_with (go_at_fn g; refine hcall.mono ?_; rintro e w' ⟨rfl, hb'⟩)
        go_ret
        refine ⟨?_, hb'⟩
        rw [idxP_hit p xs x8.toNat (z := z64) (by have := C3.out; have := A1.out; omega) (by rw [← HX.out]; exact HQ.out) (fun j hj => A4.out j (by have := A1.out; omega))]
        rw [Int.toNat_of_nonneg A1.out]
        rfl
      | false =>
        rw [hq] at hcall
        have HQ := Aside0.mk hq
        clear hq
        go_wp2_with (go_at_fn g; refine hcall.mono ?_; rintro e w' ⟨rfl, hb'⟩)
        go_roundg (xs.length - (x8.toNat + 1))
        case measure => have := A3.out; have := A1.out; have := C3.out; omega
        case rel =>
          refine ⟨x8 + 1, by rw [HW.out], ⟨?_⟩, ⟨hb'⟩⟩
          have h1 := A1.out
          have h2 := C3.out
          refine ⟨by omega, by omega, by omega, fun j hj => ?_⟩
          by_cases e : (j : Int) = x8
          · have : j = x8.toNat := by omega
            rw [this, ← HX.out]; exact HQ.out
          · exact A4.out j (by omega)
    · have c3b : decide (x8 < (xs.length : Int)) = false := decide_eq_false c3
      have C3 := Aside0.mk c3
      clear c3
      go_wp2
      go_ret
      refine ⟨?_, HB.out⟩
      rw [idxP_miss p xs (z := z64) (fun j hj => A4.out j (by have := C3.out; omega))]
      rfl

/-! ### terrain_Lift: function 25 (by hand) -/
def terrain_Lift.p (a1 : Int) (x : S64) : Bool := x.f0 == a1
def terrain_Lift.f (l0_0 : List (S107)) (l0_1 : List (S64)) (l0_2 : List (S109)) (l0_3 : List Int) (a1 : Int) : Option (Int × Int × Int × Int × Int × Int × Int × Int × Bool) :=
  match l0_1.find? (terrain_Lift.p a1) with
  | some x => some (x.f0, x.f1, x.f2, x.f3, x.f4, x.f5, x.f6, x.f7, true)
  | none => some (0, 0, 0, 0, 0, 0, 0, 0, false)
theorem terrain_Lift.at {α : Type} (p : α → Bool) : ∀ l : List α, (idxP p l = -1 ∧ l.find? p = none) ∨ ∃ (i : Nat) (x : α), idxP p l = (i : Int) ∧ l[i]? = some x ∧ l.find? p = some x
  | [] => .inl ⟨rfl, rfl⟩
  | y :: l => by
    by_cases hy : p y = true
    · exact .inr ⟨0, y, by unfold idxP; rw [List.findIdx?_cons, if_pos hy], rfl, by rw [List.find?_cons_of_pos hy]⟩
    · rcases terrain_Lift.at p l with ⟨h1, h2⟩ | ⟨i, x, h1, h2, h3⟩
      · refine .inl ⟨?_, by rw [List.find?_cons_of_neg hy]; exact h2⟩
        unfold idxP at h1 ⊢
        rw [List.findIdx?_cons, if_neg hy]
        cases hf : l.findIdx? p with
        | none => rfl
        | some j => rw [hf] at h1; simp only at h1; omega
      · refine .inr ⟨i + 1, x, ?_, h2, by rw [List.find?_cons_of_neg hy]; exact h3⟩
        unfold idxP at h1 ⊢
        rw [List.findIdx?_cons, if_neg hy]
        cases hf : l.findIdx? p with
        | none => rw [hf] at h1; simp only at h1; omega
        | some j =>
          rw [hf] at h1
          simp only at h1
          have : j = i := by omega
          subst this
          rfl
set_option maxHeartbeats 4000000 in
set_option maxRecDepth 100000 in
theorem terrain_Lift.pred (a1 : Int) (B : Nat) (w W : World) (x : S64) (hB : B < w.heap.size) (hcell : w.cell? ⟨B, 0, none⟩ = some (.int .i64 a1)) (hb : Below w.heap.size w W) :
    Calls Try.prog 42 #[.agg #[.int .i64 x.f0, .int .i64 x.f1, .int .i64 x.f2, .int .i64 x.f3, .int .i64 x.f4, .int .i64 x.f5, .int .i64 x.f6, .int .i64 x.f7], .pointer (some ⟨B, 0, none⟩)] W fun e w' => e = .returned (.bool (terrain_Lift.p a1 x)) ∧ Below w.heap.size w w' := by
  have hc : W.cell? ⟨B, 0, none⟩ = some (.int .i64 a1) := (hb.cell (p := ⟨B, 0, none⟩) hB).trans hcell
  have hBW : B < W.heap.size := Nat.lt_of_lt_of_le hB hb.size
  have hne : B ≠ W.heap.size := by omega
  have HB := Aside0.mk hb
  have hu64 := Try.underlying64
  clear hb hcell
  unfold terrain_Lift.p
  go_enter Try.func42, Try.ntmps42
  go_wp2
  go_ret
  exact ⟨by first | rfl | (simp; done) | (simp; omega), by first | exact HB.out | exact (HB.out.alloc HB.out.size _)⟩
set_option maxHeartbeats 8000000 in
set_option maxRecDepth 100000 in
theorem terrain_Lift.calls (A0_0 : Option Addr) (c0_0 : Nat) (l0_0 : List (S107)) (A0_1 : Option Addr) (c0_1 : Nat) (l0_1 : List (S64)) (A0_2 : Option Addr) (c0_2 : Nat) (l0_2 : List (S109)) (A0_3 : Option Addr) (c0_3 : Nat) (l0_3 : List Int) (a1 : Int) (r1 : Int) (r2 : Int) (r3 : Int) (r4 : Int) (r5 : Int) (r6 : Int) (r7 : Int) (r8 : Int) (r9 : Bool) (w : World) (hr0_0 : Kd.C k107 w A0_0 l0_0.length l0_0) (hc0_0 : l0_0.length ≤ c0_0) (hr0_1 : Kd.C k64 w A0_1 l0_1.length l0_1) (hc0_1 : l0_1.length ≤ c0_1) (hr0_2 : Kd.C k109 w A0_2 l0_2.length l0_2) (hc0_2 : l0_2.length ≤ c0_2) (hr0_3 : Kd.C (Kd.int .i64) w A0_3 l0_3.length l0_3) (hc0_3 : l0_3.length ≤ c0_3) (h : terrain_Lift.f l0_0 l0_1 l0_2 l0_3 a1 = some (r1, r2, r3, r4, r5, r6, r7, r8, r9)) :
    Calls Try.prog 25 #[.agg #[.slice A0_0 l0_0.length c0_0, .slice A0_1 l0_1.length c0_1, .slice A0_2 l0_2.length c0_2, .slice A0_3 l0_3.length c0_3], .int .i64 a1] w fun e w' => e = .returned (.tuple #[.agg #[.int .i64 r1, .int .i64 r2, .int .i64 r3, .int .i64 r4, .int .i64 r5, .int .i64 r6, .int .i64 r7, .int .i64 r8], .bool r9]) ∧ Below w.heap.size w w' := by
  have hu32 := Try.underlying32
  have hu64 := Try.underlying64
  have HB := Aside0.mk (Below.refl w.heap.size w)
  have HR := Aside0.mk hr0_1
  have eg : ∀ args w, (callFunc 42 args).run Try.prog w = .ok (.enter 42 args) w := enters_of Try.func42 (by kernel_rfl) rfl
  unfold terrain_Lift.f at h
  rcases terrain_Lift.at (terrain_Lift.p a1) l0_1 with ⟨hv, hf⟩ | ⟨i, x, hv, hx, hf⟩
  · rw [hf] at h
    simp only [Option.some.injEq, Prod.mk.injEq] at h
    obtain ⟨rfl, rfl, rfl, rfl, rfl, rfl, rfl, rfl, rfl⟩ := h
    have HI : Aside0 (∀ (W : World) (B : Nat), Below w.heap.size w W → W.cell? ⟨B, 0, none⟩ = some (.int .i64 a1) → B < W.heap.size → Calls Try.prog 41 #[.slice A0_1 l0_1.length c0_1, .func (.func 42) #[] #[.pointer (some ⟨B, 0, none⟩)]] W fun e w' => e = .returned (.int .i64 (-1)) ∧ Below W.heap.size W w') := ⟨fun W B hb hc hB => by rw [← hv]; exact idx64 A0_1 c0_1 l0_1 (terrain_Lift.p a1) 42 _ eg W (Kd.C_below HR.out hb) (fun W' x _ hb' => terrain_Lift.pred a1 B W W' x hB hc hb')⟩
    clear hr0_0 hr0_1 hr0_2 hr0_3 hf hv eg
    go_enter Try.func25, Try.ntmps25
    go_wp2_with (first | ((with_reducible refine gate_dst (N := 2) rfl ?_); refine box_event ?hg (N := 2) ?hd (cs := #[.slice A0_0 l0_0.length c0_0, .slice A0_1 l0_1.length c0_1, .slice A0_2 l0_2.length c0_2, .slice A0_3 l0_3.length c0_3]) (t := 32) ?hr ?_; (case hd => rfl); (case hg => rfl); (case hr => first | (go_simp; done) | (go_simp; rfl)); intro gb2 hg ww2 hbox hb; have n0_ := Aside0.mk (below_step (by repeat (first | (with_reducible first | exact HB.out | apply below_alloc | apply pw_below_drewN | apply below_drew1 | refine below_set ?_ GE2.out | refine below_set ?_ GE3.out | refine below_set ?_ GE4.out) | exact HB.out)) hb); have n1_ := Aside0.mk hbox; have n2_ := Aside0.mk (by rw [hg]; exact below_size (by repeat (first | (with_reducible first | exact HB.out | apply below_alloc | apply pw_below_drewN | apply below_drew1 | refine below_set ?_ GE2.out | refine below_set ?_ GE3.out | refine below_set ?_ GE4.out) | exact HB.out)) : w.heap.size ≤ gb2); clear HB; have HB := n0_; have BK2 := n1_; have GE2 := n2_; clear n0_ n1_ n2_; clear hb hbox hg) | ((with_reducible refine gate_dst (N := 3) rfl ?_); refine box_event ?hg (N := 3) ?hd (cs := #[.int .i64 a1]) (t := 3) ?hr ?_; (case hd => rfl); (case hg => rfl); (case hr => first | (go_simp; done) | (go_simp; rfl)); intro gb3 hg ww3 hbox hb; have q0_ := Aside0.mk (blk_below (g := gb2) (o := .cells #[.slice A0_0 l0_0.length c0_0, .slice A0_1 l0_1.length c0_1, .slice A0_2 l0_2.length c0_2, .slice A0_3 l0_3.length c0_3] 32 (0, 0)) (by (with_reducible repeat (first | refine blk_drewN ?_ _ | refine blk_drew ?_ | refine blk_alloc ?_ _)); exact BK2.out) hb); have e0_ := Aside0.mk (by rw [hg]; exact Nat.ne_of_lt (blk_lt (g := gb2) (o := .cells #[.slice A0_0 l0_0.length c0_0, .slice A0_1 l0_1.length c0_1, .slice A0_2 l0_2.length c0_2, .slice A0_3 l0_3.length c0_3] 32 (0, 0)) (by (with_reducible repeat (first | refine blk_drewN ?_ _ | refine blk_drew ?_ | refine blk_alloc ?_ _)); exact BK2.out)) : gb2 ≠ gb3); have n0_ := Aside0.mk (below_step (by repeat (first | (with_reducible first | exact HB.out | apply below_alloc | apply pw_below_drewN | apply below_drew1 | refine below_set ?_ GE2.out | refine below_set ?_ GE3.out | refine below_set ?_ GE4.out) | exact HB.out)) hb); have n1_ := Aside0.mk hbox; have n2_ := Aside0.mk (by rw [hg]; exact below_size (by repeat (first | (with_reducible first | exact HB.out | apply below_alloc | apply pw_below_drewN | apply below_drew1 | refine below_set ?_ GE2.out | refine below_set ?_ GE3.out | refine below_set ?_ GE4.out) | exact HB.out)) : w.heap.size ≤ gb3); clear HB; clear BK2; have BK2 := q0_; clear q0_; have NB2_3 := e0_; clear e0_; have HB := n0_; have BK3 := n1_; have GE3 := n2_; clear n0_ n1_ n2_; clear hb hbox hg) | ((with_reducible refine gate_dst (N := 4) rfl ?_); refine box_event ?hg (N := 4) ?hd (cs := #[.int .i64 0, .int .i64 0, .int .i64 0, .int .i64 0, .int .i64 0, .int .i64 0, .int .i64 0, .int .i64 0]) (t := 64) ?hr ?_; (case hd => rfl); (case hg => rfl); (case hr => first | (go_simp; done) | (go_simp; rfl)); intro gb4 hg ww4 hbox hb; have q0_ := Aside0.mk (blk_below (g := gb2) (o := .cells #[.slice A0_0 l0_0.length c0_0, .slice A0_1 l0_1.length c0_1, .slice A0_2 l0_2.length c0_2, .slice A0_3 l0_3.length c0_3] 32 (0, 0)) (by (with_reducible repeat (first | refine blk_drewN ?_ _ | refine blk_drew ?_ | refine blk_alloc ?_ _)); exact BK2.out) hb); have q1_ := Aside0.mk (blk_below (g := gb3) (o := .cells #[.int .i64 a1] 3 (0, 0)) (by (with_reducible repeat (first | refine blk_drewN ?_ _ | refine blk_drew ?_ | refine blk_alloc ?_ _)); exact BK3.out) hb); have e0_ := Aside0.mk (by rw [hg]; exact Nat.ne_of_lt (blk_lt (g := gb2) (o := .cells #[.slice A0_0 l0_0.length c0_0, .slice A0_1 l0_1.length c0_1, .slice A0_2 l0_2.length c0_2, .slice A0_3 l0_3.length c0_3] 32 (0, 0)) (by (with_reducible repeat (first | refine blk_drewN ?_ _ | refine blk_drew ?_ | refine blk_alloc ?_ _)); exact BK2.out)) : gb2 ≠ gb4); have e1_ := Aside0.mk (by rw [hg]; exact Nat.ne_of_lt (blk_lt (g := gb3) (o := .cells #[.int .i64 a1] 3 (0, 0)) (by (with_reducible repeat (first | refine blk_drewN ?_ _ | refine blk_drew ?_ | refine blk_alloc ?_ _)); exact BK3.out)) : gb3 ≠ gb4); have n0_ := Aside0.mk (below_step (by repeat (first | (with_reducible first | exact HB.out | apply below_alloc | apply pw_below_drewN | apply below_drew1 | refine below_set ?_ GE2.out | refine below_set ?_ GE3.out | refine below_set ?_ GE4.out) | exact HB.out)) hb); have n1_ := Aside0.mk hbox; have n2_ := Aside0.mk (by rw [hg]; exact below_size (by repeat (first | (with_reducible first | exact HB.out | apply below_alloc | apply pw_below_drewN | apply below_drew1 | refine below_set ?_ GE2.out | refine below_set ?_ GE3.out | refine below_set ?_ GE4.out) | exact HB.out)) : w.heap.size ≤ gb4); clear HB; clear BK2; have BK2 := q0_; clear q0_; clear BK3; have BK3 := q1_; clear q1_; have NB2_4 := e0_; clear e0_; have NB3_4 := e1_; clear e1_; have HB := n0_; have BK4 := n1_; have GE4 := n2_; clear n0_ n1_ n2_; clear hb hbox hg; have hz_ : ww4.cell? ⟨gb2, 1, none⟩ = some (.slice A0_1 l0_1.length c0_1) := (blk_cell BK2.out 1).trans rfl) | (go_at_call 41; refine (HI.out _ gb3 (by repeat (first | (with_reducible first | exact HB.out | apply below_alloc | apply pw_below_drewN | apply below_drew1 | refine below_set ?_ GE2.out | refine below_set ?_ GE3.out | refine below_set ?_ GE4.out) | exact HB.out)) (by (with_reducible repeat (first | refine blk_drewN ?_ _ | refine blk_drew ?_ | refine blk_alloc ?_ _)); exact (blk_cell BK3.out 0).trans rfl) (blk_lt BK3.out)).mono ?_; rintro e w5 ⟨rfl, hb⟩; have q0_ := Aside0.mk (blk_below (g := gb2) (o := .cells #[.slice A0_0 l0_0.length c0_0, .slice A0_1 l0_1.length c0_1, .slice A0_2 l0_2.length c0_2, .slice A0_3 l0_3.length c0_3] 32 (0, 0)) (by (with_reducible repeat (first | refine blk_drewN ?_ _ | refine blk_drew ?_ | refine blk_alloc ?_ _)); exact BK2.out) hb); have q1_ := Aside0.mk (blk_below (g := gb4) (o := .cells #[.int .i64 0, .int .i64 0, .int .i64 0, .int .i64 0, .int .i64 0, .int .i64 0, .int .i64 0, .int .i64 0] 64 (0, 0)) (by (with_reducible repeat (first | refine blk_drewN ?_ _ | refine blk_drew ?_ | refine blk_alloc ?_ _)); exact BK4.out) hb); have n0_ := Aside0.mk (below_step (by repeat (first | (with_reducible first | exact HB.out | apply below_alloc | apply pw_below_drewN | apply below_drew1 | refine below_set ?_ GE2.out | refine below_set ?_ GE3.out | refine below_set ?_ GE4.out) | exact HB.out)) hb); clear HB; have HB := n0_; clear n0_; clear BK2; have BK2 := q0_; clear q0_; clear BK4; have BK4 := q1_; clear q1_; clear hb hz_; have hz_ : w5.cell? ⟨gb2, 1, none⟩ = some (.slice A0_1 l0_1.length c0_1) := (blk_cell BK2.out 1).trans rfl; have hcz0 := (blk_cell BK4.out 0).trans rfl; have hcz1 := (blk_cell BK4.out 1).trans rfl; have hcz2 := (blk_cell BK4.out 2).trans rfl; have hcz3 := (blk_cell BK4.out 3).trans rfl; have hcz4 := (blk_cell BK4.out 4).trans rfl; have hcz5 := (blk_cell BK4.out 5).trans rfl; have hcz6 := (blk_cell BK4.out 6).trans rfl; have hcz7 := (blk_cell BK4.out 7).trans rfl; have hfz0 := blk_frozen BK4.out 0; have hfz1 := blk_frozen BK4.out 1; have hfz2 := blk_frozen BK4.out 2; have hfz3 := blk_frozen BK4.out 3; have hfz4 := blk_frozen BK4.out 4; have hfz5 := blk_frozen BK4.out 5; have hfz6 := blk_frozen BK4.out 6; have hfz7 := blk_frozen BK4.out 7))
    refine bodyPost_ret (results_ct rfl _ _ gb4 64 #[.int .i64 0, .int .i64 0, .int .i64 0, .int .i64 0, .int .i64 0, .int .i64 0, .int .i64 0, .int .i64 0] (0, 0) _ rfl (by (with_reducible repeat (first | refine blk_drewN ?_ _ | refine blk_drew ?_ | refine blk_alloc ?_ _)); refine blk_put (cs := #[.int .i64 0, .int .i64 0, .int .i64 0, .int .i64 0, .int .i64 0, .int .i64 0, .int .i64 0, .int .i64 0]) ?_ 7 _ rfl; (with_reducible repeat (first | refine blk_drewN ?_ _ | refine blk_drew ?_ | refine blk_alloc ?_ _)); refine blk_put (cs := #[.int .i64 0, .int .i64 0, .int .i64 0, .int .i64 0, .int .i64 0, .int .i64 0, .int .i64 0, .int .i64 0]) ?_ 6 _ rfl; (with_reducible repeat (first | refine blk_drewN ?_ _ | refine blk_drew ?_ | refine blk_alloc ?_ _)); refine blk_put (cs := #[.int .i64 0, .int .i64 0, .int .i64 0, .int .i64 0, .int .i64 0, .int .i64 0, .int .i64 0, .int .i64 0]) ?_ 5 _ rfl; (with_reducible repeat (first | refine blk_drewN ?_ _ | refine blk_drew ?_ | refine blk_alloc ?_ _)); refine blk_put (cs := #[.int .i64 0, .int .i64 0, .int .i64 0, .int .i64 0, .int .i64 0, .int .i64 0, .int .i64 0, .int .i64 0]) ?_ 4 _ rfl; (with_reducible repeat (first | refine blk_drewN ?_ _ | refine blk_drew ?_ | refine blk_alloc ?_ _)); refine blk_put (cs := #[.int .i64 0, .int .i64 0, .int .i64 0, .int .i64 0, .int .i64 0, .int .i64 0, .int .i64 0, .int .i64 0]) ?_ 3 _ rfl; (with_reducible repeat (first | refine blk_drewN ?_ _ | refine blk_drew ?_ | refine blk_alloc ?_ _)); refine blk_put (cs := #[.int .i64 0, .int .i64 0, .int .i64 0, .int .i64 0, .int .i64 0, .int .i64 0, .int .i64 0, .int .i64 0]) ?_ 2 _ rfl; (with_reducible repeat (first | refine blk_drewN ?_ _ | refine blk_drew ?_ | refine blk_alloc ?_ _)); refine blk_put (cs := #[.int .i64 0, .int .i64 0, .int .i64 0, .int .i64 0, .int .i64 0, .int .i64 0, .int .i64 0, .int .i64 0]) ?_ 1 _ rfl; (with_reducible repeat (first | refine blk_drewN ?_ _ | refine blk_drew ?_ | refine blk_alloc ?_ _)); refine blk_put (cs := #[.int .i64 0, .int .i64 0, .int .i64 0, .int .i64 0, .int .i64 0, .int .i64 0, .int .i64 0, .int .i64 0]) ?_ 0 _ rfl; (with_reducible repeat (first | refine blk_drewN ?_ _ | refine blk_drew ?_ | refine blk_alloc ?_ _)); exact BK4.out) Try.underlying64 rfl (by kernel_rfl)) rfl ?_
    exact ⟨rfl, (by repeat (first | (with_reducible first | exact HB.out | apply below_alloc | apply pw_below_drewN | apply below_drew1 | refine below_set ?_ GE2.out | refine below_set ?_ GE3.out | refine below_set ?_ GE4.out) | exact HB.out))⟩
  · rw [hf] at h
    simp only [Option.some.injEq, Prod.mk.injEq] at h
    obtain ⟨rfl, rfl, rfl, rfl, rfl, rfl, rfl, rfl, rfl⟩ := h
    have hil : i < l0_1.length := (List.getElem?_eq_some_iff.1 hx).1
    have p0 : (0 : Int) ≤ (i : Int) := by omega
    have q0 : (i : Int) < (l0_1.length : Int) := by omega
    have hrd : rd_T64 l0_1 (i : Int) = x := by unfold rd_T64; rw [Int.toNat_natCast, List.getD_eq_getElem?_getD, hx, Option.getD_some]
    obtain ⟨ad, ea, hx_0, hx_1, hx_2, hx_3, hx_4, hx_5, hx_6, hx_7⟩ := at_T64 HR.out (i : Int) p0 q0
    rw [hrd, Int.toNat_natCast] at hx_0 hx_1 hx_2 hx_3 hx_4 hx_5 hx_6 hx_7
    cases ea
    have HI : Aside0 (∀ (W : World) (B : Nat), Below w.heap.size w W → W.cell? ⟨B, 0, none⟩ = some (.int .i64 a1) → B < W.heap.size → Calls Try.prog 41 #[.slice (some ad) l0_1.length c0_1, .func (.func 42) #[] #[.pointer (some ⟨B, 0, none⟩)]] W fun e w' => e = .returned (.int .i64 (i : Int)) ∧ Below W.heap.size W w') := ⟨fun W B hb hc hB => by rw [← hv]; exact idx64 _ c0_1 l0_1 (terrain_Lift.p a1) 42 _ eg W (Kd.C_below HR.out hb) (fun W' x _ hb' => terrain_Lift.pred a1 B W W' x hB hc hb')⟩
    have hneg : decide ((i : Int) < 0) = false := decide_eq_false (by omega)
    replace p0 := eq_true p0
    replace q0 := eq_true q0
    clear hr0_0 hr0_1 hr0_2 hr0_3 hf hv eg hx hrd
    go_enter Try.func25, Try.ntmps25
    go_wp2_with (first | ((with_reducible refine gate_dst (N := 2) rfl ?_); refine box_event ?hg (N := 2) ?hd (cs := #[.slice A0_0 l0_0.length c0_0, .slice (some ad) l0_1.length c0_1, .slice A0_2 l0_2.length c0_2, .slice A0_3 l0_3.length c0_3]) (t := 32) ?hr ?_; (case hd => rfl); (case hg => rfl); (case hr => first | (go_simp; done) | (go_simp; rfl)); intro gb2 hg ww2 hbox hb; have n0_ := Aside0.mk (below_step (by repeat (first | (with_reducible first | exact HB.out | apply below_alloc | apply pw_below_drewN | apply below_drew1 | refine below_set ?_ GE2.out | refine below_set ?_ GE3.out | refine below_set ?_ GE4.out) | exact HB.out)) hb); have n1_ := Aside0.mk hbox; have n2_ := Aside0.mk (by rw [hg]; exact below_size (by repeat (first | (with_reducible first | exact HB.out | apply below_alloc | apply pw_below_drewN | apply below_drew1 | refine below_set ?_ GE2.out | refine below_set ?_ GE3.out | refine below_set ?_ GE4.out) | exact HB.out)) : w.heap.size ≤ gb2); clear HB; have HB := n0_; have BK2 := n1_; have GE2 := n2_; clear n0_ n1_ n2_; clear hb hbox hg) | ((with_reducible refine gate_dst (N := 3) rfl ?_); refine box_event ?hg (N := 3) ?hd (cs := #[.int .i64 a1]) (t := 3) ?hr ?_; (case hd => rfl); (case hg => rfl); (case hr => first | (go_simp; done) | (go_simp; rfl)); intro gb3 hg ww3 hbox hb; have q0_ := Aside0.mk (blk_below (g := gb2) (o := .cells #[.slice A0_0 l0_0.length c0_0, .slice (some ad) l0_1.length c0_1, .slice A0_2 l0_2.length c0_2, .slice A0_3 l0_3.length c0_3] 32 (0, 0)) (by (with_reducible repeat (first | refine blk_drewN ?_ _ | refine blk_drew ?_ | refine blk_alloc ?_ _)); exact BK2.out) hb); have e0_ := Aside0.mk (by rw [hg]; exact Nat.ne_of_lt (blk_lt (g := gb2) (o := .cells #[.slice A0_0 l0_0.length c0_0, .slice (some ad) l0_1.length c0_1, .slice A0_2 l0_2.length c0_2, .slice A0_3 l0_3.length c0_3] 32 (0, 0)) (by (with_reducible repeat (first | refine blk_drewN ?_ _ | refine blk_drew ?_ | refine blk_alloc ?_ _)); exact BK2.out)) : gb2 ≠ gb3); have n0_ := Aside0.mk (below_step (by repeat (first | (with_reducible first | exact HB.out | apply below_alloc | apply pw_below_drewN | apply below_drew1 | refine below_set ?_ GE2.out | refine below_set ?_ GE3.out | refine below_set ?_ GE4.out) | exact HB.out)) hb); have n1_ := Aside0.mk hbox; have n2_ := Aside0.mk (by rw [hg]; exact below_size (by repeat (first | (with_reducible first | exact HB.out | apply below_alloc | apply pw_below_drewN | apply below_drew1 | refine below_set ?_ GE2.out | refine below_set ?_ GE3.out | refine below_set ?_ GE4.out) | exact HB.out)) : w.heap.size ≤ gb3); clear HB; clear BK2; have BK2 := q0_; clear q0_; have NB2_3 := e0_; clear e0_; have HB := n0_; have BK3 := n1_; have GE3 := n2_; clear n0_ n1_ n2_; clear hb hbox hg) | ((with_reducible refine gate_dst (N := 4) rfl ?_); refine box_event ?hg (N := 4) ?hd (cs := #[.int .i64 0, .int .i64 0, .int .i64 0, .int .i64 0, .int .i64 0, .int .i64 0, .int .i64 0, .int .i64 0]) (t := 64) ?hr ?_; (case hd => rfl); (case hg => rfl); (case hr => first | (go_simp; done) | (go_simp; rfl)); intro gb4 hg ww4 hbox hb; have q0_ := Aside0.mk (blk_below (g := gb2) (o := .cells #[.slice A0_0 l0_0.length c0_0, .slice (some ad) l0_1.length c0_1, .slice A0_2 l0_2.length c0_2, .slice A0_3 l0_3.length c0_3] 32 (0, 0)) (by (with_reducible repeat (first | refine blk_drewN ?_ _ | refine blk_drew ?_ | refine blk_alloc ?_ _)); exact BK2.out) hb); have q1_ := Aside0.mk (blk_below (g := gb3) (o := .cells #[.int .i64 a1] 3 (0, 0)) (by (with_reducible repeat (first | refine blk_drewN ?_ _ | refine blk_drew ?_ | refine blk_alloc ?_ _)); exact BK3.out) hb); have e0_ := Aside0.mk (by rw [hg]; exact Nat.ne_of_lt (blk_lt (g := gb2) (o := .cells #[.slice A0_0 l0_0.length c0_0, .slice (some ad) l0_1.length c0_1, .slice A0_2 l0_2.length c0_2, .slice A0_3 l0_3.length c0_3] 32 (0, 0)) (by (with_reducible repeat (first | refine blk_drewN ?_ _ | refine blk_drew ?_ | refine blk_alloc ?_ _)); exact BK2.out)) : gb2 ≠ gb4); have e1_ := Aside0.mk (by rw [hg]; exact Nat.ne_of_lt (blk_lt (g := gb3) (o := .cells #[.int .i64 a1] 3 (0, 0)) (by (with_reducible repeat (first | refine blk_drewN ?_ _ | refine blk_drew ?_ | refine blk_alloc ?_ _)); exact BK3.out)) : gb3 ≠ gb4); have n0_ := Aside0.mk (below_step (by repeat (first | (with_reducible first | exact HB.out | apply below_alloc | apply pw_below_drewN | apply below_drew1 | refine below_set ?_ GE2.out | refine below_set ?_ GE3.out | refine below_set ?_ GE4.out) | exact HB.out)) hb); have n1_ := Aside0.mk hbox; have n2_ := Aside0.mk (by rw [hg]; exact below_size (by repeat (first | (with_reducible first | exact HB.out | apply below_alloc | apply pw_below_drewN | apply below_drew1 | refine below_set ?_ GE2.out | refine below_set ?_ GE3.out | refine below_set ?_ GE4.out) | exact HB.out)) : w.heap.size ≤ gb4); clear HB; clear BK2; have BK2 := q0_; clear q0_; clear BK3; have BK3 := q1_; clear q1_; have NB2_4 := e0_; clear e0_; have NB3_4 := e1_; clear e1_; have HB := n0_; have BK4 := n1_; have GE4 := n2_; clear n0_ n1_ n2_; clear hb hbox hg; have hz_ : ww4.cell? ⟨gb2, 1, none⟩ = some (.slice (some ad) l0_1.length c0_1) := (blk_cell BK2.out 1).trans rfl) | (go_at_call 41; refine (HI.out _ gb3 (by repeat (first | (with_reducible first | exact HB.out | apply below_alloc | apply pw_below_drewN | apply below_drew1 | refine below_set ?_ GE2.out | refine below_set ?_ GE3.out | refine below_set ?_ GE4.out) | exact HB.out)) (by (with_reducible repeat (first | refine blk_drewN ?_ _ | refine blk_drew ?_ | refine blk_alloc ?_ _)); exact (blk_cell BK3.out 0).trans rfl) (blk_lt BK3.out)).mono ?_; rintro e w5 ⟨rfl, hb⟩; have q0_ := Aside0.mk (blk_below (g := gb2) (o := .cells #[.slice A0_0 l0_0.length c0_0, .slice (some ad) l0_1.length c0_1, .slice A0_2 l0_2.length c0_2, .slice A0_3 l0_3.length c0_3] 32 (0, 0)) (by (with_reducible repeat (first | refine blk_drewN ?_ _ | refine blk_drew ?_ | refine blk_alloc ?_ _)); exact BK2.out) hb); have q1_ := Aside0.mk (blk_below (g := gb4) (o := .cells #[.int .i64 0, .int .i64 0, .int .i64 0, .int .i64 0, .int .i64 0, .int .i64 0, .int .i64 0, .int .i64 0] 64 (0, 0)) (by (with_reducible repeat (first | refine blk_drewN ?_ _ | refine blk_drew ?_ | refine blk_alloc ?_ _)); exact BK4.out) hb); have n0_ := Aside0.mk (below_step (by repeat (first | (with_reducible first | exact HB.out | apply below_alloc | apply pw_below_drewN | apply below_drew1 | refine below_set ?_ GE2.out | refine below_set ?_ GE3.out | refine below_set ?_ GE4.out) | exact HB.out)) hb); clear HB; have HB := n0_; clear n0_; clear BK2; have BK2 := q0_; clear q0_; clear BK4; have BK4 := q1_; clear q1_; clear hb hz_; have hz_ : w5.cell? ⟨gb2, 1, none⟩ = some (.slice (some ad) l0_1.length c0_1) := (blk_cell BK2.out 1).trans rfl; have hcz0 := (blk_cell BK4.out 0).trans rfl; have hcz1 := (blk_cell BK4.out 1).trans rfl; have hcz2 := (blk_cell BK4.out 2).trans rfl; have hcz3 := (blk_cell BK4.out 3).trans rfl; have hcz4 := (blk_cell BK4.out 4).trans rfl; have hcz5 := (blk_cell BK4.out 5).trans rfl; have hcz6 := (blk_cell BK4.out 6).trans rfl; have hcz7 := (blk_cell BK4.out 7).trans rfl; have hfz0 := blk_frozen BK4.out 0; have hfz1 := blk_frozen BK4.out 1; have hfz2 := blk_frozen BK4.out 2; have hfz3 := blk_frozen BK4.out 3; have hfz4 := blk_frozen BK4.out 4; have hfz5 := blk_frozen BK4.out 5; have hfz6 := blk_frozen BK4.out 6; have hfz7 := blk_frozen BK4.out 7; replace hx_0 := (HB.out.cell (World.block_lt_of_cell? w _ hx_0)).trans hx_0; replace hx_1 := (HB.out.cell (World.block_lt_of_cell? w _ hx_1)).trans hx_1; replace hx_2 := (HB.out.cell (World.block_lt_of_cell? w _ hx_2)).trans hx_2; replace hx_3 := (HB.out.cell (World.block_lt_of_cell? w _ hx_3)).trans hx_3; replace hx_4 := (HB.out.cell (World.block_lt_of_cell? w _ hx_4)).trans hx_4; replace hx_5 := (HB.out.cell (World.block_lt_of_cell? w _ hx_5)).trans hx_5; replace hx_6 := (HB.out.cell (World.block_lt_of_cell? w _ hx_6)).trans hx_6; replace hx_7 := (HB.out.cell (World.block_lt_of_cell? w _ hx_7)).trans hx_7))
    refine bodyPost_ret (results_ct rfl _ _ gb4 64 #[.int .i64 x.f0, .int .i64 x.f1, .int .i64 x.f2, .int .i64 x.f3, .int .i64 x.f4, .int .i64 x.f5, .int .i64 x.f6, .int .i64 x.f7] (0, 0) _ rfl (by (with_reducible repeat (first | refine blk_drewN ?_ _ | refine blk_drew ?_ | refine blk_alloc ?_ _)); refine blk_put (cs := #[.int .i64 x.f0, .int .i64 x.f1, .int .i64 x.f2, .int .i64 x.f3, .int .i64 x.f4, .int .i64 x.f5, .int .i64 x.f6, .int .i64 0]) ?_ 7 _ rfl; (with_reducible repeat (first | refine blk_drewN ?_ _ | refine blk_drew ?_ | refine blk_alloc ?_ _)); refine blk_put (cs := #[.int .i64 x.f0, .int .i64 x.f1, .int .i64 x.f2, .int .i64 x.f3, .int .i64 x.f4, .int .i64 x.f5, .int .i64 0, .int .i64 0]) ?_ 6 _ rfl; (with_reducible repeat (first | refine blk_drewN ?_ _ | refine blk_drew ?_ | refine blk_alloc ?_ _)); refine blk_put (cs := #[.int .i64 x.f0, .int .i64 x.f1, .int .i64 x.f2, .int .i64 x.f3, .int .i64 x.f4, .int .i64 0, .int .i64 0, .int .i64 0]) ?_ 5 _ rfl; (with_reducible repeat (first | refine blk_drewN ?_ _ | refine blk_drew ?_ | refine blk_alloc ?_ _)); refine blk_put (cs := #[.int .i64 x.f0, .int .i64 x.f1, .int .i64 x.f2, .int .i64 x.f3, .int .i64 0, .int .i64 0, .int .i64 0, .int .i64 0]) ?_ 4 _ rfl; (with_reducible repeat (first | refine blk_drewN ?_ _ | refine blk_drew ?_ | refine blk_alloc ?_ _)); refine blk_put (cs := #[.int .i64 x.f0, .int .i64 x.f1, .int .i64 x.f2, .int .i64 0, .int .i64 0, .int .i64 0, .int .i64 0, .int .i64 0]) ?_ 3 _ rfl; (with_reducible repeat (first | refine blk_drewN ?_ _ | refine blk_drew ?_ | refine blk_alloc ?_ _)); refine blk_put (cs := #[.int .i64 x.f0, .int .i64 x.f1, .int .i64 0, .int .i64 0, .int .i64 0, .int .i64 0, .int .i64 0, .int .i64 0]) ?_ 2 _ rfl; (with_reducible repeat (first | refine blk_drewN ?_ _ | refine blk_drew ?_ | refine blk_alloc ?_ _)); refine blk_put (cs := #[.int .i64 x.f0, .int .i64 0, .int .i64 0, .int .i64 0, .int .i64 0, .int .i64 0, .int .i64 0, .int .i64 0]) ?_ 1 _ rfl; (with_reducible repeat (first | refine blk_drewN ?_ _ | refine blk_drew ?_ | refine blk_alloc ?_ _)); refine blk_put (cs := #[.int .i64 0, .int .i64 0, .int .i64 0, .int .i64 0, .int .i64 0, .int .i64 0, .int .i64 0, .int .i64 0]) ?_ 0 _ rfl; (with_reducible repeat (first | refine blk_drewN ?_ _ | refine blk_drew ?_ | refine blk_alloc ?_ _)); exact BK4.out) Try.underlying64 rfl (by kernel_rfl)) rfl ?_
    exact ⟨rfl, (by repeat (first | (with_reducible first | exact HB.out | apply below_alloc | apply pw_below_drewN | apply below_drew1 | refine below_set ?_ GE2.out | refine below_set ?_ GE3.out | refine below_set ?_ GE4.out) | exact HB.out))⟩

/-! ### tariff_index: function 43 -/
def tariff_index.l0 : Nat → List (S80) → Int → Int → Option (Int)
  | 0, _, _, _ => none
  | k + 1, x0, x1, x5 => if x5 ≥ 0 then (if 0 ≤ x5 then (if x5 < (x0.length : Int) then (if ((rd_T80 x0 x5).f0) > x1 then (tariff_index.l0 k x0 x1 (wrap64 (x5 - 1))) else (some x5)) else (none)) else (none)) else (some x5)
def tariff_index.f (k : Nat) (l0 : List (S80)) (a1 : Int) : Option (Int) := tariff_index.l0 k l0 a1 (wrap64 ((l0.length : Int) - 1))
theorem tariff_index.mono_l : ∀ k, (∀ y0 y1 y2, LeO (tariff_index.l0 k y0 y1 y2) (tariff_index.l0 (k + 1) y0 y1 y2))
  | 0 => fun _ _ _ r h => by simp [tariff_index.l0] at h
  | k + 1 => by
    have ih0 := tariff_index.mono_l k
    · intro y0 y1 y2
      unfold tariff_index.l0
      repeat' first
      | (with_reducible exact ih0 _ _ _)
      | (with_reducible exact LeO.refl _)
      | (with_reducible exact LeO.none _)
      | (with_reducible refine LeO.ite ?_ ?_)
      | (with_reducible refine LeO.bind ?_ (fun _ => ?_))
      | exact ih0 _ _ _
      | exact LeO.none _
      | refine LeO.ite ?_ ?_
      | refine LeO.bind ?_ (fun _ => ?_)
theorem tariff_index.mono : ∀ a0 a1 k, LeO (tariff_index.f k a0 a1) (tariff_index.f (k + 1) a0 a1) := by
  intro a0 a1 k
  have ih0 := tariff_index.mono_l k
  unfold tariff_index.f
  repeat' first
      | (with_reducible exact ih0 _ _ _)
      | (with_reducible exact LeO.refl _)
      | (with_reducible exact LeO.none _)
      | (with_reducible refine LeO.ite ?_ ?_)
      | (with_reducible refine LeO.bind ?_ (fun _ => ?_))
      | exact ih0 _ _ _
      | exact LeO.none _
      | refine LeO.ite ?_ ?_
      | refine LeO.bind ?_ (fun _ => ?_)
set_option maxHeartbeats 8000000 in
set_option maxRecDepth 100000 in
theorem tariff_index.calls (k : Nat) (A0 : Option Addr) (c0 : Nat) (l0 : List (S80)) (a1 : Int) (r : Int) (w : World) (hr0 : Kd.C k80 w A0 l0.length l0) (hc0 : l0.length ≤ c0) (h : tariff_index.f k l0 a1 = some r) :
    Calls Try.prog 43 #[.slice A0 l0.length c0, .int .i64 a1] w fun e w' => e = .returned (.int .i64 r) ∧ Drawn0 w w' := by
  have HR0 := Aside0.mk hr0
  have HC0 := Aside0.mk hc0
  clear hr0 hc0
  have H : (tariff_index.l0 k l0 a1 (wrap64 ((l0.length : Int) - 1))) = some r := h
  clear h
  have H' := Aside0.mk H
  clear H
  go_enter Try.func43, Try.ntmps43
  go_wp2
  go_loopg [5] k (fun kq v5 w' => ∃ (x5_1 : Int), v5 = .int .i64 x5_1 ∧ Aside0 (tariff_index.l0 kq l0 a1 x5_1 = some r) ∧ Aside0 (kq ≤ k) ∧ Drawn0 w w')
  case atStart => exact ⟨(wrap64 ((l0.length : Int) - 1)), (by first | rfl | (simp; done) | (simp [*]; done)), H', ⟨Nat.le_refl _⟩, by repeat (first | exact Drawn0.refl _ | apply Drawn0.step)⟩
  case round =>
    clear H'
    try clear p2
    obtain ⟨x5_1, rfl, HA, HK1, ⟨m1, rfl⟩⟩ := hrel
    cases gk with
    | zero => exact absurd HA.out (by simp [tariff_index.l0])
    | succ k1 =>
      have H := HA.out
      clear HA
      simp only [tariff_index.l0] at H
      by_cases c3 : x5_1 ≥ 0
      · rw [if_pos c3] at H
        have c3b0 : decide (0 ≤ x5_1) = true := decide_eq_true c3
        clear c3
        by_cases c4 : 0 ≤ x5_1
        · rw [if_pos c4] at H
          have c4b0 : decide (0 ≤ x5_1) = true := decide_eq_true c4
          clear c4
          by_cases c5 : x5_1 < (l0.length : Int)
          · rw [if_pos c5] at H
            have c5b0 : decide (x5_1 < (l0.length : Int)) = true := decide_eq_true c5
            clear c5
            by_cases c6 : ((rd_T80 l0 x5_1).f0) > a1
            · rw [if_pos c6] at H
              have c6b0 : decide (a1 < ((rd_T80 l0 x5_1).f0)) = true := decide_eq_true c6
              clear c6
              have H' := Aside0.mk H
              clear H
              have p103 : 0 ≤ (x5_1 : Int) := of_decide_eq_true (by first | (with_reducible assumption) | assumption)
              have q103 : x5_1 < (l0.length : Int) := of_decide_eq_true (by first | (with_reducible assumption) | assumption)
              obtain ⟨ad103, A103_1, c103_1, e103, hx103_0, hx103_1, hl103_1, hi103_1⟩ := at_T80 HR0.out x5_1 p103 q103
              cases e103
              have HR103_1 := Aside0.mk hi103_1
              have HC103_1 := Aside0.mk hl103_1
              clear hi103_1 hl103_1
              replace p103 := eq_true p103
              replace q103 := eq_true q103
              go_wp2
              go_roundg k1
              case measure => have := HK1.out; omega
              case rel => exact ⟨(wrap64 (x5_1 - 1)), (by first | rfl | (simp; done) | (simp [*]; done)), H', ⟨by have := HK1.out; omega⟩, by repeat (first | exact Drawn0.refl _ | apply Drawn0.step)⟩
            · rw [if_neg c6] at H
              have c6b0 : decide (a1 < ((rd_T80 l0 x5_1).f0)) = false := decide_eq_false c6
              clear c6
              obtain rfl := Option.some.inj H
              have p103 : 0 ≤ (x5_1 : Int) := of_decide_eq_true (by first | (with_reducible assumption) | assumption)
              have q103 : x5_1 < (l0.length : Int) := of_decide_eq_true (by first | (with_reducible assumption) | assumption)
              obtain ⟨ad103, A103_1, c103_1, e103, hx103_0, hx103_1, hl103_1, hi103_1⟩ := at_T80 HR0.out x5_1 p103 q103
              cases e103
              have HR103_1 := Aside0.mk hi103_1
              have HC103_1 := Aside0.mk hl103_1
              clear hi103_1 hl103_1
              replace p103 := eq_true p103
              replace q103 := eq_true q103
              go_wp2
              go_ret
              exact ⟨by first | rfl | (simp; done) | (simp [*]; done), by repeat (first | exact Drawn0.refl _ | apply Drawn0.step)⟩
          · rw [if_neg c5] at H
            exact absurd H (by simp)
        · rw [if_neg c4] at H
          exact absurd H (by simp)
      · rw [if_neg c3] at H
        have c3b0 : decide (0 ≤ x5_1) = false := decide_eq_false c3
        clear c3
        obtain rfl := Option.some.inj H
        go_wp2
        go_ret
        exact ⟨by first | rfl | (simp; done) | (simp [*]; done), by repeat (first | exact Drawn0.refl _ | apply Drawn0.step)⟩

end Go.Proofs.Ytbkfnbbngnocbaa.Px
