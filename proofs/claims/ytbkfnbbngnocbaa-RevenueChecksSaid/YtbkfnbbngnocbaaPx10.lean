-- Lines of this text were written by the print of the kit, run by a program of this session (print2.py).
import Derived.Test.YtbkfnbbngnocbaaPx0
import Derived.Test.YtbkfnbbngnocbaaPx4
import Derived.Test.YtbkfnbbngnocbaaPx5
import Derived.Test.YtbkfnbbngnocbaaPx6
import Derived.Test.YtbkfnbbngnocbaaPx7
import Derived.Test.YtbkfnbbngnocbaaPx9
namespace Go.Proofs.Ytbkfnbbngnocbaa.Px
open Go.RowKit Go.Proofs.YtbkfnbbngnocbaaW.PrintWords Go.Proofs.YtbkfnbbngnocbaaW.PrintLast Go.Proofs.YtbkfnbbngnocbaaW.PrintMore
attribute [local go_sem] max2_int min2_int max_two min_two max_three min_three max_four min_four   -- for this text's walks alone
set_option linter.unusedVariables false
set_option linter.unusedSimpArgs false

/-! ### split_Split: function 29 (by hand) -/
def mapO {α β : Type} (f : α → Option β) : List α → Option (List β)
  | [] => some []
  | x :: l => (f x).bind fun y => (mapO f l).bind fun ys => some (y :: ys)
theorem mapO_spec {α β : Type} (f : α → Option β) : ∀ (l : List α) (ys : List β), mapO f l = some ys → ys.length = l.length ∧ ∀ (i : Nat) (x : α), l[i]? = some x → ∃ y, f x = some y ∧ ys[i]? = some y
  | [], ys, h => by
    obtain rfl := Option.some.inj h
    exact ⟨rfl, fun i x hx => by simp at hx⟩
  | x :: l, ys, h => by
    rw [mapO] at h
    obtain ⟨y, hy, h⟩ := Option.bind_eq_some_iff.1 h
    obtain ⟨zs, hz, h⟩ := Option.bind_eq_some_iff.1 h
    obtain rfl := Option.some.inj h
    obtain ⟨h1, h2⟩ := mapO_spec f l zs hz
    refine ⟨by simp [h1], fun i u hu => ?_⟩
    cases i with
    | zero =>
      obtain rfl : x = u := by simpa using hu
      exact ⟨y, hy, by simp⟩
    | succ i => exact h2 i u (by simpa using hu)
theorem mapO_mono {α β : Type} {f g : α → Option β} (h : ∀ x, LeO (f x) (g x)) : ∀ l : List α, LeO (mapO f l) (mapO g l)
  | [] => LeO.refl _
  | x :: l => by
    rw [mapO, mapO]
    exact LeO.bind (h x) (fun y => LeO.bind (mapO_mono h l) (fun ys => LeO.refl _))
theorem getD_of_get {α : Type} {l : List α} {i : Nat} {x d : α} (h : l[i]? = some x) : l.getD i d = x := by rw [List.getD_eq_getElem?_getD, h]; rfl
/-- All parts and rests. -/
theorem splitParts (k : Nat) (a s : Int) (l : List Int) (qs : List (Int × Int)) (hq : mapO (fun w => split_exact.f k a w s) l = some qs) (hl : l.length ≤ 1000) (B0 B1 B2 B3 R base c : Nat) (A : Option Addr) (w0 W : World)
    (hC : (Kd.int .i64).C w0 A l.length l) (hle : w0.heap.size ≤ W.heap.size) (hw : ∀ k, k < w0.heap.size → W.heap[k]? = w0.heap[k]?) (hR : w0.heap.size ≤ R)
    (h0 : W.cell? ⟨B0, 0, none⟩ = some (.int .i64 a)) (h1 : W.cell? ⟨B1, 0, none⟩ = some (.slice A l.length c)) (h2 : W.cell? ⟨B2, 0, none⟩ = some (.int .i64 s)) (h3 : W.cell? ⟨B3, 0, none⟩ = some (.slice (some ⟨R, 0, none⟩) l.length l.length))
    (ho : W.ownsRow base 3 1 (.slice (some ⟨R, 0, none⟩) l.length l.length) l.length (nums .i64 (List.replicate l.length 0))) (r0 : B0 ≠ R) (r1 : B1 ≠ R) (r2 : B2 ≠ R) (r3 : B3 ≠ R) :
    Calls Try.prog 50 #[.int .i64 (l.length : Int), .func (.func 51) #[] #[.pointer (some ⟨B0, 0, none⟩), .pointer (some ⟨B1, 0, none⟩), .pointer (some ⟨B2, 0, none⟩), .pointer (some ⟨B3, 0, none⟩)]] W fun e w' =>
      ∃ v, e = .returned v ∧ w'.ownsRow W.heap.size 3 1 v l.length (nums .i64 (qs.map (·.1))) ∧ w'.ownsRow base 3 1 (.slice (some ⟨R, 0, none⟩) l.length l.length) l.length (nums .i64 (qs.map (·.2))) ∧ W.grownBy w' (some R) := by
  obtain ⟨hql, hqs⟩ := mapO_spec _ l qs hq
  have eg : ∀ args w, (callFunc 51 args).run Try.prog w = .ok (.enter 51 args) w := enters_of Try.func51 (by kernel_rfl) rfl
  have hRW : R < W.heap.size := own_lt ho R rfl
  have hB0 := World.block_lt_of_cell? W _ h0
  have hB1 := World.block_lt_of_cell? W _ h1
  have hB2 := World.block_lt_of_cell? W _ h2
  have hB3 := World.block_lt_of_cell? W _ h3
  refine (fillInt l.length hl 51 _ eg (fun i => (qs.getD i (0, 0)).1) W (some R) (fun k hk => by simp at hk; omega)
    (fun i W' => (∀ k, k < W.heap.size → k ≠ R → W'.heap[k]? = W.heap[k]?) ∧ W'.ownsRow base 3 1 (.slice (some ⟨R, 0, none⟩) l.length l.length) l.length (nums .i64 (((List.range i).map (fun i => (qs.getD i (0, 0)).2)) ++ List.replicate (l.length - i) 0))) ⟨fun _ _ _ => rfl, by simpa using ho⟩
    (fun i W1 W2 h hk => ⟨fun k hk1 hk2 => (hk k hk1).trans (h.1 k hk1 hk2), own_block h.2 (hk R hRW)⟩) ?_).mono ?_
  · rintro i W1 hi ⟨hj1, hj2⟩ hg
    obtain ⟨⟨q, r⟩, hx, hy⟩ := hqs i l[i] (List.getElem?_eq_getElem hi)
    have hx' : split_exact.f k a (l.getD i 0) s = some (q, r) := by rw [getD_of_get (List.getElem?_eq_getElem hi)]; exact hx
    have hqd : qs.getD i (0, 0) = (q, r) := getD_of_get hy
    refine (splitOne a s l i hi q r k hx' B0 B1 B2 B3 R A c base _ W1 ((World.cell?_of_block (hj1 B0 hB0 r0)).trans h0) ((World.cell?_of_block (hj1 B1 hB1 r1)).trans h1) ((World.cell?_of_block (hj1 B2 hB2 r2)).trans h2) ((World.cell?_of_block (hj1 B3 hB3 r3)).trans h3)
      ((Kd.heap_int .i64).C (fun k hk => (hj1 k (Nat.lt_of_lt_of_le hk hle) (by omega)).trans (hw k hk)) hC) hj2 r3).mono ?_
    rintro e w' ⟨he, ho', hg'⟩
    rw [hqd]
    refine ⟨he, ⟨fun k hk1 hk2 => (hg'.block k (Nat.lt_of_lt_of_le hk1 hg.size) (by simpa using hk2)).trans (hj1 k hk1 hk2), ?_⟩, hg'⟩
    have h5 := fill_step l.length i (fun i => (qs.getD i (0, 0)).2) hi
    simp only [hqd] at h5
    rw [h5] at ho'
    exact ho'
  · rintro e w' ⟨v, he, ho1, ⟨_, ho2⟩, hg⟩
    have e1 : (List.range l.length).map (fun i => (qs.getD i (0, 0)).1) = qs.map (·.1) := by
      apply List.ext_getElem
      · simp [hql]
      · intro i i1 i2
        have : i < qs.length := by simpa using i2
        simp [List.getElem?_eq_getElem this]
    have e2 : (List.range l.length).map (fun i => (qs.getD i (0, 0)).2) = qs.map (·.2) := by
      apply List.ext_getElem
      · simp [hql]
      · intro i i1 i2
        have : i < qs.length := by simpa using i2
        simp [List.getElem?_eq_getElem this]
    rw [e1] at ho1
    rw [e2, Nat.sub_self, List.replicate_zero, List.append_nil] at ho2
    exact ⟨v, he, ho1, ho2, hg⟩
section
variable {P : Program} {ops : Array Oper} {rest : List Oper} {o : Oper} {a : Act} {Q : Exit → Act → World → Prop}
theorem make_event {W : World} (hgd : o.guard = none) {N : Tmp} (_hd : o.dst = some N) {n : Nat} {t : TypeId}
    (hrun : (execOp a.eval o).run P W = .ok (.value (.slice (some ⟨W.heap.size, 0, none⟩) n n)) (W.alloc (.cells (madeCells #[.int .i64 0] n) t (0, 0))))
    (h : ∀ g, g = W.heap.size → ∀ w1, w1.heap[g]? = some (.cells (madeCells #[.int .i64 0] n) t (0, 0)) → Below W.heap.size W w1 → wpList P ops Q rest (a.put o.dst (.slice (some ⟨g, 0, none⟩) n n)) w1) : wpList P ops Q (o :: rest) a W :=
  Kd.event_run hgd hrun (h _ rfl _ (blk_new W _) (below_alloc (Below.refl _ _) _))
end
theorem cell_grown {W W' : World} {row : Option Nat} {a : Addr} {v : Value} (hg : W.grownBy W' row) (hc : W.cell? a = some v) (hne : some a.block ≠ row) : W'.cell? a = some v := (World.cell?_of_block (hg.block a.block (World.block_lt_of_cell? W a hc) hne)).trans hc
theorem own_made_at {W : World} {g n e : Nat} (hh : W.heap[g]? = some (.cells (madeCells #[.int .i64 0] n) e (0, 0))) (hm : n ≤ 1000) : W.ownsRow g e 1 (.slice (some ⟨g, 0, none⟩) n n) n (nums .i64 (List.replicate n 0)) := by
  have hl : (madeCells #[Value.int .i64 0] n).toList = nums .i64 (List.replicate n 0) := by
    apply List.ext_getElem
    · simp [nums, madeCells]
    · intro i h1 h2
      simp [nums, madeCells, Nat.mod_one]
  refine ⟨by simp [nums], .inr ⟨g, n, _, rfl, Nat.le_refl _, hh, Nat.le_refl _, by simp only [maxLen]; omega, by simp [size_madeCells], ?_⟩⟩
  rw [hl]
  exact List.take_of_length_le (by simp [nums])
theorem own_form' {w : World} {base : Nat} {e : TypeId} {sz : Nat} {v : Value} {n : Nat} {xs : List Value} (h : w.ownsRow base e sz v n xs) (hn : 0 < n) : ∃ g cap, v = .slice (some ⟨g, 0, none⟩) n cap ∧ base ≤ g ∧ g < w.heap.size ∧ n ≤ cap := by
  obtain ⟨g, cap, hv, hb, hl⟩ := h.form hn
  refine ⟨g, cap, hv, hb, hl, ?_⟩
  subst hv
  rcases h.2 with ⟨h2, _⟩ | ⟨g', cap', cur, h2, _, _, hnc, _⟩
  · cases h2
  · have hc : cap = cap' := by injection h2
    omega
theorem below_grownBy {w W W' : World} {base : Nat} {row : Option Nat} (hb : Below base w W) (hs : base ≤ W.heap.size) (h : W.grownBy W' row) (hr : ∀ k, row = some k → base ≤ k) : Below base w W' :=
  ⟨h.os.trans hb.os, h.tape.trans hb.tape, h.output.trans hb.output, Nat.le_trans hb.size h.size, fun k hk => (h.block k (Nat.lt_of_lt_of_le hk hs) (fun e => by have := hr k e.symm; omega)).trans (hb.block k hk)⟩
theorem rd_ord (l : List Nat) (j : Nat) (h : j < l.length) : rd (l.map (fun i : Nat => (i : Int))) (j : Int) = ((l.getD j 0 : Nat) : Int) := by
  unfold rd
  rw [Int.toNat_natCast, List.getD_eq_getElem?_getD, List.getElem?_map, List.getD_eq_getElem?_getD, List.getElem?_eq_getElem h]
  rfl
def split_Split.odd (w : Int) : Bool := (split_Split_1.f w).getD false
def split_Split.bump (ps : List Int) (i : Nat) : List Int := ps.set i (wrap64 (ps.getD i 0 + 1))
def split_Split.f (k : Nat) (a0 : Int) (l0 : List Int) : Option (List Int × Int) :=
  if 64 < (l0.length : Int) then some ([], 4)
  else if 0 ≤ a0 ∧ a0 ≤ 1099511627776 then
    (if l0.any split_Split.odd = true then some ([], 2)
    else (split_sum.f k l0).bind fun s => if s = 0 then some ([], 1)
      else (mapO (fun w => split_exact.f k a0 w s) l0).bind fun qs => (split_sum.f k (qs.map (·.1))).bind fun t =>
        if 0 ≤ wrap64 (a0 - t) ∧ wrap64 (a0 - t) ≤ (l0.length : Int) then some (((orderOf (qs.map (·.2))).take (wrap64 (a0 - t)).toNat).foldl split_Split.bump (qs.map (·.1)), 0) else none)
  else some ([], 2)
theorem split_Split.bump_len (ps : List Int) (i : Nat) : (split_Split.bump ps i).length = ps.length := by unfold split_Split.bump; simp
theorem split_Split.bumps_len : ∀ (l : List Nat) (ps : List Int), (l.foldl split_Split.bump ps).length = ps.length
  | [], ps => rfl
  | i :: l, ps => by rw [List.foldl_cons, split_Split.bumps_len l, split_Split.bump_len]
theorem split_Split.bump_step (ord : List Nat) (ps : List Int) (j : Nat) (h : j < ord.length) : (ord.take (j + 1)).foldl split_Split.bump ps = split_Split.bump ((ord.take j).foldl split_Split.bump ps) (ord.getD j 0) := by
  rw [List.take_add_one, List.getElem?_eq_getElem h, List.foldl_append, List.getD_eq_getElem?_getD, List.getElem?_eq_getElem h]
  rfl
theorem split_Split.sum_nil (k : Nat) (s : Int) (h : split_sum.f k [] = some s) : s = 0 := by
  unfold split_sum.f at h
  cases k with
  | zero => simp [split_sum.l0] at h
  | succ k => simpa [split_sum.l0, eq_comm] using h
theorem split_Split.mono : ∀ a0 l0 k, LeO (split_Split.f k a0 l0) (split_Split.f (k + 1) a0 l0) := by
  intro a0 l0 k
  unfold split_Split.f
  refine LeO.ite (LeO.refl _) (LeO.ite (LeO.ite (LeO.refl _) ?_) (LeO.refl _))
  refine LeO.bind (split_sum.mono _ _) (fun s => LeO.ite (LeO.refl _) ?_)
  refine LeO.bind (mapO_mono (fun w => split_exact.mono _ _ _ _) _) (fun qs => LeO.bind (split_sum.mono _ _) (fun t => LeO.refl _))
theorem split_Split.odd_is (w : Int) : split_Split_1.f w = some (split_Split.odd w) := by
  unfold split_Split.odd split_Split_1.f
  split <;> rfl
set_option maxHeartbeats 4000000 in
theorem split_Split.pred (x : Int) (W : World) : Calls Try.prog 47 #[.int .i64 x] W fun e w' => e = .returned (.bool (split_Split.odd x)) ∧ Below W.heap.size W w' :=
  (split_Split_1.calls x _ W (split_Split.odd_is x)).mono fun e w' ⟨he, hd⟩ => ⟨he, hd.below⟩
set_option maxHeartbeats 16000000 in
set_option maxRecDepth 100000 in
theorem split_Split.calls (k : Nat) (a0 : Int) (A1 : Option Addr) (c1 : Nat) (l1 : List Int) (r1 : List Int) (r2 : Int) (w : World) (hr1 : Kd.C (Kd.int .i64) w A1 l1.length l1) (hc1 : l1.length ≤ c1) (h : split_Split.f k a0 l1 = some (r1, r2)) :
    Calls Try.prog 29 #[.int .i64 a0, .slice A1 l1.length c1] w fun e w' => ∃ v0_ : Value, e = .returned (.tuple #[v0_, .int .i64 r2]) ∧ Kd.R (Kd.int .i64) 3 w' w.heap.size (fun _ => True) v0_ r1 ∧ Below w.heap.size w w' := by
  have HB := Aside0.mk (Below.refl w.heap.size w)
  have HC := Aside0.mk hr1
  have HCC := Aside0.mk hc1
  clear hr1 hc1
  unfold split_Split.f at h
  have e24 : ∀ args w, (callFunc 47 args).run Try.prog w = .ok (.enter 47 args) w := enters_of Try.func47 (by kernel_rfl) rfl
  have e31 : ∀ args w, (callFunc 52 args).run Try.prog w = .ok (.enter 52 args) w := enters_of Try.func52 (by kernel_rfl) rfl
  have HAS : Aside0 (∀ W, Below w.heap.size w W → Calls Try.prog 49 #[.slice A1 l1.length c1, .func (.func 47) #[] #[]] W fun e w' => e = .returned (.bool (l1.any split_Split.odd)) ∧ Below W.heap.size W w') :=
    ⟨fun W hb => hasInt A1 c1 l1 split_Split.odd 47 #[] e24 W (Kd.C_below HC.out hb) (fun W' x _ hb' => (by
      refine (split_Split.pred x W').mono ?_
      rintro e w' ⟨he, h2⟩
      exact ⟨he, below_then hb' hb'.size h2⟩))⟩
  by_cases g0 : 64 < (l1.length : Int)
  · rw [if_pos g0] at h
    simp only [Option.some.injEq, Prod.mk.injEq] at h
    obtain ⟨rfl, rfl⟩ := h
    have g0b : decide (64 < (l1.length : Int)) = true := decide_eq_true g0
    clear g0 HAS
    go_enter Try.func29, Try.ntmps29
    go_wp2
    go_ret2
    exact ⟨_, rfl, Kd.R_nil _ _ _ _ _, by repeat (first | (with_reducible first | exact HB.out | apply below_alloc | apply pw_below_drewN | apply below_drew1) | exact HB.out)⟩
  · rw [if_neg g0] at h
    have g0b : decide (64 < (l1.length : Int)) = false := decide_eq_false g0
    by_cases g1 : 0 ≤ a0 ∧ a0 ≤ 1099511627776
    · rw [if_pos g1] at h
      have ht : split_isAmount.f a0 = some true := by unfold split_isAmount.f; rw [if_pos g1.1]; simp [g1.2]
      have HT := Aside0.mk ht
      clear ht g1
      cases g2 : l1.any split_Split.odd with
      | true =>
        rw [g2] at h HAS
        rw [if_pos rfl] at h
        simp only [Option.some.injEq, Prod.mk.injEq] at h
        obtain ⟨rfl, rfl⟩ := h
        clear g0
        go_enter Try.func29, Try.ntmps29
        go_wp2_with (first | (go_at_call 48; refine (split_isAmount.calls _ _ _ HT.out).mono ?_; rintro e w' ⟨rfl, ⟨n1_, rfl⟩⟩) | (go_at_call 49; refine (HAS.out _ (by repeat (first | (with_reducible first | exact HB.out | apply below_alloc | apply pw_below_drewN | apply below_drew1) | exact HB.out))).mono ?_; rintro e w1 ⟨rfl, hb1⟩; have hA0 := pw_cell_below hb1 (a := ⟨w.heap.size, 0, none⟩) (v := .int .i64 a0) (by go_simp); have hA1 := pw_cell_below hb1 (a := ⟨w.heap.size + 1, 0, none⟩) (v := .slice A1 l1.length c1) (by go_simp); have HB1 := Aside0.mk (below_step (by repeat (first | (with_reducible first | exact HB.out | apply below_alloc | apply pw_below_drewN | apply below_drew1) | exact HB.out)) hb1); clear hb1))
        go_ret2
        exact ⟨_, rfl, Kd.R_nil _ _ _ _ _, by repeat (first | (with_reducible first | exact HB1.out | apply below_alloc | apply pw_below_drewN | apply below_drew1) | exact HB1.out)⟩
      | false =>
        rw [g2] at h HAS
        rw [if_neg (by simp)] at h
        obtain ⟨s, hs, h⟩ := Option.bind_eq_some_iff.1 h
        have HS := Aside0.mk hs
        clear hs
        by_cases g3 : s = 0
        · rw [if_pos g3] at h
          simp only [Option.some.injEq, Prod.mk.injEq] at h
          obtain ⟨rfl, rfl⟩ := h
          subst g3
          clear g0
          go_enter Try.func29, Try.ntmps29
          go_wp2_with (first | (go_at_call 48; refine (split_isAmount.calls _ _ _ HT.out).mono ?_; rintro e w' ⟨rfl, ⟨n1_, rfl⟩⟩) | (go_at_call 49; refine (HAS.out _ (by repeat (first | (with_reducible first | exact HB.out | apply below_alloc | apply pw_below_drewN | apply below_drew1) | exact HB.out))).mono ?_; rintro e w1 ⟨rfl, hb1⟩; have hA0 := pw_cell_below hb1 (a := ⟨w.heap.size, 0, none⟩) (v := .int .i64 a0) (by go_simp); have hA1 := pw_cell_below hb1 (a := ⟨w.heap.size + 1, 0, none⟩) (v := .slice A1 l1.length c1) (by go_simp); have HB1 := Aside0.mk (below_step (by repeat (first | (with_reducible first | exact HB.out | apply below_alloc | apply pw_below_drewN | apply below_drew1) | exact HB.out)) hb1); have HS1 := Aside0.mk (split_sum.calls k A1 c1 l1 0 w1 (Kd.C_below HC.out HB1.out) HCC.out HS.out); clear hb1) | (go_at_call 31; refine HS1.out.mono ?_; rintro e w2 ⟨rfl, hd2⟩; have hb2 := hd2.below; clear hd2; have HB2 := Aside0.mk (below_step HB1.out hb2); clear hb2))
          go_ret2
          exact ⟨_, rfl, Kd.R_nil _ _ _ _ _, by repeat (first | (with_reducible first | exact HB2.out | apply below_alloc | apply pw_below_drewN | apply below_drew1) | exact HB2.out)⟩
        · rw [if_neg g3] at h
          have g3b : (s == 0) = false := by simp [g3]
          obtain ⟨qs, hq, h⟩ := Option.bind_eq_some_iff.1 h
          obtain ⟨t, ht, h⟩ := Option.bind_eq_some_iff.1 h
          have hql : qs.length = l1.length := (mapO_spec _ l1 qs hq).1
          by_cases g4 : 0 ≤ wrap64 (a0 - t) ∧ wrap64 (a0 - t) ≤ (l1.length : Int)
          case neg => rw [if_neg g4] at h; exact absurd h (by simp)
          rw [if_pos g4] at h
          simp only [Option.some.injEq, Prod.mk.injEq] at h
          obtain ⟨rfl, rfl⟩ := h
          have hpos : 0 < l1.length := by
            rcases Nat.eq_zero_or_pos l1.length with e | e
            · obtain rfl := List.eq_nil_of_length_eq_zero e
              exact absurd (split_Split.sum_nil k s HS.out) g3
            · exact e
          have HPOS := Aside0.mk hpos
          obtain ⟨K, hK⟩ : ∃ K : Nat, wrap64 (a0 - t) = (K : Int) := ⟨(wrap64 (a0 - t)).toNat, (Int.toNat_of_nonneg g4.1).symm⟩
          have hKt : (wrap64 (a0 - t)).toNat = K := by rw [hK]; simp
          rw [hKt]
          have HK : Aside0 (K ≤ l1.length) := ⟨by rw [hK] at g4; omega⟩
          have hql2 : (qs.map (·.2)).length = l1.length := by rw [List.length_map]; exact hql
          have HORD := Aside0.mk (orderOf_spec (qs.map (·.2)))
          have HOL : Aside0 ((orderOf (qs.map (·.2))).length = l1.length) := ⟨by rw [HORD.out.1.length_eq, List.length_range, hql2]⟩
          have HQ2 := Aside0.mk hql2
          have HKE := Aside0.mk hK
          clear hpos hql2 hKt hK
          have HQ := Aside0.mk hq
          have HTS := Aside0.mk ht
          have HQL := Aside0.mk hql
          have HG4 := Aside0.mk g4
          clear hq ht hql g4
          have hlen : l1.length ≤ 64 := by omega
          have hmk := print_make (P := Try.prog) 30 3 .i64 8 Try.underlying30 rfl (by omega) l1.length (by omega)
          clear g0
          go_enter Try.func29, Try.ntmps29
          go_wp2_with (first
            | (go_at_call 48; refine (split_isAmount.calls _ _ _ HT.out).mono ?_; rintro e w' ⟨rfl, ⟨n1_, rfl⟩⟩)
            | (go_at_call 49; refine (HAS.out _ (by repeat (first | (with_reducible first | exact HB.out | apply below_alloc | apply pw_below_drewN | apply below_drew1) | exact HB.out))).mono ?_; rintro e w1 ⟨rfl, hb1⟩; have hA0 := pw_cell_below hb1 (a := ⟨w.heap.size, 0, none⟩) (v := .int .i64 a0) (by go_simp); have hA1 := pw_cell_below hb1 (a := ⟨w.heap.size + 1, 0, none⟩) (v := .slice A1 l1.length c1) (by go_simp); have HB1 := Aside0.mk (below_step (by repeat (first | (with_reducible first | exact HB.out | apply below_alloc | apply pw_below_drewN | apply below_drew1) | exact HB.out)) hb1); have HZ1 : Aside0 (w.heap.size + 2 ≤ w1.heap.size) := ⟨by have := hb1.size; simp at this; omega⟩; clear hb1; have HS1 := Aside0.mk (split_sum.calls k A1 c1 l1 s w1 (Kd.C_below HC.out HB1.out) HCC.out HS.out))
            | (go_at_call 31; refine HS1.out.mono ?_; rintro e w2 ⟨rfl, hd2⟩; have hb2 := hd2.below; clear hd2; have hC0 := pw_cell_below hb2 hA0; have hC1 := pw_cell_below hb2 hA1; have HB2 := Aside0.mk (below_step HB1.out hb2); have HZ2 : Aside0 (w.heap.size + 2 ≤ w2.heap.size) := ⟨Nat.le_trans HZ1.out hb2.size⟩; clear hb2)
            | ((with_reducible refine gate_dst (N := 7) rfl ?_); refine box_event ?hg (N := 7) ?hd (cs := #[.int .i64 0]) (t := 3) ?hr ?_; (case hd => rfl); (case hg => rfl); (case hr => first | (go_simp; done) | (go_simp; rfl)); intro g3 hg3 w3 hx3 hb3; have HX3 := Aside0.mk hx3; have HB3 := Aside0.mk (below_step HB2.out hb3); have HZ3 : Aside0 (w.heap.size + 2 ≤ g3 ∧ g3 < w3.heap.size) := ⟨by have := HZ2.out; omega, blk_lt hx3⟩; have hD0 := pw_cell_below hb3 hC0; have hD1 := pw_cell_below hb3 hC1; have hD2 := (blk_cell hx3 0).trans rfl; have hDf := blk_frozen hx3 0; have hn0 : w.heap.size ≠ g3 := (by have := HZ3.out; omega); have hn1 : w.heap.size + 1 ≠ g3 := (by have := HZ3.out; omega); have hn2 : g3 ≠ w.heap.size := (by have := HZ3.out; omega); have hn3 : g3 ≠ w.heap.size + 1 := (by have := HZ3.out; omega); clear hx3 hb3 hg3)
            | ((with_reducible refine gate_dst (N := 32) rfl ?_); refine make_event ?hg (N := 32) ?hd (n := l1.length) (t := 3) ?hr ?_; (case hd => rfl); (case hg => rfl); (case hr => first | (go_simp; done) | (go_simp; rfl)); intro g4 hg4 w4 hx4 hb4; have hE0 := pw_cell_below hb4 (a := ⟨w.heap.size, 0, none⟩) (v := .int .i64 a0) (by go_simp); have hE1 := pw_cell_below hb4 (a := ⟨w.heap.size + 1, 0, none⟩) (v := .slice A1 l1.length c1) (by go_simp); have hE2 := pw_cell_below hb4 (a := ⟨g3, 0, none⟩) (v := .int .i64 s) (by go_simp); have HX4 := Aside0.mk hx4; have HB4 := Aside0.mk (below_step (below_set HB3.out (by have := HZ3.out; omega)) hb4); have HZ4 : Aside0 (g3 < g4 ∧ g4 < w4.heap.size) := ⟨by have := HZ3.out; simp at hg4; omega, blk_lt hx4⟩; clear hx4 hb4 hg4)
            | ((with_reducible refine gate_dst (N := 8) rfl ?_); refine box_event ?hg (N := 8) ?hd (cs := #[.slice none 0 0]) (t := 30) ?hr ?_; (case hd => rfl); (case hg => rfl); (case hr => first | (go_simp; done) | (go_simp; rfl)); intro g5 hg5 w5 hx5 hb5; have hF0 := pw_cell_below hb5 hE0; have hF1 := pw_cell_below hb5 hE1; have hF2 := pw_cell_below hb5 hE2; have hF3 := (blk_cell hx5 0).trans rfl; have hFf := blk_frozen hx5 0; have HX5 := Aside0.mk (blk_below HX4.out hb5); have HB5 := Aside0.mk (below_step HB4.out hb5); have HZ5 : Aside0 (g4 < g5 ∧ g5 < w5.heap.size) := ⟨by have := HZ4.out; omega, blk_lt hx5⟩; have hm0 : w.heap.size ≠ g5 := (by have := HZ3.out; have := HZ4.out; have := HZ5.out; omega); have hm1 : w.heap.size + 1 ≠ g5 := (by have := HZ3.out; have := HZ4.out; have := HZ5.out; omega); have hm2 : g3 ≠ g5 := (by have := HZ4.out; have := HZ5.out; omega); have hm3 : g5 ≠ w.heap.size := fun e => hm0 e.symm; have hm4 : g5 ≠ w.heap.size + 1 := fun e => hm1 e.symm; have hm5 : g5 ≠ g3 := fun e => hm2 e.symm; clear hx5 hb5 hg5)
            | (go_at_call 50; refine (fillInt l1.length (by omega) 52 #[] e31 (fun i => (i : Int)) w7 none (fun k hk => by simp at hk) (fun _ _ => True) trivial (fun _ _ _ _ _ => trivial) (fun i W _ _ _ => (splitSame (i : Int) W).mono (by rintro e w' ⟨he, hb⟩; exact ⟨he, trivial, grown_of_below hb none⟩))).mono ?_; rintro e w8 ⟨v8, rfl, ho8, _, hg8⟩; obtain ⟨g8, c8, rfl, hgb8, hgl8, hnc8⟩ := own_form' ho8 HPOS.out; obtain ⟨g7, c7, rfl, hgb7, hgl7, hnc7⟩ := own_form' HO7.out HPOS.out; have HO8 := Aside0.mk ho8; have HG8 := Aside0.mk hg8; have HNC := Aside0.mk (And.intro hnc7 hnc8); have HZ8 : Aside0 (w5.heap.size ≤ g7 ∧ g7 < w7.heap.size ∧ w7.heap.size ≤ g8 ∧ g8 < w8.heap.size ∧ g5 < w5.heap.size ∧ w.heap.size + 2 ≤ g4 ∧ g4 < g5) := ⟨by have := HZ5.out; have := HZ4.out; have := HZ3.out; simp at hgb7; omega⟩; have hI0 := cell_grown hg8 hG0 (by simp); have hI5 := cell_grown hg8 hG5 (by simp); clear ho8 hg8 hgb8 hgl8 hnc8 hgb7 hgl7 hnc7)
            | (go_at_call 50; refine (splitParts k a0 s l1 qs HQ.out (by omega) w.heap.size (w.heap.size + 1) g3 g5 g4 g4 c1 A1 w _ HC.out (by have := HB5.out.size; simp; exact this) (fun k hk => (Below.heap_setCell w5 _ _ k (by have := HZ3.out; have := HZ4.out; have := HZ5.out; simp; omega)).trans (HB5.out.block k hk)) (by have := HZ3.out; have := HZ4.out; omega) (by go_simp) (by go_simp) (by go_simp) (by go_simp)
                (own_made_at ((Below.heap_setCell w5 _ _ g4 (by have := HZ5.out; simp; omega)).trans HX5.out) (by omega)) (by have := HZ3.out; have := HZ4.out; omega) (by have := HZ3.out; have := HZ4.out; omega) (by have := HZ4.out; omega) (by have := HZ5.out; omega)).mono ?_; rintro e w7 ⟨v7, rfl, ho7, hr7, hg7⟩; have HO7 := Aside0.mk ho7; have HR7 := Aside0.mk hr7; have HG7 := Aside0.mk hg7; have hG0 := cell_grown hg7 (a := ⟨w.heap.size, 0, none⟩) (v := .int .i64 a0) (by go_simp) (by have := HZ3.out; have := HZ4.out; simp; omega); have hG1 := cell_grown hg7 (a := ⟨w.heap.size + 1, 0, none⟩) (v := .slice A1 l1.length c1) (by go_simp) (by have := HZ3.out; have := HZ4.out; simp; omega); have hG5 := cell_grown hg7 (a := ⟨g5, 0, none⟩) (v := .slice (some ⟨g4, 0, none⟩) l1.length l1.length) (by go_simp) (by have := HZ5.out; simp; omega); have HZ7 : Aside0 (w5.heap.size ≤ w7.heap.size) := ⟨by have := hg7.size; simp at this; exact this⟩; clear ho7 hr7 hg7)
            | (go_at_call 53; refine (sortOrderN (qs.map (·.2)) l1.length HQ2.out HPOS.out (by omega) g5 g4 g4 l1.length w7.heap.size g8 c8 w8 hI5 (own_other HR7.out HG8.out (.inr (by simp [Value.ownBlock]))) HO8.out (by have := HZ8.out; omega) (by have := HZ8.out; have := HZ7.out; omega)).mono ?_; rintro e w9 ⟨rfl, ho9, hg9⟩; have HO9 := Aside0.mk ho9; have HG9 := Aside0.mk hg9; have hJ0 := cell_grown hg9 hI0 (by have := HZ8.out; have := HZ7.out; simp; omega); clear ho9 hg9))
          have HP9 : Aside0 (w9.ownsRow w5.heap.size 3 1 (.slice (some ⟨g7, 0, none⟩) l1.length c7) l1.length (nums .i64 (qs.map (·.1)))) := ⟨by
            have h1 := HO7.out
            simp only [World.size_setCell] at h1
            exact own_other (own_other h1 HG8.out (.inr (by simp [Value.ownBlock]))) HG9.out (.inr (by have := HZ8.out; simp [Value.ownBlock]; omega))⟩
          have HB9 : Aside0 (Below w.heap.size w w9) := ⟨by
            have h5 : w.heap.size ≤ w5.heap.size := by have := HZ5.out; have := HZ8.out; omega
            have h7 := below_grownBy (below_set HB5.out (by have := HZ8.out; omega)) (by simp; exact h5) HG7.out (fun k hk => by have := HZ8.out; simp at hk; omega)
            have h8 := below_grownBy h7 (by have := HZ7.out; omega) HG8.out (fun k hk => by simp at hk)
            exact below_grownBy h8 (by have := HZ7.out; have := HG8.out.size; omega) HG9.out (fun k hk => by have := HZ8.out; have := HZ7.out; simp at hk; omega)⟩
          have hql1 : (qs.map (·.1)).length = l1.length := by rw [List.length_map]; exact HQL.out
          have HSUM : Aside0 (∀ W, Drawn0 w9 W → Calls Try.prog 31 #[.slice (some ⟨g7, 0, none⟩) l1.length c7] W fun e w' => e = .returned (.int .i64 t) ∧ Drawn0 W w') := ⟨fun W hd => by
            have hr := (Kd.R_reads' (R_of_nums (ok := fun _ => True) (own_block HP9.out (hd.below.block g7 (own_lt HP9.out g7 rfl))) hql1 (fun _ _ => trivial)))
            have hs := split_sum.calls k (some ⟨g7, 0, none⟩) c7 (qs.map (·.1)) t W hr.2.2 (by rw [hql1]; exact HNC.out.1) HTS.out
            rw [hql1] at hs
            exact hs⟩
          have hKE := HKE.out
          have p1 : (0 : Int) ≤ (K : Int) := by clear hKE; omega
          have p2 : (K : Int) ≤ (c8 : Int) := by have := HK.out; have := HNC.out; clear hKE; omega
          have HL1 := Aside0.mk hql1
          have hgg : g8 ≠ g7 := by have := HZ8.out; clear hKE; omega
          clear hql1 HQ HT HS HR7 HG7 HX5 HX4 HX3 HO7 HO8 HG8 HG9 HS1 HAS hmk e24 e31 hG0 hG1 hG5 hI0 hI5
          go_quiet (first | (go_at_call 31; (with_reducible refine (HSUM.out _ ⟨_, rfl⟩).mono ?_); rintro e w' ⟨rfl, ⟨nd, rfl⟩⟩; (try first | exact ⟨rfl, _, World.drewN_drewN _ _ _⟩ | exact ⟨rfl, _, Eq.trans (World.drewN_drewN _ _ _) (congrArg (World.drewN _) (Nat.add_assoc _ _ _))⟩)))
          obtain ⟨ord, hord⟩ : ∃ ord, ord = orderOf (qs.map (·.2)) := ⟨_, rfl⟩
          rw [← hord] at HO9 HORD HOL
          have HORDE := Aside0.mk hord
          clear hord
          have HST : Aside0 (w9.grownBy (w9.drewN nq) (some g7) ∧ (w9.drewN nq).ownsRow w5.heap.size 3 1 (.slice (some ⟨g7, 0, none⟩) l1.length c7) l1.length (nums .i64 (qs.map (·.1))) ∧ (w9.drewN nq).ownsRow w7.heap.size 3 1 (.slice (some ⟨g8, 0, none⟩) l1.length c8) l1.length (nums .i64 (ord.map (fun i : Nat => (i : Int))))) := ⟨by
            have hd : Drawn0 w9 (w9.drewN nq) := ⟨nq, rfl⟩
            exact ⟨grown_of_below hd.below _, own_block HP9.out (hd.below.block g7 (own_lt HP9.out g7 rfl)), own_block HO9.out (hd.below.block g8 (own_lt HO9.out g8 rfl))⟩⟩
          clear hKE HSUM
          go_wp2
          go_loopg [50] K (fun gg s50 wr => ∃ j : Nat, s50 = .int .i64 (j : Int) ∧ Aside0 (K - j ≤ gg ∧ j ≤ K) ∧ Aside0 (w9.grownBy wr (some g7) ∧ wr.ownsRow w5.heap.size 3 1 (.slice (some ⟨g7, 0, none⟩) l1.length c7) l1.length (nums .i64 ((ord.take j).foldl split_Split.bump (qs.map (·.1)))) ∧ wr.ownsRow w7.heap.size 3 1 (.slice (some ⟨g8, 0, none⟩) l1.length c8) l1.length (nums .i64 (ord.map (fun i : Nat => (i : Int))))))
          case atStart => exact ⟨0, rfl, ⟨by omega, by omega⟩, HST⟩
          case round =>
            clear HST
            obtain ⟨j, rfl, HI, HW⟩ := hrel
            by_cases c : j < K
            · have HC3 := Aside0.mk c
              have hjl : j < ord.length := by have := HOL.out; have := HK.out; omega
              have hstep := split_Split.bump_step ord (qs.map (·.1)) j hjl
              have ho : ord.getD j 0 < l1.length := by
                rw [List.getD_eq_getElem?_getD, List.getElem?_eq_getElem hjl]
                have h1 := HORD.out.1.mem_iff.1 (List.getElem_mem hjl)
                rw [List.mem_range, HQ2.out] at h1
                exact h1
              obtain ⟨cO, fO⟩ := own_at HW.out.2.2 (j : Int) (by omega) (by have := HK.out; omega)
              rw [Int.toNat_natCast, rd_ord _ _ hjl] at cO
              obtain ⟨o, hO⟩ : ∃ o, o = ord.getD j 0 := ⟨_, rfl⟩
              rw [← hO] at cO ho hstep
              obtain ⟨cP, fP⟩ := own_at HW.out.2.1 (o : Int) (by omega) (by omega)
              have hst := own_store HW.out.2.1 (o : Int) (wrap64 (rd ((ord.take j).foldl split_Split.bump (qs.map (·.1))) (o : Int) + 1))
              rw [Int.toNat_natCast] at cP fP hst
              have hrd : rd ((ord.take j).foldl split_Split.bump (qs.map (·.1))) (o : Int) = ((ord.take j).foldl split_Split.bump (qs.map (·.1))).getD o 0 := by unfold rd; rw [Int.toNat_natCast]
              have hnew : ((ord.take j).foldl split_Split.bump (qs.map (·.1))).set o (wrap64 (rd ((ord.take j).foldl split_Split.bump (qs.map (·.1))) (o : Int) + 1)) = (ord.take (j + 1)).foldl split_Split.bump (qs.map (·.1)) := by
                rw [hstep, hrd]
                rfl
              rw [hnew] at hst
              obtain ⟨x, hx⟩ : ∃ x, x = rd ((ord.take j).foldl split_Split.bump (qs.map (·.1))) (o : Int) := ⟨_, rfl⟩
              rw [← hx] at cP hst
              have HS2 := Aside0.mk hst
              have HG0 := Aside0.mk HW.out.1
              have HO2 := Aside0.mk HW.out.2.2
              have q1 : (0 : Int) ≤ (j : Int) := Int.natCast_nonneg _
              have q2 : (j : Int) < (K : Int) := by omega
              have q3 : (0 : Int) ≤ (o : Int) := Int.natCast_nonneg _
              have q4 : (o : Int) < (l1.length : Int) := by omega
              have hw : wrap64 ((j : Int) + 1) = ((j + 1 : Nat) : Int) := w64 rfl (by have := HK.out; omega)
              clear hx hnew hrd hst hstep hO ho hjl HW
              go_wp2
              go_roundg (K - (j + 1))
              case measure => have := HI.out; have := HC3.out; clear hw; omega
              case rel =>
                refine ⟨j + 1, by rw [hw], ⟨Nat.le_refl _, HC3.out⟩, ⟨HG0.out.trans HS2.out.2, HS2.out.1, own_other HO2.out HS2.out.2 (.inr (by simp [Value.ownBlock]; exact hgg))⟩⟩
            · obtain rfl : j = K := by have := HI.out; omega
              go_wp2
              go_ret2
              have hord := HORDE.out
              rw [← hord]
              have hbase : w.heap.size ≤ w5.heap.size := by have := HZ8.out; omega
              exact ⟨_, rfl, Kd.R_lower (R_of_nums HW.out.2.1 (by rw [split_Split.bumps_len]; exact HL1.out) (fun _ _ => trivial)) hbase, below_grownBy HB9.out HB9.out.size HW.out.1 (fun k hk => by have := HZ8.out; simp at hk; omega)⟩
    · rw [if_neg g1] at h
      simp only [Option.some.injEq, Prod.mk.injEq] at h
      obtain ⟨rfl, rfl⟩ := h
      have ht : split_isAmount.f a0 = some false := by
        unfold split_isAmount.f
        split
        · simp; omega
        · rfl
      have HT := Aside0.mk ht
      clear ht g0 g1
      go_enter Try.func29, Try.ntmps29
      go_wp2_with (first | (go_at_call 48; refine (split_isAmount.calls _ _ _ HT.out).mono ?_; rintro e w' ⟨rfl, ⟨n1_, rfl⟩⟩))
      go_ret2
      exact ⟨_, rfl, Kd.R_nil _ _ _ _ _, by repeat (first | (with_reducible first | exact HB.out | apply below_alloc | apply pw_below_drewN | apply below_drew1) | exact HB.out)⟩

/-! ### api_Share_56: function 56 (by hand) -/
theorem shareInfo : (Try.prog.info? 55).map (fun i => (i.zero, i.size, i.bytes)) = some (some (.agg #[(.int .i64 0), (.int .i64 0)]), 2, 16) := by kernel_rfl
theorem growNil (n : Nat) (hn : n ≤ 1000000) (w : World) : Calls Try.prog 80 #[.slice none 0 0, .int .i64 (n : Int)] w fun e w' => ∃ v, e = .returned v ∧ Kd.R k55 55 w' w.heap.size (fun _ => True) v ([] : List S55) ∧ Below w.heap.size w w' := by
  rcases Nat.eq_zero_or_pos n with rfl | h
  · refine (Any8.slices_Grow_room Try.growShare none 0 0 0 w (Nat.le_refl _) (by omega) (by omega) (by omega)).mono ?_
    rintro e w' ⟨rfl, rfl⟩
    exact ⟨_, rfl, Kd.R_nil _ _ _ _ _, Below.refl _ _⟩
  · obtain ⟨i0, hi, hzz⟩ := Option.map_eq_some_iff.1 shareInfo
    simp only [Prod.mk.injEq] at hzz
    obtain ⟨hz0, hz1, hz2⟩ := hzz
    refine (Any8.slices_Grow_grow Try.growShare i0 _ hi hz0 (by omega) none 0 0 n [] w (Nat.le_refl _) (by omega) (by rw [hz2]; omega) (by omega) (by simp) (fun _ => rfl) (fun a h => by cases h)).mono ?_
    rintro e w' ⟨rfl, rfl⟩
    refine ⟨_, rfl, ⟨fun _ _ => trivial, [], ⟨by simp, .inr ⟨w.heap.size, _, _, rfl, Nat.le_refl _, blk_new w.drew _, Nat.zero_le _, ?_, ?_, by simp⟩⟩, Reps.none _ _⟩, ?_⟩
    · exact grownCap_le_maxLen w _ _ _ (by simp only [maxLen]; omega)
    · have hg := grownCap_ge w (0 + n) 0 (Try.growShare_ren.t 25)
      have h2 : (Value.agg #[Value.int .i64 0, Value.int .i64 0]).cells.size = 2 := rfl
      have h3 : (k55).sz = 2 := rfl
      simp only [Array.size_append, size_zeroCells, h2, h3, List.size_toArray, List.length_nil]
      omega
    · exact below_alloc (below_drew1 (Below.refl _ _)) _
/-- A literal of numbers, just laid. -/
theorem litInts (W : World) (xs : List Int) (h : xs.length ≤ 1000) : Kd.C (Kd.int .i64) (W.alloc (.cells (nums .i64 xs).toArray 3)) (some ⟨W.heap.size, 0, none⟩) xs.length xs := by
  have h1 := World.ownsRow_lit (base := W.heap.size) (e := 3) (size := 1) W (nums .i64 xs).toArray xs.length (Nat.le_refl _) (by simp only [maxLen]; omega) (by simp [nums])
  rw [List.toList_toArray] at h1
  exact (Kd.R_reads' (R_of_nums (ok := fun _ => True) h1 rfl (fun _ _ => trivial))).2.2
theorem litShare2 (W : World) (a b : S55) : Kd.C k55 (W.alloc (.cells #[.int .i64 a.f0, .int .i64 a.f1, .int .i64 b.f0, .int .i64 b.f1] 55)) (some ⟨W.heap.size, 0, none⟩) 2 [a, b] := by
  refine ⟨rfl, by omega, fun _ => ⟨_, rfl, fun j p hj => ?_⟩⟩
  match j, hj with
  | 0, hj =>
    obtain rfl : a = p := by simpa using hj
    refine ⟨[.int .i64 a.f0, .int .i64 a.f1], rfl, k55_mk _ _, fun i u hu => ?_⟩
    match i, hu with
    | 0, hu => obtain rfl : Value.int .i64 a.f0 = u := by simpa using hu
               simp [Addr.add]
    | 1, hu => obtain rfl : Value.int .i64 a.f1 = u := by simpa using hu
               simp [Addr.add]
  | 1, hj =>
    obtain rfl : b = p := by simpa using hj
    refine ⟨[.int .i64 b.f0, .int .i64 b.f1], rfl, k55_mk _ _, fun i u hu => ?_⟩
    match i, hu with
    | 0, hu => obtain rfl : Value.int .i64 b.f0 = u := by simpa using hu
               show World.cell? _ (Addr.add ⟨W.heap.size, 0, none⟩ 2) = _
               simp [Addr.add]
    | 1, hu => obtain rfl : Value.int .i64 b.f1 = u := by simpa using hu
               show World.cell? _ (Addr.add ⟨W.heap.size, 0, none⟩ 3) = _
               simp [Addr.add]
theorem litInts2 (W : World) (g : Nat) (hg : g = W.heap.size) (xs : List Int) (h : xs.length ≤ 1000) : Kd.C (Kd.int .i64) (W.alloc (.cells (nums .i64 xs).toArray 3)) (some ⟨g, 0, none⟩) xs.length xs := by
  subst hg
  exact litInts W xs h
theorem litShare22 (W : World) (g : Nat) (hg : g = W.heap.size) (a b : S55) : Kd.C k55 (W.alloc (.cells #[.int .i64 a.f0, .int .i64 a.f1, .int .i64 b.f0, .int .i64 b.f1] 55)) (some ⟨g, 0, none⟩) 2 [a, b] := by
  subst hg
  exact litShare2 W a b
set_option maxHeartbeats 4000000 in
set_option maxRecDepth 100000 in
theorem concat2 (A0 : Option Addr) (c0 : Nat) (l0 : List S55) (A1 : Option Addr) (c1 : Nat) (l1 : List S55) (g : Nat) (w : World) (h0 : w.cell? ⟨g, 0, none⟩ = some (.slice A0 l0.length c0)) (h1 : w.cell? ⟨g, 1, none⟩ = some (.slice A1 l1.length c1))
    (hr0 : Kd.C k55 w A0 l0.length l0) (hr1 : Kd.C k55 w A1 l1.length l1) (hl : l0.length + l1.length ≤ 1000) :
    Calls Try.prog 56 #[.slice (some ⟨g, 0, none⟩) 2 2] w fun e w' => ∃ v, e = .returned v ∧ Kd.R k55 55 w' w.heap.size (fun _ => True) v (l0 ++ l1) ∧ Below w.heap.size w w' := by
  have HR0 := Aside0.mk hr0
  have HR1 := Aside0.mk hr1
  have HL := Aside0.mk hl
  have HB0 := Aside0.mk (Below.refl w.heap.size w)
  obtain ⟨N, hN⟩ : ∃ N, N = l0.length + l1.length := ⟨_, rfl⟩
  have HN := Aside0.mk hN
  have e1 : wrap64 ((l0.length : Nat) : Int) = ((l0.length : Nat) : Int) := w64 rfl (by omega)
  have e2 : wrap64 (((l0.length : Nat) : Int) + ((l1.length : Nat) : Int)) = (N : Int) := w64 (by rw [hN]; simp) (by clear e1; omega)
  have n1 : ¬ ((l0.length : Nat) : Int) < 0 := by clear e1 e2; omega
  have n2 : ¬ (N : Int) < 0 := by clear e1 e2; omega
  have HG : Aside0 (∀ W, Calls Try.prog 80 #[.slice none 0 0, .int .i64 (N : Int)] W fun e w' => ∃ v, e = .returned v ∧ Kd.R k55 55 w' W.heap.size (fun _ => True) v ([] : List S55) ∧ Below W.heap.size W w') := ⟨fun W => growNil N (by clear e1 e2; omega) W⟩
  have HGL : Aside0 (g < w.heap.size) := ⟨World.block_lt_of_cell? w _ h0⟩
  clear hr0 hr1 hl hN
  go_enter Try.func56, Try.ntmps56
  go_wp2
  refine wp_loop_rounds 3 ?_
  rw [rounds_succ]
  go_wp2
  rw [rounds_succ]
  go_wp2
  rw [rounds_succ]
  go_wp2_with (go_at_call 80; refine (HG.out _).mono ?_; rintro e w1 ⟨v1, rfl, ho1, hb1⟩; have HO1 := Aside0.mk ho1; have HB1 := Aside0.mk hb1; have hc0 := pw_cell_below hb1 h0; have hc1 := pw_cell_below hb1 h1; clear ho1 hb1)
  clear e1 e2 n1 n2
  refine wp_loop_rounds 3 ?_
  rw [rounds_succ]
  go_wp2_with (((with_reducible refine gate_builtin (b := .append) (xs := #[.tmp 31, .tmp 32]) rfl ?_); at_builtin; refine Kd.R_append_rows k55 (w0 := w) w.heap.size rfl (.tmp 31) (.tmp 32) 46 55 (.agg #[(.int .i64 0), (.int .i64 0)]) 16 rfl Try.underlying46 shareInfo rfl (by decide) (by omega) v1 ([] : List S55) l0 _ _ _ (fun _ => True) (fun _ => False) rfl rfl HO1.out (Kd.C_below HR0.out HB1.out) (fun _ _ h => h) (fun _ h => h.elim) (fun _ _ => trivial) HB1.out HB1.out.size (by have := HL.out; simp; omega) ?_; intro v2 w2 ho hb _ _; have HO2 := Aside0.mk ho; have HB2 := Aside0.mk hb; have hd0 := (World.cell?_of_block (hb.block g HGL.out)).trans h0; have hd1 := (World.cell?_of_block (hb.block g HGL.out)).trans h1; clear ho hb))
  rw [rounds_succ]
  go_wp2_with (((with_reducible refine gate_builtin (b := .append) (xs := #[.tmp 31, .tmp 32]) rfl ?_); at_builtin; refine Kd.R_append_rows k55 (w0 := w) w.heap.size rfl (.tmp 31) (.tmp 32) 46 55 (.agg #[(.int .i64 0), (.int .i64 0)]) 16 rfl Try.underlying46 shareInfo rfl (by decide) (by omega) v2 ([] ++ l0) l1 _ _ _ (fun _ => True) (fun _ => False) rfl rfl HO2.out (Kd.C_below HR1.out HB2.out) (fun _ _ h => h) (fun _ h => h.elim) (fun _ _ => trivial) HB2.out HB2.out.size (by have := HL.out; simp; omega) ?_; intro v3 w3 ho hb _ _; have HO3 := Aside0.mk ho; have HB3 := Aside0.mk hb; clear ho hb))
  rw [rounds_succ]
  go_wp2
  go_ret
  exact ⟨_, rfl, by simpa using HO3.out, HB3.out⟩

/-! ### split_plus: function 57 -/
def split_plus.f (a0 : Int) (a1 : Int) : Option (Int × Bool) := if a1 > (wrap64 (1099511627776 - a0)) then (some (0, false)) else (if a1 < (wrap64 ((-1099511627776) - a0)) then (some (0, false)) else (some (wrap64 (a0 + a1), true)))
set_option maxHeartbeats 8000000 in
set_option maxRecDepth 100000 in
theorem split_plus.calls (a0 : Int) (a1 : Int) (r1 : Int) (r2 : Bool) (w : World) (h : split_plus.f a0 a1 = some (r1, r2)) :
    Calls Try.prog 57 #[.int .i64 a0, .int .i64 a1] w fun e w' => e = .returned (.tuple #[.int .i64 r1, .bool r2]) ∧ Drawn0 w w' := by
  have H : (if a1 > (wrap64 (1099511627776 - a0)) then (some (0, false)) else (if a1 < (wrap64 ((-1099511627776) - a0)) then (some (0, false)) else (some (wrap64 (a0 + a1), true)))) = some (r1, r2) := h
  clear h
  by_cases c3 : a1 > (wrap64 (1099511627776 - a0))
  · rw [if_pos c3] at H
    have c3b0 : decide ((wrap64 (1099511627776 - a0)) < a1) = true := decide_eq_true c3
    clear c3
    simp only [Option.some.injEq, Prod.mk.injEq] at H
    obtain ⟨rfl, rfl⟩ := H
    go_enter Try.func57, Try.ntmps57
    go_wp2
    go_ret2
    exact ⟨by first | rfl | (simp; done) | (simp [*]; done), by repeat (first | exact Drawn0.refl _ | apply Drawn0.step)⟩
  · rw [if_neg c3] at H
    have c3b0 : decide ((wrap64 (1099511627776 - a0)) < a1) = false := decide_eq_false c3
    clear c3
    by_cases c4 : a1 < (wrap64 ((-1099511627776) - a0))
    · rw [if_pos c4] at H
      have c4b0 : decide (a1 < (wrap64 ((-1099511627776) - a0))) = true := decide_eq_true c4
      clear c4
      simp only [Option.some.injEq, Prod.mk.injEq] at H
      obtain ⟨rfl, rfl⟩ := H
      go_enter Try.func57, Try.ntmps57
      go_wp2
      go_ret2
      exact ⟨by first | rfl | (simp; done) | (simp [*]; done), by repeat (first | exact Drawn0.refl _ | apply Drawn0.step)⟩
    · rw [if_neg c4] at H
      have c4b0 : decide (a1 < (wrap64 ((-1099511627776) - a0))) = false := decide_eq_false c4
      clear c4
      simp only [Option.some.injEq, Prod.mk.injEq] at H
      obtain ⟨rfl, rfl⟩ := H
      go_enter Try.func57, Try.ntmps57
      go_wp2
      go_ret2
      exact ⟨by first | rfl | (simp; done) | (simp [*]; done), by repeat (first | exact Drawn0.refl _ | apply Drawn0.step)⟩

/-! ### split_Add_1: function 59 -/
def split_Add_1.f (a0_0 : Int) (a0_1 : Int) (a1_0 : Int) (a1_1 : Int) : Option (Int) := (cmp_Compare_int.f a0_0 a1_0).bind fun t144 => (some t144)
set_option maxHeartbeats 8000000 in
set_option maxRecDepth 100000 in
theorem split_Add_1.calls (a0_0 : Int) (a0_1 : Int) (a1_0 : Int) (a1_1 : Int) (r : Int) (w : World) (h : split_Add_1.f a0_0 a0_1 a1_0 a1_1 = some r) :
    Calls Try.prog 59 #[.agg #[.int .i64 a0_0, .int .i64 a0_1], .agg #[.int .i64 a1_0, .int .i64 a1_1]] w fun e w' => e = .returned (.int .i64 r) ∧ BelowD w w' := by
  have hu55 := Try.underlying55
  have HB := Aside0.mk (BelowD.refl w)
  have H : ((cmp_Compare_int.f a0_0 a1_0).bind fun t144 => (some t144)) = some r := h
  clear h
  replace H := Option.bind_eq_some_iff.mp H
  obtain ⟨t144, A30, H⟩ := H
  replace H : (some t144) = some r := H
  have A3 := Aside0.mk A30
  clear A30
  obtain rfl := Option.some.inj H
  go_enter Try.func59, Try.ntmps59
  go_wp2_with (first | ((with_reducible refine gate_dst (N := 2) rfl ?_); refine dbox_event ?hg (N := 2) ?hd (cs := #[.int .i64 a0_0, .int .i64 a0_1]) (t := 55) ?hr ?_; (case hd => rfl); (case hg => rfl); (case hr => first | (go_simp; done) | (go_simp; rfl)); intro gb142 hg w4 hbox hb; have n0_ := Aside0.mk (dbelow_step (by repeat (first | (with_reducible first | exact HB.out | apply dbelow_alloc | apply dbelow_drewN | apply dbelow_drew1) | exact HB.out)) hb); have n1_ := Aside0.mk (hbox); have n2_ := Aside0.mk ((by rw [hg]; exact (dbelow_size (by repeat (first | (with_reducible first | exact HB.out | apply dbelow_alloc | apply dbelow_drewN | apply dbelow_drew1) | exact HB.out))) : w.heap.size ≤ gb142)); have n3_ := Aside0.mk ((by rw [hg]; exact (dbelow_size (by repeat (first | (with_reducible first | exact HB.out | apply dbelow_alloc | apply dbelow_drewN | apply dbelow_drew1) | exact HB.out))) : w.heap.size ≤ gb142)); clear HB; have HB := n0_; have BK142 := n1_; have GW142 := n2_; have GE142 := n3_; clear n0_ n1_ n2_ n3_; clear hb hbox hg) | ((with_reducible refine gate_dst (N := 3) rfl ?_); refine dbox_event ?hg (N := 3) ?hd (cs := #[.int .i64 a1_0, .int .i64 a1_1]) (t := 55) ?hr ?_; (case hd => rfl); (case hg => rfl); (case hr => first | (go_simp; done) | (go_simp; rfl)); intro gb143 hg w5 hbox hb; have n0_ := Aside0.mk (dblk_below (g := gb142) (o := .cells #[.int .i64 a0_0, .int .i64 a0_1] 55 (0, 0)) (by (with_reducible repeat (first | refine blk_drewN ?_ _ | refine blk_drew ?_ | refine blk_alloc ?_ _)); exact BK142.out) hb); have n1_ := Aside0.mk (dbelow_step (by repeat (first | (with_reducible first | exact HB.out | apply dbelow_alloc | apply dbelow_drewN | apply dbelow_drew1 | refine dbelow_set ?_ GE142.out) | exact HB.out)) hb); have n2_ := Aside0.mk (hbox); have n3_ := Aside0.mk ((by rw [hg]; exact (dbelow_size (by repeat (first | (with_reducible first | exact HB.out | apply dbelow_alloc | apply dbelow_drewN | apply dbelow_drew1 | refine dbelow_set ?_ GE142.out) | exact HB.out))) : w.heap.size ≤ gb143)); have n4_ := Aside0.mk ((by rw [hg]; exact (dbelow_size (by repeat (first | (with_reducible first | exact HB.out | apply dbelow_alloc | apply dbelow_drewN | apply dbelow_drew1 | refine dbelow_set ?_ GE142.out) | exact HB.out))) : w.heap.size ≤ gb143)); have n5_ := Aside0.mk ((by rw [hg]; exact Nat.ne_of_lt (blk_lt (g := gb142) (o := .cells #[.int .i64 a0_0, .int .i64 a0_1] 55 (0, 0)) (by (with_reducible repeat (first | refine blk_drewN ?_ _ | refine blk_drew ?_ | refine blk_alloc ?_ _)); exact BK142.out)) : gb142 ≠ gb143)); have n6_ := Aside0.mk ((by rw [hg]; exact Nat.ne_of_gt (blk_lt (g := gb142) (o := .cells #[.int .i64 a0_0, .int .i64 a0_1] 55 (0, 0)) (by (with_reducible repeat (first | refine blk_drewN ?_ _ | refine blk_drew ?_ | refine blk_alloc ?_ _)); exact BK142.out)) : gb143 ≠ gb142)); clear BK142; clear HB; have BK142 := n0_; have HB := n1_; have BK143 := n2_; have GW143 := n3_; have GE143 := n4_; have NB142_143 := n5_; have NB143_142 := n6_; clear n0_ n1_ n2_ n3_ n4_ n5_ n6_; clear hb hbox hg; have hnb6 := NB142_143.out; have hnc6 := NB143_142.out; have hcz7_0 : w5.cell? ⟨gb142, 0, none⟩ = some (.int .i64 a0_0) := (blk_cell BK142.out 0).trans rfl; have hcz7_1 : w5.cell? ⟨gb142, 1, none⟩ = some (.int .i64 a0_1) := (blk_cell BK142.out 1).trans rfl; have hfz7_0 := blk_frozen BK142.out 0; have hfz7_1 := blk_frozen BK142.out 1; have hcz8_0 : w5.cell? ⟨gb143, 0, none⟩ = some (.int .i64 a1_0) := (blk_cell BK143.out 0).trans rfl; have hcz8_1 : w5.cell? ⟨gb143, 1, none⟩ = some (.int .i64 a1_1) := (blk_cell BK143.out 1).trans rfl; have hfz8_0 := blk_frozen BK143.out 0; have hfz8_1 := blk_frozen BK143.out 1) | ((with_reducible refine gate_callee (f := 55) rfl ?_); refine goesL_ (some 9) rfl rfl Try.func55 (by kernel_rfl) rfl #[.int .i64 a0_0, .int .i64 a1_0] rfl (by (try simp only [List.map_toArray, List.map_cons, List.map_nil]); first | done | rfl | (simp only [List.length_drop, List.length_take]; rfl)) ?_; (with_reducible refine (cmp_Compare_int.calls a0_0 a1_0 t144 _ A3.out).mono ?_); rintro e w' ⟨rfl, ⟨nd, rfl⟩⟩; refine ⟨_, rfl, ?_⟩))
  go_ret
  exact ⟨by first | rfl | (simp [errW_none, errW_some] <;> rfl) | (simp [*, errW_none, errW_some] <;> rfl), by repeat (first | (with_reducible first | exact HB.out | apply dbelow_alloc | apply dbelow_drewN | apply dbelow_drew1 | refine dbelow_set ?_ GE142.out | refine dbelow_set ?_ GE143.out) | exact HB.out)⟩

/-! ### api_Share_58: function 58 (by hand) -/
instance : Inhabited S55 := ⟨z55⟩
/-- The order of Add: by the operator. -/
def api_Share_58.cf (x y : S55) : Int := if x.f0 < y.f0 then -1 else if y.f0 < x.f0 then 1 else 0
theorem api_Share_58.lt (x y : S55) : ltOf api_Share_58.cf x y = decide (x.f0 < y.f0) := by
  unfold ltOf api_Share_58.cf
  by_cases h1 : x.f0 < y.f0
  · simp [h1]
  · by_cases h2 : y.f0 < x.f0 <;> simp [h1, h2]
theorem api_Share_58.swo : Go.Sort.SWO (ltOf api_Share_58.cf) where
  irrefl x := by rw [api_Share_58.lt]; simp
  trans x y z h1 h2 := by rw [api_Share_58.lt] at *; simp at *; omega
  ntrans x y z h1 h2 := by rw [api_Share_58.lt] at *; simp at *; omega
theorem api_Share_58.cmp (x y : S55) : split_Add_1.f x.f0 x.f1 y.f0 y.f1 = some (api_Share_58.cf x y) := by
  unfold split_Add_1.f api_Share_58.cf
  rw [compare_is]
  rfl
def api_Share_58.f (l0 : List (S55)) : Option (List (S55)) := if (l0.length : Int) < 4611686018427387904 then some (sortPdq api_Share_58.cf l0) else none
def api_Share_58.enc (x : S55) : List Value := [.int .i64 x.f0, .int .i64 x.f1]
theorem api_Share_58.lays (blk off size : Nat) (w : World) : CmpLays Try.prog 59 #[] api_Share_58.enc 2 api_Share_58.cf blk off size w := by
  intro m os dk _ x y
  exact (split_Add_1.calls x.f0 x.f1 y.f0 y.f1 _ _ (api_Share_58.cmp x y)).mono fun e w' ⟨he, hb⟩ => ⟨he, hb.grown⟩
set_option maxHeartbeats 4000000 in
theorem api_Share_58.calls (P0_ : Nat → Prop) (u9000_ : Value) (l0 : List (S55)) (r : List (S55)) (w0 w : World) (hB : Below w0.heap.size w0 w) (ho0 : Kd.R k55 55 w w0.heap.size P0_ u9000_ l0) (h : api_Share_58.f l0 = some r) :
    Calls Try.prog 58 #[u9000_, .func (.func 59) #[] #[]] w fun e w' => e = .returned (.tuple #[]) ∧ Kd.R k55 55 w' w0.heap.size (fun k_ => (P0_ k_ ∨ w.heap.size ≤ k_)) u9000_ r ∧ Below w0.heap.size w0 w' ∧ Kept w w' (fun k_ => P0_ k_) := by
  unfold api_Share_58.f at h
  by_cases hsz : (l0.length : Int) < 4611686018427387904
  · rw [if_pos hsz] at h
    obtain rfl := Option.some.inj h
    by_cases hl : l0 = []
    · subst hl
      obtain ⟨A0, c0, rfl⟩ := Kd.R_slice ho0
      refine (AnyF.slices_SortFunc_none { Try.sortShare with } A0 c0 (.func (.func 59) #[] #[]) w).mono ?_
      rintro e w' ⟨rfl, rfl⟩
      rw [sortPdq_nil _ api_Share_58.swo]
      exact ⟨rfl, Kd.R_mono ho0 (fun k_ hk => .inl hk), hB, Kept.refl _ _⟩
    · obtain ⟨g, cap, rfl, hBg, hPg, hg, hH, hpost⟩ := sort_row k55 api_Share_58.enc (fun h => k55_openM h) (k55_mkM _ _ _ _) (fun _ => rfl) _ w _ P0_ u9000_ l0 ho0 hl
      have eg : ∀ args w, (callFunc 59 args).run Try.prog w = .ok (.enter 59 args) w := enters_of Try.func59 (by kernel_rfl) rfl
      have hsz' : l0.toArray.size < 4611686018427387904 := by rw [List.size_toArray]; omega
      have hcon := AnyQ.slices_SortFunc_eq Try.sortShare 2 Try.isAgg55 Try.sizeOf55 api_Share_58.enc (fun _ => rfl) (fun x v hv => by simp [api_Share_58.enc] at hv; rcases hv with rfl | rfl <;> rfl) api_Share_58.cf api_Share_58.swo 59 #[] g 0 cap l0.toArray w eg (api_Share_58.lays g 0 _ w) hH hg hsz'
      refine hcon.mono ?_
      rintro e w' ⟨rfl, n, os, rfl⟩
      obtain ⟨hR, hK, hBB⟩ := hpost (Go.Sort.pdq (ltOf api_Share_58.cf) l0.toArray 0 l0.toArray.size (Lib.bitLen l0.toArray.size) true true) n os (by simpa using sortPdq_size api_Share_58.cf api_Share_58.swo l0)
      exact ⟨rfl, Kd.R_mono hR (fun k_ hk => .inl hk), hBB w0 rfl hB, hK⟩
  · rw [if_neg hsz] at h
    exact absurd h (by simp)

end Go.Proofs.Ytbkfnbbngnocbaa.Px
