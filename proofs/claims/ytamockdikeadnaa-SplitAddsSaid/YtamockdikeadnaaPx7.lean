-- Lines of this text were written by the print of the kit, run by a program of this session (print2.py).
import Derived.Test.YtamockdikeadnaaPx0
import Derived.Test.YtamockdikeadnaaPx2
import Derived.Test.YtamockdikeadnaaPx3
import Derived.Test.YtamockdikeadnaaPx4
import Derived.Test.YtamockdikeadnaaPx6
namespace Go.Proofs.Ytamockdikeadnaa.Px
open Go.RowKit Go.Proofs.YtamockdikeadnaaW.PrintWords Go.Proofs.YtamockdikeadnaaW.PrintLast Go.Proofs.YtamockdikeadnaaW.PrintMore
attribute [local go_sem] max2_int min2_int max_two min_two max_three min_three max_four min_four   -- for this text's walks alone
set_option linter.unusedVariables false
set_option linter.unusedSimpArgs false

/-! ### split_Split: function 11 (by hand) -/
def mapO {α β : Type} (f : α → Option β) : List α → Option (List β)
  | [] => some []
  | x :: l => (f x).bind fun y => (mapO f l).bind fun ys => some (y :: ys)
theorem mapO_spec {α β : Type} (f : α → Option β) : ∀ (l : List α) (ys : List β), mapO f l = some ys → ys.length = l.length ∧ ∀ (i : Nat) (x : α), l[i]? = some x → ∃ y, f x = some y ∧ ys[i]? = some y
  | [], ys, h => by
    obtain rfl := Option.some.inj h
    exact ⟨rfl, fun i x hx => by simp at hx⟩
  | x :: l, ys, h => by
    rw [mapO] at h
    obtain ⟨y, hy, h⟩ := Option.bind_eq_some_iff.1 h
    obtain ⟨zs, hz, h⟩ := Option.bind_eq_some_iff.1 h
    obtain rfl := Option.some.inj h
    obtain ⟨h1, h2⟩ := mapO_spec f l zs hz
    refine ⟨by simp [h1], fun i u hu => ?_⟩
    cases i with
    | zero =>
      obtain rfl : x = u := by simpa using hu
      exact ⟨y, hy, by simp⟩
    | succ i => exact h2 i u (by simpa using hu)
theorem mapO_mono {α β : Type} {f g : α → Option β} (h : ∀ x, LeO (f x) (g x)) : ∀ l : List α, LeO (mapO f l) (mapO g l)
  | [] => LeO.refl _
  | x :: l => by
    rw [mapO, mapO]
    exact LeO.bind (h x) (fun y => LeO.bind (mapO_mono h l) (fun ys => LeO.refl _))
theorem getD_of_get {α : Type} {l : List α} {i : Nat} {x d : α} (h : l[i]? = some x) : l.getD i d = x := by rw [List.getD_eq_getElem?_getD, h]; rfl
/-- All parts and rests. -/
theorem splitParts (k : Nat) (a s : Int) (l : List Int) (qs : List (Int × Int)) (hq : mapO (fun w => split_exact.f k a w s) l = some qs) (hl : l.length ≤ 1000) (B0 B1 B2 B3 R base c : Nat) (A : Option Addr) (w0 W : World)
    (hC : (Kd.int .i64).C w0 A l.length l) (hle : w0.heap.size ≤ W.heap.size) (hw : ∀ k, k < w0.heap.size → W.heap[k]? = w0.heap[k]?) (hR : w0.heap.size ≤ R)
    (h0 : W.cell? ⟨B0, 0, none⟩ = some (.int .i64 a)) (h1 : W.cell? ⟨B1, 0, none⟩ = some (.slice A l.length c)) (h2 : W.cell? ⟨B2, 0, none⟩ = some (.int .i64 s)) (h3 : W.cell? ⟨B3, 0, none⟩ = some (.slice (some ⟨R, 0, none⟩) l.length l.length))
    (ho : W.ownsRow base 3 1 (.slice (some ⟨R, 0, none⟩) l.length l.length) l.length (nums .i64 (List.replicate l.length 0))) (r0 : B0 ≠ R) (r1 : B1 ≠ R) (r2 : B2 ≠ R) (r3 : B3 ≠ R) :
    Calls Try.prog 28 #[.int .i64 (l.length : Int), .func (.func 29) #[] #[.pointer (some ⟨B0, 0, none⟩), .pointer (some ⟨B1, 0, none⟩), .pointer (some ⟨B2, 0, none⟩), .pointer (some ⟨B3, 0, none⟩)]] W fun e w' =>
      ∃ v, e = .returned v ∧ w'.ownsRow W.heap.size 3 1 v l.length (nums .i64 (qs.map (·.1))) ∧ w'.ownsRow base 3 1 (.slice (some ⟨R, 0, none⟩) l.length l.length) l.length (nums .i64 (qs.map (·.2))) ∧ W.grownBy w' (some R) := by
  obtain ⟨hql, hqs⟩ := mapO_spec _ l qs hq
  have eg : ∀ args w, (callFunc 29 args).run Try.prog w = .ok (.enter 29 args) w := enters_of Try.func29 (by kernel_rfl) rfl
  have hRW : R < W.heap.size := own_lt ho R rfl
  have hB0 := World.block_lt_of_cell? W _ h0
  have hB1 := World.block_lt_of_cell? W _ h1
  have hB2 := World.block_lt_of_cell? W _ h2
  have hB3 := World.block_lt_of_cell? W _ h3
  refine (fillInt l.length hl 29 _ eg (fun i => (qs.getD i (0, 0)).1) W (some R) (fun k hk => by simp at hk; omega)
    (fun i W' => (∀ k, k < W.heap.size → k ≠ R → W'.heap[k]? = W.heap[k]?) ∧ W'.ownsRow base 3 1 (.slice (some ⟨R, 0, none⟩) l.length l.length) l.length (nums .i64 (((List.range i).map (fun i => (qs.getD i (0, 0)).2)) ++ List.replicate (l.length - i) 0))) ⟨fun _ _ _ => rfl, by simpa using ho⟩
    (fun i W1 W2 h hk => ⟨fun k hk1 hk2 => (hk k hk1).trans (h.1 k hk1 hk2), own_block h.2 (hk R hRW)⟩) ?_).mono ?_
  · rintro i W1 hi ⟨hj1, hj2⟩ hg
    obtain ⟨⟨q, r⟩, hx, hy⟩ := hqs i l[i] (List.getElem?_eq_getElem hi)
    have hx' : split_exact.f k a (l.getD i 0) s = some (q, r) := by rw [getD_of_get (List.getElem?_eq_getElem hi)]; exact hx
    have hqd : qs.getD i (0, 0) = (q, r) := getD_of_get hy
    refine (splitOne a s l i hi q r k hx' B0 B1 B2 B3 R A c base _ W1 ((World.cell?_of_block (hj1 B0 hB0 r0)).trans h0) ((World.cell?_of_block (hj1 B1 hB1 r1)).trans h1) ((World.cell?_of_block (hj1 B2 hB2 r2)).trans h2) ((World.cell?_of_block (hj1 B3 hB3 r3)).trans h3)
      ((Kd.heap_int .i64).C (fun k hk => (hj1 k (Nat.lt_of_lt_of_le hk hle) (by omega)).trans (hw k hk)) hC) hj2 r3).mono ?_
    rintro e w' ⟨he, ho', hg'⟩
    rw [hqd]
    refine ⟨he, ⟨fun k hk1 hk2 => (hg'.block k (Nat.lt_of_lt_of_le hk1 hg.size) (by simpa using hk2)).trans (hj1 k hk1 hk2), ?_⟩, hg'⟩
    have h5 := fill_step l.length i (fun i => (qs.getD i (0, 0)).2) hi
    simp only [hqd] at h5
    rw [h5] at ho'
    exact ho'
  · rintro e w' ⟨v, he, ho1, ⟨_, ho2⟩, hg⟩
    have e1 : (List.range l.length).map (fun i => (qs.getD i (0, 0)).1) = qs.map (·.1) := by
      apply List.ext_getElem
      · simp [hql]
      · intro i i1 i2
        have : i < qs.length := by simpa using i2
        simp [List.getElem?_eq_getElem this]
    have e2 : (List.range l.length).map (fun i => (qs.getD i (0, 0)).2) = qs.map (·.2) := by
      apply List.ext_getElem
      · simp [hql]
      · intro i i1 i2
        have : i < qs.length := by simpa using i2
        simp [List.getElem?_eq_getElem this]
    rw [e1] at ho1
    rw [e2, Nat.sub_self, List.replicate_zero, List.append_nil] at ho2
    exact ⟨v, he, ho1, ho2, hg⟩
section
variable {P : Program} {ops : Array Oper} {rest : List Oper} {o : Oper} {a : Act} {Q : Exit → Act → World → Prop}
theorem make_event {W : World} (hgd : o.guard = none) {N : Tmp} (_hd : o.dst = some N) {n : Nat} {t : TypeId}
    (hrun : (execOp a.eval o).run P W = .ok (.value (.slice (some ⟨W.heap.size, 0, none⟩) n n)) (W.alloc (.cells (madeCells #[.int .i64 0] n) t (0, 0))))
    (h : ∀ g, g = W.heap.size → ∀ w1, w1.heap[g]? = some (.cells (madeCells #[.int .i64 0] n) t (0, 0)) → Below W.heap.size W w1 → wpList P ops Q rest (a.put o.dst (.slice (some ⟨g, 0, none⟩) n n)) w1) : wpList P ops Q (o :: rest) a W :=
  Kd.event_run hgd hrun (h _ rfl _ (blk_new W _) (below_alloc (Below.refl _ _) _))
end
theorem cell_grown {W W' : World} {row : Option Nat} {a : Addr} {v : Value} (hg : W.grownBy W' row) (hc : W.cell? a = some v) (hne : some a.block ≠ row) : W'.cell? a = some v := (World.cell?_of_block (hg.block a.block (World.block_lt_of_cell? W a hc) hne)).trans hc
theorem own_made_at {W : World} {g n e : Nat} (hh : W.heap[g]? = some (.cells (madeCells #[.int .i64 0] n) e (0, 0))) (hm : n ≤ 1000) : W.ownsRow g e 1 (.slice (some ⟨g, 0, none⟩) n n) n (nums .i64 (List.replicate n 0)) := by
  have hl : (madeCells #[Value.int .i64 0] n).toList = nums .i64 (List.replicate n 0) := by
    apply List.ext_getElem
    · simp [nums, madeCells]
    · intro i h1 h2
      simp [nums, madeCells, Nat.mod_one]
  refine ⟨by simp [nums], .inr ⟨g, n, _, rfl, Nat.le_refl _, hh, Nat.le_refl _, by simp only [maxLen]; omega, by simp [size_madeCells], ?_⟩⟩
  rw [hl]
  exact List.take_of_length_le (by simp [nums])
theorem own_form' {w : World} {base : Nat} {e : TypeId} {sz : Nat} {v : Value} {n : Nat} {xs : List Value} (h : w.ownsRow base e sz v n xs) (hn : 0 < n) : ∃ g cap, v = .slice (some ⟨g, 0, none⟩) n cap ∧ base ≤ g ∧ g < w.heap.size ∧ n ≤ cap := by
  obtain ⟨g, cap, hv, hb, hl⟩ := h.form hn
  refine ⟨g, cap, hv, hb, hl, ?_⟩
  subst hv
  rcases h.2 with ⟨h2, _⟩ | ⟨g', cap', cur, h2, _, _, hnc, _⟩
  · cases h2
  · have hc : cap = cap' := by injection h2
    omega
theorem below_grownBy {w W W' : World} {base : Nat} {row : Option Nat} (hb : Below base w W) (hs : base ≤ W.heap.size) (h : W.grownBy W' row) (hr : ∀ k, row = some k → base ≤ k) : Below base w W' :=
  ⟨h.os.trans hb.os, h.tape.trans hb.tape, h.output.trans hb.output, Nat.le_trans hb.size h.size, fun k hk => (h.block k (Nat.lt_of_lt_of_le hk hs) (fun e => by have := hr k e.symm; omega)).trans (hb.block k hk)⟩
theorem rd_ord (l : List Nat) (j : Nat) (h : j < l.length) : rd (l.map (fun i : Nat => (i : Int))) (j : Int) = ((l.getD j 0 : Nat) : Int) := by
  unfold rd
  rw [Int.toNat_natCast, List.getD_eq_getElem?_getD, List.getElem?_map, List.getD_eq_getElem?_getD, List.getElem?_eq_getElem h]
  rfl
def split_Split.odd (w : Int) : Bool := (split_Split_1.f w).getD false
def split_Split.bump (ps : List Int) (i : Nat) : List Int := ps.set i (wrap64 (ps.getD i 0 + 1))
def split_Split.f (k : Nat) (a0 : Int) (l0 : List Int) : Option (List Int × Int) :=
  if 64 < (l0.length : Int) then some ([], 4)
  else if 0 ≤ a0 ∧ a0 ≤ 1099511627776 then
    (if l0.any split_Split.odd = true then some ([], 2)
    else (split_sum.f k l0).bind fun s => if s = 0 then some ([], 1)
      else (mapO (fun w => split_exact.f k a0 w s) l0).bind fun qs => (split_sum.f k (qs.map (·.1))).bind fun t =>
        if 0 ≤ wrap64 (a0 - t) ∧ wrap64 (a0 - t) ≤ (l0.length : Int) then some (((orderOf (qs.map (·.2))).take (wrap64 (a0 - t)).toNat).foldl split_Split.bump (qs.map (·.1)), 0) else none)
  else some ([], 2)
theorem split_Split.bump_len (ps : List Int) (i : Nat) : (split_Split.bump ps i).length = ps.length := by unfold split_Split.bump; simp
theorem split_Split.bumps_len : ∀ (l : List Nat) (ps : List Int), (l.foldl split_Split.bump ps).length = ps.length
  | [], ps => rfl
  | i :: l, ps => by rw [List.foldl_cons, split_Split.bumps_len l, split_Split.bump_len]
theorem split_Split.bump_step (ord : List Nat) (ps : List Int) (j : Nat) (h : j < ord.length) : (ord.take (j + 1)).foldl split_Split.bump ps = split_Split.bump ((ord.take j).foldl split_Split.bump ps) (ord.getD j 0) := by
  rw [List.take_add_one, List.getElem?_eq_getElem h, List.foldl_append, List.getD_eq_getElem?_getD, List.getElem?_eq_getElem h]
  rfl
theorem split_Split.sum_nil (k : Nat) (s : Int) (h : split_sum.f k [] = some s) : s = 0 := by
  unfold split_sum.f at h
  cases k with
  | zero => simp [split_sum.l0] at h
  | succ k => simpa [split_sum.l0, eq_comm] using h
theorem split_Split.mono : ∀ a0 l0 k, LeO (split_Split.f k a0 l0) (split_Split.f (k + 1) a0 l0) := by
  intro a0 l0 k
  unfold split_Split.f
  refine LeO.ite (LeO.refl _) (LeO.ite (LeO.ite (LeO.refl _) ?_) (LeO.refl _))
  refine LeO.bind (split_sum.mono _ _) (fun s => LeO.ite (LeO.refl _) ?_)
  refine LeO.bind (mapO_mono (fun w => split_exact.mono _ _ _ _) _) (fun qs => LeO.bind (split_sum.mono _ _) (fun t => LeO.refl _))
theorem split_Split.odd_is (w : Int) : split_Split_1.f w = some (split_Split.odd w) := by
  unfold split_Split.odd split_Split_1.f
  split <;> rfl
set_option maxHeartbeats 4000000 in
theorem split_Split.pred (x : Int) (W : World) : Calls Try.prog 24 #[.int .i64 x] W fun e w' => e = .returned (.bool (split_Split.odd x)) ∧ Below W.heap.size W w' :=
  (split_Split_1.calls x _ W (split_Split.odd_is x)).mono fun e w' ⟨he, hd⟩ => ⟨he, hd.below⟩
set_option maxHeartbeats 16000000 in
set_option maxRecDepth 100000 in
theorem split_Split.calls (k : Nat) (a0 : Int) (A1 : Option Addr) (c1 : Nat) (l1 : List Int) (r1 : List Int) (r2 : Int) (w : World) (hr1 : Kd.C (Kd.int .i64) w A1 l1.length l1) (hc1 : l1.length ≤ c1) (h : split_Split.f k a0 l1 = some (r1, r2)) :
    Calls Try.prog 11 #[.int .i64 a0, .slice A1 l1.length c1] w fun e w' => ∃ v0_ : Value, e = .returned (.tuple #[v0_, .int .i64 r2]) ∧ Kd.R (Kd.int .i64) 3 w' w.heap.size (fun _ => True) v0_ r1 ∧ Below w.heap.size w w' := by
  have HB := Aside0.mk (Below.refl w.heap.size w)
  have HC := Aside0.mk hr1
  have HCC := Aside0.mk hc1
  clear hr1 hc1
  unfold split_Split.f at h
  have e24 : ∀ args w, (callFunc 24 args).run Try.prog w = .ok (.enter 24 args) w := enters_of Try.func24 (by kernel_rfl) rfl
  have e31 : ∀ args w, (callFunc 31 args).run Try.prog w = .ok (.enter 31 args) w := enters_of Try.func31 (by kernel_rfl) rfl
  have HAS : Aside0 (∀ W, Below w.heap.size w W → Calls Try.prog 26 #[.slice A1 l1.length c1, .func (.func 24) #[] #[]] W fun e w' => e = .returned (.bool (l1.any split_Split.odd)) ∧ Below W.heap.size W w') :=
    ⟨fun W hb => hasInt A1 c1 l1 split_Split.odd 24 #[] e24 W (Kd.C_below HC.out hb) (fun W' x _ hb' => (by
      refine (split_Split.pred x W').mono ?_
      rintro e w' ⟨he, h2⟩
      exact ⟨he, below_then hb' hb'.size h2⟩))⟩
  by_cases g0 : 64 < (l1.length : Int)
  · rw [if_pos g0] at h
    simp only [Option.some.injEq, Prod.mk.injEq] at h
    obtain ⟨rfl, rfl⟩ := h
    have g0b : decide (64 < (l1.length : Int)) = true := decide_eq_true g0
    clear g0 HAS
    go_enter Try.func11, Try.ntmps11
    go_wp2
    go_ret2
    exact ⟨_, rfl, Kd.R_nil _ _ _ _ _, by repeat (first | (with_reducible first | exact HB.out | apply below_alloc | apply pw_below_drewN | apply below_drew1) | exact HB.out)⟩
  · rw [if_neg g0] at h
    have g0b : decide (64 < (l1.length : Int)) = false := decide_eq_false g0
    by_cases g1 : 0 ≤ a0 ∧ a0 ≤ 1099511627776
    · rw [if_pos g1] at h
      have ht : split_isAmount.f a0 = some true := by unfold split_isAmount.f; rw [if_pos g1.1]; simp [g1.2]
      have HT := Aside0.mk ht
      clear ht g1
      cases g2 : l1.any split_Split.odd with
      | true =>
        rw [g2] at h HAS
        rw [if_pos rfl] at h
        simp only [Option.some.injEq, Prod.mk.injEq] at h
        obtain ⟨rfl, rfl⟩ := h
        clear g0
        go_enter Try.func11, Try.ntmps11
        go_wp2_with (first | (go_at_call 25; refine (split_isAmount.calls _ _ _ HT.out).mono ?_; rintro e w' ⟨rfl, ⟨n1_, rfl⟩⟩) | (go_at_call 26; refine (HAS.out _ (by repeat (first | (with_reducible first | exact HB.out | apply below_alloc | apply pw_below_drewN | apply below_drew1) | exact HB.out))).mono ?_; rintro e w1 ⟨rfl, hb1⟩; have hA0 := pw_cell_below hb1 (a := ⟨w.heap.size, 0, none⟩) (v := .int .i64 a0) (by go_simp); have hA1 := pw_cell_below hb1 (a := ⟨w.heap.size + 1, 0, none⟩) (v := .slice A1 l1.length c1) (by go_simp); have HB1 := Aside0.mk (below_step (by repeat (first | (with_reducible first | exact HB.out | apply below_alloc | apply pw_below_drewN | apply below_drew1) | exact HB.out)) hb1); clear hb1))
        go_ret2
        exact ⟨_, rfl, Kd.R_nil _ _ _ _ _, by repeat (first | (with_reducible first | exact HB1.out | apply below_alloc | apply pw_below_drewN | apply below_drew1) | exact HB1.out)⟩
      | false =>
        rw [g2] at h HAS
        rw [if_neg (by simp)] at h
        obtain ⟨s, hs, h⟩ := Option.bind_eq_some_iff.1 h
        have HS := Aside0.mk hs
        clear hs
        by_cases g3 : s = 0
        · rw [if_pos g3] at h
          simp only [Option.some.injEq, Prod.mk.injEq] at h
          obtain ⟨rfl, rfl⟩ := h
          subst g3
          clear g0
          go_enter Try.func11, Try.ntmps11
          go_wp2_with (first | (go_at_call 25; refine (split_isAmount.calls _ _ _ HT.out).mono ?_; rintro e w' ⟨rfl, ⟨n1_, rfl⟩⟩) | (go_at_call 26; refine (HAS.out _ (by repeat (first | (with_reducible first | exact HB.out | apply below_alloc | apply pw_below_drewN | apply below_drew1) | exact HB.out))).mono ?_; rintro e w1 ⟨rfl, hb1⟩; have hA0 := pw_cell_below hb1 (a := ⟨w.heap.size, 0, none⟩) (v := .int .i64 a0) (by go_simp); have hA1 := pw_cell_below hb1 (a := ⟨w.heap.size + 1, 0, none⟩) (v := .slice A1 l1.length c1) (by go_simp); have HB1 := Aside0.mk (below_step (by repeat (first | (with_reducible first | exact HB.out | apply below_alloc | apply pw_below_drewN | apply below_drew1) | exact HB.out)) hb1); have HS1 := Aside0.mk (split_sum.calls k A1 c1 l1 0 w1 (Kd.C_below HC.out HB1.out) HCC.out HS.out); clear hb1) | (go_at_call 27; refine HS1.out.mono ?_; rintro e w2 ⟨rfl, hd2⟩; have hb2 := hd2.below; clear hd2; have HB2 := Aside0.mk (below_step HB1.out hb2); clear hb2))
          go_ret2
          exact ⟨_, rfl, Kd.R_nil _ _ _ _ _, by repeat (first | (with_reducible first | exact HB2.out | apply below_alloc | apply pw_below_drewN | apply below_drew1) | exact HB2.out)⟩
        · rw [if_neg g3] at h
          have g3b : (s == 0) = false := by simp [g3]
          obtain ⟨qs, hq, h⟩ := Option.bind_eq_some_iff.1 h
          obtain ⟨t, ht, h⟩ := Option.bind_eq_some_iff.1 h
          have hql : qs.length = l1.length := (mapO_spec _ l1 qs hq).1
          by_cases g4 : 0 ≤ wrap64 (a0 - t) ∧ wrap64 (a0 - t) ≤ (l1.length : Int)
          case neg => rw [if_neg g4] at h; exact absurd h (by simp)
          rw [if_pos g4] at h
          simp only [Option.some.injEq, Prod.mk.injEq] at h
          obtain ⟨rfl, rfl⟩ := h
          have hpos : 0 < l1.length := by
            rcases Nat.eq_zero_or_pos l1.length with e | e
            · obtain rfl := List.eq_nil_of_length_eq_zero e
              exact absurd (split_Split.sum_nil k s HS.out) g3
            · exact e
          have HPOS := Aside0.mk hpos
          obtain ⟨K, hK⟩ : ∃ K : Nat, wrap64 (a0 - t) = (K : Int) := ⟨(wrap64 (a0 - t)).toNat, (Int.toNat_of_nonneg g4.1).symm⟩
          have hKt : (wrap64 (a0 - t)).toNat = K := by rw [hK]; simp
          rw [hKt]
          have HK : Aside0 (K ≤ l1.length) := ⟨by rw [hK] at g4; omega⟩
          have hql2 : (qs.map (·.2)).length = l1.length := by rw [List.length_map]; exact hql
          have HORD := Aside0.mk (orderOf_spec (qs.map (·.2)))
          have HOL : Aside0 ((orderOf (qs.map (·.2))).length = l1.length) := ⟨by rw [HORD.out.1.length_eq, List.length_range, hql2]⟩
          have HQ2 := Aside0.mk hql2
          have HKE := Aside0.mk hK
          clear hpos hql2 hKt hK
          have HQ := Aside0.mk hq
          have HTS := Aside0.mk ht
          have HQL := Aside0.mk hql
          have HG4 := Aside0.mk g4
          clear hq ht hql g4
          have hlen : l1.length ≤ 64 := by omega
          have hmk := print_make (P := Try.prog) 22 3 .i64 8 Try.underlying22 rfl (by omega) l1.length (by omega)
          clear g0
          go_enter Try.func11, Try.ntmps11
          go_wp2_with (first
            | (go_at_call 25; refine (split_isAmount.calls _ _ _ HT.out).mono ?_; rintro e w' ⟨rfl, ⟨n1_, rfl⟩⟩)
            | (go_at_call 26; refine (HAS.out _ (by repeat (first | (with_reducible first | exact HB.out | apply below_alloc | apply pw_below_drewN | apply below_drew1) | exact HB.out))).mono ?_; rintro e w1 ⟨rfl, hb1⟩; have hA0 := pw_cell_below hb1 (a := ⟨w.heap.size, 0, none⟩) (v := .int .i64 a0) (by go_simp); have hA1 := pw_cell_below hb1 (a := ⟨w.heap.size + 1, 0, none⟩) (v := .slice A1 l1.length c1) (by go_simp); have HB1 := Aside0.mk (below_step (by repeat (first | (with_reducible first | exact HB.out | apply below_alloc | apply pw_below_drewN | apply below_drew1) | exact HB.out)) hb1); have HZ1 : Aside0 (w.heap.size + 2 ≤ w1.heap.size) := ⟨by have := hb1.size; simp at this; omega⟩; clear hb1; have HS1 := Aside0.mk (split_sum.calls k A1 c1 l1 s w1 (Kd.C_below HC.out HB1.out) HCC.out HS.out))
            | (go_at_call 27; refine HS1.out.mono ?_; rintro e w2 ⟨rfl, hd2⟩; have hb2 := hd2.below; clear hd2; have hC0 := pw_cell_below hb2 hA0; have hC1 := pw_cell_below hb2 hA1; have HB2 := Aside0.mk (below_step HB1.out hb2); have HZ2 : Aside0 (w.heap.size + 2 ≤ w2.heap.size) := ⟨Nat.le_trans HZ1.out hb2.size⟩; clear hb2)
            | ((with_reducible refine gate_dst (N := 7) rfl ?_); refine box_event ?hg (N := 7) ?hd (cs := #[.int .i64 0]) (t := 3) ?hr ?_; (case hd => rfl); (case hg => rfl); (case hr => first | (go_simp; done) | (go_simp; rfl)); intro g3 hg3 w3 hx3 hb3; have HX3 := Aside0.mk hx3; have HB3 := Aside0.mk (below_step HB2.out hb3); have HZ3 : Aside0 (w.heap.size + 2 ≤ g3 ∧ g3 < w3.heap.size) := ⟨by have := HZ2.out; omega, blk_lt hx3⟩; have hD0 := pw_cell_below hb3 hC0; have hD1 := pw_cell_below hb3 hC1; have hD2 := (blk_cell hx3 0).trans rfl; have hDf := blk_frozen hx3 0; have hn0 : w.heap.size ≠ g3 := (by have := HZ3.out; omega); have hn1 : w.heap.size + 1 ≠ g3 := (by have := HZ3.out; omega); have hn2 : g3 ≠ w.heap.size := (by have := HZ3.out; omega); have hn3 : g3 ≠ w.heap.size + 1 := (by have := HZ3.out; omega); clear hx3 hb3 hg3)
            | ((with_reducible refine gate_dst (N := 32) rfl ?_); refine make_event ?hg (N := 32) ?hd (n := l1.length) (t := 3) ?hr ?_; (case hd => rfl); (case hg => rfl); (case hr => first | (go_simp; done) | (go_simp; rfl)); intro g4 hg4 w4 hx4 hb4; have hE0 := pw_cell_below hb4 (a := ⟨w.heap.size, 0, none⟩) (v := .int .i64 a0) (by go_simp); have hE1 := pw_cell_below hb4 (a := ⟨w.heap.size + 1, 0, none⟩) (v := .slice A1 l1.length c1) (by go_simp); have hE2 := pw_cell_below hb4 (a := ⟨g3, 0, none⟩) (v := .int .i64 s) (by go_simp); have HX4 := Aside0.mk hx4; have HB4 := Aside0.mk (below_step (below_set HB3.out (by have := HZ3.out; omega)) hb4); have HZ4 : Aside0 (g3 < g4 ∧ g4 < w4.heap.size) := ⟨by have := HZ3.out; simp at hg4; omega, blk_lt hx4⟩; clear hx4 hb4 hg4)
            | ((with_reducible refine gate_dst (N := 8) rfl ?_); refine box_event ?hg (N := 8) ?hd (cs := #[.slice none 0 0]) (t := 22) ?hr ?_; (case hd => rfl); (case hg => rfl); (case hr => first | (go_simp; done) | (go_simp; rfl)); intro g5 hg5 w5 hx5 hb5; have hF0 := pw_cell_below hb5 hE0; have hF1 := pw_cell_below hb5 hE1; have hF2 := pw_cell_below hb5 hE2; have hF3 := (blk_cell hx5 0).trans rfl; have hFf := blk_frozen hx5 0; have HX5 := Aside0.mk (blk_below HX4.out hb5); have HB5 := Aside0.mk (below_step HB4.out hb5); have HZ5 : Aside0 (g4 < g5 ∧ g5 < w5.heap.size) := ⟨by have := HZ4.out; omega, blk_lt hx5⟩; have hm0 : w.heap.size ≠ g5 := (by have := HZ3.out; have := HZ4.out; have := HZ5.out; omega); have hm1 : w.heap.size + 1 ≠ g5 := (by have := HZ3.out; have := HZ4.out; have := HZ5.out; omega); have hm2 : g3 ≠ g5 := (by have := HZ4.out; have := HZ5.out; omega); have hm3 : g5 ≠ w.heap.size := fun e => hm0 e.symm; have hm4 : g5 ≠ w.heap.size + 1 := fun e => hm1 e.symm; have hm5 : g5 ≠ g3 := fun e => hm2 e.symm; clear hx5 hb5 hg5)
            | (go_at_call 28; refine (fillInt l1.length (by omega) 31 #[] e31 (fun i => (i : Int)) w7 none (fun k hk => by simp at hk) (fun _ _ => True) trivial (fun _ _ _ _ _ => trivial) (fun i W _ _ _ => (splitSame (i : Int) W).mono (by rintro e w' ⟨he, hb⟩; exact ⟨he, trivial, grown_of_below hb none⟩))).mono ?_; rintro e w8 ⟨v8, rfl, ho8, _, hg8⟩; obtain ⟨g8, c8, rfl, hgb8, hgl8, hnc8⟩ := own_form' ho8 HPOS.out; obtain ⟨g7, c7, rfl, hgb7, hgl7, hnc7⟩ := own_form' HO7.out HPOS.out; have HO8 := Aside0.mk ho8; have HG8 := Aside0.mk hg8; have HNC := Aside0.mk (And.intro hnc7 hnc8); have HZ8 : Aside0 (w5.heap.size ≤ g7 ∧ g7 < w7.heap.size ∧ w7.heap.size ≤ g8 ∧ g8 < w8.heap.size ∧ g5 < w5.heap.size ∧ w.heap.size + 2 ≤ g4 ∧ g4 < g5) := ⟨by have := HZ5.out; have := HZ4.out; have := HZ3.out; simp at hgb7; omega⟩; have hI0 := cell_grown hg8 hG0 (by simp); have hI5 := cell_grown hg8 hG5 (by simp); clear ho8 hg8 hgb8 hgl8 hnc8 hgb7 hgl7 hnc7)
            | (go_at_call 28; refine (splitParts k a0 s l1 qs HQ.out (by omega) w.heap.size (w.heap.size + 1) g3 g5 g4 g4 c1 A1 w _ HC.out (by have := HB5.out.size; simp; exact this) (fun k hk => (Below.heap_setCell w5 _ _ k (by have := HZ3.out; have := HZ4.out; have := HZ5.out; simp; omega)).trans (HB5.out.block k hk)) (by have := HZ3.out; have := HZ4.out; omega) (by go_simp) (by go_simp) (by go_simp) (by go_simp)
                (own_made_at ((Below.heap_setCell w5 _ _ g4 (by have := HZ5.out; simp; omega)).trans HX5.out) (by omega)) (by have := HZ3.out; have := HZ4.out; omega) (by have := HZ3.out; have := HZ4.out; omega) (by have := HZ4.out; omega) (by have := HZ5.out; omega)).mono ?_; rintro e w7 ⟨v7, rfl, ho7, hr7, hg7⟩; have HO7 := Aside0.mk ho7; have HR7 := Aside0.mk hr7; have HG7 := Aside0.mk hg7; have hG0 := cell_grown hg7 (a := ⟨w.heap.size, 0, none⟩) (v := .int .i64 a0) (by go_simp) (by have := HZ3.out; have := HZ4.out; simp; omega); have hG1 := cell_grown hg7 (a := ⟨w.heap.size + 1, 0, none⟩) (v := .slice A1 l1.length c1) (by go_simp) (by have := HZ3.out; have := HZ4.out; simp; omega); have hG5 := cell_grown hg7 (a := ⟨g5, 0, none⟩) (v := .slice (some ⟨g4, 0, none⟩) l1.length l1.length) (by go_simp) (by have := HZ5.out; simp; omega); have HZ7 : Aside0 (w5.heap.size ≤ w7.heap.size) := ⟨by have := hg7.size; simp at this; exact this⟩; clear ho7 hr7 hg7)
            | (go_at_call 32; refine (sortOrderN (qs.map (·.2)) l1.length HQ2.out HPOS.out (by omega) g5 g4 g4 l1.length w7.heap.size g8 c8 w8 hI5 (own_other HR7.out HG8.out (.inr (by simp [Value.ownBlock]))) HO8.out (by have := HZ8.out; omega) (by have := HZ8.out; have := HZ7.out; omega)).mono ?_; rintro e w9 ⟨rfl, ho9, hg9⟩; have HO9 := Aside0.mk ho9; have HG9 := Aside0.mk hg9; have hJ0 := cell_grown hg9 hI0 (by have := HZ8.out; have := HZ7.out; simp; omega); clear ho9 hg9))
          have HP9 : Aside0 (w9.ownsRow w5.heap.size 3 1 (.slice (some ⟨g7, 0, none⟩) l1.length c7) l1.length (nums .i64 (qs.map (·.1)))) := ⟨by
            have h1 := HO7.out
            simp only [World.size_setCell] at h1
            exact own_other (own_other h1 HG8.out (.inr (by simp [Value.ownBlock]))) HG9.out (.inr (by have := HZ8.out; simp [Value.ownBlock]; omega))⟩
          have HB9 : Aside0 (Below w.heap.size w w9) := ⟨by
            have h5 : w.heap.size ≤ w5.heap.size := by have := HZ5.out; have := HZ8.out; omega
            have h7 := below_grownBy (below_set HB5.out (by have := HZ8.out; omega)) (by simp; exact h5) HG7.out (fun k hk => by have := HZ8.out; simp at hk; omega)
            have h8 := below_grownBy h7 (by have := HZ7.out; omega) HG8.out (fun k hk => by simp at hk)
            exact below_grownBy h8 (by have := HZ7.out; have := HG8.out.size; omega) HG9.out (fun k hk => by have := HZ8.out; have := HZ7.out; simp at hk; omega)⟩
          have hql1 : (qs.map (·.1)).length = l1.length := by rw [List.length_map]; exact HQL.out
          have HSUM : Aside0 (∀ W, Drawn0 w9 W → Calls Try.prog 27 #[.slice (some ⟨g7, 0, none⟩) l1.length c7] W fun e w' => e = .returned (.int .i64 t) ∧ Drawn0 W w') := ⟨fun W hd => by
            have hr := (Kd.R_reads' (R_of_nums (ok := fun _ => True) (own_block HP9.out (hd.below.block g7 (own_lt HP9.out g7 rfl))) hql1 (fun _ _ => trivial)))
            have hs := split_sum.calls k (some ⟨g7, 0, none⟩) c7 (qs.map (·.1)) t W hr.2.2 (by rw [hql1]; exact HNC.out.1) HTS.out
            rw [hql1] at hs
            exact hs⟩
          have hKE := HKE.out
          have p1 : (0 : Int) ≤ (K : Int) := by clear hKE; omega
          have p2 : (K : Int) ≤ (c8 : Int) := by have := HK.out; have := HNC.out; clear hKE; omega
          have HL1 := Aside0.mk hql1
          have hgg : g8 ≠ g7 := by have := HZ8.out; clear hKE; omega
          clear hql1 HQ HT HS HR7 HG7 HX5 HX4 HX3 HO7 HO8 HG8 HG9 HS1 HAS hmk e24 e31 hG0 hG1 hG5 hI0 hI5
          go_quiet (first | (go_at_call 27; (with_reducible refine (HSUM.out _ ⟨_, rfl⟩).mono ?_); rintro e w' ⟨rfl, ⟨nd, rfl⟩⟩; (try first | exact ⟨rfl, _, World.drewN_drewN _ _ _⟩ | exact ⟨rfl, _, Eq.trans (World.drewN_drewN _ _ _) (congrArg (World.drewN _) (Nat.add_assoc _ _ _))⟩)))
          obtain ⟨ord, hord⟩ : ∃ ord, ord = orderOf (qs.map (·.2)) := ⟨_, rfl⟩
          rw [← hord] at HO9 HORD HOL
          have HORDE := Aside0.mk hord
          clear hord
          have HST : Aside0 (w9.grownBy (w9.drewN nq) (some g7) ∧ (w9.drewN nq).ownsRow w5.heap.size 3 1 (.slice (some ⟨g7, 0, none⟩) l1.length c7) l1.length (nums .i64 (qs.map (·.1))) ∧ (w9.drewN nq).ownsRow w7.heap.size 3 1 (.slice (some ⟨g8, 0, none⟩) l1.length c8) l1.length (nums .i64 (ord.map (fun i : Nat => (i : Int))))) := ⟨by
            have hd : Drawn0 w9 (w9.drewN nq) := ⟨nq, rfl⟩
            exact ⟨grown_of_below hd.below _, own_block HP9.out (hd.below.block g7 (own_lt HP9.out g7 rfl)), own_block HO9.out (hd.below.block g8 (own_lt HO9.out g8 rfl))⟩⟩
          clear hKE HSUM
          go_wp2
          go_loopg [50] K (fun gg s50 wr => ∃ j : Nat, s50 = .int .i64 (j : Int) ∧ Aside0 (K - j ≤ gg ∧ j ≤ K) ∧ Aside0 (w9.grownBy wr (some g7) ∧ wr.ownsRow w5.heap.size 3 1 (.slice (some ⟨g7, 0, none⟩) l1.length c7) l1.length (nums .i64 ((ord.take j).foldl split_Split.bump (qs.map (·.1)))) ∧ wr.ownsRow w7.heap.size 3 1 (.slice (some ⟨g8, 0, none⟩) l1.length c8) l1.length (nums .i64 (ord.map (fun i : Nat => (i : Int))))))
          case atStart => exact ⟨0, rfl, ⟨by omega, by omega⟩, HST⟩
          case round =>
            clear HST
            obtain ⟨j, rfl, HI, HW⟩ := hrel
            by_cases c : j < K
            · have HC3 := Aside0.mk c
              have hjl : j < ord.length := by have := HOL.out; have := HK.out; omega
              have hstep := split_Split.bump_step ord (qs.map (·.1)) j hjl
              have ho : ord.getD j 0 < l1.length := by
                rw [List.getD_eq_getElem?_getD, List.getElem?_eq_getElem hjl]
                have h1 := HORD.out.1.mem_iff.1 (List.getElem_mem hjl)
                rw [List.mem_range, HQ2.out] at h1
                exact h1
              obtain ⟨cO, fO⟩ := own_at HW.out.2.2 (j : Int) (by omega) (by have := HK.out; omega)
              rw [Int.toNat_natCast, rd_ord _ _ hjl] at cO
              obtain ⟨o, hO⟩ : ∃ o, o = ord.getD j 0 := ⟨_, rfl⟩
              rw [← hO] at cO ho hstep
              obtain ⟨cP, fP⟩ := own_at HW.out.2.1 (o : Int) (by omega) (by omega)
              have hst := own_store HW.out.2.1 (o : Int) (wrap64 (rd ((ord.take j).foldl split_Split.bump (qs.map (·.1))) (o : Int) + 1))
              rw [Int.toNat_natCast] at cP fP hst
              have hrd : rd ((ord.take j).foldl split_Split.bump (qs.map (·.1))) (o : Int) = ((ord.take j).foldl split_Split.bump (qs.map (·.1))).getD o 0 := by unfold rd; rw [Int.toNat_natCast]
              have hnew : ((ord.take j).foldl split_Split.bump (qs.map (·.1))).set o (wrap64 (rd ((ord.take j).foldl split_Split.bump (qs.map (·.1))) (o : Int) + 1)) = (ord.take (j + 1)).foldl split_Split.bump (qs.map (·.1)) := by
                rw [hstep, hrd]
                rfl
              rw [hnew] at hst
              obtain ⟨x, hx⟩ : ∃ x, x = rd ((ord.take j).foldl split_Split.bump (qs.map (·.1))) (o : Int) := ⟨_, rfl⟩
              rw [← hx] at cP hst
              have HS2 := Aside0.mk hst
              have HG0 := Aside0.mk HW.out.1
              have HO2 := Aside0.mk HW.out.2.2
              have q1 : (0 : Int) ≤ (j : Int) := Int.natCast_nonneg _
              have q2 : (j : Int) < (K : Int) := by omega
              have q3 : (0 : Int) ≤ (o : Int) := Int.natCast_nonneg _
              have q4 : (o : Int) < (l1.length : Int) := by omega
              have hw : wrap64 ((j : Int) + 1) = ((j + 1 : Nat) : Int) := w64 rfl (by have := HK.out; omega)
              clear hx hnew hrd hst hstep hO ho hjl HW
              go_wp2
              go_roundg (K - (j + 1))
              case measure => have := HI.out; have := HC3.out; clear hw; omega
              case rel =>
                refine ⟨j + 1, by rw [hw], ⟨Nat.le_refl _, HC3.out⟩, ⟨HG0.out.trans HS2.out.2, HS2.out.1, own_other HO2.out HS2.out.2 (.inr (by simp [Value.ownBlock]; exact hgg))⟩⟩
            · obtain rfl : j = K := by have := HI.out; omega
              go_wp2
              go_ret2
              have hord := HORDE.out
              rw [← hord]
              have hbase : w.heap.size ≤ w5.heap.size := by have := HZ8.out; omega
              exact ⟨_, rfl, Kd.R_lower (R_of_nums HW.out.2.1 (by rw [split_Split.bumps_len]; exact HL1.out) (fun _ _ => trivial)) hbase, below_grownBy HB9.out HB9.out.size HW.out.1 (fun k hk => by have := HZ8.out; simp at hk; omega)⟩
    · rw [if_neg g1] at h
      simp only [Option.some.injEq, Prod.mk.injEq] at h
      obtain ⟨rfl, rfl⟩ := h
      have ht : split_isAmount.f a0 = some false := by
        unfold split_isAmount.f
        split
        · simp; omega
        · rfl
      have HT := Aside0.mk ht
      clear ht g0 g1
      go_enter Try.func11, Try.ntmps11
      go_wp2_with (first | (go_at_call 25; refine (split_isAmount.calls _ _ _ HT.out).mono ?_; rintro e w' ⟨rfl, ⟨n1_, rfl⟩⟩))
      go_ret2
      exact ⟨_, rfl, Kd.R_nil _ _ _ _ _, by repeat (first | (with_reducible first | exact HB.out | apply below_alloc | apply pw_below_drewN | apply below_drew1) | exact HB.out)⟩

/-! ### skiarearef34_Same: function 13 -/
def skiarearef34_Same.l0 : Nat → List Int → List Int → Int → Option (Bool)
  | 0, _, _, _ => none
  | k + 1, x0, x1, x5 => if x5 < (x0.length : Int) then (if 0 ≤ x5 then (if x5 < (x1.length : Int) then (if (rd x0 x5) = (rd x1 x5) then (skiarearef34_Same.l0 k x0 x1 (wrap64 (x5 + 1))) else (some false)) else (none)) else (none)) else (some true)
def skiarearef34_Same.f (k : Nat) (l0 : List Int) (l1 : List Int) : Option (Bool) := if (l0.length : Int) = (l1.length : Int) then (skiarearef34_Same.l0 k l0 l1 0) else (some false)
theorem skiarearef34_Same.mono_l : ∀ k, (∀ y0 y1 y2, LeO (skiarearef34_Same.l0 k y0 y1 y2) (skiarearef34_Same.l0 (k + 1) y0 y1 y2))
  | 0 => fun _ _ _ r h => by simp [skiarearef34_Same.l0] at h
  | k + 1 => by
    have ih0 := skiarearef34_Same.mono_l k
    · intro y0 y1 y2
      unfold skiarearef34_Same.l0
      repeat' first
      | (with_reducible exact ih0 _ _ _)
      | (with_reducible exact LeO.refl _)
      | (with_reducible exact LeO.none _)
      | (with_reducible refine LeO.ite ?_ ?_)
      | (with_reducible refine LeO.bind ?_ (fun _ => ?_))
      | exact ih0 _ _ _
      | exact LeO.none _
      | refine LeO.ite ?_ ?_
      | refine LeO.bind ?_ (fun _ => ?_)
theorem skiarearef34_Same.mono : ∀ a0 a1 k, LeO (skiarearef34_Same.f k a0 a1) (skiarearef34_Same.f (k + 1) a0 a1) := by
  intro a0 a1 k
  have ih0 := skiarearef34_Same.mono_l k
  unfold skiarearef34_Same.f
  repeat' first
      | (with_reducible exact ih0 _ _ _)
      | (with_reducible exact LeO.refl _)
      | (with_reducible exact LeO.none _)
      | (with_reducible refine LeO.ite ?_ ?_)
      | (with_reducible refine LeO.bind ?_ (fun _ => ?_))
      | exact ih0 _ _ _
      | exact LeO.none _
      | refine LeO.ite ?_ ?_
      | refine LeO.bind ?_ (fun _ => ?_)
set_option maxHeartbeats 8000000 in
set_option maxRecDepth 100000 in
theorem skiarearef34_Same.calls (k : Nat) (A0 : Option Addr) (c0 : Nat) (l0 : List Int) (A1 : Option Addr) (c1 : Nat) (l1 : List Int) (r : Bool) (w : World) (hr0 : Kd.C (Kd.int .i64) w A0 l0.length l0) (hc0 : l0.length ≤ c0) (hr1 : Kd.C (Kd.int .i64) w A1 l1.length l1) (hc1 : l1.length ≤ c1) (h : skiarearef34_Same.f k l0 l1 = some r) :
    Calls Try.prog 13 #[.slice A0 l0.length c0, .slice A1 l1.length c1] w fun e w' => e = .returned (.bool r) ∧ Drawn0 w w' := by
  have HR0 := Aside0.mk hr0
  have HC0 := Aside0.mk hc0
  clear hr0 hc0
  have HR1 := Aside0.mk hr1
  have HC1 := Aside0.mk hc1
  clear hr1 hc1
  have H : (if (l0.length : Int) = (l1.length : Int) then (skiarearef34_Same.l0 k l0 l1 0) else (some false)) = some r := h
  clear h
  by_cases c3 : (l0.length : Int) = (l1.length : Int)
  · rw [if_pos c3] at H
    have c3b0 : ((l0.length : Int) == (l1.length : Int)) = true := beq_iff_eq.mpr c3
    have c3b1 : ((l0.length : Int) != (l1.length : Int)) = false := bne_eq_false_iff_eq.mpr c3
    have c3b2 : (l0.length == l1.length) = true := by first | simpa using c3 | (simp at c3 ⊢; omega)
    clear c3
    have H' := Aside0.mk H
    clear H
    go_enter Try.func13, Try.ntmps13
    go_wp2
    repeat (go_quiet (fail); try go_wp2)
    go_loopg [5] k (fun kq v5 w' => ∃ (x5_1 : Int), v5 = .int .i64 x5_1 ∧ Aside0 (skiarearef34_Same.l0 kq l0 l1 x5_1 = some r) ∧ Aside0 (kq ≤ k) ∧ Drawn0 w w')
    case atStart => exact ⟨(0), (by first | rfl | (simp; done) | (simp [*]; done)), H', ⟨Nat.le_refl _⟩, by repeat (first | exact Drawn0.refl _ | apply Drawn0.step)⟩
    case round =>
      clear H'
      try clear c1
      try clear p2
      try clear c3
      try clear c3b0
      try clear c3b1
      try clear c3b2
      obtain ⟨x5_1, rfl, HA, HK1, ⟨m1, rfl⟩⟩ := hrel
      cases gk with
      | zero => exact absurd HA.out (by simp [skiarearef34_Same.l0])
      | succ k1 =>
        have H := HA.out
        clear HA
        simp only [skiarearef34_Same.l0] at H
        by_cases c4 : x5_1 < (l0.length : Int)
        · rw [if_pos c4] at H
          have c4b0 : decide (x5_1 < (l0.length : Int)) = true := decide_eq_true c4
          clear c4
          by_cases c5 : 0 ≤ x5_1
          · rw [if_pos c5] at H
            have c5b0 : decide (0 ≤ x5_1) = true := decide_eq_true c5
            clear c5
            by_cases c6 : x5_1 < (l1.length : Int)
            · rw [if_pos c6] at H
              have c6b0 : decide (x5_1 < (l1.length : Int)) = true := decide_eq_true c6
              clear c6
              by_cases c7 : (rd l0 x5_1) = (rd l1 x5_1)
              · rw [if_pos c7] at H
                have c7b0 : ((rd l0 x5_1) == (rd l1 x5_1)) = true := beq_iff_eq.mpr c7
                have c7b1 : ((rd l0 x5_1) != (rd l1 x5_1)) = false := bne_eq_false_iff_eq.mpr c7
                clear c7
                have H' := Aside0.mk H
                clear H
                have p109 : 0 ≤ (x5_1 : Int) := of_decide_eq_true (by first | (with_reducible assumption) | assumption)
                have q109 : x5_1 < (l0.length : Int) := of_decide_eq_true (by first | (with_reducible assumption) | assumption)
                obtain ⟨ad109, e109, hx109_0⟩ := Kd.at_int HR0.out x5_1 p109 q109
                cases e109
                replace p109 := eq_true p109
                replace q109 := eq_true q109
                have p110 : 0 ≤ (x5_1 : Int) := of_decide_eq_true (by first | (with_reducible assumption) | assumption)
                have q110 : x5_1 < (l1.length : Int) := of_decide_eq_true (by first | (with_reducible assumption) | assumption)
                obtain ⟨ad110, e110, hx110_0⟩ := Kd.at_int HR1.out x5_1 p110 q110
                cases e110
                replace p110 := eq_true p110
                replace q110 := eq_true q110
                go_wp2
                repeat (go_quiet (fail); try go_wp2)
                go_roundg k1
                case measure => have := HK1.out; omega
                case rel => exact ⟨(wrap64 (x5_1 + 1)), (by first | rfl | (simp; done) | (simp [*]; done)), H', ⟨by have := HK1.out; omega⟩, by repeat (first | exact Drawn0.refl _ | apply Drawn0.step)⟩
              · rw [if_neg c7] at H
                have c7b0 : ((rd l0 x5_1) == (rd l1 x5_1)) = false := beq_eq_false_iff_ne.mpr c7
                have c7b1 : ((rd l0 x5_1) != (rd l1 x5_1)) = true := bne_iff_ne.mpr c7
                obtain rfl := Option.some.inj H
                have p109 : 0 ≤ (x5_1 : Int) := of_decide_eq_true (by first | (with_reducible assumption) | assumption)
                have q109 : x5_1 < (l0.length : Int) := of_decide_eq_true (by first | (with_reducible assumption) | assumption)
                obtain ⟨ad109, e109, hx109_0⟩ := Kd.at_int HR0.out x5_1 p109 q109
                cases e109
                replace p109 := eq_true p109
                replace q109 := eq_true q109
                have p110 : 0 ≤ (x5_1 : Int) := of_decide_eq_true (by first | (with_reducible assumption) | assumption)
                have q110 : x5_1 < (l1.length : Int) := of_decide_eq_true (by first | (with_reducible assumption) | assumption)
                obtain ⟨ad110, e110, hx110_0⟩ := Kd.at_int HR1.out x5_1 p110 q110
                cases e110
                replace p110 := eq_true p110
                replace q110 := eq_true q110
                go_wp2
                repeat (go_quiet (fail); try go_wp2)
                go_ret
                exact ⟨by first | rfl | (simp; done) | (simp [*]; done), by repeat (first | exact Drawn0.refl _ | apply Drawn0.step)⟩
            · rw [if_neg c6] at H
              exact absurd H (by simp)
          · rw [if_neg c5] at H
            exact absurd H (by simp)
        · rw [if_neg c4] at H
          have c4b0 : decide (x5_1 < (l0.length : Int)) = false := decide_eq_false c4
          clear c4
          obtain rfl := Option.some.inj H
          go_wp2
          repeat (go_quiet (fail); try go_wp2)
          go_ret
          exact ⟨by first | rfl | (simp; done) | (simp [*]; done), by repeat (first | exact Drawn0.refl _ | apply Drawn0.step)⟩
  · rw [if_neg c3] at H
    have c3b0 : ((l0.length : Int) == (l1.length : Int)) = false := beq_eq_false_iff_ne.mpr c3
    have c3b1 : ((l0.length : Int) != (l1.length : Int)) = true := bne_iff_ne.mpr c3
    have c3b2 : (l0.length == l1.length) = false := by first | simpa using c3 | (simp at c3 ⊢; omega)
    obtain rfl := Option.some.inj H
    go_enter Try.func13, Try.ntmps13
    go_wp2
    repeat (go_quiet (fail); try go_wp2)
    go_ret
    exact ⟨by first | rfl | (simp; done) | (simp [*]; done), by repeat (first | exact Drawn0.refl _ | apply Drawn0.step)⟩

/-! ### split_Even: function 14 (by hand) -/
def split_Even.at (a n : Int) (i : Nat) : Int := if (i : Int) < Int.tmod a n then wrap64 (wrap64 (Int.tdiv a n) + 1) else wrap64 (Int.tdiv a n)
def split_Even.f (a0 : Int) (a1 : Int) : Option (List Int × Int) := if 0 ≤ a0 ∧ a0 ≤ 1099511627776 then (if 1 ≤ a1 ∧ a1 ≤ 64 then some ((List.range a1.toNat).map (split_Even.at a0 a1), 0) else some ([], 1)) else some ([], 2)
set_option maxHeartbeats 4000000 in
set_option maxRecDepth 100000 in
theorem split_Even.one (a n : Int) (h0 : 1 ≤ n) (i : Nat) (B C : Nat) (W : World) (hc : W.cell? ⟨B, 0, none⟩ = some (.int .i64 a)) (hc2 : W.cell? ⟨C, 0, none⟩ = some (.int .i64 n)) :
    Calls Try.prog 36 #[.int .i64 (i : Int), .pointer (some ⟨B, 0, none⟩), .pointer (some ⟨C, 0, none⟩)] W fun e w' => e = .returned (.int .i64 (split_Even.at a n i)) ∧ Below W.heap.size W w' := by
  have hn : ¬ n = 0 := by omega
  have hnb : decide (n = 0) = false := decide_eq_false hn
  have hnb2 : (n == 0) = false := by simp [hn]
  unfold split_Even.at
  have HB := Aside0.mk (Below.refl W.heap.size W)
  have H0 := Aside0.mk h0
  clear h0
  by_cases h1 : (i : Int) < Int.tmod a n
  all_goals
    go_enter Try.func36, Try.ntmps36
    go_wp2
    go_ret
    exact ⟨by first | rfl | (simp [h1]; done), by repeat (first | (with_reducible first | exact HB.out | apply below_alloc | apply pw_below_drewN | apply below_drew1) | exact HB.out)⟩
set_option maxHeartbeats 4000000 in
set_option maxRecDepth 100000 in
theorem split_Even.calls (a0 : Int) (a1 : Int) (r1 : List Int) (r2 : Int) (w : World) (h : split_Even.f a0 a1 = some (r1, r2)) :
    Calls Try.prog 14 #[.int .i64 a0, .int .i64 a1] w fun e w' => ∃ v0_ : Value, e = .returned (.tuple #[v0_, .int .i64 r2]) ∧ Kd.R (Kd.int .i64) 3 w' w.heap.size (fun _ => True) v0_ r1 ∧ Below w.heap.size w w' := by
  have HB := Aside0.mk (Below.refl w.heap.size w)
  unfold split_Even.f at h
  by_cases g0 : 0 ≤ a0 ∧ a0 ≤ 1099511627776
  · rw [if_pos g0] at h
    obtain ⟨t, ht⟩ : ∃ t, split_isAmount.f a0 = some t ∧ t = true := ⟨true, by unfold split_isAmount.f; rw [if_pos g0.1]; simp [g0.2], rfl⟩
    obtain ⟨ht, rfl⟩ := ht
    have HT := Aside0.mk ht
    clear ht
    by_cases g1 : 1 ≤ a1 ∧ a1 ≤ 64
    · rw [if_pos g1] at h
      obtain ⟨m, rfl⟩ := Int.eq_ofNat_of_zero_le (show 0 ≤ a1 by omega)
      have n1 : decide ((m : Int) < 1) = false := decide_eq_false (by omega)
      have n2 : decide (64 < (m : Int)) = false := decide_eq_false (by omega)
      have G1 := Aside0.mk g1
      simp only [Option.some.injEq, Prod.mk.injEq, Int.toNat_natCast] at h
      obtain ⟨rfl, rfl⟩ := h
      have eg : ∀ args w, (callFunc 36 args).run Try.prog w = .ok (.enter 36 args) w := enters_of Try.func36 (by kernel_rfl) rfl
      have h1m : 1 ≤ (m : Int) := g1.1
      have hm64 : m ≤ 1000 := by omega
      have HC : Aside0 (∀ (W : World) (B C : Nat), w.heap.size ≤ W.heap.size → W.cell? ⟨B, 0, none⟩ = some (.int .i64 a0) → W.cell? ⟨C, 0, none⟩ = some (.int .i64 (m : Int)) → Calls Try.prog 28 #[.int .i64 (m : Int), .func (.func 36) #[] #[.pointer (some ⟨B, 0, none⟩), .pointer (some ⟨C, 0, none⟩)]] W fun e w' => ∃ v, e = .returned v ∧ Kd.R (Kd.int .i64) 3 w' w.heap.size (fun _ => True) v ((List.range m).map (split_Even.at a0 m)) ∧ Below W.heap.size W w') :=
        ⟨fun W B C hle hc hc2 => fillPure m hm64 _ _ eg _ W _ hle (fun i W' _ hb => split_Even.one a0 m h1m i B C W' (pw_cell_below hb hc) (pw_cell_below hb hc2))⟩
      clear g0 g1 h1m hm64
      go_enter Try.func14, Try.ntmps14
      go_wp2_with (first
        | (go_at_call 25; refine (split_isAmount.calls _ _ _ HT.out).mono ?_; rintro e w' ⟨rfl, ⟨n1_, rfl⟩⟩)
        | (go_at_call 28; refine (HC.out _ _ _ (by simp; omega) (by go_simp) (by go_simp)).mono ?_; rintro e w' ⟨v, rfl, hR, hb'⟩; have HR := Aside0.mk hR; have HB2 := Aside0.mk hb'; clear hR hb'))
      go_ret2
      exact ⟨_, rfl, HR.out, below_step (by repeat (first | (with_reducible first | exact HB.out | apply below_alloc | apply pw_below_drewN | apply below_drew1) | exact HB.out)) HB2.out⟩
    · rw [if_neg g1] at h
      simp only [Option.some.injEq, Prod.mk.injEq] at h
      obtain ⟨rfl, rfl⟩ := h
      clear g0
      by_cases g2 : a1 < 1
      · have n1 : decide (a1 < 1) = true := decide_eq_true g2
        clear g1 g2
        go_enter Try.func14, Try.ntmps14
        go_wp2_with (first
          | (go_at_call 25; refine (split_isAmount.calls _ _ _ HT.out).mono ?_; rintro e w' ⟨rfl, ⟨n1_, rfl⟩⟩))
        go_ret2
        exact ⟨_, rfl, Kd.R_nil _ _ _ _ _, by repeat (first | (with_reducible first | exact HB.out | apply below_alloc | apply pw_below_drewN | apply below_drew1) | exact HB.out)⟩
      · have n1 : decide (a1 < 1) = false := decide_eq_false g2
        have n2 : decide (64 < a1) = true := decide_eq_true (by omega)
        clear g1 g2
        go_enter Try.func14, Try.ntmps14
        go_wp2_with (first
          | (go_at_call 25; refine (split_isAmount.calls _ _ _ HT.out).mono ?_; rintro e w' ⟨rfl, ⟨n1_, rfl⟩⟩))
        go_ret2
        exact ⟨_, rfl, Kd.R_nil _ _ _ _ _, by repeat (first | (with_reducible first | exact HB.out | apply below_alloc | apply pw_below_drewN | apply below_drew1) | exact HB.out)⟩
  · rw [if_neg g0] at h
    simp only [Option.some.injEq, Prod.mk.injEq] at h
    obtain ⟨rfl, rfl⟩ := h
    have ht : split_isAmount.f a0 = some false := by
      unfold split_isAmount.f
      split
      · simp; omega
      · rfl
    have HT := Aside0.mk ht
    clear ht g0
    go_enter Try.func14, Try.ntmps14
    go_wp2_with (first
      | (go_at_call 25; refine (split_isAmount.calls _ _ _ HT.out).mono ?_; rintro e w' ⟨rfl, ⟨n1_, rfl⟩⟩))
    go_ret2
    exact ⟨_, rfl, Kd.R_nil _ _ _ _ _, by repeat (first | (with_reducible first | exact HB.out | apply below_alloc | apply pw_below_drewN | apply below_drew1) | exact HB.out)⟩

end Go.Proofs.Ytamockdikeadnaa.Px
