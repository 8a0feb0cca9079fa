-- Lines of this text were written by the print of the kit, run by a program of this session (print2.py).
import Derived.Test.YtbkfnbbngnocbaaPx0
import Derived.Test.YtbkfnbbngnocbaaPx7
import Derived.Test.YtbkfnbbngnocbaaPx9
import Derived.Test.YtbkfnbbngnocbaaPx10
namespace Go.Proofs.Ytbkfnbbngnocbaa.Px
open Go.RowKit Go.Proofs.YtbkfnbbngnocbaaW.PrintWords Go.Proofs.YtbkfnbbngnocbaaW.PrintLast Go.Proofs.YtbkfnbbngnocbaaW.PrintMore
attribute [local go_sem] max2_int min2_int max_two min_two max_three min_three max_four min_four   -- for this text's walks alone
set_option linter.unusedVariables false
set_option linter.unusedSimpArgs false

/-! ### split_Add: function 30 (by hand) -/
/-- What a map of numbers holds: its entries as they were laid. -/
def mapGet (M : List (Int × Int)) (k : Int) : Int := match M.find? (fun p => p.1 == k) with | some p => p.2 | none => 0
def mapHas (M : List (Int × Int)) (k : Int) : Bool := M.any (fun p => p.1 == k)
def mapPut (M : List (Int × Int)) (k v : Int) : List (Int × Int) := if mapHas M k = true then M.map (fun p => if p.1 == k then (k, v) else p) else M ++ [(k, v)]
theorem mapHas_put_same (M : List (Int × Int)) (k v : Int) : mapHas (mapPut M k v) k = true := by
  unfold mapPut
  split
  · rename_i h
    unfold mapHas at *
    rw [List.any_eq_true] at *
    obtain ⟨p, hp, hk⟩ := h
    exact ⟨(k, v), List.mem_map.2 ⟨p, hp, by rw [if_pos hk]⟩, by simp⟩
  · unfold mapHas
    simp
theorem mapHas_put_other (M : List (Int × Int)) (k k' v : Int) (h : k' ≠ k) : mapHas (mapPut M k v) k' = mapHas M k' := by
  unfold mapPut
  split
  · unfold mapHas
    rw [List.any_map]
    congr 1
    funext p
    simp only [Function.comp_apply]
    by_cases c : p.1 = k
    · have e1 : (p.1 == k) = true := by simpa using c
      rw [e1]
      simp only [if_true]
      rw [c]
    · have e1 : (p.1 == k) = false := by simpa using c
      rw [e1]
      rfl
  · unfold mapHas
    rw [List.any_append]
    have : (k == k') = false := by simpa using fun e : k = k' => h e.symm
    simp [this]
theorem mapGet_put_same (M : List (Int × Int)) (k v : Int) : mapGet (mapPut M k v) k = v := by
  unfold mapPut
  by_cases h : mapHas M k = true
  · rw [if_pos h]
    unfold mapGet
    unfold mapHas at h
    induction M with
    | nil => simp at h
    | cons p M ih =>
      rw [List.map_cons]
      by_cases c : p.1 = k
      · have e1 : (p.1 == k) = true := by simpa using c
        rw [e1]
        simp
      · have e1 : (p.1 == k) = false := by simpa using c
        rw [e1, if_neg (by simp), List.find?_cons_of_neg (by simp [c])]
        rw [List.any_cons, e1, Bool.false_or] at h
        exact ih h
  · rw [if_neg h]
    unfold mapGet
    unfold mapHas at h
    have h0 : M.find? (fun p => p.1 == k) = none := by
      rw [List.find?_eq_none]
      intro p hp hk
      exact h (List.any_eq_true.2 ⟨p, hp, hk⟩)
    rw [List.find?_append, h0]
    simp
theorem mapGet_put_other (M : List (Int × Int)) (k k' v : Int) (h : k' ≠ k) : mapGet (mapPut M k v) k' = mapGet M k' := by
  have hkk : (k == k') = false := by simpa using fun e : k = k' => h e.symm
  unfold mapPut
  by_cases hh : mapHas M k = true
  · rw [if_pos hh]
    clear hh
    unfold mapGet
    have e0 : (M.map (fun p => if p.1 == k then (k, v) else p)).find? (fun p => p.1 == k') = M.find? (fun p => p.1 == k') := by
      induction M with
      | nil => rfl
      | cons p M ih =>
        rw [List.map_cons]
        by_cases c : p.1 = k
        · have e1 : (p.1 == k) = true := by simpa using c
          rw [e1, if_pos rfl, List.find?_cons_of_neg (by simp [hkk]), List.find?_cons_of_neg (by rw [c]; simp [hkk]), ih]
        · have e1 : (p.1 == k) = false := by simpa using c
          rw [e1, if_neg (by simp)]
          rw [List.find?_cons, List.find?_cons, ih]
    rw [e0]
  · rw [if_neg hh]
    unfold mapGet
    rw [List.find?_append]
    have : (List.find? (fun p : Int × Int => p.1 == k') [(k, v)]) = none := by simp [hkk]
    rw [this]
    simp
theorem mapNd_put (M : List (Int × Int)) (k v : Int) (h : (M.map (·.1)).Nodup) : ((mapPut M k v).map (·.1)).Nodup := by
  unfold mapPut
  split
  · rw [List.map_map]
    have : ((fun p : Int × Int => p.1) ∘ fun p : Int × Int => if p.1 == k then (k, v) else p) = fun p => p.1 := by
      funext p
      simp only [Function.comp_apply]
      by_cases c : p.1 = k
      · simp [c]
      · simp [c]
    rw [this]
    exact h
  · rename_i hh
    rw [List.map_append, List.nodup_append]
    refine ⟨h, by simp, ?_⟩
    intro a ha b hb
    simp at hb
    subst hb
    intro e
    subst e
    obtain ⟨p, hp, hpk⟩ := List.mem_map.1 ha
    exact hh (List.any_eq_true.2 ⟨p, hp, by simpa using hpk⟩)
/-- The map that reads as D holds M. -/
structure MapIs (D : DataW Nat) (M : List (Int × Int)) : Prop where
  isMap : Maps.IsMap D
  has : ∀ k, Maps.has D (.int .i64 k) = mapHas M k
  get : ∀ k, D.atKey (.int .i64 k) (.lit (.int .i64 0)) = .lit (.int .i64 (mapGet M k))
  nd : (M.map (·.1)).Nodup
theorem MapIs.empty : MapIs (.map []) [] := ⟨Maps.isMap_empty, fun k => rfl, fun k => rfl, List.nodup_nil⟩
theorem MapIs.put {D : DataW Nat} {M : List (Int × Int)} (h : MapIs D M) (k v : Int) : MapIs (D.put (.int .i64 k) (.lit (.int .i64 v))) (mapPut M k v) := by
  have hk : WideAt.IsKeyLit (.int .i64 k) := trivial
  refine ⟨h.isMap.put _ _, fun k' => ?_, fun k' => ?_, mapNd_put M k v h.nd⟩
  · by_cases c : k' = k
    · subst c
      rw [Maps.has_put_same h.isMap hk, mapHas_put_same]
    · rw [Maps.has_put_other (by intro e; injection e with _ e; exact c e), mapHas_put_other M k k' v c]
      exact h.has k'
  · by_cases c : k' = k
    · subst c
      rw [Maps.atKey_put_same h.isMap hk, mapGet_put_same]
    · rw [Maps.atKey_put_other (by intro e; injection e with _ e; exact c e), mapGet_put_other M k k' v c]
      exact h.get k'
def split_Add.sums : List S55 → List (Int × Int) → Option (Option (List (Int × Int)))
  | [], M => some (some M)
  | s :: l, M => (split_plus.f (mapGet M s.f0) s.f1).bind fun r => if r.2 = true then split_Add.sums l (mapPut M s.f0 r.1) else some none
def split_Add.few (M : List (Int × Int)) : List S55 := (M.filter (fun p => p.2 != 0)).map (fun p => ⟨p.1, p.2⟩)
theorem mapPut_len (M : List (Int × Int)) (k v : Int) : (mapPut M k v).length ≤ M.length + 1 := by
  unfold mapPut
  split <;> simp
theorem split_Add.sums_len : ∀ (l : List S55) (M M2 : List (Int × Int)), split_Add.sums l M = some (some M2) → M2.length ≤ M.length + l.length
  | [], M, M2, h => by
    rw [split_Add.sums] at h
    injection h with h
    injection h with h
    subst h
    simp
  | s :: l, M, M2, h => by
    rw [split_Add.sums] at h
    obtain ⟨r, _, h⟩ := Option.bind_eq_some_iff.1 h
    by_cases c : r.2 = true
    · rw [if_pos c] at h
      have h1 := split_Add.sums_len l _ M2 h
      have h2 := mapPut_len M s.f0 r.1
      simp
      omega
    · rw [if_neg c] at h
      simp at h
def split_Add.fewL (left : Int → Bool) (M : List (Int × Int)) : List S55 := (M.filter (fun p => p.2 != 0 && !left p.1)).map (fun p => ⟨p.1, p.2⟩)
theorem split_Add.fewL_start (M : List (Int × Int)) : split_Add.fewL (mapHas M) M = [] := by
  unfold split_Add.fewL
  rw [List.filter_eq_nil_iff.2, List.map_nil]
  intro p hp
  have : mapHas M p.1 = true := List.any_eq_true.2 ⟨p, hp, by simp⟩
  simp [this]
theorem split_Add.fewL_end (left : Int → Bool) (h : ∀ k, left k = false) (M : List (Int × Int)) : split_Add.fewL left M = split_Add.few M := by
  unfold split_Add.fewL split_Add.few
  congr 1
  apply List.filter_congr
  intro p _
  simp [h]
theorem split_Add.fewL_step (left : Int → Bool) (x : Int) (hx : left x = true) : ∀ M : List (Int × Int), (M.map (·.1)).Nodup → mapHas M x = true → (split_Add.fewL (fun z => left z && !decide (z = x)) M).Perm (split_Add.fewL left M ++ (if mapGet M x = 0 then [] else [⟨x, mapGet M x⟩]))
  | [], _, h => by simp [mapHas] at h
  | p :: M, hn, h => by
    rw [List.map_cons, List.nodup_cons] at hn
    by_cases c : p.1 = x
    · have e1 : mapGet (p :: M) x = p.2 := by
        unfold mapGet
        rw [List.find?_cons_of_pos (by simpa using c)]
      have e2 : split_Add.fewL (fun z => left z && !decide (z = x)) M = split_Add.fewL left M := by
        unfold split_Add.fewL
        congr 1
        apply List.filter_congr
        intro q hq
        have hne : q.1 ≠ x := fun e => hn.1 (List.mem_map.2 ⟨q, hq, by rw [e, c]⟩)
        simp [hne]
      rw [e1]
      unfold split_Add.fewL at e2 ⊢
      rw [List.filter_cons, List.filter_cons, c, hx]
      simp only [decide_true, Bool.not_true, Bool.and_false, Bool.not_false, Bool.and_true, Bool.false_eq_true, if_false]
      by_cases c2 : p.2 = 0
      · simp only [c2, if_true, List.append_nil]
        rw [if_neg (by simp), e2]
      · rw [if_neg c2, if_pos (by simpa using c2), List.map_cons, e2, c]
        exact (List.perm_append_comm (l₁ := [_])).trans (List.Perm.refl _)
    · have e1 : mapGet (p :: M) x = mapGet M x := by
        unfold mapGet
        rw [List.find?_cons_of_neg (by simpa using c)]
      have h2 : mapHas M x = true := by
        unfold mapHas at h ⊢
        rw [List.any_cons] at h
        have : (p.1 == x) = false := by simpa using c
        rwa [this, Bool.false_or] at h
      have ih := split_Add.fewL_step left x hx M hn.2 h2
      rw [e1]
      unfold split_Add.fewL at ih ⊢
      rw [List.filter_cons, List.filter_cons]
      simp only [c, decide_false, Bool.not_false, Bool.and_true]
      split
      · exact ih.cons _
      · exact ih
theorem split_Add.few_nd (M : List (Int × Int)) (h : (M.map (·.1)).Nodup) : ((split_Add.few M).map (·.f0)).Nodup := by
  unfold split_Add.few
  rw [List.map_map]
  exact (List.Sublist.map (fun p : Int × Int => p.1) List.filter_sublist).nodup h
def split_Add.srt (l : List S55) : List S55 := insSort (fun x y => decide (x.f0 < y.f0)) l
theorem insFold_total {α : Type} (T : α → α → Prop) (hT : ∀ x y z, T x y → T y z → T x z) (lt : α → α → Bool) (hlt : ∀ x y, (lt x y = true → T x y) ∧ (lt x y = false → T y x)) : ∀ (l acc : List α), acc.Pairwise (fun a b => T b a) →
    (l.foldl (fun acc x => insR lt x acc) acc).Perm (acc ++ l) ∧ (l.foldl (fun acc x => insR lt x acc) acc).Pairwise (fun a b => T b a)
  | [], acc, ha => ⟨by simp, ha⟩
  | x :: l, acc, ha => by
    obtain ⟨i1, i2⟩ := insR_sorted T hT lt x acc ha (fun y _ => hlt x y)
    rw [List.foldl_cons]
    obtain ⟨j1, j2⟩ := insFold_total T hT lt hlt l (insR lt x acc) i2
    exact ⟨j1.trans ((i1.append_right l).trans (List.perm_middle (a := x) (l₁ := acc) (l₂ := l)).symm), j2⟩
theorem split_Add.srt_spec (l : List S55) : (split_Add.srt l).Perm l ∧ (split_Add.srt l).Pairwise (fun x y => x.f0 ≤ y.f0) := by
  obtain ⟨h1, h2⟩ := insFold_total (fun x y : S55 => x.f0 ≤ y.f0) (fun x y z h1 h2 => by omega) (fun x y => decide (x.f0 < y.f0)) (fun x y => ⟨fun h => by have := of_decide_eq_true h; omega, fun h => by have := of_decide_eq_false h; omega⟩) l [] List.Pairwise.nil
  unfold split_Add.srt insSort
  exact ⟨(List.reverse_perm _).trans (by simpa using h1), List.pairwise_reverse.2 h2⟩
theorem split_Add.strict (l : List S55) (h : l.Pairwise (fun x y => x.f0 ≤ y.f0)) (hn : (l.map (·.f0)).Nodup) : l.Pairwise (fun x y => x.f0 < y.f0) := by
  rw [List.Nodup, List.pairwise_map] at hn
  refine (List.pairwise_and_iff.2 ⟨h, hn⟩).imp ?_
  intro a b ⟨h1, h2⟩
  omega
theorem split_Add.sorted_is (l : List S55) (M : List (Int × Int)) (hM : (M.map (·.1)).Nodup) (hp : l.Perm (split_Add.few M)) (hs : l.Pairwise (fun x y => x.f0 ≤ y.f0)) : l = split_Add.srt (split_Add.few M) := by
  obtain ⟨h1, h2⟩ := split_Add.srt_spec (split_Add.few M)
  have hn := split_Add.few_nd M hM
  refine order_unique (T := fun x y : S55 => x.f0 < y.f0) (fun x y h1 h2 => by omega) l _ (hp.trans h1.symm) (split_Add.strict l hs ?_) (split_Add.strict _ h2 ?_)
  · exact (hp.map (·.f0)).nodup_iff.2 hn
  · exact (h1.map (·.f0)).nodup_iff.2 hn
def split_Add.f (l0 l1 : List S55) : Option (List S55 × Int) :=
  if l0.length + l1.length ≤ 1000 ∧ (l0 ++ l1).all (fun s => (Lit.int .i64 s.f0).wf) = true then (split_Add.sums (l0 ++ l1) []).bind fun r => match r with | none => some ([], 12) | some M => some (split_Add.srt (split_Add.few M), 0) else none
theorem below_grownB2 {w W W2 : World} {base : Nat} {row : Option Nat} (hb : Below base w W) (hs : base ≤ W.heap.size) (h : W.grownBy W2 row) (hr : ∀ k, row = some k → base ≤ k) : Below base w W2 :=
  ⟨h.os.trans hb.os, h.tape.trans hb.tape, h.output.trans hb.output, Nat.le_trans hb.size h.size, fun k hk => (h.block k (Nat.lt_of_lt_of_le hk hs) (fun e => by have := hr k e.symm; omega)).trans (hb.block k hk)⟩
theorem share_kept {W W1 : World} {base : Nat} {ok : Nat → Prop} {v : Value} {xs : List S55} {row : Option Nat} (h : Kd.R k55 55 W base ok v xs) (hg : W.grownBy W1 row) (hne : v.ownBlock = none ∨ v.ownBlock ≠ row) : Kd.R k55 55 W1 base ok v xs := by
  obtain ⟨h0, inner, ho, hr⟩ := h
  refine ⟨h0, inner, own_other ho hg hne, hr.imp_ (fun x cs hp => ?_)⟩
  obtain rfl := k55_openM hp
  exact k55_mkM _ _ _ _
set_option maxHeartbeats 16000000 in
set_option maxRecDepth 100000 in
theorem split_Add.calls (A0 : Option Addr) (c0 : Nat) (l0 : List S55) (A1 : Option Addr) (c1 : Nat) (l1 : List S55) (r1 : List S55) (r2 : Int) (w : World) (hr0 : Kd.C k55 w A0 l0.length l0) (hc0 : l0.length ≤ c0) (hr1 : Kd.C k55 w A1 l1.length l1) (hc1 : l1.length ≤ c1) (h : split_Add.f l0 l1 = some (r1, r2)) :
    Calls Try.prog 30 #[.slice A0 l0.length c0, .slice A1 l1.length c1] w fun e w' => ∃ v0_ : Value, e = .returned (.tuple #[v0_, .int .i64 r2]) ∧ Kd.R k55 55 w' w.heap.size (fun _ => True) v0_ r1 ∧ Below w.heap.size w w' := by
  unfold split_Add.f at h
  by_cases g0 : l0.length + l1.length ≤ 1000 ∧ (l0 ++ l1).all (fun s => (Lit.int .i64 s.f0).wf) = true
  case neg => rw [if_neg g0] at h; exact absurd h (by simp)
  rw [if_pos g0] at h
  obtain ⟨res, hres, h⟩ := Option.bind_eq_some_iff.1 h
  have hmm := @run_makeMap Try.prog
  have K3 : Go.Maps.Keyed Try.prog 3 := Go.Maps.int_keyed Try.underlying3
  have HB := Aside0.mk (Below.refl w.heap.size w)
  have HC0 := Aside0.mk hr0
  have HC1 := Aside0.mk hr1
  have HG := Aside0.mk g0
  obtain ⟨all, hall⟩ : ∃ all, all = l0 ++ l1 := ⟨_, rfl⟩
  rw [← hall] at hres
  have HALL := Aside0.mk hall
  have HRES := Aside0.mk hres
  have H := Aside0.mk h
  have HLEN : Aside0 (all.length = l0.length + l1.length) := ⟨by rw [hall, List.length_append]⟩
  clear hr0 hr1 hc0 hc1 g0 hall hres h
  go_enter Try.func30, Try.ntmps30
  go_wp2_with (first
    | (go_at_call 56; refine (concat2 A0 c0 l0 A1 c1 l1 (w.heap.size + 1) _ (by go_simp) (by go_simp) (Kd.C_below HC0.out (by repeat (first | (with_reducible first | exact HB.out | apply below_alloc | apply pw_below_drewN | apply below_drew1) | exact HB.out))) (Kd.C_below HC1.out (by repeat (first | (with_reducible first | exact HB.out | apply below_alloc | apply pw_below_drewN | apply below_drew1) | exact HB.out))) HG.out.1).mono ?_; rintro e w1 ⟨v, rfl, ho1, hb1⟩; rw [← HALL.out] at ho1; have HM1 : Aside0 (w1.ownsMap Try.prog 3 (plainElem Try.prog 3) w.heap.size 0 (.map [] : DataW Nat)) := ⟨((World.ownsMap_made w Try.prog 3 _).alloc _).kept (grown_of_below hb1 none) (by simp)⟩; have HB1 := Aside0.mk (below_step (by repeat (first | (with_reducible first | exact HB.out | apply below_alloc | apply pw_below_drewN | apply below_drew1) | exact HB.out)) hb1); have HO1 := Aside0.mk (Kd.R_lower (base' := w.heap.size + 1) ho1 (by simp)); obtain ⟨Av, cv, rfl⟩ := Kd.R_slice HO1.out; clear ho1 hb1))
  go_loopg [20] all.length (fun gg s20 wr => ∃ (j : Nat) (D : DataW Nat) (M : List (Int × Int)), s20 = .int .i64 (j : Int) ∧ Aside0 (all.length - j ≤ gg ∧ j ≤ all.length) ∧ Aside0 (wr.ownsMap Try.prog 3 (plainElem Try.prog 3) w.heap.size j D) ∧ Aside0 (MapIs D M ∧ split_Add.sums (all.drop j) M = some res) ∧
    Aside0 (Kd.R k55 55 wr (w.heap.size + 1) (fun _ => True) (.slice Av all.length cv) all) ∧ Aside0 (Below w.heap.size w wr))
  case atStart => exact ⟨0, .map [], [], rfl, ⟨by omega, by omega⟩, HM1, ⟨MapIs.empty, HRES.out⟩, HO1, HB1⟩
  case round =>
    clear HM1 HB1 HO1 HB
    obtain ⟨j, D, M, rfl, HI, HM, HS, HO, HB⟩ := hrel
    by_cases c : j < all.length
    · have hj1 : (0 : Int) ≤ (j : Int) := Int.natCast_nonneg _
      have hj2 : (j : Int) < (all.length : Int) := by omega
      obtain ⟨ad, ead, cx, cy⟩ := at_T55 (Kd.R_reads' HO.out).2.2 (j : Int) hj1 hj2
      subst ead
      rw [Int.toNat_natCast] at cx cy
      obtain ⟨s, hs⟩ : ∃ s, s = rd_T55 all (j : Int) := ⟨_, rfl⟩
      rw [← hs] at cx cy
      have HSS := Aside0.mk hs
      have hin : s ∈ all := by
        rw [hs]
        unfold rd_T55
        rw [Int.toNat_natCast, List.getD_eq_getElem?_getD, List.getElem?_eq_getElem c]
        exact List.getElem_mem c
      have hdrop : all.drop j = s :: all.drop (j + 1) := by
        rw [List.drop_eq_getElem_cons c, hs]
        unfold rd_T55
        rw [Int.toNat_natCast, List.getD_eq_getElem?_getD, List.getElem?_eq_getElem c]
        rfl
      have hwf : (Lit.int .i64 s.f0).wf = true := by
        have h1 := HG.out.2
        rw [← HALL.out, List.all_eq_true] at h1
        exact h1 s hin
      have hsum := HS.out.2
      rw [hdrop, split_Add.sums] at hsum
      obtain ⟨r, hp, hr⟩ := Option.bind_eq_some_iff.1 hsum
      have hkey : keyOf Try.prog 3 (.int .i64 s.f0) = some (.int .i64 s.f0) := Go.Maps.keyOf_int_mk Try.underlying3 hwf
      have HKEY := Aside0.mk hkey
      have HP := Aside0.mk hp
      have HJM : Aside0 (j < maxLen) := ⟨by have := HI.out; have := HG.out.1; have := HLEN.out; simp only [maxLen]; omega⟩
      obtain ⟨rn, rb⟩ := r
      have HNE : Aside0 ((Value.slice (some ad) all.length cv).ownBlock = none ∨ (Value.slice (some ad) all.length cv).ownBlock ≠ some w.heap.size) := ⟨.inr fun e => by
        obtain ⟨_, inner, ho, _⟩ := HO.out
        have := own_base ho w.heap.size e
        omega⟩
      clear hs hin hdrop hwf hsum hkey hp
      have hu := Try.underlying55
      cases rb with
      | false =>
        rw [if_neg (by simp)] at hr
        obtain rfl := Option.some.inj hr
        have h2 := H.out
        simp only [Option.some.injEq, Prod.mk.injEq] at h2
        obtain ⟨rfl, rfl⟩ := h2
        go_wp2_with (first
          | (at_lookup; refine wpList_lookup_own_int _ rfl _ _ 97 rfl 3 3 .i64 K3 Try.underlying97 Try.underlying3 (Try.zeroValue3 _) w.heap.size j D rfl (HM.out.alloc _) _ _ rfl HKEY.out ?_; intro c hat hwc; rw [HS.out.1.get] at hat; injection hat with hat; injection hat with _ hat; subst hat; clear hwc)
          | (go_at_call 57; refine (split_plus.calls _ _ _ _ _ HP.out).mono ?_; rintro e w2 ⟨rfl, nd, rfl⟩)
          | go_in)
        go_ret2
        exact ⟨_, rfl, Kd.R_nil _ _ _ _ _, by repeat (first | (with_reducible first | exact HB.out | apply below_alloc | apply pw_below_drewN | apply below_drew1) | exact HB.out)⟩
      | true =>
        rw [if_pos rfl] at hr
        have HR := Aside0.mk hr
        have HWN : Aside0 ((Lit.int .i64 rn).wf = true) := ⟨by
          have h1 := HP.out
          unfold split_plus.f at h1
          split at h1
          · simp at h1
          · split at h1
            · simp at h1
            · simp only [Option.some.injEq, Prod.mk.injEq, and_true] at h1
              rw [← h1]
              exact wrap64_wf _⟩
        have e3 : wrap64 ((j : Int) + 1) = ((j + 1 : Nat) : Int) := w64 rfl (by have := HG.out.1; have := HLEN.out; omega)
        have HC := Aside0.mk c
        clear hr
        go_wp2_with (first
          | (at_lookup; refine wpList_lookup_own_int _ rfl _ _ 97 rfl 3 3 .i64 K3 Try.underlying97 Try.underlying3 (Try.zeroValue3 _) w.heap.size j D rfl (HM.out.alloc _) _ _ rfl HKEY.out ?_; intro c hat hwc; rw [HS.out.1.get] at hat; injection hat with hat; injection hat with _ hat; subst hat; clear hwc)
          | (go_at_call 57; refine (split_plus.calls _ _ _ _ _ HP.out).mono ?_; rintro e w2 ⟨rfl, nd, rfl⟩)
          | (at_mapUpdate; refine wpList_mapUpdate_own _ rfl _ _ _ 97 rfl 3 3 K3 Try.underlying97 _ w.heap.size j D rfl ((HM.out.alloc _).kept (grown_of_below (pw_below_drewN (Below.refl _ _) _) none) (by simp)) HJM.out _ _ _ rfl rfl HKEY.out _ [] (plainElem_int Try.underlying3 HWN.out) ?_; intro w3 hown3 hgrow3; have HM3 := Aside0.mk hown3; have HG3 := Aside0.mk hgrow3; clear hown3 hgrow3)
          | go_in)
        have HCH : Aside0 (wr.grownBy w3 (some w.heap.size)) := ⟨((World.grownBy_alloc wr _ (some w.heap.size)).trans (grown_of_below (pw_below_drewN (Below.refl _ _) _) _)).trans HG3.out⟩
        go_roundg (all.length - (j + 1))
        case measure => have h1 := HI.out; have h2 := HC.out; clear e3; omega
        case rel =>
          refine ⟨j + 1, _, _, by rw [e3], ⟨Nat.le_refl _, HC.out⟩, HM3, ⟨HS.out.1.put s.f0 rn, HR.out⟩, ⟨share_kept HO.out HCH.out HNE.out⟩, ⟨below_grownB2 HB.out HB.out.size HCH.out (fun k hk => by simp at hk; omega)⟩⟩
    · obtain rfl : j = all.length := by have := HI.out; omega
      have hsum := HS.out.2
      rw [List.drop_length, split_Add.sums] at hsum
      obtain rfl := Option.some.inj hsum
      have h2 := H.out
      simp only [Option.some.injEq, Prod.mk.injEq] at h2
      obtain ⟨rfl, rfl⟩ := h2
      have HML : Aside0 (M.length ≤ 1000) := ⟨by have h3 := split_Add.sums_len all [] M HRES.out; have := HG.out.1; have := HLEN.out; simp at h3; omega⟩
      clear hsum
      go_wp2_with (first
        | (at_range; refine wpList_range_own _ rfl _ 97 rfl 3 3 K3 Try.underlying97 _ w.heap.size _ D rfl HM.out ?_; intro w0 hrg0 hg0 hs0; have HRG0 := Aside0.mk hrg0; have HG0 := Aside0.mk hg0; clear hrg0 hg0 hs0)
        | go_in)
      obtain ⟨rI, hrI⟩ : ∃ x, x = wr.heap.size := ⟨_, rfl⟩
      have HBM : Aside0 (w.heap.size < rI) := ⟨by rw [hrI]; exact HM.out.lt⟩
      rw [← hrI] at HRG0
      have HB0 : Aside0 (Below w.heap.size w w0) := ⟨below_step HB.out ⟨HG0.out.os, HG0.out.tape, HG0.out.output, HG0.out.size, fun k hk => HG0.out.block k hk (by simp)⟩⟩
      simp only [← hrI]
      clear hrI c
      go_loopg [11] (Maps.size D) (fun gg v11 wr2 => ∃ (left : Lit → Bool) (cnt : Nat) (L : List S55), Aside0 (cnt ≤ gg) ∧ Aside0 (wr2.ranges Try.prog 3 (plainElem Try.prog 3) w.heap.size rI all.length D left cnt) ∧ Aside0 (Kd.R k55 55 wr2 w.heap.size (fun k => rI < k) v11 L) ∧
        Aside0 (L.Perm (split_Add.fewL (fun z => left (.int .i64 z)) M)) ∧ Aside0 (Below w.heap.size w wr2))
      case atStart => exact ⟨_, _, [], ⟨Nat.le_refl _⟩, HRG0, ⟨Kd.R_nil _ _ _ _ _⟩, ⟨by
        have e : (fun z : Int => Maps.has D (.int .i64 z)) = mapHas M := funext fun z => HS.out.1.has z
        rw [e, split_Add.fewL_start]⟩, HB0⟩
      case round =>
        clear HRG0 HB0 HG0
        obtain ⟨left, cnt, L, HCN, HRG, HO2, HP2, HB2⟩ := hrel
        go_wp2_with (first
          | (at_next; refine wpList_next_ranges_ii _ rfl _ rfl 3 3 .i64 .i64 K3 Try.underlying3 Try.underlying3 w.heap.size rI all.length D left cnt rfl HRG.out ?_ ?_)
          | go_in)
        · intro hc0 hl0
          have hL : L.Perm (split_Add.few M) := by
            have h3 := HP2.out
            rw [split_Add.fewL_end _ (fun k => hl0 (.int .i64 k))] at h3
            exact h3
          have hLl : L.length ≤ 1000 := by
            rw [hL.length_eq]
            unfold split_Add.few
            rw [List.length_map]
            exact Nat.le_trans (List.length_filter_le _ _) HML.out
          have hf : api_Share_58.f L = some (sortPdq api_Share_58.cf L) := by
            unfold api_Share_58.f
            rw [if_pos (by omega)]
          have hpq := sortPdq_perm api_Share_58.cf api_Share_58.swo L
          have hso := sortPdq_sorted api_Share_58.cf api_Share_58.swo L
          have heq : sortPdq api_Share_58.cf L = split_Add.srt (split_Add.few M) := by
            refine split_Add.sorted_is _ M HS.out.1.nd (hpq.trans hL) (hso.imp ?_)
            intro a b hab
            rw [api_Share_58.lt] at hab
            have := of_decide_eq_false hab
            omega
          rw [heq] at hf
          have HF := Aside0.mk hf
          clear hL hLl hf hpq hso heq
          go_wp2_with (first
            | (go_at_call 58; refine (api_Share_58.calls (fun k => rI < k) _ L _ w _ HB2.out HO2.out HF.out).mono ?_; rintro e w4 ⟨rfl, ho4, hb4, _⟩; have HO4 := Aside0.mk ho4; have HB4 := Aside0.mk hb4; clear ho4 hb4)
            | go_in)
          go_ret2
          exact ⟨_, rfl, Kd.R_mono HO4.out (fun _ _ => trivial), HB4.out⟩
        · intro x cc w1 cnt1 hwx hwc hlx hat hrg1 hlt hg1 hs1 hen
          have hcc : mapGet M x = cc := by
            have h3 := hat (.lit (.int .i64 0))
            rw [HS.out.1.get] at h3
            injection h3 with h3
            injection h3
          have hhas : mapHas M x = true := by
            rw [← HS.out.1.has x]
            exact Maps.has_true_of_atKey hat
          have hst := split_Add.fewL_step (fun z => left (.int .i64 z)) x hlx M HS.out.1.nd hhas
          rw [hcc] at hst
          have e5 : (fun z : Int => left (.int .i64 z) && !(Lit.int .i64 z).sameKey (.int .i64 x)) = fun z => left (.int .i64 z) && !decide (z = x) := funext fun z => by simp [Lit.sameKey]
          rw [← e5] at hst
          have HST := Aside0.mk hst
          have HNR : Aside0 (∀ row, row = some w.heap.size ∨ row = some rI → ∀ v, Kd.R k55 55 wr w.heap.size (fun k => rI < k) v L → v.ownBlock = none ∨ v.ownBlock ≠ row) := ⟨fun row hrow v hR => by
            cases hv : v.ownBlock with
            | none => exact .inl rfl
            | some b =>
              refine .inr fun e => ?_
              have h3 := hR.1 b hv
              have h4 := HBM.out
              rcases hrow with h5 | h5 <;> (rw [h5] at e; injection e with e; omega)⟩
          have HO3 := Aside0.mk (share_kept HO2.out hg1 (HNR.out _ (.inr rfl) _ HO2.out))
          have HB3 := Aside0.mk (below_grownB2 HB2.out HB2.out.size hg1 (fun k hk => by have := HBM.out; simp at hk; omega))
          have HRG1 := Aside0.mk hrg1
          have HLT := Aside0.mk hlt
          have HS1 := Aside0.mk hs1
          have HLL : Aside0 (L.length ≤ 1000) := ⟨by
            rw [HP2.out.length_eq]
            unfold split_Add.fewL
            rw [List.length_map]
            exact Nat.le_trans (List.length_filter_le _ _) HML.out⟩
          clear hcc hhas hst hat hrg1 hlt hg1 hs1 hwx hwc hlx e5
          by_cases c0 : cc = 0
          · subst c0
            go_wp2_with go_in
            go_roundg cnt1
            case measure => exact Nat.lt_of_lt_of_le HLT.out HCN.out
            case rel => exact ⟨_, cnt1, L, ⟨Nat.le_refl _⟩, HRG1, HO3, ⟨by
              have h3 := HST.out
              simp only [if_true, List.append_nil] at h3
              exact HP2.out.trans h3.symm⟩, HB3⟩
          · go_wp2_with (first
              | ((with_reducible refine gate_builtin (b := .append) (xs := #[.tmp 50, .tmp 54]) rfl ?_); at_builtin; refine Kd.R_append k55 (w0 := w) w.heap.size rfl (.tmp 50) (.tmp 54) 46 55 (.agg #[(.int .i64 0), (.int .i64 0)]) 16 rfl Try.underlying46 shareInfo rfl (by decide) (by omega) _ L (⟨x, cc⟩ : S55) [.int .i64 x, .int .i64 cc] (fun k => rI < k) (fun _ => False) rfl rfl (k55_mkM _ _ _ (⟨x, cc⟩ : S55)) (fun _ h => h.elim) (fun k hk => by have := HRG1.out.lt; omega) HO3.out HB3.out HB3.out.size (by have := HLL.out; omega) ?_; intro v6 w6 ho6 hb6 hg6 _; have HO6 := Aside0.mk ho6; have HB6 := Aside0.mk hb6; have HG6 := Aside0.mk hg6; clear ho6 hb6 hg6)
              | go_in)
            have hk1 : ∀ row, row = some w.heap.size ∨ row = some rI → ∀ v, Kd.R k55 55 wr w.heap.size (fun k => rI < k) v L → row ≠ v.ownBlock := fun row hrow v hR e => by
              rcases HNR.out row hrow v hR with h3 | h3
              · rw [h3] at e
                rcases hrow with h5 | h5 <;> (rw [h5] at e; cases e)
              · exact h3 e.symm
            go_roundg cnt1
            case measure => exact Nat.lt_of_lt_of_le HLT.out HCN.out
            case rel => exact ⟨_, cnt1, L ++ [⟨x, cc⟩], ⟨Nat.le_refl _⟩, ⟨HRG1.out.kept HG6.out (hk1 _ (.inl rfl) _ HO2.out) (hk1 _ (.inr rfl) _ HO2.out)⟩, HO6, ⟨by
              have h3 := HST.out
              rw [if_neg c0] at h3
              exact (HP2.out.append_right _).trans h3.symm⟩, HB6⟩

end Go.Proofs.Ytbkfnbbngnocbaa.Px
