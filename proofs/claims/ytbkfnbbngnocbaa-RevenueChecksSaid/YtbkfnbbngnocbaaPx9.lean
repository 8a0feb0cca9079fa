-- Lines of this text were written by the print of the kit, run by a program of this session (print2.py).
import Derived.Test.YtbkfnbbngnocbaaPx0
import Derived.Test.YtbkfnbbngnocbaaPx7
import Derived.Test.YtbkfnbbngnocbaaPx8
namespace Go.Proofs.Ytbkfnbbngnocbaa.Px
open Go.RowKit Go.Proofs.YtbkfnbbngnocbaaW.PrintWords Go.Proofs.YtbkfnbbngnocbaaW.PrintLast Go.Proofs.YtbkfnbbngnocbaaW.PrintMore
attribute [local go_sem] max2_int min2_int max_two min_two max_three min_three max_four min_four   -- for this text's walks alone
set_option linter.unusedVariables false
set_option linter.unusedSimpArgs false

/-! ### slices_stableCmpFunc_int: function 78 (by hand) -/
section
open Go.Shelf Go.Sort
set_option maxHeartbeats 16000000 in
set_option maxRecDepth 1000000 in
/-- The walk: blocks of 20, then merges. -/
theorem stableWalk (n cap : Nat) (A : Option Addr) (cf : Fn) (cb : Array Value) (w : World) (hn : n ≤ 1000) (I : Nat → World → Prop) (B : Nat → World → Prop) (J : Nat → Nat → World → Prop)
    (hI0 : I 0 w)
    (hI : ∀ a w, a + 20 ≤ n → I a w → Calls Try.prog 85 #[.slice A n cap, .int .i64 (a : Int), .int .i64 ((a + 20 : Nat) : Int), .func cf #[] cb] w fun e w' => e = .returned (.tuple #[]) ∧ I (a + 20) w')
    (hIe : ∀ a w, a ≤ n → n < a + 20 → I a w → Calls Try.prog 85 #[.slice A n cap, .int .i64 (a : Int), .int .i64 (n : Int), .func cf #[] cb] w fun e w' => e = .returned (.tuple #[]) ∧ B 20 w')
    (hJ0 : ∀ bs w, 1 ≤ bs → bs < n → B bs w → J bs 0 w)
    (hJ : ∀ bs a w, 1 ≤ bs → a + 2 * bs ≤ n → J bs a w → Calls Try.prog 86 #[.slice A n cap, .int .i64 (a : Int), .int .i64 ((a + bs : Nat) : Int), .int .i64 ((a + 2 * bs : Nat) : Int), .func cf #[] cb] w fun e w' => e = .returned (.tuple #[]) ∧ J bs (a + 2 * bs) w')
    (hJe : ∀ bs a w, 1 ≤ bs → n < a + 2 * bs → a + bs < n → J bs a w → Calls Try.prog 86 #[.slice A n cap, .int .i64 (a : Int), .int .i64 ((a + bs : Nat) : Int), .int .i64 (n : Int), .func cf #[] cb] w fun e w' => e = .returned (.tuple #[]) ∧ B (2 * bs) w')
    (hJn : ∀ bs a w, 1 ≤ bs → a ≤ n → n ≤ a + bs → J bs a w → B (2 * bs) w) :
    Calls Try.prog 78 #[.slice A n cap, .int .i64 (n : Int), .func cf #[] cb] w fun e w' => e = .returned (.tuple #[]) ∧ ∃ bs, n ≤ bs ∧ B bs w' := by
  have H0 := Aside0.mk hI0
  have HI := Aside0.mk hI
  have HIe := Aside0.mk hIe
  have HJ0 := Aside0.mk hJ0
  have HJ := Aside0.mk hJ
  have HJe := Aside0.mk hJe
  have HJn := Aside0.mk hJn
  have HN := Aside0.mk hn
  clear hI0 hI hIe hJ0 hJ hJe hJn hn
  go_enter Try.func78, Try.ntmps78
  go_wp2
  go_loopg [7, 8] (n + 20) (fun kx s7 s8 wr => ∃ (a b : Nat), s7 = .int .i64 (a : Int) ∧ s8 = .int .i64 (b : Int) ∧ Aside0 (b = a + 20 ∧ n + 20 - b ≤ kx ∧ a ≤ n) ∧ Aside0 (I a wr))
  case atStart => exact ⟨0, 20, rfl, rfl, ⟨by omega, by omega, by omega⟩, H0⟩
  case round =>
    clear H0
    obtain ⟨a, b, rfl, rfl, HA, HW⟩ := hrel
    by_cases c : b ≤ n
    · have hn := HN.out
      have hb : b + 20 ≤ 1000000 := by omega
      have hab := HA.out.1
      have hcall := HI.out a wr (by omega) HW.out
      rw [← hab] at hcall
      have HCALL := Aside0.mk hcall
      have HC := Aside0.mk (And.intro c hab)
      have e1 : wrap64 ((b : Int) + 20) = ((b + 20 : Nat) : Int) := w64 rfl hb
      clear hn hb hab hcall HW
      go_wp2_with (go_at_call 85; refine HCALL.out.mono ?_; rintro e w1 ⟨rfl, h1⟩; have H1 := Aside0.mk h1; clear h1)
      go_roundg (n + 20 - (b + 20))
      case measure => have h1 := HA.out; have h2 := HC.out; clear e1; omega
      case rel => exact ⟨b, b + 20, rfl, by rw [e1], ⟨rfl, Nat.le_refl _, HC.out.1⟩, H1⟩
    · have hcall := HIe.out a wr HA.out.2.2 (by have := HA.out; omega) HW.out
      have HCALL := Aside0.mk hcall
      clear hcall HW
      go_wp2_with (go_at_call 85; refine HCALL.out.mono ?_; rintro e w1 ⟨rfl, h1⟩; have H1 := Aside0.mk h1; clear h1)
      clear HCALL c HA
      go_loopg [6] n (fun kx s6 wr => ∃ (bs : Nat), s6 = .int .i64 (bs : Int) ∧ Aside0 (n - bs ≤ kx ∧ 1 ≤ bs) ∧ Aside0 (B bs wr))
      case atStart => exact ⟨20, rfl, ⟨by omega, by omega⟩, H1⟩
      case round =>
        clear H1
        obtain ⟨bs, rfl, HA, HW⟩ := hrel
        by_cases c : bs < n
        · have HC := Aside0.mk c
          have HJS := Aside0.mk (HJ0.out bs _ HA.out.2 c HW.out)
          have e1 : wrap64 (2 * (bs : Int)) = ((2 * bs : Nat) : Int) := w64 (by simp) (by have := HN.out; omega)
          have e2 : wrap64 ((bs : Int) * 2) = ((2 * bs : Nat) : Int) := w64 (by simp; rw [Int.mul_comm]) (by have := HN.out; have := HC.out; clear e1; omega)
          go_wp2
          go_loopg [7, 8] (n + 2 * bs) (fun kx s7 s8 wr => ∃ (a b : Nat), s7 = .int .i64 (a : Int) ∧ s8 = .int .i64 (b : Int) ∧ Aside0 (b = a + 2 * bs ∧ n + 2 * bs - b ≤ kx ∧ a ≤ n) ∧ Aside0 (J bs a wr))
          case atStart => exact ⟨0, 2 * bs, rfl, by rw [e1], ⟨by clear e1 e2; omega, by clear e1 e2; omega, by clear e1 e2; omega⟩, HJS⟩
          case round =>
            clear HJS HW
            obtain ⟨a, b, rfl, rfl, HB, HW⟩ := hrel
            have hn := HN.out
            have hbb := HB.out.1
            have hab : a + bs ≤ 1000000 := by have := HB.out; clear e1 e2; omega
            by_cases c2 : b ≤ n
            · have hb2 : b + 2 * bs ≤ 1000000 := by clear e1 e2; omega
              have hcall := HJ.out bs a wr HA.out.2 (by rw [← hbb]; exact c2) HW.out
              rw [← hbb] at hcall
              have HCALL := Aside0.mk hcall
              have HC2 := Aside0.mk (And.intro c2 hbb)
              obtain ⟨x, hx⟩ : ∃ x, x = a + bs := ⟨_, rfl⟩
              have e3 : wrap64 ((a : Int) + (bs : Int)) = (x : Int) := by rw [hx]; exact w64 rfl hab
              have e4 : wrap64 ((b : Int) + wrap64 (2 * (bs : Int))) = ((b + 2 * bs : Nat) : Int) := by rw [e1]; exact w64 rfl hb2
              rw [← hx] at HCALL
              clear hn hbb hab hb2 hcall HW hx e1
              go_wp2_with (go_at_call 86; refine HCALL.out.mono ?_; rintro e w1 ⟨rfl, h1⟩; have H1 := Aside0.mk h1; clear h1)
              go_roundg (n + 2 * bs - (b + 2 * bs))
              case measure => have h1 := HB.out; have h2 := HC2.out; have h3 := HA.out; clear e2 e3 e4; omega
              case rel => exact ⟨b, b + 2 * bs, rfl, by rw [e4], ⟨rfl, Nat.le_refl _, HC2.out.1⟩, H1⟩
            · by_cases c3 : a + bs < n
              · have hcall := HJe.out bs a wr HA.out.2 (by rw [← hbb]; omega) c3 HW.out
                have HCALL := Aside0.mk hcall
                obtain ⟨x, hx⟩ : ∃ x, x = a + bs := ⟨_, rfl⟩
                have e3 : wrap64 ((a : Int) + (bs : Int)) = (x : Int) := by rw [hx]; exact w64 rfl hab
                rw [← hx] at HCALL c3
                clear hn hbb hab hcall HW hx
                go_wp2_with (go_at_call 86; refine HCALL.out.mono ?_; rintro e w1 ⟨rfl, h1⟩; have H1 := Aside0.mk h1; clear h1)
                go_roundg (n - 2 * bs)
                case measure => have h1 := HA.out; have h2 := HC.out; clear e1 e2 e3; omega
                case rel => exact ⟨2 * bs, by rw [e2], ⟨Nat.le_refl _, by have h1 := HA.out; clear e1 e2 e3; omega⟩, H1⟩
              · have H1 := Aside0.mk (HJn.out bs a wr HA.out.2 HB.out.2.2 (by clear e1 e2; omega) HW.out)
                obtain ⟨x, hx⟩ : ∃ x, x = a + bs := ⟨_, rfl⟩
                have e3 : wrap64 ((a : Int) + (bs : Int)) = (x : Int) := by rw [hx]; exact w64 rfl hab
                rw [← hx] at c3
                clear hn hbb hab HW hx
                go_wp2
                go_roundg (n - 2 * bs)
                case measure => have h1 := HA.out; have h2 := HC.out; clear e1 e2 e3; omega
                case rel => exact ⟨2 * bs, by rw [e2], ⟨Nat.le_refl _, by have h1 := HA.out; clear e1 e2 e3; omega⟩, H1⟩
        · go_wp2
          go_end0
          exact ⟨rfl, bs, by omega, HW.out⟩
/-! the plain side -/
theorem insInner_in {α : Type} [Inhabited α] (lt : α → α → Bool) (C : List α) (x : α) (q : List α) : ∀ (p : List α) (j : Nat) (d : Array α), j = C.length + p.length → d.toList = C ++ p ++ x :: q → (insInner lt C.length j d).toList = C ++ (insR lt x p.reverse).reverse ++ q := by
  intro p
  induction h : p.length generalizing p q with
  | zero =>
    obtain rfl : p = [] := List.eq_nil_of_length_eq_zero h
    intro j d hj hd
    have e : insInner lt C.length j d = d := by
      cases j with
      | zero => rw [insInner]
      | succ j =>
        have h0 : ¬ (j + 1 > C.length) := by omega
        rw [insInner, if_neg (by rw [decide_eq_false h0, Bool.false_and]; exact Bool.false_ne_true)]
    rw [e, hd]
    simp [insR]
  | succ n ih =>
    intro j d hj hd
    obtain ⟨p', y, rfl⟩ : ∃ p' y, p = p' ++ [y] := ⟨p.dropLast, p.getLast (by intro e; rw [e] at h; simp at h), (List.dropLast_concat_getLast _).symm⟩
    have hp' : p'.length = n := by simpa using h
    obtain ⟨i, rfl⟩ : ∃ i, j = i + 1 := ⟨j - 1, by omega⟩
    have hi : i = C.length + p'.length := by omega
    have hd' : d.toList = (C ++ p') ++ y :: x :: q := by rw [hd]; simp
    have e1 : d[i]! = y := by
      have := get_at d (C ++ p') (x :: q) y hd'
      rwa [List.length_append, ← hi] at this
    have e2 : d[i + 1]! = x := by
      have := get_at d (C ++ p' ++ [y]) q x (by rw [hd']; simp)
      rwa [List.length_append, List.length_append, ← hi] at this
    rw [insInner, e1, e2]
    have hj : decide (i + 1 > C.length) = true := by simp; omega
    rw [hj, Bool.true_and, List.reverse_append, List.reverse_singleton, List.singleton_append, insR]
    cases hl : lt x y with
    | true =>
      rw [if_pos rfl, if_pos rfl, List.reverse_cons]
      have h5 := ih (y :: q) p' hp' i (Sort.swp d (i + 1) i) (hp' ▸ hi) (by
        have := swp_at d (C ++ p') q x y hd'
        rw [List.length_append, ← hi] at this
        exact this)
      rw [h5]
      simp
    | false =>
      rw [if_neg (by simp), if_neg (by simp), hd']
      simp
theorem insOuter_in {α : Type} [Inhabited α] (lt : α → α → Bool) (C S : List α) (b : Nat) : ∀ (q : List α) (i : Nat) (acc : List α) (d : Array α), C.length + acc.length = i → i + q.length = b → d.toList = C ++ acc.reverse ++ q ++ S → (insOuter lt C.length b i d).toList = C ++ (q.foldl (fun acc x => insR lt x acc) acc).reverse ++ S
  | [], i, acc, d, hi, hb, h => by
    rw [insOuter, if_neg (by simp at hb; omega), h]
    simp
  | x :: q, i, acc, d, hi, hb, h => by
    rw [insOuter, if_pos (by simp at hb; omega), List.foldl_cons]
    refine insOuter_in lt C S b q (i + 1) (insR lt x acc) _ (by rw [insR_length]; omega) (by simp at hb; omega) ?_
    rw [insInner_in lt C x (q ++ S) acc.reverse i d (by simpa using hi.symm) (by rw [h]; simp), List.reverse_reverse]
    simp
theorem insertionSort_in {α : Type} [Inhabited α] (lt : α → α → Bool) (d : Array α) (C o S : List α) (h : d.toList = C ++ o ++ S) : (Sort.insertionSort lt d C.length (C.length + o.length)).toList = C ++ insSort lt o ++ S := by
  unfold Sort.insertionSort insSort
  cases o with
  | nil =>
    rw [insOuter, if_neg (by simp), h]
    rfl
  | cons x q =>
    rw [List.foldl_cons]
    exact insOuter_in lt C S _ q (C.length + 1) [x] d rfl (by simp; omega) (by rw [h]; simp)
theorem insR_sorted {α : Type} (T : α → α → Prop) (hT : ∀ x y z, T x y → T y z → T x z) (lt : α → α → Bool) (x : α) : ∀ acc : List α, acc.Pairwise (fun a b => T b a) → (∀ y ∈ acc, (lt x y = true → T x y) ∧ (lt x y = false → T y x)) → (insR lt x acc).Perm (x :: acc) ∧ (insR lt x acc).Pairwise (fun a b => T b a)
  | [], _, _ => ⟨List.Perm.refl _, List.pairwise_singleton _ _⟩
  | y :: l, hp, hx => by
    obtain ⟨p1, p2⟩ := List.pairwise_cons.1 hp
    rw [insR]
    cases h : lt x y with
    | true =>
      rw [if_pos rfl]
      obtain ⟨i1, i2⟩ := insR_sorted T hT lt x l p2 (fun z hz => hx z (List.mem_cons_of_mem _ hz))
      refine ⟨(i1.cons y).trans (List.Perm.swap x y l), List.pairwise_cons.2 ⟨fun z hz => ?_, i2⟩⟩
      rcases List.mem_cons.1 (i1.mem_iff.1 hz) with rfl | hz
      · exact (hx y (by simp)).1 h
      · exact p1 z hz
    | false =>
      rw [if_neg (by simp)]
      have hyx := (hx y (by simp)).2 h
      refine ⟨List.Perm.refl _, List.pairwise_cons.2 ⟨fun z hz => ?_, hp⟩⟩
      rcases List.mem_cons.1 hz with rfl | hz
      · exact hyx
      · exact hT _ _ _ (p1 z hz) hyx
theorem insFold_sorted {α : Type} (T : α → α → Prop) (hT : ∀ x y z, T x y → T y z → T x z) (lt : α → α → Bool) (idx : α → Nat) (hlt : ∀ x y, idx y < idx x → (lt x y = true → T x y) ∧ (lt x y = false → T y x)) : ∀ (l acc : List α), acc.Pairwise (fun a b => T b a) → (∀ x ∈ l, ∀ y ∈ acc, idx y < idx x) → l.Pairwise (fun x y => idx x < idx y) →
    (l.foldl (fun acc x => insR lt x acc) acc).Perm (acc ++ l) ∧ (l.foldl (fun acc x => insR lt x acc) acc).Pairwise (fun a b => T b a)
  | [], acc, ha, _, _ => ⟨by simp, ha⟩
  | x :: l, acc, ha, hx, hl => by
    obtain ⟨p1, p2⟩ := List.pairwise_cons.1 hl
    obtain ⟨i1, i2⟩ := insR_sorted T hT lt x acc ha (fun y hy => hlt x y (hx x (by simp) y hy))
    rw [List.foldl_cons]
    obtain ⟨j1, j2⟩ := insFold_sorted T hT lt idx hlt l (insR lt x acc) i2 (fun z hz y hy => by
      rcases List.mem_cons.1 (i1.mem_iff.1 hy) with rfl | hy
      · exact p1 z hz
      · exact hx z (by simp [hz]) y hy) p2
    refine ⟨j1.trans ((i1.append_right l).trans ?_), j2⟩
    exact (List.perm_middle (a := x) (l₁ := acc) (l₂ := l)).symm
theorem insSort_sorted {α : Type} (T : α → α → Prop) (hT : ∀ x y z, T x y → T y z → T x z) (lt : α → α → Bool) (idx : α → Nat) (hlt : ∀ x y, idx y < idx x → (lt x y = true → T x y) ∧ (lt x y = false → T y x)) (l : List α) (hl : l.Pairwise (fun x y => idx x < idx y)) :
    (insSort lt l).Perm l ∧ (insSort lt l).Pairwise T := by
  obtain ⟨h1, h2⟩ := insFold_sorted T hT lt idx hlt l [] List.Pairwise.nil (by simp) hl
  unfold insSort
  exact ⟨(List.reverse_perm _).trans (by simpa using h1), List.pairwise_reverse.2 h2⟩
/-- A row of blocks of bs, each in order. -/
inductive Bk {α : Type} (T : α → α → Prop) (bs : Nat) : List α → List α → Prop
  | nil : Bk T bs [] []
  | last (o c : List α) : o.length ≤ bs → c.Perm o → c.Pairwise T → Bk T bs o c
  | cons (o c o' c' : List α) : o.length = bs → c.Perm o → c.Pairwise T → Bk T bs o' c' → Bk T bs (o ++ o') (c ++ c')
theorem Bk.perm {α : Type} {T : α → α → Prop} {bs : Nat} {o c : List α} (h : Bk T bs o c) : c.Perm o := by
  induction h with
  | nil => exact List.Perm.refl _
  | last o c _ h _ => exact h
  | cons o c o' c' _ h _ _ ih => exact h.append ih
theorem Bk.one {α : Type} {T : α → α → Prop} {bs : Nat} {o c : List α} (h : Bk T bs o c) (hl : o.length ≤ bs) : c.Perm o ∧ c.Pairwise T := by
  cases h with
  | nil => exact ⟨List.Perm.refl _, List.Pairwise.nil⟩
  | last _ _ _ h1 h2 => exact ⟨h1, h2⟩
  | cons o c o' c' h1 h2 h3 h4 =>
    obtain rfl : o' = [] := List.eq_nil_of_length_eq_zero (by rw [List.length_append] at hl; omega)
    obtain rfl : c' = [] := by simpa using h4.perm
    simpa using ⟨h2, h3⟩
theorem Bk.split {α : Type} {T : α → α → Prop} {bs : Nat} {o c : List α} (h : Bk T bs o c) (hl : bs ≤ o.length) : ∃ o1 o2 c1 c2, o = o1 ++ o2 ∧ c = c1 ++ c2 ∧ o1.length = bs ∧ c1.Perm o1 ∧ c1.Pairwise T ∧ Bk T bs o2 c2 := by
  cases h with
  | nil => exact ⟨[], [], [], [], rfl, rfl, by simp at hl; simp [hl], List.Perm.refl _, List.Pairwise.nil, Bk.nil⟩
  | last _ _ h0 h1 h2 => exact ⟨o, [], c, [], by simp, by simp, by omega, h1, h2, Bk.nil⟩
  | cons o c o' c' h1 h2 h3 h4 => exact ⟨o, o', c, c', rfl, rfl, h1, h2, h3, h4⟩
set_option maxHeartbeats 8000000 in
theorem stableAll {α : Type} [Inhabited α] (enc : α → Value) (cf : α → α → Int) (T : α → α → Prop) (hT : ∀ x y z, T x y → T y z → T x z) (idx : α → Nat) (hcf : ∀ x y, idx y < idx x → (cf x y < 0 → T x y) ∧ (¬ cf x y < 0 → T y x)) (g : Nat) (cb : Array Value)
    (eg : ∀ args w, (callFunc g args).run Try.prog w = .ok (.enter g args) w) (blk off cap : Nat) (d : Array α) (w : World) (hcmp : CmpLays1 Try.prog g cb enc cf blk off d.size w) (R : Row1 enc w blk off d) (hsz : d.size ≤ 1000) (hd : d.toList.Pairwise (fun x y => idx x < idx y)) :
    Calls Try.prog 78 #[.slice (some ⟨blk, off, none⟩) d.size cap, .int .i64 d.size, .func (.func g) #[] cb] w fun e w' => e = .returned (.tuple #[]) ∧ ∃ dk, SW enc w blk off dk w' ∧ dk.toList.Perm d.toList ∧ dk.toList.Pairwise T := by
  have hlt : ∀ x y, idx y < idx x → (ltOf cf x y = true → T x y) ∧ (ltOf cf x y = false → T y x) := fun x y h => by
    unfold ltOf
    exact ⟨fun h1 => (hcf x y h).1 (of_decide_eq_true h1), fun h1 => (hcf x y h).2 (of_decide_eq_false h1)⟩
  have hn : d.toList.length = d.size := Array.length_toList
  have ins : ∀ (dk : Array α) (w1 : World) (C o S O : List α), d.toList = O ++ o ++ S → O.length = C.length → dk.toList = C ++ o ++ S → SW enc w blk off dk w1 →
      Calls Try.prog 85 #[.slice (some ⟨blk, off, none⟩) d.size cap, .int .i64 (C.length : Int), .int .i64 ((C.length + o.length : Nat) : Int), .func (.func g) #[] cb] w1 fun e w' => e = .returned (.tuple #[]) ∧ ∃ dk' c, SW enc w blk off dk' w' ∧ dk'.toList = C ++ c ++ S ∧ c.Perm o ∧ c.Pairwise T := by
    intro dk w1 C o S O h1 h2 h3 hS
    have hz : dk.size = d.size := by rw [← Array.length_toList, ← Array.length_toList, h3, h1]; simp [h2]
    have hle : C.length + o.length ≤ dk.size := by rw [← Array.length_toList, h3]; simp <;> omega
    have h := Any.insertionSortCmpFunc_s Try.insI enc cf g cb blk off cap C.length (C.length + o.length) d dk w w1 eg hcmp R hz.symm hS (by omega) hle (by omega)
    rw [hz] at h
    refine h.mono ?_
    rintro e w' ⟨he, hS'⟩
    obtain ⟨q1, q2⟩ := insSort_sorted T hT (ltOf cf) idx hlt o (by
      rw [h1] at hd
      exact (List.pairwise_append.1 (List.pairwise_append.1 hd).1).2.1)
    exact ⟨he, _, insSort (ltOf cf) o, hS', insertionSort_in (ltOf cf) dk C o S h3, q1, q2⟩
  have mrg : ∀ (dk : Array α) (w1 : World) (C c1 c2 S O o1 o2 S' : List α), d.toList = O ++ o1 ++ o2 ++ S' → O.length = C.length → S'.length = S.length → dk.toList = C ++ c1 ++ c2 ++ S → c1.Perm o1 → c2.Perm o2 → c1.Pairwise T → c2.Pairwise T → c1 ≠ [] → c2 ≠ [] → SW enc w blk off dk w1 →
      Calls Try.prog 86 #[.slice (some ⟨blk, off, none⟩) d.size cap, .int .i64 (C.length : Int), .int .i64 ((C.length + c1.length : Nat) : Int), .int .i64 ((C.length + c1.length + c2.length : Nat) : Int), .func (.func g) #[] cb] w1 fun e w' => e = .returned (.tuple #[]) ∧ ∃ dk' M, SW enc w blk off dk' w' ∧ dk'.toList = C ++ M ++ S ∧ M.Perm (o1 ++ o2) ∧ M.Pairwise T := by
    intro dk w1 C c1 c2 S O o1 o2 S' h1 h2 hSS h3 p1 p2 s1 s2 n1 n2 hS
    have hz : dk.size = d.size := by rw [← Array.length_toList, ← Array.length_toList, h3, h1]; simp [h2, p1.length_eq, p2.length_eq, hSS]
    refine (symMerge enc cf T hT g cb eg blk off cap d w hcmp R hsz _ C.length (C.length + c1.length) (C.length + c1.length + c2.length) dk w1 C c1 c2 S (Nat.le_refl _) h3 rfl rfl rfl n1 n2 s1 s2 (fun x hx y hy => hcf x y ?_) hz hS).mono ?_
    · rw [h1] at hd
      exact (List.pairwise_append.1 (List.pairwise_append.1 hd).1).2.2 y (List.mem_append_right _ (p1.mem_iff.1 hy)) x (p2.mem_iff.1 hx)
    · rintro e w' ⟨he, dk', M, hS', h5, h6, h7⟩
      exact ⟨he, dk', M, hS', h5, h6.trans (p1.append p2), h7⟩
  refine (stableWalk d.size cap (some ⟨blk, off, none⟩) (.func g) cb w hsz
    (fun a w1 => ∃ dk O C O', SW enc w blk off dk w1 ∧ d.toList = O ++ O' ∧ dk.toList = C ++ O' ∧ O.length = a ∧ C.length = a ∧ ∀ o c, Bk T 20 o c → Bk T 20 (O ++ o) (C ++ c))
    (fun bs w1 => ∃ dk, SW enc w blk off dk w1 ∧ Bk T bs d.toList dk.toList)
    (fun bs a w1 => ∃ dk O C O' C', SW enc w blk off dk w1 ∧ d.toList = O ++ O' ∧ dk.toList = C ++ C' ∧ O.length = a ∧ C.length = a ∧ Bk T bs O' C' ∧ ∀ o c, Bk T (2 * bs) o c → Bk T (2 * bs) (O ++ o) (C ++ c)) ?_ ?_ ?_ ?_ ?_ ?_ ?_).mono ?_
  · exact ⟨d, [], [], d.toList, SW.start R.hH, by simp, by simp, rfl, rfl, fun o c h => by simpa using h⟩
  · rintro a w1 ha ⟨dk, O, C, O', hS, h1, h2, h3, h4, h5⟩
    have hl : O'.length = d.size - a := by rw [← hn, h1, List.length_append]; omega
    obtain ⟨o1, o2, rfl, l1, l2⟩ := take_two O' 20 (by omega)
    have h := ins dk w1 C o1 o2 O (by rw [h1]; simp) (by omega) (by rw [h2]; simp) hS
    rw [h4, l1] at h
    refine h.mono ?_
    rintro e w' ⟨he, dk', c, hS', g1, g2, g3⟩
    exact ⟨he, dk', O ++ o1, C ++ c, o2, hS', by rw [h1]; simp, g1, by simp [h3, l1], by simp [h4, g2.length_eq, l1], fun o c' hb => by
      rw [List.append_assoc, List.append_assoc]
      exact h5 _ _ (Bk.cons o1 c o c' l1 g2 g3 hb)⟩
  · rintro a w1 ha hb ⟨dk, O, C, O', hS, h1, h2, h3, h4, h5⟩
    have hl : O'.length = d.size - a := by rw [← hn, h1, List.length_append]; omega
    have h := ins dk w1 C O' [] O (by rw [h1]; simp) (by omega) (by rw [h2]; simp) hS
    rw [h4, hl, show a + (d.size - a) = d.size by omega] at h
    refine h.mono ?_
    rintro e w' ⟨he, dk', c, hS', g1, g2, g3⟩
    refine ⟨he, dk', hS', ?_⟩
    rw [g1, h1, List.append_nil]
    exact h5 _ _ (Bk.last O' c (by omega) g2 g3)
  · rintro bs w1 hb hlt' ⟨dk, hS, hB⟩
    exact ⟨dk, [], [], d.toList, dk.toList, hS, by simp, by simp, rfl, rfl, hB, fun o c h => by simpa using h⟩
  · rintro bs a w1 hb ha ⟨dk, O, C, O', C', hS, h1, h2, h3, h4, hB, h5⟩
    have hl : O'.length = d.size - a := by rw [← hn, h1, List.length_append]; omega
    obtain ⟨o1, o2, c1, c2, rfl, rfl, l1, p1, s1, hB2⟩ := hB.split (by omega)
    rw [List.length_append] at hl
    obtain ⟨o3, o4, c3, c4, rfl, rfl, l3, p3, s3, hB4⟩ := hB2.split (by omega)
    have h := mrg dk w1 C c1 c3 c4 O o1 o3 o4 (by rw [h1]; simp) (by omega) hB4.perm.length_eq.symm (by rw [h2]; simp) p1 p3 s1 s3 (List.length_pos_iff.1 (by rw [p1.length_eq]; omega)) (List.length_pos_iff.1 (by rw [p3.length_eq]; omega)) hS
    rw [p1.length_eq, p3.length_eq, h4, l1, l3, show a + bs + bs = a + 2 * bs by omega] at h
    refine h.mono ?_
    rintro e w' ⟨he, dk', M, hS', g1, g2, g3⟩
    exact ⟨he, dk', O ++ (o1 ++ o3), C ++ M, o4, c4, hS', by rw [h1]; simp, g1, by simp [h3, l1, l3]; omega, by simp [h4, g2.length_eq, l1, l3]; omega, hB4, fun o c' hb' => by
      have h6 := h5 _ _ (Bk.cons (o1 ++ o3) M o c' (by simp [l1, l3]; omega) g2 g3 hb')
      simpa using h6⟩
  · rintro bs a w1 hb ha hab ⟨dk, O, C, O', C', hS, h1, h2, h3, h4, hB, h5⟩
    have hl : O'.length = d.size - a := by rw [← hn, h1, List.length_append]; omega
    obtain ⟨o1, o2, c1, c2, rfl, rfl, l1, p1, s1, hB2⟩ := hB.split (by omega)
    rw [List.length_append] at hl
    obtain ⟨p2, s2⟩ := hB2.one (by omega)
    have h := mrg dk w1 C c1 c2 [] O o1 o2 [] (by rw [h1]; simp) (by omega) rfl (by rw [h2]; simp) p1 p2 s1 s2 (List.length_pos_iff.1 (by rw [p1.length_eq]; omega)) (List.length_pos_iff.1 (by rw [p2.length_eq]; omega)) hS
    rw [p1.length_eq, p2.length_eq, h4, l1, show a + bs + o2.length = d.size by omega] at h
    refine h.mono ?_
    rintro e w' ⟨he, dk', M, hS', g1, g2, g3⟩
    refine ⟨he, dk', hS', ?_⟩
    rw [g1, h1, List.append_nil]
    exact h5 _ _ (Bk.last _ M (by simp; omega) g2 g3)
  · rintro bs a w1 hb ha hab ⟨dk, O, C, O', C', hS, h1, h2, h3, h4, hB, h5⟩
    have hl : O'.length = d.size - a := by rw [← hn, h1, List.length_append]; omega
    obtain ⟨p1, s1⟩ := hB.one (by omega)
    refine ⟨dk, hS, ?_⟩
    rw [h1, h2]
    exact h5 _ _ (Bk.last _ _ (by omega) p1 s1)
  · rintro e w' ⟨he, bs, hb, dk, hS, hB⟩
    exact ⟨he, dk, hS, hB.one (by omega)⟩
end

/-! ### slices_SortStableFunc_int_int: function 53 (by hand) -/
section
open Go.Shelf
/-- The numbers of the parts, the greatest rest first, equal rests as they come. -/
def orderOf (xs : List Int) : List Nat := insSort (fun i k => decide (restCmp xs i k < 0)) (List.range xs.length)
/-- i stands before k: it has the greater rest, or the same and comes first. -/
def Before (xs : List Int) (i k : Nat) : Prop := xs.getD k 0 < xs.getD i 0 ∨ (xs.getD k 0 = xs.getD i 0 ∧ i < k)
theorem Before.trans (xs : List Int) : ∀ i k m, Before xs i k → Before xs k m → Before xs i m := by
  intro i k m h1 h2
  unfold Before at *
  omega
theorem Before.cmp (xs : List Int) : ∀ x y : Nat, y < x → (restCmp xs x y < 0 → Before xs x y) ∧ (¬ restCmp xs x y < 0 → Before xs y x) := by
  intro x y h
  unfold restCmp Before
  constructor
  · intro h1
    by_cases c : xs.getD y 0 < xs.getD x 0
    · exact .inl c
    · rw [if_neg c] at h1
      split at h1 <;> omega
  · intro h1
    by_cases c : xs.getD y 0 < xs.getD x 0
    · rw [if_pos c] at h1
      omega
    · rcases Int.lt_or_eq_of_le (Int.not_lt.1 c) with c2 | c2
      · exact .inl c2
      · exact .inr ⟨c2, h⟩
theorem orderOf_spec (xs : List Int) : (orderOf xs).Perm (List.range xs.length) ∧ (orderOf xs).Pairwise (Before xs) := by
  refine insSort_sorted (Before xs) (Before.trans xs) _ (fun i => i) (fun x y h => ?_) (List.range xs.length) List.pairwise_lt_range
  have h1 := Before.cmp xs x y h
  exact ⟨fun h2 => h1.1 (of_decide_eq_true h2), fun h2 => h1.2 (of_decide_eq_false h2)⟩
theorem order_unique {α : Type} {T : α → α → Prop} (hT : ∀ x y, T x y → T y x → False) : ∀ (l l' : List α), l.Perm l' → l.Pairwise T → l'.Pairwise T → l = l'
  | [], l', h, _, _ => by simpa using h.symm
  | x :: l, l', h, h1, h2 => by
    match l', h, h2 with
    | [], h, _ => simp at h
    | y :: l', h, h2 =>
      obtain ⟨p1, p2⟩ := List.pairwise_cons.1 h1
      obtain ⟨q1, q2⟩ := List.pairwise_cons.1 h2
      have hxy : x = y := by
        rcases List.mem_cons.1 (h.mem_iff.1 (List.mem_cons_self)) with e | e
        · exact e
        · rcases List.mem_cons.1 (h.mem_iff.2 (List.mem_cons_self)) with e2 | e2
          · exact e2.symm
          · exact (hT _ _ (q1 x e) (p1 y e2)).elim
      subst hxy
      rw [order_unique hT l l' ((List.perm_cons _).1 h) p2 q2]
theorem Before.asymm (xs : List Int) : ∀ i k, Before xs i k → Before xs k i → False := by
  intro i k h1 h2
  unfold Before at *
  omega
set_option maxHeartbeats 4000000 in
theorem sortOrder (xs : List Int) (m : Nat) (hm : xs.length = m + 1) (h20 : m + 1 ≤ 1000) (B3 R base c base2 G cap : Nat) (W : World) (h3 : W.cell? ⟨B3, 0, none⟩ = some (.slice (some ⟨R, 0, none⟩) (m + 1) c))
    (ho : W.ownsRow base 3 1 (.slice (some ⟨R, 0, none⟩) (m + 1) c) (m + 1) (nums .i64 xs)) (hoG : W.ownsRow base2 3 1 (.slice (some ⟨G, 0, none⟩) (m + 1) cap) (m + 1) (nums .i64 ((List.range (m + 1)).map (fun i : Nat => (i : Int))))) (hne : R ≠ G) (hB3 : B3 ≠ G) :
    Calls Try.prog 53 #[.slice (some ⟨G, 0, none⟩) (m + 1) cap, .func (.func 54) #[] #[.pointer (some ⟨B3, 0, none⟩)]] W fun e w' => e = .returned (.tuple #[]) ∧ w'.ownsRow base2 3 1 (.slice (some ⟨G, 0, none⟩) (m + 1) cap) (m + 1) (nums .i64 ((orderOf xs).map (fun i : Nat => (i : Int)))) ∧ W.grownBy w' (some G) := by
  have eg : ∀ args w, (callFunc 54 args).run Try.prog w = .ok (.enter 54 args) w := enters_of Try.func54 (by kernel_rfl) rfl
  have hB : B3 < W.heap.size := World.block_lt_of_cell? W _ h3
  have hG : G < W.heap.size := own_lt hoG G rfl
  let enc : Fin (m + 1) → Value := fun i => .int .i64 (i.val : Int)
  let cf : Fin (m + 1) → Fin (m + 1) → Int := fun x y => restCmp xs x.val y.val
  let d : Array (Fin (m + 1)) := (List.finRange (m + 1)).toArray
  have hd : d.size = m + 1 := by simp [d]
  have hcmp : CmpLays1 Try.prog 54 #[.pointer (some ⟨B3, 0, none⟩)] enc cf G 0 d.size W := by
    intro n os dk _ x y
    refine (splitCmp xs x.val y.val (by rw [hm]; exact x.isLt) (by rw [hm]; exact y.isLt) B3 R base (m + 1) c hm.symm _ ((World.cell?_of_block (heap_sortWorld enc W G n dk os B3 hB hB3)).trans h3)
      (own_other ho (grown_sortWorld enc W G n dk os) (.inr (by intro e; simp [Value.ownBlock] at e; exact hne e)))).mono ?_
    rintro e w' ⟨he, ⟨q, hq⟩⟩
    exact ⟨he, q, #[], by rw [hq, Go.Sort.grow_empty]⟩
  have hR : Row1 enc W G 0 d := by
    refine ⟨fun _ => rfl, fun j hj => ?_, hG⟩
    have hj' : j < m + 1 := by rw [hd] at hj; exact hj
    obtain ⟨c1, c2⟩ := own_at hoG (j : Int) (by omega) (by omega)
    rw [Int.toNat_natCast] at c1 c2
    rw [Nat.zero_add]
    refine ⟨c1.trans ?_, c2⟩
    have e1 : d[j]! = ⟨j, hj'⟩ := by rw [getElem!_pos d j hj]; simp [d]
    rw [e1]
    have e2 : rd ((List.range (m + 1)).map (fun i : Nat => (i : Int))) (j : Int) = (j : Int) := by
      unfold rd
      rw [Int.toNat_natCast, List.getD_eq_getElem?_getD, List.getElem?_map, List.getElem?_range hj']
      rfl
    rw [e2]
  have hdl : d.toList = List.finRange (m + 1) := by simp [d]
  have h := stableAll enc cf (fun x y : Fin (m + 1) => Before xs x.val y.val) (fun x y z h1 h2 => Before.trans xs _ _ _ h1 h2) (fun x => x.val) (fun x y h => Before.cmp xs x.val y.val h) 54 #[.pointer (some ⟨B3, 0, none⟩)] eg G 0 cap d W hcmp hR (by rw [hd]; exact h20) (by
    rw [hdl, List.pairwise_iff_getElem]
    intro i j hi hj hij
    simp only [List.getElem_finRange]
    simpa using hij)
  rw [hd] at h
  have H := Aside0.mk h
  have HF : Aside0 (∀ w', (∃ dk, SW enc W G 0 dk w' ∧ dk.toList.Perm d.toList ∧ dk.toList.Pairwise (fun x y : Fin (m + 1) => Before xs x.val y.val)) → w'.ownsRow base2 3 1 (.slice (some ⟨G, 0, none⟩) (m + 1) cap) (m + 1) (nums .i64 ((orderOf xs).map (fun i : Nat => (i : Int)))) ∧ W.grownBy w' (some G)) := by
    refine ⟨?_⟩
    rintro w' ⟨dk, ⟨n, os, rfl⟩, hp, hs⟩
    refine ⟨?_, grown_sortWorld enc W G n _ os⟩
    have hsz : dk.size = m + 1 := by rw [← Array.length_toList, hp.length_eq, Array.length_toList, hd]
    have h5 := own_sortWorld enc hoG n dk os hsz
    have ho : dk.toList.map (fun i : Fin (m + 1) => i.val) = orderOf xs := by
      refine order_unique (Before.asymm xs) _ _ ?_ ?_ (orderOf_spec xs).2
      · refine ((hp.map (fun i : Fin (m + 1) => i.val)).trans ?_).trans (orderOf_spec xs).1.symm
        rw [hdl, hm, show (List.finRange (m + 1)).map (fun i : Fin (m + 1) => i.val) = List.range (m + 1) by
          apply List.ext_getElem
          · simp
          · intro i h1 h2; simp]
      · rw [List.pairwise_map]
        exact hs
    have e3 : dk.toList.map enc = nums .i64 ((orderOf xs).map (fun i : Nat => (i : Int))) := by
      rw [← ho]
      unfold nums
      rw [List.map_map, List.map_map]
      rfl
    rw [e3] at h5
    exact h5
  clear h hcmp hR hoG ho h3
  clear_value enc cf d
  go_enter Try.func53, Try.ntmps53
  go_wp2_with (go_at_call 78; refine H.out.mono ?_; rintro e w1 ⟨rfl, hs1⟩; have HS1 := Aside0.mk hs1; clear hs1)
  go_end0
  exact ⟨rfl, HF.out _ HS1.out⟩
theorem sortOrderN (xs : List Int) (n : Nat) (hm : xs.length = n) (hn : 0 < n) (h20 : n ≤ 1000) (B3 R base c base2 G cap : Nat) (W : World) (h3 : W.cell? ⟨B3, 0, none⟩ = some (.slice (some ⟨R, 0, none⟩) n c))
    (ho : W.ownsRow base 3 1 (.slice (some ⟨R, 0, none⟩) n c) n (nums .i64 xs)) (hoG : W.ownsRow base2 3 1 (.slice (some ⟨G, 0, none⟩) n cap) n (nums .i64 ((List.range n).map (fun i : Nat => (i : Int))))) (hne : R ≠ G) (hB3 : B3 ≠ G) :
    Calls Try.prog 53 #[.slice (some ⟨G, 0, none⟩) n cap, .func (.func 54) #[] #[.pointer (some ⟨B3, 0, none⟩)]] W fun e w' => e = .returned (.tuple #[]) ∧ w'.ownsRow base2 3 1 (.slice (some ⟨G, 0, none⟩) n cap) n (nums .i64 ((orderOf xs).map (fun i : Nat => (i : Int)))) ∧ W.grownBy w' (some G) := by
  obtain ⟨m, rfl⟩ : ∃ m, n = m + 1 := ⟨n - 1, by omega⟩
  exact sortOrder xs m hm h20 B3 R base c base2 G cap W h3 ho hoG hne hB3
end

end Go.Proofs.Ytbkfnbbngnocbaa.Px
