-- Lines of this text were written by the print of the kit, run by a program of this session (print2.py).
import Derived.Test.YtbkfnbbngnocbaaPx0
import Derived.Test.YtbkfnbbngnocbaaPx7
namespace Go.Proofs.Ytbkfnbbngnocbaa.Px
open Go.RowKit Go.Proofs.YtbkfnbbngnocbaaW.PrintWords Go.Proofs.YtbkfnbbngnocbaaW.PrintLast Go.Proofs.YtbkfnbbngnocbaaW.PrintMore
attribute [local go_sem] max2_int min2_int max_two min_two max_three min_three max_four min_four   -- for this text's walks alone
set_option linter.unusedVariables false
set_option linter.unusedSimpArgs false

/-! ### slices_symMergeCmpFunc_int: function 86 (by hand) -/
section
open Go.Shelf Go.Sort
theorem get_of_list {α : Type} [Inhabited α] {d : Array α} {l : List α} (h : d.toList = l) (i : Nat) (hi : i < l.length) : d[i]! = l[i] := by
  have hs : i < d.size := by rw [← Array.length_toList, h]; exact hi
  rw [getElem!_pos d i hs, ← Array.getElem_toList (h := hs)]
  simp [h]
/-- x stands at place k of its way up to the end of R1. -/
def Up {α : Type} (d : Array α) (a len k : Nat) (dk : Array α) : Prop := ∀ P x R1 R2, d.toList = P ++ x :: R1 ++ R2 → P.length = a → R1.length = len → ∃ Q1 Q2, P ++ R1 = Q1 ++ Q2 ∧ Q1.length = k ∧ dk.toList = Q1 ++ x :: Q2 ++ R2
theorem Up.start {α : Type} (d : Array α) (a len : Nat) : Up d a len a d := fun P x R1 R2 h hP _ => ⟨P, R1, rfl, hP, h⟩
theorem Up.step {α : Type} [Inhabited α] {d dk : Array α} {a len k : Nat} (h : Up d a len k dk) (hk : k < a + len) : Up d a len (k + 1) (Sort.swp dk k (k + 1)) := by
  intro P x R1 R2 h1 h2 h3
  obtain ⟨Q1, Q2, e, hl, hd⟩ := h P x R1 R2 h1 h2 h3
  have hq : Q1.length + Q2.length = a + len := by rw [← List.length_append, ← e, List.length_append, h2, h3]
  cases Q2 with
  | nil => simp at hq; omega
  | cons z Q3 =>
    have h5 := swp_far dk Q1 [] (Q3 ++ R2) x z (by rw [hd]; simp)
    rw [List.length_nil, Nat.add_zero, hl] at h5
    exact ⟨Q1 ++ [z], Q3, by rw [e]; simp, by simp [hl], by rw [h5]; simp⟩
theorem Up.done {α : Type} {d dk : Array α} {a len : Nat} (h : Up d a len (a + len) dk) : ∀ P x R1 R2, d.toList = P ++ x :: R1 ++ R2 → P.length = a → R1.length = len → dk.toList = P ++ R1 ++ x :: R2 := by
  intro P x R1 R2 h1 h2 h3
  obtain ⟨Q1, Q2, e, hl, hd⟩ := h P x R1 R2 h1 h2 h3
  have hq : Q1.length + Q2.length = a + len := by rw [← List.length_append, ← e, List.length_append, h2, h3]
  obtain rfl : Q2 = [] := List.eq_nil_of_length_eq_zero (by omega)
  rw [List.append_nil] at e
  rw [e, hd]
  simp
/-- x stands k places above its place at the end of its way down. -/
def Down {α : Type} (d : Array α) (i len k : Nat) (dk : Array α) : Prop := ∀ P x R1 R2, d.toList = P ++ R1 ++ x :: R2 → P.length = i → R1.length = len → ∃ Q1 Q2, R1 = Q1 ++ Q2 ∧ Q1.length = k ∧ dk.toList = P ++ Q1 ++ x :: Q2 ++ R2
theorem Down.start {α : Type} (d : Array α) (i len : Nat) : Down d i len len d := fun P x R1 R2 h _ hR => ⟨R1, [], by simp, hR, by rw [h]; simp⟩
theorem Down.step {α : Type} [Inhabited α] {d dk : Array α} {i len k : Nat} (h : Down d i len (k + 1) dk) : Down d i len k (Sort.swp dk (i + k + 1) (i + k)) := by
  intro P x R1 R2 h1 h2 h3
  obtain ⟨Q1, Q2, e, hl, hd⟩ := h P x R1 R2 h1 h2 h3
  obtain ⟨Q3, z, rfl⟩ : ∃ Q3 z, Q1 = Q3 ++ [z] := ⟨Q1.dropLast, Q1.getLast (by intro e; rw [e] at hl; simp at hl), (List.dropLast_concat_getLast _).symm⟩
  have hq : Q3.length = k := by simpa using hl
  have h5 := swp_at dk (P ++ Q3) (Q2 ++ R2) x z (by rw [hd]; simp)
  rw [List.length_append, h2, hq] at h5
  exact ⟨Q3, z :: Q2, by rw [e]; simp, hq, by rw [h5]; simp⟩
theorem Down.done {α : Type} {d dk : Array α} {i len : Nat} (h : Down d i len 0 dk) : ∀ P x R1 R2, d.toList = P ++ R1 ++ x :: R2 → P.length = i → R1.length = len → dk.toList = P ++ x :: R1 ++ R2 := by
  intro P x R1 R2 h1 h2 h3
  obtain ⟨Q1, Q2, e, hl, hd⟩ := h P x R1 R2 h1 h2 h3
  obtain rfl : Q1 = [] := List.eq_nil_of_length_eq_zero hl
  rw [hd, e]
  simp
theorem i64sub (x i : Nat) (h : i ≤ x) (hx : x ≤ 1000000) : IntKind.i64.wrap ((x : Int) - (i : Int)) = ((x - i : Nat) : Int) := by rw [IntKind.wrap_i64]; omega
theorem half_is (i j : Nat) (hn : i + j ≤ 1000000) : ∃ s h : Nat, h = (i + j) / 2 ∧ wrap64 ((i : Int) + (j : Int)) = (s : Int) ∧ IntKind.u64.wrap (s : Int) = (s : Int) ∧ (s : Int) / 2 = (h : Int) ∧ wrap64 (h : Int) = (h : Int) ∧ wrap64 ((h : Int) + 1) = ((h + 1 : Nat) : Int) :=
  ⟨i + j, (i + j) / 2, rfl, w64 rfl hn, by simp only [IntKind.wrap, IntKind.bits, IntKind.signed]; simp; omega, by omega, w64 rfl (by omega), w64 rfl (by omega)⟩
set_option maxHeartbeats 4000000 in
set_option maxRecDepth 1000000 in
/-- One element on the left. -/
theorem symMerge1 {α : Type} [Inhabited α] (enc : α → Value) (cf : α → α → Int) (T : α → α → Prop) (g : Nat) (cb : Array Value) (eg : ∀ args w, (callFunc g args).run Try.prog w = .ok (.enter g args) w) (blk off cap : Nat) (d0 : Array α) (w0 : World)
    (hcmp : CmpLays1 Try.prog g cb enc cf blk off d0.size w0) (R : Row1 enc w0 blk off d0) (hsz : d0.size ≤ 1000) (a m b : Nat) (d : Array α) (w : World) (hd : d.size = d0.size) (S0 : SW enc w0 blk off d w) (hm : m = a + 1) (hb : b ≤ d0.size) (hmb : m < b)
    (hcf : ∀ k, m ≤ k → k < b → (cf d[k]! d[a]! < 0 → T d[k]! d[a]!) ∧ (¬ cf d[k]! d[a]! < 0 → T d[a]! d[k]!)) :
    Calls Try.prog 86 #[.slice (some ⟨blk, off, none⟩) d0.size cap, .int .i64 (a : Int), .int .i64 (m : Int), .int .i64 (b : Int), .func (.func g) #[] cb] w fun e w' => e = .returned (.tuple #[]) ∧
      ∃ i dk, m ≤ i ∧ i ≤ b ∧ (m < i → T d[i - 1]! d[a]!) ∧ (i < b → T d[a]! d[i]!) ∧ SW enc w0 blk off dk w' ∧ ∀ P x R1 R2, d.toList = P ++ x :: R1 ++ R2 → P.length = a → R1.length = i - m → dk.toList = P ++ R1 ++ x :: R2 := by
  have e1 : wrap64 ((m : Int) - (a : Int)) = 1 := by subst hm; unfold wrap64; omega
  have hcl0 := R.hO.cells
  simp only [Value.cells] at hcl0
  have hst := R.hO.store Try.prog
  have mixed := Try.insI.mixed
  have SS : Aside (SW enc w0 blk off d w) := S0
  have HC := Aside0.mk hcmp
  have HD := Aside0.mk hd
  have HN := Aside0.mk hsz
  have HM := Aside0.mk hm
  have HB := Aside0.mk hb
  have HMB := Aside0.mk hmb
  have HF := Aside0.mk hcf
  clear S0 hcmp hd hsz hm hb hmb hcf
  go_enter Try.func86, Try.ntmps86
  go_wp2
  go_loopg [10, 11] b (fun kx s10 s11 wr => ∃ (i j : Nat), s10 = .int .i64 (i : Int) ∧ s11 = .int .i64 (j : Int) ∧ Aside0 (j - i ≤ kx ∧ m ≤ i ∧ i ≤ j ∧ j ≤ b) ∧ Aside0 ((m < i → T d[i - 1]! d[a]!) ∧ (j < b → T d[a]! d[j]!)) ∧ Aside (SW enc w0 blk off d wr))
  case atStart => exact ⟨m, b, rfl, rfl, ⟨by omega, Nat.le_refl _, Nat.le_of_lt HMB.out, Nat.le_refl _⟩, ⟨fun h => absurd h (Nat.lt_irrefl _), fun h => absurd h (Nat.lt_irrefl _)⟩, SS⟩
  case round =>
    clear SS e1
    obtain ⟨i, j, rfl, rfl, HI, HT, SK⟩ := hrel
    by_cases c : i < j
    · obtain ⟨s, h, hh, e2, e3, e4, e5, e6⟩ := half_is i j (by have := HI.out; have := HB.out; have := HN.out; omega)
      have hi1 : i ≤ h := by omega
      have hj1 : h < j := by omega
      have hd0 : d.size = d0.size := HD.out
      have hhs : h < d.size := by have := HI.out; have := HB.out; omega
      have has : a < d.size := by have := HM.out; have := HMB.out; have := HB.out; omega
      have la := SK.out.cl R hd0 h hhs
      have lb := SK.out.cl R hd0 a has
      have hc := SK.out.cmp HC.out hd0 d[h]! d[a]!
      have p1 : (0 : Int) ≤ (h : Int) := by omega
      have p2 : (h : Int) < (d0.size : Int) := by omega
      have p3 : (0 : Int) ≤ (a : Int) := by omega
      have p4 : (a : Int) < (d0.size : Int) := by omega
      have hf := HF.out h (by have := HI.out; omega) (by have := HI.out; omega)
      have HH := Aside0.mk (And.intro hi1 hj1)
      obtain ⟨x, hx⟩ : ∃ x, x = d[h]! := ⟨_, rfl⟩
      obtain ⟨y, hy⟩ : ∃ x, x = d[a]! := ⟨_, rfl⟩
      have HX := Aside0.mk (And.intro hx hy)
      rw [← hx] at la hc hf
      rw [← hy] at lb hc hf
      clear hx hy hh hi1 hj1 hd0 hhs has
      cases hv : decide (cf x y < 0) with
      | true =>
        have hlt : cf x y < 0 := of_decide_eq_true hv
        have HT2 := Aside0.mk (hf.1 hlt)
        clear hf
        go_wp2_with fail
        go_quiet_grown (first | (go_at_fn g; refine Calls.grown_of (hc _ _)))
        have S2 : Aside (SW enc w0 blk off d (grow (wr.drewN nq) osq)) := SK.out.grown nq osq
        clear la lb hc SK
        generalize grow (wr.drewN nq) osq = w2 at S2 ⊢
        clear nq osq
        go_wp2
        go_roundg (j - (h + 1))
        case measure => have h1 := HI.out; have h2 := HH.out; clear e2 e3 e4 e5 e6; omega
        case rel => exact ⟨h + 1, j, by rw [e6], rfl, ⟨Nat.le_refl _, by have h1 := HI.out; have h2 := HH.out; clear e2 e3 e4 e5 e6; omega, HH.out.2, HI.out.2.2.2⟩, ⟨fun _ => by rw [Nat.add_sub_cancel, ← HX.out.1, ← HX.out.2]; exact HT2.out, HT.out.2⟩, S2⟩
      | false =>
        have hlt : ¬ cf x y < 0 := of_decide_eq_false hv
        have HT2 := Aside0.mk (hf.2 (by omega))
        clear hf
        go_wp2_with fail
        go_quiet_grown (first | (go_at_fn g; refine Calls.grown_of (hc _ _)))
        have S2 : Aside (SW enc w0 blk off d (grow (wr.drewN nq) osq)) := SK.out.grown nq osq
        clear la lb hc SK
        generalize grow (wr.drewN nq) osq = w2 at S2 ⊢
        clear nq osq
        go_wp2
        go_roundg (h - i)
        case measure => have h1 := HI.out; have h2 := HH.out; clear e2 e3 e4 e5 e6; omega
        case rel => exact ⟨i, h, rfl, rfl, ⟨Nat.le_refl _, HI.out.2.1, HH.out.1, by have h1 := HI.out; have h2 := HH.out; clear e2 e3 e4 e5 e6; omega⟩, ⟨HT.out.1, fun _ => by rw [← HX.out.1, ← HX.out.2]; exact HT2.out⟩, S2⟩
    · obtain rfl : i = j := by have := HI.out; omega
      have HI2 : Aside0 (a ≤ i - 1 ∧ i ≤ b ∧ m ≤ i ∧ i - 1 = a + (i - m) ∧ i - 1 ≤ 1000000) := ⟨by have := HI.out; have := HM.out; have := HB.out; have := HN.out; omega⟩
      have e1 : wrap64 ((i : Int) - 1) = ((i - 1 : Nat) : Int) := w64 (by have := HI.out; have := HM.out; omega) HI2.out.2.2.2.2
      obtain ⟨l, hl⟩ : ∃ l, l = i - 1 := ⟨_, rfl⟩
      rw [← hl] at e1 HI2
      clear c
      go_wp2
      go_loopg [13] (l - a) (fun kx s13 wr => ∃ (k : Nat) (dk : Array α), s13 = .int .i64 (k : Int) ∧ Aside0 (l - k ≤ kx ∧ k ≤ l) ∧ Aside0 (dk.size = d0.size) ∧ Aside (SW enc w0 blk off dk wr) ∧ Aside0 (Up d a (i - m) k dk))
      case atStart => exact ⟨a, d, rfl, ⟨Nat.le_refl _, HI2.out.1⟩, HD, SK, ⟨Up.start d a _⟩⟩
      case round =>
        clear SK
        obtain ⟨k, dk, rfl, HK, HD2, SK, HU⟩ := hrel
        by_cases c : k < l
        · have hd0 : dk.size = d0.size := HD2.out
          have hka : k < dk.size := by have h1 := HI2.out; have h2 := HB.out; clear e1; omega
          have hkb : k + 1 < dk.size := by have h1 := HI2.out; have h2 := HB.out; clear e1; omega
          have HU2 := Aside0.mk (HU.out.step (by have h1 := HI2.out; clear e1; omega))
          have HS2 : Aside0 ((Sort.swp dk k (k + 1)).size = d0.size) := ⟨by rw [Go.Sort.swp_size]; exact hd0⟩
          have hk6 : k + 1 ≤ 1000000 := by have h1 := HI2.out; clear e1; omega
          obtain ⟨x, hx⟩ : ∃ x, x = dk[k]! := ⟨_, rfl⟩
          obtain ⟨y, hy⟩ : ∃ x, x = dk[k + 1]! := ⟨_, rfl⟩
          have S2 : Aside (SW enc w0 blk off (Sort.swp dk k (k + 1)) ((wr.setCell ⟨blk, off + k, none⟩ (enc y)).setCell ⟨blk, off + (k + 1), none⟩ (enc x)).drew) := by rw [hx, hy]; exact SK.out.swapped R _ _ hka hkb
          have ca := SK.out.c1 R hd0 k hka
          have cb1 := SK.out.c1 R hd0 (k + 1) hkb
          have fa := SK.out.f1 R hd0 k hka
          have fb := SK.out.f1 R hd0 (k + 1) hkb
          obtain ⟨u, cc⟩ := SK.out.c2 R hd0 k (k + 1) hka hkb (enc y)
          rw [← hx] at ca
          rw [← hy] at cb1
          have e2 : wrap64 ((k : Int) + 1) = ((k + 1 : Nat) : Int) := w64 rfl hk6
          obtain ⟨q, hq⟩ : ∃ q, q = k + 1 := ⟨_, rfl⟩
          rw [← hq] at S2 cb1 fb cc e2 HU2 HS2 hkb
          have p1 : (0 : Int) ≤ (k : Int) := by omega
          have p2 : (k : Int) < (d0.size : Int) := by omega
          have p3 : (0 : Int) ≤ (q : Int) := by omega
          have p4 : (q : Int) < (d0.size : Int) := by omega
          have HQ : Aside0 (q = k + 1 ∧ k < l) := ⟨hq, c⟩
          clear hx hy SK hka hkb hd0 hq hk6 HU
          go_wp2_with fail
          go_big_region_o
          clear ca cb1 cc fa fb
          generalize ((wr.setCell ⟨blk, off + k, none⟩ (enc y)).setCell ⟨blk, off + q, none⟩ (enc x)).drew = w2 at S2 ⊢
          go_wp2
          go_roundg (l - q)
          case measure => have h1 := HK.out; have h2 := HQ.out; clear e1 e2; omega
          case rel => exact ⟨q, Sort.swp dk k q, by rw [e2], ⟨Nat.le_refl _, by have h2 := HQ.out; clear e1 e2; omega⟩, HS2, S2, HU2⟩
        · obtain rfl : k = l := by have := HK.out; clear e1; omega
          go_wp2
          (try simp only [Exit.inBlock, Exit.then])
          refine bodyPost_ret (results_none rfl _ _ _) rfl ?_
          refine ⟨rfl, i, dk, HI2.out.2.2.1, HI2.out.2.1, HT.out.1, HT.out.2, SK.out, ?_⟩
          have h := HU.out
          rw [HI2.out.2.2.2.1] at h
          exact h.done
set_option maxHeartbeats 4000000 in
set_option maxRecDepth 1000000 in
/-- One element on the right. -/
theorem symMerge2 {α : Type} [Inhabited α] (enc : α → Value) (cf : α → α → Int) (T : α → α → Prop) (g : Nat) (cb : Array Value) (eg : ∀ args w, (callFunc g args).run Try.prog w = .ok (.enter g args) w) (blk off cap : Nat) (d0 : Array α) (w0 : World)
    (hcmp : CmpLays1 Try.prog g cb enc cf blk off d0.size w0) (R : Row1 enc w0 blk off d0) (hsz : d0.size ≤ 1000) (a m b : Nat) (d : Array α) (w : World) (hd : d.size = d0.size) (S0 : SW enc w0 blk off d w) (hm : b = m + 1) (hb : b ≤ d0.size) (hmb : a + 1 < m)
    (hcf : ∀ k, a ≤ k → k < m → (cf d[m]! d[k]! < 0 → T d[m]! d[k]!) ∧ (¬ cf d[m]! d[k]! < 0 → T d[k]! d[m]!)) :
    Calls Try.prog 86 #[.slice (some ⟨blk, off, none⟩) d0.size cap, .int .i64 (a : Int), .int .i64 (m : Int), .int .i64 (b : Int), .func (.func g) #[] cb] w fun e w' => e = .returned (.tuple #[]) ∧
      ∃ i dk, a ≤ i ∧ i ≤ m ∧ (a < i → T d[i - 1]! d[m]!) ∧ (i < m → T d[m]! d[i]!) ∧ SW enc w0 blk off dk w' ∧ ∀ P x R1 R2, d.toList = P ++ R1 ++ x :: R2 → P.length = i → R1.length = m - i → dk.toList = P ++ x :: R1 ++ R2 := by
  have e0 : wrap64 ((m : Int) - (a : Int)) = ((m - a : Nat) : Int) := w64sub m a (by omega) (by omega)
  have n0 : ¬ (((m - a : Nat) : Int) = 1) := by omega
  have e1 : wrap64 ((b : Int) - (m : Int)) = 1 := by subst hm; unfold wrap64; omega
  have hcl0 := R.hO.cells
  simp only [Value.cells] at hcl0
  have hst := R.hO.store Try.prog
  have mixed := Try.insI.mixed
  have SS : Aside (SW enc w0 blk off d w) := S0
  have HC := Aside0.mk hcmp
  have HD := Aside0.mk hd
  have HN := Aside0.mk hsz
  have HM := Aside0.mk hm
  have HB := Aside0.mk hb
  have HMB := Aside0.mk hmb
  have HF := Aside0.mk hcf
  clear S0 hcmp hd hsz hm hb hmb hcf
  go_enter Try.func86, Try.ntmps86
  go_wp2
  go_loopg [14, 15] b (fun kx s14 s15 wr => ∃ (i j : Nat), s14 = .int .i64 (i : Int) ∧ s15 = .int .i64 (j : Int) ∧ Aside0 (j - i ≤ kx ∧ a ≤ i ∧ i ≤ j ∧ j ≤ m) ∧ Aside0 ((a < i → T d[i - 1]! d[m]!) ∧ (j < m → T d[m]! d[j]!)) ∧ Aside (SW enc w0 blk off d wr))
  case atStart => exact ⟨a, m, rfl, rfl, ⟨by have := HM.out; clear e0 e1 n0; omega, Nat.le_refl _, by have := HMB.out; clear e0 e1 n0; omega, Nat.le_refl _⟩, ⟨fun h => absurd h (Nat.lt_irrefl _), fun h => absurd h (Nat.lt_irrefl _)⟩, SS⟩
  case round =>
    clear SS e1 e0 n0
    obtain ⟨i, j, rfl, rfl, HI, HT, SK⟩ := hrel
    by_cases c : i < j
    · obtain ⟨s, h, hh, e2, e3, e4, e5, e6⟩ := half_is i j (by have := HI.out; have := HM.out; have := HB.out; have := HN.out; omega)
      have hi1 : i ≤ h := by omega
      have hj1 : h < j := by omega
      have hd0 : d.size = d0.size := HD.out
      have hhs : h < d.size := by have := HI.out; have := HM.out; have := HB.out; omega
      have has : m < d.size := by have := HM.out; have := HB.out; omega
      have la := SK.out.cl R hd0 m has
      have lb := SK.out.cl R hd0 h hhs
      have hc := SK.out.cmp HC.out hd0 d[m]! d[h]!
      have p1 : (0 : Int) ≤ (h : Int) := by omega
      have p2 : (h : Int) < (d0.size : Int) := by omega
      have p3 : (0 : Int) ≤ (m : Int) := by omega
      have p4 : (m : Int) < (d0.size : Int) := by omega
      have hf := HF.out h (by have := HI.out; omega) (by have := HI.out; omega)
      have HH := Aside0.mk (And.intro hi1 hj1)
      obtain ⟨x, hx⟩ : ∃ x, x = d[m]! := ⟨_, rfl⟩
      obtain ⟨y, hy⟩ : ∃ x, x = d[h]! := ⟨_, rfl⟩
      have HX := Aside0.mk (And.intro hx hy)
      rw [← hx] at la hc hf
      rw [← hy] at lb hc hf
      clear hx hy hh hi1 hj1 hd0 hhs has
      cases hv : decide (cf x y < 0) with
      | true =>
        have hlt : cf x y < 0 := of_decide_eq_true hv
        have HT2 := Aside0.mk (hf.1 hlt)
        clear hf
        go_wp2_with fail
        go_quiet_grown (first | (go_at_fn g; refine Calls.grown_of (hc _ _)))
        have S2 : Aside (SW enc w0 blk off d (grow (wr.drewN nq) osq)) := SK.out.grown nq osq
        clear la lb hc SK
        generalize grow (wr.drewN nq) osq = w2 at S2 ⊢
        clear nq osq
        go_wp2
        go_roundg (h - i)
        case measure => have h1 := HI.out; have h2 := HH.out; clear e2 e3 e4 e5 e6; omega
        case rel => exact ⟨i, h, rfl, rfl, ⟨Nat.le_refl _, HI.out.2.1, HH.out.1, by have h1 := HI.out; have h2 := HH.out; clear e2 e3 e4 e5 e6; omega⟩, ⟨HT.out.1, fun _ => by rw [← HX.out.1, ← HX.out.2]; exact HT2.out⟩, S2⟩
      | false =>
        have hlt : ¬ cf x y < 0 := of_decide_eq_false hv
        have HT2 := Aside0.mk (hf.2 (by omega))
        clear hf
        go_wp2_with fail
        go_quiet_grown (first | (go_at_fn g; refine Calls.grown_of (hc _ _)))
        have S2 : Aside (SW enc w0 blk off d (grow (wr.drewN nq) osq)) := SK.out.grown nq osq
        clear la lb hc SK
        generalize grow (wr.drewN nq) osq = w2 at S2 ⊢
        clear nq osq
        go_wp2
        go_roundg (j - (h + 1))
        case measure => have h1 := HI.out; have h2 := HH.out; clear e2 e3 e4 e5 e6; omega
        case rel => exact ⟨h + 1, j, by rw [e6], rfl, ⟨Nat.le_refl _, by have h1 := HI.out; have h2 := HH.out; clear e2 e3 e4 e5 e6; omega, HH.out.2, HI.out.2.2.2⟩, ⟨fun _ => by rw [Nat.add_sub_cancel, ← HX.out.1, ← HX.out.2]; exact HT2.out, HT.out.2⟩, S2⟩
    · obtain rfl : i = j := by have := HI.out; omega
      have HI2 : Aside0 (i ≤ m ∧ m < d0.size ∧ a ≤ i) := ⟨by have := HI.out; have := HM.out; have := HB.out; omega⟩
      clear c
      go_wp2
      go_loopg [17] (m - i) (fun kx s17 wr => ∃ (k : Nat) (dk : Array α), s17 = .int .i64 (k : Int) ∧ Aside0 (k - i ≤ kx ∧ i ≤ k ∧ k ≤ m) ∧ Aside0 (dk.size = d0.size) ∧ Aside (SW enc w0 blk off dk wr) ∧ Aside0 (Down d i (m - i) (k - i) dk))
      case atStart => exact ⟨m, d, rfl, ⟨Nat.le_refl _, HI2.out.1, Nat.le_refl _⟩, HD, SK, ⟨Down.start d i _⟩⟩
      case round =>
        clear SK
        obtain ⟨k, dk, rfl, HK, HD2, SK, HU⟩ := hrel
        by_cases c : i < k
        · have hd0 : dk.size = d0.size := HD2.out
          obtain ⟨q, hq⟩ : ∃ q, k = q + 1 := ⟨k - 1, by omega⟩
          have hka : k < dk.size := by have h1 := HI2.out; have h2 := HK.out; omega
          have hkb : q < dk.size := by have h1 := HI2.out; have h2 := HK.out; omega
          have HU2 : Aside0 (Down d i (m - i) (q - i) (Sort.swp dk k q)) := by
            have h := HU.out
            rw [show k - i = (q - i) + 1 by omega] at h
            have h2 := h.step
            rw [show i + (q - i) = q by omega, ← hq] at h2
            exact ⟨h2⟩
          have HS2 : Aside0 ((Sort.swp dk k q).size = d0.size) := ⟨by rw [Go.Sort.swp_size]; exact hd0⟩
          have hk6 : q ≤ 1000000 := by have h1 := HI2.out; have h2 := HK.out; have := HN.out; omega
          obtain ⟨x, hx⟩ : ∃ x, x = dk[k]! := ⟨_, rfl⟩
          obtain ⟨y, hy⟩ : ∃ x, x = dk[q]! := ⟨_, rfl⟩
          have S2 : Aside (SW enc w0 blk off (Sort.swp dk k q) ((wr.setCell ⟨blk, off + k, none⟩ (enc y)).setCell ⟨blk, off + q, none⟩ (enc x)).drew) := by rw [hx, hy]; exact SK.out.swapped R _ _ hka hkb
          have ca := SK.out.c1 R hd0 k hka
          have cb1 := SK.out.c1 R hd0 q hkb
          have fa := SK.out.f1 R hd0 k hka
          have fb := SK.out.f1 R hd0 q hkb
          obtain ⟨u, cc⟩ := SK.out.c2 R hd0 k q hka hkb (enc y)
          rw [← hx] at ca
          rw [← hy] at cb1
          have p1 : (0 : Int) ≤ (k : Int) := by omega
          have p2 : (k : Int) < (d0.size : Int) := by omega
          have p3 : (0 : Int) ≤ (q : Int) := by omega
          have p4 : (q : Int) < (d0.size : Int) := by omega
          have HQ : Aside0 (k = q + 1 ∧ i < k) := ⟨hq, c⟩
          have e2 : wrap64 ((k : Int) - 1) = (q : Int) := w64 (by omega) hk6
          clear hx hy SK hka hkb hd0 hq hk6 HU
          go_wp2_with fail
          go_big_region_o
          clear ca cb1 cc fa fb
          generalize ((wr.setCell ⟨blk, off + k, none⟩ (enc y)).setCell ⟨blk, off + q, none⟩ (enc x)).drew = w2 at S2 ⊢
          go_wp2
          go_roundg (q - i)
          case measure => have h1 := HK.out; have h2 := HQ.out; clear e2; omega
          case rel => exact ⟨q, Sort.swp dk k q, by rw [e2], ⟨Nat.le_refl _, by have h2 := HQ.out; clear e2; omega, by have h2 := HQ.out; have h1 := HK.out; clear e2; omega⟩, HS2, S2, HU2⟩
        · obtain rfl : k = i := by have := HK.out; omega
          go_wp2
          (try simp only [Exit.inBlock, Exit.then])
          refine bodyPost_ret (results_none rfl _ _ _) rfl ?_
          refine ⟨rfl, k, dk, HI2.out.2.2, HI2.out.1, HT.out.1, HT.out.2, SK.out, ?_⟩
          have h := HU.out
          rw [Nat.sub_self] at h
          exact h.done
set_option maxHeartbeats 16000000 in
set_option maxRecDepth 1000000 in
theorem symMerge3 {α : Type} [Inhabited α] (enc : α → Value) (cf : α → α → Int) (T : α → α → Prop) (g : Nat) (cb : Array Value) (eg : ∀ args w, (callFunc g args).run Try.prog w = .ok (.enter g args) w) (blk off cap : Nat) (d0 : Array α) (w0 : World)
    (hcmp : CmpLays1 Try.prog g cb enc cf blk off d0.size w0) (R : Row1 enc w0 blk off d0) (hsz : d0.size ≤ 1000) (a m b mid : Nat) (d : Array α) (w : World) (hd : d.size = d0.size) (S0 : SW enc w0 blk off d w) (ha : a + 1 < m) (hm : m + 1 < b) (hb : b ≤ d0.size) (hmid : mid = (a + b) / 2) (hside : mid < m)
    (hcf : ∀ k l, m ≤ k → k < b → a ≤ l → l < m → (cf d[k]! d[l]! < 0 → T d[k]! d[l]!) ∧ (¬ cf d[k]! d[l]! < 0 → T d[l]! d[k]!)) (Q : World → Prop)
    (hfin : ∀ st en, a ≤ st → st ≤ m → m ≤ en → en ≤ b → st + en = mid + m → (a < st → en < b → T d[st - 1]! d[en]!) → (st < m → m < en → T d[en - 1]! d[st]!) → ∃ G1 G2 G3 : World → Prop,
      (st < m → m < en → ∀ w, SW enc w0 blk off d w → Calls Try.prog 97 #[.slice (some ⟨blk, off, none⟩) d0.size cap, .int .i64 (st : Int), .int .i64 (m : Int), .int .i64 (en : Int), .func (.func g) #[] cb] w fun e w' => e = .returned (.tuple #[]) ∧ G1 w') ∧
      (¬ (st < m ∧ m < en) → ∀ w, SW enc w0 blk off d w → G1 w) ∧
      (a < st → st < mid → ∀ w, G1 w → Calls Try.prog 86 #[.slice (some ⟨blk, off, none⟩) d0.size cap, .int .i64 (a : Int), .int .i64 (st : Int), .int .i64 (mid : Int), .func (.func g) #[] cb] w fun e w' => e = .returned (.tuple #[]) ∧ G2 w') ∧
      (¬ (a < st ∧ st < mid) → ∀ w, G1 w → G2 w) ∧
      (mid < en → en < b → ∀ w, G2 w → Calls Try.prog 86 #[.slice (some ⟨blk, off, none⟩) d0.size cap, .int .i64 (mid : Int), .int .i64 (en : Int), .int .i64 (b : Int), .func (.func g) #[] cb] w fun e w' => e = .returned (.tuple #[]) ∧ G3 w') ∧
      (¬ (mid < en ∧ en < b) → ∀ w, G2 w → G3 w) ∧ ∀ w, G3 w → Q w) :
    Calls Try.prog 86 #[.slice (some ⟨blk, off, none⟩) d0.size cap, .int .i64 (a : Int), .int .i64 (m : Int), .int .i64 (b : Int), .func (.func g) #[] cb] w fun e w' => e = .returned (.tuple #[]) ∧ Q w' := by
  have hab : a + b ≤ 1000000 := by omega
  obtain ⟨n, hn⟩ : ∃ n, n = mid + m := ⟨_, rfl⟩
  obtain ⟨p, hp⟩ : ∃ p, n = p + 1 := ⟨n - 1, by omega⟩
  have q1 : a ≤ m := by omega
  have q2 : m ≤ b := by omega
  have q3 : b ≤ 1000000 := by omega
  have q4 : m ≤ 1000000 := by omega
  have q5 : n ≤ 1000000 := by omega
  have q6 : p ≤ 1000000 := by omega
  have n1 : ¬ (((m - a : Nat) : Int) = 1) := by omega
  have n2 : ¬ (((b - m : Nat) : Int) = 1) := by omega
  have q7 : b ≤ n := by omega
  obtain ⟨st0, hst0⟩ : ∃ x, x = n - b := ⟨_, rfl⟩
  have HZ : Aside0 (a ≤ st0 ∧ st0 ≤ mid ∧ mid ≤ m ∧ n = mid + m ∧ n = p + 1 ∧ b ≤ 1000 ∧ m ≤ b ∧ (∀ c, st0 ≤ c → c < mid → m ≤ p - c ∧ p - c < b ∧ c ≤ p) ∧ (∀ st, st0 ≤ st → st ≤ mid → m ≤ n - st ∧ n - st ≤ b ∧ st + (n - st) = mid + m ∧ (a < st → n - st < b → st0 < st) ∧ (st < m → m < n - st → st < mid))) := by
    refine ⟨by omega, by omega, by omega, hn, hp, by omega, by omega, fun c h1 h2 => ⟨by omega, by omega, by omega⟩, fun st h1 h2 => ⟨by omega, by omega, by omega, fun h3 h4 => by omega, fun h3 h4 => by omega⟩⟩
  obtain ⟨s0, mid2, hmid2, f1, f2, f3, f4, _⟩ := half_is a b hab
  rw [← hmid] at hmid2
  rw [hmid2] at f3 f4
  have e1 := w64sub m a q1 q4
  have e2 := w64sub b m q2 q3
  have e3 : wrap64 ((mid : Int) + (m : Int)) = (n : Int) := w64 (by rw [hn]; rfl) q5
  have e4 : wrap64 ((n : Int) - 1) = (p : Int) := w64 (by rw [hp]; simp) q6
  have e5 := w64sub n b q7 q5
  rw [← hst0] at e5
  have hcl0 := R.hO.cells
  simp only [Value.cells] at hcl0
  have hst := R.hO.store Try.prog
  have mixed := Try.insI.mixed
  have SS : Aside (SW enc w0 blk off d w) := S0
  have HC := Aside0.mk hcmp
  have HD := Aside0.mk hd
  have HN := Aside0.mk hsz
  have HB := Aside0.mk hb
  have HF := Aside0.mk hcf
  have HFIN := Aside0.mk hfin
  have HQ5 := Aside0.mk q5
  have HQ6 := Aside0.mk q6
  clear S0 hcmp hd hsz hb hcf hfin ha hm hmid hmid2 hn hp hab q1 q2 q3 q4 q5 q6 q7 hst0
  go_enter Try.func86, Try.ntmps86
  go_wp2
  go_loopg [20, 21] b (fun kx s20 s21 wr => ∃ (i j : Nat), s20 = .int .i64 (i : Int) ∧ s21 = .int .i64 (j : Int) ∧ Aside0 (j - i ≤ kx ∧ st0 ≤ i ∧ i ≤ j ∧ j ≤ mid) ∧ Aside0 ((st0 < i → T d[i - 1]! d[p - (i - 1)]!) ∧ (j < mid → T d[p - j]! d[j]!)) ∧ Aside (SW enc w0 blk off d wr))
  case atStart => exact ⟨st0, mid, by first | rfl | rw [e5], rfl, ⟨by have := HZ.out; clear f1 f2 f3 f4 e1 e2 e3 e4 n1 n2 e5; omega, Nat.le_refl _, HZ.out.2.1, Nat.le_refl _⟩, ⟨fun h => absurd h (Nat.lt_irrefl _), fun h => absurd h (Nat.lt_irrefl _)⟩, SS⟩
  case round =>
    clear SS f1 f2 f3 f4 e1 e2 e3 e4 n1 n2 e5
    obtain ⟨i, j, rfl, rfl, HI, HT, SK⟩ := hrel
    by_cases c : i < j
    · have hi := HI.out
      have hz := HZ.out
      obtain ⟨s, h, hh, e2, e3, e4, e5, e6⟩ := half_is i j (by have := HZ.out; omega)
      have hi1 : i ≤ h := by clear e2 e3 e4 e5 e6; omega
      have hj1 : h < j := by clear e2 e3 e4 e5 e6; omega
      obtain ⟨z1, z2, z3⟩ := hz.2.2.2.2.2.2.2.1 h (Nat.le_trans hi.2.1 hi1) (Nat.lt_of_lt_of_le hj1 hi.2.2.2)
      have hd0 : d.size = d0.size := HD.out
      have hhb := HB.out
      have hhs : h < d.size := by clear e2 e3 e4 e5 e6; omega
      obtain ⟨k, hk⟩ : ∃ k, k = p - h := ⟨_, rfl⟩
      have hks : k < d.size := by clear e2 e3 e4 e5 e6; omega
      have la := SK.out.cl R hd0 k hks
      have lb := SK.out.cl R hd0 h hhs
      have hc := SK.out.cmp HC.out hd0 d[k]! d[h]!
      have p1 : (0 : Int) ≤ (h : Int) := Int.natCast_nonneg _
      have p2 : (h : Int) < (d0.size : Int) := by clear e2 e3 e4 e5 e6; omega
      have p3 : (0 : Int) ≤ (k : Int) := Int.natCast_nonneg _
      have p4 : (k : Int) < (d0.size : Int) := by clear e2 e3 e4 e5 e6; omega
      have hf := HF.out k h (by rw [hk]; exact z1) (by rw [hk]; exact z2) (by clear e2 e3 e4 e5 e6; omega) (by clear e2 e3 e4 e5 e6; omega)
      have HH := Aside0.mk (And.intro hi1 hj1)
      have e7 := w64sub p h z3 HQ6.out
      rw [← hk] at e7
      have e8 := i64sub p h z3 HQ6.out
      rw [← hk] at e8
      obtain ⟨x, hx⟩ : ∃ x, x = d[k]! := ⟨_, rfl⟩
      obtain ⟨y, hy⟩ : ∃ x, x = d[h]! := ⟨_, rfl⟩
      have HX := Aside0.mk (And.intro hx (And.intro hy hk))
      rw [← hx] at la hc hf
      rw [← hy] at lb hc hf
      clear hx hy hh hi1 hj1 hd0 hhs hks hi hz z1 z2 z3 hhb hk
      cases hv : decide (cf x y < 0) with
      | true =>
        have hlt : cf x y < 0 := of_decide_eq_true hv
        have HT2 := Aside0.mk (hf.1 hlt)
        clear hf
        go_wp2_with fail
        go_quiet_grown (first | (go_at_fn g; refine Calls.grown_of (hc _ _)))
        have S2 : Aside (SW enc w0 blk off d (grow (wr.drewN nq) osq)) := SK.out.grown nq osq
        clear la lb hc SK
        generalize grow (wr.drewN nq) osq = w2 at S2 ⊢
        clear nq osq
        go_wp2
        go_roundg (h - i)
        case measure => have h1 := HI.out; have h2 := HH.out; clear e2 e3 e4 e5 e6 e7 e8; omega
        case rel => exact ⟨i, h, rfl, rfl, ⟨Nat.le_refl _, HI.out.2.1, HH.out.1, Nat.le_trans (Nat.le_of_lt HH.out.2) HI.out.2.2.2⟩, ⟨HT.out.1, fun _ => by rw [← HX.out.2.2, ← HX.out.1, ← HX.out.2.1]; exact HT2.out⟩, S2⟩
      | false =>
        have hlt : ¬ cf x y < 0 := of_decide_eq_false hv
        have HT2 := Aside0.mk (hf.2 (by clear e2 e3 e4 e5 e6 e7 e8; omega))
        clear hf
        go_wp2_with fail
        go_quiet_grown (first | (go_at_fn g; refine Calls.grown_of (hc _ _)))
        have S2 : Aside (SW enc w0 blk off d (grow (wr.drewN nq) osq)) := SK.out.grown nq osq
        clear la lb hc SK
        generalize grow (wr.drewN nq) osq = w2 at S2 ⊢
        clear nq osq
        go_wp2
        go_roundg (j - (h + 1))
        case measure => have h1 := HI.out; have h2 := HH.out; clear e2 e3 e4 e5 e6 e7 e8; omega
        case rel => exact ⟨h + 1, j, by rw [e6], rfl, ⟨Nat.le_refl _, Nat.le_trans HI.out.2.1 (Nat.le_succ_of_le HH.out.1), HH.out.2, HI.out.2.2.2⟩, ⟨fun _ => by rw [Nat.add_sub_cancel, ← HX.out.2.2, ← HX.out.1, ← HX.out.2.1]; exact HT2.out, HT.out.2⟩, S2⟩
    · have hi := HI.out
      have hz := HZ.out
      obtain rfl : i = j := by omega
      obtain ⟨z1, z2, z3, z4, z5⟩ := hz.2.2.2.2.2.2.2.2 i hi.2.1 hi.2.2.2
      have hin : i ≤ n := by omega
      have hia : a ≤ i := by omega
      have him : i ≤ m := by omega
      have hpi : p - (i - 1) = n - i ∨ i = 0 := by omega
      have hpi2 : p - i = n - i - 1 := by omega
      obtain ⟨G1, G2, G3, F1, F1', F2, F2', F3, F3', FQ⟩ := HFIN.out i (n - i) hia him z1 z2 z3 (fun h1 h2 => by rcases hpi with h3 | h3; rw [← h3]; exact HT.out.1 (z4 h1 h2); omega) (fun h1 h2 => by rw [← hpi2]; exact HT.out.2 (z5 h1 h2))
      have eqs : (i < mid ↔ m < n - i) ∧ (mid < n - i ↔ i < m) := by omega
      obtain ⟨q1, q2⟩ := eqs
      obtain ⟨en, hen⟩ : ∃ x, x = n - i := ⟨_, rfl⟩
      rw [← hen] at F1 F1' F3 F3' q1 q2
      have e1 := w64sub n i hin HQ5.out
      rw [← hen] at e1
      replace F1 := Aside0.mk F1
      replace F1' := Aside0.mk F1'
      replace F2 := Aside0.mk F2
      replace F2' := Aside0.mk F2'
      replace F3 := Aside0.mk F3
      replace F3' := Aside0.mk F3'
      replace FQ := Aside0.mk FQ
      clear hi hz z1 z2 z3 z4 z5 hin hia him hpi hpi2 hen HZ HI HT HF HD HB HN HC HFIN HQ5 HQ6 hcl0 hst eg R
      by_cases A : i < m
      · have M2 : mid < en := q2.2 A
        by_cases B : m < en
        · have M1 : i < mid := q1.2 B
          clear q1 q2
          by_cases C : a < i
          · by_cases D : en < b
            · go_wp2_with (first | (go_at_call 97; refine (F1.out A B _ SK.out).mono ?_; rintro e w1 ⟨rfl, h1⟩; have HS1 := Aside0.mk h1; clear h1; skip) | (go_at_call 86; refine (F3.out M2 D _ HS2.out).mono ?_; rintro e w3 ⟨rfl, h3⟩; have HS3 := Aside0.mk h3; clear h3) | (go_at_call 86; refine (F2.out C M1 _ HS1.out).mono ?_; rintro e w2 ⟨rfl, h2⟩; have HS2 := Aside0.mk h2; clear h2))
              all_goals (go_end0; exact ⟨rfl, FQ.out _ HS3.out⟩)
            · go_wp2_with (first | (go_at_call 97; refine (F1.out A B _ SK.out).mono ?_; rintro e w1 ⟨rfl, h1⟩; have HS1 := Aside0.mk h1; clear h1; skip) | (go_at_call 86; refine (F2.out C M1 _ HS1.out).mono ?_; rintro e w2 ⟨rfl, h2⟩; have HS2 := Aside0.mk h2; clear h2))
              all_goals (go_end0; exact ⟨rfl, FQ.out _ (F3'.out (by omega) _ HS2.out)⟩)
          · by_cases D : en < b
            · have hc2 : ¬ (a < i ∧ i < mid) := by omega
              go_wp2_with (first | (go_at_call 97; refine (F1.out A B _ SK.out).mono ?_; rintro e w1 ⟨rfl, h1⟩; have HS1 := Aside0.mk h1; clear h1; have HS2 := Aside0.mk (F2'.out hc2 _ HS1.out)) | (go_at_call 86; refine (F3.out M2 D _ HS2.out).mono ?_; rintro e w3 ⟨rfl, h3⟩; have HS3 := Aside0.mk h3; clear h3))
              all_goals (go_end0; exact ⟨rfl, FQ.out _ HS3.out⟩)
            · have hc2 : ¬ (a < i ∧ i < mid) := by omega
              go_wp2_with (first | (go_at_call 97; refine (F1.out A B _ SK.out).mono ?_; rintro e w1 ⟨rfl, h1⟩; have HS1 := Aside0.mk h1; clear h1; have HS2 := Aside0.mk (F2'.out hc2 _ HS1.out)))
              all_goals (go_end0; exact ⟨rfl, FQ.out _ (F3'.out (by omega) _ HS2.out)⟩)
        · have M1 : ¬ i < mid := fun h => B (q1.1 h)
          clear q1 q2
          by_cases C : a < i
          · by_cases D : en < b
            · have HS1 := Aside0.mk (F1'.out (by omega) _ SK.out)
              have HS2 := Aside0.mk (F2'.out (by omega) _ HS1.out)
              have hc2 : ¬ (a < i ∧ i < mid) := by omega
              go_wp2_with (first | (go_at_call 86; refine (F3.out M2 D _ HS2.out).mono ?_; rintro e w3 ⟨rfl, h3⟩; have HS3 := Aside0.mk h3; clear h3))
              all_goals (go_end0; exact ⟨rfl, FQ.out _ HS3.out⟩)
            · have HS1 := Aside0.mk (F1'.out (by omega) _ SK.out)
              have HS2 := Aside0.mk (F2'.out (by omega) _ HS1.out)
              have hc2 : ¬ (a < i ∧ i < mid) := by omega
              go_wp2
              all_goals (go_end0; exact ⟨rfl, FQ.out _ (F3'.out (by omega) _ HS2.out)⟩)
          · by_cases D : en < b
            · have HS1 := Aside0.mk (F1'.out (by omega) _ SK.out)
              have HS2 := Aside0.mk (F2'.out (by omega) _ HS1.out)
              have hc2 : ¬ (a < i ∧ i < mid) := by omega
              go_wp2_with (first | (go_at_call 86; refine (F3.out M2 D _ HS2.out).mono ?_; rintro e w3 ⟨rfl, h3⟩; have HS3 := Aside0.mk h3; clear h3))
              all_goals (go_end0; exact ⟨rfl, FQ.out _ HS3.out⟩)
            · have HS1 := Aside0.mk (F1'.out (by omega) _ SK.out)
              have HS2 := Aside0.mk (F2'.out (by omega) _ HS1.out)
              have hc2 : ¬ (a < i ∧ i < mid) := by omega
              go_wp2
              all_goals (go_end0; exact ⟨rfl, FQ.out _ (F3'.out (by omega) _ HS2.out)⟩)
      · have M2 : ¬ mid < en := fun h => A (q2.1 h)
        by_cases B : m < en
        · have M1 : i < mid := q1.2 B
          clear q1 q2
          by_cases C : a < i
          · by_cases D : en < b
            · have HS1 := Aside0.mk (F1'.out (by omega) _ SK.out)
              go_wp2_with (first | (go_at_call 86; refine (F2.out C M1 _ HS1.out).mono ?_; rintro e w2 ⟨rfl, h2⟩; have HS2 := Aside0.mk h2; clear h2))
              all_goals (go_end0; exact ⟨rfl, FQ.out _ (F3'.out (by omega) _ HS2.out)⟩)
            · have HS1 := Aside0.mk (F1'.out (by omega) _ SK.out)
              go_wp2_with (first | (go_at_call 86; refine (F2.out C M1 _ HS1.out).mono ?_; rintro e w2 ⟨rfl, h2⟩; have HS2 := Aside0.mk h2; clear h2))
              all_goals (go_end0; exact ⟨rfl, FQ.out _ (F3'.out (by omega) _ HS2.out)⟩)
          · by_cases D : en < b
            · have HS1 := Aside0.mk (F1'.out (by omega) _ SK.out)
              have HS2 := Aside0.mk (F2'.out (by omega) _ HS1.out)
              have hc2 : ¬ (a < i ∧ i < mid) := by omega
              go_wp2
              all_goals (go_end0; exact ⟨rfl, FQ.out _ (F3'.out (by omega) _ HS2.out)⟩)
            · have HS1 := Aside0.mk (F1'.out (by omega) _ SK.out)
              have HS2 := Aside0.mk (F2'.out (by omega) _ HS1.out)
              have hc2 : ¬ (a < i ∧ i < mid) := by omega
              go_wp2
              all_goals (go_end0; exact ⟨rfl, FQ.out _ (F3'.out (by omega) _ HS2.out)⟩)
        · have M1 : ¬ i < mid := fun h => B (q1.1 h)
          clear q1 q2
          by_cases C : a < i
          · by_cases D : en < b
            · have HS1 := Aside0.mk (F1'.out (by omega) _ SK.out)
              have HS2 := Aside0.mk (F2'.out (by omega) _ HS1.out)
              have hc2 : ¬ (a < i ∧ i < mid) := by omega
              go_wp2
              all_goals (go_end0; exact ⟨rfl, FQ.out _ (F3'.out (by omega) _ HS2.out)⟩)
            · have HS1 := Aside0.mk (F1'.out (by omega) _ SK.out)
              have HS2 := Aside0.mk (F2'.out (by omega) _ HS1.out)
              have hc2 : ¬ (a < i ∧ i < mid) := by omega
              go_wp2
              all_goals (go_end0; exact ⟨rfl, FQ.out _ (F3'.out (by omega) _ HS2.out)⟩)
          · by_cases D : en < b
            · have HS1 := Aside0.mk (F1'.out (by omega) _ SK.out)
              have HS2 := Aside0.mk (F2'.out (by omega) _ HS1.out)
              have hc2 : ¬ (a < i ∧ i < mid) := by omega
              go_wp2
              all_goals (go_end0; exact ⟨rfl, FQ.out _ (F3'.out (by omega) _ HS2.out)⟩)
            · have HS1 := Aside0.mk (F1'.out (by omega) _ SK.out)
              have HS2 := Aside0.mk (F2'.out (by omega) _ HS1.out)
              have hc2 : ¬ (a < i ∧ i < mid) := by omega
              go_wp2
              all_goals (go_end0; exact ⟨rfl, FQ.out _ (F3'.out (by omega) _ HS2.out)⟩)
set_option maxHeartbeats 16000000 in
set_option maxRecDepth 1000000 in
theorem symMerge4 {α : Type} [Inhabited α] (enc : α → Value) (cf : α → α → Int) (T : α → α → Prop) (g : Nat) (cb : Array Value) (eg : ∀ args w, (callFunc g args).run Try.prog w = .ok (.enter g args) w) (blk off cap : Nat) (d0 : Array α) (w0 : World)
    (hcmp : CmpLays1 Try.prog g cb enc cf blk off d0.size w0) (R : Row1 enc w0 blk off d0) (hsz : d0.size ≤ 1000) (a m b mid : Nat) (d : Array α) (w : World) (hd : d.size = d0.size) (S0 : SW enc w0 blk off d w) (ha : a + 1 < m) (hm : m + 1 < b) (hb : b ≤ d0.size) (hmid : mid = (a + b) / 2) (hside : ¬ mid < m)
    (hcf : ∀ k l, m ≤ k → k < b → a ≤ l → l < m → (cf d[k]! d[l]! < 0 → T d[k]! d[l]!) ∧ (¬ cf d[k]! d[l]! < 0 → T d[l]! d[k]!)) (Q : World → Prop)
    (hfin : ∀ st en, a ≤ st → st ≤ m → m ≤ en → en ≤ b → st + en = mid + m → (a < st → en < b → T d[st - 1]! d[en]!) → (st < m → m < en → T d[en - 1]! d[st]!) → ∃ G1 G2 G3 : World → Prop,
      (st < m → m < en → ∀ w, SW enc w0 blk off d w → Calls Try.prog 97 #[.slice (some ⟨blk, off, none⟩) d0.size cap, .int .i64 (st : Int), .int .i64 (m : Int), .int .i64 (en : Int), .func (.func g) #[] cb] w fun e w' => e = .returned (.tuple #[]) ∧ G1 w') ∧
      (¬ (st < m ∧ m < en) → ∀ w, SW enc w0 blk off d w → G1 w) ∧
      (a < st → st < mid → ∀ w, G1 w → Calls Try.prog 86 #[.slice (some ⟨blk, off, none⟩) d0.size cap, .int .i64 (a : Int), .int .i64 (st : Int), .int .i64 (mid : Int), .func (.func g) #[] cb] w fun e w' => e = .returned (.tuple #[]) ∧ G2 w') ∧
      (¬ (a < st ∧ st < mid) → ∀ w, G1 w → G2 w) ∧
      (mid < en → en < b → ∀ w, G2 w → Calls Try.prog 86 #[.slice (some ⟨blk, off, none⟩) d0.size cap, .int .i64 (mid : Int), .int .i64 (en : Int), .int .i64 (b : Int), .func (.func g) #[] cb] w fun e w' => e = .returned (.tuple #[]) ∧ G3 w') ∧
      (¬ (mid < en ∧ en < b) → ∀ w, G2 w → G3 w) ∧ ∀ w, G3 w → Q w) :
    Calls Try.prog 86 #[.slice (some ⟨blk, off, none⟩) d0.size cap, .int .i64 (a : Int), .int .i64 (m : Int), .int .i64 (b : Int), .func (.func g) #[] cb] w fun e w' => e = .returned (.tuple #[]) ∧ Q w' := by
  have hab : a + b ≤ 1000000 := by omega
  obtain ⟨n, hn⟩ : ∃ n, n = mid + m := ⟨_, rfl⟩
  obtain ⟨p, hp⟩ : ∃ p, n = p + 1 := ⟨n - 1, by omega⟩
  have q1 : a ≤ m := by omega
  have q2 : m ≤ b := by omega
  have q3 : b ≤ 1000000 := by omega
  have q4 : m ≤ 1000000 := by omega
  have q5 : n ≤ 1000000 := by omega
  have q6 : p ≤ 1000000 := by omega
  have n1 : ¬ (((m - a : Nat) : Int) = 1) := by omega
  have n2 : ¬ (((b - m : Nat) : Int) = 1) := by omega
  have HZ : Aside0 (a ≤ a ∧ a ≤ m ∧ m ≤ m ∧ n = mid + m ∧ n = p + 1 ∧ b ≤ 1000 ∧ m ≤ b ∧ (∀ c, a ≤ c → c < m → m ≤ p - c ∧ p - c < b ∧ c ≤ p) ∧ (∀ st, a ≤ st → st ≤ m → m ≤ n - st ∧ n - st ≤ b ∧ st + (n - st) = mid + m ∧ (a < st → n - st < b → a < st) ∧ (st < m → m < n - st → st < m))) := by
    refine ⟨by omega, by omega, by omega, hn, hp, by omega, by omega, fun c h1 h2 => ⟨by omega, by omega, by omega⟩, fun st h1 h2 => ⟨by omega, by omega, by omega, fun h3 h4 => by omega, fun h3 h4 => by omega⟩⟩
  obtain ⟨s0, mid2, hmid2, f1, f2, f3, f4, _⟩ := half_is a b hab
  rw [← hmid] at hmid2
  rw [hmid2] at f3 f4
  have e1 := w64sub m a q1 q4
  have e2 := w64sub b m q2 q3
  have e3 : wrap64 ((mid : Int) + (m : Int)) = (n : Int) := w64 (by rw [hn]; rfl) q5
  have e4 : wrap64 ((n : Int) - 1) = (p : Int) := w64 (by rw [hp]; simp) q6
  have hcl0 := R.hO.cells
  simp only [Value.cells] at hcl0
  have hst := R.hO.store Try.prog
  have mixed := Try.insI.mixed
  have SS : Aside (SW enc w0 blk off d w) := S0
  have HC := Aside0.mk hcmp
  have HD := Aside0.mk hd
  have HN := Aside0.mk hsz
  have HB := Aside0.mk hb
  have HF := Aside0.mk hcf
  have HFIN := Aside0.mk hfin
  have HQ5 := Aside0.mk q5
  have HQ6 := Aside0.mk q6
  clear S0 hcmp hd hsz hb hcf hfin ha hm hmid hmid2 hn hp hab q1 q2 q3 q4 q5 q6
  go_enter Try.func86, Try.ntmps86
  go_wp2
  go_loopg [20, 21] b (fun kx s20 s21 wr => ∃ (i j : Nat), s20 = .int .i64 (i : Int) ∧ s21 = .int .i64 (j : Int) ∧ Aside0 (j - i ≤ kx ∧ a ≤ i ∧ i ≤ j ∧ j ≤ m) ∧ Aside0 ((a < i → T d[i - 1]! d[p - (i - 1)]!) ∧ (j < m → T d[p - j]! d[j]!)) ∧ Aside (SW enc w0 blk off d wr))
  case atStart => exact ⟨a, m, by first | rfl | rw [e5], rfl, ⟨by have := HZ.out; clear f1 f2 f3 f4 e1 e2 e3 e4 n1 n2; omega, Nat.le_refl _, HZ.out.2.1, Nat.le_refl _⟩, ⟨fun h => absurd h (Nat.lt_irrefl _), fun h => absurd h (Nat.lt_irrefl _)⟩, SS⟩
  case round =>
    clear SS f1 f2 f3 f4 e1 e2 e3 e4 n1 n2
    obtain ⟨i, j, rfl, rfl, HI, HT, SK⟩ := hrel
    by_cases c : i < j
    · have hi := HI.out
      have hz := HZ.out
      obtain ⟨s, h, hh, e2, e3, e4, e5, e6⟩ := half_is i j (by have := HZ.out; omega)
      have hi1 : i ≤ h := by clear e2 e3 e4 e5 e6; omega
      have hj1 : h < j := by clear e2 e3 e4 e5 e6; omega
      obtain ⟨z1, z2, z3⟩ := hz.2.2.2.2.2.2.2.1 h (Nat.le_trans hi.2.1 hi1) (Nat.lt_of_lt_of_le hj1 hi.2.2.2)
      have hd0 : d.size = d0.size := HD.out
      have hhb := HB.out
      have hhs : h < d.size := by clear e2 e3 e4 e5 e6; omega
      obtain ⟨k, hk⟩ : ∃ k, k = p - h := ⟨_, rfl⟩
      have hks : k < d.size := by clear e2 e3 e4 e5 e6; omega
      have la := SK.out.cl R hd0 k hks
      have lb := SK.out.cl R hd0 h hhs
      have hc := SK.out.cmp HC.out hd0 d[k]! d[h]!
      have p1 : (0 : Int) ≤ (h : Int) := Int.natCast_nonneg _
      have p2 : (h : Int) < (d0.size : Int) := by clear e2 e3 e4 e5 e6; omega
      have p3 : (0 : Int) ≤ (k : Int) := Int.natCast_nonneg _
      have p4 : (k : Int) < (d0.size : Int) := by clear e2 e3 e4 e5 e6; omega
      have hf := HF.out k h (by rw [hk]; exact z1) (by rw [hk]; exact z2) (by clear e2 e3 e4 e5 e6; omega) (by clear e2 e3 e4 e5 e6; omega)
      have HH := Aside0.mk (And.intro hi1 hj1)
      have e7 := w64sub p h z3 HQ6.out
      rw [← hk] at e7
      have e8 := i64sub p h z3 HQ6.out
      rw [← hk] at e8
      obtain ⟨x, hx⟩ : ∃ x, x = d[k]! := ⟨_, rfl⟩
      obtain ⟨y, hy⟩ : ∃ x, x = d[h]! := ⟨_, rfl⟩
      have HX := Aside0.mk (And.intro hx (And.intro hy hk))
      rw [← hx] at la hc hf
      rw [← hy] at lb hc hf
      clear hx hy hh hi1 hj1 hd0 hhs hks hi hz z1 z2 z3 hhb hk
      cases hv : decide (cf x y < 0) with
      | true =>
        have hlt : cf x y < 0 := of_decide_eq_true hv
        have HT2 := Aside0.mk (hf.1 hlt)
        clear hf
        go_wp2_with fail
        go_quiet_grown (first | (go_at_fn g; refine Calls.grown_of (hc _ _)))
        have S2 : Aside (SW enc w0 blk off d (grow (wr.drewN nq) osq)) := SK.out.grown nq osq
        clear la lb hc SK
        generalize grow (wr.drewN nq) osq = w2 at S2 ⊢
        clear nq osq
        go_wp2
        go_roundg (h - i)
        case measure => have h1 := HI.out; have h2 := HH.out; clear e2 e3 e4 e5 e6 e7 e8; omega
        case rel => exact ⟨i, h, rfl, rfl, ⟨Nat.le_refl _, HI.out.2.1, HH.out.1, Nat.le_trans (Nat.le_of_lt HH.out.2) HI.out.2.2.2⟩, ⟨HT.out.1, fun _ => by rw [← HX.out.2.2, ← HX.out.1, ← HX.out.2.1]; exact HT2.out⟩, S2⟩
      | false =>
        have hlt : ¬ cf x y < 0 := of_decide_eq_false hv
        have HT2 := Aside0.mk (hf.2 (by clear e2 e3 e4 e5 e6 e7 e8; omega))
        clear hf
        go_wp2_with fail
        go_quiet_grown (first | (go_at_fn g; refine Calls.grown_of (hc _ _)))
        have S2 : Aside (SW enc w0 blk off d (grow (wr.drewN nq) osq)) := SK.out.grown nq osq
        clear la lb hc SK
        generalize grow (wr.drewN nq) osq = w2 at S2 ⊢
        clear nq osq
        go_wp2
        go_roundg (j - (h + 1))
        case measure => have h1 := HI.out; have h2 := HH.out; clear e2 e3 e4 e5 e6 e7 e8; omega
        case rel => exact ⟨h + 1, j, by rw [e6], rfl, ⟨Nat.le_refl _, Nat.le_trans HI.out.2.1 (Nat.le_succ_of_le HH.out.1), HH.out.2, HI.out.2.2.2⟩, ⟨fun _ => by rw [Nat.add_sub_cancel, ← HX.out.2.2, ← HX.out.1, ← HX.out.2.1]; exact HT2.out, HT.out.2⟩, S2⟩
    · have hi := HI.out
      have hz := HZ.out
      obtain rfl : i = j := by omega
      obtain ⟨z1, z2, z3, z4, z5⟩ := hz.2.2.2.2.2.2.2.2 i hi.2.1 hi.2.2.2
      have hin : i ≤ n := by omega
      have hia : a ≤ i := by omega
      have him : i ≤ m := by omega
      have hpi : p - (i - 1) = n - i ∨ i = 0 := by omega
      have hpi2 : p - i = n - i - 1 := by omega
      obtain ⟨G1, G2, G3, F1, F1', F2, F2', F3, F3', FQ⟩ := HFIN.out i (n - i) hia him z1 z2 z3 (fun h1 h2 => by rcases hpi with h3 | h3; rw [← h3]; exact HT.out.1 (z4 h1 h2); omega) (fun h1 h2 => by rw [← hpi2]; exact HT.out.2 (z5 h1 h2))
      have eqs : (i < mid ↔ m < n - i) ∧ (mid < n - i ↔ i < m) := by omega
      obtain ⟨q1, q2⟩ := eqs
      obtain ⟨en, hen⟩ : ∃ x, x = n - i := ⟨_, rfl⟩
      rw [← hen] at F1 F1' F3 F3' q1 q2
      have e1 := w64sub n i hin HQ5.out
      rw [← hen] at e1
      replace F1 := Aside0.mk F1
      replace F1' := Aside0.mk F1'
      replace F2 := Aside0.mk F2
      replace F2' := Aside0.mk F2'
      replace F3 := Aside0.mk F3
      replace F3' := Aside0.mk F3'
      replace FQ := Aside0.mk FQ
      clear hi hz z1 z2 z3 z4 z5 hin hia him hpi hpi2 hen HZ HI HT HF HD HB HN HC HFIN HQ5 HQ6 hcl0 hst eg R
      by_cases A : i < m
      · have M2 : mid < en := q2.2 A
        by_cases B : m < en
        · have M1 : i < mid := q1.2 B
          clear q1 q2
          by_cases C : a < i
          · by_cases D : en < b
            · go_wp2_with (first | (go_at_call 97; refine (F1.out A B _ SK.out).mono ?_; rintro e w1 ⟨rfl, h1⟩; have HS1 := Aside0.mk h1; clear h1; skip) | (go_at_call 86; refine (F3.out M2 D _ HS2.out).mono ?_; rintro e w3 ⟨rfl, h3⟩; have HS3 := Aside0.mk h3; clear h3) | (go_at_call 86; refine (F2.out C M1 _ HS1.out).mono ?_; rintro e w2 ⟨rfl, h2⟩; have HS2 := Aside0.mk h2; clear h2))
              all_goals (go_end0; exact ⟨rfl, FQ.out _ HS3.out⟩)
            · go_wp2_with (first | (go_at_call 97; refine (F1.out A B _ SK.out).mono ?_; rintro e w1 ⟨rfl, h1⟩; have HS1 := Aside0.mk h1; clear h1; skip) | (go_at_call 86; refine (F2.out C M1 _ HS1.out).mono ?_; rintro e w2 ⟨rfl, h2⟩; have HS2 := Aside0.mk h2; clear h2))
              all_goals (go_end0; exact ⟨rfl, FQ.out _ (F3'.out (by omega) _ HS2.out)⟩)
          · by_cases D : en < b
            · have hc2 : ¬ (a < i ∧ i < mid) := by omega
              go_wp2_with (first | (go_at_call 97; refine (F1.out A B _ SK.out).mono ?_; rintro e w1 ⟨rfl, h1⟩; have HS1 := Aside0.mk h1; clear h1; have HS2 := Aside0.mk (F2'.out hc2 _ HS1.out)) | (go_at_call 86; refine (F3.out M2 D _ HS2.out).mono ?_; rintro e w3 ⟨rfl, h3⟩; have HS3 := Aside0.mk h3; clear h3))
              all_goals (go_end0; exact ⟨rfl, FQ.out _ HS3.out⟩)
            · have hc2 : ¬ (a < i ∧ i < mid) := by omega
              go_wp2_with (first | (go_at_call 97; refine (F1.out A B _ SK.out).mono ?_; rintro e w1 ⟨rfl, h1⟩; have HS1 := Aside0.mk h1; clear h1; have HS2 := Aside0.mk (F2'.out hc2 _ HS1.out)))
              all_goals (go_end0; exact ⟨rfl, FQ.out _ (F3'.out (by omega) _ HS2.out)⟩)
        · have M1 : ¬ i < mid := fun h => B (q1.1 h)
          clear q1 q2
          by_cases C : a < i
          · by_cases D : en < b
            · have HS1 := Aside0.mk (F1'.out (by omega) _ SK.out)
              have HS2 := Aside0.mk (F2'.out (by omega) _ HS1.out)
              have hc2 : ¬ (a < i ∧ i < mid) := by omega
              go_wp2_with (first | (go_at_call 86; refine (F3.out M2 D _ HS2.out).mono ?_; rintro e w3 ⟨rfl, h3⟩; have HS3 := Aside0.mk h3; clear h3))
              all_goals (go_end0; exact ⟨rfl, FQ.out _ HS3.out⟩)
            · have HS1 := Aside0.mk (F1'.out (by omega) _ SK.out)
              have HS2 := Aside0.mk (F2'.out (by omega) _ HS1.out)
              have hc2 : ¬ (a < i ∧ i < mid) := by omega
              go_wp2
              all_goals (go_end0; exact ⟨rfl, FQ.out _ (F3'.out (by omega) _ HS2.out)⟩)
          · by_cases D : en < b
            · have HS1 := Aside0.mk (F1'.out (by omega) _ SK.out)
              have HS2 := Aside0.mk (F2'.out (by omega) _ HS1.out)
              have hc2 : ¬ (a < i ∧ i < mid) := by omega
              go_wp2_with (first | (go_at_call 86; refine (F3.out M2 D _ HS2.out).mono ?_; rintro e w3 ⟨rfl, h3⟩; have HS3 := Aside0.mk h3; clear h3))
              all_goals (go_end0; exact ⟨rfl, FQ.out _ HS3.out⟩)
            · have HS1 := Aside0.mk (F1'.out (by omega) _ SK.out)
              have HS2 := Aside0.mk (F2'.out (by omega) _ HS1.out)
              have hc2 : ¬ (a < i ∧ i < mid) := by omega
              go_wp2
              all_goals (go_end0; exact ⟨rfl, FQ.out _ (F3'.out (by omega) _ HS2.out)⟩)
      · have M2 : ¬ mid < en := fun h => A (q2.1 h)
        by_cases B : m < en
        · have M1 : i < mid := q1.2 B
          clear q1 q2
          by_cases C : a < i
          · by_cases D : en < b
            · have HS1 := Aside0.mk (F1'.out (by omega) _ SK.out)
              go_wp2_with (first | (go_at_call 86; refine (F2.out C M1 _ HS1.out).mono ?_; rintro e w2 ⟨rfl, h2⟩; have HS2 := Aside0.mk h2; clear h2))
              all_goals (go_end0; exact ⟨rfl, FQ.out _ (F3'.out (by omega) _ HS2.out)⟩)
            · have HS1 := Aside0.mk (F1'.out (by omega) _ SK.out)
              go_wp2_with (first | (go_at_call 86; refine (F2.out C M1 _ HS1.out).mono ?_; rintro e w2 ⟨rfl, h2⟩; have HS2 := Aside0.mk h2; clear h2))
              all_goals (go_end0; exact ⟨rfl, FQ.out _ (F3'.out (by omega) _ HS2.out)⟩)
          · by_cases D : en < b
            · have HS1 := Aside0.mk (F1'.out (by omega) _ SK.out)
              have HS2 := Aside0.mk (F2'.out (by omega) _ HS1.out)
              have hc2 : ¬ (a < i ∧ i < mid) := by omega
              go_wp2
              all_goals (go_end0; exact ⟨rfl, FQ.out _ (F3'.out (by omega) _ HS2.out)⟩)
            · have HS1 := Aside0.mk (F1'.out (by omega) _ SK.out)
              have HS2 := Aside0.mk (F2'.out (by omega) _ HS1.out)
              have hc2 : ¬ (a < i ∧ i < mid) := by omega
              go_wp2
              all_goals (go_end0; exact ⟨rfl, FQ.out _ (F3'.out (by omega) _ HS2.out)⟩)
        · have M1 : ¬ i < mid := fun h => B (q1.1 h)
          clear q1 q2
          by_cases C : a < i
          · by_cases D : en < b
            · have HS1 := Aside0.mk (F1'.out (by omega) _ SK.out)
              have HS2 := Aside0.mk (F2'.out (by omega) _ HS1.out)
              have hc2 : ¬ (a < i ∧ i < mid) := by omega
              go_wp2
              all_goals (go_end0; exact ⟨rfl, FQ.out _ (F3'.out (by omega) _ HS2.out)⟩)
            · have HS1 := Aside0.mk (F1'.out (by omega) _ SK.out)
              have HS2 := Aside0.mk (F2'.out (by omega) _ HS1.out)
              have hc2 : ¬ (a < i ∧ i < mid) := by omega
              go_wp2
              all_goals (go_end0; exact ⟨rfl, FQ.out _ (F3'.out (by omega) _ HS2.out)⟩)
          · by_cases D : en < b
            · have HS1 := Aside0.mk (F1'.out (by omega) _ SK.out)
              have HS2 := Aside0.mk (F2'.out (by omega) _ HS1.out)
              have hc2 : ¬ (a < i ∧ i < mid) := by omega
              go_wp2
              all_goals (go_end0; exact ⟨rfl, FQ.out _ (F3'.out (by omega) _ HS2.out)⟩)
            · have HS1 := Aside0.mk (F1'.out (by omega) _ SK.out)
              have HS2 := Aside0.mk (F2'.out (by omega) _ HS1.out)
              have hc2 : ¬ (a < i ∧ i < mid) := by omega
              go_wp2
              all_goals (go_end0; exact ⟨rfl, FQ.out _ (F3'.out (by omega) _ HS2.out)⟩)

theorem le_of_last {α : Type} {T : α → α → Prop} (hT : ∀ x y z, T x y → T y z → T x z) (y : α) : ∀ R : List α, R.Pairwise T → (∀ R1 z, R = R1 ++ [z] → T z y) → ∀ x ∈ R, T x y := by
  intro R hp h x hx
  rcases List.eq_nil_or_concat R with rfl | ⟨R1, z, rfl⟩
  · simp at hx
  · have hz := h R1 z (by simp)
    rw [List.concat_eq_append] at hx hp
    rw [List.mem_append] at hx
    rcases hx with hx | hx
    · exact hT _ _ _ ((List.pairwise_append.1 hp).2.2 x hx z (by simp)) hz
    · obtain rfl : x = z := by simpa using hx
      exact hz
theorem ge_of_head {α : Type} {T : α → α → Prop} (hT : ∀ x y z, T x y → T y z → T x z) (x : α) : ∀ R : List α, R.Pairwise T → (∀ z R1, R = z :: R1 → T x z) → ∀ y ∈ R, T x y := by
  intro R hp h y hy
  cases R with
  | nil => simp at hy
  | cons z R1 =>
    have hz := h z R1 rfl
    rcases List.mem_cons.1 hy with rfl | hy
    · exact hz
    · exact hT _ _ _ hz ((List.pairwise_cons.1 hp).1 y hy)
theorem get_mid {α : Type} [Inhabited α] {d : Array α} {p q : List α} {x : α} {k : Nat} (h : d.toList = p ++ x :: q) (hk : k = p.length) : d[k]! = x := by
  subst hk
  exact get_at d p q x h
/-- What a merge leaves. -/
def Merged {α : Type} [Inhabited α] (enc : α → Value) (w0 : World) (blk off : Nat) (T : α → α → Prop) (P L S : List α) (w : World) : Prop := ∃ dk M, SW enc w0 blk off dk w ∧ dk.toList = P ++ M ++ S ∧ M.Perm L ∧ M.Pairwise T
set_option maxHeartbeats 8000000 in
theorem symMerge {α : Type} [Inhabited α] (enc : α → Value) (cf : α → α → Int) (T : α → α → Prop) (hT : ∀ x y z, T x y → T y z → T x z) (g : Nat) (cb : Array Value) (eg : ∀ args w, (callFunc g args).run Try.prog w = .ok (.enter g args) w) (blk off cap : Nat) (d0 : Array α) (w0 : World)
    (hcmp : CmpLays1 Try.prog g cb enc cf blk off d0.size w0) (R : Row1 enc w0 blk off d0) (hsz : d0.size ≤ 1000) : ∀ (N a m b : Nat) (d : Array α) (w : World) (P A B S : List α), b - a ≤ N → d.toList = P ++ A ++ B ++ S → a = P.length → m = P.length + A.length → b = P.length + A.length + B.length →
    A ≠ [] → B ≠ [] → A.Pairwise T → B.Pairwise T → (∀ x ∈ B, ∀ y ∈ A, (cf x y < 0 → T x y) ∧ (¬ cf x y < 0 → T y x)) → d.size = d0.size → SW enc w0 blk off d w →
    Calls Try.prog 86 #[.slice (some ⟨blk, off, none⟩) d0.size cap, .int .i64 (a : Int), .int .i64 (m : Int), .int .i64 (b : Int), .func (.func g) #[] cb] w fun e w' => e = .returned (.tuple #[]) ∧ Merged enc w0 blk off T P (A ++ B) S w'
  | 0, a, m, b, d, w, P, A, B, S, hN, hd, ha, hm, hb, hA, hB, _, _, _, _, _ => by
    have := List.length_pos_iff.2 hA
    omega
  | N + 1, a, m, b, d, w, P, A, B, S, hN, hd, ha, hm, hb, hA, hB, pA, pB, hcf, hds, S0 => by
    have hA0 := List.length_pos_iff.2 hA
    have hB0 := List.length_pos_iff.2 hB
    have hl := rot_lens hd
    by_cases c1 : m = a + 1
    · obtain ⟨x, rfl⟩ : ∃ x, A = [x] := by
        match A, hA, (show A.length = 1 by omega) with
        | [x], _, _ => exact ⟨x, rfl⟩
      have hx : d[a]! = x := get_mid (p := P) (q := B ++ S) (by rw [hd]; simp) ha
      have hk : ∀ k, m ≤ k → k < b → d[k]! ∈ B := by
        intro k h1 h2
        have h3 := get_of_list hd k (by simp; simp at hm hb; omega)
        rw [h3, List.getElem_append_left (by simp; simp at hm hb; omega), List.getElem_append_right (by simp; simp at hm hb; omega)]
        exact List.getElem_mem _
      refine (symMerge1 enc cf T g cb eg blk off cap d0 w0 hcmp R hsz a m b d w hds S0 c1 (by omega) (by omega) (fun k h1 h2 => by rw [hx]; exact hcf _ (hk k h1 h2) x (by simp))).mono ?_
      rintro e w' ⟨he, i, dk, h1, h2, h3, h4, hS, h5⟩
      rw [hx] at h3 h4
      obtain ⟨R1, R2, rfl, hR1, hR2⟩ := take_two B (i - m) (by omega)
      have h6 := h5 P x R1 (R2 ++ S) (by rw [hd]; simp) ha.symm (by omega)
      refine ⟨he, dk, R1 ++ x :: R2, hS, by rw [h6]; simp, ?_, ?_⟩
      · exact List.perm_middle
      · obtain ⟨p1, p2, p3⟩ := List.pairwise_append.1 pB
        have q1 : ∀ y ∈ R1, T y x := le_of_last hT x R1 p1 (fun R3 z hz => by
          subst hz
          have h7 : d[i - 1]! = z := get_mid (p := P ++ [x] ++ R3) (q := R2 ++ S) (by rw [hd]; simp) (by simp; simp at hR1 hm; omega)
          rw [← h7]
          exact h3 (by simp at hR1; omega))
        have q2 : ∀ y ∈ R2, T x y := ge_of_head hT x R2 p2 (fun z R3 hz => by
          subst hz
          have h7 : d[i]! = z := get_mid (p := P ++ [x] ++ R1) (q := R3 ++ S) (by rw [hd]; simp) (by simp; simp at hR1 hm; omega)
          rw [← h7]
          exact h4 (by simp at hR2 hb hm; omega))
        rw [List.pairwise_append]
        refine ⟨p1, List.pairwise_cons.2 ⟨q2, p2⟩, fun u hu v hv => ?_⟩
        rcases List.mem_cons.1 hv with rfl | hv
        · exact q1 u hu
        · exact p3 u hu v hv
    · have hkB : ∀ k, m ≤ k → k < b → d[k]! ∈ B := by
        intro k h1 h2
        have h3 := get_of_list hd k (by simp; omega)
        rw [h3, List.getElem_append_left (by simp; omega), List.getElem_append_right (by simp; omega)]
        exact List.getElem_mem _
      have hkA : ∀ k, a ≤ k → k < m → d[k]! ∈ A := by
        intro k h1 h2
        have h3 := get_of_list hd k (by simp; omega)
        rw [h3, List.getElem_append_left (by simp; omega), List.getElem_append_left (by simp; omega), List.getElem_append_right (by omega)]
        exact List.getElem_mem _
      by_cases c2 : b = m + 1
      · obtain ⟨x, rfl⟩ : ∃ x, B = [x] := by
          match B, hB, (show B.length = 1 by omega) with
          | [x], _, _ => exact ⟨x, rfl⟩
        have hx : d[m]! = x := get_mid (p := P ++ A) (q := S) (by rw [hd]; simp) (by simp; exact hm)
        refine (symMerge2 enc cf T g cb eg blk off cap d0 w0 hcmp R hsz a m b d w hds S0 c2 (by omega) (by omega) (fun k h1 h2 => by rw [hx]; exact hcf x (by simp) _ (hkA k h1 h2))).mono ?_
        rintro e w' ⟨he, i, dk, h1, h2, h3, h4, hS, h5⟩
        rw [hx] at h3 h4
        obtain ⟨A1, A2, rfl, hA1, hA2⟩ := take_two A (i - a) (by omega)
        have hm' : m = P.length + (A1.length + A2.length) := by simpa using hm
        have h6 := h5 (P ++ A1) x A2 S (by rw [hd]; simp) (by simp; omega) (by omega)
        refine ⟨he, dk, A1 ++ x :: A2, hS, by rw [h6]; simp, ?_, ?_⟩
        · exact List.perm_middle.trans (by rw [← List.singleton_append]; exact List.perm_append_comm)
        · obtain ⟨p1, p2, p3⟩ := List.pairwise_append.1 pA
          have q1 : ∀ y ∈ A1, T y x := le_of_last hT x A1 p1 (fun R3 z hz => by
            subst hz
            have h7 : d[i - 1]! = z := get_mid (p := P ++ R3) (q := A2 ++ [x] ++ S) (by rw [hd]; simp) (by simp; simp at hA1; omega)
            rw [← h7]
            exact h3 (by simp at hA1; omega))
          have q2 : ∀ y ∈ A2, T x y := ge_of_head hT x A2 p2 (fun z R3 hz => by
            subst hz
            have h7 : d[i]! = z := get_mid (p := P ++ A1) (q := R3 ++ [x] ++ S) (by rw [hd]; simp) (by simp; omega)
            rw [← h7]
            exact h4 (by simp at hm'; omega))
          rw [List.pairwise_append]
          refine ⟨p1, List.pairwise_cons.2 ⟨q2, p2⟩, fun u hu v hv => ?_⟩
          rcases List.mem_cons.1 hv with rfl | hv
          · exact q1 u hu
          · exact p3 u hu v hv
      · obtain ⟨mid, hmid⟩ : ∃ x, x = (a + b) / 2 := ⟨_, rfl⟩
        have hfin : ∀ st en, a ≤ st → st ≤ m → m ≤ en → en ≤ b → st + en = mid + m → (a < st → en < b → T d[st - 1]! d[en]!) → (st < m → m < en → T d[en - 1]! d[st]!) → ∃ G1 G2 G3 : World → Prop,
            (st < m → m < en → ∀ w, SW enc w0 blk off d w → Calls Try.prog 97 #[.slice (some ⟨blk, off, none⟩) d0.size cap, .int .i64 (st : Int), .int .i64 (m : Int), .int .i64 (en : Int), .func (.func g) #[] cb] w fun e w' => e = .returned (.tuple #[]) ∧ G1 w') ∧
            (¬ (st < m ∧ m < en) → ∀ w, SW enc w0 blk off d w → G1 w) ∧
            (a < st → st < mid → ∀ w, G1 w → Calls Try.prog 86 #[.slice (some ⟨blk, off, none⟩) d0.size cap, .int .i64 (a : Int), .int .i64 (st : Int), .int .i64 (mid : Int), .func (.func g) #[] cb] w fun e w' => e = .returned (.tuple #[]) ∧ G2 w') ∧
            (¬ (a < st ∧ st < mid) → ∀ w, G1 w → G2 w) ∧
            (mid < en → en < b → ∀ w, G2 w → Calls Try.prog 86 #[.slice (some ⟨blk, off, none⟩) d0.size cap, .int .i64 (mid : Int), .int .i64 (en : Int), .int .i64 (b : Int), .func (.func g) #[] cb] w fun e w' => e = .returned (.tuple #[]) ∧ G3 w') ∧
            (¬ (mid < en ∧ en < b) → ∀ w, G2 w → G3 w) ∧ ∀ w, G3 w → Merged enc w0 blk off T P (A ++ B) S w := by
          intro st en s1 s2 s3 s4 s5 t1 t2
          obtain ⟨A1, A2, rfl, hA1, hA2'⟩ := take_two A (st - a) (by omega)
          obtain ⟨B1, B2, rfl, hB1, hB2'⟩ := take_two B (en - m) (by omega)
          have hA2 : A2.length = m - st := by omega
          have hB2 : B2.length = b - en := by omega
          have hlen : 2 ≤ (A1 ++ A2).length ∧ 2 ≤ (B1 ++ B2).length := by omega
          rw [List.length_append, List.length_append] at hlen
          clear hA2' hB2' hA hB hA0 hB0 hkA hkB
          have hm' : m = P.length + (A1.length + A2.length) := by simpa using hm
          have hb' : b = P.length + (A1.length + A2.length) + (B1.length + B2.length) := by simpa using hb
          obtain ⟨pA1, pA2, pA3⟩ := List.pairwise_append.1 pA
          obtain ⟨pB1, pB2, pB3⟩ := List.pairwise_append.1 pB
          have x12 : ∀ x ∈ A1, ∀ y ∈ B2, T x y := fun x hx y hy => by
            refine ge_of_head hT x B2 pB2 (fun z R3 hz => ?_) y hy
            refine le_of_last hT z A1 pA1 (fun R4 u hu => ?_) x hx
            subst hz hu
            have h7 : d[st - 1]! = u := get_mid (p := P ++ R4) (q := A2 ++ (B1 ++ z :: R3) ++ S) (by rw [hd]; simp) (by simp; simp at hA1; omega)
            have h8 : d[en]! = z := get_mid (p := P ++ (R4 ++ [u] ++ A2) ++ B1) (q := R3 ++ S) (by rw [hd]; simp) (by simp; simp at hm'; omega)
            rw [← h7, ← h8]
            exact t1 (by simp at hA1; omega) (by simp at hB2; omega)
          have x21 : ∀ x ∈ B1, ∀ y ∈ A2, T x y := fun x hx y hy => by
            refine ge_of_head hT x A2 pA2 (fun z R3 hz => ?_) y hy
            refine le_of_last hT z B1 pB1 (fun R4 u hu => ?_) x hx
            subst hz hu
            have h7 : d[en - 1]! = u := get_mid (p := P ++ (A1 ++ z :: R3) ++ R4) (q := B2 ++ S) (by rw [hd]; simp) (by simp; simp at hm' hB1; omega)
            have h8 : d[st]! = z := get_mid (p := P ++ A1) (q := R3 ++ (R4 ++ [u] ++ B2) ++ S) (by rw [hd]; simp) (by simp; omega)
            rw [← h7, ← h8]
            exact t2 (by simp at hA2; omega) (by simp at hB1; omega)
          refine ⟨fun w => ∃ dk, SW enc w0 blk off dk w ∧ dk.toList = P ++ (A1 ++ B1) ++ (A2 ++ B2) ++ S,
            fun w => ∃ dk M1, SW enc w0 blk off dk w ∧ dk.toList = P ++ M1 ++ (A2 ++ B2) ++ S ∧ M1.Perm (A1 ++ B1) ∧ M1.Pairwise T,
            fun w => ∃ dk M1 M2, SW enc w0 blk off dk w ∧ dk.toList = P ++ M1 ++ M2 ++ S ∧ M1.Perm (A1 ++ B1) ∧ M1.Pairwise T ∧ M2.Perm (A2 ++ B2) ∧ M2.Pairwise T, ?_, ?_, ?_, ?_, ?_, ?_, ?_⟩
          · intro h1 h2 w hS
            have h := rotate enc (.func g) cb blk off cap st m en d0 d w0 w R hds.symm hS (by omega) (P ++ A1) A2 B1 (B2 ++ S) (by rw [hd]; simp) (List.length_pos_iff.1 (by omega)) (List.length_pos_iff.1 (by omega)) (by simp; omega) (by simp; omega) (by simp; omega)
            rw [hds] at h
            refine h.mono ?_
            rintro e w' ⟨he, dk, hS', hl'⟩
            exact ⟨he, dk, hS', by rw [hl']; simp⟩
          · intro h1 w hS
            refine ⟨d, hS, ?_⟩
            rw [hd]
            rcases Nat.eq_zero_or_pos A2.length with h2 | h2
            · obtain rfl := List.eq_nil_of_length_eq_zero h2
              simp
            · obtain rfl : B1 = [] := List.eq_nil_of_length_eq_zero (by omega)
              simp
          · rintro h1 h2 w ⟨dk, hS, hl'⟩
            have hz : dk.size = d0.size := by
              rw [← hds, ← Array.length_toList, ← Array.length_toList, hl', hd]
              simp; omega
            refine (symMerge enc cf T hT g cb eg blk off cap d0 w0 hcmp R hsz N a st mid dk w P A1 B1 (A2 ++ B2 ++ S) (by omega) (by rw [hl']; simp) ha (by omega) (by omega) (List.length_pos_iff.1 (by omega)) (List.length_pos_iff.1 (by omega)) pA1 pB1 (fun x hx y hy => hcf x (by simp [hx]) y (by simp [hy])) hz hS).mono ?_
            rintro e w' ⟨he, dk', M1, hS', h3, h4, h5⟩
            exact ⟨he, dk', M1, hS', by rw [h3]; simp, h4, h5⟩
          · rintro h1 w ⟨dk, hS, hl'⟩
            refine ⟨dk, A1 ++ B1, hS, hl', List.Perm.refl _, ?_⟩
            rcases Nat.eq_zero_or_pos A1.length with h2 | h2
            · obtain rfl := List.eq_nil_of_length_eq_zero h2
              simpa using pB1
            · obtain rfl : B1 = [] := List.eq_nil_of_length_eq_zero (by omega)
              simpa using pA1
          · rintro h1 h2 w ⟨dk, M1, hS, hl', h3, h4⟩
            have hM := h3.length_eq
            have hz : dk.size = d0.size := by
              rw [← hds, ← Array.length_toList, ← Array.length_toList, hl', hd]
              simp at hM ⊢; omega
            refine (symMerge enc cf T hT g cb eg blk off cap d0 w0 hcmp R hsz N mid en b dk w (P ++ M1) A2 B2 S (by omega) (by rw [hl']; simp) (by simp at hM ⊢; omega) (by simp at hM ⊢; omega) (by simp at hM ⊢; omega) (List.length_pos_iff.1 (by omega)) (List.length_pos_iff.1 (by omega)) pA2 pB2 (fun x hx y hy => hcf x (by simp [hx]) y (by simp [hy])) hz hS).mono ?_
            rintro e w' ⟨he, dk', M2, hS', h5, h6, h7⟩
            exact ⟨he, dk', M1, M2, hS', h5, h3, h4, h6, h7⟩
          · rintro h1 w ⟨dk, M1, hS, hl', h3, h4⟩
            refine ⟨dk, M1, A2 ++ B2, hS, by rw [hl'], h3, h4, List.Perm.refl _, ?_⟩
            rcases Nat.eq_zero_or_pos A2.length with h2 | h2
            · obtain rfl := List.eq_nil_of_length_eq_zero h2
              simpa using pB2
            · obtain rfl : B2 = [] := List.eq_nil_of_length_eq_zero (by omega)
              simpa using pA2
          · rintro w ⟨dk, M1, M2, hS, hl', h3, h4, h5, h6⟩
            refine ⟨dk, M1 ++ M2, hS, by rw [hl']; simp, ?_, ?_⟩
            · refine (h3.append h5).trans ?_
              rw [List.append_assoc, List.append_assoc]
              refine List.Perm.append_left _ ?_
              rw [← List.append_assoc, ← List.append_assoc]
              exact List.Perm.append_right _ List.perm_append_comm
            · rw [List.pairwise_append]
              refine ⟨h4, h6, fun u hu v hv => ?_⟩
              have hu := h3.mem_iff.1 hu
              have hv := h5.mem_iff.1 hv
              rw [List.mem_append] at hu hv
              rcases hu with hu | hu <;> rcases hv with hv | hv
              · exact pA3 u hu v hv
              · exact x12 u hu v hv
              · exact x21 u hu v hv
              · exact pB3 u hu v hv
        have hcf' : ∀ k l, m ≤ k → k < b → a ≤ l → l < m → (cf d[k]! d[l]! < 0 → T d[k]! d[l]!) ∧ (¬ cf d[k]! d[l]! < 0 → T d[l]! d[k]!) := fun k l h1 h2 h3 h4 => hcf _ (hkB k h1 h2) _ (hkA l h3 h4)
        by_cases c3 : mid < m
        · exact symMerge3 enc cf T g cb eg blk off cap d0 w0 hcmp R hsz a m b mid d w hds S0 (by omega) (by omega) (by omega) hmid c3 hcf' _ hfin
        · exact symMerge4 enc cf T g cb eg blk off cap d0 w0 hcmp R hsz a m b mid d w hds S0 (by omega) (by omega) (by omega) hmid c3 hcf' _ hfin
end

end Go.Proofs.Ytbkfnbbngnocbaa.Px
