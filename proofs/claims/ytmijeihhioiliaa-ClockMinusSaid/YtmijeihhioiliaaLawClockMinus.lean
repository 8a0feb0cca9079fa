/- The row of ClockMinus, out of its plain statement (Pure) and the contract of the law's function. -/
import Derived.Test.YtmijeihhioiliaaRows
import Derived.Test.YtmijeihhioiliaaPx24
import Derived.Test.YtmijeihhioiliaaPxO
import Derived.Test.YtmijeihhioiliaaPureClockMinus
import Derived.WalkKit
import Derived.ProofKit
import Derived.OpenShut
import Derived.ShutString
import Derived.ChangeOld
import Derived.Below
import Derived.SizedLaws
namespace Go.Proofs.Ytmijeihhioiliaa.clockMinus
open Go.ChangeShapes Go.WideShapes Go.ChangeAt Go.RowKit Go.Proofs.Ytmijeihhioiliaa.Px Go.Proofs.YtmijeihhioiliaaW.PrintWords Go.Proofs.YtmijeihhioiliaaW.PrintLast
open Go.ChangeMaps (open_string shut_string)
set_option linter.unusedVariables false
theorem own : ownKnob Try.prog.godebug = none := by kernel_rfl
theorem laidOut : laidOutB Try.prog = true := by kernel_rfl
set_option maxRecDepth 100000 in
theorem lifted (os : Os) (started : os.Started) (H : Type) (enc : TypeId × Value → H) :
    ReturnsInHanded {} Try.checked os 10 .any (Rows.clockMinusSpec.pre6 enc Try.prog Try.f10 Rows.clockMinusRow.domain false) (Rows.clockMinusSpec.post enc Try.prog Try.f10 false true false false) := by
  refine returnsInHanded_of_change_sized (C := Try.checked) own started (by kernel_rfl) Try.func10
    (ChangeSpec.witness6 (enc := enc) (C := Try.checked) false ⟨#[], #[.slice none 0 0, .slice none 0 0, .int .i64 0], []⟩ 8 (by kernel_rfl) (by kernel_rfl) (by kernel_rfl) (by kernel_rfl)) ?_
  intro W base args ds gs before hval0 hW hcnd hsz0 _
  have hval : ∀ (j : Nat) t v, Try.f10.params[j]? = some t → args[j]? = some v → Value.okWide Try.prog W .any base t v := hval0
  have hW' := hW
  obtain ⟨p, q, hA0, hV, rfl, hfz, hnd⟩ := hW
  have hA : DataW.TrodAll enc Try.prog W 0 (fun _ => true) true Try.f10.params.toList args.toList ds p := hA0
  rw [Try.params10] at hA hval
  obtain ⟨v0, vs0, d0, ds0, p0, q0, hargs, rfl, rfl, h0, r0⟩ := trodAll_cons hA
  obtain ⟨v1, vs1, d1, ds1, p1, q1, rfl, rfl, rfl, h1, r1⟩ := trodAll_cons r0
  obtain ⟨v2, vs2, d2, ds2, p2, q2, rfl, rfl, rfl, h2, r2⟩ := trodAll_cons r1
  obtain ⟨rfl, rfl, rfl⟩ := trodAll_nil r2
  obtain rfl : args = #[v0, v1, v2] := by cases args; simp_all
  obtain ⟨rfl, rfl⟩ := trodVars_none hV
  have k0 := h0
  have lt0 : ∀ x ∈ p0, x.block < W.heap.size := by obtain ⟨m, hm⟩ := k0; exact DataW.trod_lt m _ _ _ hm
  obtain ⟨a0, len0, cap0, rfl⟩ := okWide_slice Try.underlying30 (hval 0 30 v0 rfl rfl)
  obtain ⟨l0, A0, c0, e0, hc0, hr0, g0⟩ : ∃ (l : List (S39)) (A : Option Addr) (c : Nat), Value.slice a0 len0 cap0 = .slice A l.length c ∧ l.length ≤ c ∧ Kd.C k39 W A l.length l ∧ (fun xs : List (S39) => xs.length ≤ maxLen ∧ ∀ x ∈ xs, wf39 x) l := by
    obtain ⟨fuel, hf⟩ := h0
    obtain ⟨v, ⟨A, c, hcs, hl, hC⟩, hg⟩ := (opens_slice Try.underlying30 (by kernel_rfl) opens39) _ enc W 0 true fuel _ _ hf
    exact ⟨v, A, c, by simpa [Value.cells] using hcs, hl, hC, hg⟩
  clear h0
  injection e0 with e0a e0b e0c
  subst e0a e0b e0c
  have k1 := h1
  have lt1 : ∀ x ∈ p1, x.block < W.heap.size := by obtain ⟨m, hm⟩ := k1; exact DataW.trod_lt m _ _ _ hm
  obtain ⟨a1, len1, cap1, rfl⟩ := okWide_slice Try.underlying30 (hval 1 30 v1 rfl rfl)
  obtain ⟨l1, A1, c1, e1, hc1, hr1, g1⟩ : ∃ (l : List (S39)) (A : Option Addr) (c : Nat), Value.slice a1 len1 cap1 = .slice A l.length c ∧ l.length ≤ c ∧ Kd.C k39 W A l.length l ∧ (fun xs : List (S39) => xs.length ≤ maxLen ∧ ∀ x ∈ xs, wf39 x) l := by
    obtain ⟨fuel, hf⟩ := h1
    obtain ⟨v, ⟨A, c, hcs, hl, hC⟩, hg⟩ := (opens_slice Try.underlying30 (by kernel_rfl) opens39) _ enc W 0 true fuel _ _ hf
    exact ⟨v, A, c, by simpa [Value.cells] using hcs, hl, hC, hg⟩
  clear h1
  injection e1 with e1a e1b e1c
  subst e1a e1b e1c
  obtain ⟨a2, rfl, rfl, rfl, w2⟩ := open_int Try.underlying3 (hval 2 3 v2 rfl rfl) h2
  clear hA0 hval0 hsz0
  obtain ⟨k, hp⟩ := Pure.ClockMinus l0 l1 a2 g0 g1 (I64.of_wf w2)
  refine (skiarealaw02_ClockMinus.calls k _ _ l0 _ _ l1 a2 true W hr0 hc0 hr1 hc1 hp).mono fun e W' ⟨he, bel⟩ => ?_
  subst he
  exact ⟨_, rfl, _, _, _, [], _, [], hW', trodAll_mk1 (shut_bool Try.underlying4 _), (trodAll_cons_mk (Below.trod laidOut (by kernel_rfl) (of_decide_eq_true (by kernel_rfl)) k0 bel lt0) (trodAll_cons_mk (Below.trod laidOut (by kernel_rfl) (of_decide_eq_true (by kernel_rfl)) k1 bel lt1) (trodAll_cons_mk (shut_int Try.underlying3 w2) trodAll_mk0))), rfl, bel.frame _, fun h => by cases h⟩
theorem over : Rows.clockMinusRow.holds Try.pinned (OpenSpec.ofChange Rows.clockMinusSpec) :=
  OpenClaim.holds_of_wide 10 Try.f10 rfl rfl rfl rfl rfl rfl rfl ⟨rfl, rfl, rfl, rfl, rfl⟩ rfl rfl rfl rfl rfl (by kernel_rfl) Try.func10 (by kernel_rfl)
    (of_decide_eq_true (by kernel_rfl)) (by unfold Func.isWrapper; first | (rw [if_pos (by decide +kernel)]; kernel_rfl) | (rw [if_neg (by decide +kernel)]; exact ⟨rfl, rfl⟩))
    (fun os started H enc _ => lifted os started H enc)
theorem proved : Rows.ClockMinusSaid := over
#print axioms proved
end Go.Proofs.Ytmijeihhioiliaa.clockMinus
namespace Go.Proofs.Ytmijeihhioiliaa
/-- The row, under a short name, for the claim. -/
theorem clockMinus_holds : Rows.ClockMinusSaid := clockMinus.proved
end Go.Proofs.Ytmijeihhioiliaa
