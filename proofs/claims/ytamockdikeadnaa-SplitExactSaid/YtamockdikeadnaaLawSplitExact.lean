/- The row of SplitExact, out of its plain statement (Pure) and the contract of the law's function. -/
import Derived.Test.YtamockdikeadnaaRows
import Derived.Test.YtamockdikeadnaaPx17
import Derived.Test.YtamockdikeadnaaPxO
import Derived.Test.YtamockdikeadnaaPureSplitExact
import Derived.WalkKit
import Derived.ProofKit
import Derived.OpenShut
import Derived.ShutString
import Derived.ChangeOld
import Derived.Below
import Derived.SizedLaws
namespace Go.Proofs.Ytamockdikeadnaa.splitExact
open Go.ChangeShapes Go.WideShapes Go.ChangeAt Go.RowKit Go.Proofs.Ytamockdikeadnaa.Px Go.Proofs.YtamockdikeadnaaW.PrintWords Go.Proofs.YtamockdikeadnaaW.PrintLast
open Go.ChangeMaps (open_string shut_string)
set_option linter.unusedVariables false
theorem own : ownKnob Try.prog.godebug = none := by kernel_rfl
theorem laidOut : laidOutB Try.prog = true := by kernel_rfl
set_option maxRecDepth 100000 in
theorem lifted (os : Os) (started : os.Started) (H : Type) (enc : TypeId × Value → H) :
    ReturnsInHanded {} Try.checked os 7 .any (Rows.splitExactSpec.pre6 enc Try.prog Try.f7 Rows.splitExactRow.domain false) (Rows.splitExactSpec.post enc Try.prog Try.f7 false true false false) := by
  refine returnsInHanded_of_change_sized (C := Try.checked) own started (by kernel_rfl) Try.func7
    (ChangeSpec.witness6 (enc := enc) (C := Try.checked) false ⟨#[], #[.int .i64 0, .slice none 0 0], []⟩ 8 (by kernel_rfl) (by kernel_rfl) (by kernel_rfl) (by kernel_rfl)) ?_
  intro W base args ds gs before hval0 hW hcnd hsz0 _
  have hval : ∀ (j : Nat) t v, Try.f7.params[j]? = some t → args[j]? = some v → Value.okWide Try.prog W .any base t v := hval0
  have hW' := hW
  obtain ⟨p, q, hA0, hV, rfl, hfz, hnd⟩ := hW
  have hA : DataW.TrodAll enc Try.prog W 0 (fun _ => true) true Try.f7.params.toList args.toList ds p := hA0
  rw [Try.params7] at hA hval
  obtain ⟨v0, vs0, d0, ds0, p0, q0, hargs, rfl, rfl, h0, r0⟩ := trodAll_cons hA
  obtain ⟨v1, vs1, d1, ds1, p1, q1, rfl, rfl, rfl, h1, r1⟩ := trodAll_cons r0
  obtain ⟨rfl, rfl, rfl⟩ := trodAll_nil r1
  obtain rfl : args = #[v0, v1] := by cases args; simp_all
  obtain ⟨rfl, rfl⟩ := trodVars_none hV
  obtain ⟨a0, rfl, rfl, rfl, w0⟩ := open_int Try.underlying3 (hval 0 3 v0 rfl rfl) h0
  have k1 := h1
  have lt1 : ∀ x ∈ p1, x.block < W.heap.size := by obtain ⟨m, hm⟩ := k1; exact DataW.trod_lt m _ _ _ hm
  obtain ⟨a1, len1, cap1, rfl⟩ := okWide_slice Try.underlying22 (hval 1 22 v1 rfl rfl)
  obtain ⟨l1, A1, c1, e1, hc1, hr1, g1⟩ : ∃ (l : List Int) (A : Option Addr) (c : Nat), Value.slice a1 len1 cap1 = .slice A l.length c ∧ l.length ≤ c ∧ Kd.C (Kd.int .i64) W A l.length l ∧ (fun xs : List Int => xs.length ≤ maxLen ∧ ∀ x ∈ xs, I64 x) l := by
    obtain ⟨fuel, hf⟩ := h1
    obtain ⟨v, ⟨A, c, hcs, hl, hC⟩, hg⟩ := (opens_slice Try.underlying22 (by kernel_rfl) (opens_i64 Try.underlying3)) _ enc W 0 true fuel _ _ hf
    exact ⟨v, A, c, by simpa [Value.cells] using hcs, hl, hC, hg⟩
  clear h1
  injection e1 with e1a e1b e1c
  subst e1a e1b e1c
  clear hA0 hval0 hsz0
  obtain ⟨k, hp⟩ := Pure.SplitExact a0 l1 (I64.of_wf w0) g1
  refine (skiarealaw34_SplitExact.calls k a0 _ _ l1 true W hr1 hc1 hp).mono fun e W' ⟨he, bel⟩ => ?_
  subst he
  exact ⟨_, rfl, _, _, _, [], _, [], hW', trodAll_mk1 (shut_bool Try.underlying4 _), (trodAll_cons_mk (shut_int Try.underlying3 w0) (trodAll_cons_mk (Below.trod laidOut (by kernel_rfl) (of_decide_eq_true (by kernel_rfl)) k1 bel lt1) trodAll_mk0)), rfl, bel.frame _, fun h => by cases h⟩
theorem over : Rows.splitExactRow.holds Try.pinned (OpenSpec.ofChange Rows.splitExactSpec) :=
  OpenClaim.holds_of_wide 7 Try.f7 rfl rfl rfl rfl rfl rfl rfl ⟨rfl, rfl, rfl, rfl, rfl⟩ rfl rfl rfl rfl rfl (by kernel_rfl) Try.func7 (by kernel_rfl)
    (of_decide_eq_true (by kernel_rfl)) (by unfold Func.isWrapper; first | (rw [if_pos (by decide +kernel)]; kernel_rfl) | (rw [if_neg (by decide +kernel)]; exact ⟨rfl, rfl⟩))
    (fun os started H enc _ => lifted os started H enc)
theorem proved : Rows.SplitExactSaid := over
#print axioms proved
end Go.Proofs.Ytamockdikeadnaa.splitExact
namespace Go.Proofs.Ytamockdikeadnaa
/-- The row, under a short name, for the claim. -/
theorem splitExact_holds : Rows.SplitExactSaid := splitExact.proved
end Go.Proofs.Ytamockdikeadnaa
