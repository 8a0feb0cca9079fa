/- The row of SplitAdds, out of its plain statement (Pure) and the contract of the law's function. -/
import Derived.Test.YtamockdikeadnaaRows
import Derived.Test.YtamockdikeadnaaPx12
import Derived.Test.YtamockdikeadnaaPxO
import Derived.Test.YtamockdikeadnaaPureSplitAdds
import Derived.WalkKit
import Derived.ProofKit
import Derived.OpenShut
import Derived.ShutString
import Derived.ChangeOld
import Derived.Below
import Derived.SizedLaws
namespace Go.Proofs.Ytamockdikeadnaa.splitAdds
open Go.ChangeShapes Go.WideShapes Go.ChangeAt Go.RowKit Go.Proofs.Ytamockdikeadnaa.Px Go.Proofs.YtamockdikeadnaaW.PrintWords Go.Proofs.YtamockdikeadnaaW.PrintLast
open Go.ChangeMaps (open_string shut_string)
set_option linter.unusedVariables false
theorem own : ownKnob Try.prog.godebug = none := by kernel_rfl
theorem laidOut : laidOutB Try.prog = true := by kernel_rfl
set_option maxRecDepth 100000 in
theorem lifted (os : Os) (started : os.Started) (H : Type) (enc : TypeId × Value → H) :
    ReturnsInHanded {} Try.checked os 6 .any (Rows.splitAddsSpec.pre6 enc Try.prog Try.f6 Rows.splitAddsRow.domain false) (Rows.splitAddsSpec.post enc Try.prog Try.f6 false true false false) := by
  refine returnsInHanded_of_change_sized (C := Try.checked) own started (by kernel_rfl) Try.func6
    (ChangeSpec.witness6 (enc := enc) (C := Try.checked) false ⟨#[], #[.slice none 0 0, .slice none 0 0], []⟩ 8 (by kernel_rfl) (by kernel_rfl) (by kernel_rfl) (by kernel_rfl)) ?_
  intro W base args ds gs before hval0 hW hcnd hsz0 _
  have hval : ∀ (j : Nat) t v, Try.f6.params[j]? = some t → args[j]? = some v → Value.okWide Try.prog W .any base t v := hval0
  have hW' := hW
  obtain ⟨p, q, hA0, hV, rfl, hfz, hnd⟩ := hW
  have hA : DataW.TrodAll enc Try.prog W 0 (fun _ => true) true Try.f6.params.toList args.toList ds p := hA0
  rw [Try.params6] at hA hval
  obtain ⟨v0, vs0, d0, ds0, p0, q0, hargs, rfl, rfl, h0, r0⟩ := trodAll_cons hA
  obtain ⟨v1, vs1, d1, ds1, p1, q1, rfl, rfl, rfl, h1, r1⟩ := trodAll_cons r0
  obtain ⟨rfl, rfl, rfl⟩ := trodAll_nil r1
  obtain rfl : args = #[v0, v1] := by cases args; simp_all
  obtain ⟨rfl, rfl⟩ := trodVars_none hV
  have k0 := h0
  have lt0 : ∀ x ∈ p0, x.block < W.heap.size := by obtain ⟨m, hm⟩ := k0; exact DataW.trod_lt m _ _ _ hm
  obtain ⟨a0, len0, cap0, rfl⟩ := okWide_slice Try.underlying32 (hval 0 32 v0 rfl rfl)
  obtain ⟨l0, A0, c0, e0, hc0, hr0, g0⟩ : ∃ (l : List (S41)) (A : Option Addr) (c : Nat), Value.slice a0 len0 cap0 = .slice A l.length c ∧ l.length ≤ c ∧ Kd.C k41 W A l.length l ∧ (fun xs : List (S41) => xs.length ≤ maxLen ∧ ∀ x ∈ xs, wf41 x) l := by
    obtain ⟨fuel, hf⟩ := h0
    obtain ⟨v, ⟨A, c, hcs, hl, hC⟩, hg⟩ := (opens_slice Try.underlying32 (by kernel_rfl) opens41) _ enc W 0 true fuel _ _ hf
    exact ⟨v, A, c, by simpa [Value.cells] using hcs, hl, hC, hg⟩
  clear h0
  injection e0 with e0a e0b e0c
  subst e0a e0b e0c
  have k1 := h1
  have lt1 : ∀ x ∈ p1, x.block < W.heap.size := by obtain ⟨m, hm⟩ := k1; exact DataW.trod_lt m _ _ _ hm
  obtain ⟨a1, len1, cap1, rfl⟩ := okWide_slice Try.underlying32 (hval 1 32 v1 rfl rfl)
  obtain ⟨l1, A1, c1, e1, hc1, hr1, g1⟩ : ∃ (l : List (S41)) (A : Option Addr) (c : Nat), Value.slice a1 len1 cap1 = .slice A l.length c ∧ l.length ≤ c ∧ Kd.C k41 W A l.length l ∧ (fun xs : List (S41) => xs.length ≤ maxLen ∧ ∀ x ∈ xs, wf41 x) l := by
    obtain ⟨fuel, hf⟩ := h1
    obtain ⟨v, ⟨A, c, hcs, hl, hC⟩, hg⟩ := (opens_slice Try.underlying32 (by kernel_rfl) opens41) _ enc W 0 true fuel _ _ hf
    exact ⟨v, A, c, by simpa [Value.cells] using hcs, hl, hC, hg⟩
  clear h1
  injection e1 with e1a e1b e1c
  subst e1a e1b e1c
  clear hA0 hval0 hsz0
  obtain ⟨k, hp⟩ := Pure.SplitAdds l0 l1 g0 g1
  refine (skiarealaw34_SplitAdds.calls k _ _ l0 _ _ l1 true W hr0 hc0 hr1 hc1 hp).mono fun e W' ⟨he, bel⟩ => ?_
  subst he
  exact ⟨_, rfl, _, _, _, [], _, [], hW', trodAll_mk1 (shut_bool Try.underlying4 _), (trodAll_cons_mk (Below.trod laidOut (by kernel_rfl) (of_decide_eq_true (by kernel_rfl)) k0 bel lt0) (trodAll_cons_mk (Below.trod laidOut (by kernel_rfl) (of_decide_eq_true (by kernel_rfl)) k1 bel lt1) trodAll_mk0)), rfl, bel.frame _, fun h => by cases h⟩
theorem over : Rows.splitAddsRow.holds Try.pinned (OpenSpec.ofChange Rows.splitAddsSpec) :=
  OpenClaim.holds_of_wide 6 Try.f6 rfl rfl rfl rfl rfl rfl rfl ⟨rfl, rfl, rfl, rfl, rfl⟩ rfl rfl rfl rfl rfl (by kernel_rfl) Try.func6 (by kernel_rfl)
    (of_decide_eq_true (by kernel_rfl)) (by unfold Func.isWrapper; first | (rw [if_pos (by decide +kernel)]; kernel_rfl) | (rw [if_neg (by decide +kernel)]; exact ⟨rfl, rfl⟩))
    (fun os started H enc _ => lifted os started H enc)
theorem proved : Rows.SplitAddsSaid := over
#print axioms proved
end Go.Proofs.Ytamockdikeadnaa.splitAdds
namespace Go.Proofs.Ytamockdikeadnaa
/-- The row, under a short name, for the claim. -/
theorem splitAdds_holds : Rows.SplitAddsSaid := splitAdds.proved
end Go.Proofs.Ytamockdikeadnaa
