/- What came in, opened: a value of plain data (whole numbers, bools, strings, structs and slices of these) that reads as data is told by a plain Lean value. -/
import Derived.ProofKit
import Derived.OpenShut
import Derived.Deep.Slices
import Derived.Test.YtbkfnbbngnocbaaOwn
namespace Go.Proofs
open Go.ChangeShapes Go.WideShapes Go.ChangeAt Go.RowKit Go.Deep
open Go.Proofs.YtbkfnbbngnocbaaW.PrintWords Go.Proofs.YtbkfnbbngnocbaaW.PrintLast

/-- The numbers that an int holds. -/
def I64 (n : Int) : Prop := -9223372036854775808 ≤ n ∧ n ≤ 9223372036854775807
theorem I64.of_wf {n : Int} (h : (Lit.int .i64 n).wf = true) : I64 n := by
  simp only [Lit.wf, Bool.and_eq_true, decide_eq_true_eq] at h
  have e1 : IntKind.i64.min = -9223372036854775808 := by decide
  have e2 : IntKind.i64.max = 9223372036854775807 := by decide
  exact ⟨by have := h.1; omega, by have := h.2; omega⟩

/-- Whatever of the type t reads as data is told by d, and meets G. -/
def Opens {α : Type} (P : Program) (t : TypeId) (d : Kd α) (G : α → Prop) : Prop :=
  ∀ (H : Type) (enc : TypeId × Value → H) (w : World) (base : Nat) (held : Bool) (fuel : Nat) (cs : List Value) (x : DataW H × List MemPlace), DataW.trod enc P w base (fun _ => true) held fuel t cs = some x → ∃ v, d.K w v cs ∧ G v

section
variable {α β : Type} {P : Program}
theorem Opens.mono {t : TypeId} {d : Kd α} {G G' : α → Prop} (h : Opens P t d G) (hg : ∀ v, G v → G' v) : Opens P t d G' := fun H enc w base held fuel cs x hx =>
  let ⟨v, h1, h2⟩ := h H enc w base held fuel cs x hx
  ⟨v, h1, hg v h2⟩
theorem opens_int {t : TypeId} {k : IntKind} (ht : P.underlying t = some (.int k)) : Opens P t (Kd.int k) (fun n => (Lit.int k n).wf = true) := fun H enc w base held fuel cs x hx => by
  obtain ⟨n, rfl, _, hw⟩ := DataW.trod_int ht hx
  exact ⟨n, rfl, hw⟩
theorem opens_i64 {t : TypeId} (ht : P.underlying t = some (.int .i64)) : Opens P t (Kd.int .i64) I64 := (opens_int ht).mono fun _ h => I64.of_wf h
theorem opens_bool {t : TypeId} (ht : P.underlying t = some .bool) : Opens P t Kd.bool (fun _ => True) := fun H enc w base held fuel cs x hx => by
  obtain ⟨n, rfl, _⟩ := DataW.trod_bool ht hx
  exact ⟨n, rfl, trivial⟩
theorem opens_string {t : TypeId} (ht : P.underlying t = some .string) : Opens P t Kd.string (fun s => s.size ≤ maxLen) := fun H enc w base held fuel cs x hx => by
  obtain ⟨n, rfl, _, h⟩ := DataW.trod_string ht hx
  exact ⟨n, rfl, h⟩
theorem opens_slice {t e : TypeId} {d : Kd α} {G : α → Prop} (ht : P.underlying t = some (.slice e)) (hs : d.sz = P.cellsOf e) (h : Opens P e d G) : Opens P t (Kd.slice e d) (fun xs => xs.length ≤ maxLen ∧ ∀ x ∈ xs, G x) := fun H enc w base held fuel cs x hx => by
  rcases open_slice ht hx with ⟨rfl, _⟩ | ⟨a, len, cap, m, n, D, Pl, rfl, hb, hl, hm, hmm, _, hel⟩
  · exact ⟨[], ⟨none, 0, rfl, Nat.le_refl _, Kd.C_nil _ _⟩, by simp, by simp⟩
  · have hmle : len ≤ m := by rw [hmm]; simp; omega
    have key : ∀ i : Fin len, ∃ v, G v ∧ ∃ c : List Value, c.length = d.sz ∧ d.K w v c ∧ ∀ j u, c[j]? = some u → w.cell? (a.add (i.val * d.sz + j)) = some u := fun i => by
      obtain ⟨cs', h1, h2⟩ := hel i.val (by omega)
      obtain ⟨v, hv, hg⟩ := h H enc w base held n cs' _ h2
      obtain ⟨_, h3, h4⟩ := World.cells?_some h1
      refine ⟨v, hg, cs', d.K_len hv, hv, fun j u hu => ?_⟩
      have hj : j < P.cellsOf e := by
        have := (List.getElem?_eq_some_iff.1 hu).1
        omega
      have h5 := h4 j hj
      rw [hu] at h5
      rw [hs]
      rw [← h5]
      congr 1
      by_cases e1 : i.val * P.cellsOf e = 0 <;> by_cases e2 : j = 0 <;> simp [Addr.add, e1, e2, Nat.add_assoc]
    obtain ⟨f, hf'⟩ := Classical.axiomOfChoice key
    refine ⟨List.ofFn f, ⟨some a, cap, by simp, by simpa using hl, by simp, by simp [maxLen] at hm ⊢; omega, fun _ => ⟨a, rfl, fun j p hp => ?_⟩⟩, by simp; omega, fun x hx => ?_⟩
    · obtain ⟨hj, rfl⟩ := List.getElem?_eq_some_iff.1 hp
      rw [List.getElem_ofFn]
      obtain ⟨_, c, h1, h2, h3⟩ := hf' ⟨j, by simpa using hj⟩
      exact ⟨c, h1, h2, h3⟩
    · obtain ⟨i, rfl⟩ := List.mem_ofFn.1 hx
      exact (hf' i).1

/-- Where the fields begin. -/
def offs (P : Program) : List TypeId → Nat → List Nat
  | [], _ => []
  | t :: ts, n => n :: offs P ts (n + P.cellsOf t)
/-- Fields in line, from the cell b on. -/
def OpensF (P : Program) (ts : List TypeId) (d : Kd α) (G : α → Prop) : Prop :=
  ∀ (H : Type) (enc : TypeId × Value → H) (w : World) (base : Nat) (held : Bool) (fuel : Nat) (b : Nat) (cs : List Value), cs.length = b + (ts.map P.cellsOf).sum →
    (∀ (i : Nat) (t : TypeId) (o : Nat), ts[i]? = some t → (offs P ts b)[i]? = some o → ∃ y, DataW.trod enc P w base (fun _ => true) held fuel t ((cs.drop o).take (P.cellsOf t)) = some y) → ∃ v, d.K w v (cs.drop b) ∧ G v
theorem opensF_one {t : TypeId} {d : Kd α} {G : α → Prop} (h : Opens P t d G) : OpensF P [t] d G := fun H enc w base held fuel b cs hl hf => by
  obtain ⟨y, hy⟩ := hf 0 t b rfl rfl
  obtain ⟨v, hv, hg⟩ := h H enc w base held fuel _ _ hy
  have e : (cs.drop b).take (P.cellsOf t) = cs.drop b := List.take_of_length_le (by simp at hl ⊢; omega)
  rw [e] at hv
  exact ⟨v, hv, hg⟩
theorem opensF_cons {t : TypeId} {ts : List TypeId} {d : Kd α} {d' : Kd β} {G : α → Prop} {G' : β → Prop} (h : Opens P t d G) (h' : OpensF P ts d' G') : OpensF P (t :: ts) (Kd.pair d d') (fun p => G p.1 ∧ G' p.2) := fun H enc w base held fuel b cs hl hf => by
  obtain ⟨y, hy⟩ := hf 0 t b rfl rfl
  obtain ⟨v, hv, hg⟩ := h H enc w base held fuel _ _ hy
  obtain ⟨v', hv', hg'⟩ := h' H enc w base held fuel (b + P.cellsOf t) cs (by simp at hl ⊢; omega) (fun i t' o ht ho => hf (i + 1) t' o (by simpa using ht) (by simpa [offs] using ho))
  refine ⟨(v, v'), ⟨_, _, ?_, hv, hv'⟩, hg, hg'⟩
  rw [← List.drop_drop, List.take_append_drop]
theorem opens_struct {t : TypeId} {fs : Array Field} (ts : List TypeId) {d : Kd α} {G : α → Prop} (ht : P.underlying t = some (.struct fs)) (hts : fs.toList.map (fun f => (f.type, f.offset)) = ts.zip (offs P ts 0)) (hc : P.cellsOf t = (ts.map P.cellsOf).sum) (h : OpensF P ts d G) : Opens P t d G := fun H enc w base held fuel cs x hx => by
  obtain ⟨xs, n, _, rfl, hl, hlen, hf⟩ := DataW.trod_struct ht hx
  obtain ⟨v, hv, hg⟩ := h H enc w base held n 0 cs (by rw [hl, hc, Nat.zero_add]) (fun i t' o h1 h2 => by
    have h3 : (fs.toList.map (fun f => (f.type, f.offset)))[i]? = some (t', o) := by rw [hts, List.getElem?_zip_eq_some]; exact ⟨h1, h2⟩
    rw [List.getElem?_map, Option.map_eq_some_iff] at h3
    obtain ⟨f, h4, h5⟩ := h3
    injection h5 with h6 h7
    subst h6 h7
    have h8 : fs[i]? = some f := by simpa using h4
    have hi : i < xs.length := by
      rw [hlen]
      exact (Array.getElem?_eq_some_iff.1 h8).1
    exact ⟨_, (hf i f h8).trans (List.getElem?_eq_getElem hi)⟩)
  exact ⟨v, hv, hg⟩
theorem opens_iso {t : TypeId} {d : Kd α} {G : α → Prop} {f : β → α} (g : α → β) (hfg : ∀ a, f (g a) = a) (h : Opens P t d G) : Opens P t (Kd.iso d f) (fun b => G (f b)) := fun H enc w base held fuel cs x hx => by
  obtain ⟨v, hv, hg⟩ := h H enc w base held fuel cs x hx
  refine ⟨g v, ?_, ?_⟩
  · show d.K w (f (g v)) cs
    rw [hfg]
    exact hv
  · show G (f (g v))
    rw [hfg]
    exact hg
end
end Go.Proofs
