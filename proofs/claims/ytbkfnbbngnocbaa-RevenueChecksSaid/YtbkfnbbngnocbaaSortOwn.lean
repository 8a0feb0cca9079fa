/- A row of the call's own that slices.SortFunc has put in order: what it holds, and what stays as it was. -/
import Derived.Shelf.SlSortCmp.WholeK
import Derived.Test.YtbkfnbbngnocbaaOwn
import Derived.Test.YtbkfnbbngnocbaaWKept
namespace Go.Proofs
open Go.RowKit Go.Sort Go.Shelf Go.Proofs.YtbkfnbbngnocbaaW.PrintWords Go.Proofs.YtbkfnbbngnocbaaW.PrintLast

theorem flatK_block {α : Type} [Inhabited α] (enc : α → List Value) (k : Nat) (hk : ∀ x, (enc x).length = k) (d : Array α) (j : Nat) (hj : j < d.size) : ((flatK enc k d).toList.drop (j * k)).take k = enc d[j]! := by
  have hle : j * k + k ≤ d.size * k := by have := Nat.mul_le_mul_right k (show j + 1 ≤ d.size from hj); rw [Nat.add_mul, Nat.one_mul] at this; exact this
  apply List.ext_getElem
  · simp [hk]; omega
  · intro i h1 h2
    have hi : i < k := by rw [hk] at h2; exact h2
    have hk0 : 0 < k := by omega
    have hlt : j * k + i < d.size * k := by omega
    rw [List.getElem_take, List.getElem_drop, Array.getElem_toList]
    have h3 := get_flatK enc k d (j * k + i) hlt
    rw [getElem!_pos (flatK enc k d) (j * k + i) (by simpa using hlt)] at h3
    rw [h3]
    have e1 : (j * k + i) / k = j := by rw [Nat.mul_comm, Nat.mul_add_div hk0, Nat.div_eq_of_lt hi, Nat.add_zero]
    have e2 : (j * k + i) % k = i := by rw [Nat.mul_comm, Nat.mul_add_mod]; exact Nat.mod_eq_of_lt hi
    rw [e1, e2, getElem!_pos (enc d[j]!) i h2]

theorem heap_sortWorldK {α : Type} [Inhabited α] (enc : α → List Value) (k : Nat) (w : World) (g n : Nat) (d : Array α) (os : Array Obj) (i : Nat) (hi : i < w.heap.size) (hne : i ≠ g) : (sortWorldK enc k w g 0 n d os).heap[i]? = w.heap[i]? := by
  unfold sortWorldK grow putRowK putRow mapBlock
  simp only [heap_ahead]
  rw [Array.getElem?_append_left (by simpa using hi), Array.getElem?_modify, if_neg (fun h => hne h.symm)]
theorem heap_sortWorldK_at {α : Type} [Inhabited α] (enc : α → List Value) (k : Nat) (w : World) (g n : Nat) (d : Array α) (os : Array Obj) {cur : Array Value} {e : TypeId} {fr : Nat × Nat} (hh : w.heap[g]? = some (.cells cur e fr)) :
    (sortWorldK enc k w g 0 n d os).heap[g]? = some (.cells (putCells id 0 (flatK enc k d) cur) e fr) := by
  have hi : g < w.heap.size := (Array.getElem?_eq_some_iff.1 hh).1
  unfold sortWorldK grow putRowK putRow mapBlock
  simp only [heap_ahead]
  rw [Array.getElem?_append_left (by simpa using hi), Array.getElem?_modify, if_pos rfl, hh]
  rfl
theorem size_sortWorldK {α : Type} [Inhabited α] (enc : α → List Value) (k : Nat) (w : World) (g n : Nat) (d : Array α) (os : Array Obj) : w.heap.size ≤ (sortWorldK enc k w g 0 n d os).heap.size := by
  unfold sortWorldK grow putRowK putRow mapBlock
  simp

theorem sort_row {α : Type} [Inhabited α] (D : Kd α) (enc : α → List Value) (hM : ∀ {w base ok x cs}, D.M w base ok x cs → cs = enc x) (hM' : ∀ {w base ok x}, D.M w base ok x (enc x)) (hk : ∀ x, (enc x).length = D.sz) (e : Nat) (w : World) (B : Nat) (P : Nat → Prop) (u : Value) (l : List α) (h : D.R e w B P u l) (hl : l ≠ []) :
    ∃ g cap, u = .slice (some ⟨g, 0, none⟩) l.length cap ∧ B ≤ g ∧ P g ∧ g < w.heap.size ∧ HoldsK enc D.sz w g 0 l.toArray ∧
      ∀ (d : Array α) (n : Nat) (os : Array Obj), d.size = l.length → D.R e (sortWorldK enc D.sz w g 0 n d os) B P u d.toList ∧ Kept w (sortWorldK enc D.sz w g 0 n d os) P ∧
        ∀ w0 : World, B = w0.heap.size → Below w0.heap.size w0 w → Below w0.heap.size w0 (sortWorldK enc D.sz w g 0 n d os) := by
  obtain ⟨h0, inner, ⟨h1, h2⟩, h3, h4⟩ := h
  rcases h2 with ⟨rfl, hn⟩ | ⟨g, cap, cur, rfl, hB, hh, hnc, hcm, hcs, hct⟩
  · exact absurd (List.eq_nil_of_length_eq_zero hn) hl
  · have hg : g < w.heap.size := (Array.getElem?_eq_some_iff.1 hh).1
    have hPg : P g := h0 g (by simp [Value.ownBlock])
    have hmul : l.length * D.sz ≤ cap * D.sz := Nat.mul_le_mul_right _ hnc
    refine ⟨g, cap, rfl, hB, hPg, hg, ?_, ?_⟩
    · intro t ht
      have ht' : t < l.length * D.sz := by simpa using ht
      have hk0 : 0 < D.sz := by rcases Nat.eq_zero_or_pos D.sz with h | h; (rw [h] at ht'; omega); exact h
      have hj : t / D.sz < l.length := (Nat.div_lt_iff_lt_mul hk0).2 ht'
      refine ⟨?_, blk_frozen hh _⟩
      rw [Nat.zero_add, blk_cell hh]
      have e1 : cur[t]? = inner[t]? := by rw [← hct, List.getElem?_take_of_lt ht']; simp
      have e2 := hM (h4 (t / D.sz) l[t / D.sz] (List.getElem?_eq_getElem hj))
      have hm : t % D.sz < D.sz := Nat.mod_lt _ hk0
      have e3 : inner[t]? = (enc l[t / D.sz])[t % D.sz]? := by
        rw [← e2, List.getElem?_take_of_lt hm, List.getElem?_drop, Nat.mul_comm, Nat.div_add_mod]
      rw [e1, e3, get_flatK enc D.sz l.toArray t (by simpa using ht')]
      have hlen : t % D.sz < (enc l[t / D.sz]).length := by rw [hk]; exact hm
      have e4 : l.toArray[t / D.sz]! = l[t / D.sz] := by rw [getElem!_pos l.toArray (t / D.sz) (by simpa using hj)]; simp
      rw [e4, List.getElem?_eq_getElem hlen, getElem!_pos (enc l[t / D.sz]) (t % D.sz) hlen]
      rfl
    · intro d n os hd
      have hF : (flatK enc D.sz d).size = l.length * D.sz := by simp [hd]
      refine ⟨⟨h0, (flatK enc D.sz d).toList, ⟨?_, .inr ⟨g, cap, _, ?_, hB, heap_sortWorldK_at enc D.sz w g n d os hh, by simpa [hd] using hnc, hcm, by simpa [putCells] using hcs, ?_⟩⟩, ?_, ?_⟩, ⟨size_sortWorldK enc D.sz w g n d os, fun i hi hne => heap_sortWorldK enc D.sz w g n d os i hi (fun h => hne (h ▸ hPg))⟩, ?_⟩
      · simp
      · simp [hd]
      · apply List.ext_getElem
        · simp [putCells, hd]; omega
        · intro i i1 i2
          have hi : i < (flatK enc D.sz d).size := by simpa using i2
          simp only [List.getElem_take, Array.getElem_toList, putCells, Array.getElem_mapIdx]
          rw [if_pos ⟨Nat.zero_le _, by omega⟩, Nat.sub_zero, getElem!_pos (flatK enc D.sz d) i hi]
          rfl
      · simp
      · intro j p hp
        have hj : j < d.size := by
          have := (List.getElem?_eq_some_iff.1 hp).1
          simpa using this
        rw [flatK_block enc D.sz hk d j hj]
        have : d[j]! = p := by
          rw [getElem!_pos d j hj]
          have := (List.getElem?_eq_some_iff.1 hp).2
          simpa using this
        rw [this]
        exact hM'
      · intro w0 hB0 hb
        exact ⟨hb.os, hb.tape, hb.output, Nat.le_trans hb.size (size_sortWorldK enc D.sz w g n d os), fun i hi => (heap_sortWorldK enc D.sz w g n d os i (Nat.lt_of_lt_of_le hi hb.size) (by omega)).trans (hb.block i hi)⟩

/-- The order in which slices.SortFunc leaves a list. -/
def sortPdq {α : Type} [Inhabited α] (cf : α → α → Int) (l : List α) : List α := (pdq (ltOf cf) l.toArray 0 l.length (Lib.bitLen l.length) true true).toList
theorem sortPdq_perm {α : Type} [Inhabited α] (cf : α → α → Int) (hO : Go.Sort.SWO (ltOf cf)) (l : List α) : (sortPdq cf l).Perm l := by
  have h := (pdq_sorts (ltOf cf) hO l.toArray 0 l.length (Lib.bitLen l.length) true true (Nat.zero_le _) (by simp) (Or.inl rfl)).1
  obtain ⟨h1, _, h3⟩ := h
  have e : ∀ a : Array α, a.size = l.length → (a.extract 0 l.length).toList = a.toList := fun a ha => by rw [← ha]; simp
  rw [e _ (by rw [h1]; simp), e _ (by simp)] at h3
  simpa [sortPdq] using h3
theorem sortPdq_length {α : Type} [Inhabited α] (cf : α → α → Int) (hO : Go.Sort.SWO (ltOf cf)) (l : List α) : (sortPdq cf l).length = l.length := (sortPdq_perm cf hO l).length_eq
theorem sortPdq_size {α : Type} [Inhabited α] (cf : α → α → Int) (hO : Go.Sort.SWO (ltOf cf)) (l : List α) : (pdq (ltOf cf) l.toArray 0 l.length (Lib.bitLen l.length) true true).size = l.length := by
  have := sortPdq_length cf hO l
  simpa [sortPdq] using this
/-- No later one comes before an earlier one. -/
theorem sortPdq_sorted {α : Type} [Inhabited α] (cf : α → α → Int) (hO : Go.Sort.SWO (ltOf cf)) (l : List α) : (sortPdq cf l).Pairwise (fun x y => ltOf cf y x = false) := by
  have h := (pdq_sorts (ltOf cf) hO l.toArray 0 l.length (Lib.bitLen l.length) true true (Nat.zero_le _) (by simp) (Or.inl rfl)).2
  have hs := sortPdq_size cf hO l
  rw [List.pairwise_iff_getElem]
  intro i j hi hj hij
  have hl := sortPdq_length cf hO l
  have h2 := h i j (Nat.zero_le _) hij (by omega)
  rw [getElem!_pos _ j (by rw [hs]; omega), getElem!_pos _ i (by rw [hs]; omega)] at h2
  simpa [sortPdq] using h2
theorem sortPdq_nil {α : Type} [Inhabited α] (cf : α → α → Int) (hO : Go.Sort.SWO (ltOf cf)) : sortPdq cf ([] : List α) = [] := List.eq_nil_of_length_eq_zero (sortPdq_length cf hO [])
end Go.Proofs
