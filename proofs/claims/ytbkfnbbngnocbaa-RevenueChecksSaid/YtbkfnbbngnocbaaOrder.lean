/- A row of the call's own whose numbers a stable sort has put in order: the insertion sort on lists, and what the sort's world holds. -/
import Derived.Shelf.SlSortCmp.Insertion1
import Derived.Test.YtbkfnbbngnocbaaOwn
import Derived.Test.YtbkfnbbngnocbaaWKept
namespace Go.Proofs
open Go.RowKit Go.Sort Go.Shelf Go.Proofs.YtbkfnbbngnocbaaW.PrintWords Go.Proofs.YtbkfnbbngnocbaaW.PrintLast

/-- The insertion of x at the end of a row that is told from its end. -/
def insR {α : Type} (lt : α → α → Bool) (x : α) : List α → List α
  | [] => [x]
  | y :: l => if lt x y then y :: insR lt x l else x :: y :: l
/-- The insertion sort. -/
def insSort {α : Type} (lt : α → α → Bool) (l : List α) : List α := (l.foldl (fun acc x => insR lt x acc) []).reverse
theorem insR_length {α : Type} (lt : α → α → Bool) (x : α) : ∀ l : List α, (insR lt x l).length = l.length + 1
  | [] => rfl
  | y :: l => by
    rw [insR]
    split
    · rw [List.length_cons, insR_length lt x l, List.length_cons]
    · rfl
theorem insR_map {α β : Type} (f : α → β) (lt : α → α → Bool) (lt' : β → β → Bool) (h : ∀ x y, lt' (f x) (f y) = lt x y) (x : α) : ∀ l : List α, (insR lt x l).map f = insR lt' (f x) (l.map f)
  | [] => rfl
  | y :: l => by
    rw [insR, List.map_cons, insR, h]
    split
    · rw [List.map_cons, insR_map f lt lt' h x l]
    · rfl
theorem insFold_map {α β : Type} (f : α → β) (lt : α → α → Bool) (lt' : β → β → Bool) (h : ∀ x y, lt' (f x) (f y) = lt x y) : ∀ (l acc : List α), (l.foldl (fun acc x => insR lt x acc) acc).map f = (l.map f).foldl (fun acc x => insR lt' x acc) (acc.map f)
  | [], acc => rfl
  | x :: l, acc => by
    rw [List.foldl_cons, List.map_cons, List.foldl_cons, insFold_map f lt lt' h l, insR_map f lt lt' h]
theorem insSort_map {α β : Type} (f : α → β) (lt : α → α → Bool) (lt' : β → β → Bool) (h : ∀ x y, lt' (f x) (f y) = lt x y) (l : List α) : (insSort lt l).map f = insSort lt' (l.map f) := by
  unfold insSort
  rw [List.map_reverse, insFold_map f lt lt' h]
  rfl
theorem get_at {α : Type} [Inhabited α] (d : Array α) (p q : List α) (x : α) (h : d.toList = p ++ x :: q) : d[p.length]! = x := by
  have hl : p.length < d.size := by rw [← Array.length_toList, h]; simp
  rw [getElem!_pos d _ hl, ← Array.getElem_toList (h := hl)]
  simp [h]
theorem swp_at {α : Type} [Inhabited α] (d : Array α) (p q : List α) (x y : α) (h : d.toList = p ++ y :: x :: q) : (Sort.swp d (p.length + 1) p.length).toList = p ++ x :: y :: q := by
  have e1 : d[p.length]! = y := get_at d p (x :: q) y h
  have e2 : d[p.length + 1]! = x := by
    have := get_at d (p ++ [y]) q x (by simpa using h)
    rwa [List.length_append, List.length_singleton] at this
  unfold Sort.swp
  rw [e1, e2, Array.toList_setIfInBounds, Array.toList_setIfInBounds, h]
  rw [List.set_append_right _ _ (by omega), List.set_append_right _ _ (by omega)]
  simp
theorem insInner_at {α : Type} [Inhabited α] (lt : α → α → Bool) (x : α) (q : List α) : ∀ (j : Nat) (p : List α) (d : Array α), p.length = j → d.toList = p ++ x :: q → (insInner lt 0 j d).toList = (insR lt x p.reverse).reverse ++ q
  | 0, p, d, hp, h => by
    obtain rfl : p = [] := List.eq_nil_of_length_eq_zero hp
    rw [insInner, h]
    rfl
  | j + 1, p, d, hp, h => by
    obtain ⟨p', y, rfl⟩ : ∃ p' y, p = p' ++ [y] := ⟨p.dropLast, p.getLast (by intro e; rw [e] at hp; simp at hp), (List.dropLast_concat_getLast _).symm⟩
    have hp' : p'.length = j := by simpa using hp
    have h' : d.toList = p' ++ y :: x :: q := by simpa using h
    have e1 : d[j]! = y := by rw [← hp']; exact get_at d p' (x :: q) y h'
    have e2 : d[j + 1]! = x := by
      have := get_at d (p' ++ [y]) q x h
      rwa [hp] at this
    rw [insInner, e1, e2]
    have hj : decide (j + 1 > 0) = true := by simp
    rw [hj, Bool.true_and, List.reverse_append, List.reverse_singleton, List.singleton_append, insR]
    cases hl : lt x y with
    | true =>
      rw [if_pos rfl, if_pos rfl, List.reverse_cons, List.append_assoc, List.singleton_append]
      refine insInner_at lt x (y :: q) j p' _ hp' ?_
      rw [← hp']
      exact swp_at d p' q x y h'
    | false =>
      rw [if_neg (by simp), if_neg (by simp), h']
      simp
theorem insOuter_at {α : Type} [Inhabited α] (lt : α → α → Bool) (b : Nat) : ∀ (q : List α) (i : Nat) (acc : List α) (d : Array α), acc.length = i → i + q.length = b → d.toList = acc.reverse ++ q → (insOuter lt 0 b i d).toList = (q.foldl (fun acc x => insR lt x acc) acc).reverse
  | [], i, acc, d, hi, hb, h => by
    rw [insOuter, if_neg (by simp at hb; omega), h]
    simp
  | x :: q, i, acc, d, hi, hb, h => by
    rw [insOuter, if_pos (by simp at hb; omega), List.foldl_cons]
    refine insOuter_at lt b q (i + 1) (insR lt x acc) _ (by rw [insR_length, hi]) (by simp at hb; omega) ?_
    rw [insInner_at lt x q i acc.reverse d (by simpa using hi) h, List.reverse_reverse]
theorem insertionSort_list {α : Type} [Inhabited α] (lt : α → α → Bool) (d : Array α) : (Sort.insertionSort lt d 0 d.size).toList = insSort lt d.toList := by
  unfold Sort.insertionSort insSort
  cases h : d.toList with
  | nil =>
    have hs : d.size = 0 := by rw [← Array.length_toList, h]; rfl
    rw [insOuter, if_neg (by omega), h]
    rfl
  | cons x q =>
    rw [List.foldl_cons]
    refine insOuter_at lt d.size q (0 + 1) [x] d rfl ?_ (by rw [h]; rfl)
    rw [← Array.length_toList, h, List.length_cons]
    omega

/-! the world that the sort leaves -/
theorem heap_sortWorld {α : Type} [Inhabited α] (enc : α → Value) (w : World) (g n : Nat) (d : Array α) (os : Array Obj) (i : Nat) (hi : i < w.heap.size) (hne : i ≠ g) : (sortWorld enc w g 0 n d os).heap[i]? = w.heap[i]? := by
  unfold sortWorld grow putRow mapBlock
  simp only [heap_ahead]
  rw [Array.getElem?_append_left (by simpa using hi), Array.getElem?_modify, if_neg (fun h => hne h.symm)]
theorem heap_sortWorld_at {α : Type} [Inhabited α] (enc : α → Value) (w : World) (g n : Nat) (d : Array α) (os : Array Obj) {cur : Array Value} {e : TypeId} {fr : Nat × Nat} (hh : w.heap[g]? = some (.cells cur e fr)) :
    (sortWorld enc w g 0 n d os).heap[g]? = some (.cells (putCells enc 0 d cur) e fr) := by
  have hi : g < w.heap.size := (Array.getElem?_eq_some_iff.1 hh).1
  unfold sortWorld grow putRow mapBlock
  simp only [heap_ahead]
  rw [Array.getElem?_append_left (by simpa using hi), Array.getElem?_modify, if_pos rfl, hh]
  rfl
theorem size_sortWorld {α : Type} [Inhabited α] (enc : α → Value) (w : World) (g n : Nat) (d : Array α) (os : Array Obj) : w.heap.size ≤ (sortWorld enc w g 0 n d os).heap.size := by
  unfold sortWorld grow putRow mapBlock
  simp
theorem grown_sortWorld {α : Type} [Inhabited α] (enc : α → Value) (w : World) (g n : Nat) (d : Array α) (os : Array Obj) : w.grownBy (sortWorld enc w g 0 n d os) (some g) :=
  ⟨rfl, rfl, rfl, size_sortWorld enc w g n d os, fun k hk hne => heap_sortWorld enc w g n d os k hk (fun e => hne (by rw [e]))⟩
/-- The row, put in order. -/
theorem own_sortWorld {α : Type} [Inhabited α] (enc : α → Value) {w : World} {base g n cap : Nat} {e : TypeId} {ys : List Value} (h : w.ownsRow base e 1 (.slice (some ⟨g, 0, none⟩) n cap) n ys) (m : Nat) (d : Array α) (os : Array Obj) (hd : d.size = n) :
    (sortWorld enc w g 0 m d os).ownsRow base e 1 (.slice (some ⟨g, 0, none⟩) n cap) n (d.toList.map enc) := by
  obtain ⟨h1, h2⟩ := h
  rcases h2 with ⟨h2, _⟩ | ⟨g', cap', cur, h2, hb, hh, hnc, hcm, hcs, hct⟩
  · cases h2
  · have hg : g = g' ∧ cap = cap' := by
      injection h2 with h2 h3 h4
      injection h2 with h2
      injection h2 with h2
      exact ⟨h2, h4⟩
    obtain ⟨rfl, rfl⟩ := hg
    refine ⟨by simp [hd], .inr ⟨g, cap, _, rfl, hb, heap_sortWorld_at enc w g m d os hh, hnc, hcm, by simpa [putCells] using hcs, ?_⟩⟩
    have hcs' : cur.size = cap := by simpa using hcs
    apply List.ext_getElem
    · simp [putCells]; omega
    · intro i i1 i2
      have hi : i < d.size := by simpa using i2
      simp only [List.getElem_take, Array.getElem_toList, putCells, Array.getElem_mapIdx]
      rw [if_pos ⟨Nat.zero_le _, by omega⟩, Nat.sub_zero, getElem!_pos d i hi]
      simp
end Go.Proofs
