/- Words for loops that count from i on: the round at i, and what is read there. -/
import Derived.Test.YtmijeihhioiliaaOwn
namespace Go.Proofs.Ytmijeihhioiliaa.Pure
open Go.RowKit

theorem wrap_up {n i : Nat} (h : i < n) (hn : n ≤ 9223372036854775807) : wrap64 ((i : Int) + 1) = ((i + 1 : Nat) : Int) := by unfold wrap64; omega
theorem drop_cons {α : Type} (z : α) (xs : List α) {i : Nat} (h : i < xs.length) : xs.drop i = xs.getD i z :: xs.drop (i + 1) := by
  rw [List.getD_eq_getElem?_getD, List.getElem?_eq_getElem h, Option.getD_some]
  exact List.drop_eq_getElem_cons h
/-- A loop over a list with one state: F k i s is the loop with k rounds left at i; each round either goes on with step or stops with an answer. -/
theorem fold_loop {α σ ρ : Type} (F : Nat → Nat → σ → Option ρ) (E : Nat → σ → Option ρ) (step : σ → α → σ) (xs : List α)
    (hs : ∀ k i s x, xs[i]? = some x → F (k + 1) i s = F k (i + 1) (step s x)) (he : ∀ k s, F (k + 1) xs.length s = E k s) :
    ∀ d i k s, i + d = xs.length → F (k + d + 1) i s = E k ((xs.drop i).foldl step s) := by
  intro d
  induction d with
  | zero => intro i k s h; obtain rfl : i = xs.length := h; rw [List.drop_length]; exact he k s
  | succ d ih =>
    intro i k s h
    have hi : i < xs.length := by omega
    rw [show k + (d + 1) + 1 = (k + d + 1) + 1 by omega, hs (k + d + 1) i s xs[i] (List.getElem?_eq_getElem hi), ih (i + 1) k _ (by omega), List.drop_eq_getElem_cons hi]
    rfl
/-- A loop that looks for the first element at which p holds, and then answers b. -/
theorem any_loop {α ρ : Type} (F : Nat → Nat → Option ρ) (E : Nat → Option ρ) (p : α → Bool) (b : ρ) (xs : List α)
    (ht : ∀ k i x, xs[i]? = some x → p x = true → F (k + 1) i = some b) (hf : ∀ k i x, xs[i]? = some x → p x = false → F (k + 1) i = F k (i + 1)) (he : ∀ k, F (k + 1) xs.length = E k) :
    ∀ d i k, i + d = xs.length → F (k + d + 1) i = if (xs.drop i).any p then some b else E k := by
  intro d
  induction d with
  | zero => intro i k h; obtain rfl : i = xs.length := h; rw [List.drop_length]; simpa using he k
  | succ d ih =>
    intro i k h
    have hi : i < xs.length := by omega
    rw [show k + (d + 1) + 1 = (k + d + 1) + 1 by omega, List.drop_eq_getElem_cons hi, List.any_cons]
    cases hp : p xs[i] with
    | true => rw [ht (k + d + 1) i xs[i] (List.getElem?_eq_getElem hi) hp]; simp
    | false => rw [hf (k + d + 1) i xs[i] (List.getElem?_eq_getElem hi) hp, ih (i + 1) k (by omega)]; simp
/-- .. the first element at which it stops with an answer of its own: g tells it. -/
theorem find_loop {α ρ : Type} (F : Nat → Nat → Option ρ) (E : Nat → Option ρ) (g : Nat → α → Option ρ) (xs : List α)
    (ht : ∀ k i x r, xs[i]? = some x → g i x = some r → F (k + 1) i = some r) (hf : ∀ k i x, xs[i]? = some x → g i x = none → F (k + 1) i = F k (i + 1)) (he : ∀ k, F (k + 1) xs.length = E k) :
    ∀ d i k, i + d = xs.length → F (k + d + 1) i = (((xs.drop i).zipIdx i).findSome? (fun x => g x.2 x.1)).or (E k) := by
  intro d
  induction d with
  | zero => intro i k h; obtain rfl : i = xs.length := h; rw [List.drop_length]; simpa using he k
  | succ d ih =>
    intro i k h
    have hi : i < xs.length := by omega
    rw [show k + (d + 1) + 1 = (k + d + 1) + 1 by omega, List.drop_eq_getElem_cons hi, List.zipIdx_cons, List.findSome?_cons]
    cases hp : g i xs[i] with
    | some r => rw [ht (k + d + 1) i xs[i] r (List.getElem?_eq_getElem hi) hp]; simp
    | none => rw [hf (k + d + 1) i xs[i] (List.getElem?_eq_getElem hi) hp, ih (i + 1) k (by omega)]
end Go.Proofs.Ytmijeihhioiliaa.Pure
