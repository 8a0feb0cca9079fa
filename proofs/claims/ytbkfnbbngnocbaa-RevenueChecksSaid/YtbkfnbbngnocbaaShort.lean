/- A short word for a long step of the print: a block that holds a cell lies below all later ones. -/
import Derived.Test.YtbkfnbbngnocbaaWWords
namespace Go.Proofs
open Go.RowKit
theorem nf_ {w : World} {b : Addr} {v : Value} {g : Nat} (h : w.cell? b = some v) (k : w.heap.size ≤ g) : b.block ≠ g := Nat.ne_of_lt (Nat.lt_of_lt_of_le (World.block_lt_of_cell? _ _ h) k)
end Go.Proofs
