import Derived.Test.YtbkfnbbngnocbaaWInv
import Derived.Test.YtbkfnbbngnocbaaWFootNe
namespace Go.Proofs.YtbkfnbbngnocbaaW.PrintWords
open Go.RowKit
end Go.Proofs.YtbkfnbbngnocbaaW.PrintWords
namespace Go.Proofs.YtbkfnbbngnocbaaW.PrintLast
section
variable {ops : Array Oper} {a : Act} {o og : Oper} {g : Nat} {t : Tmp} {u : Bool}
end
end Go.Proofs.YtbkfnbbngnocbaaW.PrintLast
