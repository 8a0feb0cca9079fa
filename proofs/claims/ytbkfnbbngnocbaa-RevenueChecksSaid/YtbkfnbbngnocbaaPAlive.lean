/- The examples of the chapter hold: the program's own answers, computed by the kernel. -/
import Derived.Test.YtbkfnbbngnocbaaPx13
namespace Go.Proofs.Ytbkfnbbngnocbaa.Px
open Go.RowKit Go.Proofs.YtbkfnbbngnocbaaW.PrintWords
theorem alive_ev : Ev (fun k => skiarealaw35_alive.f k) true := Ev.of (fun k => skiarealaw35_alive.mono k) (k := 200) (by decide +kernel)
end Go.Proofs.Ytbkfnbbngnocbaa.Px
