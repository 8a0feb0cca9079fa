/- The examples of the chapter hold: the program's own answers, computed by the kernel. -/
import Derived.Test.YtamockdikeadnaaPx10
namespace Go.Proofs.Ytamockdikeadnaa.Px
open Go.RowKit Go.Proofs.YtamockdikeadnaaW.PrintWords
theorem alive_ev : Ev (fun k => skiarealaw34_alive.f k) true := Ev.of (fun k => skiarealaw34_alive.mono k) (k := 100) (by decide +kernel)
end Go.Proofs.Ytamockdikeadnaa.Px
