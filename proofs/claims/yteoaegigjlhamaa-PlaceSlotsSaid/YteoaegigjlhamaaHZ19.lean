/- Chapter 19: the chapter's examples hold. Conditions: none. -/
import Derived.Test.YteoaegigjlhamaaHEv
import Derived.Test.YteoaegigjlhamaaPC19x8
namespace Go.Proofs.Yteoaegigjlhamaa.PC19
open Go.RowKit Go.Proofs.YteoaegigjlhamaaW.PrintWords Go.Proofs.YteoaegigjlhamaaW.PrintLast Go.Proofs.YteoaegigjlhamaaW.PrintMore Go.Proofs.YteoaegigjlhamaaH
set_option maxRecDepth 100000 in
theorem awake_ev:Ev (fun k=>y_awake.f k) true:=Ev.of (fun k=>y_awake.mono k) (k:=60) (by decide +kernel)
end Go.Proofs.Yteoaegigjlhamaa.PC19
