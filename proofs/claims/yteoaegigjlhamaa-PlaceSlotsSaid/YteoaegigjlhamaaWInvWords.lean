import Derived.Test.YteoaegigjlhamaaWInv
import Derived.Test.YteoaegigjlhamaaWFootNe
namespace Go.Proofs.YteoaegigjlhamaaW.PrintWords
open Go.RowKit
end Go.Proofs.YteoaegigjlhamaaW.PrintWords
namespace Go.Proofs.YteoaegigjlhamaaW.PrintLast
section
variable {ops : Array Oper} {a : Act} {o og : Oper} {g : Nat} {t : Tmp} {u : Bool}
end
end Go.Proofs.YteoaegigjlhamaaW.PrintLast
