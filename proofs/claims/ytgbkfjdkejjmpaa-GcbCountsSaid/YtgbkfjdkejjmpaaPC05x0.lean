/- For the laws of the group C05: the Lean functions that the Go functions compute, and proofs that they do. Written by wip/hprint.py of this repo over the kit's printer; nothing here is trusted: Lean checks it. -/
import Derived.Test.YtgbkfjdkejjmpaaProg
import Derived.Below
import Derived.Deep.Draws
import Derived.Deep.AppendLies
import Derived.Maps.AppendAt
import Derived.OwnWalk
import Derived.Laws.BytesArg
import Derived.Laws.MakeOwn
import Derived.Laws.OwnMore
import Derived.Deep.OwnRows
import Derived.Tactics
import Derived.Lib.ConvBytes
import Derived.Laws.Slices
import Derived.WalkKit
import Derived.KernelRfl
import Derived.RowKit3
import Derived.Deep.LoopGhost
import Derived.Deep.QuietTactic
import Derived.BigQuiet
import Derived.WideLaws
import Derived.Deep.DeepCutAuto
import Derived.Deep.CutBlock
import Derived.Deep.RegionHeld3
import Derived.Laws.Rows
import Derived.Lib.AppendStr
import Derived.ArgAppend
import Derived.Laws.IdiomCopy
import Derived.OrdersHeld
import Derived.Laws.BitsLemmas
import Derived.RowKit
import Derived.Test.YtgbkfjdkejjmpaaHArr
import Derived.Test.YtgbkfjdkejjmpaaHKit
import Derived.Test.YtgbkfjdkejjmpaaWWords
import Derived.Test.YtgbkfjdkejjmpaaWLast
import Derived.Test.YtgbkfjdkejjmpaaWTab
import Derived.Test.YtgbkfjdkejjmpaaWFour
import Derived.Test.YtgbkfjdkejjmpaaWQPut
import Derived.Test.YtgbkfjdkejjmpaaWApart
import Derived.Test.YtgbkfjdkejjmpaaWArr
import Derived.Test.YtgbkfjdkejjmpaaWZeros
import Derived.Test.YtgbkfjdkejjmpaaWFoot
import Derived.Test.YtgbkfjdkejjmpaaWKept
import Derived.Test.YtgbkfjdkejjmpaaWShare
import Derived.Test.YtgbkfjdkejjmpaaWN
import Derived.Test.YtgbkfjdkejjmpaaWFootNe
import Derived.Test.YtgbkfjdkejjmpaaWAt
import Derived.Test.YtgbkfjdkejjmpaaWEqStruct
import Derived.Test.YtgbkfjdkejjmpaaWRepsOne
import Derived.Test.YtgbkfjdkejjmpaaWInv
import Derived.Test.YtgbkfjdkejjmpaaWInvWords
import Derived.Test.YtgbkfjdkejjmpaaWGuard
import Derived.Test.YtgbkfjdkejjmpaaWNEv
import Derived.Test.YtgbkfjdkejjmpaaWMore
namespace Go.Proofs.Ytgbkfjdkejjmpaa.PC05
open Go.RowKit Go.Proofs.YtgbkfjdkejjmpaaW.PrintWords Go.Proofs.YtgbkfjdkejjmpaaW.PrintLast Go.Proofs.YtgbkfjdkejjmpaaW.PrintMore
attribute [local go_sem] max2_int min2_int max_two min_two max_three min_three max_four min_four   -- for this text's walks alone
set_option linter.unusedVariables false
set_option linter.unusedSimpArgs false



def errW : Option Int → Value
  | none => .nilIface
  | some c => .iface 0 (.int .i64 c)
theorem errW_none : errW none = .nilIface := rfl
theorem errW_some (c : Int) : errW (some c) = .iface 0 (.int .i64 c) := rfl

theorem info3 : (Try.prog.info? 3).map (fun i => (i.zero, i.size, i.bytes)) = some (some (.int .i64 0), 1, 8) := by kernel_rfl
-- the values' own types

end Go.Proofs.Ytgbkfjdkejjmpaa.PC05
