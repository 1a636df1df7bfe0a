/- The plain functions of this seat's Go text and, for each, that the call comes to what its plain function says: written for this claim by a program of the session (drv.py) over the kit's print.py. -/
import Derived.Test.YtidhhbmmlljhfaaProg
import Derived.Below
import Derived.Deep.Draws
import Derived.Deep.AppendLies
import Derived.Maps.AppendAt
import Derived.OwnWalk
import Derived.Laws.BytesArg
import Derived.Laws.MakeOwn
import Derived.Laws.OwnMore
import Derived.Deep.OwnRows
import Derived.Tactics
import Derived.Lib.ConvBytes
import Derived.Laws.Slices
import Derived.WalkKit
import Derived.KernelRfl
import Derived.RowKit3
import Derived.Deep.LoopGhost
import Derived.Deep.QuietTactic
import Derived.BigQuiet
import Derived.WideLaws
import Derived.Deep.DeepCutAuto
import Derived.Deep.CutBlock
import Derived.Deep.RegionHeld3
import Derived.Laws.Rows
import Derived.Lib.AppendStr
import Derived.ArgAppend
import Derived.Laws.IdiomCopy
import Derived.OrdersHeld
import Derived.Laws.BitsLemmas
import Derived.RowKit
import Derived.Test.YtidhhbmmlljhfaaWWords
import Derived.Test.YtidhhbmmlljhfaaWLast
import Derived.Test.YtidhhbmmlljhfaaWTab
import Derived.Test.YtidhhbmmlljhfaaWFour
import Derived.Test.YtidhhbmmlljhfaaWQPut
import Derived.Test.YtidhhbmmlljhfaaWApart
import Derived.Test.YtidhhbmmlljhfaaWArr
import Derived.Test.YtidhhbmmlljhfaaWZeros
import Derived.Test.YtidhhbmmlljhfaaWFoot
import Derived.Test.YtidhhbmmlljhfaaWKept
import Derived.Test.YtidhhbmmlljhfaaWShare
import Derived.Test.YtidhhbmmlljhfaaWN
import Derived.Test.YtidhhbmmlljhfaaWFootNe
import Derived.Test.YtidhhbmmlljhfaaWAt
import Derived.Test.YtidhhbmmlljhfaaWEqStruct
import Derived.Test.YtidhhbmmlljhfaaWRepsOne
import Derived.Test.YtidhhbmmlljhfaaWInv
import Derived.Test.YtidhhbmmlljhfaaWInvWords
import Derived.Test.YtidhhbmmlljhfaaWGuard
import Derived.Test.YtidhhbmmlljhfaaWNEv
import Derived.Test.YtidhhbmmlljhfaaWMore
namespace Go.Proofs.Ytidhhbmmlljhfaa.G
open Go.RowKit Go.Proofs.YtidhhbmmlljhfaaW.PrintWords Go.Proofs.YtidhhbmmlljhfaaW.PrintLast Go.Proofs.YtidhhbmmlljhfaaW.PrintMore
attribute [local go_sem] max2_int min2_int max_two min_two max_three min_three max_four min_four   -- for this text's walks alone
set_option linter.unusedVariables false
set_option linter.unusedSimpArgs false



def errW : Option Int → Value
 | none => .nilIface
 | some c => .iface 0 (.int .i64 c)
theorem errW_none : errW none = .nilIface := rfl
theorem errW_some (c : Int) : errW (some c) = .iface 0 (.int .i64 c) := rfl

-- the values' own types

end Go.Proofs.Ytidhhbmmlljhfaa.G
