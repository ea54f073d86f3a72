/- A text of this claim: functions of the program as Lean functions, each with its contract; written by a program of the session's own over the kit's print. -/
import Derived.Test.YtecfmmalbehcnaaDoorProg
import Derived.Below
import Derived.Deep.Draws
import Derived.Deep.AppendLies
import Derived.Maps.AppendAt
import Derived.OwnWalk
import Derived.Laws.BytesArg
import Derived.Laws.MakeOwn
import Derived.Laws.OwnMore
import Derived.Deep.OwnRows
import Derived.Tactics
import Derived.Lib.ConvBytes
import Derived.Laws.Slices
import Derived.WalkKit
import Derived.KernelRfl
import Derived.RowKit3
import Derived.Deep.LoopGhost
import Derived.Deep.QuietTactic
import Derived.BigQuiet
import Derived.WideLaws
import Derived.Deep.DeepCutAuto
import Derived.Deep.CutBlock
import Derived.Deep.RegionHeld3
import Derived.Laws.Rows
import Derived.Lib.AppendStr
import Derived.ArgAppend
import Derived.Laws.IdiomCopy
import Derived.OrdersHeld
import Derived.Laws.BitsLemmas
import Derived.RowKit
import Derived.Test.YtecfmmalbehcnaaDoorWWords
import Derived.Test.YtecfmmalbehcnaaDoorWLast
import Derived.Test.YtecfmmalbehcnaaDoorWTab
import Derived.Test.YtecfmmalbehcnaaDoorWFour
import Derived.Test.YtecfmmalbehcnaaDoorWQPut
import Derived.Test.YtecfmmalbehcnaaDoorWApart
import Derived.Test.YtecfmmalbehcnaaDoorWArr
import Derived.Test.YtecfmmalbehcnaaDoorWZeros
import Derived.Test.YtecfmmalbehcnaaDoorWFoot
import Derived.Test.YtecfmmalbehcnaaDoorWKept
import Derived.Test.YtecfmmalbehcnaaDoorWShare
import Derived.Test.YtecfmmalbehcnaaDoorWN
import Derived.Test.YtecfmmalbehcnaaDoorWFootNe
import Derived.Test.YtecfmmalbehcnaaDoorWAt
import Derived.Test.YtecfmmalbehcnaaDoorWEqStruct
import Derived.Test.YtecfmmalbehcnaaDoorWRepsOne
import Derived.Test.YtecfmmalbehcnaaDoorWInv
import Derived.Test.YtecfmmalbehcnaaDoorWInvWords
import Derived.Test.YtecfmmalbehcnaaDoorWGuard
import Derived.Test.YtecfmmalbehcnaaDoorWNEv
import Derived.Test.YtecfmmalbehcnaaDoorWMore
import Derived.Test.YtecfmmalbehcnaaDoorVExt
import Derived.Test.YtecfmmalbehcnaaDoorVMake
import Derived.Test.YtecfmmalbehcnaaDoorVObj
import Derived.Test.YtecfmmalbehcnaaDoorVOpen
namespace Go.Proofs.YtecfmmalbehcnaaDoor.T
open Go.RowKit Go.Proofs.YtecfmmalbehcnaaDoorW.PrintWords Go.Proofs.YtecfmmalbehcnaaDoorW.PrintLast Go.Proofs.YtecfmmalbehcnaaDoorW.PrintMore
attribute [local go_sem] max2_int min2_int max_two min_two max_three min_three max_four min_four   -- for this text's walks alone
set_option linter.unusedVariables false
set_option linter.unusedSimpArgs false



def errW : Option Int → Value
  | none => .nilIface
  | some c => .iface 0 (.int .i64 c)
theorem errW_none : errW none = .nilIface := rfl
theorem errW_some (c : Int) : errW (some c) = .iface 0 (.int .i64 c) := rfl

-- the values' own types

end Go.Proofs.YtecfmmalbehcnaaDoor.T
