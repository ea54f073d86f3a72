/- A text of this claim: functions of the program as Lean functions, each with its contract; written by a program of the session's own over the kit's print. -/
import Derived.Test.YtoakooebmnjkhaaProg
import Derived.Below
import Derived.Deep.Draws
import Derived.Deep.AppendLies
import Derived.Maps.AppendAt
import Derived.OwnWalk
import Derived.Laws.BytesArg
import Derived.Laws.MakeOwn
import Derived.Laws.OwnMore
import Derived.Deep.OwnRows
import Derived.Tactics
import Derived.Lib.ConvBytes
import Derived.Laws.Slices
import Derived.WalkKit
import Derived.KernelRfl
import Derived.RowKit3
import Derived.Deep.LoopGhost
import Derived.Deep.QuietTactic
import Derived.BigQuiet
import Derived.WideLaws
import Derived.Deep.DeepCutAuto
import Derived.Deep.CutBlock
import Derived.Deep.RegionHeld3
import Derived.Laws.Rows
import Derived.Lib.AppendStr
import Derived.ArgAppend
import Derived.Laws.IdiomCopy
import Derived.OrdersHeld
import Derived.Laws.BitsLemmas
import Derived.RowKit
import Derived.Test.YtoakooebmnjkhaaMath
import Derived.Test.YtoakooebmnjkhaaWWords
import Derived.Test.YtoakooebmnjkhaaWLast
import Derived.Test.YtoakooebmnjkhaaWTab
import Derived.Test.YtoakooebmnjkhaaWFour
import Derived.Test.YtoakooebmnjkhaaWQPut
import Derived.Test.YtoakooebmnjkhaaWApart
import Derived.Test.YtoakooebmnjkhaaWArr
import Derived.Test.YtoakooebmnjkhaaWZeros
import Derived.Test.YtoakooebmnjkhaaWFoot
import Derived.Test.YtoakooebmnjkhaaWKept
import Derived.Test.YtoakooebmnjkhaaWShare
import Derived.Test.YtoakooebmnjkhaaWN
import Derived.Test.YtoakooebmnjkhaaWFootNe
import Derived.Test.YtoakooebmnjkhaaWAt
import Derived.Test.YtoakooebmnjkhaaWEqStruct
import Derived.Test.YtoakooebmnjkhaaWRepsOne
import Derived.Test.YtoakooebmnjkhaaWInv
import Derived.Test.YtoakooebmnjkhaaWInvWords
import Derived.Test.YtoakooebmnjkhaaWGuard
import Derived.Test.YtoakooebmnjkhaaWNEv
import Derived.Test.YtoakooebmnjkhaaWMore
import Derived.Test.YtoakooebmnjkhaaVMake
namespace Go.Proofs.Ytoakooebmnjkhaa.Q
open Go.RowKit Go.Proofs.YtoakooebmnjkhaaW.PrintWords Go.Proofs.YtoakooebmnjkhaaW.PrintLast Go.Proofs.YtoakooebmnjkhaaW.PrintMore
attribute [local go_sem] max2_int min2_int max_two min_two max_three min_three max_four min_four   -- for this text's walks alone
set_option linter.unusedVariables false
set_option linter.unusedSimpArgs false



def errW : Option Int → Value
  | none => .nilIface
  | some c => .iface 0 (.int .i64 c)
theorem errW_none : errW none = .nilIface := rfl
theorem errW_some (c : Int) : errW (some c) = .iface 0 (.int .i64 c) := rfl

theorem info2 : (Try.prog.info? 2).map (fun i => (i.zero, i.size, i.bytes)) = some (some (.int .i64 0), 1, 8) := by kernel_rfl
-- the values' own types

end Go.Proofs.Ytoakooebmnjkhaa.Q
