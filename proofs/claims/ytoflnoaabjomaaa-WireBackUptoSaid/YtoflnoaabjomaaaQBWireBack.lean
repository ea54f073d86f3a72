/- What the statement of WireBack comes to, without Go and memory (written by a program of the session's own). -/
import Derived.Test.YtoflnoaabjomaaaQWireBack
import Derived.Test.YtoflnoaabjomaaaVOpen
namespace Go.Proofs.Ytoflnoaabjomaaa.Q
open Go.RowKit Go.Proofs.YtoflnoaabjomaaaW.PrintWords Go.Proofs.YtoflnoaabjomaaaW.PrintLast Go.Proofs.YtoflnoaabjomaaaW.PrintMore

set_option linter.unusedVariables false
namespace BWireBack
def PureU : Prop := ∀ (a0 : Int) (l1 : List ByteArray), 1 + ((l1.map (fun s => s.size + 1)).sum + 1) ≤ 1048576 → (Lit.int .i64 a0).wf = true → tumblerlaw05_WireBack.f a0 l1 = some true
end BWireBack
end Go.Proofs.Ytoflnoaabjomaaa.Q
