/- What the statement of WireOwn comes to, without Go and memory (written by a program of the session's own). -/
import Derived.Test.YtoflnoaabjomaaaQWireOwn
import Derived.Test.YtoflnoaabjomaaaVOpen
namespace Go.Proofs.Ytoflnoaabjomaaa.Q
open Go.RowKit Go.Proofs.YtoflnoaabjomaaaW.PrintWords Go.Proofs.YtoflnoaabjomaaaW.PrintLast Go.Proofs.YtoflnoaabjomaaaW.PrintMore

set_option linter.unusedVariables false
namespace BWireOwn
def PureU : Prop := ∀ (l0 : List Int) (a1 : ByteArray), ((l0.map (fun _ => 1)).sum + 1) + (a1.size + 1) ≤ 1048576 → (∀ x ∈ l0, (fun n => (Lit.int .u8 n).wf = true) x) → tumblerlaw05_WireOwn.f l0 a1 = some true
end BWireOwn
end Go.Proofs.Ytoflnoaabjomaaa.Q
