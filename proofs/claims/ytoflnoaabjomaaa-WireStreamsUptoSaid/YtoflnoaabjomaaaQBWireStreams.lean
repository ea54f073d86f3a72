/- What the statement of WireStreams comes to, without Go and memory (written by a program of the session's own). -/
import Derived.Test.YtoflnoaabjomaaaQWireStreams
import Derived.Test.YtoflnoaabjomaaaVOpen
namespace Go.Proofs.Ytoflnoaabjomaaa.Q
open Go.RowKit Go.Proofs.YtoflnoaabjomaaaW.PrintWords Go.Proofs.YtoflnoaabjomaaaW.PrintLast Go.Proofs.YtoflnoaabjomaaaW.PrintMore

set_option linter.unusedVariables false
namespace BWireStreams
def PureU : Prop := ∀ (a0 : Int) (l1 : List (List Int)) (l2 : List Bool), 1 + ((l1.map (fun xs => (xs.map (fun _ => 1)).sum + 1)).sum + 1) + ((l2.map (fun _ => 1)).sum + 1) ≤ 1048576 → (Lit.int .i64 a0).wf = true → (∀ x ∈ l1, (fun xs => ∀ x ∈ xs, (fun n => (Lit.int .u8 n).wf = true) x) x) → tumblerlaw05_WireStreams.f a0 l1 l2 = some true
end BWireStreams
end Go.Proofs.Ytoflnoaabjomaaa.Q
