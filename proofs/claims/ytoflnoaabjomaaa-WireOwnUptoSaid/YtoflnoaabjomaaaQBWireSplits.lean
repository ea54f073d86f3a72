/- What the statement of WireSplits comes to, without Go and memory (written by a program of the session's own). -/
import Derived.Test.YtoflnoaabjomaaaQx2
import Derived.Test.YtoflnoaabjomaaaVOpen
namespace Go.Proofs.Ytoflnoaabjomaaa.Q
open Go.RowKit Go.Proofs.YtoflnoaabjomaaaW.PrintWords Go.Proofs.YtoflnoaabjomaaaW.PrintLast Go.Proofs.YtoflnoaabjomaaaW.PrintMore

set_option linter.unusedVariables false
namespace BWireSplits
def PureU : Prop := ∀ (l0 : List Int), ((l0.map (fun _ => 1)).sum + 1) ≤ 1048576 → (∀ x ∈ l0, (fun n => (Lit.int .u8 n).wf = true) x) → ∃ k, tumblerlaw05_WireSplits.f k l0 = some true
end BWireSplits
end Go.Proofs.Ytoflnoaabjomaaa.Q
