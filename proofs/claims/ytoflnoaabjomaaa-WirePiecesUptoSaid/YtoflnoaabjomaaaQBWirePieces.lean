/- What the statement of WirePieces comes to, without Go and memory (written by a program of the session's own). -/
import Derived.Test.YtoflnoaabjomaaaQWirePieces
import Derived.Test.YtoflnoaabjomaaaVOpen
namespace Go.Proofs.Ytoflnoaabjomaaa.Q
open Go.RowKit Go.Proofs.YtoflnoaabjomaaaW.PrintWords Go.Proofs.YtoflnoaabjomaaaW.PrintLast Go.Proofs.YtoflnoaabjomaaaW.PrintMore

set_option linter.unusedVariables false
namespace BWirePieces
def PureU : Prop := ∀ (a0 : Int) (l1 : List Int) (a2 : Int), 1 + ((l1.map (fun _ => 1)).sum + 1) + 1 ≤ 1048576 → (Lit.int .i64 a0).wf = true → (∀ x ∈ l1, (fun n => (Lit.int .u8 n).wf = true) x) → (Lit.int .i64 a2).wf = true → tumblerlaw05_WirePieces.f a0 l1 a2 = some true
end BWirePieces
end Go.Proofs.Ytoflnoaabjomaaa.Q
