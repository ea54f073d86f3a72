/- What the statement of TimerShares comes to, without Go and memory (written by a program of the session's own). -/
import Derived.Test.YthnihjfdmkfkiaaZx2
import Derived.Test.YthnihjfdmkfkiaaVOpen
namespace Go.Proofs.Ythnihjfdmkfkiaa.Z
open Go.RowKit Go.Proofs.YthnihjfdmkfkiaaW.PrintWords Go.Proofs.YthnihjfdmkfkiaaW.PrintLast Go.Proofs.YthnihjfdmkfkiaaW.PrintMore

set_option linter.unusedVariables false
namespace BTimerShares
def PureU : Prop := ∀ (l0 : List Int) (a1 : Int), ((l0.map (fun _ => 1)).sum + 1) + 1 ≤ 1048576 → (∀ x ∈ l0, (fun n => (Lit.int .i64 n).wf = true) x) → (Lit.int .i64 a1).wf = true → ∃ k, tumblerlaw09_TimerShares.f k l0 a1 = some true
end BTimerShares
end Go.Proofs.Ythnihjfdmkfkiaa.Z
