/- What the statement of TimerHalves comes to, without Go and memory (written by a program of the session's own). -/
import Derived.Test.YthnihjfdmkfkiaaYx1
import Derived.Test.YthnihjfdmkfkiaaVOpen
namespace Go.Proofs.Ythnihjfdmkfkiaa.Y
open Go.RowKit Go.Proofs.YthnihjfdmkfkiaaW.PrintWords Go.Proofs.YthnihjfdmkfkiaaW.PrintLast Go.Proofs.YthnihjfdmkfkiaaW.PrintMore

set_option linter.unusedVariables false
namespace BTimerHalves
def PureU : Prop := ∀ (l0 : List Int) (a1 : Int), ((l0.map (fun _ => 1)).sum + 1) + 1 ≤ 1048576 → (∀ x ∈ l0, (fun n => (Lit.int .i64 n).wf = true) x) → (Lit.int .i64 a1).wf = true → tumblerlaw09_TimerHalves.f l0 a1 = some true
end BTimerHalves
end Go.Proofs.Ythnihjfdmkfkiaa.Y
