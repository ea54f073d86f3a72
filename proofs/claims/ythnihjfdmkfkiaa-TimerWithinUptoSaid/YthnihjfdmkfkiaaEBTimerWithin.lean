/- What the statement of TimerWithin comes to, without Go and memory (written by a program of the session's own). -/
import Derived.Test.YthnihjfdmkfkiaaEx1
import Derived.Test.YthnihjfdmkfkiaaVOpen
namespace Go.Proofs.Ythnihjfdmkfkiaa.E
open Go.RowKit Go.Proofs.YthnihjfdmkfkiaaW.PrintWords Go.Proofs.YthnihjfdmkfkiaaW.PrintLast Go.Proofs.YthnihjfdmkfkiaaW.PrintMore

set_option linter.unusedVariables false
namespace BTimerWithin
def PureU : Prop := ∀ (l0 : List Int), ((l0.map (fun _ => 1)).sum + 1) ≤ 1048576 → (∀ x ∈ l0, (fun n => (Lit.int .i64 n).wf = true) x) → tumblerlaw09_TimerWithin.f l0 = some true
end BTimerWithin
end Go.Proofs.Ythnihjfdmkfkiaa.E
