/- What the statement of TimerTells comes to, without Go and memory (written by a program of the session's own). -/
import Derived.Test.YthnihjfdmkfkiaaTx2
import Derived.Test.YthnihjfdmkfkiaaVOpen
namespace Go.Proofs.Ythnihjfdmkfkiaa.T
open Go.RowKit Go.Proofs.YthnihjfdmkfkiaaW.PrintWords Go.Proofs.YthnihjfdmkfkiaaW.PrintLast Go.Proofs.YthnihjfdmkfkiaaW.PrintMore

set_option linter.unusedVariables false
namespace BTimerTells
def PureU : Prop := ∀ (l0 : List Int), ((l0.map (fun _ => 1)).sum + 1) ≤ 1048576 → (∀ x ∈ l0, (fun n => (Lit.int .i64 n).wf = true) x) → tumblerlaw09_TimerTells.f l0 = some true
end BTimerTells
end Go.Proofs.Ythnihjfdmkfkiaa.T
