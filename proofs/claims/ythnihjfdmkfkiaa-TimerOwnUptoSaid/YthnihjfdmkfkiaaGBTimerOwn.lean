/- What the statement of TimerOwn comes to, without Go and memory (written by a program of the session's own). -/
import Derived.Test.YthnihjfdmkfkiaaGx10
import Derived.Test.YthnihjfdmkfkiaaVOpen
namespace Go.Proofs.Ythnihjfdmkfkiaa.G
open Go.RowKit Go.Proofs.YthnihjfdmkfkiaaW.PrintWords Go.Proofs.YthnihjfdmkfkiaaW.PrintLast Go.Proofs.YthnihjfdmkfkiaaW.PrintMore

set_option linter.unusedVariables false
namespace BTimerOwn
def PureU : Prop := ∀ (l0 : List Int) (l1 : List Int), ((l0.map (fun _ => 1)).sum + 1) + ((l1.map (fun _ => 1)).sum + 1) ≤ 1048576 → (∀ x ∈ l0, (fun n => (Lit.int .i64 n).wf = true) x) → (∀ x ∈ l1, (fun n => (Lit.int .i64 n).wf = true) x) → ∃ k, tumblerlaw09_TimerOwn.f k l0 l1 = some true
end BTimerOwn
end Go.Proofs.Ythnihjfdmkfkiaa.G
