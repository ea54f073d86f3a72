/- What the statement of TimerShuffles comes to, without Go and memory (written by a program of the session's own). -/
import Derived.Test.YthnihjfdmkfkiaaHx7
import Derived.Test.YthnihjfdmkfkiaaVOpen
namespace Go.Proofs.Ythnihjfdmkfkiaa.H
open Go.RowKit Go.Proofs.YthnihjfdmkfkiaaW.PrintWords Go.Proofs.YthnihjfdmkfkiaaW.PrintLast Go.Proofs.YthnihjfdmkfkiaaW.PrintMore

set_option linter.unusedVariables false
namespace BTimerShuffles
def PureU : Prop := ∀ (l0 : List Int) (a1 : Int) (a2 : Int) (l3 : List Int), ((l0.map (fun _ => 1)).sum + 1) + 1 + 1 + ((l3.map (fun _ => 1)).sum + 1) ≤ 1048576 → (∀ x ∈ l0, (fun n => (Lit.int .i64 n).wf = true) x) → (Lit.int .i64 a1).wf = true → (Lit.int .i64 a2).wf = true → (∀ x ∈ l3, (fun n => (Lit.int .i64 n).wf = true) x) → ∃ k, tumblerlaw09_TimerShuffles.f k l0 a1 a2 l3 = some true
end BTimerShuffles
end Go.Proofs.Ythnihjfdmkfkiaa.H
