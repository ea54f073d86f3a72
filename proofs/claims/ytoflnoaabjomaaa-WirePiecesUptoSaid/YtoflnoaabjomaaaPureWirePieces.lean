/- For every limit, bytes and place of a cut of at most 1048576 cells together, WirePieces answers true: a stream's lines, end and losses do not hang on how its bytes are cut. -/
import Derived.Test.YtoflnoaabjomaaaQBWirePieces
namespace Go.Proofs.Ytoflnoaabjomaaa.Pure
open Go.RowKit Go.Proofs.Ytoflnoaabjomaaa.Q Go.Proofs.YtoflnoaabjomaaaW.PrintWords Go.Proofs.YtoflnoaabjomaaaW.PrintLast Go.Proofs.YtoflnoaabjomaaaW.PrintMore

/- ∀ (a0 : Int) (l1 : List Int) (a2 : Int), 1 + ((l1.map (fun _ => 1)).sum + 1) + 1 ≤ 1048576 → (Lit.int .i64 a0).wf = true → (∀ x ∈ l1, (fun n => (Lit.int .u8 n).wf = true) x) → (Lit.int .i64 a2).wf = true → tumblerlaw05_WirePieces.f a0 l1 a2 = some true -/
theorem WirePieces : BWirePieces.PureU := by
  intro a0 l1 a2 h _ _ _; exact if_pos h

end Go.Proofs.Ytoflnoaabjomaaa.Pure
