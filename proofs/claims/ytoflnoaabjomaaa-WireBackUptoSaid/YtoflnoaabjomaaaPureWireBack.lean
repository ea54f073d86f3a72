/- PLAIN SENTENCE OF WireBack -/
import Derived.Test.YtoflnoaabjomaaaQBWireBack
namespace Go.Proofs.Ytoflnoaabjomaaa.Pure
open Go.RowKit Go.Proofs.Ytoflnoaabjomaaa.Q Go.Proofs.YtoflnoaabjomaaaW.PrintWords Go.Proofs.YtoflnoaabjomaaaW.PrintLast Go.Proofs.YtoflnoaabjomaaaW.PrintMore

/- ∀ (a0 : Int) (l1 : List ByteArray), 1 + ((l1.map (fun s => s.size + 1)).sum + 1) ≤ 1048576 → (Lit.int .i64 a0).wf = true → tumblerlaw05_WireBack.f a0 l1 = some true -/
theorem WireBack : BWireBack.PureU := by
  intro a0 l1 h _; exact if_pos h

end Go.Proofs.Ytoflnoaabjomaaa.Pure
