/- PLAIN SENTENCE OF WirePacks -/
import Derived.Test.YtoflnoaabjomaaaQBWirePacks
namespace Go.Proofs.Ytoflnoaabjomaaa.Pure
open Go.RowKit Go.Proofs.Ytoflnoaabjomaaa.Q Go.Proofs.YtoflnoaabjomaaaW.PrintWords Go.Proofs.YtoflnoaabjomaaaW.PrintLast Go.Proofs.YtoflnoaabjomaaaW.PrintMore

/- ∀ (a0 : Int) (l1 : List (S38)), 1 + ((l1.map meas_S38).sum + 1) ≤ 1048576 → (Lit.int .i64 a0).wf = true → (∀ x ∈ l1, wf_S38 x) → tumblerlaw05_WirePacks.f a0 l1 = some true -/
theorem WirePacks : BWirePacks.PureU := by
  intro a0 l1 h _ _; exact if_pos h

end Go.Proofs.Ytoflnoaabjomaaa.Pure
