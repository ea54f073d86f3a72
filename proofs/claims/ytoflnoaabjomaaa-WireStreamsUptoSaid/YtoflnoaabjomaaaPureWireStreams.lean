/- PLAIN SENTENCE OF WireStreams -/
import Derived.Test.YtoflnoaabjomaaaQBWireStreams
namespace Go.Proofs.Ytoflnoaabjomaaa.Pure
open Go.RowKit Go.Proofs.Ytoflnoaabjomaaa.Q Go.Proofs.YtoflnoaabjomaaaW.PrintWords Go.Proofs.YtoflnoaabjomaaaW.PrintLast Go.Proofs.YtoflnoaabjomaaaW.PrintMore

theorem wf_u8 {y : Int} (h : (Lit.int .u8 y).wf = true) : 0 ≤ y ∧ y ≤ 255 := by
  simpa [Lit.wf, IntKind.min, IntKind.max, IntKind.signed, IntKind.bits] using h

/- ∀ (a0 : Int) (l1 : List (List Int)) (l2 : List Bool), 1 + ((l1.map (fun xs => (xs.map (fun _ => 1)).sum + 1)).sum + 1) + ((l2.map (fun _ => 1)).sum + 1) ≤ 1048576 → (Lit.int .i64 a0).wf = true → (∀ x ∈ l1, (fun xs => ∀ x ∈ xs, (fun n => (Lit.int .u8 n).wf = true) x) x) → tumblerlaw05_WireStreams.f a0 l1 l2 = some true -/
theorem WireStreams : BWireStreams.PureU := by
  intro a0 l1 l2 h _ hw; unfold tumblerlaw05_WireStreams.f; rw [if_pos ⟨h, fun x hx y hy => wf_u8 (hw x hx y hy)⟩]

end Go.Proofs.Ytoflnoaabjomaaa.Pure
