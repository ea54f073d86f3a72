/- For every bytes and line of at most 1048576 cells together, WireOwn answers true: what is handed to a stream or a packer, and what it hands out, is one's own. -/
import Derived.Test.YtoflnoaabjomaaaQBWireOwn
namespace Go.Proofs.Ytoflnoaabjomaaa.Pure
open Go.RowKit Go.Proofs.Ytoflnoaabjomaaa.Q Go.Proofs.YtoflnoaabjomaaaW.PrintWords Go.Proofs.YtoflnoaabjomaaaW.PrintLast Go.Proofs.YtoflnoaabjomaaaW.PrintMore

/- ∀ (l0 : List Int) (a1 : ByteArray), ((l0.map (fun _ => 1)).sum + 1) + (a1.size + 1) ≤ 1048576 → (∀ x ∈ l0, (fun n => (Lit.int .u8 n).wf = true) x) → tumblerlaw05_WireOwn.f l0 a1 = some true -/
theorem wf_u8 {y : Int} (h : (Lit.int .u8 y).wf = true) : 0 ≤ y ∧ y ≤ 255 := by
  simpa [Lit.wf, IntKind.min, IntKind.max, IntKind.signed, IntKind.bits] using h

/- ∀ (a0 : Int) (l1 : List (List Int)) (l2 : List Bool), 1 + ((l1.map (fun xs => (xs.map (fun _ => 1)).sum + 1)).sum + 1) + ((l2.map (fun _ => 1)).sum + 1) ≤ 1048576 → (Lit.int .i64 a0).wf = true → (∀ x ∈ l1, (fun xs => ∀ x ∈ xs, (fun n => (Lit.int .u8 n).wf = true) x) x) → tumblerlaw05_WireStreams.f a0 l1 l2 = some true -/
theorem WireOwn : BWireOwn.PureU := by
  intro l0 a1 h hu
  exact if_pos ⟨h, fun x hx => wf_u8 (hu x hx)⟩

end Go.Proofs.Ytoflnoaabjomaaa.Pure
