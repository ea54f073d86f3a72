/- What the statement of WirePacks comes to, without Go and memory (written by a program of the session's own). -/
import Derived.Test.YtoflnoaabjomaaaQWirePacks
import Derived.Test.YtoflnoaabjomaaaVOpen
namespace Go.Proofs.Ytoflnoaabjomaaa.Q
open Go.RowKit Go.Proofs.YtoflnoaabjomaaaW.PrintWords Go.Proofs.YtoflnoaabjomaaaW.PrintLast Go.Proofs.YtoflnoaabjomaaaW.PrintMore

set_option linter.unusedVariables false
namespace BWirePacks
def meas_S38 (x : S38) : Nat := 1 + ((x.f1.size + 1)) + 1
def wf_S38 (x : S38) : Prop := True ∧ True
theorem opn_S38 : V.Opn Try.prog 38 k38 meas_S38 wf_S38 := V.Opn.struct Try.underlying38 (by kernel_rfl) (V.OpnF.cons (V.Opn.bool Try.underlying4 (by kernel_rfl)) rfl (V.OpnF.one (V.Opn.string Try.underlying9 (by kernel_rfl)) rfl)) (fun x : S38 => (x.f0, x.f1)) (fun a => ⟨a.1, a.2⟩) (fun _ => rfl)
def PureU : Prop := ∀ (a0 : Int) (l1 : List (S38)), 1 + ((l1.map meas_S38).sum + 1) ≤ 1048576 → (Lit.int .i64 a0).wf = true → (∀ x ∈ l1, wf_S38 x) → tumblerlaw05_WirePacks.f a0 l1 = some true
end BWirePacks
end Go.Proofs.Ytoflnoaabjomaaa.Q
