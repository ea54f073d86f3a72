import Derived.Test.YtoakooebmnjkhaaLPlays
import Derived.Test.YtoakooebmnjkhaaVOpen
namespace Go.Proofs.Ytoakooebmnjkhaa.Q
open Go.RowKit Go.Proofs.YtoakooebmnjkhaaW.PrintWords Go.Proofs.YtoakooebmnjkhaaW.PrintLast Go.Proofs.YtoakooebmnjkhaaW.PrintMore Go.Proofs.YtoakooebmnjkhaaV
set_option linter.unusedVariables false
set_option linter.unusedSimpArgs false

/-- Cells of one kind as cells of another. -/
theorem Opn_map {α β : Type} {P : Program} {T : TypeId} {d : Kd α} {m : α → Nat} {wf : α → Prop} (h : V.Opn P T d m wf) (d' : Kd β) (m' : β → Nat) (wf' : β → Prop) (hs : d.sz = d'.sz) (hf : ∀ w a cs, d.K w a cs → wf a → ∃ b, d'.K w b cs ∧ m' b ≤ m a ∧ wf' b) : V.Opn P T d' m' wf' :=
  ⟨h.size.trans hs, fun ht => by
    obtain ⟨a, hk, hm, hw⟩ := h.opn ht
    obtain ⟨b, h1, h2, h3⟩ := hf _ a _ hk hw
    exact ⟨b, h1, Nat.le_trans h2 hm, h3⟩⟩
theorem opnOW0 : ∃ m : Int × Int → Nat, V.Opn Try.prog 50 (Kd.iso (Kd.pair (Kd.int .i64) (Kd.int .i64)) (fun x : Int × Int => x)) m (fun x : Int × Int => (Lit.int .i64 x.1).wf = true ∧ (Lit.int .i64 x.2).wf = true) := ⟨_, V.Opn.struct Try.underlying50 (by kernel_rfl) (V.OpnF.cons (V.Opn.int (k := .i64) Try.underlying3 (by kernel_rfl)) rfl (V.OpnF.one (V.Opn.int (k := .i64) Try.underlying2 (by kernel_rfl)) rfl)) (fun x => x) (fun x => x) (fun _ => rfl)⟩
theorem opnOW : ∃ m, V.Opn Try.prog 50 kOpW m (fun o => in64 o.t) := by
  obtain ⟨m, h⟩ := opnOW0
  refine ⟨fun _ => 0, Opn_map h kOpW _ _ rfl ?_⟩
  rintro w ⟨kd, t⟩ cs hk ⟨-, h1⟩
  obtain ⟨_, _, rfl, rfl, rfl⟩ := hk
  exact ⟨⟨kd, t⟩, ⟨[_], [_], rfl, rfl, rfl⟩, Nat.zero_le _, in64_wf h1⟩
end Go.Proofs.Ytoakooebmnjkhaa.Q
