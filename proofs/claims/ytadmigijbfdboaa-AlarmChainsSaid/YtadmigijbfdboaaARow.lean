import Derived.Test.YtadmigijbfdboaaLBook
import Derived.Test.YtadmigijbfdboaaVOpen
namespace Go.Proofs.Ytadmigijbfdboaa.Q
open Go.RowKit Go.Proofs.YtadmigijbfdboaaW.PrintWords Go.Proofs.YtadmigijbfdboaaW.PrintLast Go.Proofs.YtadmigijbfdboaaW.PrintMore Go.Proofs.YtadmigijbfdboaaV
set_option linter.unusedVariables false
set_option linter.unusedSimpArgs false

/-- Cells of one kind as cells of another. -/
theorem Opn_map {α β : Type} {P : Program} {T : TypeId} {d : Kd α} {m : α → Nat} {wf : α → Prop} (h : V.Opn P T d m wf) (d' : Kd β) (m' : β → Nat) (wf' : β → Prop) (hs : d.sz = d'.sz) (hf : ∀ w a cs, d.K w a cs → wf a → ∃ b, d'.K w b cs ∧ m' b ≤ m a ∧ wf' b) : V.Opn P T d' m' wf' :=
  ⟨h.size.trans hs, fun ht => by
    obtain ⟨a, hk, hm, hw⟩ := h.opn ht
    obtain ⟨b, h1, h2, h3⟩ := hf _ a _ hk hw
    exact ⟨b, h1, Nat.le_trans h2 hm, h3⟩⟩
theorem wf_i64 {a : Int} (h : (Lit.int .i64 a).wf = true) : -9223372036854775808 ≤ a ∧ a ≤ 9223372036854775807 := by
  simpa [Lit.wf, IntKind.min, IntKind.max, IntKind.signed, IntKind.bits] using h
theorem wf_u64 {a : Int} (h : (Lit.int .u64 a).wf = true) : 0 ≤ a ∧ a ≤ 18446744073709551615 := by
  simpa [Lit.wf, IntKind.min, IntKind.max, IntKind.signed, IntKind.bits] using h
theorem wide_mk {a b : Int} (h1 : (Lit.int .i64 a).wf = true) (h2 : (Lit.int .u64 b).wf = true) : ∃ z, hiW z = a ∧ loW z = b ∧ inW z := by
  have := wf_i64 h1
  have := wf_u64 h2
  refine ⟨a * 18446744073709551616 + b, ?_, ?_, ?_⟩
  · unfold hiW; omega
  · unfold loW; omega
  · unfold inW; omega
def kW0 := Kd.iso (Kd.pair (Kd.int .i64) (Kd.int .u64)) (fun x : Int × Int => x)
abbrev wfW (x : Int × Int) : Prop := (Lit.int .i64 x.1).wf = true ∧ (Lit.int .u64 x.2).wf = true
theorem opnW0 : ∃ m : Int × Int → Nat, V.Opn Try.prog 24 kW0 m wfW := ⟨_, V.Opn.struct Try.underlying24 (by kernel_rfl) (V.OpnF.cons (V.Opn.int (k := .i64) Try.underlying2 (by kernel_rfl)) rfl (V.OpnF.one (V.Opn.int (k := .u64) Try.underlying22 (by kernel_rfl)) rfl)) (fun x => x) (fun x => x) (fun _ => rfl)⟩
def kR0 := Kd.iso (Kd.pair Kd.string (Kd.pair Kd.bool (Kd.pair kW0 (Kd.pair kW0 (Kd.pair kW0 (Kd.pair (Kd.int .i64) (Kd.pair (Kd.int .i64) (Kd.int .i64)))))))) (fun x : ByteArray × Bool × (Int × Int) × (Int × Int) × (Int × Int) × Int × Int × Int => x)
abbrev wfR (x : ByteArray × Bool × (Int × Int) × (Int × Int) × (Int × Int) × Int × Int × Int) : Prop := True ∧ True ∧ wfW x.2.2.1 ∧ wfW x.2.2.2.1 ∧ wfW x.2.2.2.2.1 ∧ (Lit.int .i64 x.2.2.2.2.2.1).wf = true ∧ (Lit.int .i64 x.2.2.2.2.2.2.1).wf = true ∧ (Lit.int .i64 x.2.2.2.2.2.2.2).wf = true
theorem opnR0 : ∃ m, V.Opn Try.prog 26 kR0 m wfR ∧ ∀ x, 1 ≤ m x := by
  obtain ⟨mw, hw⟩ := opnW0
  exact ⟨_, V.Opn.struct Try.underlying26 (by kernel_rfl) (V.OpnF.cons (V.Opn.string Try.underlying9 (by kernel_rfl)) rfl (V.OpnF.cons (V.Opn.bool Try.underlying4 (by kernel_rfl)) rfl (V.OpnF.cons hw rfl (V.OpnF.cons hw rfl (V.OpnF.cons hw rfl (V.OpnF.cons (V.Opn.int (k := .i64) Try.underlying3 (by kernel_rfl)) rfl (V.OpnF.cons (V.Opn.int (k := .i64) Try.underlying3 (by kernel_rfl)) rfl (V.OpnF.one (V.Opn.int (k := .i64) Try.underlying2 (by kernel_rfl)) rfl)))))))) (fun x => x) (fun x => x) (fun _ => rfl), fun x => Nat.le_add_left _ _⟩
theorem opnR : ∃ m, V.Opn Try.prog 26 kRul m RulIn := by
  obtain ⟨m, h, -⟩ := opnR0
  refine ⟨fun _ => 0, Opn_map h kRul _ _ rfl ?_⟩
  rintro w ⟨nm, ab, w1, w2, w3, fo, abs, ag⟩ cs hk ⟨-, -, h1, h2, h3, -⟩
  obtain ⟨_, _, rfl, rfl, _, _, rfl, rfl, _, _, rfl, ⟨_, _, rfl, rfl, rfl⟩, _, _, rfl, ⟨_, _, rfl, rfl, rfl⟩, _, _, rfl, ⟨_, _, rfl, rfl, rfl⟩, _, _, rfl, rfl, _, _, rfl, rfl, rfl⟩ := hk
  obtain ⟨z1, a1, b1, c1⟩ := wide_mk h1.1 h1.2
  obtain ⟨z2, a2, b2, c2⟩ := wide_mk h2.1 h2.2
  obtain ⟨z3, a3, b3, c3⟩ := wide_mk h3.1 h3.2
  refine ⟨⟨nm, ab, z1, z2, z3, fo, abs, ag⟩, ?_, Nat.zero_le _, ⟨c1, c2, c3⟩⟩
  have := kRul_mk w ⟨nm, ab, z1, z2, z3, fo, abs, ag⟩
  unfold ruleA at this
  rw [a1, b1, a2, b2, a3, b3] at this
  exact this
def kC0 := Kd.iso (Kd.pair Kd.bool kW0) (fun x : Bool × Int × Int => x)
def kO0 := Kd.iso (Kd.pair (Kd.int .i64) (Kd.pair Kd.string (Kd.pair (Kd.int .i64) kC0))) (fun x : Int × ByteArray × Int × Bool × Int × Int => x)
theorem kOp_mk (w : World) (o : OpR) : kOp.K w o [.int .i64 o.kind, .string o.name, .int .i64 o.at_, .bool o.is, .int .i64 (hiW o.val), .int .u64 (loW o.val)] :=
  ⟨[_], _, rfl, rfl, [_], _, rfl, rfl, [_], _, rfl, rfl, [_], _, rfl, rfl, [_], [_], rfl, rfl, rfl⟩
theorem opnO : ∃ m, V.Opn Try.prog 39 kOp m (fun o => inW o.val) ∧ ∀ o, 1 ≤ m o := by
  obtain ⟨mw, hw⟩ := opnW0
  have hC := V.Opn.struct (P := Try.prog) Try.underlying37 (by kernel_rfl) (V.OpnF.cons (V.Opn.bool Try.underlying4 (by kernel_rfl)) rfl (V.OpnF.one hw rfl)) (fun x : Bool × Int × Int => x) (fun x => x) (fun _ => rfl)
  have hO := V.Opn.struct (P := Try.prog) Try.underlying39 (by kernel_rfl) (V.OpnF.cons (V.Opn.int (k := .i64) Try.underlying3 (by kernel_rfl)) rfl (V.OpnF.cons (V.Opn.string Try.underlying9 (by kernel_rfl)) rfl (V.OpnF.cons (V.Opn.int (k := .i64) Try.underlying2 (by kernel_rfl)) rfl (V.OpnF.one hC rfl)))) (fun x : Int × ByteArray × Int × Bool × Int × Int => x) (fun x => x) (fun _ => rfl)
  refine ⟨fun _ => 1, Opn_map hO kOp _ _ rfl ?_, fun _ => Nat.le_refl _⟩
  rintro w ⟨kd, nm, at_, is, va, vb⟩ cs hk ⟨-, -, -, -, h1⟩
  obtain ⟨_, _, rfl, rfl, _, _, rfl, rfl, _, _, rfl, rfl, _, _, rfl, rfl, _, _, rfl, rfl, rfl⟩ := hk
  obtain ⟨z, a, b, c⟩ := wide_mk h1.1 h1.2
  refine ⟨⟨kd, nm, at_, is, z⟩, ?_, Nat.le_add_left _ _, c⟩
  have := kOp_mk w ⟨kd, nm, at_, is, z⟩
  rw [a, b] at this
  exact this
def kWz : Kd Int := Kd.iso (Kd.pair (Kd.int .i64) (Kd.int .u64)) (fun z : Int => (hiW z, loW z))
theorem kWz_open {w : World} {z : Int} {cs : List Value} (h : kWz.K w z cs) : cs = [.int .i64 (hiW z), .int .u64 (loW z)] := by
  obtain ⟨_, _, rfl, rfl, rfl⟩ := h
  exact rfl
theorem opnWz : ∃ m, V.Opn Try.prog 24 kWz m inW := by
  obtain ⟨mw, hw⟩ := opnW0
  refine ⟨fun _ => 0, Opn_map hw kWz _ _ rfl ?_⟩
  rintro w ⟨va, vb⟩ cs hk ⟨h1, h2⟩
  obtain ⟨_, _, rfl, rfl, rfl⟩ := hk
  obtain ⟨z, a, b, c⟩ := wide_mk h1 h2
  exact ⟨z, ⟨[_], [_], rfl, by rw [← a]; rfl, by rw [← b]; rfl⟩, Nat.zero_le _, c⟩
theorem sum_ge {α : Type} {m : α → Nat} (h : ∀ x, 1 ≤ m x) (l : List α) : l.length ≤ (l.map m).sum := by
  induction l with
  | nil => exact Nat.le_refl _
  | cons x r ih => simp only [List.length_cons, List.map_cons, List.sum_cons]; have := h x; omega
end Go.Proofs.Ytadmigijbfdboaa.Q
