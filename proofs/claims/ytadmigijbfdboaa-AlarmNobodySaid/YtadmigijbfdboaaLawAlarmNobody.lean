/- For every call that a script may hold: books that nobody made (nil, and the zero book) answer ErrNil, no alerts, no state. The row out of the walk in ANobody. -/
import Derived.Test.YtadmigijbfdboaaRows
import Derived.Test.YtadmigijbfdboaaANobody
import Derived.Test.YtadmigijbfdboaaVOpen
import Derived.WalkKit
import Derived.ProofKit
import Derived.OpenShut
import Derived.ShutString
import Derived.ChangeOld
import Derived.Below
import Derived.SizedLaws
import Derived.JoinedCond
import Derived.Deep.CondSized
import Derived.Test.YtadmigijbfdboaaWSized
namespace Go.Proofs.Ytadmigijbfdboaa.alarmNobody
open Go.ChangeShapes Go.WideShapes Go.ChangeAt Go.RowKit
open Go.Proofs.YtadmigijbfdboaaW.PrintWords Go.Proofs.YtadmigijbfdboaaW.PrintLast Go.Proofs.YtadmigijbfdboaaW.PrintMore
open Go.ChangeMaps (open_string shut_string)
set_option linter.unusedVariables false
set_option linter.unusedSimpArgs false
theorem own : ownKnob Try.prog.godebug = none := by kernel_rfl
theorem laidOut : laidOutB Try.prog = true := by kernel_rfl
def kW := Kd.iso (Kd.pair (Kd.int .i64) (Kd.int .u64)) (fun x : Int × Int => x)
theorem opnW : ∃ m wf, V.Opn Try.prog 24 kW m wf := ⟨_, _, V.Opn.struct Try.underlying24 (by kernel_rfl) (V.OpnF.cons (V.Opn.int (k := .i64) Try.underlying2 (by kernel_rfl)) rfl (V.OpnF.one (V.Opn.int (k := .u64) Try.underlying22 (by kernel_rfl)) rfl)) (fun x => x) (fun x => x) (fun _ => rfl)⟩
def kC := Kd.iso (Kd.pair Kd.bool kW) (fun x : Bool × Int × Int => x)
theorem opnC : ∃ m wf, V.Opn Try.prog 37 kC m wf := by
  obtain ⟨m, wf, h⟩ := opnW
  exact ⟨_, _, V.Opn.struct Try.underlying37 (by kernel_rfl) (V.OpnF.cons (V.Opn.bool Try.underlying4 (by kernel_rfl)) rfl (V.OpnF.one h rfl)) (fun x => x) (fun x => x) (fun _ => rfl)⟩
def kO := Kd.iso (Kd.pair (Kd.int .i64) (Kd.pair Kd.string (Kd.pair (Kd.int .i64) kC))) (fun x : Int × ByteArray × Int × Bool × Int × Int => x)
theorem opnO : ∃ m wf, V.Opn Try.prog 39 kO m wf := by
  obtain ⟨m, wf, h⟩ := opnC
  exact ⟨_, _, V.Opn.struct Try.underlying39 (by kernel_rfl) (V.OpnF.cons (V.Opn.int (k := .i64) Try.underlying3 (by kernel_rfl)) rfl (V.OpnF.cons (V.Opn.string Try.underlying9 (by kernel_rfl)) rfl (V.OpnF.cons (V.Opn.int (k := .i64) Try.underlying2 (by kernel_rfl)) rfl (V.OpnF.one h rfl)))) (fun x => x) (fun x => x) (fun _ => rfl)⟩
theorem kO_open {w : World} {x : Int × ByteArray × Int × Bool × Int × Int} {cs : List Value} (h : kO.K w x cs) : cs = [.int .i64 x.1, .string x.2.1, .int .i64 x.2.2.1, .bool x.2.2.2.1, .int .i64 x.2.2.2.2.1, .int .u64 x.2.2.2.2.2] := by
  obtain ⟨_, _, rfl, rfl, _, _, rfl, rfl, _, _, rfl, rfl, _, _, rfl, rfl, _, _, rfl, rfl, rfl⟩ := h
  exact rfl
set_option maxRecDepth 100000 in
theorem lifted (os : Os) (started : os.Started) (H : Type) (enc : TypeId × Value → H) :
    ReturnsInHanded {} Try.checked os 8 .any (Rows.alarmNobodySpec.pre6 enc Try.prog Try.f8 Rows.alarmNobodyRow.domain false) (Rows.alarmNobodySpec.post enc Try.prog Try.f8 false true false false) := by
  refine returnsInHanded_of_change_sized (C := Try.checked) own started (by kernel_rfl) Try.func8
    (ChangeSpec.witness6 (enc := enc) (C := Try.checked) false ⟨#[], #[.agg #[.int .i64 0, .string ByteArray.empty, .int .i64 0, .bool false, .int .i64 0, .int .u64 0]], []⟩ 8 (by kernel_rfl) (by kernel_rfl) (by kernel_rfl) (by kernel_rfl)) ?_
  intro W base args ds gs before hval0 hW hcnd hsz0 _
  have hval : ∀ (j : Nat) t v, Try.f8.params[j]? = some t → args[j]? = some v → Value.okWide Try.prog W .any base t v := hval0
  have hW' := hW
  obtain ⟨p, q, hA0, hV, rfl, hfz, hnd⟩ := hW
  have hA : DataW.TrodAll enc Try.prog W 0 (fun _ => true) true Try.f8.params.toList args.toList ds p := hA0
  rw [Try.params8] at hA hval
  obtain ⟨v0, vs0, d0, ds0, p0, q0, hargs, rfl, rfl, h0, r0⟩ := trodAll_cons hA
  obtain ⟨rfl, rfl, rfl⟩ := trodAll_nil r0
  obtain rfl : args = #[v0] := by cases args; simp_all
  obtain ⟨rfl, rfl⟩ := trodVars_none hV
  obtain ⟨cs0, rfl, hcz⟩ := okWide_struct Try.underlying39 (hval 0 39 v0 rfl rfl)
  have k0 := h0
  have lt0 : ∀ x ∈ p0, x.block < W.heap.size := by obtain ⟨m, hm⟩ := k0; exact DataW.trod_lt m _ _ _ hm
  obtain ⟨fuel0, hf0⟩ := h0
  obtain ⟨mm, ww, hop⟩ := opnO
  obtain ⟨x0, hk0, -, -⟩ := hop.opn hf0
  have hcs := kO_open hk0
  obtain ⟨kd, nm, at_, is, va, vb⟩ := x0
  obtain rfl : cs0 = #[.int .i64 kd, .string nm, .int .i64 at_, .bool is, .int .i64 va, .int .u64 vb] := by
    apply Array.ext'
    simpa [Value.cells] using hcs
  refine (Q.law_AlarmNobody W kd nm at_ is va vb).mono fun e W' hh => ?_
  obtain ⟨he, bel0⟩ := hh
  have bel : Below W.heap.size W W' := bel0
  subst he
  exact ⟨_, rfl, _, _, _, [], _, [], hW', trodAll_mk1 (shut_bool Try.underlying4 _), (trodAll_cons_mk (Below.trod laidOut (by kernel_rfl) (of_decide_eq_true (by kernel_rfl)) k0 bel lt0) trodAll_mk0), rfl, bel.frame _, fun h => by cases h⟩
theorem over : Rows.alarmNobodyRow.holds Try.pinned (OpenSpec.ofChange Rows.alarmNobodySpec) :=
  OpenClaim.holds_of_wide 8 Try.f8 rfl rfl rfl rfl rfl rfl rfl ⟨rfl, rfl, rfl, rfl, rfl⟩ rfl rfl rfl rfl rfl (by kernel_rfl) Try.func8 (by kernel_rfl)
    (of_decide_eq_true (by kernel_rfl)) (by unfold Func.isWrapper; first | (rw [if_pos (by decide +kernel)]; kernel_rfl) | (rw [if_neg (by decide +kernel)]; exact ⟨rfl, rfl⟩))
    (fun os started H enc _ => lifted os started H enc)
theorem proved : Rows.AlarmNobodySaid := over
#print axioms proved
end Go.Proofs.Ytadmigijbfdboaa.alarmNobody
namespace Go.Proofs.Ytadmigijbfdboaa
/-- The row, under a short name, for the claim. -/
theorem alarmNobody_holds : Rows.AlarmNobodySaid := alarmNobody.proved
end Go.Proofs.Ytadmigijbfdboaa
