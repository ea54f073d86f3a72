/- The row of TimerHalves (where what it reads is of bulk at most 1048576), out of its pure statement and the printed contract (written by a program of the session's own). -/
import Derived.Test.YthnihjfdmkfkiaaRows
import Derived.Test.YthnihjfdmkfkiaaYx1
import Derived.Test.YthnihjfdmkfkiaaPureTimerHalves
import Derived.WalkKit
import Derived.ProofKit
import Derived.OpenShut
import Derived.ShutString
import Derived.ChangeOld
import Derived.Below
import Derived.SizedLaws
import Derived.JoinedCond
import Derived.Deep.CondSized
import Derived.Test.YthnihjfdmkfkiaaWSized
namespace Go.Proofs.Ythnihjfdmkfkiaa.timerHalves
open Go.ChangeShapes Go.WideShapes Go.ChangeAt Go.RowKit
open Go.ChangeMaps (open_string shut_string)
set_option linter.unusedVariables false
set_option linter.unusedSimpArgs false
theorem own : ownKnob Try.prog.godebug = none := by kernel_rfl
theorem laidOut : laidOutB Try.prog = true := by kernel_rfl
open Go.Proofs.Ythnihjfdmkfkiaa.Y Go.Proofs.Ythnihjfdmkfkiaa.Y.BTimerHalves in
theorem Opn0 : V.Opn Try.prog 22 (Go.Proofs.YthnihjfdmkfkiaaW.PrintWords.Kd.slice 2 (Go.Proofs.YthnihjfdmkfkiaaW.PrintWords.Kd.int .i64)) (fun xs => (xs.map (fun _ => 1)).sum + 1) (fun xs => ∀ x ∈ xs, (fun n => (Lit.int .i64 n).wf = true) x) := (V.Opn.slice Try.underlying22 (by kernel_rfl) (V.Opn.int (k := .i64) Try.underlying2 (by kernel_rfl)))
set_option maxRecDepth 100000 in
theorem lifted (os : Os) (started : os.Started) (H : Type) (enc : TypeId × Value → H) (F : Stop.Interp) :
    ReturnsInHanded {} Try.checked os 10 .any ((Rows.OpenSpec.upto Rows.timerHalvesSpec).pre6 enc Try.prog Try.f10 Rows.timerHalvesUptoRow.domain false) (((Rows.OpenSpec.upto Rows.timerHalvesSpec).at F).post enc Try.prog Try.f10 false true false false) := by
  refine returnsInHanded_of_cond_sized (C := Try.checked) (s := Rows.OpenSpec.upto Rows.timerHalvesSpec) (k := Rows.uptoSmall) rfl own started (by kernel_rfl) Try.func10
    (OpenSpec.witness (enc := enc) (C := Try.checked) (s := Rows.OpenSpec.upto Rows.timerHalvesSpec) (k := Rows.uptoSmall) rfl false ⟨#[], #[.slice none 0 0, .int .i64 0], []⟩ 8 (by kernel_rfl) (by kernel_rfl) (by kernel_rfl) (x := ([.nil, .lit (.int .i64 0)], [], [])) (by kernel_rfl) rfl (by kernel_rfl)) ?_
  intro W base args ds gs before hval0 hW hcnd hkk hsz0 _
  have hval : ∀ (j : Nat) t v, Try.f10.params[j]? = some t → args[j]? = some v → Value.okWide Try.prog W .any base t v := hval0
  have hW' := hW
  obtain ⟨p, q, hA0, hV, rfl, hfz, hnd⟩ := hW
  have hA : DataW.TrodAll enc Try.prog W 0 (fun _ => true) true Try.f10.params.toList args.toList ds p := hA0
  rw [Try.params10] at hA hval
  obtain ⟨v0, vs0, d0, ds0, p0, q0, hargs, rfl, rfl, h0, r0⟩ := trodAll_cons hA
  obtain ⟨v1, vs1, d1, ds1, p1, q1, rfl, rfl, rfl, h1, r1⟩ := trodAll_cons r0
  obtain ⟨rfl, rfl, rfl⟩ := trodAll_nil r1
  obtain rfl : args = #[v0, v1] := by cases args; simp_all
  obtain ⟨rfl, rfl⟩ := trodVars_none hV
  have hb := of_decide_eq_true hkk
  simp only [List.cons_append, List.nil_append, List.append_nil, Rows.uptoBulkAll] at hb
  obtain ⟨a0, len0, cap0, rfl⟩ := okWide_slice Try.underlying22 (hval 0 22 v0 rfl rfl)
  have k0 := h0
  have lt0 : ∀ x ∈ p0, x.block < W.heap.size := by obtain ⟨m, hm⟩ := k0; exact DataW.trod_lt m _ _ _ hm
  obtain ⟨fuel0, hf0⟩ := h0
  obtain ⟨l0, ⟨A0, c0, hcs0, hc0, hr0⟩, hm0, hw0⟩ := Opn0.opn hf0
  replace hm0 : _ ≤ Rows.uptoBulk d0 := hm0
  simp [Value.cells] at hcs0
  obtain ⟨rfl, rfl, rfl⟩ := hcs0
  obtain ⟨a1, rfl, rfl, rfl, w1⟩ := open_int Try.underlying2 (hval 1 2 v1 rfl rfl) h1
  have hP := Pure.TimerHalves l0 a1 (by (try simp only [Rows.uptoBulk, Array.length_toList, ByteArray.size_data] at hb); have := hm0; omega) hw0 w1
  clear hA0 hval0 hsz0
  refine (Y.tumblerlaw09_TimerHalves.calls _ _ l0 a1 true W hr0 hc0 hP).mono fun e W' hh => ?_
  obtain ⟨he, bel0⟩ := hh
  have bel : Below W.heap.size W W' := bel0
  subst he
  exact ⟨_, rfl, _, _, _, [], _, [], hW', trodAll_mk1 (shut_bool Try.underlying4 _), (trodAll_cons_mk (Below.trod laidOut (by kernel_rfl) (of_decide_eq_true (by kernel_rfl)) k0 bel lt0) (trodAll_cons_mk (shut_int Try.underlying2 w1) trodAll_mk0)), rfl, bel.frame _, fun h => by cases h⟩
theorem over : Rows.timerHalvesUptoRow.holds Try.pinned (Rows.OpenSpec.upto Rows.timerHalvesSpec) :=
  OpenClaim.holds_of_cond 10 Try.f10 rfl rfl rfl rfl rfl rfl rfl ⟨rfl, rfl, rfl, rfl, rfl⟩ rfl rfl rfl rfl rfl (by kernel_rfl) Try.func10 (by kernel_rfl)
    (of_decide_eq_true (by kernel_rfl)) (by unfold Func.isWrapper; first | (rw [if_pos (by decide +kernel)]; kernel_rfl) | (rw [if_neg (by decide +kernel)]; exact ⟨rfl, rfl⟩))
    (fun os started H enc _ F => lifted os started H enc F)
theorem proved : Rows.TimerHalvesUptoSaid := over
#print axioms proved
end Go.Proofs.Ythnihjfdmkfkiaa.timerHalves
namespace Go.Proofs.Ythnihjfdmkfkiaa
/-- The row, under a short name, for the claim. -/
theorem timerHalves_holds : Rows.TimerHalvesUptoSaid := timerHalves.proved
end Go.Proofs.Ythnihjfdmkfkiaa
