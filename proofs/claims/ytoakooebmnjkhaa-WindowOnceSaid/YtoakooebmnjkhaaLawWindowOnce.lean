/- WindowOnce: what is told rises and is told once, for every width and script. For every width and script. The row, out of the walk law_WindowOnce. -/
import Derived.Test.YtoakooebmnjkhaaRows
import Derived.Test.YtoakooebmnjkhaaLOnce
import Derived.Test.YtoakooebmnjkhaaWRow
import Derived.Test.YtoakooebmnjkhaaWSized
import Derived.WalkKit
import Derived.ProofKit
import Derived.OpenShut
import Derived.ShutString
import Derived.ChangeOld
import Derived.Below
import Derived.SizedLaws
import Derived.JoinedCond
import Derived.Deep.CondSized
namespace Go.Proofs.Ytoakooebmnjkhaa.windowOnce
open Go.ChangeShapes Go.WideShapes Go.ChangeAt Go.RowKit
open Go.Proofs.YtoakooebmnjkhaaW.PrintWords Go.Proofs.YtoakooebmnjkhaaW.PrintLast Go.Proofs.YtoakooebmnjkhaaW.PrintMore
open Go.ChangeMaps (open_string shut_string)
set_option linter.unusedVariables false
set_option linter.unusedSimpArgs false
theorem own : ownKnob Try.prog.godebug = none := by kernel_rfl
theorem laidOut : laidOutB Try.prog = true := by kernel_rfl
set_option maxRecDepth 100000 in
theorem lifted (os : Os) (started : os.Started) (H : Type) (enc : TypeId × Value → H) :
    ReturnsInHanded {} Try.checked os 11 .any (Rows.windowOnceSpec.pre6 enc Try.prog Try.f11 Rows.windowOnceRow.domain false) (Rows.windowOnceSpec.post enc Try.prog Try.f11 false true false false) := by
  refine returnsInHanded_of_change_sized (C := Try.checked) own started (by kernel_rfl) Try.func11
    (ChangeSpec.witness6 (enc := enc) (C := Try.checked) false ⟨#[], #[.int .i64 0, .slice none 0 0], []⟩ 8 (by kernel_rfl) (by kernel_rfl) (by kernel_rfl) (by kernel_rfl)) ?_
  intro W base args ds gs before hval0 hW hcnd hsz0 _
  have hval : ∀ (j : Nat) t v, Try.f11.params[j]? = some t → args[j]? = some v → Value.okWide Try.prog W .any base t v := hval0
  have hsz : (DataW.weightsEach Try.prog (Try.f11.params.toList ++ Rows.windowOnceSpec.plain.varTypes Try.prog) (ds ++ gs)).all (· ≤ reachBytes) = true := hsz0
  have hW' := hW
  obtain ⟨p, q, hA0, hV, rfl, hfz, hnd⟩ := hW
  have hA : DataW.TrodAll enc Try.prog W 0 (fun _ => true) true Try.f11.params.toList args.toList ds p := hA0
  rw [Try.params11] at hA hval hsz
  obtain ⟨v0, vs0, d0, ds0, p0, q0, hargs, rfl, rfl, h0, r0⟩ := trodAll_cons hA
  obtain ⟨v1, vs1, d1, ds1, p1, q1, rfl, rfl, rfl, h1, r1⟩ := trodAll_cons r0
  obtain ⟨rfl, rfl, rfl⟩ := trodAll_nil r1
  obtain rfl : args = #[v0, v1] := by cases args; simp_all
  obtain ⟨rfl, rfl⟩ := trodVars_none hV
  obtain ⟨a0, rfl, rfl, rfl, w0⟩ := open_int Try.underlying2 (hval 0 2 v0 rfl rfl) h0
  obtain ⟨a1, len1, cap1, rfl⟩ := okWide_slice Try.underlying46 (hval 1 46 v1 rfl rfl)
  have k1 := h1
  have lt1 : ∀ x ∈ p1, x.block < W.heap.size := by obtain ⟨m, hm⟩ := k1; exact DataW.trod_lt m _ _ _ hm
  obtain ⟨fuel1, hf1⟩ := h1
  have h16 : len1 ≤ 17592186044416 := by
    rcases DataW.trod_slice Try.underlying46 hf1 with ⟨e1, e2⟩ | ⟨a, len, cap, elems, rest, n, _, e1, e2, hb, hl, hm, hlen, hel, hsp, hns⟩
    · simp [Value.cells] at e1
      omega
    · simp [Value.cells] at e1
      obtain ⟨_, rfl, rfl⟩ := e1
      have e3 := congrArg Prod.fst e2
      have z := sized_slice hsz (j := 1) (t := 46) (e := 50) rfl (congrArg some e3) Try.underlying46
      rw [show Try.prog.bytesOf 50 = 16 by kernel_rfl, List.length_map] at z
      unfold reachBytes at z
      omega
  obtain ⟨mm1, hop1⟩ := Q.opnOW
  obtain ⟨l1, ⟨A1, c1, hcs1, hc1, hr1⟩, hm1, hw1⟩ := (V.Opn.slice Try.underlying46 (by kernel_rfl) hop1).opn hf1
  simp [Value.cells] at hcs1
  obtain ⟨rfl, rfl, rfl⟩ := hcs1
  clear hA0 hval0 hsz0 hsz
  refine (Q.law_WindowOnce W hr1 hw1 h16).mono fun e W' hh => ?_
  obtain ⟨he, bel0⟩ := hh
  have bel : Below W.heap.size W W' := bel0
  subst he
  exact ⟨_, rfl, _, _, _, [], _, [], hW', trodAll_mk1 (shut_bool Try.underlying4 _), (trodAll_cons_mk (shut_int Try.underlying2 w0) (trodAll_cons_mk (Below.trod laidOut (by kernel_rfl) (of_decide_eq_true (by kernel_rfl)) k1 bel lt1) trodAll_mk0)), rfl, bel.frame _, fun h => by cases h⟩
theorem over : Rows.windowOnceRow.holds Try.pinned (OpenSpec.ofChange Rows.windowOnceSpec) :=
  OpenClaim.holds_of_wide 11 Try.f11 rfl rfl rfl rfl rfl rfl rfl ⟨rfl, rfl, rfl, rfl, rfl⟩ rfl rfl rfl rfl rfl (by kernel_rfl) Try.func11 (by kernel_rfl)
    (of_decide_eq_true (by kernel_rfl)) (by unfold Func.isWrapper; first | (rw [if_pos (by decide +kernel)]; kernel_rfl) | (rw [if_neg (by decide +kernel)]; exact ⟨rfl, rfl⟩))
    (fun os started H enc _ => lifted os started H enc)
theorem proved : Rows.WindowOnceSaid := over
#print axioms proved
end Go.Proofs.Ytoakooebmnjkhaa.windowOnce
namespace Go.Proofs.Ytoakooebmnjkhaa
/-- The row, under a short name, for the claim. -/
theorem windowOnce_holds : Rows.WindowOnceSaid := windowOnce.proved
end Go.Proofs.Ytoakooebmnjkhaa
