import Derived.Test.YthnihjfdmkfkiaaTDiv
namespace Go.Proofs.Ythnihjfdmkfkiaa.Q
open Go.RowKit Go.Proofs.YthnihjfdmkfkiaaW.PrintWords Go.Proofs.YthnihjfdmkfkiaaW.PrintLast Go.Proofs.YthnihjfdmkfkiaaW.PrintMore Go.Proofs.YthnihjfdmkfkiaaV
set_option linter.unusedVariables false
set_option linter.unusedSimpArgs false

set_option maxHeartbeats 1600000 in
theorem wide_signed {m : Int} (b : Bool) (w : World) (h0 : 0 ≤ m) (h1 : m ≤ 170141183460469231731687303715884105727) :
    Calls Try.prog 46 #[LV m, .bool b] w fun q w' => q = .returned (.tuple #[WV (if b then -m else m), .int .i64 0]) ∧ Below w.heap.size w w' := by
  obtain ⟨rh, hrh⟩ : ∃ q, q = hiW (if b then -m else m) := ⟨_, rfl⟩
  obtain ⟨rl, hrl⟩ : ∃ q, q = loW (if b then -m else m) := ⟨_, rfl⟩
  unfold WV LV
  rw [← hrh, ← hrl]
  obtain ⟨m1, hm1⟩ : ∃ q, q = hiW m := ⟨_, rfl⟩
  obtain ⟨m0, hm0⟩ : ∃ q, q = loW m := ⟨_, rfl⟩
  rw [← hm0, ← hm1]
  have b0 : 0 ≤ m0 ∧ m0 ≤ 18446744073709551615 := by rw [hm0]; exact lo_rng m
  have b1 : 0 ≤ m1 ∧ m1 ≤ 9223372036854775807 := by rw [hm1]; unfold hiW; omega
  have e : m = m1 * 18446744073709551616 + m0 := by rw [hm0, hm1]; unfold hiW loW; omega
  have BEL := Aside0.mk (below2 w)
  have k1 : decide (9223372036854775808 < m1) = false := decide_eq_false (by omega)
  have k2 : (m1 == 9223372036854775808) = false := beq_eq_false_iff_ne.mpr (by omega)
  have k3 : decide (9223372036854775808 ≤ m1) = false := decide_eq_false (by omega)
  cases b with
  | true =>
    have A1 := call_sub64 0 m0 0 (by omega) (by omega) (by omega) (by omega) (by omega)
    obtain ⟨s1, hs1⟩ : ∃ s, s = (0 + 18446744073709551616 - m0 - 0) % 18446744073709551616 := ⟨_, rfl⟩
    obtain ⟨c1, hc1⟩ : ∃ s : Int, s = (if 0 < m0 + 0 then 1 else 0) := ⟨_, rfl⟩
    rw [← hs1, ← hc1] at A1
    have hc : 0 ≤ c1 ∧ c1 ≤ 1 ∧ (c1 = 1 ↔ 0 < m0) := by rw [hc1]; split <;> omega
    have A2 := call_sub64 0 m1 c1 (by omega) (by omega) (by omega) (by omega) (by omega)
    obtain ⟨s2, hs2⟩ : ∃ s, s = (0 + 18446744073709551616 - m1 - c1) % 18446744073709551616 := ⟨_, rfl⟩
    obtain ⟨c2, hc2⟩ : ∃ s : Int, s = (if 0 < m1 + c1 then 1 else 0) := ⟨_, rfl⟩
    rw [← hs2, ← hc2] at A2
    obtain ⟨S, hS⟩ : ∃ S, S = wrap64 s2 := ⟨_, rfl⟩
    have hS' := hS.symm
    simp only [if_true] at hrh hrl
    have E0 := Aside0.mk (show s1 = rl by rw [hrl]; unfold loW; omega)
    have E1 := Aside0.mk (show S = rh by rw [hS, hrh]; unfold hiW wrap64; omega)
    clear hs1 hc1 hs2 hc2 hc e hm1 hm0 hrh hrl h0 h1 hS b0 b1
    go_enter Try.func46, Try.ntmps46
    go_wp2
    rw [E0.out, E1.out]
    refine bodyPost_ret (v := .tuple #[.agg #[.int .i64 rh, .int .u64 rl], .int .i64 0]) (by simp [results, Try.results46, go_sem]) rfl ⟨rfl, ?_⟩
    exact BEL.out _ _
  | false =>
    obtain ⟨S, hS⟩ : ∃ S, S = wrap64 m1 := ⟨_, rfl⟩
    have hS' := hS.symm
    simp only [Bool.false_eq_true, if_false] at hrh hrl
    have E0 := Aside0.mk (show m0 = rl by rw [hrl, hm0])
    have E1 := Aside0.mk (show S = rh by rw [hS, hrh, hm1]; unfold hiW wrap64; omega)
    have E2 := Aside0.mk (show m1 = rh by rw [hrh, hm1])
    clear e hm1 hm0 hrh hrl h0 h1 hS
    go_enter Try.func46, Try.ntmps46
    go_wp2
    first
    | (rw [E0.out, E1.out]
       refine bodyPost_ret (v := .tuple #[.agg #[.int .i64 rh, .int .u64 rl], .int .i64 0]) (by simp [results, Try.results46, go_sem]) rfl ⟨rfl, ?_⟩
       exact BEL.out _ _)
    | (rw [E0.out, E2.out]
       refine bodyPost_ret (v := .tuple #[.agg #[.int .i64 rh, .int .u64 rl], .int .i64 0]) (by simp [results, Try.results46, go_sem]) rfl ⟨rfl, ?_⟩
       exact BEL.out _ _)
end Go.Proofs.Ythnihjfdmkfkiaa.Q
