import Derived.Test.YthnihjfdmkfkiaaBW0
import Derived.Outline
namespace Go.Proofs.Ythnihjfdmkfkiaa.Q
open Go.RowKit Go.Proofs.YthnihjfdmkfkiaaW.PrintWords Go.Proofs.YthnihjfdmkfkiaaW.PrintLast Go.Proofs.YthnihjfdmkfkiaaW.PrintMore Go.Proofs.YthnihjfdmkfkiaaV
set_option linter.unusedVariables false
set_option linter.unusedSimpArgs false

/-- Two limbs of an amount. -/
def LV (m : Int) : Value := .agg #[.int .u64 (loW m), .int .u64 (hiW m)]
theorem below2 (w : World) (a b : Obj) : Below w.heap.size w ((w.alloc a).alloc b) := ((Below.refl _ _).alloc (Nat.le_refl _) _).alloc (by simp) _

set_option maxHeartbeats 1600000 in
theorem wide_amount {x : Int} (w : World) (hx : inW x) :
    Calls Try.prog 45 #[WV x] w fun q w' => q = .returned (LV x.natAbs) ∧ Below w.heap.size w w' := by
  have k1 := hi_rng hx
  have k3 := lo_rng x
  have ex : x = hiW x * 18446744073709551616 + loW x := by unfold hiW loW; omega
  obtain ⟨n1, hn1⟩ : ∃ q, q = hiW x.natAbs := ⟨_, rfl⟩
  obtain ⟨n0, hn0⟩ : ∃ q, q = loW x.natAbs := ⟨_, rfl⟩
  unfold WV LV
  obtain ⟨a, ha⟩ : ∃ a, a = hiW x := ⟨_, rfl⟩
  obtain ⟨b, hb⟩ : ∃ b, b = loW x := ⟨_, rfl⟩
  rw [← ha] at k1 ex ⊢
  rw [← hb] at k3 ex ⊢
  rw [← hn1, ← hn0]
  have BEL := Aside0.mk (below2 w)
  obtain ⟨ua, hua⟩ : ∃ s, s = IntKind.u64.wrap a := ⟨_, rfl⟩
  have wa := u64w a
  rw [← hua] at wa
  have hua' := hua.symm
  unfold hiW at hn1
  unfold loW at hn0
  by_cases h0 : a < 0
  · have d1 : decide (0 ≤ a) = false := decide_eq_false (by omega)
    have A1 := call_sub64 0 b 0 (by omega) (by omega) (by omega) (by omega) (by omega)
    obtain ⟨s1, hs1⟩ : ∃ s, s = (0 + 18446744073709551616 - b - 0) % 18446744073709551616 := ⟨_, rfl⟩
    obtain ⟨c1, hc1⟩ : ∃ s : Int, s = (if 0 < b + 0 then 1 else 0) := ⟨_, rfl⟩
    rw [← hs1, ← hc1] at A1
    have hc : 0 ≤ c1 ∧ c1 ≤ 1 ∧ (c1 = 1 ↔ 0 < b) := by rw [hc1]; split <;> omega
    have A2 := call_sub64 0 ua c1 (by omega) (by omega) (by omega) (by omega) (by omega)
    obtain ⟨s2, hs2⟩ : ∃ s, s = (0 + 18446744073709551616 - ua - c1) % 18446744073709551616 := ⟨_, rfl⟩
    obtain ⟨c2, hc2⟩ : ∃ s : Int, s = (if 0 < ua + c1 then 1 else 0) := ⟨_, rfl⟩
    rw [← hs2, ← hc2] at A2
    have E0 := Aside0.mk (show s1 = n0 by omega)
    have E1 := Aside0.mk (show s2 = n1 by omega)
    clear hs1 hc1 hs2 hc2 hc h0 ex hn1 hn0 ha hb hx k1 k3 wa hua
    go_enter Try.func45, Try.ntmps45
    go_wp2
    rw [E0.out, E1.out]
    refine bodyPost_ret (v := .agg #[.int .u64 n0, .int .u64 n1]) (by simp [results, Try.results45, go_sem]) rfl ⟨rfl, ?_⟩
    exact BEL.out _ _
  · have d1 : decide (0 ≤ a) = true := decide_eq_true (by omega)
    have E0 := Aside0.mk (show b = n0 by omega)
    have E1 := Aside0.mk (show ua = n1 by omega)
    clear h0 ex hn1 hn0 ha hb hx k1 k3 wa hua
    go_enter Try.func45, Try.ntmps45
    go_wp2
    rw [E0.out, E1.out]
    refine bodyPost_ret (v := .agg #[.int .u64 n0, .int .u64 n1]) (by simp [results, Try.results45, go_sem]) rfl ⟨rfl, ?_⟩
    exact BEL.out _ _
end Go.Proofs.Ythnihjfdmkfkiaa.Q
