import Derived.Test.YthnihjfdmkfkiaaBW0
namespace Go.Proofs.Ythnihjfdmkfkiaa.Q
open Go.RowKit Go.Proofs.YthnihjfdmkfkiaaW.PrintWords Go.Proofs.YthnihjfdmkfkiaaW.PrintLast Go.Proofs.YthnihjfdmkfkiaaW.PrintMore Go.Proofs.YthnihjfdmkfkiaaV
set_option linter.unusedVariables false
set_option linter.unusedSimpArgs false

set_option maxHeartbeats 1600000 in
theorem wide_Add {x y : Int} (w : World) (hx : inW x) (hy : inW y) (r e : Int) (hr : (inW (x + y) ∧ r = x + y ∧ e = 0) ∨ (¬ inW (x + y) ∧ r = 0 ∧ e = 10)) :
    Calls Try.prog 16 #[WV x, WV y] w fun q w' => q = .returned (.tuple #[WV r, .int .i64 e]) ∧ Below w.heap.size w w' := by
  have k1 := hi_rng hx
  have k2 := hi_rng hy
  have k3 := lo_rng x
  have k4 := lo_rng y
  have ex : x = hiW x * 18446744073709551616 + loW x := by unfold hiW loW; omega
  have ey : y = hiW y * 18446744073709551616 + loW y := by unfold hiW loW; omega
  obtain ⟨rh, hrh⟩ : ∃ q, q = hiW r := ⟨_, rfl⟩
  obtain ⟨rl, hrl⟩ : ∃ q, q = loW r := ⟨_, rfl⟩
  unfold WV
  obtain ⟨a, ha⟩ : ∃ a, a = hiW x := ⟨_, rfl⟩
  obtain ⟨b, hb⟩ : ∃ b, b = loW x := ⟨_, rfl⟩
  obtain ⟨c, hc⟩ : ∃ c, c = hiW y := ⟨_, rfl⟩
  obtain ⟨d, hd⟩ : ∃ d, d = loW y := ⟨_, rfl⟩
  rw [← ha] at k1 ex ⊢
  rw [← hb] at k3 ex ⊢
  rw [← hc] at k2 ey ⊢
  rw [← hd] at k4 ey ⊢
  rw [← hrh, ← hrl]
  obtain ⟨s1, hs1⟩ : ∃ s, s = (b + d + 0) % 18446744073709551616 := ⟨_, rfl⟩
  obtain ⟨c1, hc1⟩ : ∃ s, s = (b + d + 0) / 18446744073709551616 := ⟨_, rfl⟩
  have A1 := call_add64 b d 0 (by omega) (by omega) (by omega) (by omega)
  rw [← hs1, ← hc1] at A1
  obtain ⟨ua, hua⟩ : ∃ s, s = IntKind.u64.wrap a := ⟨_, rfl⟩
  obtain ⟨uc, huc⟩ : ∃ s, s = IntKind.u64.wrap c := ⟨_, rfl⟩
  have wa := u64w a
  have wc := u64w c
  rw [← hua] at wa
  rw [← huc] at wc
  obtain ⟨s2, hs2⟩ : ∃ s, s = (ua + uc + c1) % 18446744073709551616 := ⟨_, rfl⟩
  obtain ⟨c2, hc2⟩ : ∃ s, s = (ua + uc + c1) / 18446744073709551616 := ⟨_, rfl⟩
  have A2 := call_add64 ua uc c1 (by omega) (by omega) (by omega) (by omega)
  rw [← hs2, ← hc2] at A2
  obtain ⟨S, hS⟩ : ∃ S, S = wrap64 s2 := ⟨_, rfl⟩
  have hS2 : S = (s2 + 9223372036854775808) % 18446744073709551616 - 9223372036854775808 := by rw [hS]; unfold wrap64; omega
  have hS' := hS.symm
  have hua' := hua.symm
  have huc' := huc.symm
  -- what the signs tell
  have key : (inW (x + y) → S = hiW (x + y) ∧ s1 = loW (x + y) ∧ ¬ ((a < 0 ↔ c < 0) ∧ ¬ (S < 0 ↔ a < 0))) ∧ (¬ inW (x + y) → (a < 0 ↔ c < 0) ∧ ¬ (S < 0 ↔ a < 0)) := by
    have z0 : (x + y) / 18446744073709551616 = a + c + c1 := by omega
    have z1 : (x + y) % 18446744073709551616 = s1 := by omega
    unfold inW hiW loW
    rw [z0, z1]
    constructor
    · intro h
      have : S = a + c + c1 := by omega
      refine ⟨this, rfl, ?_⟩
      omega
    · intro h
      omega
  have res : (rh = S ∧ rl = s1 ∧ e = 0 ∧ ¬ ((a < 0 ↔ c < 0) ∧ ¬ (S < 0 ↔ a < 0))) ∨ (rh = 0 ∧ rl = 0 ∧ e = 10 ∧ (a < 0 ↔ c < 0) ∧ ¬ (S < 0 ↔ a < 0)) := by
    rcases hr with ⟨h1, rfl, rfl⟩ | ⟨h1, rfl, rfl⟩
    · obtain ⟨q1, q2, q3⟩ := key.1 h1
      exact .inl ⟨by rw [hrh, q1], by rw [hrl, q2], rfl, q3⟩
    · exact .inr ⟨by rw [hrh]; rfl, by rw [hrl]; rfl, rfl, key.2 h1⟩
  have RES := Aside0.mk res
  obtain ⟨p, hp⟩ : ∃ p, decide (a < 0) = p := ⟨_, rfl⟩
  obtain ⟨q, hq⟩ : ∃ p, decide (c < 0) = p := ⟨_, rfl⟩
  obtain ⟨t, ht⟩ : ∃ p, decide (S < 0) = p := ⟨_, rfl⟩
  have BEL := Aside0.mk (below4 w)
  clear res key hr hrh hrl hS hS2 hua huc hs1 hs2 hc1 hc2 ha hb hc hd ex ey hx hy wa wc k1 k2 k3 k4
  cases p <;> cases q <;> cases t
  all_goals
    go_enter Try.func16, Try.ntmps16
    go_wp2
    have rs := RES.out
    simp only [decide_eq_true_eq, decide_eq_false_iff_not] at hp hq ht
    simp only [hp, hq, ht, true_iff, false_iff, not_true_eq_false, not_false_eq_true, and_true, and_false, false_and, true_and, or_false, false_or] at rs
    obtain ⟨e1, e2, e3⟩ := rs
    subst e1 e2 e3
    first
    | (refine bodyPost_ret (v := .tuple #[.agg #[.int .i64 rh, .int .u64 rl], .int .i64 0]) (by simp [results, Try.results16, go_sem]) rfl ⟨rfl, ?_⟩
       exact BEL.out _ _ _ _)
    | (refine bodyPost_ret (v := .tuple #[.agg #[.int .i64 0, .int .u64 0], .int .i64 10]) (by simp [results, Try.results16, go_sem]) rfl ⟨rfl, ?_⟩
       exact BEL.out _ _ _ _)
end Go.Proofs.Ythnihjfdmkfkiaa.Q
