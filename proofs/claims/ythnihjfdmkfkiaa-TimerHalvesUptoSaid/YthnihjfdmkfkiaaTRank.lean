import Derived.Test.YthnihjfdmkfkiaaBW0
namespace Go.Proofs.Ythnihjfdmkfkiaa.Q
open Go.RowKit Go.Proofs.YthnihjfdmkfkiaaW.PrintWords Go.Proofs.YthnihjfdmkfkiaaW.PrintLast Go.Proofs.YthnihjfdmkfkiaaW.PrintMore Go.Proofs.YthnihjfdmkfkiaaV
set_option linter.unusedVariables false
set_option linter.unusedSimpArgs false

/-- The nearest rank. -/
def rankP (n p : Int) : Int := (n * p + 99999999) / 100000000
theorem rank_parts {n p : Int} : rankP n p = n / 100000000 * p + (n % 100000000 * p + 99999999) / 100000000 := by
  unfold rankP
  have e : n * p + 99999999 = (n % 100000000 * p + 99999999) + n / 100000000 * p * 100000000 := by
    have h : n = n / 100000000 * 100000000 + n % 100000000 := by omega
    have : n * p = n / 100000000 * p * 100000000 + n % 100000000 * p := by
      conv => lhs; rw [h]
      rw [Int.add_mul, Int.mul_assoc, Int.mul_comm 100000000 p, ← Int.mul_assoc]
    omega
  rw [e, Int.add_mul_ediv_right _ _ (by omega)]
  omega
set_option maxHeartbeats 1600000 in
theorem timer_rank {n p : Int} (w : World) (hn : 1 ≤ n ∧ n ≤ 9223372036854775807) (hp : 1 ≤ p ∧ p ≤ 100000000) :
    Calls Try.prog 48 #[.int .i64 n, .int .i64 p] w fun e w' => e = .returned (.int .i64 (rankP n p)) ∧ w' = w := by
  obtain ⟨a, ha⟩ : ∃ a, a = n / 100000000 := ⟨_, rfl⟩
  obtain ⟨b, hb⟩ : ∃ b, b = n % 100000000 := ⟨_, rfl⟩
  have e1 : Int.tdiv n 100000000 = a := by rw [Int.tdiv_eq_ediv_of_nonneg (by omega)]; exact ha.symm
  have e2 : Int.tmod n 100000000 = b := by rw [Int.tmod_eq_emod_of_nonneg (by omega)]; exact hb.symm
  have hR := rank_parts (n := n) (p := p)
  rw [← ha, ← hb] at hR
  have h1 : 0 ≤ a * p ∧ a * p ≤ a * 100000000 := ⟨Int.mul_nonneg (by omega) (by omega), Int.mul_le_mul_of_nonneg_left hp.2 (by omega)⟩
  have h2 : 0 ≤ b * p ∧ b * p ≤ b * 100000000 := ⟨Int.mul_nonneg (by omega) (by omega), Int.mul_le_mul_of_nonneg_left hp.2 (by omega)⟩
  have hs1 : 0 ≤ a ∧ a * 100000000 ≤ 9223372036854775807 := by omega
  have hs2 : 0 ≤ b ∧ b * 100000000 ≤ 10000000000000000 := by omega
  have hle : a * p + (b * p + 99999999) / 100000000 ≤ n := by
    omega
  have HR := Aside0.mk hR
  clear hR
  go_enter Try.func48, Try.ntmps48
  go_wp2
  rw [← ha, ← hb]
  have hq := HR.out
  generalize a * p = P at *
  generalize b * p = Q at *
  have w1 : wrap64 P = P := by unfold wrap64; omega
  have w2 : wrap64 Q = Q := by unfold wrap64; omega
  have w3 : wrap64 (Q + 100000000) = Q + 100000000 := by unfold wrap64; omega
  have w4 : wrap64 (Q + 100000000 - 1) = Q + 99999999 := by unfold wrap64; omega
  have w5 : Int.tdiv (Q + 99999999) 100000000 = (Q + 99999999) / 100000000 := Int.tdiv_eq_ediv_of_nonneg (by omega)
  have w6 : wrap64 ((Q + 99999999) / 100000000) = (Q + 99999999) / 100000000 := by unfold wrap64; omega
  have w7 : wrap64 (P + (Q + 99999999) / 100000000) = P + (Q + 99999999) / 100000000 := by unfold wrap64; omega
  rw [w1, w2, w3, w4, w5, w6, w7, ← hq]
  go_ret
  exact ⟨rfl, rfl⟩
set_option maxHeartbeats 1600000 in
theorem timer_Rank {n p : Int} (w : World) (hn : -9223372036854775808 ≤ n ∧ n ≤ 9223372036854775807) :
    Calls Try.prog 21 #[.int .i64 n, .int .i64 p] w fun e w' => e = .returned (.tuple (if p < 1 ∨ 100000000 < p then #[.int .i64 0, .int .i64 91] else if n < 1 then #[.int .i64 0, .int .i64 90] else #[.int .i64 (rankP n p), .int .i64 0])) ∧ w' = w := by
  by_cases h1 : p < 1
  · have d1 : decide (p < 1) = true := decide_eq_true h1
    rw [if_pos (.inl h1)]
    go_enter Try.func21, Try.ntmps21
    go_wp2
    go_ret2
    exact ⟨rfl, rfl⟩
  have d1 : decide (p < 1) = false := decide_eq_false h1
  by_cases h2 : 100000000 < p
  · have d2 : decide (100000000 < p) = true := decide_eq_true h2
    rw [if_pos (.inr h2)]
    go_enter Try.func21, Try.ntmps21
    go_wp2
    go_ret2
    exact ⟨rfl, rfl⟩
  have d2 : decide (100000000 < p) = false := decide_eq_false h2
  rw [if_neg (by omega)]
  by_cases h3 : n < 1
  · have d3 : decide (n < 1) = true := decide_eq_true h3
    rw [if_pos h3]
    go_enter Try.func21, Try.ntmps21
    go_wp2
    go_ret2
    exact ⟨rfl, rfl⟩
  have d3 : decide (n < 1) = false := decide_eq_false h3
  rw [if_neg h3]
  have HR := Aside0.mk (timer_rank (n := n) (p := p) w (by omega) (by omega))
  go_enter Try.func21, Try.ntmps21
  go_wp2_with (first
    | (go_at_call 48; (with_reducible refine (HR.out).mono ?_); rintro e w5 ⟨rfl, rfl⟩))
  go_ret2
  exact ⟨rfl, rfl⟩
end Go.Proofs.Ythnihjfdmkfkiaa.Q
