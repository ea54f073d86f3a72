/- Texts of this claim, laid in one: contracts of functions that the claim reaches, and the plain laws that they want; under no condition beyond those that each theorem states. -/
import Derived.Laws.BitsAllLaws
import Derived.WalkKit
import Derived.Test.YthnihjfdmkfkiaaMA
namespace Go.Proofs.Ythnihjfdmkfkiaa.Q
open Go.RowKit
set_option linter.unusedVariables false
set_option linter.unusedSimpArgs false

/-- Where the long division stands with k bits to go. -/
def DivI (M N : Int) (k : Nat) (q0 q1 r0 r1 : Int) : Prop := 0 ≤ q0 ∧ q0 ≤ 18446744073709551615 ∧ 0 ≤ q1 ∧ q1 ≤ 18446744073709551615 ∧ 0 ≤ r0 ∧ r0 ≤ 18446744073709551615 ∧ 0 ≤ r1 ∧ r1 ≤ 18446744073709551615 ∧ r1 * 18446744073709551616 + r0 = M / 2 ^ k % N ∧ q1 * 18446744073709551616 + q0 = M / 2 ^ k / N * 2 ^ k
theorem u64w' (a : Int) : IntKind.u64.wrap a = a % 18446744073709551616 := by
  simp only [IntKind.wrap, IntKind.bits, IntKind.signed]; simp
theorem and1 (x : Int) (h0 : 0 ≤ x) (h1 : x < 18446744073709551616) : bits .and .u64 x 1 = x % 2 := by
  rw [u64_and x 1 h0 h1 (by omega) (by omega), show (1 : Int).toNat = 1 from rfl, nat_mask1]
  omega
theorem or1 (x y : Int) (h0 : 0 ≤ x) (h1 : x < 18446744073709551616) (h2 : x % 2 = 0) (h3 : 0 ≤ y) (h4 : y < 2) : bits .or .u64 x y = x + y := by
  rw [u64_or x y h0 h1 h3 (by omega), nat_join 1 x.toNat y.toNat (by omega) (by omega)]
  omega
theorem orp (x : Int) (j : Nat) (h0 : 0 ≤ x) (h1 : x < 18446744073709551616) (h2 : x % 2 ^ (j + 1) = 0) (hj : j ≤ 63) : bits .or .u64 x (2 ^ j) = x + 2 ^ j := by
  have e : ((2 : Int) ^ j) = ((2 ^ j : Nat) : Int) := by simp
  have hp : (2 : Nat) ^ j < 18446744073709551616 := by
    have : (2 : Nat) ^ j ≤ 2 ^ 63 := Nat.pow_le_pow_right (by omega) hj
    have e : (2 : Nat) ^ 63 = 9223372036854775808 := by decide
    omega
  rw [e, u64_or x _ h0 h1 (by omega) (by omega), nat_join (j + 1) x.toNat ((2 ^ j : Nat) : Int).toNat ?_ ?_]
  · omega
  · obtain ⟨n, rfl⟩ := Int.eq_ofNat_of_zero_le h0
    have e2 : ((2 : Int) ^ (j + 1)) = ((2 ^ (j + 1) : Nat) : Int) := by simp
    rw [e2] at h2
    rw [Int.toNat_natCast]
    exact_mod_cast h2
  · rw [Int.toNat_natCast, Nat.pow_succ]
    have := Nat.pow_pos (n := j) (show 0 < 2 by omega)
    omega
theorem pow2_pos (k : Nat) : (0 : Int) < 2 ^ k := Int.pow_pos (by omega)
/-- The next bit. -/
theorem next_bit (M : Int) (k : Nat) : M / 2 ^ k = 2 * (M / 2 ^ (k + 1)) + M / 2 ^ k % 2 := by
  have : M / 2 ^ (k + 1) = M / 2 ^ k / 2 := by
    rw [Int.pow_succ, Int.ediv_ediv_of_nonneg (Int.le_of_lt (pow2_pos k))]
  rw [this]
  omega
theorem bit_low (m1 m0 : Int) (j : Nat) (hj : j ≤ 63) : m0 / 2 ^ j % 2 = (m1 * 18446744073709551616 + m0) / 2 ^ j % 2 := by
  obtain ⟨d, hd⟩ : ∃ d, 64 = j + (d + 1) := ⟨63 - j, by omega⟩
  have e : (18446744073709551616 : Int) = 2 ^ j * (2 * 2 ^ d) := by
    rw [show (18446744073709551616 : Int) = 2 ^ 64 by decide, hd, Int.pow_add, Int.pow_succ, Int.mul_comm ((2 : Int) ^ d) 2]
  rw [e, show m1 * (2 ^ j * (2 * 2 ^ d)) + m0 = m0 + 2 ^ j * (2 * 2 ^ d * m1) by rw [Int.mul_comm m1, Int.mul_assoc, Int.add_comm], Int.add_mul_ediv_left _ _ (by have := pow2_pos j; omega), Int.mul_assoc 2]
  omega
theorem bit_high (m1 m0 : Int) (j : Nat) (h0 : 0 ≤ m0) (h1 : m0 ≤ 18446744073709551615) : (m1 * 18446744073709551616 + m0) / 2 ^ (64 + j) = m1 / 2 ^ j := by
  rw [Int.pow_add, show (2 : Int) ^ 64 = 18446744073709551616 by decide, ← Int.ediv_ediv_of_nonneg (by omega)]
  congr 1
  omega
/-- The step: what comes down, and whether the divisor goes in once more. -/
theorem div_step {M N : Int} {k : Nat} (hN : 0 < N) {R Q b : Int} (hM : 0 ≤ M) (hR : R = M / 2 ^ (k + 1) % N) (hQ : Q = M / 2 ^ (k + 1) / N * 2 ^ (k + 1)) (hb : b = M / 2 ^ k % 2) :
    0 ≤ R ∧ R < N ∧ (2 * R + b < N → 2 * R + b = M / 2 ^ k % N ∧ Q = M / 2 ^ k / N * 2 ^ k) ∧ (N ≤ 2 * R + b → 2 * R + b - N = M / 2 ^ k % N ∧ Q + 2 ^ k = M / 2 ^ k / N * 2 ^ k) := by
  obtain ⟨A, hA⟩ : ∃ A, A = M / 2 ^ (k + 1) := ⟨_, rfl⟩
  have hB := next_bit M k
  rw [← hA] at hR hQ hB
  rw [← hb] at hB
  have h1 := Int.emod_nonneg A (show N ≠ 0 by omega)
  have h2 := Int.emod_lt_of_pos A hN
  have h3 := Int.mul_ediv_add_emod A N
  rw [← hR] at h1 h2 h3
  have hb2 : 0 ≤ b ∧ b < 2 := by omega
  obtain ⟨u, hu⟩ : ∃ u, u = A / N := ⟨_, rfl⟩
  rw [← hu] at h3 hQ
  have hB2 : M / 2 ^ k = 2 * R + b + N * (2 * u) := by
    rw [hB, ← h3, Int.mul_add, ← Int.mul_assoc 2 N u, Int.mul_comm 2 N, Int.mul_assoc]
    omega
  have hQ2 : Q = 2 * u * 2 ^ k := by rw [hQ, Int.pow_succ, Int.mul_comm ((2 : Int) ^ k) 2, ← Int.mul_assoc, Int.mul_comm u 2]
  refine ⟨h1, h2, fun h => ?_, fun h => ?_⟩
  · have e1 : M / 2 ^ k % N = 2 * R + b := by rw [hB2, Int.add_mul_emod_self_left, Int.emod_eq_of_lt (by omega) h]
    have e2 : M / 2 ^ k / N = 2 * u := by rw [hB2, Int.add_mul_ediv_left _ _ (by omega), Int.ediv_eq_zero_of_lt (by omega) h, Int.zero_add]
    exact ⟨e1.symm, by rw [e2]; exact hQ2⟩
  · have hB3 : M / 2 ^ k = 2 * R + b - N + N * (2 * u + 1) := by rw [hB2, Int.mul_add]; omega
    have e1 : M / 2 ^ k % N = 2 * R + b - N := by rw [hB3, Int.add_mul_emod_self_left, Int.emod_eq_of_lt (by omega) (by omega)]
    have e2 : M / 2 ^ k / N = 2 * u + 1 := by rw [hB3, Int.add_mul_ediv_left _ _ (by omega), Int.ediv_eq_zero_of_lt (by omega) (by omega), Int.zero_add]
    exact ⟨e1.symm, by rw [e2, Int.add_mul, hQ2]; omega⟩
/-- The quotient's word at which the step stands. -/
theorem q_low {q0 q1 X : Int} {j : Nat} (hj : j ≤ 63) (h : q1 * 18446744073709551616 + q0 = X * 2 ^ (j + 1)) : q0 % 2 ^ (j + 1) = 0 := by
  obtain ⟨d, hd⟩ : ∃ d, 64 = (j + 1) + d := ⟨63 - j, by omega⟩
  have e : (18446744073709551616 : Int) = 2 ^ (j + 1) * 2 ^ d := by rw [← Int.pow_add, ← hd]; decide
  have : q0 = 2 ^ (j + 1) * (X - q1 * 2 ^ d) := by
    rw [e] at h
    rw [Int.mul_sub, Int.mul_comm _ X, ← h, Int.mul_left_comm _ q1]
    omega
  rw [this, Int.mul_emod_right]
theorem q_high {q0 q1 X : Int} {j : Nat} (h0 : 0 ≤ q0) (h1 : q0 ≤ 18446744073709551615) (h : q1 * 18446744073709551616 + q0 = X * 2 ^ (64 + j + 1)) : q0 = 0 ∧ q1 % 2 ^ (j + 1) = 0 := by
  have e : (2 : Int) ^ (64 + j + 1) = 18446744073709551616 * 2 ^ (j + 1) := by rw [show 64 + j + 1 = 64 + (j + 1) by omega, Int.pow_add, show (2 : Int) ^ 64 = 18446744073709551616 by decide]
  rw [e, show X * (18446744073709551616 * 2 ^ (j + 1)) = X * 2 ^ (j + 1) * 18446744073709551616 by rw [Int.mul_comm 18446744073709551616, Int.mul_assoc]] at h
  generalize hY : X * 2 ^ (j + 1) = Y at h
  have hq : q0 = 0 := by omega
  have hy : q1 = Y := by omega
  refine ⟨hq, ?_⟩
  rw [hy, ← hY, Int.mul_emod_left]
theorem word_shift {r0 r1 bt d0 d1 u0 o t0 t1 : Int} (a0 : 0 ≤ r0) (a1 : r0 ≤ 18446744073709551615) (a2 : 0 ≤ r1) (a3 : r1 ≤ 18446744073709551615) (b0 : 0 ≤ bt) (b1 : bt < 2)
    (h0 : d0 = r0 * 2 % 18446744073709551616) (h1 : d1 = r1 * 2 % 18446744073709551616) (h2 : u0 = r0 / 9223372036854775808) (h3 : o = r1 / 9223372036854775808) (h4 : t0 = d0 + bt) (h5 : t1 = d1 + u0) :
    t1 * 18446744073709551616 + t0 = 2 * (r1 * 18446744073709551616 + r0) + bt - o * 340282366920938463463374607431768211456 ∧ 0 ≤ o ∧ o ≤ 1 ∧ 0 ≤ t0 ∧ t0 ≤ 18446744073709551615 ∧ 0 ≤ t1 ∧ t1 ≤ 18446744073709551615 := by omega
theorem word_sub {t0 t1 n0 n1 z0 z1 c0 o : Int} (a0 : 0 ≤ t0) (a1 : t0 ≤ 18446744073709551615) (a2 : 0 ≤ t1) (a3 : t1 ≤ 18446744073709551615) (b0 : 0 ≤ n0) (b1 : n0 ≤ 18446744073709551615) (b2 : 0 ≤ n1) (b3 : n1 ≤ 18446744073709551615)
    (h0 : z0 = (t0 + 18446744073709551616 - n0 - 0) % 18446744073709551616) (h1 : c0 = (if t0 < n0 + 0 then 1 else 0)) (h2 : z1 = (t1 + 18446744073709551616 - n1 - c0) % 18446744073709551616) (o0 : 0 ≤ o) (o1 : o ≤ 1)
    (hT : 0 ≤ o * 340282366920938463463374607431768211456 + (t1 * 18446744073709551616 + t0) - (n1 * 18446744073709551616 + n0)) (hU : o * 340282366920938463463374607431768211456 + (t1 * 18446744073709551616 + t0) - (n1 * 18446744073709551616 + n0) < 340282366920938463463374607431768211456) :
    z1 * 18446744073709551616 + z0 = o * 340282366920938463463374607431768211456 + (t1 * 18446744073709551616 + t0) - (n1 * 18446744073709551616 + n0) ∧ 0 ≤ z0 ∧ z0 ≤ 18446744073709551615 ∧ 0 ≤ z1 ∧ z1 ≤ 18446744073709551615 := by
  have hc : (c0 = 1 ∧ t0 < n0) ∨ (c0 = 0 ∧ n0 ≤ t0) := by rw [h1]; split <;> omega
  clear h1
  rcases hc with ⟨rfl, hc⟩ | ⟨rfl, hc⟩ <;> omega
theorem word_key {t0 t1 n0 n1 o T N : Int} (a0 : 0 ≤ t0) (a1 : t0 ≤ 18446744073709551615) (a2 : 0 ≤ t1) (a3 : t1 ≤ 18446744073709551615) (b0 : 0 ≤ n0) (b1 : n0 ≤ 18446744073709551615) (b2 : 0 ≤ n1) (b3 : n1 ≤ 18446744073709551615) (o0 : 0 ≤ o) (o1 : o ≤ 1)
    (hT : t1 * 18446744073709551616 + t0 = T - o * 340282366920938463463374607431768211456) (hN : N = n1 * 18446744073709551616 + n0) : (o = 1 ∨ n1 < t1 ∨ (t1 = n1 ∧ n0 ≤ t0)) ↔ N ≤ T := by omega
theorem q_room {M N : Int} {k : Nat} (hM : 0 ≤ M) : M / 2 ^ k / N * 2 ^ k ≤ M := by
  have e1 : M / 2 ^ k / N * 2 ^ k ≤ M / 2 ^ k * 2 ^ k := Int.mul_le_mul_of_nonneg_right (Int.ediv_le_self _ (Int.ediv_nonneg hM (Int.le_of_lt (pow2_pos k)))) (Int.le_of_lt (pow2_pos k))
  have e2 := Int.ediv_mul_le M (show (2 : Int) ^ k ≠ 0 by have := pow2_pos k; omega)
  omega
theorem pow_63 {j : Nat} (h : j ≤ 63) : (2 : Int) ^ j ≤ 9223372036854775808 := by
  have h1 : (2 : Nat) ^ j ≤ 2 ^ 63 := Nat.pow_le_pow_right (by omega) h
  have e : (2 : Nat) ^ 63 = 9223372036854775808 := by decide
  have e4 : ((2 : Int) ^ j) = ((2 ^ j : Nat) : Int) := by simp
  omega
theorem or_room (x : Int) (j : Nat) (h0 : 0 ≤ x) (h1 : x < 18446744073709551616) (h2 : x % 2 ^ (j + 1) = 0) (hj : j ≤ 63) : x + 2 ^ j ≤ 18446744073709551615 := by
  have hx := orp x j h0 h1 h2 hj
  have hp := pow2_pos j
  have hp2 := pow_63 hj
  have e : (2 : Nat) ^ 64 = 18446744073709551616 := by decide
  rw [u64_or x _ h0 h1 (by omega) (by omega)] at hx
  have h6 := Nat.or_lt_two_pow (n := 64) (x := x.toNat) (y := ((2 : Int) ^ j).toNat) (by omega) (by omega)
  omega
/-- What a round's words come to; mw, qw: the word that the round looks at; qn: the quotient's word behind it. -/
structure Rnd (M N : Int) (k j : Nat) (mw qw n0 n1 r0 r1 mj bt d0 d1 u0 o t0 t1 pj qn z0 z1 c0 c2 : Int) (no yes : Prop) : Prop where
  smj : mw / 2 ^ min j 64 = mj
  sbt : bits .and .u64 mj 1 = bt
  sd0 : IntKind.u64.wrap (r0 * 2) = d0
  sd1 : IntKind.u64.wrap (r1 * 2) = d1
  su0 : r0 / 9223372036854775808 = u0
  so : r1 / 9223372036854775808 = o
  st0 : bits .or .u64 d0 bt = t0
  st1 : bits .or .u64 d1 u0 = t1
  spj : IntKind.u64.wrap (2 ^ min j 64) = pj
  sqn : bits .or .u64 qw pj = qn
  t0g : 0 ≤ t0
  t1g : 0 ≤ t1
  c0g : 0 ≤ c0 ∧ c0 ≤ 1
  hz0 : z0 = (t0 + 18446744073709551616 - n0 - 0) % 18446744073709551616
  hc0 : c0 = (if t0 < n0 + 0 then 1 else 0)
  hz1 : z1 = (t1 + 18446744073709551616 - n1 - c0) % 18446744073709551616
  hc2 : c2 = (if t1 < n1 + c0 then 1 else 0)
  ways : ((o == 1) = true ∧ yes) ∨ ((o == 1) = false ∧ decide (n1 < t1) = true ∧ yes) ∨ ((o == 1) = false ∧ decide (n1 < t1) = false ∧ (t1 == n1) = true ∧ decide (n0 ≤ t0) = true ∧ yes) ∨ ((o == 1) = false ∧ decide (n1 < t1) = false ∧ (t1 == n1) = true ∧ decide (n0 ≤ t0) = false ∧ no) ∨ ((o == 1) = false ∧ decide (n1 < t1) = false ∧ (t1 == n1) = false ∧ no)
theorem ways_of {o n0 n1 t0 t1 T N : Int} {no yes : Prop} (key : (o = 1 ∨ n1 < t1 ∨ (t1 = n1 ∧ n0 ≤ t0)) ↔ N ≤ T) (hy : N ≤ T → yes) (hn : ¬ N ≤ T → no) :
    ((o == 1) = true ∧ yes) ∨ ((o == 1) = false ∧ decide (n1 < t1) = true ∧ yes) ∨ ((o == 1) = false ∧ decide (n1 < t1) = false ∧ (t1 == n1) = true ∧ decide (n0 ≤ t0) = true ∧ yes) ∨ ((o == 1) = false ∧ decide (n1 < t1) = false ∧ (t1 == n1) = true ∧ decide (n0 ≤ t0) = false ∧ no) ∨ ((o == 1) = false ∧ decide (n1 < t1) = false ∧ (t1 == n1) = false ∧ no) := by
  by_cases h1 : o = 1
  · exact .inl ⟨beq_iff_eq.mpr h1, hy (key.1 (.inl h1))⟩
  · have k1 : (o == 1) = false := beq_eq_false_iff_ne.mpr h1
    by_cases h2 : n1 < t1
    · exact .inr (.inl ⟨k1, decide_eq_true h2, hy (key.1 (.inr (.inl h2)))⟩)
    · have k2 : decide (n1 < t1) = false := decide_eq_false h2
      by_cases h3 : t1 = n1
      · by_cases h4 : n0 ≤ t0
        · exact .inr (.inr (.inl ⟨k1, k2, beq_iff_eq.mpr h3, decide_eq_true h4, hy (key.1 (.inr (.inr ⟨h3, h4⟩)))⟩))
        · exact .inr (.inr (.inr (.inl ⟨k1, k2, beq_iff_eq.mpr h3, decide_eq_false h4, hn (fun h => by rcases key.2 h with q | q | q; exact h1 q; exact h2 q; exact h4 q.2)⟩)))
      · exact .inr (.inr (.inr (.inr ⟨k1, k2, beq_eq_false_iff_ne.mpr h3, hn (fun h => by rcases key.2 h with q | q | q; exact h1 q; exact h2 q; exact h3 q.1)⟩)))
/-- A round, whichever word it looks at. -/
theorem round_of {M N : Int} {k j : Nat} {mw qw n0 n1 q0 q1 r0 r1 : Int} (hM : 0 ≤ M) (hN : 0 < N) (en : N = n1 * 18446744073709551616 + n0) (b0 : 0 ≤ n0) (b1 : n0 ≤ 18446744073709551615) (b2 : 0 ≤ n1) (b3 : n1 ≤ 18446744073709551615)
    (hI : DivI M N (k + 1) q0 q1 r0 r1) (hj : j ≤ 63) (m0 : 0 ≤ mw) (m1 : mw ≤ 18446744073709551615) (hmw : mw / 2 ^ j % 2 = M / 2 ^ k % 2) (w0 : 0 ≤ qw) (w1 : qw ≤ 18446744073709551615) (hqw : qw % 2 ^ (j + 1) = 0)
    (yes : Int → Int → Int → Prop)
    (hyes : ∀ z0 z1, 0 ≤ z0 → z0 ≤ 18446744073709551615 → 0 ≤ z1 → z1 ≤ 18446744073709551615 → z1 * 18446744073709551616 + z0 = M / 2 ^ k % N → q1 * 18446744073709551616 + q0 + 2 ^ k = M / 2 ^ k / N * 2 ^ k → yes (qw + 2 ^ j) z0 z1) :
    ∃ mj bt d0 d1 u0 o t0 t1 pj qn z0 z1 c0 c2, Rnd M N k j mw qw n0 n1 r0 r1 mj bt d0 d1 u0 o t0 t1 pj qn z0 z1 c0 c2 (DivI M N k q0 q1 t0 t1) (yes qn z0 z1) := by
  obtain ⟨g0, g1, g2, g3, g4, g5, g6, g7, g8, g9⟩ := hI
  obtain ⟨S1, S2, S3, S4⟩ := div_step (k := k) hN hM g8 g9 rfl
  obtain ⟨bt, hbt⟩ : ∃ b, b = M / 2 ^ k % 2 := ⟨_, rfl⟩
  rw [← hbt] at S3 S4 hmw
  have hbt2 : 0 ≤ bt ∧ bt < 2 := by rw [hbt]; omega
  have d0r : 0 ≤ r0 * 2 % 18446744073709551616 ∧ r0 * 2 % 18446744073709551616 < 18446744073709551616 ∧ r0 * 2 % 18446744073709551616 % 2 = 0 := by clear S1 S2 S3 S4 g8 g9 hbt; omega
  have d1r : 0 ≤ r1 * 2 % 18446744073709551616 ∧ r1 * 2 % 18446744073709551616 < 18446744073709551616 ∧ r1 * 2 % 18446744073709551616 % 2 = 0 := by clear S1 S2 S3 S4 g8 g9 hbt; omega
  have u0r : 0 ≤ r0 / 9223372036854775808 ∧ r0 / 9223372036854775808 < 2 := by clear S1 S2 S3 S4 g8 g9 hbt; omega
  obtain ⟨T1, T2, T3, T4, T5, T6, T7⟩ := word_shift g4 g5 g6 g7 hbt2.1 hbt2.2 rfl rfl rfl rfl rfl rfl
  have hmj : 0 ≤ mw / 2 ^ j ∧ mw / 2 ^ j < 18446744073709551616 := ⟨Int.ediv_nonneg m0 (Int.le_of_lt (pow2_pos j)), Int.lt_of_le_of_lt (Int.ediv_le_self _ m0) (by omega)⟩
  have hp0 := pow2_pos j
  have hp1 := pow_63 hj
  have hmin : min j 64 = j := by omega
  refine ⟨mw / 2 ^ j, bt, r0 * 2 % 18446744073709551616, r1 * 2 % 18446744073709551616, r0 / 9223372036854775808, r1 / 9223372036854775808, r0 * 2 % 18446744073709551616 + bt, r1 * 2 % 18446744073709551616 + r0 / 9223372036854775808, 2 ^ j, qw + 2 ^ j, _, _, _, _, ⟨?_, ?_, ?_, ?_, rfl, rfl, ?_, ?_, ?_, ?_, T4, T6, ?_, rfl, rfl, rfl, rfl, ?_⟩⟩
  · rw [hmin]
  · rw [and1 _ hmj.1 hmj.2, hmw]
  · rw [u64w']
  · rw [u64w']
  · exact or1 _ _ d0r.1 d0r.2.1 d0r.2.2 hbt2.1 hbt2.2
  · exact or1 _ _ d1r.1 d1r.2.1 d1r.2.2 u0r.1 u0r.2
  · rw [hmin, u64w']; clear S1 S2 S3 S4 g8 g9 hbt T1; omega
  · exact orp qw j w0 (by omega) hqw hj
  · split <;> omega
  · generalize r0 * 2 % 18446744073709551616 + bt = t0 at T1 T4 T5 ⊢
    generalize r1 * 2 % 18446744073709551616 + r0 / 9223372036854775808 = t1 at T1 T6 T7 ⊢
    generalize r1 / 9223372036854775808 = o at T1 T2 T3 ⊢
    generalize hR : r1 * 18446744073709551616 + r0 = R at T1 S1 S2 S3 S4
    clear d0r d1r u0r hmj hp0 hp1 g8 g9 g4 g5 g6 g7 hR
    refine ways_of (word_key T4 T5 T6 T7 b0 b1 b2 b3 T2 T3 T1 en) (fun h => ?_) (fun h => ?_)
    · obtain ⟨h1, h2⟩ := S4 h
      obtain ⟨e1, e2, e3, e4, e5⟩ := word_sub T4 T5 T6 T7 b0 b1 b2 b3 rfl rfl rfl T2 T3 (by clear S3 S4 h1 h2; omega) (by clear S3 S4 h1 h2; omega)
      refine hyes _ _ e2 e3 e4 e5 ?_ h2
      rw [e1, ← h1]
      clear S3 S4 h1 h2 e1 e2 e3 e4 e5
      omega
    · obtain ⟨h1, h2⟩ := S3 (by clear S3 S4; omega)
      exact ⟨g0, g1, g2, g3, T4, T5, T6, T7, by rw [← h1]; clear S3 S4 h1 h2; omega, h2⟩
theorem round_low {M N : Int} {k : Nat} {m0 m1 n0 n1 q0 q1 r0 r1 : Int} (hM : 0 ≤ M) (hM2 : M ≤ 340282366920938463463374607431768211455) (em : M = m1 * 18446744073709551616 + m0) (a0 : 0 ≤ m0) (a1 : m0 ≤ 18446744073709551615) (hN : 0 < N) (en : N = n1 * 18446744073709551616 + n0) (b0 : 0 ≤ n0) (b1 : n0 ≤ 18446744073709551615) (b2 : 0 ≤ n1) (b3 : n1 ≤ 18446744073709551615)
    (hI : DivI M N (k + 1) q0 q1 r0 r1) (hk : k ≤ 63) :
    ∃ mj bt d0 d1 u0 o t0 t1 pj qn z0 z1 c0 c2, Rnd M N k k m0 q0 n0 n1 r0 r1 mj bt d0 d1 u0 o t0 t1 pj qn z0 z1 c0 c2 (DivI M N k q0 q1 t0 t1) (DivI M N k qn q1 z0 z1) := by
  have hI2 := hI
  obtain ⟨g0, g1, g2, g3, g4, g5, g6, g7, g8, g9⟩ := hI2
  have hq := q_low hk g9
  have hr := q_room (M := M) (N := N) (k := k) hM
  have hp := pow2_pos k
  refine round_of hM hN en b0 b1 b2 b3 hI hk a0 a1 (by rw [em]; exact bit_low m1 m0 k hk) g0 g1 hq (fun qn z0 z1 => DivI M N k qn q1 z0 z1) (fun z0 z1 h0 h1 h2 h3 h4 h5 => ⟨?_, ?_, g2, g3, h0, h1, h2, h3, h4, ?_⟩)
  · omega
  · exact or_room q0 k g0 (by omega) hq hk
  · rw [← h5]; omega
theorem round_high {M N : Int} {k j : Nat} {m0 m1 n0 n1 q0 q1 r0 r1 : Int} (hM : 0 ≤ M) (em : M = m1 * 18446744073709551616 + m0) (a0 : 0 ≤ m0) (a1 : m0 ≤ 18446744073709551615) (a2 : 0 ≤ m1) (a3 : m1 ≤ 18446744073709551615) (hN : 0 < N) (en : N = n1 * 18446744073709551616 + n0) (b0 : 0 ≤ n0) (b1 : n0 ≤ 18446744073709551615) (b2 : 0 ≤ n1) (b3 : n1 ≤ 18446744073709551615)
    (hI : DivI M N (k + 1) q0 q1 r0 r1) (hk : k = 64 + j) (hj : j ≤ 63) :
    ∃ mj bt d0 d1 u0 o t0 t1 pj qn z0 z1 c0 c2, Rnd M N k j m1 q1 n0 n1 r0 r1 mj bt d0 d1 u0 o t0 t1 pj qn z0 z1 c0 c2 (DivI M N k q0 q1 t0 t1) (DivI M N k q0 qn z0 z1) := by
  subst hk
  have hI2 := hI
  obtain ⟨g0, g1, g2, g3, g4, g5, g6, g7, g8, g9⟩ := hI2
  obtain ⟨hq0, hq⟩ := q_high g0 g1 g9
  have hp := pow2_pos j
  have e64 : (2 : Int) ^ (64 + j) = 18446744073709551616 * 2 ^ j := by rw [Int.pow_add, show (2 : Int) ^ 64 = 18446744073709551616 by decide]
  refine round_of hM hN en b0 b1 b2 b3 hI hj a2 a3 (by rw [em, bit_high m1 m0 j a0 a1]) g2 g3 hq (fun qn z0 z1 => DivI M N (64 + j) q0 qn z0 z1) (fun z0 z1 h0 h1 h2 h3 h4 h5 => ⟨g0, g1, ?_, ?_, h0, h1, h2, h3, h4, ?_⟩)
  · omega
  · exact or_room q1 j g2 (by omega) hq hj
  · rw [← h5, e64]; omega
end Go.Proofs.Ythnihjfdmkfkiaa.Q

namespace Go.Proofs.Ythnihjfdmkfkiaa.Q
open Go.RowKit Go.Proofs.YthnihjfdmkfkiaaW.PrintWords Go.Proofs.YthnihjfdmkfkiaaW.PrintLast Go.Proofs.YthnihjfdmkfkiaaW.PrintMore Go.Proofs.YthnihjfdmkfkiaaV
set_option linter.unusedVariables false
set_option linter.unusedSimpArgs false

/-- Four limbs of a word. -/
def dig (x : Int) (i : Nat) : Int := x / 2 ^ (16 * i) % 65536
def digs (x : Int) (n : Nat) : List Int := (List.range n).map (dig x)
set_option maxHeartbeats 1600000 in
theorem xor_ones (v : Nat) (h : v < 18446744073709551616) : 18446744073709551615 ^^^ v = 18446744073709551615 - v := by
  have h1 := BitVec.toNat_xor (BitVec.allOnes 64) (BitVec.ofNat 64 v)
  have h2 : (BitVec.allOnes 64 ^^^ BitVec.ofNat 64 v) = ~~~ (BitVec.ofNat 64 v) := by rw [BitVec.xor_comm, BitVec.xor_allOnes]
  rw [h2, BitVec.toNat_not, BitVec.toNat_allOnes, BitVec.toNat_ofNat, Nat.mod_eq_of_lt h] at h1
  exact h1.symm
theorem not64 (v : Int) (h0 : 0 ≤ v) (h1 : v ≤ 18446744073709551615) : bits .xor .u64 IntKind.u64.max v = 18446744073709551615 - v := by
  rw [show IntKind.u64.max = 18446744073709551615 by rfl, u64_xor 18446744073709551615 v (by omega) (by omega) h0 (by omega)]
  have := xor_ones v.toNat (by omega)
  rw [show (18446744073709551615 : Int).toNat = 18446744073709551615 by rfl, this]
  omega
theorem digs_succ (x : Int) (i : Nat) : digs x (i + 1) = digs x i ++ [dig x i] := by unfold digs; rw [List.range_succ, List.map_append]; rfl
theorem digs_len (x : Int) (i : Nat) : (digs x i).length = i := by unfold digs; simp
theorem digs_ok (x : Int) (i : Nat) : okL (digs x i) := fun y hy => by
  obtain ⟨j, -, rfl⟩ := List.mem_map.1 hy
  unfold dig
  omega
theorem dig_and (L : Int) (i : Nat) : bits .and .u32 (L / 2 ^ (16 * i) % 4294967296) 65535 = dig L i := by
  rw [and16 _ (by omega) (by omega)]
  unfold dig
  generalize L / 2 ^ (16 * i) = q
  omega
theorem valL_digs4 (L H : Int) (h1 : 0 ≤ L) (h2 : L ≤ 18446744073709551615) (h3 : 0 ≤ H) (h4 : H ≤ 18446744073709551615) : valL (digs L 4 ++ digs H 4) = H * 18446744073709551616 + L := by
  have e : digs L 4 ++ digs H 4 = [L / 1 % 65536, L / 65536 % 65536, L / 4294967296 % 65536, L / 281474976710656 % 65536, H / 1 % 65536, H / 65536 % 65536, H / 4294967296 % 65536, H / 281474976710656 % 65536] := rfl
  rw [e]
  simp only [valL]
  omega
set_option maxRecDepth 8000 in
theorem ref_From {x : Int} (w : World) (hx : inW x) :
    Calls Try.prog 56 #[WV x] w fun e w' => ∃ v, e = .returned v ∧ NumV w' v x ∧ Below w.heap.size w w' := by
  have k1 := hi_rng hx
  have k3 := lo_rng x
  have ex : x = hiW x * 18446744073709551616 + loW x := by unfold hiW loW; omega
  unfold WV
  obtain ⟨a, ha⟩ : ∃ a, a = hiW x := ⟨_, rfl⟩
  obtain ⟨b, hb⟩ : ∃ b, b = loW x := ⟨_, rfl⟩
  rw [← ha] at k1 ex ⊢
  rw [← hb] at k3 ex ⊢
  obtain ⟨ua, hua⟩ : ∃ s, s = IntKind.u64.wrap a := ⟨_, rfl⟩
  have HU := Aside0.mk hua.symm
  clear hua
  clear ha hb
  obtain ⟨W, hW⟩ : ∃ W, W = (w.alloc (.cells #[.int .i64 a, .int .u64 b] 25 (0, 0))).alloc (.cells #[.bool false, .slice none 0 0] 71 (0, 0)) := ⟨_, rfl⟩
  have n0 : W.heap[w.heap.size]? = some (.cells #[.int .i64 a, .int .u64 b] 25 (0, 0)) := by rw [hW]; exact blk_alloc (heap_alloc_new _ _) _
  have n1 : W.heap[w.heap.size + 1]? = some (.cells #[.bool false, .slice none 0 0] 71 (0, 0)) := by rw [hW]; exact heap_alloc2_new _ _ _
  have q0 : W.cell? ⟨w.heap.size, 0, none⟩ = some (.int .i64 a) := blk_cell n0 0
  have q1 : W.cell? ⟨w.heap.size, 1, none⟩ = some (.int .u64 b) := blk_cell n0 1
  have N1 := Aside0.mk n1
  have HB := Aside0.mk (show Below w.heap.size w W by rw [hW]; exact below_alloc (below_alloc (Below.refl _ _) _) _)
  have HW := Aside0.mk hW
  clear n0 n1 hW
  go_enter Try.func56, Try.ntmps56
  go_wp2
  rw [← HW.out]
  go_quiet (fail)
  obtain ⟨bo, hbo⟩ : ∃ bo, decide (a < 0) = bo := ⟨_, rfl⟩
  have HBO := Aside0.mk hbo
  have EX := Aside0.mk ex
  clear ex
  go_upto_if 17 with (fail)
  go_cut [4, 5] from 18 to 26 (fun v4 v5 wx => ∃ H L : Int, v4 = .int .u64 H ∧ v5 = .int .u64 L ∧ 0 ≤ H ∧ H ≤ 18446744073709551615 ∧ 0 ≤ L ∧ L ≤ 18446744073709551615 ∧ (x.natAbs : Int) = H * 18446744073709551616 + L ∧ wx = W.drewN nq)
  case first =>
    have ex := EX.out
    cases bo with
    | false =>
      have h0 : ¬ a < 0 := of_decide_eq_false HBO.out
      have hw : IntKind.u64.wrap a = a := by rw [u64w]; omega
      have HW2 := Aside0.mk hw
      have HXN := Aside0.mk (show (x.natAbs : Int) = a * 18446744073709551616 + b by omega)
      clear hw ex
      go_wp2
      go_meet
      exact ⟨a, b, by rw [HW2.out], rfl, by omega, by omega, by omega, by omega, HXN.out, rfl⟩
    | true =>
      have h0 : a < 0 := of_decide_eq_true HBO.out
      have hw : IntKind.u64.wrap a = a + 18446744073709551616 := by rw [u64w]; omega
      have X1 := not64 b (by omega) (by omega)
      have X2 := not64 (IntKind.u64.wrap a) (by rw [hw]; omega) (by rw [hw]; omega)
      rw [show 18446744073709551615 - IntKind.u64.wrap a = -1 - a by rw [hw]; omega] at X2
      by_cases hb0 : b = 0
      · subst hb0
        have HXN := Aside0.mk (show (x.natAbs : Int) = (-a) * 18446744073709551616 + 0 by omega)
        clear hw ex
        go_wp2
        go_meet
        exact ⟨-a, 0, by rw [show IntKind.u64.wrap (-1 - a + 1) = -a by rw [u64w]; omega], by rw [show IntKind.u64.wrap 18446744073709551616 = 0 by rw [u64w]; omega], by omega, by omega, by omega, by omega, HXN.out, rfl⟩
      · have f0 : (IntKind.u64.wrap (18446744073709551615 - b + 1) == 0) = false := by rw [u64w]; exact beq_eq_false_iff_ne.mpr (by omega)
        have HXN := Aside0.mk (show (x.natAbs : Int) = (-1 - a) * 18446744073709551616 + (18446744073709551616 - b) by omega)
        clear hw ex
        go_wp2
        all_goals first
          | (go_meet; exact ⟨-1 - a, 18446744073709551616 - b, rfl, by rw [show IntKind.u64.wrap (18446744073709551615 - b + 1) = 18446744073709551616 - b by rw [u64w]; omega], by omega, by omega, by omega, by omega, HXN.out, rfl⟩)
          | (exfalso; rename_i hh; have hq : IntKind.u64.wrap (bits .xor .u64 (if IntKind.u64.signed = true then -1 else IntKind.u64.max) b + 1) = 0 := (by simpa using hh); rw [if_neg (by decide), X1, u64w] at hq; omega)
  case rest =>
    obtain ⟨H, L, rfl, rfl, h1, h2, h3, h4, hn, rfl⟩ := hcut
    have HXN := Aside0.mk hn
    have HB2 := Aside0.mk (pw_below_drewN HB.out nq)
    have N2 := Aside0.mk (blk_drewN N1.out nq)
    obtain ⟨V, hV⟩ : ∃ V, V = W.drewN nq := ⟨_, rfl⟩
    rw [← hV] at HB2 N2 ⊢
    have EX0 := EX
    clear hn q0 q1 N1 HB hV EX
    go_wp2
    go_loopg [3, 7] 4 (fun kq v3 v7 w' => ∃ (i : Nat) (A5 : Option Addr) (c5 : Nat), v3 = .slice A5 (digs L i).length c5 ∧ v7 = .int .i64 i ∧ i + kq = 4 ∧ Aside0 (Kd.R (Kd.int .u32) 105 w' V.heap.size (fun _ => True) (.slice A5 (digs L i).length c5) (digs L i)) ∧ Aside0 (Below V.heap.size V w'))
    case atStart => exact ⟨0, none, 0, rfl, rfl, rfl, ⟨Kd.R_nil _ _ _ _ _⟩, ⟨Below.refl _ _⟩⟩
    case round =>
      obtain ⟨i, A5, c5, rfl, rfl, hik, HR, HK⟩ := hrel
      have hBw := HK.out.size
      cases gk with
      | zero =>
        obtain rfl : i = 4 := by omega
        have f1 : decide ((4 : Nat) < 4) = false := rfl
        obtain ⟨A0, hA0⟩ : ∃ A0, A0 = A5 := ⟨_, rfl⟩
        obtain ⟨c0, hc0⟩ : ∃ c0, c0 = c5 := ⟨_, rfl⟩
        go_wp2
        go_loopg [3, 8] 4 (fun kq v3 v8 w' => ∃ (i : Nat) (A5 : Option Addr) (c5 : Nat), v3 = .slice A5 (digs L 4 ++ digs H i).length c5 ∧ v8 = .int .i64 i ∧ i + kq = 4 ∧ Aside0 (Kd.R (Kd.int .u32) 105 w' V.heap.size (fun _ => True) (.slice A5 (digs L 4 ++ digs H i).length c5) (digs L 4 ++ digs H i)) ∧ Aside0 (Below V.heap.size V w'))
        case atStart => exact ⟨0, A5, c5, by rw [show digs L 4 ++ digs H 0 = digs L 4 from List.append_nil _], rfl, rfl, ⟨by rw [show digs L 4 ++ digs H 0 = digs L 4 from List.append_nil _]; exact HR.out⟩, HK⟩
        case round =>
          clear HR HK hA0 hc0 hBw
          obtain ⟨i, A6, c6, rfl, rfl, hik2, HR, HK⟩ := hrel
          have hBw := HK.out.size
          cases gk with
          | zero =>
            obtain rfl : i = 4 := by omega
            have f1 : decide ((4 : Nat) < 4) = false := rfl
            have HL := Aside0.mk (show Lm wr A6 c6 (digs L 4 ++ digs H 4) from ⟨(Kd.R_reads' HR.out).2.2, (Kd.R_reads' HR.out).2.1, okL_app (digs_ok _ _) (digs_ok _ _)⟩)
            have hv := valL_digs4 L H h3 h4 h1 h2
            have HX := Aside0.mk (show x = if bo then - valL (digs L 4 ++ digs H 4) else valL (digs L 4 ++ digs H 4) by
              rw [hv]
              have := HXN.out
              have := EX0.out
              cases bo with
              | true => have := of_decide_eq_true HBO.out; simp only [if_true]; omega
              | false => have := of_decide_eq_false HBO.out; simp only [Bool.false_eq_true, if_false]; omega)
            clear hv
            obtain ⟨lst, hlst⟩ : ∃ lst, lst = digs L 4 ++ digs H 4 := ⟨_, rfl⟩
            rw [← hlst] at HL HX ⊢
            clear hlst
            go_wp2_with (first
              | (go_at_call 58; (with_reducible refine (ref_make2 bo HL.out x HX.out).mono ?_); rintro e w6 ⟨rfl, h6, hb6⟩; obtain ⟨s, hs⟩ : ∃ s, s = decide (x < 0) := ⟨_, rfl⟩; obtain ⟨lx, hlx⟩ : ∃ lx, lx = limbs x.natAbs := ⟨_, rfl⟩; rw [← hs, ← hlx]; have HSS := Aside0.mk hs; have HLX := Aside0.mk hlx; rw [← hlx] at h6; have hbv := HK.out.trans ⟨hb6.os, hb6.tape, hb6.output, hb6.size, fun k hk => hb6.block k (Nat.lt_of_lt_of_le hk hBw)⟩; obtain ⟨f1, f2, f3, f4, f5⟩ := res2 (v0 := .bool s) (v1 := .slice A6 lx.length c6) ((hbv.block _ (blk_lt N2.out)).trans N2.out); have H6 := Aside0.mk h6; have F5 := Aside0.mk f5; have HB6 := Aside0.mk (hop HB2.out hbv); clear h6 hb6 hs hlx f5 hbv))
            refine bodyPost_ret (results_cell_row rfl _ _ (w.heap.size + 1) 71 _ (0, 0) _ rfl F5.out Try.underlying71 rfl (by kernel_rfl)) rfl ?_
            exact ⟨_, rfl, ⟨A6, c6, by rw [← HSS.out, ← HLX.out], by rw [← HLX.out]; exact H6.out.keep keep_set2 (fun ad e => by have := R_fresh HR.out ad e; have := blk_lt N2.out; omega)⟩, HB6.out.trans (keep_set2.below HB6.out.size (fun k hk => by omega))⟩
          | succ k1 =>
            have f1 : decide (i < 4) = true := decide_eq_true (by omega)
            have hand := dig_and H i
            obtain ⟨dd, hdd⟩ : ∃ dd, dd = dig H i := ⟨_, rfl⟩
            rw [← hdd] at hand
            obtain ⟨acc, hacc⟩ : ∃ acc, acc = digs L 4 ++ digs H i := ⟨_, rfl⟩
            have HD := Aside0.mk (show digs L 4 ++ digs H (i + 1) = acc ++ [dd] by rw [digs_succ H, ← List.append_assoc, ← hacc, ← hdd])
            rw [← hacc] at HR ⊢
            have hal : acc.length ≤ 100 := by rw [hacc, List.length_append, digs_len, digs_len]; omega
            clear hdd hacc
            go_wp2_with (first
              | ((with_reducible refine gate_builtin (b := .append) (xs := #[.tmp 45, .tmp 53]) rfl ?_); at_builtin; refine Kd.R_append (Kd.int .u32) (w0 := wr) V.heap.size rfl (.tmp 45) (.tmp 53) 69 105 (.int .u32 0) 4 rfl Try.underlying69 info_u32 rfl (by decide) (by omega) (.slice A6 acc.length c6) acc dd [.int .u32 dd] (fun _ => True) (fun _ => False) rfl rfl ?aP (fun _ hk => hk.elim) ?aF ?aO ?aB ?aS ?aL ?_; (case aP => exact rfl); (case aB => exact Below.refl _ _); (case aF => exact (fun _ _ => trivial)); (case aO => exact HR.out); (case aS => exact hBw); (case aL => omega); intro v5 w5 ho5 _ hg5 hat5; obtain ⟨H2, hH2⟩ : ∃ l, l = digs L 4 ++ digs H (i + 1) := ⟨_, rfl⟩; rw [← HD.out, ← hH2] at ho5; have NH2 := Aside0.mk hH2; clear hH2; obtain ⟨A2, cp2, ev2⟩ := Kd.R_slice ho5; subst ev2; have HR2 := Aside0.mk ho5; have HG2 := Aside0.mk hg5; clear ho5 hg5 hat5))
            go_roundg k1
            case rel =>
              have hgk := grown_keep HG2.out
              refine ⟨i + 1, A2, cp2, by rw [← NH2.out], by go_num, by omega, by rw [← NH2.out]; exact HR2, ⟨HK.out.trans (hgk.below hBw (fun k hk => ?_))⟩⟩
              obtain ⟨inner, ho⟩ := Kd.R_own HR.out
              exact own_base ho k hk.symm
            case measure => omega
      | succ k1 =>
        have f1 : decide (i < 4) = true := decide_eq_true (by omega)
        have hand := dig_and L i
        obtain ⟨dd, hdd⟩ : ∃ dd, dd = dig L i := ⟨_, rfl⟩
        rw [← hdd] at hand
        obtain ⟨acc, hacc⟩ : ∃ acc, acc = digs L i := ⟨_, rfl⟩
        have HD := Aside0.mk (show digs L (i + 1) = acc ++ [dd] by rw [digs_succ, ← hacc, ← hdd])
        rw [← hacc] at HR ⊢
        have hal : acc.length ≤ 100 := by rw [hacc, digs_len]; omega
        clear hdd hacc
        go_wp2_with (first
          | ((with_reducible refine gate_builtin (b := .append) (xs := #[.tmp 31, .tmp 39]) rfl ?_); at_builtin; refine Kd.R_append (Kd.int .u32) (w0 := wr) V.heap.size rfl (.tmp 31) (.tmp 39) 69 105 (.int .u32 0) 4 rfl Try.underlying69 info_u32 rfl (by decide) (by omega) (.slice A5 acc.length c5) acc dd [.int .u32 dd] (fun _ => True) (fun _ => False) rfl rfl ?aP (fun _ hk => hk.elim) ?aF ?aO ?aB ?aS ?aL ?_; (case aP => exact rfl); (case aB => exact Below.refl _ _); (case aF => exact (fun _ _ => trivial)); (case aO => exact HR.out); (case aS => exact hBw); (case aL => omega); intro v5 w5 ho5 _ hg5 hat5; rw [← HD.out] at ho5; obtain ⟨A2, cp2, ev2⟩ := Kd.R_slice ho5; subst ev2; have HR2 := Aside0.mk ho5; have HG2 := Aside0.mk hg5; clear ho5 hg5 hat5))
        go_roundg k1
        case rel =>
          have hgk := grown_keep HG2.out
          refine ⟨i + 1, A2, cp2, rfl, by go_num, by omega, HR2, ⟨HK.out.trans (hgk.below hBw (fun k hk => ?_))⟩⟩
          obtain ⟨inner, ho⟩ := Kd.R_own HR.out
          exact own_base ho k hk.symm
        case measure => omega
end Go.Proofs.Ythnihjfdmkfkiaa.Q

/- Long division of lists of limbs, bit by bit: plain facts. -/
namespace Go.Proofs.Ythnihjfdmkfkiaa.Q
set_option linter.unusedVariables false
set_option linter.unusedSimpArgs false

theorem valL_drop : ∀ (l : List Int) (m : Nat), okL l → valL l / 65536 ^ m = valL (l.drop m)
  | l, 0, h => by rw [Int.pow_zero, Int.ediv_one]; rfl
  | [], m + 1, h => by rw [List.drop_nil]; simp [valL]
  | x :: r, m + 1, h => by
    have hx := (okL_cons h).1
    have ih := valL_drop r m (okL_cons h).2
    rw [List.drop_succ_cons, ← ih, Int.pow_succ, Int.mul_comm, ← Int.ediv_ediv_of_nonneg (by omega)]
    congr 1
    simp only [valL]
    omega
/-- The bit at t of a limb is the bit at 16 m + t of the number. -/
theorem bit_at {l : List Int} (h : okL l) {m t : Nat} (ht : t < 16) : valL l / 65536 ^ m / 2 ^ t % 2 = l.getD m 0 / 2 ^ t % 2 := by
  rw [valL_drop l m h]
  have e : valL (l.drop m) = l.getD m 0 + 65536 * valL (l.drop m).tail := by
    rw [valL_split (l.drop m), List.headD_eq_head?_getD, List.head?_drop, ← List.getD_eq_getElem?_getD]
  rw [e]
  generalize l.getD m 0 = x
  generalize valL (l.drop m).tail = y
  have : t = 0 ∨ t = 1 ∨ t = 2 ∨ t = 3 ∨ t = 4 ∨ t = 5 ∨ t = 6 ∨ t = 7 ∨ t = 8 ∨ t = 9 ∨ t = 10 ∨ t = 11 ∨ t = 12 ∨ t = 13 ∨ t = 14 ∨ t = 15 := by omega
  rcases this with rfl | rfl | rfl | rfl | rfl | rfl | rfl | rfl | rfl | rfl | rfl | rfl | rfl | rfl | rfl | rfl <;> simp only [Int.reducePow] <;> omega
theorem pow_mt (m t : Nat) : (2 : Int) ^ (16 * m + t) = 65536 ^ m * 2 ^ t := by
  rw [Int.pow_add, Int.pow_mul]
  rfl
theorem bit_mt {l : List Int} (h : okL l) {m t : Nat} (ht : t < 16) : valL l / 2 ^ (16 * m + t) % 2 = l.getD m 0 / 2 ^ t % 2 := by
  rw [pow_mt, ← bit_at h ht, Int.ediv_ediv_of_nonneg (Int.le_of_lt (Int.pow_pos (by omega)))]
/-- The low bits of a quotient's limb are clear while its bits are set from the top. -/
theorem q_bit {q : List Int} (h : okL q) {m t : Nat} (ht : t < 16) {X : Int} (hX : valL q = X * 2 ^ (16 * m + t + 1)) : q.getD m 0 % 2 ^ (t + 1) = 0 := by
  have e : valL (q.drop m) = q.getD m 0 + 65536 * valL (q.drop m).tail := by
    rw [valL_split (q.drop m), List.headD_eq_head?_getD, List.head?_drop, ← List.getD_eq_getElem?_getD]
  have d := valL_drop q m h
  have p : (0 : Int) < 65536 ^ m := Int.pow_pos (by omega)
  rw [hX, Nat.add_assoc, pow_mt, show X * (65536 ^ m * 2 ^ (t + 1)) = X * 2 ^ (t + 1) * 65536 ^ m by rw [Int.mul_comm (65536 ^ m), Int.mul_assoc], Int.mul_ediv_cancel _ (by omega), e] at d
  generalize q.getD m 0 = x at d
  generalize valL (q.drop m).tail = y at d
  clear e hX p
  have : t = 0 ∨ t = 1 ∨ t = 2 ∨ t = 3 ∨ t = 4 ∨ t = 5 ∨ t = 6 ∨ t = 7 ∨ t = 8 ∨ t = 9 ∨ t = 10 ∨ t = 11 ∨ t = 12 ∨ t = 13 ∨ t = 14 ∨ t = 15 := by omega
  rcases this with rfl | rfl | rfl | rfl | rfl | rfl | rfl | rfl | rfl | rfl | rfl | rfl | rfl | rfl | rfl | rfl <;> simp only [Int.reducePow, Nat.reduceAdd] at d ⊢ <;> omega
theorem val_put (p r : List Int) (o v : Int) : valL (p ++ v :: r) = valL (p ++ o :: r) + (v - o) * 65536 ^ p.length := by
  induction p with
  | nil => simp only [List.nil_append, List.length_nil, Int.pow_zero, valL]; omega
  | cons x p ih =>
    simp only [List.cons_append, valL, List.length_cons, ih, Int.pow_succ]
    rw [Int.mul_add, ← Int.mul_assoc (v - o), Int.mul_comm _ 65536]
    omega
/-- One bit more of the quotient. -/
theorem val_bit (p r : List Int) (o : Int) (t : Nat) : valL (p ++ (o + 2 ^ t) :: r) = valL (p ++ o :: r) + 2 ^ (16 * p.length + t) := by
  rw [val_put p r o, show o + 2 ^ t - o = 2 ^ t by omega, pow_mt, Int.mul_comm]
theorem u32_orp (x : Int) (j : Nat) (h0 : 0 ≤ x) (h1 : x ≤ 65535) (h2 : x % 2 ^ (j + 1) = 0) (hj : j < 16) : x + 2 ^ j ≤ 65535 := by
  have : j = 0 ∨ j = 1 ∨ j = 2 ∨ j = 3 ∨ j = 4 ∨ j = 5 ∨ j = 6 ∨ j = 7 ∨ j = 8 ∨ j = 9 ∨ j = 10 ∨ j = 11 ∨ j = 12 ∨ j = 13 ∨ j = 14 ∨ j = 15 := by omega
  rcases this with rfl | rfl | rfl | rfl | rfl | rfl | rfl | rfl | rfl | rfl | rfl | rfl | rfl | rfl | rfl | rfl <;> simp only [Int.reducePow, Nat.reduceAdd] at h2 ⊢ <;> omega
end Go.Proofs.Ythnihjfdmkfkiaa.Q

namespace Go.Proofs.Ythnihjfdmkfkiaa.Q
open Go.RowKit Go.Proofs.YthnihjfdmkfkiaaW.PrintWords Go.Proofs.YthnihjfdmkfkiaaW.PrintLast Go.Proofs.YthnihjfdmkfkiaaW.PrintMore Go.Proofs.YthnihjfdmkfkiaaV
set_option linter.unusedVariables false
set_option linter.unusedSimpArgs false

/-- A number below another has no more limbs. -/
theorem limbs_le {x y : Nat} (h : x ≤ y) : (limbs x).length ≤ (limbs y).length := by
  by_cases c : (limbs y).length < (limbs x).length
  · have := valL_longer (limbs y) (limbs x) (limbs_ok _) (limbs_ok _) (limbs_can _) c
    rw [limbs_val, limbs_val] at this
    omega
  · omega
set_option maxHeartbeats 6400000 in
theorem limbs_two {n m : Nat} (h : n ≤ 2 * m + 1) : (limbs n).length ≤ (limbs m).length + 1 := by
  by_cases z : m = 0
  · have := limbs_len 1 n (by rw [Nat.pow_one]; omega)
    omega
  · by_cases c : (limbs m).length + 1 < (limbs n).length
    · have := valL_longer (0 :: limbs m) (limbs n) (okL_mk (by omega) (limbs_ok _)) (limbs_ok _) (limbs_can _) (by simpa using c)
      simp only [valL] at this
      rw [limbs_val, limbs_val] at this
      omega
    · omega
theorem valL_lt : ∀ {l : List Int}, okL l → valL l < 65536 ^ l.length
  | [], _ => by simp [valL]
  | x :: r, h => by
    have h1 := (okL_cons h).1
    have h2 := valL_lt (okL_cons h).2
    simp only [valL, List.length_cons, Int.pow_succ]
    omega
theorem Lm_none (w : World) : Lm w none 0 [] := ⟨⟨rfl, by decide, fun h => absurd h (by decide)⟩, Nat.le_refl _, okL_nil⟩
theorem Lm_one {W : World} {g : Nat} (h : W.cell? ⟨g, 0, none⟩ = some (.int .u32 1)) : Lm W (some ⟨g, 0, none⟩) 1 [1] := by
  refine ⟨Kd.C_of_reads (d := (0 : Int)) (h1 := fun _ => rfl) ⟨rfl, by simp, fun _ => ⟨_, rfl, fun j hj => ?_⟩⟩, Nat.le_refl _, okL_mk (by omega) okL_nil⟩
  obtain rfl : j = 0 := by simp at hj; omega
  exact h
theorem orp32 (x : Int) (j : Nat) (h0 : 0 ≤ x) (h1 : x < 4294967296) (h2 : x % 2 ^ (j + 1) = 0) (hj : j ≤ 31) : bits .or .u32 x (2 ^ j) = x + 2 ^ j := by
  have e : ((2 : Int) ^ j) = ((2 ^ j : Nat) : Int) := by simp
  have hp : (2 : Nat) ^ j < 4294967296 := by
    have : (2 : Nat) ^ j ≤ 2 ^ 31 := Nat.pow_le_pow_right (by omega) hj
    have e : (2 : Nat) ^ 31 = 2147483648 := by decide
    omega
  rw [e, u32_or x _ h0 h1 (by omega) (by omega), nat_join (j + 1) x.toNat ((2 ^ j : Nat) : Int).toNat ?_ ?_]
  · omega
  · obtain ⟨n, rfl⟩ := Int.eq_ofNat_of_zero_le h0
    have e2 : ((2 : Int) ^ (j + 1)) = ((2 ^ (j + 1) : Nat) : Int) := by simp
    rw [e2] at h2
    rw [Int.toNat_natCast]
    exact_mod_cast h2
  · rw [Int.toNat_natCast, Nat.pow_succ]
    have := Nat.pow_pos (n := j) (show 0 < 2 by omega)
    omega
theorem and1_32 (x : Int) (h0 : 0 ≤ x) (h1 : x < 4294967296) : bits .and .u32 x 1 = x % 2 := by
  rw [u32_and x 1 h0 h1 (by omega) (by omega), show (1 : Int).toNat = 1 from rfl, nat_mask1]
  omega
set_option maxRecDepth 8000 in
theorem ref_divL {w : World} {A B : Option Addr} {ca cb : Nat} {a b : List Int} (ha : Lm w A ca a) (hb : Lm w B cb b) (la : a.length ≤ 65536) (lb : b.length ≤ 65536) (hpos : 0 < valL b) :
    Calls Try.prog 63 #[.slice A a.length ca, .slice B b.length cb] w fun e w' => ∃ A' c' A'' c'', e = .returned (.tuple #[.slice A' (limbs (valL a / valL b).toNat).length c', .slice A'' (limbs (valL a % valL b).toNat).length c'']) ∧ Lm w' A' c' (limbs (valL a / valL b).toNat) ∧ Lm w' A'' c'' (limbs (valL a % valL b).toNat) ∧ (∀ ad, A' = some ad → w.heap.size ≤ ad.block) ∧ (∀ ad, A'' = some ad → w.heap.size ≤ ad.block) ∧ Below w.heap.size w w' := by
  have HA := Aside0.mk ha
  have HB := Aside0.mk hb
  have hM := valL_nonneg ha.ok
  clear ha hb
  go_enter Try.func63, Try.ntmps63
  go_wp2_with (first
    | ((with_reducible refine gate_dst (N := 11) rfl ?_); refine Kd.R_make (Kd.int .u32) (w0 := w) w.heap.size 105 rfl (N := 11) rfl 69 _ _ rfl (a.length : Int) rfl rfl Try.underlying69 (.int .u32 0) 4 info_u32 rfl (by decide) (by omega) (0 : Int) (ok := fun _ => True) (okp := fun _ => False) rfl (fun _ hk => hk.elim) trivial (by omega) (by omega) (Below.refl _ _) (Nat.le_refl _) ?_; intro v1 w2 hr hb hg hat; obtain ⟨A2, c2, e2⟩ := Kd.R_slice hr; rw [List.length_replicate, Int.toNat_natCast] at e2; subst e2; rw [Int.toNat_natCast] at hr; have HR2 := Aside0.mk hr; have HB2 := Aside0.mk hb; clear hr hb hg hat))
  go_loopg [7, 8] (16 * a.length) (fun kq v7 v8 w' => ∃ (i : Int) (q : List Int) (A7 : Option Addr) (c7 : Nat), v7 = .slice A7 (limbs (valL a / 2 ^ kq % valL b).toNat).length c7 ∧ v8 = .int .i64 i ∧ i = (kq : Int) - 1 ∧ kq ≤ 16 * a.length ∧ q.length = a.length ∧ Aside0 (okL q) ∧ Aside0 (valL q = valL a / 2 ^ kq / valL b * 2 ^ kq) ∧ Aside0 (Lm w' A7 c7 (limbs (valL a / 2 ^ kq % valL b).toNat)) ∧ Aside0 (∀ ad, A7 = some ad → w.heap.size ≤ ad.block ∧ ∀ ad2, A2 = some ad2 → ad.block ≠ ad2.block) ∧ Aside0 (Kd.R (Kd.int .u32) 105 w' w.heap.size (fun _ => True) (.slice A2 a.length c2) q) ∧ Aside0 (Below w.heap.size w w'))
  case atStart =>
    have hlt : valL a / 2 ^ (16 * a.length) = 0 := by
      have h1 := valL_lt HA.out.ok
      have h2 := pow_mt a.length 0
      rw [Nat.add_zero, Int.pow_zero, Int.mul_one] at h2
      rw [h2]
      exact Int.ediv_eq_zero_of_lt hM h1
    refine ⟨_, List.replicate a.length 0, none, 0, ?_, rfl, by omega, Nat.le_refl _, by simp, ⟨fun x hx => by rw [(List.mem_replicate.1 hx).2]; omega⟩, ⟨?_⟩, ⟨?_⟩, ⟨fun ad e => by cases e⟩, HR2, HB2⟩
    · rw [hlt, Int.zero_emod]
      rfl
    · rw [hlt, Int.zero_ediv, Int.zero_mul, zeros_val (fun x hx => (List.mem_replicate.1 hx).2)]
    · rw [hlt, Int.zero_emod]
      exact Lm_none _
  case round =>
    clear HR2 HB2
    obtain ⟨i, q, A7, c7, rfl, rfl, hi, hk, hq, HQ, HV, HL, HF, HR, NB⟩ := hrel
    cases gk with
    | zero =>
      have d1 : decide (0 ≤ i) = false := decide_eq_false (by omega)
      have hv := HV.out
      rw [Int.pow_zero, Int.mul_one, Int.ediv_one] at hv
      have hHL := HL.out
      rw [Int.pow_zero, Int.ediv_one] at hHL ⊢
      have HR1 := HR.out
      rw [← hq] at HR1
      have HLQ := Aside0.mk (show Lm wr A2 c2 q from ⟨(Kd.R_reads' HR1).2.2, (Kd.R_reads' HR1).2.1, HQ.out⟩)
      have HLR := Aside0.mk hHL
      have HVQ := Aside0.mk hv
      have HFQ := Aside0.mk (R_fresh HR.out)
      have HQL := Aside0.mk hq
      have HVR := Aside0.mk (show (valL (limbs (valL a % valL b).toNat)).toNat = (valL a % valL b).toNat by rw [limbs_val]; omega)
      clear hv hHL HR1 hq hi HV HL
      go_wp2_with (first
        | (rw [← HQL.out]; go_at_call 68; (with_reducible refine (ref_trim HLQ.out).mono ?_); rintro e w1 ⟨rfl, h1, rfl⟩; rw [HVQ.out] at h1 ⊢; have H1 := Aside0.mk h1; clear h1)
        | (go_at_call 68; (with_reducible refine (ref_trim HLR.out).mono ?_); rintro e w1 ⟨rfl, h1, rfl⟩; rw [HVR.out] at h1 ⊢; have H2 := Aside0.mk h1; clear h1))
      go_ret2
      exact ⟨_, _, _, _, rfl, H1.out, H2.out, HFQ.out, fun ad e => (HF.out ad e).1, NB.out⟩
    | succ k1 =>
      have ei : (k1 : Int) = i := by omega
      subst ei
      clear hi
      have d1 : decide ((0 : Int) ≤ (k1 : Int)) = true := decide_eq_true (by omega)
      obtain ⟨m, hm⟩ : ∃ m, m = k1 / 16 := ⟨_, rfl⟩
      obtain ⟨t, ht⟩ : ∃ t, t = k1 % 16 := ⟨_, rfl⟩
      have i1 : (k1 : Int) / 16 = (m : Int) := by omega
      have i2 : (0 : Int) ≤ (m : Int) := by omega
      have i3 : (m : Int) < (a.length : Int) := by omega
      have i4 : (k1 : Int) % 16 = (t : Int) := by omega
      have i5 : Int.tmod (k1 : Int) 16 = (t : Int) := by rw [Int.tmod_eq_emod_of_nonneg (by omega)]; omega
      have hma : m < a.length := by omega
      have ht16 : t < 16 := by omega
      have HK1 := Aside0.mk (show k1 = 16 * m + t by omega)
      clear hm ht
      have hcA := cell_rd32 HA.out NB.out hma
      obtain ⟨adA, rfl, hcA⟩ := hcA
      obtain ⟨xa, hxa⟩ : ∃ x, x = a.getD m 0 := ⟨_, rfl⟩
      rw [← hxa] at hcA
      have hxr : 0 ≤ xa ∧ xa ≤ 65535 := by rw [hxa]; exact getD_ok HA.out.ok m
      have HXA := Aside0.mk hxa
      clear hxa
      have hcar := hcA
      clear hcar
      obtain ⟨go_, cap, e, hgB, hgl, -⟩ := Kd.R_form HR.out (by omega)
      injection e with e e' e''
      subst e
      clear e' e''
      obtain ⟨R, hR⟩ : ∃ R, R = valL a / 2 ^ (k1 + 1) % valL b := ⟨_, rfl⟩
      have hR0 : 0 ≤ R := by rw [hR]; exact Int.emod_nonneg _ (by omega)
      have hRB : R < valL b := by rw [hR]; exact Int.emod_lt_of_pos _ hpos
      have HRE := Aside0.mk hR
      rw [← hR] at HL ⊢
      clear hR
      have hlb : (limbs (valL b).toNat).length ≤ b.length := by rw [← trim_limbs HB.out.ok]; exact trimL_length b
      have hll : (limbs R.toNat).length ≤ 65536 := Nat.le_trans (limbs_le (show R.toNat ≤ (valL b).toNat by omega)) (by omega)
      have hls : (limbs (2 * R).toNat).length ≤ 1048576 := by have := limbs_two (show (2 * R).toNat ≤ 2 * R.toNat + 1 by omega); omega
      have hlt2 : (limbs R.toNat).length + 1 ≤ 1048576 := by omega
      have HAD0 := ref_addL HL.out HL.out (by omega) (by omega)
      have er : valL (limbs R.toNat) + valL (limbs R.toNat) = 2 * R := by rw [limbs_val, Int.toNat_of_nonneg hR0]; omega
      rw [er] at HAD0
      have HAD := Aside0.mk HAD0
      clear HAD0 er hlb
      obtain ⟨bt, hbt⟩ : ∃ x, x = xa / 2 ^ t % 2 := ⟨_, rfl⟩
      have hb01 : bt = 0 ∨ bt = 1 := by omega
      have hbb : bits .and .u32 (xa / 2 ^ t) 1 = bt := by
        have p : (0 : Int) < 2 ^ t := Int.pow_pos (by omega)
        have q1 : 0 ≤ xa / 2 ^ t := Int.ediv_nonneg hxr.1 (Int.le_of_lt p)
        have q2 : xa / 2 ^ t ≤ xa := Int.ediv_le_self _ hxr.1
        rw [and1_32 _ q1 (by omega), hbt]
      have HBT := Aside0.mk hbt
      have HQQ := Aside0.mk hq
      clear hbt hq
      go_upto_if 33 with (first
        | (go_at_call 59; (with_reducible refine (HAD.out).mono ?_); rintro e w5 ⟨A5, c5, rfl, h5, hf5, hb5⟩; have H5 := Aside0.mk h5; have HF5 := Aside0.mk hf5; have kA := pw_cell_below hb5 hcA; have HR5 := Aside0.mk (Kd.R_below HR.out hb5); have NB5 := Aside0.mk (below_step NB.out hb5); have hw5 := hb5.size; clear h5 hf5 hb5))
      go_cut [7] from 34 to 57 (fun v7 wx => ∃ (A7 : Option Addr) (c7 : Nat), v7 = .slice A7 (limbs (2 * R + bt).toNat).length c7 ∧ Aside0 (Lm wx A7 c7 (limbs (2 * R + bt).toNat)) ∧ Aside0 (∀ ad, A7 = some ad → w.heap.size ≤ ad.block ∧ go_ < ad.block) ∧ Aside0 (Kd.R (Kd.int .u32) 105 wx w.heap.size (fun _ => True) (.slice (some ⟨go_, 0, none⟩) a.length c2) q) ∧ Aside0 (Below w.heap.size w wx))
      case first =>
        rcases hb01 with e0 | e0
        · subst e0
          go_wp2
          go_meet
          exact ⟨A5, c5, by rw [Int.add_zero], by rw [Int.add_zero]; exact H5, ⟨fun ad e => ⟨Nat.le_trans NB.out.size (HF5.out ad e), Nat.lt_of_lt_of_le hgl (HF5.out ad e)⟩⟩, HR5, NB5⟩
        · subst e0
          have hbq : (bits .and .u32 (xa / 2 ^ t) 1 == 1) = true := by rw [hbb]; rfl
          clear hbb
          have e1 : valL (limbs (2 * R).toNat) + valL [1] = 2 * R + 1 := by rw [limbs_val, Int.toNat_of_nonneg (by omega)]; simp [valL]
          have HAE := Aside0.mk (ref_addL (H5.out.below (below_alloc (Below.refl _ _) (.cells #[.int .u32 1] 105 (0, 0)))) (Lm_one (blk_cell (heap_alloc_new w5 (.cells #[.int .u32 1] 105 (0, 0))) 0)) hls (by simp))
          rw [e1] at HAE
          have HR6 := Aside0.mk (Kd.R_alloc HR5.out (.cells #[.int .u32 1] 105 (0, 0)))
          have NB6 := Aside0.mk (below_alloc NB5.out (.cells #[.int .u32 1] 105 (0, 0)))
          have hsz : w5.heap.size ≤ (w5.alloc (.cells #[.int .u32 1] 105 (0, 0))).heap.size := by simp
          clear e1
          go_wp2_with (first
            | (go_at_call 59; (refine (HAE.out).mono ?_); rintro e w6 ⟨A6, c6, rfl, h6, hf6, hb6⟩; have H6 := Aside0.mk h6; have HF6 := Aside0.mk hf6; have HR7 := Aside0.mk (Kd.R_below HR6.out hb6); have NB7 := Aside0.mk (below_step NB6.out hb6); clear h6 hf6 hb6))
          go_meet
          exact ⟨A6, c6, rfl, H6, ⟨fun ad e => by have := HF6.out ad e; have := NB5.out.size; exact ⟨by omega, by omega⟩⟩, HR7, NB7⟩
      case rest =>
        obtain ⟨A8, c8, rfl, H8, HF8, HR8, NB8⟩ := hcut
        have hbp : 0 ≤ bt ∧ bt ≤ 1 := by omega
        obtain ⟨D, hD⟩ : ∃ D, D = 2 * R + bt := ⟨_, rfl⟩
        rw [← hD] at H8 ⊢
        have hD0 : 0 ≤ D := by omega
        have hld : (limbs D.toNat).length ≤ 1048576 := by have := limbs_two (show D.toNat ≤ 2 * R.toNat + 1 by omega); omega
        have hgw : go_ < wc.heap.size := Kd.R_lt HR8.out go_ (by simp [Value.ownBlock])
        have HDD := Aside0.mk hD
        have ed : valL (limbs D.toNat) = D := by rw [limbs_val, Int.toNat_of_nonneg hD0]
        have HCM := Aside0.mk (ref_cmpL H8.out (HB.out.below NB8.out))
        rw [ed] at HCM
        have HED := Aside0.mk ed
        clear hD ed
        have HST := Aside0.mk (div_step (M := valL a) (N := valL b) (k := k1) hpos hM HRE.out HV.out (show bt = valL a / 2 ^ k1 % 2 by rw [HBT.out, HXA.out, HK1.out, bit_mt HA.out.ok ht16]))
        rw [← HDD.out] at HST
        by_cases hge : valL b ≤ D
        · have s0 : 0 ≤ sgn (D - valL b) := by unfold sgn; split <;> (try split) <;> omega
          have d2 : decide (0 ≤ sgn (D - valL b)) = true := decide_eq_true s0
          obtain ⟨sg, hsg⟩ : ∃ s, s = sgn (D - valL b) := ⟨_, rfl⟩
          rw [← hsg] at d2 HCM s0
          obtain ⟨p, o, r, hqe, hpl⟩ : ∃ p o r, q = p ++ o :: r ∧ p.length = m := ⟨q.take m, q.getD m 0, q.drop (m + 1), by
            have hqm : m < q.length := by have := HQQ.out; omega
            conv => lhs; rw [← List.take_append_drop m q]
            rw [List.drop_eq_getElem_cons hqm, List.getD_eq_getElem?_getD, List.getElem?_eq_getElem hqm]
            rfl, by rw [List.length_take]; have := HQQ.out; omega⟩
          subst hqe
          have hog : (p ++ o :: r).getD m 0 = o := by rw [← hpl, List.getD_eq_getElem?_getD, List.getElem?_append_right (Nat.le_refl _), Nat.sub_self]; rfl
          have hor : 0 ≤ o ∧ o ≤ 65535 := HQ.out o (by simp)
          have hlow := q_bit HQ.out ht16 (X := valL a / 2 ^ (k1 + 1) / valL b) (by have e := HK1.out; have v := HV.out; rw [← e]; exact v)
          rw [hog] at hlow
          have hob := orp32 o t hor.1 (by omega) hlow (by omega)
          have hoo := u32_orp o t hor.1 hor.2 hlow ht16
          have HLOW := Aside0.mk hlow
          have HPL := Aside0.mk hpl
          clear hog hlow hpl
          have HSB := Aside0.mk (fun n => ref_subL (H8.out.keep (keep_drewN wc n) (fun ad e h => h)) ((HB.out.below NB8.out).keep (keep_drewN wc n) (fun ad e h => h)) hld (by rw [HED.out]; exact hge))
          rw [HED.out] at HSB
          clear hsg
          go_wp2_with (first
            | (go_at_call 60; (with_reducible refine (HCM.out).mono ?_); rintro e w6 ⟨rfl, n6, rfl⟩)
            | (go_at_call 61; (with_reducible refine (HSB.out _).mono ?_); rintro e w6 ⟨A6, c6, rfl, h6, hf6, hb6⟩; have H6 := Aside0.mk h6; have HF6 := Aside0.mk hf6; have HR6 := Aside0.mk (Kd.R_below (Kd.R_drewN HR8.out n6) hb6); have NB6 := Aside0.mk (below_step (pw_below_drewN NB8.out n6) hb6); have kq := Kd.R_celln 0 HR6.out (m : Int) i2 (by omega); rw [Int.toNat_natCast, rd_mid p r o _ (by rw [HPL.out])] at kq; have kq1 := kq.1; have kq2 := kq.2; clear h6 hf6 hb6 kq))
          have hst := HST.out.2.2.2 hge
          have h2t : (2 : Int) ^ t % 4294967296 = 2 ^ t := by
            have := u32_orp 0 t (by omega) (by omega) (by simp) ht16
            have p : (0 : Int) < 2 ^ t := Int.pow_pos (by omega)
            omega
          rw [h2t, hob]
          have hpl := HPL.out
          have hvb := val_bit p r o t
          rw [hpl, ← HK1.out] at hvb
          have p2 : (0 : Int) < 2 ^ t := Int.pow_pos (by omega)
          have hkp : Keep w6 (w6.setCell ⟨go_, m, none⟩ (.int .u32 (o + 2 ^ t))) (fun k => k = go_) := (Keep.refl w6 (fun k => k = go_)).set ⟨go_, m, none⟩ _ (.inl rfl)
          have q1 := Kd.R_putn HR6.out (m : Int) (o + 2 ^ t)
          rw [Int.toNat_natCast, ← hpl, set_mid, hpl] at q1
          go_roundg k1
          case rel =>
            refine ⟨(k1 : Int) - 1, p ++ (o + 2 ^ t) :: r, A6, c6, by rw [hst.1], rfl, rfl, by omega, by have := HQQ.out; simp only [List.length_append, List.length_cons] at this ⊢; exact this, ⟨?_⟩, ⟨by rw [hvb, hst.2]⟩, ⟨by rw [← hst.1]; exact H6.out.keep hkp (fun ad e => by have h9 := HF6.out ad e; have h10 : wc.heap.size ≤ ad.block := h9; omega)⟩, ⟨fun ad e => ?_⟩, ⟨q1⟩, ⟨NB6.out.setCell (p := ⟨go_, m, none⟩) hgB _⟩⟩
            · intro x hx
              rcases List.mem_append.1 hx with h1 | h1
              · exact HQ.out x (List.mem_append.2 (.inl h1))
              · rcases List.mem_cons.1 h1 with h2 | h2
                · subst h2
                  omega
                · exact HQ.out x (List.mem_append.2 (.inr (List.mem_cons_of_mem _ h2)))
            · have h9 : wc.heap.size ≤ ad.block := HF6.out ad e
              refine ⟨Nat.le_trans NB8.out.size h9, fun ad2 e2 => ?_⟩
              injection e2 with e2
              subst e2
              show ad.block ≠ go_
              omega
          case measure => omega
        · have s0 : sgn (D - valL b) < 0 := by rw [sgn_neg (by omega)]; omega
          have d2 : decide (0 ≤ sgn (D - valL b)) = false := decide_eq_false (by omega)
          obtain ⟨sg, hsg⟩ : ∃ s, s = sgn (D - valL b) := ⟨_, rfl⟩
          rw [← hsg] at d2 HCM s0
          clear hsg
          go_wp2_with (first
            | (go_at_call 60; (with_reducible refine (HCM.out).mono ?_); rintro e w6 ⟨rfl, n6, rfl⟩))
          have hst := HST.out.2.2.1 (by omega)
          go_roundg k1
          case rel =>
            exact ⟨(k1 : Int) - 1, q, A8, c8, by rw [← hst.1], rfl, rfl, by omega, HQQ.out, HQ, ⟨by rw [HV.out] at hst; rw [HV.out]; exact hst.2⟩, ⟨by rw [← hst.1]; exact H8.out.keep (keep_drewN wc n6) (fun ad e h => h)⟩, ⟨fun ad e => by
              have h9 := HF8.out ad e
              refine ⟨h9.1, fun ad2 e2 => ?_⟩
              injection e2 with e2
              subst e2
              show ad.block ≠ go_
              omega⟩, ⟨Kd.R_drewN HR8.out n6⟩, ⟨pw_below_drewN NB8.out n6⟩⟩
          case measure => omega
end Go.Proofs.Ythnihjfdmkfkiaa.Q

namespace Go.Proofs.Ythnihjfdmkfkiaa.Q
open Go.RowKit Go.Proofs.YthnihjfdmkfkiaaW.PrintWords Go.Proofs.YthnihjfdmkfkiaaW.PrintLast Go.Proofs.YthnihjfdmkfkiaaW.PrintMore Go.Proofs.YthnihjfdmkfkiaaV
set_option linter.unusedVariables false
set_option linter.unusedSimpArgs false

theorem newq4 (w : World) (a b c d : Obj) : ((((w.alloc a).alloc b).alloc c).alloc d).heap[w.heap.size]? = some a ∧ ((((w.alloc a).alloc b).alloc c).alloc d).heap[w.heap.size + 1]? = some b ∧ ((((w.alloc a).alloc b).alloc c).alloc d).heap[w.heap.size + 2]? = some c ∧ ((((w.alloc a).alloc b).alloc c).alloc d).heap[w.heap.size + 3]? = some d ∧ Below w.heap.size w ((((w.alloc a).alloc b).alloc c).alloc d) ∧ ((((w.alloc a).alloc b).alloc c).alloc d).heap.size = w.heap.size + 4 := by
  obtain ⟨a0, a1, a2, a3, a4⟩ := new3 w a b c
  refine ⟨blk_alloc a0 d, blk_alloc a1 d, blk_alloc a2 d, ?_, a3.alloc (by omega) d, by simp⟩
  have := heap_alloc_new (((w.alloc a).alloc b).alloc c) d
  rwa [a4] at this
set_option maxHeartbeats 3200000 in
set_option maxRecDepth 4000 in
theorem QuoN_at {w : World} {A B : Option Addr} {c d : Nat} {lx ly lz lu : List Int} (p q : Bool) (z u : Int) (hl : Lm w A c lx) (hm : Lm w B d ly) (fx : lx.length ≤ 65536) (fy : ly.length ≤ 65536) (hpos : 0 < valL ly) (hlz : lz = limbs z.natAbs) (hlu : lu = limbs u.natAbs) (en : (valL lx / valL ly).toNat = z.natAbs) (en2 : (valL lx % valL ly).toNat = u.natAbs) (hxx : z = if (!(p == q)) = true then - valL lz else valL lz) (hxu : u = if p = true then - valL lu else valL lu) :
    Calls Try.prog 41 #[.agg #[.bool p, .slice A lx.length c], .agg #[.bool q, .slice B ly.length d]] w fun e w' => ∃ v v2, e = .returned (.tuple #[v, v2]) ∧ NumV w' v z ∧ NumV w' v2 u ∧ Below w.heap.size w w' := by
  obtain ⟨n0, n1, n2, n3, nb, ns⟩ := newq4 w (.cells #[.bool p, .slice A lx.length c] 71 (0, 0)) (.cells #[.bool q, .slice B ly.length d] 71 (0, 0)) (.cells #[.bool false, .slice none 0 0] 71 (0, 0)) (.cells #[.bool false, .slice none 0 0] 71 (0, 0))
  have HD := Aside0.mk (ref_divL (hl.below nb) (hm.below nb) fx fy hpos)
  have HXX := Aside0.mk hxx
  have HXU := Aside0.mk hxu
  have HE := Aside0.mk en
  have HE2 := Aside0.mk en2
  have HLZ := Aside0.mk hlz
  have HLU := Aside0.mk hlu
  have N0 := Aside0.mk n0
  have N1 := Aside0.mk n1
  have N2 := Aside0.mk n2
  have N3 := Aside0.mk n3
  have NS := Aside0.mk ns
  have NB := Aside0.mk nb
  have a0 := blk_cell n0 0
  have a1 := blk_cell n0 1
  have b0 := blk_cell n1 0
  have b1 := blk_cell n1 1
  clear hl hm en en2 hxx hxu hlz hlu n0 n1 n2 n3 nb ns
  go_enter Try.func41, Try.ntmps41
  have hn1 : (w.heap.size = w.heap.size + 1 + 1) = False := eq_false (by omega)
  have hn2 : (w.heap.size + 1 + 1 = w.heap.size) = False := eq_false (by omega)
  have hn3 : (w.heap.size == w.heap.size + 1 + 1) = false := beq_eq_false_iff_ne.mpr (by omega)
  have hn4 : (w.heap.size + 1 + 1 == w.heap.size) = false := beq_eq_false_iff_ne.mpr (by omega)
  have hn5 : (w.heap.size = w.heap.size + 1 + 1 + 1) = False := eq_false (by omega)
  have hn6 : (w.heap.size + 1 + 1 + 1 = w.heap.size) = False := eq_false (by omega)
  have hn7 : (w.heap.size == w.heap.size + 1 + 1 + 1) = false := beq_eq_false_iff_ne.mpr (by omega)
  have hn8 : (w.heap.size + 1 + 1 + 1 == w.heap.size) = false := beq_eq_false_iff_ne.mpr (by omega)
  have hm1 : (w.heap.size + 1 = w.heap.size + 1 + 1 + 1) = False := eq_false (by omega)
  have hm2 : (w.heap.size + 1 + 1 + 1 = w.heap.size + 1) = False := eq_false (by omega)
  have hm3 : (w.heap.size + 1 == w.heap.size + 1 + 1 + 1) = false := beq_eq_false_iff_ne.mpr (by omega)
  have hm4 : (w.heap.size + 1 + 1 + 1 == w.heap.size + 1) = false := beq_eq_false_iff_ne.mpr (by omega)
  go_upto_region 2 with (first
    | (go_at_call 63; (with_reducible refine (HD.out).mono ?_); rintro e w5 ⟨A5, c5, A6, c6, rfl, h5, h6, hf5, hf6, hb5⟩; rw [HE.out, ← HLZ.out] at h5 ⊢; rw [HE2.out, ← HLU.out] at h6 ⊢; have H5 := Aside0.mk h5; have H6 := Aside0.mk h6; have HF5 := Aside0.mk (show ∀ ad, A5 = some ad → w.heap.size + 4 ≤ ad.block from fun ad e => Nat.le_trans (Nat.le_of_eq NS.out.symm) (hf5 ad e)); have HF6 := Aside0.mk (show ∀ ad, A6 = some ad → w.heap.size + 4 ≤ ad.block from fun ad e => Nat.le_trans (Nat.le_of_eq NS.out.symm) (hf6 ad e)); have B0 := Aside0.mk ((hb5.block _ (blk_lt N0.out)).trans N0.out); have B1 := Aside0.mk ((hb5.block _ (blk_lt N1.out)).trans N1.out); have B2 := Aside0.mk ((hb5.block _ (blk_lt N2.out)).trans N2.out); have B3 := Aside0.mk ((hb5.block _ (blk_lt N3.out)).trans N3.out); have k0 := blk_cell B0.out 0; have k1 := blk_cell B1.out 0; have HB5 := Aside0.mk (NB.out.trans ⟨hb5.os, hb5.tape, hb5.output, hb5.size, fun k hk => hb5.block k (Nat.lt_of_lt_of_le hk NB.out.size)⟩); clear h5 h6 hf5 hf6 hb5))
  have D5 := Aside0.mk (H5.out.keep (keep_drew w5) (fun ad e h => h))
  have D6 := Aside0.mk (H6.out.keep (keep_drew w5) (fun ad e h => h))
  have HBD := Aside0.mk (below_drew HB5.out)
  go_region_held3 (fun w' => w'.cell? ⟨w.heap.size, 0, none⟩ = some (.bool p) ∧ w'.cell? ⟨w.heap.size + 1, 0, none⟩ = some (.bool q)) (go_keep) (first
    | (go_at_call 58; (with_reducible refine (ref_make2 (!(p == q)) D5.out z HXX.out).mono ?_); rintro e w6 ⟨rfl, h6, hb6⟩; obtain ⟨s, hs⟩ : ∃ s, s = decide (z < 0) := ⟨_, rfl⟩; rw [← hs, ← HLZ.out]; rw [← HLZ.out] at h6; have HS := Aside0.mk hs; have L5 := Aside0.mk h6; have L6 := Aside0.mk (D6.out.below hb6); have C0 := Aside0.mk ((hb6.block _ (blk_lt B0.out)).trans B0.out); have C1 := Aside0.mk ((hb6.block _ (blk_lt B1.out)).trans B1.out); have C2 := Aside0.mk ((hb6.block _ (blk_lt B2.out)).trans B2.out); have C3 := Aside0.mk ((hb6.block _ (blk_lt B3.out)).trans B3.out); have j0 := blk_cell C0.out 0; have j1 := blk_cell C1.out 0; have HB6 := Aside0.mk (HBD.out.trans ⟨hb6.os, hb6.tape, hb6.output, hb6.size, fun k hk => hb6.block k (Nat.lt_of_lt_of_le hk HBD.out.size)⟩); clear h6 hb6 hs)
    | (go_at_call 58; (with_reducible refine (ref_make2 p L6.out u HXU.out).mono ?_); rintro e w7 ⟨rfl, h7, hb7⟩; obtain ⟨t, ht⟩ : ∃ s, s = decide (u < 0) := ⟨_, rfl⟩; rw [← ht, ← HLU.out]; rw [← HLU.out] at h7; have HT := Aside0.mk ht; have M6 := Aside0.mk h7; have M5 := Aside0.mk (L5.out.below hb7); have E2 := (hb7.block _ (blk_lt C2.out)).trans C2.out; have E3 := (hb7.block _ (blk_lt C3.out)).trans C3.out; obtain ⟨f1, f2, f3, f4, f5⟩ := res2 (v0 := .bool s) (v1 := .slice A5 lz.length c5) E2; have E3' := ((keep_set2 (w := w7) (g := w.heap.size + 2) (v0 := .bool s) (v1 := .slice A5 lz.length c5)).block _ (blk_lt E3) (show ¬ (w.heap.size + 3 = w.heap.size + 2) by omega)).trans E3; obtain ⟨f6, f7, f8, f9, f10⟩ := res2 (v0 := .bool t) (v1 := .slice A6 lu.length c6) E3'; have F5 := Aside0.mk f5; have F10 := Aside0.mk f10; have g0 := blk_cell ((hb7.block _ (blk_lt C0.out)).trans C0.out) 0; have g1 := blk_cell ((hb7.block _ (blk_lt C1.out)).trans C1.out) 0; have HB7 := Aside0.mk (HB6.out.trans ⟨hb7.os, hb7.tape, hb7.output, hb7.size, fun k hk => hb7.block k (Nat.lt_of_lt_of_le hk HB6.out.size)⟩); clear h7 hb7 ht f5 f10 E2 E3 E3'))
  all_goals
    go_wp2_with (fail)
    have k2 : Keep (((w7.setCell ⟨w.heap.size + 2, 0, none⟩ (.bool s)).setCell ⟨w.heap.size + 2, 1, none⟩ (.slice A5 lz.length c5))) ((((w7.setCell ⟨w.heap.size + 2, 0, none⟩ (.bool s)).setCell ⟨w.heap.size + 2, 1, none⟩ (.slice A5 lz.length c5)).setCell ⟨w.heap.size + 3, 0, none⟩ (.bool t)).setCell ⟨w.heap.size + 3, 1, none⟩ (.slice A6 lu.length c6)) (fun k => k = w.heap.size + 3) := keep_set2
    refine bodyPost_ret (results_cc rfl _ _ (w.heap.size + 2) (w.heap.size + 3) 71 71 _ _ (0, 0) (0, 0) _ _ rfl ((k2.block _ (blk_lt F5.out) (by omega)).trans F5.out) Try.underlying71 rfl (by kernel_rfl) rfl F10.out Try.underlying71 rfl (by kernel_rfl)) rfl ?_
    refine ⟨_, _, rfl, ⟨A5, c5, by rw [← HS.out, ← HLZ.out], ?_⟩, ⟨A6, c6, by rw [← HT.out, ← HLU.out], ?_⟩, (HB7.out.trans (keep_set2.below HB7.out.size (fun k hk => by omega))).trans (keep_set2.below (Nat.le_trans HB7.out.size (keep_set2 (w := w7) (g := w.heap.size + 2)).size) (fun k hk => by omega))⟩
    · rw [← HLZ.out]
      exact (M5.out.keep keep_set2 (fun ad e => by have := HF5.out ad e; omega)).keep keep_set2 (fun ad e => by have := HF5.out ad e; omega)
    · rw [← HLU.out]
      exact (M6.out.keep keep_set2 (fun ad e => by have := HF6.out ad e; omega)).keep keep_set2 (fun ad e => by have := HF6.out ad e; omega)
theorem ref_QuoN {w : World} {u v : Value} {x y : Int} (hx : NumV w u x) (hy : NumV w v y) (h0 : 0 ≤ x) (h1 : 0 < y) (fx : (limbs x.natAbs).length ≤ 65536) (fy : (limbs y.natAbs).length ≤ 65536) :
    Calls Try.prog 41 #[u, v] w fun e w' => ∃ v v2, e = .returned (.tuple #[v, v2]) ∧ NumV w' v (x / y) ∧ NumV w' v2 (x % y) ∧ Below w.heap.size w w' := by
  obtain ⟨A, c, rfl, hl⟩ := hx
  obtain ⟨B, d, rfl, hm⟩ := hy
  have vx := limbs_val x.natAbs
  have vy := limbs_val y.natAbs
  have vz := limbs_val (x / y).natAbs
  have vu := limbs_val (x % y).natAbs
  have q0 : 0 ≤ x / y := Int.ediv_nonneg h0 (by omega)
  have r0 : 0 ≤ x % y := Int.emod_nonneg _ (by omega)
  have ex : (x.natAbs : Int) = x := by omega
  have ey : (y.natAbs : Int) = y := by omega
  rw [ex] at vx
  rw [ey] at vy
  refine QuoN_at (decide (x < 0)) (decide (y < 0)) (x / y) (x % y) hl hm fx fy (by omega) rfl rfl (by rw [vx, vy]; omega) (by rw [vx, vy]; omega) ?_ ?_
  · rw [vz, decide_eq_false (by omega), decide_eq_false (by omega), if_neg (by decide)]
    omega
  · rw [vu, decide_eq_false (by omega), if_neg (by decide)]
    omega
end Go.Proofs.Ythnihjfdmkfkiaa.Q

namespace Go.Proofs.Ythnihjfdmkfkiaa.Q
open Go.RowKit Go.Proofs.YthnihjfdmkfkiaaW.PrintWords Go.Proofs.YthnihjfdmkfkiaaW.PrintLast Go.Proofs.YthnihjfdmkfkiaaW.PrintMore Go.Proofs.YthnihjfdmkfkiaaV
set_option linter.unusedVariables false
set_option linter.unusedSimpArgs false

/-- Four limbs from a place on. -/
def wordP (l : List Int) (f : Nat) : Int := valL ((l.drop f).take 4)
theorem take_val : ∀ (l : List Int) (i : Nat), valL (l.take (i + 1)) = valL (l.take i) + l.getD i 0 * 65536 ^ i
  | [], i => by simp [valL]
  | x :: r, 0 => by simp [valL]
  | x :: r, i + 1 => by
    have ih := take_val r i
    simp only [List.take_succ_cons, valL, ih, List.getD_cons_succ, Int.pow_succ]
    generalize r.getD i 0 = y
    generalize (65536 : Int) ^ i = z
    rw [show y * (z * 65536) = 65536 * (y * z) by rw [← Int.mul_assoc, Int.mul_comm]]
    omega
theorem valL_take {l : List Int} (h : okL l) (i : Nat) : 0 ≤ valL (l.take i) ∧ valL (l.take i) < 65536 ^ i := by
  refine ⟨valL_nonneg (okL_take h i), ?_⟩
  induction i with
  | zero => simp [valL]
  | succ i ih =>
    have h2 := getD_ok h i
    rw [take_val, Int.pow_succ]
    generalize hz : (65536 : Int) ^ i = z at *
    have h3 : l.getD i 0 * z ≤ 65535 * z := Int.mul_le_mul_of_nonneg_right h2.2 (by rw [← hz]; exact Int.le_of_lt (Int.pow_pos (by omega)))
    omega
theorem valL_app (p r : List Int) : valL (p ++ r) = valL p + valL r * 65536 ^ p.length := by
  induction p with
  | nil => simp [valL]
  | cons x t ih =>
    simp only [List.cons_append, valL, ih, List.length_cons, Int.pow_succ]
    generalize valL r = y
    generalize (65536 : Int) ^ t.length = z
    rw [show y * (z * 65536) = 65536 * (y * z) by rw [← Int.mul_assoc, Int.mul_comm]]
    omega
theorem new2' (w : World) (a b : Obj) : ((w.alloc a).alloc b).heap[w.heap.size]? = some a ∧ ((w.alloc a).alloc b).heap[w.heap.size + 1]? = some b ∧ Below w.heap.size w ((w.alloc a).alloc b) ∧ ((w.alloc a).alloc b).heap.size = w.heap.size + 2 :=
  ⟨blk_alloc (heap_alloc_new w a) b, heap_alloc2_new w a b, ((Below.refl _ _).alloc (Nat.le_refl _) a).alloc (by simp) b, by simp⟩
theorem orw (V x : Int) (j : Nat) (h0 : 0 ≤ V) (h1 : V < 2 ^ (16 * j)) (h2 : 0 ≤ x) (h3 : x ≤ 65535) (hj : j ≤ 3) : bits .or .u64 V (x * 2 ^ (16 * j)) = V + x * 2 ^ (16 * j) ∧ x * 2 ^ (16 * j) < 18446744073709551616 := by
  have hp : (2 : Int) ^ (16 * j) ≤ 281474976710656 := by
    rcases (show j = 0 ∨ j = 1 ∨ j = 2 ∨ j = 3 by omega) with rfl | rfl | rfl | rfl <;> decide
  have e : ((2 : Int) ^ (16 * j)) = ((2 ^ (16 * j) : Nat) : Int) := by simp
  have hq : (0 : Int) < 2 ^ (16 * j) := Int.pow_pos (by omega)
  have hx : x * 2 ^ (16 * j) ≤ 65535 * 281474976710656 := Int.mul_le_mul h3 hp (by omega) (by omega)
  have hx0 : 0 ≤ x * 2 ^ (16 * j) := Int.mul_nonneg h2 (by omega)
  refine ⟨?_, by omega⟩
  rw [u64_or V _ h0 (by omega) hx0 (by omega), Nat.or_comm, nat_join (16 * j)]
  · omega
  · obtain ⟨n, rfl⟩ := Int.eq_ofNat_of_zero_le h2
    rw [e]
    rw [show ((n : Int) * ((2 ^ (16 * j) : Nat) : Int)).toNat = n * 2 ^ (16 * j) by rw [← Int.natCast_mul, Int.toNat_natCast]]
    exact Nat.mul_mod_left _ _
  · rw [e] at h1
    omega
set_option maxHeartbeats 3200000 in
set_option maxRecDepth 4000 in
theorem ref_word {w : World} {A : Option Addr} {c : Nat} {l : List Int} (h : Lm w A c l) (f : Nat) (hf : f = 0 ∨ f = 4) (hl : l.length ≤ 1048576) :
    Calls Try.prog 66 #[.slice A l.length c, .int .i64 f] w fun e w' => e = .returned (.int .u64 (wordP l f)) ∧ ∃ m, w' = w.drewN m := by
  have H := Aside0.mk h
  clear h
  go_enter Try.func66, Try.ntmps66
  go_wp2
  go_loopg [5, 6] 4 (fun kq v5 v6 w' => ∃ i : Nat, v5 = .int .u64 (valL ((l.drop f).take i)) ∧ v6 = .int .i64 i ∧ i + kq = 4 ∧ w' = w)
  case atStart => exact ⟨0, rfl, rfl, rfl, rfl⟩
  case round =>
    obtain ⟨i, rfl, rfl, hik, rfl⟩ := hrel
    have hV := valL_take (okL_drop H.out.ok f) i
    have hT := take_val (l.drop f) i
    have hG : (l.drop f).getD i 0 = l.getD (f + i) 0 := by
      rw [List.getD_eq_getElem?_getD, List.getElem?_drop, ← List.getD_eq_getElem?_getD]
    rw [hG] at hT
    have hx := getD_ok H.out.ok (f + i)
    cases gk with
    | zero =>
      obtain rfl : i = 4 := by omega
      clear hT hV hx hG
      go_wp2
      go_ret
      exact ⟨rfl, 0, rfl⟩
    | succ k1 =>
      have d1 : decide ((i : Int) < 4) = true := decide_eq_true (by omega)
      have e16 : (65536 : Int) ^ i = 2 ^ (16 * i) := by rw [Int.pow_mul]; rfl
      rw [e16] at hT hV
      by_cases hin : f + i < l.length
      · have d2 : decide ((f : Int) + (i : Int) < (l.length : Int)) = true := decide_eq_true (by omega)
        obtain ⟨ad, rfl, hc⟩ := cell_rd32 H.out (Below.refl _ _) hin
        obtain ⟨x, hxe⟩ : ∃ x, x = l.getD (f + i) 0 := ⟨_, rfl⟩
        rw [← hxe] at hc hT hx
        obtain ⟨V, hVe⟩ : ∃ x, x = valL ((l.drop f).take i) := ⟨_, rfl⟩
        rw [← hVe] at hT hV ⊢
        have HT := Aside0.mk hT
        have HO := orw V x i hV.1 hV.2 hx.1 hx.2 (by omega)
        clear hG hxe hVe hT e16
        go_wp2
        have hw : IntKind.u64.wrap (x * 2 ^ (16 * i)) = x * 2 ^ (16 * i) := by
          have p : 0 ≤ x * 2 ^ (16 * i) := Int.mul_nonneg hx.1 (Int.le_of_lt (Int.pow_pos (by omega)))
          rw [u64w]
          omega
        rw [hw, HO.1]
        go_roundg k1
        case rel => exact ⟨i + 1, by rw [HT.out], by go_num, by omega, rfl⟩
        case measure => omega
      · have d2 : decide ((f : Int) + (i : Int) < (l.length : Int)) = false := decide_eq_false (by omega)
        have hg0 : l.getD (f + i) 0 = 0 := by
          rw [List.getD_eq_getElem?_getD, List.getElem?_eq_none (by omega)]
          rfl
        rw [hg0, Int.zero_mul, Int.add_zero] at hT
        have HT := Aside0.mk hT
        clear hT hG hx hg0 hV e16
        go_wp2
        go_roundg k1
        case rel => exact ⟨i + 1, by rw [HT.out], by go_num, by omega, rfl⟩
        case measure => omega
theorem word_at {w : World} {A : Option Addr} {c : Nat} {l : List Int} (h : Lm w A c l) (f : Nat) (g : Int) (hf : f = 0 ∨ f = 4) (hl : l.length ≤ 1048576) (hg : (f : Int) = g) :
    Calls Try.prog 66 #[.slice A l.length c, .int .i64 g] w fun e w' => e = .returned (.int .u64 (wordP l f)) ∧ ∃ m, w' = w.drewN m := by
  rw [← hg]
  exact ref_word h f hf hl
theorem fits_true {a b : Int} (w : World) (ha : 0 ≤ a ∧ a ≤ 9223372036854775807) :
    Calls Try.prog 67 #[.int .u64 a, .int .u64 b, .bool true] w fun e w' => e = .returned (.tuple #[.agg #[.int .i64 a, .int .u64 b], .bool true]) ∧ Below w.heap.size w w' := by
  go_enter Try.func67, Try.ntmps67
  go_wp2
  refine bodyPost_ret (results_ct rfl _ _ w.heap.size 25 _ (0, 0) _ rfl (heap_alloc_new _ _) Try.underlying25 rfl (by kernel_rfl)) rfl ?_
  exact ⟨rfl, below_alloc (Below.refl _ _) _⟩
theorem word_rng {l : List Int} (h : okL l) (f : Nat) : 0 ≤ wordP l f ∧ wordP l f ≤ 18446744073709551615 := by
  have := valL_take (okL_drop h f) 4
  unfold wordP
  have e : (65536 : Int) ^ 4 = 18446744073709551616 := by decide
  omega
theorem words_val {l : List Int} (h : l.length ≤ 8) : valL l = wordP l 4 * 18446744073709551616 + wordP l 0 := by
  have e2 := valL_app (l.take 4) (l.drop 4)
  unfold wordP
  rw [List.drop_zero, List.take_of_length_le (show (l.drop 4).length ≤ 4 by rw [List.length_drop]; omega)]
  by_cases c : l.length ≤ 4
  · rw [List.drop_eq_nil_of_le c, List.take_of_length_le c]
    simp [valL]
  · rw [List.take_append_drop, List.length_take, show min 4 l.length = 4 by omega] at e2
    have e : (65536 : Int) ^ 4 = 18446744073709551616 := by decide
    rw [e] at e2
    omega
set_option maxHeartbeats 3200000 in
set_option maxRecDepth 4000 in
theorem ref_To {w : World} {u : Value} {x : Int} (hu : NumV w u x) (hx : 0 ≤ x ∧ x ≤ 170141183460469231731687303715884105727) :
    Calls Try.prog 49 #[u] w fun e w' => e = .returned (.tuple #[WV x, .bool true]) ∧ Below w.heap.size w w' := by
  obtain ⟨A, c, rfl, hl⟩ := hu
  have hneg : decide (x < 0) = false := decide_eq_false (by omega)
  rw [hneg]
  have hlen : (limbs x.natAbs).length ≤ 8 := limbs_len 8 _ (by have e : (65536 : Nat) ^ 8 = 340282366920938463463374607431768211456 := by decide
                                                               omega)
  have hval := words_val hlen
  rw [limbs_val] at hval
  have hlo := word_rng (limbs_ok x.natAbs) 0
  have hhi := word_rng (limbs_ok x.natAbs) 4
  obtain ⟨l, hle⟩ : ∃ l, l = limbs x.natAbs := ⟨_, rfl⟩
  rw [← hle] at hl hlen hval hlo hhi ⊢
  obtain ⟨n0, n1, nb, ns⟩ := new2' w (.cells #[.bool false, .slice A l.length c] 71 (0, 0)) (.cells #[.int .i64 0, .int .u64 0] 25 (0, 0))
  obtain ⟨W, hW⟩ : ∃ W, W = (w.alloc (.cells #[.bool false, .slice A l.length c] 71 (0, 0))).alloc (.cells #[.int .i64 0, .int .u64 0] 25 (0, 0)) := ⟨_, rfl⟩
  rw [← hW] at n0 n1 nb ns
  have HW := Aside0.mk hW
  have HQ0 := Aside0.mk (fun n (g : Int) (hg : g = 0 ∨ g = 4) => Calls.quiet_of (word_at ((hl.below nb).keep (keep_drewN _ n) (fun ad e h => h)) g.toNat g (by omega) (by omega) (by omega)))
  obtain ⟨lo, hloe⟩ : ∃ l_, l_ = wordP l 0 := ⟨_, rfl⟩
  obtain ⟨hi, hhie⟩ : ∃ l_, l_ = wordP l 4 := ⟨_, rfl⟩
  obtain ⟨wd, hwd⟩ : ∃ wd : Int → Int, ∀ g, wd g = wordP l g.toNat := ⟨_, fun g => rfl⟩
  have HQ := Aside0.mk (fun n g hg => (show Calls Try.prog 66 #[.slice A l.length c, .int .i64 g] (W.drewN n) (fun e w' => e = .returned (.int .u64 (wd g)) ∧ ∃ m, w' = W.drewN m) by rw [hwd]; exact HQ0.out n g hg))
  have w0 : wd 0 = lo := (hwd 0).trans hloe.symm
  have w4 : wd 4 = hi := (hwd 4).trans hhie.symm
  clear hwd HQ0
  rw [← hloe] at hval hlo
  rw [← hhie] at hval hhi
  have e1 : hiW x = hi := by unfold hiW; omega
  have e2 : loW x = lo := by unfold loW; omega
  have d1 : decide ((8 : Int) < (l.length : Int)) = false := decide_eq_false (by omega)
  have d2 : decide (hi < 9223372036854775808) = true := decide_eq_true (by omega)
  have hh : 0 ≤ hi ∧ hi ≤ 9223372036854775807 := by omega
  have a0 : W.cell? ⟨w.heap.size, 0, none⟩ = some (.bool false) := blk_cell n0 0
  have a1 : W.cell? ⟨w.heap.size, 1, none⟩ = some (.slice A l.length c) := blk_cell n0 1
  unfold WV
  rw [e1, e2]
  have N1 := Aside0.mk n1
  have NB := Aside0.mk nb
  clear n0 n1 nb ns e1 e2 hval hloe hhie hneg hW hle
  go_enter Try.func49, Try.ntmps49
  go_upto_region 3 with (fail)
  rw [← HW.out]
  go_quiet (exact HQ.out _ _ (by first | exact .inl rfl | exact .inr rfl))
  go_upto_region 5 with (fail)
  have NQ := Aside0.mk (pw_below_drewN NB.out nq)
  have NQ1 := Aside0.mk (blk_drewN N1.out nq)
  obtain ⟨V, hV⟩ : ∃ V, V = W.drewN nq := ⟨_, rfl⟩
  rw [← hV] at NQ NQ1 ⊢
  clear hV
  go_wp2_with (first
    | (go_at_call 67; (with_reducible refine (fits_true _ hh).mono ?_); rintro e w6 ⟨rfl, hb6⟩; obtain ⟨f1, f2, f3, f4, f5⟩ := res2 (v0 := .int .i64 hi) (v1 := .int .u64 lo) ((hb6.block _ (blk_lt NQ1.out)).trans NQ1.out); have HF := Aside0.mk f5; have HB6 := Aside0.mk (NQ.out.trans ⟨hb6.os, hb6.tape, hb6.output, hb6.size, fun k hk => hb6.block k (Nat.lt_of_lt_of_le hk NQ.out.size)⟩); clear hb6 f5))
  refine bodyPost_ret (results_ct rfl _ _ (w.heap.size + 1) 25 _ (0, 0) _ rfl HF.out Try.underlying25 rfl (by kernel_rfl)) rfl ?_
  exact ⟨rfl, HB6.out.trans (keep_set2.below HB6.out.size (fun k hk => by omega))⟩
end Go.Proofs.Ythnihjfdmkfkiaa.Q
