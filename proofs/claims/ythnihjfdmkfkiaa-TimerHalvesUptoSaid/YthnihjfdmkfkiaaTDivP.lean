import Derived.Laws.BitsAllLaws
import Derived.WalkKit
namespace Go.Proofs.Ythnihjfdmkfkiaa.Q
open Go.RowKit
set_option linter.unusedVariables false
set_option linter.unusedSimpArgs false

/-- Where the long division stands with k bits to go. -/
def DivI (M N : Int) (k : Nat) (q0 q1 r0 r1 : Int) : Prop := 0 ≤ q0 ∧ q0 ≤ 18446744073709551615 ∧ 0 ≤ q1 ∧ q1 ≤ 18446744073709551615 ∧ 0 ≤ r0 ∧ r0 ≤ 18446744073709551615 ∧ 0 ≤ r1 ∧ r1 ≤ 18446744073709551615 ∧ r1 * 18446744073709551616 + r0 = M / 2 ^ k % N ∧ q1 * 18446744073709551616 + q0 = M / 2 ^ k / N * 2 ^ k
theorem u64w' (a : Int) : IntKind.u64.wrap a = a % 18446744073709551616 := by
  simp only [IntKind.wrap, IntKind.bits, IntKind.signed]; simp
theorem and1 (x : Int) (h0 : 0 ≤ x) (h1 : x < 18446744073709551616) : bits .and .u64 x 1 = x % 2 := by
  rw [u64_and x 1 h0 h1 (by omega) (by omega), show (1 : Int).toNat = 1 from rfl, nat_mask1]
  omega
theorem or1 (x y : Int) (h0 : 0 ≤ x) (h1 : x < 18446744073709551616) (h2 : x % 2 = 0) (h3 : 0 ≤ y) (h4 : y < 2) : bits .or .u64 x y = x + y := by
  rw [u64_or x y h0 h1 h3 (by omega), nat_join 1 x.toNat y.toNat (by omega) (by omega)]
  omega
theorem orp (x : Int) (j : Nat) (h0 : 0 ≤ x) (h1 : x < 18446744073709551616) (h2 : x % 2 ^ (j + 1) = 0) (hj : j ≤ 63) : bits .or .u64 x (2 ^ j) = x + 2 ^ j := by
  have e : ((2 : Int) ^ j) = ((2 ^ j : Nat) : Int) := by simp
  have hp : (2 : Nat) ^ j < 18446744073709551616 := by
    have : (2 : Nat) ^ j ≤ 2 ^ 63 := Nat.pow_le_pow_right (by omega) hj
    have e : (2 : Nat) ^ 63 = 9223372036854775808 := by decide
    omega
  rw [e, u64_or x _ h0 h1 (by omega) (by omega), nat_join (j + 1) x.toNat ((2 ^ j : Nat) : Int).toNat ?_ ?_]
  · omega
  · obtain ⟨n, rfl⟩ := Int.eq_ofNat_of_zero_le h0
    have e2 : ((2 : Int) ^ (j + 1)) = ((2 ^ (j + 1) : Nat) : Int) := by simp
    rw [e2] at h2
    rw [Int.toNat_natCast]
    exact_mod_cast h2
  · rw [Int.toNat_natCast, Nat.pow_succ]
    have := Nat.pow_pos (n := j) (show 0 < 2 by omega)
    omega
theorem pow2_pos (k : Nat) : (0 : Int) < 2 ^ k := Int.pow_pos (by omega)
/-- The next bit. -/
theorem next_bit (M : Int) (k : Nat) : M / 2 ^ k = 2 * (M / 2 ^ (k + 1)) + M / 2 ^ k % 2 := by
  have : M / 2 ^ (k + 1) = M / 2 ^ k / 2 := by
    rw [Int.pow_succ, Int.ediv_ediv_of_nonneg (Int.le_of_lt (pow2_pos k))]
  rw [this]
  omega
theorem bit_low (m1 m0 : Int) (j : Nat) (hj : j ≤ 63) : m0 / 2 ^ j % 2 = (m1 * 18446744073709551616 + m0) / 2 ^ j % 2 := by
  obtain ⟨d, hd⟩ : ∃ d, 64 = j + (d + 1) := ⟨63 - j, by omega⟩
  have e : (18446744073709551616 : Int) = 2 ^ j * (2 * 2 ^ d) := by
    rw [show (18446744073709551616 : Int) = 2 ^ 64 by decide, hd, Int.pow_add, Int.pow_succ, Int.mul_comm ((2 : Int) ^ d) 2]
  rw [e, show m1 * (2 ^ j * (2 * 2 ^ d)) + m0 = m0 + 2 ^ j * (2 * 2 ^ d * m1) by rw [Int.mul_comm m1, Int.mul_assoc, Int.add_comm], Int.add_mul_ediv_left _ _ (by have := pow2_pos j; omega), Int.mul_assoc 2]
  omega
theorem bit_high (m1 m0 : Int) (j : Nat) (h0 : 0 ≤ m0) (h1 : m0 ≤ 18446744073709551615) : (m1 * 18446744073709551616 + m0) / 2 ^ (64 + j) = m1 / 2 ^ j := by
  rw [Int.pow_add, show (2 : Int) ^ 64 = 18446744073709551616 by decide, ← Int.ediv_ediv_of_nonneg (by omega)]
  congr 1
  omega
/-- The step: what comes down, and whether the divisor goes in once more. -/
theorem div_step {M N : Int} {k : Nat} (hN : 0 < N) {R Q b : Int} (hM : 0 ≤ M) (hR : R = M / 2 ^ (k + 1) % N) (hQ : Q = M / 2 ^ (k + 1) / N * 2 ^ (k + 1)) (hb : b = M / 2 ^ k % 2) :
    0 ≤ R ∧ R < N ∧ (2 * R + b < N → 2 * R + b = M / 2 ^ k % N ∧ Q = M / 2 ^ k / N * 2 ^ k) ∧ (N ≤ 2 * R + b → 2 * R + b - N = M / 2 ^ k % N ∧ Q + 2 ^ k = M / 2 ^ k / N * 2 ^ k) := by
  obtain ⟨A, hA⟩ : ∃ A, A = M / 2 ^ (k + 1) := ⟨_, rfl⟩
  have hB := next_bit M k
  rw [← hA] at hR hQ hB
  rw [← hb] at hB
  have h1 := Int.emod_nonneg A (show N ≠ 0 by omega)
  have h2 := Int.emod_lt_of_pos A hN
  have h3 := Int.mul_ediv_add_emod A N
  rw [← hR] at h1 h2 h3
  have hb2 : 0 ≤ b ∧ b < 2 := by omega
  obtain ⟨u, hu⟩ : ∃ u, u = A / N := ⟨_, rfl⟩
  rw [← hu] at h3 hQ
  have hB2 : M / 2 ^ k = 2 * R + b + N * (2 * u) := by
    rw [hB, ← h3, Int.mul_add, ← Int.mul_assoc 2 N u, Int.mul_comm 2 N, Int.mul_assoc]
    omega
  have hQ2 : Q = 2 * u * 2 ^ k := by rw [hQ, Int.pow_succ, Int.mul_comm ((2 : Int) ^ k) 2, ← Int.mul_assoc, Int.mul_comm u 2]
  refine ⟨h1, h2, fun h => ?_, fun h => ?_⟩
  · have e1 : M / 2 ^ k % N = 2 * R + b := by rw [hB2, Int.add_mul_emod_self_left, Int.emod_eq_of_lt (by omega) h]
    have e2 : M / 2 ^ k / N = 2 * u := by rw [hB2, Int.add_mul_ediv_left _ _ (by omega), Int.ediv_eq_zero_of_lt (by omega) h, Int.zero_add]
    exact ⟨e1.symm, by rw [e2]; exact hQ2⟩
  · have hB3 : M / 2 ^ k = 2 * R + b - N + N * (2 * u + 1) := by rw [hB2, Int.mul_add]; omega
    have e1 : M / 2 ^ k % N = 2 * R + b - N := by rw [hB3, Int.add_mul_emod_self_left, Int.emod_eq_of_lt (by omega) (by omega)]
    have e2 : M / 2 ^ k / N = 2 * u + 1 := by rw [hB3, Int.add_mul_ediv_left _ _ (by omega), Int.ediv_eq_zero_of_lt (by omega) (by omega), Int.zero_add]
    exact ⟨e1.symm, by rw [e2, Int.add_mul, hQ2]; omega⟩
/-- The quotient's word at which the step stands. -/
theorem q_low {q0 q1 X : Int} {j : Nat} (hj : j ≤ 63) (h : q1 * 18446744073709551616 + q0 = X * 2 ^ (j + 1)) : q0 % 2 ^ (j + 1) = 0 := by
  obtain ⟨d, hd⟩ : ∃ d, 64 = (j + 1) + d := ⟨63 - j, by omega⟩
  have e : (18446744073709551616 : Int) = 2 ^ (j + 1) * 2 ^ d := by rw [← Int.pow_add, ← hd]; decide
  have : q0 = 2 ^ (j + 1) * (X - q1 * 2 ^ d) := by
    rw [e] at h
    rw [Int.mul_sub, Int.mul_comm _ X, ← h, Int.mul_left_comm _ q1]
    omega
  rw [this, Int.mul_emod_right]
theorem q_high {q0 q1 X : Int} {j : Nat} (h0 : 0 ≤ q0) (h1 : q0 ≤ 18446744073709551615) (h : q1 * 18446744073709551616 + q0 = X * 2 ^ (64 + j + 1)) : q0 = 0 ∧ q1 % 2 ^ (j + 1) = 0 := by
  have e : (2 : Int) ^ (64 + j + 1) = 18446744073709551616 * 2 ^ (j + 1) := by rw [show 64 + j + 1 = 64 + (j + 1) by omega, Int.pow_add, show (2 : Int) ^ 64 = 18446744073709551616 by decide]
  rw [e, show X * (18446744073709551616 * 2 ^ (j + 1)) = X * 2 ^ (j + 1) * 18446744073709551616 by rw [Int.mul_comm 18446744073709551616, Int.mul_assoc]] at h
  generalize hY : X * 2 ^ (j + 1) = Y at h
  have hq : q0 = 0 := by omega
  have hy : q1 = Y := by omega
  refine ⟨hq, ?_⟩
  rw [hy, ← hY, Int.mul_emod_left]
theorem word_shift {r0 r1 bt d0 d1 u0 o t0 t1 : Int} (a0 : 0 ≤ r0) (a1 : r0 ≤ 18446744073709551615) (a2 : 0 ≤ r1) (a3 : r1 ≤ 18446744073709551615) (b0 : 0 ≤ bt) (b1 : bt < 2)
    (h0 : d0 = r0 * 2 % 18446744073709551616) (h1 : d1 = r1 * 2 % 18446744073709551616) (h2 : u0 = r0 / 9223372036854775808) (h3 : o = r1 / 9223372036854775808) (h4 : t0 = d0 + bt) (h5 : t1 = d1 + u0) :
    t1 * 18446744073709551616 + t0 = 2 * (r1 * 18446744073709551616 + r0) + bt - o * 340282366920938463463374607431768211456 ∧ 0 ≤ o ∧ o ≤ 1 ∧ 0 ≤ t0 ∧ t0 ≤ 18446744073709551615 ∧ 0 ≤ t1 ∧ t1 ≤ 18446744073709551615 := by omega
theorem word_sub {t0 t1 n0 n1 z0 z1 c0 o : Int} (a0 : 0 ≤ t0) (a1 : t0 ≤ 18446744073709551615) (a2 : 0 ≤ t1) (a3 : t1 ≤ 18446744073709551615) (b0 : 0 ≤ n0) (b1 : n0 ≤ 18446744073709551615) (b2 : 0 ≤ n1) (b3 : n1 ≤ 18446744073709551615)
    (h0 : z0 = (t0 + 18446744073709551616 - n0 - 0) % 18446744073709551616) (h1 : c0 = (if t0 < n0 + 0 then 1 else 0)) (h2 : z1 = (t1 + 18446744073709551616 - n1 - c0) % 18446744073709551616) (o0 : 0 ≤ o) (o1 : o ≤ 1)
    (hT : 0 ≤ o * 340282366920938463463374607431768211456 + (t1 * 18446744073709551616 + t0) - (n1 * 18446744073709551616 + n0)) (hU : o * 340282366920938463463374607431768211456 + (t1 * 18446744073709551616 + t0) - (n1 * 18446744073709551616 + n0) < 340282366920938463463374607431768211456) :
    z1 * 18446744073709551616 + z0 = o * 340282366920938463463374607431768211456 + (t1 * 18446744073709551616 + t0) - (n1 * 18446744073709551616 + n0) ∧ 0 ≤ z0 ∧ z0 ≤ 18446744073709551615 ∧ 0 ≤ z1 ∧ z1 ≤ 18446744073709551615 := by
  have hc : (c0 = 1 ∧ t0 < n0) ∨ (c0 = 0 ∧ n0 ≤ t0) := by rw [h1]; split <;> omega
  clear h1
  rcases hc with ⟨rfl, hc⟩ | ⟨rfl, hc⟩ <;> omega
theorem word_key {t0 t1 n0 n1 o T N : Int} (a0 : 0 ≤ t0) (a1 : t0 ≤ 18446744073709551615) (a2 : 0 ≤ t1) (a3 : t1 ≤ 18446744073709551615) (b0 : 0 ≤ n0) (b1 : n0 ≤ 18446744073709551615) (b2 : 0 ≤ n1) (b3 : n1 ≤ 18446744073709551615) (o0 : 0 ≤ o) (o1 : o ≤ 1)
    (hT : t1 * 18446744073709551616 + t0 = T - o * 340282366920938463463374607431768211456) (hN : N = n1 * 18446744073709551616 + n0) : (o = 1 ∨ n1 < t1 ∨ (t1 = n1 ∧ n0 ≤ t0)) ↔ N ≤ T := by omega
theorem q_room {M N : Int} {k : Nat} (hM : 0 ≤ M) : M / 2 ^ k / N * 2 ^ k ≤ M := by
  have e1 : M / 2 ^ k / N * 2 ^ k ≤ M / 2 ^ k * 2 ^ k := Int.mul_le_mul_of_nonneg_right (Int.ediv_le_self _ (Int.ediv_nonneg hM (Int.le_of_lt (pow2_pos k)))) (Int.le_of_lt (pow2_pos k))
  have e2 := Int.ediv_mul_le M (show (2 : Int) ^ k ≠ 0 by have := pow2_pos k; omega)
  omega
theorem pow_63 {j : Nat} (h : j ≤ 63) : (2 : Int) ^ j ≤ 9223372036854775808 := by
  have h1 : (2 : Nat) ^ j ≤ 2 ^ 63 := Nat.pow_le_pow_right (by omega) h
  have e : (2 : Nat) ^ 63 = 9223372036854775808 := by decide
  have e4 : ((2 : Int) ^ j) = ((2 ^ j : Nat) : Int) := by simp
  omega
theorem or_room (x : Int) (j : Nat) (h0 : 0 ≤ x) (h1 : x < 18446744073709551616) (h2 : x % 2 ^ (j + 1) = 0) (hj : j ≤ 63) : x + 2 ^ j ≤ 18446744073709551615 := by
  have hx := orp x j h0 h1 h2 hj
  have hp := pow2_pos j
  have hp2 := pow_63 hj
  have e : (2 : Nat) ^ 64 = 18446744073709551616 := by decide
  rw [u64_or x _ h0 h1 (by omega) (by omega)] at hx
  have h6 := Nat.or_lt_two_pow (n := 64) (x := x.toNat) (y := ((2 : Int) ^ j).toNat) (by omega) (by omega)
  omega
/-- What a round's words come to; mw, qw: the word that the round looks at; qn: the quotient's word behind it. -/
structure Rnd (M N : Int) (k j : Nat) (mw qw n0 n1 r0 r1 mj bt d0 d1 u0 o t0 t1 pj qn z0 z1 c0 c2 : Int) (no yes : Prop) : Prop where
  smj : mw / 2 ^ min j 64 = mj
  sbt : bits .and .u64 mj 1 = bt
  sd0 : IntKind.u64.wrap (r0 * 2) = d0
  sd1 : IntKind.u64.wrap (r1 * 2) = d1
  su0 : r0 / 9223372036854775808 = u0
  so : r1 / 9223372036854775808 = o
  st0 : bits .or .u64 d0 bt = t0
  st1 : bits .or .u64 d1 u0 = t1
  spj : IntKind.u64.wrap (2 ^ min j 64) = pj
  sqn : bits .or .u64 qw pj = qn
  t0g : 0 ≤ t0
  t1g : 0 ≤ t1
  c0g : 0 ≤ c0 ∧ c0 ≤ 1
  hz0 : z0 = (t0 + 18446744073709551616 - n0 - 0) % 18446744073709551616
  hc0 : c0 = (if t0 < n0 + 0 then 1 else 0)
  hz1 : z1 = (t1 + 18446744073709551616 - n1 - c0) % 18446744073709551616
  hc2 : c2 = (if t1 < n1 + c0 then 1 else 0)
  ways : ((o == 1) = true ∧ yes) ∨ ((o == 1) = false ∧ decide (n1 < t1) = true ∧ yes) ∨ ((o == 1) = false ∧ decide (n1 < t1) = false ∧ (t1 == n1) = true ∧ decide (n0 ≤ t0) = true ∧ yes) ∨ ((o == 1) = false ∧ decide (n1 < t1) = false ∧ (t1 == n1) = true ∧ decide (n0 ≤ t0) = false ∧ no) ∨ ((o == 1) = false ∧ decide (n1 < t1) = false ∧ (t1 == n1) = false ∧ no)
theorem ways_of {o n0 n1 t0 t1 T N : Int} {no yes : Prop} (key : (o = 1 ∨ n1 < t1 ∨ (t1 = n1 ∧ n0 ≤ t0)) ↔ N ≤ T) (hy : N ≤ T → yes) (hn : ¬ N ≤ T → no) :
    ((o == 1) = true ∧ yes) ∨ ((o == 1) = false ∧ decide (n1 < t1) = true ∧ yes) ∨ ((o == 1) = false ∧ decide (n1 < t1) = false ∧ (t1 == n1) = true ∧ decide (n0 ≤ t0) = true ∧ yes) ∨ ((o == 1) = false ∧ decide (n1 < t1) = false ∧ (t1 == n1) = true ∧ decide (n0 ≤ t0) = false ∧ no) ∨ ((o == 1) = false ∧ decide (n1 < t1) = false ∧ (t1 == n1) = false ∧ no) := by
  by_cases h1 : o = 1
  · exact .inl ⟨beq_iff_eq.mpr h1, hy (key.1 (.inl h1))⟩
  · have k1 : (o == 1) = false := beq_eq_false_iff_ne.mpr h1
    by_cases h2 : n1 < t1
    · exact .inr (.inl ⟨k1, decide_eq_true h2, hy (key.1 (.inr (.inl h2)))⟩)
    · have k2 : decide (n1 < t1) = false := decide_eq_false h2
      by_cases h3 : t1 = n1
      · by_cases h4 : n0 ≤ t0
        · exact .inr (.inr (.inl ⟨k1, k2, beq_iff_eq.mpr h3, decide_eq_true h4, hy (key.1 (.inr (.inr ⟨h3, h4⟩)))⟩))
        · exact .inr (.inr (.inr (.inl ⟨k1, k2, beq_iff_eq.mpr h3, decide_eq_false h4, hn (fun h => by rcases key.2 h with q | q | q; exact h1 q; exact h2 q; exact h4 q.2)⟩)))
      · exact .inr (.inr (.inr (.inr ⟨k1, k2, beq_eq_false_iff_ne.mpr h3, hn (fun h => by rcases key.2 h with q | q | q; exact h1 q; exact h2 q; exact h3 q.1)⟩)))
/-- A round, whichever word it looks at. -/
theorem round_of {M N : Int} {k j : Nat} {mw qw n0 n1 q0 q1 r0 r1 : Int} (hM : 0 ≤ M) (hN : 0 < N) (en : N = n1 * 18446744073709551616 + n0) (b0 : 0 ≤ n0) (b1 : n0 ≤ 18446744073709551615) (b2 : 0 ≤ n1) (b3 : n1 ≤ 18446744073709551615)
    (hI : DivI M N (k + 1) q0 q1 r0 r1) (hj : j ≤ 63) (m0 : 0 ≤ mw) (m1 : mw ≤ 18446744073709551615) (hmw : mw / 2 ^ j % 2 = M / 2 ^ k % 2) (w0 : 0 ≤ qw) (w1 : qw ≤ 18446744073709551615) (hqw : qw % 2 ^ (j + 1) = 0)
    (yes : Int → Int → Int → Prop)
    (hyes : ∀ z0 z1, 0 ≤ z0 → z0 ≤ 18446744073709551615 → 0 ≤ z1 → z1 ≤ 18446744073709551615 → z1 * 18446744073709551616 + z0 = M / 2 ^ k % N → q1 * 18446744073709551616 + q0 + 2 ^ k = M / 2 ^ k / N * 2 ^ k → yes (qw + 2 ^ j) z0 z1) :
    ∃ mj bt d0 d1 u0 o t0 t1 pj qn z0 z1 c0 c2, Rnd M N k j mw qw n0 n1 r0 r1 mj bt d0 d1 u0 o t0 t1 pj qn z0 z1 c0 c2 (DivI M N k q0 q1 t0 t1) (yes qn z0 z1) := by
  obtain ⟨g0, g1, g2, g3, g4, g5, g6, g7, g8, g9⟩ := hI
  obtain ⟨S1, S2, S3, S4⟩ := div_step (k := k) hN hM g8 g9 rfl
  obtain ⟨bt, hbt⟩ : ∃ b, b = M / 2 ^ k % 2 := ⟨_, rfl⟩
  rw [← hbt] at S3 S4 hmw
  have hbt2 : 0 ≤ bt ∧ bt < 2 := by rw [hbt]; omega
  have d0r : 0 ≤ r0 * 2 % 18446744073709551616 ∧ r0 * 2 % 18446744073709551616 < 18446744073709551616 ∧ r0 * 2 % 18446744073709551616 % 2 = 0 := by clear S1 S2 S3 S4 g8 g9 hbt; omega
  have d1r : 0 ≤ r1 * 2 % 18446744073709551616 ∧ r1 * 2 % 18446744073709551616 < 18446744073709551616 ∧ r1 * 2 % 18446744073709551616 % 2 = 0 := by clear S1 S2 S3 S4 g8 g9 hbt; omega
  have u0r : 0 ≤ r0 / 9223372036854775808 ∧ r0 / 9223372036854775808 < 2 := by clear S1 S2 S3 S4 g8 g9 hbt; omega
  obtain ⟨T1, T2, T3, T4, T5, T6, T7⟩ := word_shift g4 g5 g6 g7 hbt2.1 hbt2.2 rfl rfl rfl rfl rfl rfl
  have hmj : 0 ≤ mw / 2 ^ j ∧ mw / 2 ^ j < 18446744073709551616 := ⟨Int.ediv_nonneg m0 (Int.le_of_lt (pow2_pos j)), Int.lt_of_le_of_lt (Int.ediv_le_self _ m0) (by omega)⟩
  have hp0 := pow2_pos j
  have hp1 := pow_63 hj
  have hmin : min j 64 = j := by omega
  refine ⟨mw / 2 ^ j, bt, r0 * 2 % 18446744073709551616, r1 * 2 % 18446744073709551616, r0 / 9223372036854775808, r1 / 9223372036854775808, r0 * 2 % 18446744073709551616 + bt, r1 * 2 % 18446744073709551616 + r0 / 9223372036854775808, 2 ^ j, qw + 2 ^ j, _, _, _, _, ⟨?_, ?_, ?_, ?_, rfl, rfl, ?_, ?_, ?_, ?_, T4, T6, ?_, rfl, rfl, rfl, rfl, ?_⟩⟩
  · rw [hmin]
  · rw [and1 _ hmj.1 hmj.2, hmw]
  · rw [u64w']
  · rw [u64w']
  · exact or1 _ _ d0r.1 d0r.2.1 d0r.2.2 hbt2.1 hbt2.2
  · exact or1 _ _ d1r.1 d1r.2.1 d1r.2.2 u0r.1 u0r.2
  · rw [hmin, u64w']; clear S1 S2 S3 S4 g8 g9 hbt T1; omega
  · exact orp qw j w0 (by omega) hqw hj
  · split <;> omega
  · generalize r0 * 2 % 18446744073709551616 + bt = t0 at T1 T4 T5 ⊢
    generalize r1 * 2 % 18446744073709551616 + r0 / 9223372036854775808 = t1 at T1 T6 T7 ⊢
    generalize r1 / 9223372036854775808 = o at T1 T2 T3 ⊢
    generalize hR : r1 * 18446744073709551616 + r0 = R at T1 S1 S2 S3 S4
    clear d0r d1r u0r hmj hp0 hp1 g8 g9 g4 g5 g6 g7 hR
    refine ways_of (word_key T4 T5 T6 T7 b0 b1 b2 b3 T2 T3 T1 en) (fun h => ?_) (fun h => ?_)
    · obtain ⟨h1, h2⟩ := S4 h
      obtain ⟨e1, e2, e3, e4, e5⟩ := word_sub T4 T5 T6 T7 b0 b1 b2 b3 rfl rfl rfl T2 T3 (by clear S3 S4 h1 h2; omega) (by clear S3 S4 h1 h2; omega)
      refine hyes _ _ e2 e3 e4 e5 ?_ h2
      rw [e1, ← h1]
      clear S3 S4 h1 h2 e1 e2 e3 e4 e5
      omega
    · obtain ⟨h1, h2⟩ := S3 (by clear S3 S4; omega)
      exact ⟨g0, g1, g2, g3, T4, T5, T6, T7, by rw [← h1]; clear S3 S4 h1 h2; omega, h2⟩
theorem round_low {M N : Int} {k : Nat} {m0 m1 n0 n1 q0 q1 r0 r1 : Int} (hM : 0 ≤ M) (hM2 : M ≤ 340282366920938463463374607431768211455) (em : M = m1 * 18446744073709551616 + m0) (a0 : 0 ≤ m0) (a1 : m0 ≤ 18446744073709551615) (hN : 0 < N) (en : N = n1 * 18446744073709551616 + n0) (b0 : 0 ≤ n0) (b1 : n0 ≤ 18446744073709551615) (b2 : 0 ≤ n1) (b3 : n1 ≤ 18446744073709551615)
    (hI : DivI M N (k + 1) q0 q1 r0 r1) (hk : k ≤ 63) :
    ∃ mj bt d0 d1 u0 o t0 t1 pj qn z0 z1 c0 c2, Rnd M N k k m0 q0 n0 n1 r0 r1 mj bt d0 d1 u0 o t0 t1 pj qn z0 z1 c0 c2 (DivI M N k q0 q1 t0 t1) (DivI M N k qn q1 z0 z1) := by
  have hI2 := hI
  obtain ⟨g0, g1, g2, g3, g4, g5, g6, g7, g8, g9⟩ := hI2
  have hq := q_low hk g9
  have hr := q_room (M := M) (N := N) (k := k) hM
  have hp := pow2_pos k
  refine round_of hM hN en b0 b1 b2 b3 hI hk a0 a1 (by rw [em]; exact bit_low m1 m0 k hk) g0 g1 hq (fun qn z0 z1 => DivI M N k qn q1 z0 z1) (fun z0 z1 h0 h1 h2 h3 h4 h5 => ⟨?_, ?_, g2, g3, h0, h1, h2, h3, h4, ?_⟩)
  · omega
  · exact or_room q0 k g0 (by omega) hq hk
  · rw [← h5]; omega
theorem round_high {M N : Int} {k j : Nat} {m0 m1 n0 n1 q0 q1 r0 r1 : Int} (hM : 0 ≤ M) (em : M = m1 * 18446744073709551616 + m0) (a0 : 0 ≤ m0) (a1 : m0 ≤ 18446744073709551615) (a2 : 0 ≤ m1) (a3 : m1 ≤ 18446744073709551615) (hN : 0 < N) (en : N = n1 * 18446744073709551616 + n0) (b0 : 0 ≤ n0) (b1 : n0 ≤ 18446744073709551615) (b2 : 0 ≤ n1) (b3 : n1 ≤ 18446744073709551615)
    (hI : DivI M N (k + 1) q0 q1 r0 r1) (hk : k = 64 + j) (hj : j ≤ 63) :
    ∃ mj bt d0 d1 u0 o t0 t1 pj qn z0 z1 c0 c2, Rnd M N k j m1 q1 n0 n1 r0 r1 mj bt d0 d1 u0 o t0 t1 pj qn z0 z1 c0 c2 (DivI M N k q0 q1 t0 t1) (DivI M N k q0 qn z0 z1) := by
  subst hk
  have hI2 := hI
  obtain ⟨g0, g1, g2, g3, g4, g5, g6, g7, g8, g9⟩ := hI2
  obtain ⟨hq0, hq⟩ := q_high g0 g1 g9
  have hp := pow2_pos j
  have e64 : (2 : Int) ^ (64 + j) = 18446744073709551616 * 2 ^ j := by rw [Int.pow_add, show (2 : Int) ^ 64 = 18446744073709551616 by decide]
  refine round_of hM hN en b0 b1 b2 b3 hI hj a2 a3 (by rw [em, bit_high m1 m0 j a0 a1]) g2 g3 hq (fun qn z0 z1 => DivI M N (64 + j) q0 qn z0 z1) (fun z0 z1 h0 h1 h2 h3 h4 h5 => ⟨g0, g1, ?_, ?_, h0, h1, h2, h3, h4, ?_⟩)
  · omega
  · exact or_room q1 j g2 (by omega) hq hj
  · rw [← h5, e64]; omega
end Go.Proofs.Ythnihjfdmkfkiaa.Q
