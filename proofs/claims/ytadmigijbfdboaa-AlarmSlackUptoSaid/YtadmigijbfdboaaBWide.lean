import Derived.Test.YtadmigijbfdboaaBAdd
import Derived.Test.YtadmigijbfdboaaVExt
import Derived.Laws.Externs
namespace Go.Proofs.Ytadmigijbfdboaa.Q
open Go.RowKit Go.Proofs.YtadmigijbfdboaaW.PrintWords Go.Proofs.YtadmigijbfdboaaW.PrintLast Go.Proofs.YtadmigijbfdboaaW.PrintMore Go.Proofs.YtadmigijbfdboaaV
set_option linter.unusedVariables false
set_option linter.unusedSimpArgs false

/-- A number of 128 bits, as two words. -/
def hiW (z : Int) : Int := z / 18446744073709551616
def loW (z : Int) : Int := z % 18446744073709551616
def WV (z : Int) : Value := .agg #[.int .i64 (hiW z), .int .u64 (loW z)]
def inW (z : Int) : Prop := -170141183460469231731687303715884105728 ≤ z ∧ z ≤ 170141183460469231731687303715884105727
theorem hi_rng {z : Int} (h : inW z) : -9223372036854775808 ≤ hiW z ∧ hiW z ≤ 9223372036854775807 := by unfold inW at h; unfold hiW; omega
theorem lo_rng (z : Int) : 0 ≤ loW z ∧ loW z ≤ 18446744073709551615 := by unfold loW; omega
theorem WV_of (h l : Int) (hl : 0 ≤ l ∧ l ≤ 18446744073709551615) : (.agg #[.int .i64 h, .int .u64 l] : Value) = WV (h * 18446744073709551616 + l) := by
  unfold WV hiW loW
  rw [show (h * 18446744073709551616 + l) / 18446744073709551616 = h by omega, show (h * 18446744073709551616 + l) % 18446744073709551616 = l by omega]
theorem hl_eq {x y : Int} : x = y ↔ hiW x = hiW y ∧ loW x = loW y := by unfold hiW loW; omega

set_option maxHeartbeats 800000 in
theorem wide_Cmp {x y : Int} (w : World) (hx : inW x) (hy : inW y) :
    Calls Try.prog 50 #[WV x, WV y] w fun e w' => e = .returned (.int .i64 (sgn (x - y))) ∧ Below w.heap.size w w' := by
  have k1 := hi_rng hx
  have k2 := hi_rng hy
  have k3 := lo_rng x
  have k4 := lo_rng y
  have ex : x = hiW x * 18446744073709551616 + loW x := by unfold hiW loW; omega
  have ey : y = hiW y * 18446744073709551616 + loW y := by unfold hiW loW; omega
  unfold WV
  obtain ⟨a, ha⟩ : ∃ a, a = hiW x := ⟨_, rfl⟩
  obtain ⟨b, hb⟩ : ∃ b, b = loW x := ⟨_, rfl⟩
  obtain ⟨c, hc⟩ : ∃ c, c = hiW y := ⟨_, rfl⟩
  obtain ⟨d, hd⟩ : ∃ d, d = loW y := ⟨_, rfl⟩
  rw [← ha] at k1 ex ⊢
  rw [← hb] at k3 ex ⊢
  rw [← hc] at k2 ey ⊢
  rw [← hd] at k4 ey ⊢
  have HB := Aside0.mk (((Below.refl w.heap.size w).alloc (Nat.le_refl _) (.cells #[.int .i64 a, .int .u64 b] 24 (0, 0))).alloc (by simp) (.cells #[.int .i64 c, .int .u64 d] 24 (0, 0)))
  clear ha hb hc hd
  by_cases h1 : a = c ∧ b = d
  · obtain ⟨rfl, rfl⟩ := h1
    rw [show x - y = 0 by omega, sgn_zero]
    clear ex ey
    go_enter Try.func50, Try.ntmps50
    go_wp2
    go_ret
    exact ⟨rfl, HB.out⟩
  by_cases h2 : a = c
  · subst h2
    have f1 : (b == d) = false := beq_eq_false_iff_ne.mpr (fun e => h1 ⟨rfl, e⟩)
    by_cases h3 : b < d
    · have f2 : decide (b < d) = true := decide_eq_true h3
      rw [sgn_neg (by omega)]
      clear ex ey h1 h3
      go_enter Try.func50, Try.ntmps50
      go_wp2
      go_ret
      exact ⟨rfl, HB.out⟩
    · have f2 : decide (b < d) = false := decide_eq_false h3
      rw [sgn_pos (by have : ¬ b = d := fun e => h1 ⟨rfl, e⟩; omega)]
      clear ex ey h1 h3
      go_enter Try.func50, Try.ntmps50
      go_wp2
      go_ret
      exact ⟨rfl, HB.out⟩
  · have f1 : (a == c) = false := beq_eq_false_iff_ne.mpr h2
    by_cases h3 : a < c
    · have f2 : decide (a < c) = true := decide_eq_true h3
      rw [sgn_neg (by omega)]
      clear ex ey h1 h2 h3
      go_enter Try.func50, Try.ntmps50
      go_wp2
      go_ret
      exact ⟨rfl, HB.out⟩
    · have f2 : decide (a < c) = false := decide_eq_false h3
      rw [sgn_pos (by omega)]
      clear ex ey h1 h2 h3
      go_enter Try.func50, Try.ntmps50
      go_wp2
      go_ret
      exact ⟨rfl, HB.out⟩
theorem WV_zero : WV 0 = .agg #[.int .i64 0, .int .u64 0] := rfl
theorem inW_zero : inW 0 := by unfold inW; omega
set_option maxHeartbeats 800000 in
theorem wide_Sign {x : Int} (w : World) (hx : inW x) :
    Calls Try.prog 49 #[WV x] w fun e w' => e = .returned (.int .i64 (sgn x)) ∧ Below w.heap.size w w' := by
  obtain ⟨a, ha⟩ : ∃ a, a = hiW x := ⟨_, rfl⟩
  obtain ⟨b, hb⟩ : ∃ b, b = loW x := ⟨_, rfl⟩
  have hb1 := (Below.refl w.heap.size w).alloc (Nat.le_refl _) (.cells #[.int .i64 a, .int .u64 b] 24 (0, 0))
  have HB := Aside0.mk hb1
  have HC := Aside0.mk (wide_Cmp (w.alloc (.cells #[.int .i64 a, .int .u64 b] 24 (0, 0))) hx inW_zero)
  rw [WV_zero, Int.sub_zero] at HC
  unfold WV at HC ⊢
  rw [← ha, ← hb] at HC ⊢
  clear ha hb hb1
  go_enter Try.func49, Try.ntmps49
  go_wp2_with (first
    | (go_at_call 50; (with_reducible refine (HC.out).mono ?_); rintro e w1 ⟨rfl, h1⟩; have HB1 := Aside0.mk (HB.out.trans ⟨h1.os, h1.tape, h1.output, h1.size, fun k hk => h1.block k (Nat.lt_of_lt_of_le hk HB.out.size)⟩); clear h1))
  go_ret
  exact ⟨rfl, HB1.out⟩
end Go.Proofs.Ytadmigijbfdboaa.Q
