/- For every second, later second and width, WindowOrders answers true: a later second has no earlier window, and k widths later the window is k further. No conditions. -/
import Derived.Test.YtoakooebmnjkhaaMath
import Derived.Test.YtoakooebmnjkhaaPWindowOrdersx1
namespace Go.Proofs.Ytoakooebmnjkhaa.Pure
open Go.RowKit Go.Proofs.Ytoakooebmnjkhaa.PWindowOrders Go.Proofs.YtoakooebmnjkhaaW.PrintWords Go.Proofs.YtoakooebmnjkhaaW.PrintLast

theorem wrong_f (w : Int) : window_wrong.f w = some (decide (w < 1 ∨ w > 1048576)) := by
  unfold window_wrong.f
  by_cases h : w < 1 <;> simp [h]

theorem floor_f (t w : Int) (hw : 1 ≤ w) (h1 : -9223372036854775808 ≤ t) (h2 : t ≤ 9223372036854775807) : window_floor.f t w = some (t / w) := by
  unfold window_floor.f
  rw [if_neg (by omega), ← apply_ite some, Math.floor_eq t w hw h1 h2]

theorem of_f (t w : Int) (hw : 1 ≤ w) (hw2 : w ≤ 1048576) (h1 : -9223372036854775808 ≤ t) (h2 : t ≤ 9223372036854775807) : window_Of.f t w = some (t / w, 0) := by
  unfold window_Of.f
  rw [wrong_f, floor_f t w hw h1 h2]
  simp only [Option.bind_some]
  rw [if_neg (by simp; omega)]

theorem awake_f : tumblerlaw06_awake.f = some true := by
  unfold tumblerlaw06_awake.f
  rw [of_f 25 10 (by decide) (by decide) (by decide) (by decide), of_f (-1) 10 (by decide) (by decide) (by decide) (by decide)]
  rfl

theorem WindowOrders : tumblerlaw06_WindowOrders.Pure := by
  intro t l w ht hl hw
  obtain ⟨t1, t2⟩ := Math.wf_i64 ht
  obtain ⟨l1, l2⟩ := Math.wf_i64 hl
  refine ⟨2, ?_⟩
  unfold tumblerlaw06_WindowOrders.f
  rw [awake_f]
  simp only [Option.bind_some, if_true]
  by_cases c1 : w < 1
  · rw [if_pos c1]; simp [tumblerlaw06_WindowOrders.j0]
  rw [if_neg c1]
  by_cases c2 : w > 1048576
  · simp [tumblerlaw06_WindowOrders.j0, c2]
  have e2 : decide (w > 1048576) = false := by simp; omega
  have k1 : -1000 < Int.tmod l 1000 := by have := Int.tmod_lt_of_pos (-l) (b := 1000) (by omega); rw [Int.neg_tmod] at this; omega
  have k2 : Int.tmod l 1000 < 1000 := Int.tmod_lt_of_pos l (by omega)
  have last : ∀ k, 0 < k → tumblerlaw06_WindowOrders.j1 k t l w (t / w) false = some true := by
    intro k hk
    obtain ⟨k, rfl⟩ : ∃ m, k = m + 1 := ⟨k - 1, by omega⟩
    simp only [tumblerlaw06_WindowOrders.j1]
    rw [if_neg (by simp)]
    by_cases c3 : t > 4611686018427387904
    · rw [if_pos c3]
    by_cases c4 : t < -4611686018427387904
    · rw [if_neg c3, if_pos c4]
    rw [if_neg c3, if_neg c4]
    generalize Int.tmod l 1000 = m at k1 k2
    have p1 : m * w ≤ 999 * w := Int.mul_le_mul_of_nonneg_right (by omega) (by omega)
    have p2 : (-999) * w ≤ m * w := Int.mul_le_mul_of_nonneg_right (by omega) (by omega)
    have q := Math.ediv_range t w (by omega) t1 t2
    have q2 : (t + m * w) / w = t / w + m := Int.add_mul_ediv_right t m (by omega)
    have q3 := Math.ediv_range (t + m * w) w (by omega) (by omega) (by omega)
    rw [Math.wrap_in (a := m * w) (by omega) (by omega), Math.wrap_in (a := t + m * w) (by omega) (by omega)]
    rw [of_f _ w (by omega) (by omega) (by omega) (by omega), q2]
    simp only [Option.bind_some]
    rw [Math.wrap_in (a := t / w + m) (by omega) (by omega)]
    simp
  rw [e2]
  simp only [tumblerlaw06_WindowOrders.j0]
  rw [if_neg (by simp), of_f t w (by omega) (by omega) t1 t2, of_f l w (by omega) (by omega) l1 l2]
  simp only [Option.bind_some]
  by_cases c5 : t ≤ l
  · have m1 : t / w ≤ l / w := Int.ediv_le_ediv (by omega) c5
    rw [if_pos c5, if_neg (by omega)]
    by_cases c6 : l ≤ t
    · have m2 : l / w ≤ t / w := Int.ediv_le_ediv (by omega) c6
      rw [if_pos c6, show decide (l / w > t / w) = false by simp; omega]
      exact last 1 (by omega)
    · rw [if_neg c6]; exact last 1 (by omega)
  · have m2 : l / w ≤ t / w := Int.ediv_le_ediv (by omega) (by omega)
    rw [if_neg c5, if_pos (by omega), show decide (l / w > t / w) = false by simp; omega]
    exact last 1 (by omega)

end Go.Proofs.Ytoakooebmnjkhaa.Pure
