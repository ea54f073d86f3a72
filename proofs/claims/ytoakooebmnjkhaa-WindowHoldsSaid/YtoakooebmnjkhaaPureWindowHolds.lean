/- For every second and width, WindowHolds answers true: a second lies in its window, and the next window begins at its end, a width behind its beginning. No conditions. -/
import Derived.Test.YtoakooebmnjkhaaLem
namespace Go.Proofs.Ytoakooebmnjkhaa.Pure
open Go.RowKit Go.Proofs.Ytoakooebmnjkhaa.Q Go.Proofs.YtoakooebmnjkhaaW.PrintWords Go.Proofs.YtoakooebmnjkhaaW.PrintLast

theorem WindowHolds : tumblerlaw06_WindowHolds.Pure := by
  intro t w ht hw
  obtain ⟨t1, t2⟩ := Math.wf_i64 ht
  refine ⟨4, ?_⟩
  unfold tumblerlaw06_WindowHolds.f
  by_cases c : 1 ≤ w ∧ w ≤ 1048576
  · rw [of_f t w c.1 c.2 t1 t2]
    simp only [Option.bind_some]
    rw [if_neg (by omega), show decide (w > 1048576) = false by simp; omega]
    have r := Math.ediv_range t w c.1 t1 t2
    have b := Math.ediv_bounds t w c.1
    have e : (t / w + 1) * w = t / w * w + w := by rw [Int.add_mul, Int.one_mul]
    rw [Int.mul_comm] at b
    have last : ∀ k, 0 < k → tumblerlaw06_WindowHolds.j3 k w (t / w) (bg (t / w + 1) w).1 (bg (t / w + 1) w).2 false = some true := by
      intro k hk
      obtain ⟨k, rfl⟩ : ∃ m, k = m + 1 := ⟨k - 1, by omega⟩
      simp only [tumblerlaw06_WindowHolds.j3]
      rw [if_neg (by simp)]
      by_cases d : t / w = 9223372036854775807
      · rw [if_pos d]
      · rw [if_neg d, Math.wrap_in (by omega) (by omega), begin_f _ w c.1 c.2]
        simp
    simp only [tumblerlaw06_WindowHolds.j0]
    rw [if_neg (by simp), awake_f]
    simp only [Option.bind_some]
    rw [if_pos trivial]
    simp only [tumblerlaw06_WindowHolds.j1]
    rw [if_neg (by simp), begin_f _ w c.1 c.2, end_f _ w c.1 c.2 r.1 r.2]
    simp only [Option.bind_some]
    have hl := last 1 (by omega)
    have f1 : -9223372036854775808 ≤ t / w * w → bg (t / w) w = (t / w * w, 0) := fun h => by unfold bg; rw [if_pos (by omega)]
    have f2 : t / w * w < -9223372036854775808 → bg (t / w) w = (0, 60) := fun h => by unfold bg; rw [if_neg (by omega)]
    have f3 : t / w * w + w ≤ 9223372036854775807 → bg (t / w + 1) w = (t / w * w + w, 0) := fun h => by unfold bg; rw [e, if_pos (by omega)]
    have f4 : 9223372036854775807 < t / w * w + w → bg (t / w + 1) w = (0, 60) := fun h => by unfold bg; rw [e, if_neg (by omega)]
    by_cases p : -9223372036854775808 ≤ t / w * w
    · rw [f1 p]
      by_cases q : t / w * w + w ≤ 9223372036854775807
      · rw [f3 q] at hl ⊢
        simp only
        rw [if_pos trivial, if_neg (by omega), if_pos trivial, if_neg (by omega), Math.wrap_in (by omega) (by omega), show ((t / w * w + w - t / w * w != w) : Bool) = false by simp; omega]
        simp only [tumblerlaw06_WindowHolds.j2]
        rw [if_neg (by simp), if_pos trivial, if_pos trivial]
        exact hl
      · rw [f4 (by omega)] at hl ⊢
        simp only
        rw [if_pos trivial, if_neg (by omega), if_neg (by decide)]
        simp only [tumblerlaw06_WindowHolds.j2]
        rw [if_neg (by simp), if_pos trivial, if_neg (by decide), if_pos trivial, Math.wrap_in (by omega) (by omega), show decide (t < 9223372036854775807 - w) = false by simp; omega]
        exact hl
    · rw [f2 (by omega)]
      have q : t / w * w + w ≤ 9223372036854775807 := by omega
      rw [f3 q] at hl ⊢
      simp only
      rw [if_neg (by decide), if_pos trivial, if_neg (by omega)]
      simp only [tumblerlaw06_WindowHolds.j2]
      rw [if_neg (by simp), if_neg (by decide), if_pos trivial, Math.wrap_in (by omega) (by omega), if_neg (by omega), if_pos trivial]
      exact hl
  · rw [of_bad t w c]
    simp only [Option.bind_some]
    have h : tumblerlaw06_WindowHolds.j0 4 t w 0 61 true = some true := by simp [tumblerlaw06_WindowHolds.j0]
    by_cases d : w < 1
    · rw [if_pos d]; exact h
    · rw [if_neg d, show decide (w > 1048576) = true by simp; omega]; exact h

end Go.Proofs.Ytoakooebmnjkhaa.Pure
