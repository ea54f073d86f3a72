/- For every mark and width, WindowMarks answers true: what a mark closes has ended by it, what is next has not. No conditions. -/
import Derived.Test.YtoakooebmnjkhaaLem
namespace Go.Proofs.Ytoakooebmnjkhaa.Pure
open Go.RowKit Go.Proofs.Ytoakooebmnjkhaa.Q Go.Proofs.YtoakooebmnjkhaaW.PrintWords Go.Proofs.YtoakooebmnjkhaaW.PrintLast

theorem WindowMarks : tumblerlaw06_WindowMarks.Pure := by
  intro t w ht hw
  obtain ⟨t1, t2⟩ := Math.wf_i64 ht
  refine ⟨1, ?_⟩
  unfold tumblerlaw06_WindowMarks.f
  rw [awake_f]
  simp only [Option.bind_some]
  rw [if_pos trivial]
  by_cases c : 1 ≤ w ∧ w ≤ 1048576
  · rw [if_neg (by omega), show decide (w > 1048576) = false by simp; omega]
    simp only [tumblerlaw06_WindowMarks.j0]
    rw [if_neg (by simp), through_f t w c.1 c.2 t1 t2]
    simp only [Option.bind_some]
    have r := Math.ediv_range t w c.1 t1 t2
    have b := Math.ediv_bounds t w c.1
    have e : (t / w + 1) * w = t / w * w + w := by rw [Int.add_mul, Int.one_mul]
    rw [Int.mul_comm] at b
    by_cases d : t / w = -9223372036854775808
    · rw [if_pos d]
      simp only
      rw [if_neg (by decide), if_pos trivial]
      have w1 : w = 1 := by
        rw [d] at b
        by_cases g : w = 1
        · exact g
        · omega
      rw [if_pos w1]
      subst w1
      simp; omega
    · rw [if_neg d]
      simp only
      rw [if_pos trivial, end_f _ w c.1 c.2 (by omega) (by omega), Math.wrap_in (a := t / w - 1 + 1) (by omega) (by omega), show t / w - 1 + 1 = t / w by omega, end_f _ w c.1 c.2 r.1 r.2]
      simp only [Option.bind_some]
      have f1 : -9223372036854775808 ≤ t / w * w → bg (t / w) w = (t / w * w, 0) := fun h => by unfold bg; rw [if_pos (by omega)]
      have f2 : t / w * w < -9223372036854775808 → bg (t / w) w = (0, 60) := fun h => by unfold bg; rw [if_neg (by omega)]
      have f3 : t / w * w + w ≤ 9223372036854775807 → bg (t / w + 1) w = (t / w * w + w, 0) := fun h => by unfold bg; rw [e, if_pos (by omega)]
      have f4 : 9223372036854775807 < t / w * w + w → bg (t / w + 1) w = (0, 60) := fun h => by unfold bg; rw [e, if_neg (by omega)]
      by_cases p : -9223372036854775808 ≤ t / w * w
      · rw [f1 p]
        by_cases q : t / w * w + w ≤ 9223372036854775807
        · rw [f3 q]
          simp only
          rw [if_pos trivial, if_pos (by omega), if_pos trivial, if_pos (by omega)]
        · rw [f4 (by omega)]
          simp only
          rw [if_pos trivial, if_pos (by omega), if_neg (by decide), if_pos trivial, Math.wrap_in (by omega) (by omega), if_pos (by omega)]
      · rw [f2 (by omega)]
        simp only
        rw [if_neg (by decide), if_pos trivial, Math.wrap_in (a := 2 * w) (by omega) (by omega), Math.wrap_in (by omega) (by omega)]
        simp; omega
  · have h : tumblerlaw06_WindowMarks.j0 1 t w true = some true := by simp [tumblerlaw06_WindowMarks.j0]
    by_cases d : w < 1
    · rw [if_pos d]; exact h
    · rw [if_neg d, show decide (w > 1048576) = true by simp; omega]; exact h

end Go.Proofs.Ytoakooebmnjkhaa.Pure
