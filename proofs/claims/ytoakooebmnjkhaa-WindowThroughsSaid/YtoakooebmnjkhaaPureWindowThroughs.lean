/- For every mark and width, WindowThroughs answers true: Through answers as the reference does. No conditions. -/
import Derived.Test.YtoakooebmnjkhaaMath
import Derived.Test.YtoakooebmnjkhaaPWindowThroughsx1
namespace Go.Proofs.Ytoakooebmnjkhaa.Pure
open Go.RowKit Go.Proofs.Ytoakooebmnjkhaa.PWindowThroughs Go.Proofs.YtoakooebmnjkhaaW.PrintWords Go.Proofs.YtoakooebmnjkhaaW.PrintLast

theorem both (t w : Int) : window_Through.f t w = tumblerref06_Through.f t w := by
  unfold window_Through.f tumblerref06_Through.f tumblerref06_Of.f window_wrong.f tumblerref06_bad.f window_floor.f
  by_cases c1 : w < 1
  · simp [c1]
  by_cases c2 : w > 1048576
  · simp [c1, c2]
  have c3 : ¬ w = 0 := by omega
  by_cases c4 : Int.tmod t w < 0
  · simp [c1, c2, c3, c4]
  · simp [c1, c2, c3, c4]

theorem some_f (t w : Int) : ∃ r, window_Through.f t w = some r := by
  unfold window_Through.f window_wrong.f window_floor.f
  by_cases c1 : w < 1
  · simp [c1]
  by_cases c2 : w > 1048576
  · simp [c1, c2]
  have c3 : ¬ w = 0 := by omega
  by_cases c4 : Int.tmod t w < 0
  · simp only [if_neg c1, if_neg c3, if_pos c4, Option.bind_some, decide_eq_true_eq, if_neg c2]
    split <;> exact ⟨_, rfl⟩
  · simp only [if_neg c1, if_neg c3, if_neg c4, Option.bind_some, decide_eq_true_eq, if_neg c2]
    split <;> exact ⟨_, rfl⟩

theorem at30 : window_Through.f 30 10 = some (2, 0) := by
  decide +kernel

theorem WindowThroughs : tumblerlaw06_WindowThroughs.Pure := by
  intro t w _ _
  unfold tumblerlaw06_WindowThroughs.f
  obtain ⟨r, hr⟩ := some_f t w
  rw [at30, ← both, hr]
  simp

end Go.Proofs.Ytoakooebmnjkhaa.Pure
