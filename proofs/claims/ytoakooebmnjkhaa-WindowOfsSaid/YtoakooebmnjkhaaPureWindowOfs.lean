/- For every number and width, WindowOfs answers true: Of, Begin and End answer as the reference does. No conditions. -/
import Derived.Test.YtoakooebmnjkhaaLem
namespace Go.Proofs.Ytoakooebmnjkhaa.Pure
open Go.RowKit Go.Proofs.Ytoakooebmnjkhaa.Q Go.Proofs.YtoakooebmnjkhaaW.PrintWords Go.Proofs.YtoakooebmnjkhaaW.PrintLast

theorem WindowOfs : tumblerlaw06_WindowOfs.Pure := by
  intro t w ht hw
  obtain ⟨t1, t2⟩ := Math.wf_i64 ht
  unfold tumblerlaw06_WindowOfs.f
  rw [awake_f]
  by_cases c : 1 ≤ w ∧ w ≤ 1048576
  · rw [of_f t w c.1 c.2 t1 t2, rof_f t w c.1 c.2 t1 t2, begin_f t w c.1 c.2, rbegin_f t w c.1 c.2, end_f t w c.1 c.2 t1 t2, rend_f t w c.1 c.2 t1 t2]
    simp
  · rw [of_bad t w c, rof_bad t w c]
    unfold window_Begin.f tumblerref06_Begin.f window_End.f tumblerref06_End.f
    rw [wrong_yes c, bad_yes c, if_neg c]
    simp

end Go.Proofs.Ytoakooebmnjkhaa.Pure
