/- For every two seconds and width, WindowCovers answers true: Cover answers as the reference does. No conditions. -/
import Derived.Test.YtoakooebmnjkhaaLem
namespace Go.Proofs.Ytoakooebmnjkhaa.Pure
open Go.RowKit Go.Proofs.Ytoakooebmnjkhaa.Q Go.Proofs.YtoakooebmnjkhaaW.PrintWords Go.Proofs.YtoakooebmnjkhaaW.PrintLast

theorem WindowCovers : tumblerlaw06_WindowCovers.Pure := by
  intro s t w hs ht hw
  obtain ⟨s1, s2⟩ := Math.wf_i64 hs
  obtain ⟨t1, t2⟩ := Math.wf_i64 ht
  refine ⟨5000, ?_⟩
  unfold tumblerlaw06_WindowCovers.f
  rw [cover_f 5000 (by omega) s t w s1 s2 t1 t2, rcover_f 5000 (by omega) s t w s1 s2 t1 t2, cover_f 5000 (by omega) 5 21 10 (by omega) (by omega) (by omega) (by omega)]
  have hl := cov_length s t w
  simp only [Option.bind_some]
  rw [same_f _ (by omega) 5000 (by omega)]
  simp only [Option.bind_some]
  rw [if_pos trivial, if_pos trivial, show cov 5 21 10 = ([0, 1, 2], 0) from by decide +kernel, same_f _ (by decide) 5000 (by decide)]
  simp

end Go.Proofs.Ytoakooebmnjkhaa.Pure
