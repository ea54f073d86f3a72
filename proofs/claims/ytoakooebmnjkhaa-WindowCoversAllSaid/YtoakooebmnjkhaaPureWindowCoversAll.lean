/- For every two seconds and width, WindowCoversAll answers true: Cover has the windows side by side, the first one has the first second, the last one the last. No conditions. -/
import Derived.Test.YtoakooebmnjkhaaLem
namespace Go.Proofs.Ytoakooebmnjkhaa.Pure
open Go.RowKit Go.Proofs.Ytoakooebmnjkhaa.Q Go.Proofs.YtoakooebmnjkhaaW.PrintWords Go.Proofs.YtoakooebmnjkhaaW.PrintLast

theorem all_loop (s t w : Int) (c1 : 1 ≤ w) (c2 : w ≤ 1048576) (s1 : -9223372036854775808 ≤ s) (s2 : s ≤ 9223372036854775807) (t1 : -9223372036854775808 ≤ t) (t2 : t ≤ 9223372036854775807) (hst : s < t)
    (m : Nat) (hm : (m : Int) = (t - 1) / w - s / w + 1) (hm2 : m ≤ 4096) (d : Nat) :
    ∀ (k : Nat) (i : Int), 1 ≤ i → i + d = m → d < k → tumblerlaw06_WindowCoversAll.l0 k s t w (iota m (s / w)) i = some true := by
  have r1 := Math.ediv_range s w c1 s1 s2
  have r2 := Math.ediv_range (t - 1) w c1 (by omega) (by omega)
  induction d with
  | zero =>
    intro k i h0 h1 hk
    obtain ⟨k, rfl⟩ : ∃ m, k = m + 1 := ⟨k - 1, by omega⟩
    simp only [tumblerlaw06_WindowCoversAll.l0]
    rw [iota_length, if_neg (by omega), of_f s w c1 c2 s1 s2, Math.wrap_in (a := t - 1) (by omega) (by omega), of_f (t - 1) w c1 c2 (by omega) (by omega)]
    simp only [Option.bind_some]
    rw [if_pos (by omega), rd_iota m _ 0 (by omega) (by omega), if_pos (by omega), Math.wrap_in (by omega) (by omega), if_pos (by omega), if_pos (by omega), rd_iota m _ _ (by omega) (by omega)]
    simp; omega
  | succ d ih =>
    intro k i h0 h1 hk
    obtain ⟨k, rfl⟩ : ∃ m, k = m + 1 := ⟨k - 1, by omega⟩
    simp only [tumblerlaw06_WindowCoversAll.l0]
    rw [iota_length, if_pos (by omega), Math.wrap_in (a := i - 1) (by omega) (by omega), if_pos (by omega), if_pos (by omega), rd_iota m _ (i - 1) (by omega) (by omega), if_neg (by omega), if_pos (by omega),
      rd_iota m _ i (by omega) (by omega), Math.wrap_in (a := s / w + (i - 1) + 1) (by omega) (by omega), if_pos (by omega), Math.wrap_in (by omega) (by omega), ih k (i + 1) (by omega) (by omega) (by omega)]

theorem WindowCoversAll : tumblerlaw06_WindowCoversAll.Pure := by
  intro s t w hs ht hw
  obtain ⟨s1, s2⟩ := Math.wf_i64 hs
  obtain ⟨t1, t2⟩ := Math.wf_i64 ht
  refine ⟨5000, ?_⟩
  unfold tumblerlaw06_WindowCoversAll.f
  rw [cover_f 5000 (by omega) s t w s1 s2 t1 t2, awake_f]
  simp only [Option.bind_some]
  rw [if_pos trivial]
  have none_ : tumblerlaw06_WindowCoversAll.j0 5000 s t w [] true = some true := by simp [tumblerlaw06_WindowCoversAll.j0]
  unfold cov
  by_cases c1 : ¬ (1 ≤ w ∧ w ≤ 1048576)
  · rw [if_pos c1]; simp only; rw [if_neg (by decide)]; exact none_
  rw [if_neg c1]
  have c1 : 1 ≤ w ∧ w ≤ 1048576 := Decidable.not_not.mp c1
  by_cases c2 : t ≤ s
  · rw [if_pos c2]; simp only; rw [if_pos trivial, show decide (t ≤ s) = true by simp [c2]]; exact none_
  rw [if_neg c2]
  by_cases c3 : (t - 1) / w - s / w ≥ 4096
  · rw [if_pos c3]; simp only; rw [if_neg (by decide)]; exact none_
  rw [if_neg c3]
  have m : s / w ≤ (t - 1) / w := Int.ediv_le_ediv (by omega) (by omega)
  simp only
  rw [if_pos trivial, show decide (t ≤ s) = false by simp; omega]
  simp only [tumblerlaw06_WindowCoversAll.j0]
  rw [if_neg (by simp), iota_length, if_neg (by omega), show decide ((((t - 1) / w - s / w + 1).toNat : Int) > 4096) = false by simp; omega]
  simp only [tumblerlaw06_WindowCoversAll.j1]
  rw [if_neg (by simp)]
  exact all_loop s t w c1.1 c1.2 s1 s2 t1 t2 (by omega) _ (by omega) (by omega) (((t - 1) / w - s / w + 1).toNat - 1) _ 1 (by omega) (by omega) (by omega)

end Go.Proofs.Ytoakooebmnjkhaa.Pure
