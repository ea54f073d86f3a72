/- TimerBins: for any samples and any bounds, with no more than 1048576 numbers in all, the program's Bins and the reference's Bins give the same counts and the same sign of refusal; and the program's timer is alive (it takes the samples 5, 1, 4 and tells a count of 3, a sum of 10, a median of 4 and a deviation of 1). -/
import Derived.Test.YthnihjfdmkfkiaaGBTimerBins
import Derived.Test.YthnihjfdmkfkiaaPB
namespace Go.Proofs.Ythnihjfdmkfkiaa.Pure
open Go.RowKit Go.Proofs.Ythnihjfdmkfkiaa.G Go.Proofs.YthnihjfdmkfkiaaW.PrintWords Go.Proofs.YthnihjfdmkfkiaaW.PrintLast Go.Proofs.YthnihjfdmkfkiaaW.PrintMore Go.Proofs.Ythnihjfdmkfkiaa.Q
set_option linter.unusedSimpArgs false

theorem lb_l0 (l : List Int) (hl : l.length ≤ 1048576 * 4) (n : Nat) : ∀ (k i : Nat), i ≤ l.length → l.length - i ≤ n → n + 1 ≤ k → tumblerlaw09_TimerBins.l0 k l l i = some true := by
  induction n with
  | zero =>
    intro k i hi h hk
    obtain ⟨k, rfl⟩ : ∃ m, k = m + 1 := ⟨k - 1, by omega⟩
    simp only [tumblerlaw09_TimerBins.l0]
    rw [if_neg (by omega), alive_true]
    rfl
  | succ n ih =>
    intro k i hi h hk
    obtain ⟨k, rfl⟩ : ∃ m, k = m + 1 := ⟨k - 1, by omega⟩
    by_cases c : i < l.length
    · simp only [tumblerlaw09_TimerBins.l0]
      rw [if_pos (by omega), if_pos (by omega), if_pos (by omega), if_pos trivial, ws (i := i) (by omega), ih k (i + 1) (by omega) (by omega) (by omega)]
    · simp only [tumblerlaw09_TimerBins.l0]
      rw [if_neg (by omega), alive_true]
      rfl
theorem bins_some {l bs : List Int} (hl : l.length ≤ 1048576) (hbl : bs.length ≤ 1048576) : ∃ a e, timer_Bins.f l bs = some (a, e) ∧ a.length ≤ bs.length + 1 := by
  unfold timer_Bins.f
  rw [if_neg (by omega), if_neg (by omega)]
  by_cases a : l.all smpB = true
  · rw [if_pos a]
    by_cases c : riseB bs
    · rw [if_pos c]
      exact ⟨_, _, rfl, by rw [counts_len]; omega⟩
    · rw [if_neg c]
      exact ⟨_, _, rfl, by simp⟩
  · rw [if_neg a]
    exact ⟨_, _, rfl, by simp⟩
theorem TimerBins : BTimerBins.PureU := by
  intro l0 l1 h _ _
  rw [ones_len, ones_len] at h
  refine ⟨60000000 + 1, ?_⟩
  obtain ⟨a, e, hb, ha⟩ := bins_some (l := l0) (bs := l1) (by omega) (by omega)
  unfold tumblerlaw09_TimerBins.f
  rw [rbins_f (by omega) (by omega) (by omega), hb, Option.bind_some, Option.bind_some, if_pos rfl]
  simp only [tumblerlaw09_TimerBins.j0]
  rw [if_neg (by simp)]
  exact lb_l0 a (by omega) a.length 60000000 0 (Nat.zero_le _) (by omega) (by omega)

end Go.Proofs.Ythnihjfdmkfkiaa.Pure
