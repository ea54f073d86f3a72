/- TimerOwn: for any two lists of numbers, with no more than 1048576 numbers in all: the program's Merge, Of, Upto and Bins leave the lists that they were given as they were; what Merge gave is the reference's merge, and writing into what Merge gave and appending to it changes neither list and no later merge; and the program's timer is alive (it takes the samples 5, 1, 4 and tells a count of 3, a sum of 10, a median of 4 and a deviation of 1). -/
import Derived.Test.YthnihjfdmkfkiaaGBTimerOwn
import Derived.Test.YthnihjfdmkfkiaaPU
namespace Go.Proofs.Ythnihjfdmkfkiaa.Pure
open Go.RowKit Go.Proofs.Ythnihjfdmkfkiaa.G Go.Proofs.YthnihjfdmkfkiaaW.PrintWords Go.Proofs.YthnihjfdmkfkiaaW.PrintLast Go.Proofs.YthnihjfdmkfkiaaW.PrintMore Go.Proofs.Ythnihjfdmkfkiaa.Q
set_option linter.unusedSimpArgs false

theorem own_l0 {x0 x1 : List Int} (hl : x0.length + x1.length ≤ 1048576) (n : Nat) : ∀ (k i : Nat) (x7 : List Int), x7.length = x0.length + x1.length → i ≤ x7.length → x7.length - i ≤ n → n + 3000000 ≤ k →
    tumblerlaw09_TimerOwn.l0 k x0 x1 x0 x1 x7 i = some true := by
  have fin : ∀ (k i : Nat) (x7 : List Int), x7.length = x0.length + x1.length → ¬ i < x7.length → 2999999 ≤ k → tumblerlaw09_TimerOwn.l0 (k + 1) x0 x1 x0 x1 x7 i = some true := by
    intro k i x7 h7 hi hk
    have hm := mergeP_len x0 x1
    simp only [tumblerlaw09_TimerOwn.l0]
    rw [if_neg (by omega), if_pos (by omega), same_f (by omega) (by omega), Option.bind_some, if_pos rfl, same_f (by omega) (by omega), Option.bind_some, if_pos rfl, tmerge_f (by omega) (by omega), Option.bind_some, rmerge_f (by omega) (by omega), Option.bind_some, same_f (by omega) (by omega), Option.bind_some, if_pos rfl, alive_true]
    have e : wrap64 (wrap64 ((x0.length : Int) + (x1.length : Int)) + 1) = (x0.length : Int) + (x1.length : Int) + 1 := by
      rw [w64 (n := (x0.length : Int) + (x1.length : Int)) (by omega) (by omega), w64 (by omega) (by omega)]
    rw [e, if_pos (by simp only [List.length_append, List.length_cons, List.length_nil]; omega)]
    rfl
  induction n with
  | zero =>
    intro k i x7 h7 hi h hk
    obtain ⟨k, rfl⟩ : ∃ m, k = m + 1 := ⟨k - 1, by omega⟩
    exact fin k i x7 h7 (by omega) (by omega)
  | succ n ih =>
    intro k i x7 h7 hi h hk
    obtain ⟨k, rfl⟩ : ∃ m, k = m + 1 := ⟨k - 1, by omega⟩
    by_cases c : i < x7.length
    · simp only [tumblerlaw09_TimerOwn.l0]
      rw [if_pos (by omega), if_pos (by omega), ws (i := i) (by omega)]
      exact ih k (i + 1) _ (by rw [List.length_set]; exact h7) (by rw [List.length_set]; omega) (by rw [List.length_set]; omega) (by omega)
    · exact fin k i x7 h7 c (by omega)
theorem TimerOwn : BTimerOwn.PureU := by
  intro l0 l1 h _ _
  rw [ones_len, ones_len] at h
  refine ⟨6000000 + 1, ?_⟩
  have hm := mergeP_len l0 l1
  obtain ⟨ro, hro⟩ := of_ex (l := l0) (by omega)
  obtain ⟨ru, hru⟩ := upto_ex (l := l0) (by omega) 50000000 (by omega) (k := 6000000 + 1) (by omega)
  obtain ⟨rb, hrb⟩ := bins_ex (l := l0) (bs := l1) (by omega) (by omega)
  unfold tumblerlaw09_TimerOwn.f
  rw [List.nil_append, List.nil_append, if_pos (by simp; omega), Option.bind_some, if_pos (by simp; omega), Option.bind_some, tmerge_f (by omega) (by omega), Option.bind_some, hro, Option.bind_some, hru, Option.bind_some, hrb, Option.bind_some, same_f (by omega) (by omega), Option.bind_some, if_pos rfl,
    same_f (by omega) (by omega), Option.bind_some, if_pos rfl, rmerge_f (by omega) (by omega), Option.bind_some, same_f (by omega) (by omega), Option.bind_some]
  simp only [tumblerlaw09_TimerOwn.j0]
  rw [if_neg (by simp)]
  exact own_l0 (by omega) (l0.length + l1.length) 6000000 0 _ (by omega) (by omega) (by omega) (by omega)

end Go.Proofs.Ythnihjfdmkfkiaa.Pure
