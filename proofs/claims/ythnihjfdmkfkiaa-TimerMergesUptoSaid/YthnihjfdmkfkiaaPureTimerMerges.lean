/- TimerMerges: for any two lists of numbers, with no more than 1048576 numbers in all, the program's merge of the two and the reference's merge give the same list; and the program's timer is alive (it takes the samples 5, 1, 4 and tells a count of 3, a sum of 10, a median of 4 and a deviation of 1). -/
import Derived.Test.YthnihjfdmkfkiaaGBTimerMerges
import Derived.Test.YthnihjfdmkfkiaaPA
namespace Go.Proofs.Ythnihjfdmkfkiaa.Pure
open Go.RowKit Go.Proofs.Ythnihjfdmkfkiaa.G Go.Proofs.YthnihjfdmkfkiaaW.PrintWords Go.Proofs.YthnihjfdmkfkiaaW.PrintLast Go.Proofs.YthnihjfdmkfkiaaW.PrintMore Go.Proofs.Ythnihjfdmkfkiaa.Q

theorem TimerMerges : BTimerMerges.PureU := by
  intro l0 l1 h _ _
  rw [ones_len, ones_len] at h
  refine ⟨2 * (l0.length + l1.length) + 2, ?_⟩
  have hl := mergeP_len l0 l1
  unfold tumblerlaw09_TimerMerges.f
  rw [tmerge_f (by omega) (Nat.le_refl _), Option.bind_some, rmerge_f (by omega) (Nat.le_refl _), Option.bind_some, same_f (by omega) (by omega), Option.bind_some, if_pos rfl, alive_true]
  rfl

end Go.Proofs.Ythnihjfdmkfkiaa.Pure
