/- TimerWithin: for any list of numbers, with no more than 1048575 of them: where the samples' statistics are told, the mean, the median and the deviation lie where they must, and the count and the sum are what they are; where they are refused, the error is the right one; and the program's timer is alive. -/
import Derived.Test.YthnihjfdmkfkiaaEBTimerWithin
namespace Go.Proofs.Ythnihjfdmkfkiaa.Pure
open Go.RowKit Go.Proofs.Ythnihjfdmkfkiaa.E Go.Proofs.YthnihjfdmkfkiaaW.PrintWords Go.Proofs.YthnihjfdmkfkiaaW.PrintLast Go.Proofs.YthnihjfdmkfkiaaW.PrintMore

theorem ones_len (l : List Int) : (l.map (fun _ => 1)).sum = l.length := by
  induction l with
  | nil => rfl
  | cons x t ih => simp only [List.map_cons, List.sum_cons, ih, List.length_cons]; omega
theorem TimerWithin : BTimerWithin.PureU := by
  intro l0 h _
  rw [ones_len] at h
  exact if_neg (by omega)

end Go.Proofs.Ythnihjfdmkfkiaa.Pure
