/- TimerHalves: for any list of numbers and any percent, with no more than 1048574 numbers: the rank's lowest samples and the others together are all, the edge is the rank's sample, and where a share is refused, it is refused rightly; and the program's timer is alive. -/
import Derived.Test.YthnihjfdmkfkiaaYBTimerHalves
namespace Go.Proofs.Ythnihjfdmkfkiaa.Pure
open Go.RowKit Go.Proofs.Ythnihjfdmkfkiaa.Y Go.Proofs.YthnihjfdmkfkiaaW.PrintWords Go.Proofs.YthnihjfdmkfkiaaW.PrintLast Go.Proofs.YthnihjfdmkfkiaaW.PrintMore

theorem ones_len (l : List Int) : (l.map (fun _ => 1)).sum = l.length := by
  induction l with
  | nil => rfl
  | cons x t ih => simp only [List.map_cons, List.sum_cons, ih, List.length_cons]; omega
theorem TimerHalves : BTimerHalves.PureU := by
  intro l0 a1 h _ _
  rw [ones_len] at h
  exact if_neg (by omega)

end Go.Proofs.Ythnihjfdmkfkiaa.Pure
