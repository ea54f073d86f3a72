/- TimerTells: for any list of numbers, with no more than 1048575 of them, what the program tells of the samples (or its error) is what the reference tells; and the program's timer is alive. -/
import Derived.Test.YthnihjfdmkfkiaaTBTimerTells
namespace Go.Proofs.Ythnihjfdmkfkiaa.Pure
open Go.RowKit Go.Proofs.Ythnihjfdmkfkiaa.T Go.Proofs.YthnihjfdmkfkiaaW.PrintWords Go.Proofs.YthnihjfdmkfkiaaW.PrintLast Go.Proofs.YthnihjfdmkfkiaaW.PrintMore

theorem ones_len (l : List Int) : (l.map (fun _ => 1)).sum = l.length := by
  induction l with
  | nil => rfl
  | cons x t ih => simp only [List.map_cons, List.sum_cons, ih, List.length_cons]; omega
theorem of_ex {l : List Int} (hl : l.length ≤ 1048576) : ∃ r, timer_Of.f l = some r := by
  unfold timer_Of.f
  rw [if_neg (by omega)]
  by_cases e : l.all smpB = true
  · rw [if_pos e]
    by_cases d : l = []
    · rw [if_pos d]; exact ⟨_, rfl⟩
    · rw [if_neg d]; exact ⟨_, rfl⟩
  · rw [if_neg e]; exact ⟨_, rfl⟩
theorem TimerTells : BTimerTells.PureU := by
  intro l0 h _
  rw [ones_len] at h
  obtain ⟨r, e⟩ := of_ex (l := l0) (by omega)
  have e2 : tumblerref09_Of.f l0 = some r := e
  have ha : tumblerlaw09_alive.f = some true := rfl
  unfold tumblerlaw09_TimerTells.f
  rw [e, e2]
  simp [ha]

end Go.Proofs.Ythnihjfdmkfkiaa.Pure
