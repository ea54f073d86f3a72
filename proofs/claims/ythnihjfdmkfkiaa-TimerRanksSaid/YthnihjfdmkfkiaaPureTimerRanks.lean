import Derived.Test.YthnihjfdmkfkiaaRx1
namespace Go.Proofs.Ythnihjfdmkfkiaa.Pure
open Go.RowKit Go.Proofs.Ythnihjfdmkfkiaa.R Go.Proofs.YthnihjfdmkfkiaaW.PrintWords Go.Proofs.YthnihjfdmkfkiaaW.PrintLast

/-- Every rank: the program's and the document's are one. -/
theorem TimerRanks : tumblerlaw09_TimerRanks.Pure := by
  intro a0 a1 w0 w1
  have h : -9223372036854775808 ≤ a0 ∧ a0 ≤ 9223372036854775807 := by
    have h2 := w0
    simp [Lit.wf, IntKind.min, IntKind.max, IntKind.signed, IntKind.bits] at h2
    omega
  have e : timer_Rank.f a0 a1 = tumblerref09_Rank.f a0 a1 := rfl
  have e2 : ∃ r, tumblerref09_Rank.f a0 a1 = some r := ⟨_, by unfold tumblerref09_Rank.f; rw [if_pos h]⟩
  obtain ⟨r, e2⟩ := e2
  unfold tumblerlaw09_TimerRanks.f
  rw [e, e2]
  simp [tumblerlaw09_alive.f]

end Go.Proofs.Ythnihjfdmkfkiaa.Pure
