/- TimerShuffles: for any samples, any cut, any share and any bounds, with no more than 1048576 of them in all: the samples laid anew (those behind the cut turned round, then those ahead of it) have the same statistics, the same share and the same bins as the samples; where the bins are not refused they count as many as there are samples; and the program's timer is alive (it takes the samples 5, 1, 4 and tells a count of 3, a sum of 10, a median of 4 and a deviation of 1). -/
import Derived.Test.YthnihjfdmkfkiaaHBTimerShuffles
import Derived.Test.YthnihjfdmkfkiaaPS
namespace Go.Proofs.Ythnihjfdmkfkiaa.Pure
open Go.RowKit Go.Proofs.Ythnihjfdmkfkiaa.H Go.Proofs.YthnihjfdmkfkiaaW.PrintWords Go.Proofs.YthnihjfdmkfkiaaW.PrintLast Go.Proofs.YthnihjfdmkfkiaaW.PrintMore Go.Proofs.Ythnihjfdmkfkiaa.Q
set_option linter.unusedSimpArgs false

theorem TimerShuffles : BTimerShuffles.PureU := by
  intro l0 a1 a2 l3 h _ _ _ _
  rw [ones_len, ones_len] at h
  refine ⟨6000002 + 1, ?_⟩
  have key : ∀ cut : Nat, cut ≤ l0.length → tumblerlaw09_TimerShuffles.j1 (6000001 + 1) l0 (cut : Int) a2 l3 = some true := by
    intro cut hc
    have e : wrap64 ((l0.length : Int) - 1) = (l0.length : Int) - 1 := by unfold wrap64; omega
    simp only [tumblerlaw09_TimerShuffles.j1]
    rw [e]
    exact sh_l0 (by omega) cut hc (l0.length - cut) _ l0.length [] (Nat.le_refl _) hc (Nat.le_refl _) (by rw [List.take_length, List.nil_append]) (by omega)
  have half : wrap64 ((l0.length : Int) / 2) = ((l0.length / 2 : Nat) : Int) := by rw [w64 (by omega) (by omega)]; omega
  have c1 := key (l0.length / 2) (by omega)
  rw [← half] at c1
  have tr : ∀ b : Bool, (b = true ∨ (0 ≤ a1 ∧ a1 ≤ (l0.length : Int))) → tumblerlaw09_TimerShuffles.j0 (6000002 + 1) l0 a1 a2 l3 b = some true := by
    intro b hb
    simp only [tumblerlaw09_TimerShuffles.j0]
    by_cases q : b = true
    · rw [if_pos q]
      exact c1
    · rw [if_neg q]
      have hb2 := hb.resolve_left q
      have c2 := key a1.toNat (by omega)
      rwa [show ((a1.toNat : Nat) : Int) = a1 by omega] at c2
  unfold tumblerlaw09_TimerShuffles.f
  by_cases c : a1 < 0
  · rw [if_pos c]
    exact tr true (.inl rfl)
  · rw [if_neg c]
    refine tr _ ?_
    by_cases d : a1 > (l0.length : Int)
    · exact .inl (decide_eq_true d)
    · exact .inr ⟨by omega, by omega⟩

end Go.Proofs.Ythnihjfdmkfkiaa.Pure
