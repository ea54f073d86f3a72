import Derived.Test.YtadmigijbfdboaaMC
namespace Go.Proofs.Ytadmigijbfdboaa.Q
open Go.RowKit Go.Proofs.YtadmigijbfdboaaW.PrintWords Go.Proofs.YtadmigijbfdboaaW.PrintLast Go.Proofs.YtadmigijbfdboaaW.PrintMore Go.Proofs.YtadmigijbfdboaaV
set_option linter.unusedVariables false
set_option linter.unusedSimpArgs false

def lastP (s : Stt) : Int := if s.any then s.last else -1
/-- What always holds of a rule that was made. -/
structure RInv (r : Rul) (s : Stt) : Prop where
  state : 1 ≤ s.state ∧ s.state ≤ 4
  said : 1 ≤ s.said ∧ s.said ≤ 4
  points : 0 ≤ s.points ∧ s.points ≤ r.for_
  gaps : 0 ≤ s.gaps ∧ s.gaps ≤ lastP s + 1
  saidAt : inT s.saidAt
  last : s.any = true → inT s.last
theorem lastP_le {r : Rul} {s : Stt} (h : RInv r s) : -1 ≤ lastP s ∧ lastP s ≤ 1099511627775 := by
  unfold lastP
  split
  · rename_i q
    have := h.last q
    unfold inT at this
    omega
  · omega
theorem RInv.ok {r : Rul} {s : Stt} (h : RInv r s) (ok : RulOk r) : SttOk s := by
  have h1 := h.points
  have h2 := h.gaps
  have h3 := lastP_le h
  have h4 := ok.for_
  exact ⟨by omega, by omega, h.saidAt⟩
theorem level_rng (r : Rul) (v ws cs : Int) : levelP r v ws cs = 1 ∨ levelP r v ws cs = 2 ∨ levelP r v ws cs = 3 := by
  unfold levelP
  split
  · exact .inr (.inr rfl)
  · split
    · exact .inr (.inl rfl)
    · exact .inl rfl
theorem come_eq (r : Rul) (s : Stt) (n : Int) : (comeP r s n).said = s.said ∧ (comeP r s n).saidAt = s.saidAt ∧ (comeP r s n).gaps = s.gaps ∧ (comeP r s n).last = s.last ∧ (comeP r s n).any = s.any ∧ (comeP r s n).muted = s.muted ∧ ((comeP r s n).state = n ∨ (comeP r s n).state = s.state) := by
  unfold comeP
  split
  · exact ⟨rfl, rfl, rfl, rfl, rfl, rfl, .inr rfl⟩
  · split
    · exact ⟨rfl, rfl, rfl, rfl, rfl, rfl, .inl rfl⟩
    · split
      · unfold moreS; split <;> exact ⟨rfl, rfl, rfl, rfl, rfl, rfl, .inl rfl⟩
      · unfold moreS; split <;> exact ⟨rfl, rfl, rfl, rfl, rfl, rfl, .inr rfl⟩
theorem come_points (r : Rul) (s : Stt) (n : Int) (h : 0 ≤ s.points ∧ s.points ≤ r.for_) (hf : 1 ≤ r.for_) : 0 ≤ (comeP r s n).points ∧ (comeP r s n).points ≤ r.for_ := by
  unfold comeP
  split
  · exact ⟨Int.le_refl _, by show (0:Int) ≤ _; omega⟩
  · split
    · exact ⟨Int.le_refl _, by show (0:Int) ≤ _; omega⟩
    · split
      · exact ⟨Int.le_refl _, by show (0:Int) ≤ _; omega⟩
      · rename_i q
        refine ⟨?_, by omega⟩
        unfold moreS
        split
        · show 0 ≤ s.points + 1; omega
        · show (0:Int) ≤ 1; omega
theorem step_eq (r : Rul) (s : Stt) (at_ : Int) (is : Bool) (val : Int) : (stepP r s at_ is val).said = s.said ∧ (stepP r s at_ is val).saidAt = s.saidAt ∧ (stepP r s at_ is val).last = at_ ∧ (stepP r s at_ is val).any = true ∧ (stepP r s at_ is val).muted = s.muted := by
  unfold stepP
  split
  · obtain ⟨h1, h2, -, h3, h4, h5, -⟩ := come_eq r { s with any := true, last := at_, gaps := 0 } (levelP r val (wsP r s.state) (csP r s.state))
    exact ⟨h1, h2, h3, h4, h5⟩
  · split <;> exact ⟨rfl, rfl, rfl, rfl, rfl⟩
theorem RInv.step {r : Rul} {s : Stt} (h : RInv r s) (ok : RulOk r) {at_ : Int} (ht : inT at_) (hp : lastP s < at_) (is : Bool) (val : Int) : RInv r (stepP r s at_ is val) := by
  obtain ⟨e1, e2, e3, e4, e5⟩ := step_eq r s at_ is val
  have hl : lastP (stepP r s at_ is val) = at_ := by unfold lastP; rw [e3, e4]; rfl
  have hf := ok.for_
  have hst := h.state
  have hg := h.gaps
  have hpt := h.points
  have ht' := ht
  unfold inT at ht'
  refine ⟨?_, by rw [e1]; exact h.said, ?_, ?_, by rw [e2]; exact h.saidAt, fun _ => by rw [e3]; exact ht⟩
  · unfold stepP
    split
    · have hr := level_rng r val (wsP r s.state) (csP r s.state)
      obtain ⟨-, -, -, -, -, -, q⟩ := come_eq r { s with any := true, last := at_, gaps := 0 } (levelP r val (wsP r s.state) (csP r s.state))
      rcases q with q | q
      · rw [q]; omega
      · rw [q]; exact hst
    · split
      · show (1:Int) ≤ 4 ∧ (4:Int) ≤ 4; omega
      · exact hst
  · unfold stepP
    split
    · exact come_points r _ _ hpt hf.1
    · split
      · show (0:Int) ≤ 0 ∧ (0:Int) ≤ r.for_; omega
      · show (0:Int) ≤ 0 ∧ (0:Int) ≤ r.for_; omega
  · rw [hl]
    unfold stepP
    split
    · obtain ⟨-, -, q, -⟩ := come_eq r { s with any := true, last := at_, gaps := 0 } (levelP r val (wsP r s.state) (csP r s.state))
      rw [q]
      show (0:Int) ≤ 0 ∧ (0:Int) ≤ at_ + 1
      omega
    · split
      · show 0 ≤ s.gaps + 1 ∧ s.gaps + 1 ≤ at_ + 1; omega
      · show 0 ≤ s.gaps + 1 ∧ s.gaps + 1 ≤ at_ + 1; omega
theorem RInv.sayd {r : Rul} {s : Stt} (h : RInv r s) {at_ : Int} (ht : inT at_) : RInv r (saidP r s at_) := by
  unfold saidP
  split
  · exact h
  · exact ⟨h.state, h.state, h.points, h.gaps, ht, h.last⟩
theorem RInv.mute {r : Rul} {s : Stt} (h : RInv r s) (t : Int) : RInv r { s with muted := t } := ⟨h.state, h.said, h.points, h.gaps, h.saidAt, h.last⟩
end Go.Proofs.Ytadmigijbfdboaa.Q
