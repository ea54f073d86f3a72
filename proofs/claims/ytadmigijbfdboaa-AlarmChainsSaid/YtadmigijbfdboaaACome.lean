import Derived.Test.YtadmigijbfdboaaALevel
namespace Go.Proofs.Ytadmigijbfdboaa.Q
open Go.RowKit Go.Proofs.YtadmigijbfdboaaW.PrintWords Go.Proofs.YtadmigijbfdboaaW.PrintLast Go.Proofs.YtadmigijbfdboaaW.PrintMore Go.Proofs.YtadmigijbfdboaaV
set_option linter.unusedVariables false
set_option linter.unusedSimpArgs false

/-- Another level. -/
def moreS (s : Stt) (n : Int) : Stt := { (if s.next = n then s else { s with next := n, points := 0 }) with points := (if s.next = n then s.points else 0) + 1 }
def comeP (r : Rul) (s : Stt) (n : Int) : Stt :=
  if n = s.state then { s with next := 0, points := 0 }
  else if s.state = 4 ∨ n < s.state then enterS s n
  else if r.for_ ≤ (moreS s n).points then enterS (moreS s n) n else moreS s n
/-- A rule as it stands, with what its next value does. -/
def RuleS (w : World) (g : Nat) (r : Rul) (s : Stt) : Prop := RuleAt w g r s (respV g s.state)
theorem moreS_state (s : Stt) (n : Int) : (moreS s n).state = s.state := by unfold moreS; split <;> rfl

set_option maxHeartbeats 3200000 in
theorem rule_come (w : World) (g : Nat) (r : Rul) (s : Stt) (h : RuleS w g r s) (n : Int) (hp : 0 ≤ s.points ∧ s.points ≤ 1000000) :
    Calls Try.prog 52 #[.pointer (some ⟨g, 0, none⟩), .int .i64 n] w fun e w' => e = .returned (.tuple #[]) ∧ RuleS w' g r (comeP r s n) ∧ Keep w w' (fun k => k = g) := by
  have hR : w.heap[g]? = some (.cells (ruleCells r s (respV g s.state)) 76 (0, 0)) := h
  have cs : w.cell? ⟨g, 11, none⟩ = some (.int .i64 s.state) := blk_cell hR 11
  have cn : w.cell? ⟨g, 14, none⟩ = some (.int .i64 s.next) := blk_cell hR 14
  have cp : w.cell? ⟨g, 15, none⟩ = some (.int .i64 s.points) := blk_cell hR 15
  have fn := blk_frozen hR 14
  have fp := blk_frozen hR 15
  unfold ruleCells at hR
  by_cases h1 : n = s.state
  · have e1 : (n == s.state) = true := beq_iff_eq.mpr h1
    have h2 := blk_put hR 14 (.int .i64 0) rfl
    have c2 := blk_cell h2 15
    have f2 := blk_frozen h2 15
    have H3 := Aside0.mk (blk_put h2 15 (.int .i64 0) rfl)
    have HK := Aside0.mk (((Keep.refl w (fun k => k = g)).set ⟨g, 14, none⟩ (.int .i64 0) (.inl rfl)).set ⟨g, 15, none⟩ (.int .i64 0) (.inl rfl))
    have HC := Aside0.mk (show comeP r s n = { s with next := 0, points := 0 } from if_pos h1)
    clear h hR h2 h1 hp
    go_enter Try.func52, Try.ntmps52
    go_wp2
    go_end0
    rw [HC.out]
    exact ⟨rfl, H3.out, HK.out⟩
  · have e1 : (n == s.state) = false := beq_eq_false_iff_ne.mpr h1
    by_cases h4 : s.state = 4 ∨ n < s.state
    · have HC := Aside0.mk (show comeP r s n = enterS s n by unfold comeP; rw [if_neg h1, if_pos h4])
      have HE := Aside0.mk (rule_enter w g r s _ h n)
      have e4 : (s.state == 4) = true ∨ ((s.state == 4) = false ∧ decide (n < s.state) = true) := by
        by_cases q : s.state = 4
        · exact .inl (beq_iff_eq.mpr q)
        · exact .inr ⟨beq_eq_false_iff_ne.mpr q, decide_eq_true (by omega)⟩
      clear h hR h1 hp h4 cn cp fn fp
      rcases e4 with e4 | ⟨e4, e5⟩
      all_goals
        go_enter Try.func52, Try.ntmps52
        go_wp2_with (first
          | (go_at_call 26; (with_reducible refine (HE.out).mono ?_); rintro e w1 ⟨rfl, h5, hk⟩; have H5 := Aside0.mk h5; have HK := Aside0.mk hk; clear h5 hk))
        go_end0
        rw [HC.out]
        exact ⟨rfl, H5.out, HK.out⟩
    · have e4 : (s.state == 4) = false := beq_eq_false_iff_ne.mpr (fun e => h4 (.inl e))
      have e5 : decide (n < s.state) = false := decide_eq_false (fun e => h4 (.inr e))
      have HC := Aside0.mk (show comeP r s n = if r.for_ ≤ (moreS s n).points then enterS (moreS s n) n else moreS s n by unfold comeP; rw [if_neg h1, if_neg h4])
      -- the world behind the count
      obtain ⟨W, hW⟩ : ∃ W, W = (if s.next = n then w else (w.setCell ⟨g, 14, none⟩ (.int .i64 n)).setCell ⟨g, 15, none⟩ (.int .i64 0)).setCell ⟨g, 15, none⟩ (.int .i64 (moreS s n).points) := ⟨_, rfl⟩
      have hWR : RuleAt W g r (moreS s n) (respV g s.state) ∧ Keep w W (fun k => k = g) := by
        rw [hW]
        unfold moreS
        by_cases hq : s.next = n
        · simp only [if_pos hq]
          exact ⟨blk_put hR 15 (.int .i64 (s.points + 1)) rfl, (Keep.refl w (fun k => k = g)).set ⟨g, 15, none⟩ _ (.inl rfl)⟩
        · simp only [if_neg hq]
          exact ⟨blk_put (blk_put (blk_put hR 14 (.int .i64 n) rfl) 15 (.int .i64 0) rfl) 15 (.int .i64 (0 + 1)) rfl, (((Keep.refl w (fun k => k = g)).set ⟨g, 14, none⟩ _ (.inl rfl)).set ⟨g, 15, none⟩ _ (.inl rfl)).set ⟨g, 15, none⟩ _ (.inl rfl)⟩
      have q1 : W.cell? ⟨g, 15, none⟩ = some (.int .i64 (moreS s n).points) := blk_cell hWR.1 15
      have q2 : W.cell? ⟨g, 8, none⟩ = some (.int .i64 r.for_) := blk_cell hWR.1 8
      have HWR := Aside0.mk hWR.1
      have HWd := Aside0.mk (fun m => show RuleAt (W.drewN m) g r (moreS s n) (respV g s.state) from hWR.1)
      have HWK := Aside0.mk hWR.2
      obtain ⟨pp, hpp⟩ : ∃ pp, pp = (moreS s n).points := ⟨_, rfl⟩
      have hst := moreS_state s n
      rw [← hpp] at q1 HC hW
      have h2 := blk_put hR 14 (.int .i64 n) rfl
      have c2 := blk_cell h2 15
      have f2 := blk_frozen h2 15
      have h3 := blk_put h2 15 (.int .i64 0) rfl
      have c3 : ((w.setCell ⟨g, 14, none⟩ (.int .i64 n)).setCell ⟨g, 15, none⟩ (.int .i64 0)).cell? ⟨g, 15, none⟩ = some (.int .i64 0) := blk_cell h3 15
      have f3 := blk_frozen h3 15
      by_cases hq : s.next = n
      · have eq : (s.next == n) = true := beq_iff_eq.mpr hq
        rw [if_pos hq] at hW
        have hp2 : pp = s.points + 1 := by rw [hpp]; simp only [moreS, if_pos hq]
        subst hp2
        have HW := Aside0.mk hW
        clear h hR h1 h4 h2 h3 c2 f2 c3 f3 hWR hW hpp hq hst
        by_cases hf : r.for_ ≤ s.points + 1
        · have ef : decide (r.for_ ≤ s.points + 1) = true := decide_eq_true hf
          have HC2 := Aside0.mk (HC.out.trans (if_pos hf))
          clear hf
          go_enter Try.func52, Try.ntmps52
          go_wp2
          rw [← HW.out]
          go_quiet (fail)
          go_wp2_with (first
            | (go_at_call 26; (with_reducible refine (rule_enter _ g r (moreS s n) _ (HWd.out nq) n).mono ?_); rintro e w1 ⟨rfl, h5, hk⟩; have H5 := Aside0.mk h5; have HK := Aside0.mk hk; clear h5 hk))
          go_end0
          rw [HC2.out]
          exact ⟨rfl, H5.out, (HWK.out.drewN nq).trans HK.out (fun k _ h => h) (fun k _ h => h)⟩
        · have ef : decide (r.for_ ≤ s.points + 1) = false := decide_eq_false hf
          have HC2 := Aside0.mk (HC.out.trans (if_neg hf))
          clear hf
          go_enter Try.func52, Try.ntmps52
          go_wp2
          rw [← HW.out]
          go_quiet (fail)
          go_wp2
          go_end0
          rw [HC2.out]
          refine ⟨rfl, ?_, HWK.out.drewN nq⟩
          unfold RuleS
          rw [moreS_state]
          exact HWR.out
      · have eq : (s.next == n) = false := beq_eq_false_iff_ne.mpr hq
        rw [if_neg hq] at hW
        have hp2 : pp = 1 := by rw [hpp]; simp only [moreS, if_neg hq]; rfl
        subst hp2
        have HW := Aside0.mk hW
        clear h hR h1 h4 h2 h3 hWR hW hpp hq hst
        by_cases hf : r.for_ ≤ 1
        · have ef : decide (r.for_ ≤ 1) = true := decide_eq_true hf
          have HC2 := Aside0.mk (HC.out.trans (if_pos hf))
          clear hf
          go_enter Try.func52, Try.ntmps52
          go_wp2
          rw [← HW.out]
          go_quiet (fail)
          go_wp2_with (first
            | (go_at_call 26; (with_reducible refine (rule_enter _ g r (moreS s n) _ (HWd.out nq) n).mono ?_); rintro e w1 ⟨rfl, h5, hk⟩; have H5 := Aside0.mk h5; have HK := Aside0.mk hk; clear h5 hk))
          go_end0
          rw [HC2.out]
          exact ⟨rfl, H5.out, (HWK.out.drewN nq).trans HK.out (fun k _ h => h) (fun k _ h => h)⟩
        · have ef : decide (r.for_ ≤ 1) = false := decide_eq_false hf
          have HC2 := Aside0.mk (HC.out.trans (if_neg hf))
          clear hf
          go_enter Try.func52, Try.ntmps52
          go_wp2
          rw [← HW.out]
          go_quiet (fail)
          go_wp2
          go_end0
          rw [HC2.out]
          refine ⟨rfl, ?_, HWK.out.drewN nq⟩
          unfold RuleS
          rw [moreS_state]
          exact HWR.out
end Go.Proofs.Ytadmigijbfdboaa.Q
