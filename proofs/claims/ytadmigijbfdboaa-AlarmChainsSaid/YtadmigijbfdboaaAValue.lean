import Derived.Test.YtadmigijbfdboaaACome
namespace Go.Proofs.Ytadmigijbfdboaa.Q
open Go.RowKit Go.Proofs.YtadmigijbfdboaaW.PrintWords Go.Proofs.YtadmigijbfdboaaW.PrintLast Go.Proofs.YtadmigijbfdboaaW.PrintMore Go.Proofs.YtadmigijbfdboaaV
set_option linter.unusedVariables false
set_option linter.unusedSimpArgs false

set_option maxHeartbeats 3200000 in
set_option maxRecDepth 4000 in
theorem rule_fine (w : World) (g : Nat) (r : Rul) (s : Stt) (h : RuleS w g r s) (ok : RulOk r) (v : Int) (hv : inW v) (hp : 0 ≤ s.points ∧ s.points ≤ 1000000) :
    Calls Try.prog 42 #[.pointer (some ⟨g, 0, none⟩), WV v] w fun e w' => e = .returned (.tuple #[]) ∧ RuleS w' g r (comeP r s (levelP r v 0 0)) ∧ Keep w w' (fun k => k = g) := by
  have HL := Aside0.mk (fun W (hR : RuleAt W g r s (respV g s.state)) => rule_level W g r s _ hR ok v 0 0 hv (by simp) (by simp))
  unfold WV at HL ⊢
  obtain ⟨va, hva⟩ : ∃ a, a = hiW v := ⟨_, rfl⟩
  obtain ⟨vb, hvb⟩ : ∃ a, a = loW v := ⟨_, rfl⟩
  obtain ⟨n, hn⟩ : ∃ n, n = levelP r v 0 0 := ⟨_, rfl⟩
  rw [← hva, ← hvb, ← hn] at HL
  rw [← hva, ← hvb, ← hn]
  have z1 : hiW 0 = 0 := rfl
  have z2 : loW 0 = 0 := rfl
  try rw [z1, z2] at HL
  obtain ⟨W, hW⟩ : ∃ W, W = w.alloc (.cells #[.int .i64 va, .int .u64 vb] 24 (0, 0)) := ⟨_, rfl⟩
  have n0 : W.heap[w.heap.size]? = some (.cells #[.int .i64 va, .int .u64 vb] 24 (0, 0)) := by rw [hW]; exact heap_alloc_new _ _
  have hb : Below w.heap.size w W := by rw [hW]; exact (Below.refl _ _).alloc (Nat.le_refl _) _
  have hR : RuleAt W g r s (respV g s.state) := RuleAt.below h hb
  have HRd := Aside0.mk (show RuleAt W g r s (respV g s.state) from hR)
  have q0 : W.cell? ⟨w.heap.size, 0, none⟩ = some (.int .i64 va) := blk_cell n0 0
  have q1 : W.cell? ⟨w.heap.size, 1, none⟩ = some (.int .u64 vb) := blk_cell n0 1
  have q2 : W.cell? ⟨g, 6, none⟩ = some (.int .i64 (hiW r.slack)) := blk_cell hR 6
  have q3 : W.cell? ⟨g, 7, none⟩ = some (.int .u64 (loW r.slack)) := blk_cell hR 7
  have HB := Aside0.mk hb
  have HW := Aside0.mk hW
  clear h hva hvb hn hW n0 hb hR hv z1 z2 ok
  go_enter Try.func42, Try.ntmps42
  go_upto_region 1 with (fail)
  rw [← HW.out]
  go_wp2_with (first
    | (go_at_call 53; (with_reducible refine (HL.out _ HRd.out).mono ?_); rintro e w1 ⟨rfl, hb1⟩; have HS1 := Aside0.mk (show RuleS w1 g r s from RuleAt.below HRd.out hb1); have HK1 := Aside0.mk (Keep.of_below (S := fun k => k = g) (hop HB.out (hb1))); clear hb1)
    | (go_at_call 52; (with_reducible refine (rule_come _ g r s HS1.out n hp).mono ?_); rintro e w2 ⟨rfl, h2, hk2⟩; have HS2 := Aside0.mk h2; have HK2 := Aside0.mk (HK1.out.trans hk2 (fun k _ h => h) (fun k _ h => h)); clear h2 hk2))
  go_end0
  exact ⟨rfl, HS2.out, HK2.out⟩
set_option maxHeartbeats 3200000 in
set_option maxRecDepth 4000 in
theorem rule_warned (w : World) (g : Nat) (r : Rul) (s : Stt) (h : RuleS w g r s) (ok : RulOk r) (v : Int) (hv : inW v) (hp : 0 ≤ s.points ∧ s.points ≤ 1000000) :
    Calls Try.prog 40 #[.pointer (some ⟨g, 0, none⟩), WV v] w fun e w' => e = .returned (.tuple #[]) ∧ RuleS w' g r (comeP r s (levelP r v r.slack 0)) ∧ Keep w w' (fun k => k = g) := by
  have HL := Aside0.mk (fun W (hR : RuleAt W g r s (respV g s.state)) => rule_level W g r s _ hR ok v r.slack 0 hv (by simp) (by simp))
  unfold WV at HL ⊢
  obtain ⟨va, hva⟩ : ∃ a, a = hiW v := ⟨_, rfl⟩
  obtain ⟨vb, hvb⟩ : ∃ a, a = loW v := ⟨_, rfl⟩
  obtain ⟨n, hn⟩ : ∃ n, n = levelP r v r.slack 0 := ⟨_, rfl⟩
  rw [← hva, ← hvb, ← hn] at HL
  rw [← hva, ← hvb, ← hn]
  have z1 : hiW 0 = 0 := rfl
  have z2 : loW 0 = 0 := rfl
  try rw [z1, z2] at HL
  obtain ⟨W, hW⟩ : ∃ W, W = w.alloc (.cells #[.int .i64 va, .int .u64 vb] 24 (0, 0)) := ⟨_, rfl⟩
  have n0 : W.heap[w.heap.size]? = some (.cells #[.int .i64 va, .int .u64 vb] 24 (0, 0)) := by rw [hW]; exact heap_alloc_new _ _
  have hb : Below w.heap.size w W := by rw [hW]; exact (Below.refl _ _).alloc (Nat.le_refl _) _
  have hR : RuleAt W g r s (respV g s.state) := RuleAt.below h hb
  have HRd := Aside0.mk (show RuleAt W.drew g r s (respV g s.state) from hR)
  have q0 : W.drew.cell? ⟨w.heap.size, 0, none⟩ = some (.int .i64 va) := blk_cell n0 0
  have q1 : W.drew.cell? ⟨w.heap.size, 1, none⟩ = some (.int .u64 vb) := blk_cell n0 1
  have q2 : W.drew.cell? ⟨g, 6, none⟩ = some (.int .i64 (hiW r.slack)) := blk_cell hR 6
  have q3 : W.drew.cell? ⟨g, 7, none⟩ = some (.int .u64 (loW r.slack)) := blk_cell hR 7
  have HB := Aside0.mk hb
  have HW := Aside0.mk hW
  clear h hva hvb hn hW n0 hb hR hv z1 z2 ok
  go_enter Try.func40, Try.ntmps40
  go_upto_region 1 with (fail)
  rw [← HW.out]
  go_region_with (first
    | (go_at_call 53; (with_reducible refine (HL.out _ HRd.out).mono ?_); rintro e w1 ⟨rfl, hb1⟩; have HS1 := Aside0.mk (show RuleS w1 g r s from RuleAt.below HRd.out hb1); have HK1 := Aside0.mk (Keep.of_below (S := fun k => k = g) (hop HB.out (undrew hb1))); clear hb1)
    | (go_at_call 52; (with_reducible refine (rule_come _ g r s HS1.out n hp).mono ?_); rintro e w2 ⟨rfl, h2, hk2⟩; have HS2 := Aside0.mk h2; have HK2 := Aside0.mk (HK1.out.trans hk2 (fun k _ h => h) (fun k _ h => h)); clear h2 hk2))
  all_goals
    go_wp2_with (fail)
    go_end0
    exact ⟨rfl, HS2.out, HK2.out⟩
set_option maxHeartbeats 3200000 in
set_option maxRecDepth 4000 in
theorem rule_critical (w : World) (g : Nat) (r : Rul) (s : Stt) (h : RuleS w g r s) (ok : RulOk r) (v : Int) (hv : inW v) (hp : 0 ≤ s.points ∧ s.points ≤ 1000000) :
    Calls Try.prog 41 #[.pointer (some ⟨g, 0, none⟩), WV v] w fun e w' => e = .returned (.tuple #[]) ∧ RuleS w' g r (comeP r s (levelP r v r.slack r.slack)) ∧ Keep w w' (fun k => k = g) := by
  have HL := Aside0.mk (fun W (hR : RuleAt W g r s (respV g s.state)) => rule_level W g r s _ hR ok v r.slack r.slack hv (by simp) (by simp))
  unfold WV at HL ⊢
  obtain ⟨va, hva⟩ : ∃ a, a = hiW v := ⟨_, rfl⟩
  obtain ⟨vb, hvb⟩ : ∃ a, a = loW v := ⟨_, rfl⟩
  obtain ⟨n, hn⟩ : ∃ n, n = levelP r v r.slack r.slack := ⟨_, rfl⟩
  rw [← hva, ← hvb, ← hn] at HL
  rw [← hva, ← hvb, ← hn]
  have z1 : hiW 0 = 0 := rfl
  have z2 : loW 0 = 0 := rfl
  try rw [z1, z2] at HL
  obtain ⟨W, hW⟩ : ∃ W, W = w.alloc (.cells #[.int .i64 va, .int .u64 vb] 24 (0, 0)) := ⟨_, rfl⟩
  have n0 : W.heap[w.heap.size]? = some (.cells #[.int .i64 va, .int .u64 vb] 24 (0, 0)) := by rw [hW]; exact heap_alloc_new _ _
  have hb : Below w.heap.size w W := by rw [hW]; exact (Below.refl _ _).alloc (Nat.le_refl _) _
  have hR : RuleAt W g r s (respV g s.state) := RuleAt.below h hb
  have HRd := Aside0.mk (show RuleAt W.drew g r s (respV g s.state) from hR)
  have q0 : W.drew.cell? ⟨w.heap.size, 0, none⟩ = some (.int .i64 va) := blk_cell n0 0
  have q1 : W.drew.cell? ⟨w.heap.size, 1, none⟩ = some (.int .u64 vb) := blk_cell n0 1
  have q2 : W.drew.cell? ⟨g, 6, none⟩ = some (.int .i64 (hiW r.slack)) := blk_cell hR 6
  have q3 : W.drew.cell? ⟨g, 7, none⟩ = some (.int .u64 (loW r.slack)) := blk_cell hR 7
  have HB := Aside0.mk hb
  have HW := Aside0.mk hW
  clear h hva hvb hn hW n0 hb hR hv z1 z2 ok
  go_enter Try.func41, Try.ntmps41
  go_upto_region 1 with (fail)
  rw [← HW.out]
  go_region_with (first
    | (go_at_call 53; (with_reducible refine (HL.out _ HRd.out).mono ?_); rintro e w1 ⟨rfl, hb1⟩; have HS1 := Aside0.mk (show RuleS w1 g r s from RuleAt.below HRd.out hb1); have HK1 := Aside0.mk (Keep.of_below (S := fun k => k = g) (hop HB.out (undrew hb1))); clear hb1)
    | (go_at_call 52; (with_reducible refine (rule_come _ g r s HS1.out n hp).mono ?_); rintro e w2 ⟨rfl, h2, hk2⟩; have HS2 := Aside0.mk h2; have HK2 := Aside0.mk (HK1.out.trans hk2 (fun k _ h => h) (fun k _ h => h)); clear h2 hk2))
  all_goals
    go_wp2_with (fail)
    go_end0
    exact ⟨rfl, HS2.out, HK2.out⟩
/-- What the slacks are in a state. -/
def wsP (r : Rul) (n : Int) : Int := if n = 2 ∨ n = 3 then r.slack else 0
def csP (r : Rul) (n : Int) : Int := if n = 3 then r.slack else 0
theorem rule_value (w : World) (g : Nat) (r : Rul) (s : Stt) (h : RuleS w g r s) (ok : RulOk r) (v : Int) (hv : inW v) (hp : 0 ≤ s.points ∧ s.points ≤ 1000000) :
    Calls Try.prog (respF s.state) #[.pointer (some ⟨g, 0, none⟩), WV v] w fun e w' => e = .returned (.tuple #[]) ∧ RuleS w' g r (comeP r s (levelP r v (wsP r s.state) (csP r s.state))) ∧ Keep w w' (fun k => k = g) := by
  unfold respF wsP csP
  by_cases h2 : s.state = 2
  · rw [if_pos h2, if_pos (.inl h2), if_neg (by omega)]
    exact rule_warned w g r s h ok v hv hp
  · rw [if_neg h2]
    by_cases h3 : s.state = 3
    · rw [if_pos h3, if_pos (.inr h3), if_pos h3]
      exact rule_critical w g r s h ok v hv hp
    · rw [if_neg h3, if_neg (by omega), if_neg h3]
      exact rule_fine w g r s h ok v hv hp
end Go.Proofs.Ytadmigijbfdboaa.Q
