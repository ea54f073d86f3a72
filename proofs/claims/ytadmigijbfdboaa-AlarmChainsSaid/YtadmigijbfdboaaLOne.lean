import Derived.Test.YtadmigijbfdboaaALive
import Derived.Test.YtadmigijbfdboaaRMay
namespace Go.Proofs.Ytadmigijbfdboaa.Q
open Go.RowKit Go.Proofs.YtadmigijbfdboaaW.PrintWords Go.Proofs.YtadmigijbfdboaaW.PrintLast Go.Proofs.YtadmigijbfdboaaW.PrintMore Go.Proofs.YtadmigijbfdboaaV
set_option linter.unusedVariables false
set_option linter.unusedSimpArgs false

theorem newK_one (r : Rul) : newK [] [r] = if MayP r then none else some 0 := by
  by_cases h : MayP r <;> simp [newK, h]
theorem L_one {L : List Ent} {r : Rul} {s : Stt} (h : L.map (·.2) = [(r, s)]) : ∃ g, L = [(g, r, s)] := by
  have hl : L.length = 1 := by have := congrArg List.length h; rwa [List.length_map] at this
  obtain ⟨a, rfl⟩ := List.length_eq_one_iff.1 hl
  have h' : a.2 = (r, s) := by rw [List.map_cons] at h; exact (List.cons.inj h).1
  refine ⟨a.1, ?_⟩
  rw [← h']
theorem New_may {W : World} {g n : Nat} {r : Rul} (hn : W.heap.size = n) (h : W.heap[g]? = some (.cells (ruleA r) 26 (0, 0))) (hin : RulIn r) (hm : MayP r) :
    Calls Try.prog 15 #[.slice (some ⟨g, 0, none⟩) 1 1] W fun e w' => e = .returned (.tuple #[.pointer (some ⟨n, 0, none⟩), .int .i64 0, .int .i64 0]) ∧ Below W.heap.size W w' ∧ ∃ A c g', BookAt w' n n A c [(g', r, stt0)] := by
  subst hn
  refine (alarm_New (rs := [r]) (C_one h) (fun x hx => by rw [List.mem_singleton] at hx; subst hx; exact hin) none (by rw [newK_one, if_pos hm])).mono ?_
  rintro e w' ⟨hb, h⟩
  rcases h with ⟨q, -⟩ | ⟨-, i, q, -⟩ | ⟨-, -, rfl, A, c, L, hbk, hL⟩
  · simp at q
  · cases q
  · obtain ⟨g', rfl⟩ := L_one hL
    exact ⟨rfl, hb, A, c, g', hbk⟩
theorem New_not {W : World} {g : Nat} {r : Rul} (h : W.heap[g]? = some (.cells (ruleA r) 26 (0, 0))) (hin : RulIn r) (hm : ¬ MayP r) :
    Calls Try.prog 15 #[.slice (some ⟨g, 0, none⟩) 1 1] W fun e w' => e = .returned (.tuple #[.pointer none, .int .i64 0, .int .i64 230]) ∧ Below W.heap.size W w' := by
  refine (alarm_New (rs := [r]) (C_one h) (fun x hx => by rw [List.mem_singleton] at hx; subst hx; exact hin) (some 0) (by rw [newK_one, if_neg hm])).mono ?_
  rintro e w' ⟨hb, h⟩
  rcases h with ⟨q, -⟩ | ⟨-, i, q, rfl⟩ | ⟨-, q, -⟩
  · simp at q
  · injection q with q
    subst q
    exact ⟨rfl, hb⟩
  · cases q

set_option maxHeartbeats 3200000 in
set_option maxRecDepth 4000 in
theorem law_one (w : World) (r : Rul) (hin : RulIn r) :
    Calls Try.prog 9 #[.agg (ruleA r)] w fun e w' => Below w.heap.size w w' ∧
      ((¬ MayP r ∧ e = .returned (.tuple #[.pointer none, .bool false, .bool true])) ∨
       (MayP r ∧ ∃ gb A c g, w.heap.size ≤ gb ∧ e = .returned (.tuple #[.pointer (some ⟨gb, 0, none⟩), .bool true, .bool true]) ∧ BookAt w' gb gb A c [(g, r, stt0)])) := by
  have HMay := Aside0.mk (fun W => ref_May W r hin)
  obtain ⟨m, hm⟩ : ∃ m, m = decide (MayP r) := ⟨_, rfl⟩
  rw [← hm] at HMay
  have N0 := Aside0.mk (heap_alloc_new w (.cells (ruleA r) 26 (0, 0)))
  have HB := Aside0.mk ((Below.refl w.heap.size w).alloc (Nat.le_refl _) (.cells (ruleA r) 26 (0, 0)))
  have u0 := blk_cell N0.out 0
  have u1 := blk_cell N0.out 1
  have u2 := blk_cell N0.out 2
  have u3 := blk_cell N0.out 3
  have u4 := blk_cell N0.out 4
  have u5 := blk_cell N0.out 5
  have u6 := blk_cell N0.out 6
  have u7 := blk_cell N0.out 7
  have u8 := blk_cell N0.out 8
  have u9 := blk_cell N0.out 9
  have u10 := blk_cell N0.out 10
  cases m with
  | true =>
    have hm1 : MayP r := of_decide_eq_true hm.symm
    have HNew := Aside0.mk (New_may (W := (w.alloc (.cells (ruleA r) 26 (0, 0))).alloc (.cells (ruleA r) 26 (0, 0))) (g := w.heap.size + 1) (n := w.heap.size + 2) (by simp) (heap_alloc2_new w _ _) hin hm1)
    have HM := Aside0.mk hm1
    have HB2 := Aside0.mk (HB.out.alloc HB.out.size (.cells (ruleA r) 26 (0, 0)))
    have N1 := Aside0.mk (blk_alloc N0.out (.cells (ruleA r) 26 (0, 0)))
    unfold ruleA at HMay N0 u0 u1 u2 u3 u4 u5 u6 u7 u8 u9 u10 HNew HB2 N1 HB
    unfold ruleA
    clear hm hm1 hin
    go_enter Try.func9, Try.ntmps9
    go_wp2_with (first
      | (go_at_call 15; (with_reducible refine (HNew.out).mono ?_); rintro e w2 ⟨rfl, hb2, A, c, g', hbk⟩; have hx := (hb2.block _ (blk_lt N1.out)).trans N1.out; have k0 := blk_cell hx 0; have k1 := blk_cell hx 1; have k2 := blk_cell hx 2; have k3 := blk_cell hx 3; have k4 := blk_cell hx 4; have k5 := blk_cell hx 5; have k6 := blk_cell hx 6; have k7 := blk_cell hx 7; have k8 := blk_cell hx 8; have k9 := blk_cell hx 9; have k10 := blk_cell hx 10; have HBk := Aside0.mk hbk; have HB3 := Aside0.mk (hop HB2.out hb2); clear hb2 hbk hx)
      | (go_at_call 22; (with_reducible refine (HMay.out _).mono ?_); rintro e w3 ⟨rfl, hb3⟩; have HBk3 := Aside0.mk (HBk.out.quiet (below_keep hb3)); have HB4 := Aside0.mk (hop HB3.out hb3); clear hb3))
    go_ret3
    exact ⟨HB4.out, .inr ⟨HM.out, _, A, c, g', by omega, rfl, HBk3.out⟩⟩
  | false =>
    have hm1 : ¬ MayP r := of_decide_eq_false hm.symm
    have HNew := Aside0.mk (New_not (W := (w.alloc (.cells (ruleA r) 26 (0, 0))).alloc (.cells (ruleA r) 26 (0, 0))) (g := w.heap.size + 1) (heap_alloc2_new w _ _) hin hm1)
    have HM := Aside0.mk hm1
    have HB2 := Aside0.mk (HB.out.alloc HB.out.size (.cells (ruleA r) 26 (0, 0)))
    have N1 := Aside0.mk (blk_alloc N0.out (.cells (ruleA r) 26 (0, 0)))
    unfold ruleA at HMay N0 u0 u1 u2 u3 u4 u5 u6 u7 u8 u9 u10 HNew HB2 N1 HB
    unfold ruleA
    clear hm hm1 hin
    go_enter Try.func9, Try.ntmps9
    go_wp2_with (first
      | (go_at_call 15; (with_reducible refine (HNew.out).mono ?_); rintro e w2 ⟨rfl, hb2⟩; have hx := (hb2.block _ (blk_lt N1.out)).trans N1.out; have k0 := blk_cell hx 0; have k1 := blk_cell hx 1; have k2 := blk_cell hx 2; have k3 := blk_cell hx 3; have k4 := blk_cell hx 4; have k5 := blk_cell hx 5; have k6 := blk_cell hx 6; have k7 := blk_cell hx 7; have k8 := blk_cell hx 8; have k9 := blk_cell hx 9; have k10 := blk_cell hx 10; have HB3 := Aside0.mk (hop HB2.out hb2); clear hb2 hx)
      | (go_at_call 22; (with_reducible refine (HMay.out _).mono ?_); rintro e w3 ⟨rfl, hb3⟩; have HB4 := Aside0.mk (hop HB3.out hb3); clear hb3))
    go_ret3
    exact ⟨HB4.out, .inl ⟨HM.out, rfl⟩⟩
end Go.Proofs.Ytadmigijbfdboaa.Q
