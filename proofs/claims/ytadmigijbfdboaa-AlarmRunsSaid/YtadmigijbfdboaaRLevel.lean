import Derived.Test.YtadmigijbfdboaaRBeyond
namespace Go.Proofs.Ytadmigijbfdboaa.Q
open Go.RowKit Go.Proofs.YtadmigijbfdboaaW.PrintWords Go.Proofs.YtadmigijbfdboaaW.PrintLast Go.Proofs.YtadmigijbfdboaaW.PrintMore Go.Proofs.YtadmigijbfdboaaV
set_option linter.unusedVariables false
set_option linter.unusedSimpArgs false

theorem beyond_mono {r : Rul} {v t sl : Int} (hs : 0 ≤ sl) (h : beyondP r v t 0 = true) : beyondP r v t sl = true := by
  unfold beyondP at h ⊢
  split at h <;> rename_i q
  · rw [if_pos q]
    rw [decide_eq_true_eq] at h ⊢
    omega
  · rw [if_neg q]
    rw [decide_eq_true_eq] at h ⊢
    omega
/-- Level, as the document has it. -/
theorem level_eq {r : Rul} (hs : 0 ≤ r.slack) (n v : Int) : levelP r v (wsP r n) (csP r n) = if beyondP r v r.crit 0 = true ∨ (n = 3 ∧ beyondP r v r.crit r.slack = true) then 3 else if beyondP r v r.warn 0 = true ∨ ((n = 2 ∨ n = 3) ∧ beyondP r v r.warn r.slack = true) then 2 else 1 := by
  have m1 : beyondP r v r.crit 0 = true → beyondP r v r.crit r.slack = true := beyond_mono hs
  have m2 : beyondP r v r.warn 0 = true → beyondP r v r.warn r.slack = true := beyond_mono hs
  unfold levelP wsP csP
  generalize hb1 : beyondP r v r.crit 0 = b1 at m1 ⊢
  generalize hb2 : beyondP r v r.crit r.slack = b2 at m1 ⊢
  generalize hb3 : beyondP r v r.warn 0 = b3 at m2 ⊢
  generalize hb4 : beyondP r v r.warn r.slack = b4 at m2 ⊢
  by_cases h3 : n = 3
  · rw [if_pos h3, if_pos (Or.inr h3), hb2, hb4]
    cases b1 <;> cases b2 <;> cases b3 <;> cases b4 <;> simp_all
  · by_cases h2 : n = 2
    · rw [if_neg h3, if_pos (Or.inl h2), hb1, hb4]
      cases b1 <;> cases b2 <;> cases b3 <;> cases b4 <;> simp_all
    · have h23 : ¬ (n = 2 ∨ n = 3) := fun q => q.elim h2 h3
      rw [if_neg h3, if_neg h23, hb1, hb3]
      cases b1 <;> cases b2 <;> cases b3 <;> cases b4 <;> simp_all
set_option maxHeartbeats 6400000 in
set_option maxRecDepth 4000 in
theorem ref_Level (w : World) (r : Rul) (hin : RulIn r) (hs : 0 ≤ r.slack) (n v : Int) (hv : inW v) :
    Calls Try.prog 51 #[.agg (ruleA r), .int .i64 n, WV v] w fun e w' => e = .returned (.int .i64 (levelP r v (wsP r n) (csP r n))) ∧ Below w.heap.size w w' := by
  have HL := Aside0.mk (level_eq hs n v)
  have H1 := Aside0.mk (fun W => ref_Beyond W r v r.crit 0 hv hin.crit (by unfold inW; decide))
  have H2 := Aside0.mk (fun W => ref_Beyond W r v r.crit r.slack hv hin.crit hin.slack)
  have H3 := Aside0.mk (fun W => ref_Beyond W r v r.warn 0 hv hin.warn (by unfold inW; decide))
  have H4 := Aside0.mk (fun W => ref_Beyond W r v r.warn r.slack hv hin.warn hin.slack)
  rw [WV_zero] at H1 H3
  unfold WV at H1 H2 H3 H4 ⊢
  obtain ⟨va, hva⟩ : ∃ a, a = hiW v := ⟨_, rfl⟩
  obtain ⟨vb, hvb⟩ : ∃ a, a = loW v := ⟨_, rfl⟩
  rw [← hva, ← hvb] at H1 H2 H3 H4 ⊢
  obtain ⟨b1, hb1⟩ : ∃ b, b = beyondP r v r.crit 0 := ⟨_, rfl⟩
  obtain ⟨b2, hb2⟩ : ∃ b, b = beyondP r v r.crit r.slack := ⟨_, rfl⟩
  obtain ⟨b3, hb3⟩ : ∃ b, b = beyondP r v r.warn 0 := ⟨_, rfl⟩
  obtain ⟨b4, hb4⟩ : ∃ b, b = beyondP r v r.warn r.slack := ⟨_, rfl⟩
  rw [← hb1] at H1 HL
  rw [← hb2] at H2 HL
  rw [← hb3] at H3 HL
  rw [← hb4] at H4 HL
  have N0 := Aside0.mk (blk_alloc (heap_alloc_new w (.cells (ruleA r) 26 (0, 0))) (.cells #[.int .i64 va, .int .u64 vb] 24 (0, 0)))
  have N1 := Aside0.mk (heap_alloc2_new w (.cells (ruleA r) 26 (0, 0)) (.cells #[.int .i64 va, .int .u64 vb] 24 (0, 0)))
  have hb0 := (Below.refl w.heap.size w).alloc (Nat.le_refl _) (.cells (ruleA r) 26 (0, 0))
  have HB := Aside0.mk (hb0.alloc hb0.size (.cells #[.int .i64 va, .int .u64 vb] 24 (0, 0)))
  unfold ruleA at N0 N1 HB H1 H2 H3 H4 ⊢
  have u0 := blk_cell N0.out 0
  have u1 := blk_cell N0.out 1
  have u2 := blk_cell N0.out 2
  have u3 := blk_cell N0.out 3
  have u4 := blk_cell N0.out 4
  have u5 := blk_cell N0.out 5
  have u6 := blk_cell N0.out 6
  have u7 := blk_cell N0.out 7
  have u8 := blk_cell N0.out 8
  have u9 := blk_cell N0.out 9
  have u10 := blk_cell N0.out 10
  have g0 := blk_cell N1.out 0
  have g1 := blk_cell N1.out 1
  clear hva hvb hb1 hb2 hb3 hb4 hb0 hs hin hv
  by_cases h3 : n = 3
  · have e3 : (n == 3) = true := beq_iff_eq.mpr h3
    have e2 : (n == 2) = false := beq_eq_false_iff_ne.mpr (by omega)
    cases b1 with
    | true =>
      have HR := Aside0.mk (show levelP r v (wsP r n) (csP r n) = 3 by rw [HL.out]; simp [h3])
      go_enter Try.func51, Try.ntmps51
      go_wp2_with (first
        | (go_at_call 13; (with_reducible refine (H1.out _).mono ?_); rintro e w1 ⟨rfl, hb⟩; have N0_ := Aside0.mk ((hb.block _ (blk_lt N0.out)).trans N0.out); have N1_ := Aside0.mk ((hb.block _ (blk_lt N1.out)).trans N1.out); have HB_ := Aside0.mk (hop HB.out hb); clear N0 N1 HB hb u0 u1 u2 u3 u4 u5 u6 u7 u8 u9 u10 g0 g1; have N0 := N0_; have N1 := N1_; have HB := HB_; clear N0_ N1_ HB_; have u0 := blk_cell N0.out 0; have u1 := blk_cell N0.out 1; have u2 := blk_cell N0.out 2; have u3 := blk_cell N0.out 3; have u4 := blk_cell N0.out 4; have u5 := blk_cell N0.out 5; have u6 := blk_cell N0.out 6; have u7 := blk_cell N0.out 7; have u8 := blk_cell N0.out 8; have u9 := blk_cell N0.out 9; have u10 := blk_cell N0.out 10; have g0 := blk_cell N1.out 0; have g1 := blk_cell N1.out 1)
        | (go_at_call 13; (with_reducible refine (H2.out _).mono ?_); rintro e w1 ⟨rfl, hb⟩; have N0_ := Aside0.mk ((hb.block _ (blk_lt N0.out)).trans N0.out); have N1_ := Aside0.mk ((hb.block _ (blk_lt N1.out)).trans N1.out); have HB_ := Aside0.mk (hop HB.out hb); clear N0 N1 HB hb u0 u1 u2 u3 u4 u5 u6 u7 u8 u9 u10 g0 g1; have N0 := N0_; have N1 := N1_; have HB := HB_; clear N0_ N1_ HB_; have u0 := blk_cell N0.out 0; have u1 := blk_cell N0.out 1; have u2 := blk_cell N0.out 2; have u3 := blk_cell N0.out 3; have u4 := blk_cell N0.out 4; have u5 := blk_cell N0.out 5; have u6 := blk_cell N0.out 6; have u7 := blk_cell N0.out 7; have u8 := blk_cell N0.out 8; have u9 := blk_cell N0.out 9; have u10 := blk_cell N0.out 10; have g0 := blk_cell N1.out 0; have g1 := blk_cell N1.out 1)
        | (go_at_call 13; (with_reducible refine (H3.out _).mono ?_); rintro e w1 ⟨rfl, hb⟩; have N0_ := Aside0.mk ((hb.block _ (blk_lt N0.out)).trans N0.out); have N1_ := Aside0.mk ((hb.block _ (blk_lt N1.out)).trans N1.out); have HB_ := Aside0.mk (hop HB.out hb); clear N0 N1 HB hb u0 u1 u2 u3 u4 u5 u6 u7 u8 u9 u10 g0 g1; have N0 := N0_; have N1 := N1_; have HB := HB_; clear N0_ N1_ HB_; have u0 := blk_cell N0.out 0; have u1 := blk_cell N0.out 1; have u2 := blk_cell N0.out 2; have u3 := blk_cell N0.out 3; have u4 := blk_cell N0.out 4; have u5 := blk_cell N0.out 5; have u6 := blk_cell N0.out 6; have u7 := blk_cell N0.out 7; have u8 := blk_cell N0.out 8; have u9 := blk_cell N0.out 9; have u10 := blk_cell N0.out 10; have g0 := blk_cell N1.out 0; have g1 := blk_cell N1.out 1)
        | (go_at_call 13; (with_reducible refine (H4.out _).mono ?_); rintro e w1 ⟨rfl, hb⟩; have N0_ := Aside0.mk ((hb.block _ (blk_lt N0.out)).trans N0.out); have N1_ := Aside0.mk ((hb.block _ (blk_lt N1.out)).trans N1.out); have HB_ := Aside0.mk (hop HB.out hb); clear N0 N1 HB hb u0 u1 u2 u3 u4 u5 u6 u7 u8 u9 u10 g0 g1; have N0 := N0_; have N1 := N1_; have HB := HB_; clear N0_ N1_ HB_; have u0 := blk_cell N0.out 0; have u1 := blk_cell N0.out 1; have u2 := blk_cell N0.out 2; have u3 := blk_cell N0.out 3; have u4 := blk_cell N0.out 4; have u5 := blk_cell N0.out 5; have u6 := blk_cell N0.out 6; have u7 := blk_cell N0.out 7; have u8 := blk_cell N0.out 8; have u9 := blk_cell N0.out 9; have u10 := blk_cell N0.out 10; have g0 := blk_cell N1.out 0; have g1 := blk_cell N1.out 1))
      go_ret
      rw [HR.out]
      exact ⟨rfl, HB.out⟩
    | false =>
      cases b2 with
      | true =>
        have HR := Aside0.mk (show levelP r v (wsP r n) (csP r n) = 3 by rw [HL.out]; simp [h3])
        go_enter Try.func51, Try.ntmps51
        go_wp2_with (first
          | (go_at_call 13; (with_reducible refine (H1.out _).mono ?_); rintro e w1 ⟨rfl, hb⟩; have N0_ := Aside0.mk ((hb.block _ (blk_lt N0.out)).trans N0.out); have N1_ := Aside0.mk ((hb.block _ (blk_lt N1.out)).trans N1.out); have HB_ := Aside0.mk (hop HB.out hb); clear N0 N1 HB hb u0 u1 u2 u3 u4 u5 u6 u7 u8 u9 u10 g0 g1; have N0 := N0_; have N1 := N1_; have HB := HB_; clear N0_ N1_ HB_; have u0 := blk_cell N0.out 0; have u1 := blk_cell N0.out 1; have u2 := blk_cell N0.out 2; have u3 := blk_cell N0.out 3; have u4 := blk_cell N0.out 4; have u5 := blk_cell N0.out 5; have u6 := blk_cell N0.out 6; have u7 := blk_cell N0.out 7; have u8 := blk_cell N0.out 8; have u9 := blk_cell N0.out 9; have u10 := blk_cell N0.out 10; have g0 := blk_cell N1.out 0; have g1 := blk_cell N1.out 1)
          | (go_at_call 13; (with_reducible refine (H2.out _).mono ?_); rintro e w1 ⟨rfl, hb⟩; have N0_ := Aside0.mk ((hb.block _ (blk_lt N0.out)).trans N0.out); have N1_ := Aside0.mk ((hb.block _ (blk_lt N1.out)).trans N1.out); have HB_ := Aside0.mk (hop HB.out hb); clear N0 N1 HB hb u0 u1 u2 u3 u4 u5 u6 u7 u8 u9 u10 g0 g1; have N0 := N0_; have N1 := N1_; have HB := HB_; clear N0_ N1_ HB_; have u0 := blk_cell N0.out 0; have u1 := blk_cell N0.out 1; have u2 := blk_cell N0.out 2; have u3 := blk_cell N0.out 3; have u4 := blk_cell N0.out 4; have u5 := blk_cell N0.out 5; have u6 := blk_cell N0.out 6; have u7 := blk_cell N0.out 7; have u8 := blk_cell N0.out 8; have u9 := blk_cell N0.out 9; have u10 := blk_cell N0.out 10; have g0 := blk_cell N1.out 0; have g1 := blk_cell N1.out 1)
          | (go_at_call 13; (with_reducible refine (H3.out _).mono ?_); rintro e w1 ⟨rfl, hb⟩; have N0_ := Aside0.mk ((hb.block _ (blk_lt N0.out)).trans N0.out); have N1_ := Aside0.mk ((hb.block _ (blk_lt N1.out)).trans N1.out); have HB_ := Aside0.mk (hop HB.out hb); clear N0 N1 HB hb u0 u1 u2 u3 u4 u5 u6 u7 u8 u9 u10 g0 g1; have N0 := N0_; have N1 := N1_; have HB := HB_; clear N0_ N1_ HB_; have u0 := blk_cell N0.out 0; have u1 := blk_cell N0.out 1; have u2 := blk_cell N0.out 2; have u3 := blk_cell N0.out 3; have u4 := blk_cell N0.out 4; have u5 := blk_cell N0.out 5; have u6 := blk_cell N0.out 6; have u7 := blk_cell N0.out 7; have u8 := blk_cell N0.out 8; have u9 := blk_cell N0.out 9; have u10 := blk_cell N0.out 10; have g0 := blk_cell N1.out 0; have g1 := blk_cell N1.out 1)
          | (go_at_call 13; (with_reducible refine (H4.out _).mono ?_); rintro e w1 ⟨rfl, hb⟩; have N0_ := Aside0.mk ((hb.block _ (blk_lt N0.out)).trans N0.out); have N1_ := Aside0.mk ((hb.block _ (blk_lt N1.out)).trans N1.out); have HB_ := Aside0.mk (hop HB.out hb); clear N0 N1 HB hb u0 u1 u2 u3 u4 u5 u6 u7 u8 u9 u10 g0 g1; have N0 := N0_; have N1 := N1_; have HB := HB_; clear N0_ N1_ HB_; have u0 := blk_cell N0.out 0; have u1 := blk_cell N0.out 1; have u2 := blk_cell N0.out 2; have u3 := blk_cell N0.out 3; have u4 := blk_cell N0.out 4; have u5 := blk_cell N0.out 5; have u6 := blk_cell N0.out 6; have u7 := blk_cell N0.out 7; have u8 := blk_cell N0.out 8; have u9 := blk_cell N0.out 9; have u10 := blk_cell N0.out 10; have g0 := blk_cell N1.out 0; have g1 := blk_cell N1.out 1))
        go_ret
        rw [HR.out]
        exact ⟨rfl, HB.out⟩
      | false =>
        cases b3 with
        | true =>
          have HR := Aside0.mk (show levelP r v (wsP r n) (csP r n) = 2 by rw [HL.out]; simp [h3])
          go_enter Try.func51, Try.ntmps51
          go_wp2_with (first
            | (go_at_call 13; (with_reducible refine (H1.out _).mono ?_); rintro e w1 ⟨rfl, hb⟩; have N0_ := Aside0.mk ((hb.block _ (blk_lt N0.out)).trans N0.out); have N1_ := Aside0.mk ((hb.block _ (blk_lt N1.out)).trans N1.out); have HB_ := Aside0.mk (hop HB.out hb); clear N0 N1 HB hb u0 u1 u2 u3 u4 u5 u6 u7 u8 u9 u10 g0 g1; have N0 := N0_; have N1 := N1_; have HB := HB_; clear N0_ N1_ HB_; have u0 := blk_cell N0.out 0; have u1 := blk_cell N0.out 1; have u2 := blk_cell N0.out 2; have u3 := blk_cell N0.out 3; have u4 := blk_cell N0.out 4; have u5 := blk_cell N0.out 5; have u6 := blk_cell N0.out 6; have u7 := blk_cell N0.out 7; have u8 := blk_cell N0.out 8; have u9 := blk_cell N0.out 9; have u10 := blk_cell N0.out 10; have g0 := blk_cell N1.out 0; have g1 := blk_cell N1.out 1)
            | (go_at_call 13; (with_reducible refine (H2.out _).mono ?_); rintro e w1 ⟨rfl, hb⟩; have N0_ := Aside0.mk ((hb.block _ (blk_lt N0.out)).trans N0.out); have N1_ := Aside0.mk ((hb.block _ (blk_lt N1.out)).trans N1.out); have HB_ := Aside0.mk (hop HB.out hb); clear N0 N1 HB hb u0 u1 u2 u3 u4 u5 u6 u7 u8 u9 u10 g0 g1; have N0 := N0_; have N1 := N1_; have HB := HB_; clear N0_ N1_ HB_; have u0 := blk_cell N0.out 0; have u1 := blk_cell N0.out 1; have u2 := blk_cell N0.out 2; have u3 := blk_cell N0.out 3; have u4 := blk_cell N0.out 4; have u5 := blk_cell N0.out 5; have u6 := blk_cell N0.out 6; have u7 := blk_cell N0.out 7; have u8 := blk_cell N0.out 8; have u9 := blk_cell N0.out 9; have u10 := blk_cell N0.out 10; have g0 := blk_cell N1.out 0; have g1 := blk_cell N1.out 1)
            | (go_at_call 13; (with_reducible refine (H3.out _).mono ?_); rintro e w1 ⟨rfl, hb⟩; have N0_ := Aside0.mk ((hb.block _ (blk_lt N0.out)).trans N0.out); have N1_ := Aside0.mk ((hb.block _ (blk_lt N1.out)).trans N1.out); have HB_ := Aside0.mk (hop HB.out hb); clear N0 N1 HB hb u0 u1 u2 u3 u4 u5 u6 u7 u8 u9 u10 g0 g1; have N0 := N0_; have N1 := N1_; have HB := HB_; clear N0_ N1_ HB_; have u0 := blk_cell N0.out 0; have u1 := blk_cell N0.out 1; have u2 := blk_cell N0.out 2; have u3 := blk_cell N0.out 3; have u4 := blk_cell N0.out 4; have u5 := blk_cell N0.out 5; have u6 := blk_cell N0.out 6; have u7 := blk_cell N0.out 7; have u8 := blk_cell N0.out 8; have u9 := blk_cell N0.out 9; have u10 := blk_cell N0.out 10; have g0 := blk_cell N1.out 0; have g1 := blk_cell N1.out 1)
            | (go_at_call 13; (with_reducible refine (H4.out _).mono ?_); rintro e w1 ⟨rfl, hb⟩; have N0_ := Aside0.mk ((hb.block _ (blk_lt N0.out)).trans N0.out); have N1_ := Aside0.mk ((hb.block _ (blk_lt N1.out)).trans N1.out); have HB_ := Aside0.mk (hop HB.out hb); clear N0 N1 HB hb u0 u1 u2 u3 u4 u5 u6 u7 u8 u9 u10 g0 g1; have N0 := N0_; have N1 := N1_; have HB := HB_; clear N0_ N1_ HB_; have u0 := blk_cell N0.out 0; have u1 := blk_cell N0.out 1; have u2 := blk_cell N0.out 2; have u3 := blk_cell N0.out 3; have u4 := blk_cell N0.out 4; have u5 := blk_cell N0.out 5; have u6 := blk_cell N0.out 6; have u7 := blk_cell N0.out 7; have u8 := blk_cell N0.out 8; have u9 := blk_cell N0.out 9; have u10 := blk_cell N0.out 10; have g0 := blk_cell N1.out 0; have g1 := blk_cell N1.out 1))
          go_ret
          rw [HR.out]
          exact ⟨rfl, HB.out⟩
        | false =>
          cases b4 with
          | true =>
            have HR := Aside0.mk (show levelP r v (wsP r n) (csP r n) = 2 by rw [HL.out]; simp [h3])
            go_enter Try.func51, Try.ntmps51
            go_wp2_with (first
              | (go_at_call 13; (with_reducible refine (H1.out _).mono ?_); rintro e w1 ⟨rfl, hb⟩; have N0_ := Aside0.mk ((hb.block _ (blk_lt N0.out)).trans N0.out); have N1_ := Aside0.mk ((hb.block _ (blk_lt N1.out)).trans N1.out); have HB_ := Aside0.mk (hop HB.out hb); clear N0 N1 HB hb u0 u1 u2 u3 u4 u5 u6 u7 u8 u9 u10 g0 g1; have N0 := N0_; have N1 := N1_; have HB := HB_; clear N0_ N1_ HB_; have u0 := blk_cell N0.out 0; have u1 := blk_cell N0.out 1; have u2 := blk_cell N0.out 2; have u3 := blk_cell N0.out 3; have u4 := blk_cell N0.out 4; have u5 := blk_cell N0.out 5; have u6 := blk_cell N0.out 6; have u7 := blk_cell N0.out 7; have u8 := blk_cell N0.out 8; have u9 := blk_cell N0.out 9; have u10 := blk_cell N0.out 10; have g0 := blk_cell N1.out 0; have g1 := blk_cell N1.out 1)
              | (go_at_call 13; (with_reducible refine (H2.out _).mono ?_); rintro e w1 ⟨rfl, hb⟩; have N0_ := Aside0.mk ((hb.block _ (blk_lt N0.out)).trans N0.out); have N1_ := Aside0.mk ((hb.block _ (blk_lt N1.out)).trans N1.out); have HB_ := Aside0.mk (hop HB.out hb); clear N0 N1 HB hb u0 u1 u2 u3 u4 u5 u6 u7 u8 u9 u10 g0 g1; have N0 := N0_; have N1 := N1_; have HB := HB_; clear N0_ N1_ HB_; have u0 := blk_cell N0.out 0; have u1 := blk_cell N0.out 1; have u2 := blk_cell N0.out 2; have u3 := blk_cell N0.out 3; have u4 := blk_cell N0.out 4; have u5 := blk_cell N0.out 5; have u6 := blk_cell N0.out 6; have u7 := blk_cell N0.out 7; have u8 := blk_cell N0.out 8; have u9 := blk_cell N0.out 9; have u10 := blk_cell N0.out 10; have g0 := blk_cell N1.out 0; have g1 := blk_cell N1.out 1)
              | (go_at_call 13; (with_reducible refine (H3.out _).mono ?_); rintro e w1 ⟨rfl, hb⟩; have N0_ := Aside0.mk ((hb.block _ (blk_lt N0.out)).trans N0.out); have N1_ := Aside0.mk ((hb.block _ (blk_lt N1.out)).trans N1.out); have HB_ := Aside0.mk (hop HB.out hb); clear N0 N1 HB hb u0 u1 u2 u3 u4 u5 u6 u7 u8 u9 u10 g0 g1; have N0 := N0_; have N1 := N1_; have HB := HB_; clear N0_ N1_ HB_; have u0 := blk_cell N0.out 0; have u1 := blk_cell N0.out 1; have u2 := blk_cell N0.out 2; have u3 := blk_cell N0.out 3; have u4 := blk_cell N0.out 4; have u5 := blk_cell N0.out 5; have u6 := blk_cell N0.out 6; have u7 := blk_cell N0.out 7; have u8 := blk_cell N0.out 8; have u9 := blk_cell N0.out 9; have u10 := blk_cell N0.out 10; have g0 := blk_cell N1.out 0; have g1 := blk_cell N1.out 1)
              | (go_at_call 13; (with_reducible refine (H4.out _).mono ?_); rintro e w1 ⟨rfl, hb⟩; have N0_ := Aside0.mk ((hb.block _ (blk_lt N0.out)).trans N0.out); have N1_ := Aside0.mk ((hb.block _ (blk_lt N1.out)).trans N1.out); have HB_ := Aside0.mk (hop HB.out hb); clear N0 N1 HB hb u0 u1 u2 u3 u4 u5 u6 u7 u8 u9 u10 g0 g1; have N0 := N0_; have N1 := N1_; have HB := HB_; clear N0_ N1_ HB_; have u0 := blk_cell N0.out 0; have u1 := blk_cell N0.out 1; have u2 := blk_cell N0.out 2; have u3 := blk_cell N0.out 3; have u4 := blk_cell N0.out 4; have u5 := blk_cell N0.out 5; have u6 := blk_cell N0.out 6; have u7 := blk_cell N0.out 7; have u8 := blk_cell N0.out 8; have u9 := blk_cell N0.out 9; have u10 := blk_cell N0.out 10; have g0 := blk_cell N1.out 0; have g1 := blk_cell N1.out 1))
            go_ret
            rw [HR.out]
            exact ⟨rfl, HB.out⟩
          | false =>
            have HR := Aside0.mk (show levelP r v (wsP r n) (csP r n) = 1 by rw [HL.out]; simp [h3])
            go_enter Try.func51, Try.ntmps51
            go_wp2_with (first
              | (go_at_call 13; (with_reducible refine (H1.out _).mono ?_); rintro e w1 ⟨rfl, hb⟩; have N0_ := Aside0.mk ((hb.block _ (blk_lt N0.out)).trans N0.out); have N1_ := Aside0.mk ((hb.block _ (blk_lt N1.out)).trans N1.out); have HB_ := Aside0.mk (hop HB.out hb); clear N0 N1 HB hb u0 u1 u2 u3 u4 u5 u6 u7 u8 u9 u10 g0 g1; have N0 := N0_; have N1 := N1_; have HB := HB_; clear N0_ N1_ HB_; have u0 := blk_cell N0.out 0; have u1 := blk_cell N0.out 1; have u2 := blk_cell N0.out 2; have u3 := blk_cell N0.out 3; have u4 := blk_cell N0.out 4; have u5 := blk_cell N0.out 5; have u6 := blk_cell N0.out 6; have u7 := blk_cell N0.out 7; have u8 := blk_cell N0.out 8; have u9 := blk_cell N0.out 9; have u10 := blk_cell N0.out 10; have g0 := blk_cell N1.out 0; have g1 := blk_cell N1.out 1)
              | (go_at_call 13; (with_reducible refine (H2.out _).mono ?_); rintro e w1 ⟨rfl, hb⟩; have N0_ := Aside0.mk ((hb.block _ (blk_lt N0.out)).trans N0.out); have N1_ := Aside0.mk ((hb.block _ (blk_lt N1.out)).trans N1.out); have HB_ := Aside0.mk (hop HB.out hb); clear N0 N1 HB hb u0 u1 u2 u3 u4 u5 u6 u7 u8 u9 u10 g0 g1; have N0 := N0_; have N1 := N1_; have HB := HB_; clear N0_ N1_ HB_; have u0 := blk_cell N0.out 0; have u1 := blk_cell N0.out 1; have u2 := blk_cell N0.out 2; have u3 := blk_cell N0.out 3; have u4 := blk_cell N0.out 4; have u5 := blk_cell N0.out 5; have u6 := blk_cell N0.out 6; have u7 := blk_cell N0.out 7; have u8 := blk_cell N0.out 8; have u9 := blk_cell N0.out 9; have u10 := blk_cell N0.out 10; have g0 := blk_cell N1.out 0; have g1 := blk_cell N1.out 1)
              | (go_at_call 13; (with_reducible refine (H3.out _).mono ?_); rintro e w1 ⟨rfl, hb⟩; have N0_ := Aside0.mk ((hb.block _ (blk_lt N0.out)).trans N0.out); have N1_ := Aside0.mk ((hb.block _ (blk_lt N1.out)).trans N1.out); have HB_ := Aside0.mk (hop HB.out hb); clear N0 N1 HB hb u0 u1 u2 u3 u4 u5 u6 u7 u8 u9 u10 g0 g1; have N0 := N0_; have N1 := N1_; have HB := HB_; clear N0_ N1_ HB_; have u0 := blk_cell N0.out 0; have u1 := blk_cell N0.out 1; have u2 := blk_cell N0.out 2; have u3 := blk_cell N0.out 3; have u4 := blk_cell N0.out 4; have u5 := blk_cell N0.out 5; have u6 := blk_cell N0.out 6; have u7 := blk_cell N0.out 7; have u8 := blk_cell N0.out 8; have u9 := blk_cell N0.out 9; have u10 := blk_cell N0.out 10; have g0 := blk_cell N1.out 0; have g1 := blk_cell N1.out 1)
              | (go_at_call 13; (with_reducible refine (H4.out _).mono ?_); rintro e w1 ⟨rfl, hb⟩; have N0_ := Aside0.mk ((hb.block _ (blk_lt N0.out)).trans N0.out); have N1_ := Aside0.mk ((hb.block _ (blk_lt N1.out)).trans N1.out); have HB_ := Aside0.mk (hop HB.out hb); clear N0 N1 HB hb u0 u1 u2 u3 u4 u5 u6 u7 u8 u9 u10 g0 g1; have N0 := N0_; have N1 := N1_; have HB := HB_; clear N0_ N1_ HB_; have u0 := blk_cell N0.out 0; have u1 := blk_cell N0.out 1; have u2 := blk_cell N0.out 2; have u3 := blk_cell N0.out 3; have u4 := blk_cell N0.out 4; have u5 := blk_cell N0.out 5; have u6 := blk_cell N0.out 6; have u7 := blk_cell N0.out 7; have u8 := blk_cell N0.out 8; have u9 := blk_cell N0.out 9; have u10 := blk_cell N0.out 10; have g0 := blk_cell N1.out 0; have g1 := blk_cell N1.out 1))
            go_ret
            rw [HR.out]
            exact ⟨rfl, HB.out⟩
  · have e3 : (n == 3) = false := beq_eq_false_iff_ne.mpr h3
    by_cases h2 : n = 2
    · have e2 : (n == 2) = true := beq_iff_eq.mpr h2
      cases b1 with
      | true =>
        have HR := Aside0.mk (show levelP r v (wsP r n) (csP r n) = 3 by rw [HL.out]; simp [h2])
        go_enter Try.func51, Try.ntmps51
        go_wp2_with (first
          | (go_at_call 13; (with_reducible refine (H1.out _).mono ?_); rintro e w1 ⟨rfl, hb⟩; have N0_ := Aside0.mk ((hb.block _ (blk_lt N0.out)).trans N0.out); have N1_ := Aside0.mk ((hb.block _ (blk_lt N1.out)).trans N1.out); have HB_ := Aside0.mk (hop HB.out hb); clear N0 N1 HB hb u0 u1 u2 u3 u4 u5 u6 u7 u8 u9 u10 g0 g1; have N0 := N0_; have N1 := N1_; have HB := HB_; clear N0_ N1_ HB_; have u0 := blk_cell N0.out 0; have u1 := blk_cell N0.out 1; have u2 := blk_cell N0.out 2; have u3 := blk_cell N0.out 3; have u4 := blk_cell N0.out 4; have u5 := blk_cell N0.out 5; have u6 := blk_cell N0.out 6; have u7 := blk_cell N0.out 7; have u8 := blk_cell N0.out 8; have u9 := blk_cell N0.out 9; have u10 := blk_cell N0.out 10; have g0 := blk_cell N1.out 0; have g1 := blk_cell N1.out 1)
          | (go_at_call 13; (with_reducible refine (H2.out _).mono ?_); rintro e w1 ⟨rfl, hb⟩; have N0_ := Aside0.mk ((hb.block _ (blk_lt N0.out)).trans N0.out); have N1_ := Aside0.mk ((hb.block _ (blk_lt N1.out)).trans N1.out); have HB_ := Aside0.mk (hop HB.out hb); clear N0 N1 HB hb u0 u1 u2 u3 u4 u5 u6 u7 u8 u9 u10 g0 g1; have N0 := N0_; have N1 := N1_; have HB := HB_; clear N0_ N1_ HB_; have u0 := blk_cell N0.out 0; have u1 := blk_cell N0.out 1; have u2 := blk_cell N0.out 2; have u3 := blk_cell N0.out 3; have u4 := blk_cell N0.out 4; have u5 := blk_cell N0.out 5; have u6 := blk_cell N0.out 6; have u7 := blk_cell N0.out 7; have u8 := blk_cell N0.out 8; have u9 := blk_cell N0.out 9; have u10 := blk_cell N0.out 10; have g0 := blk_cell N1.out 0; have g1 := blk_cell N1.out 1)
          | (go_at_call 13; (with_reducible refine (H3.out _).mono ?_); rintro e w1 ⟨rfl, hb⟩; have N0_ := Aside0.mk ((hb.block _ (blk_lt N0.out)).trans N0.out); have N1_ := Aside0.mk ((hb.block _ (blk_lt N1.out)).trans N1.out); have HB_ := Aside0.mk (hop HB.out hb); clear N0 N1 HB hb u0 u1 u2 u3 u4 u5 u6 u7 u8 u9 u10 g0 g1; have N0 := N0_; have N1 := N1_; have HB := HB_; clear N0_ N1_ HB_; have u0 := blk_cell N0.out 0; have u1 := blk_cell N0.out 1; have u2 := blk_cell N0.out 2; have u3 := blk_cell N0.out 3; have u4 := blk_cell N0.out 4; have u5 := blk_cell N0.out 5; have u6 := blk_cell N0.out 6; have u7 := blk_cell N0.out 7; have u8 := blk_cell N0.out 8; have u9 := blk_cell N0.out 9; have u10 := blk_cell N0.out 10; have g0 := blk_cell N1.out 0; have g1 := blk_cell N1.out 1)
          | (go_at_call 13; (with_reducible refine (H4.out _).mono ?_); rintro e w1 ⟨rfl, hb⟩; have N0_ := Aside0.mk ((hb.block _ (blk_lt N0.out)).trans N0.out); have N1_ := Aside0.mk ((hb.block _ (blk_lt N1.out)).trans N1.out); have HB_ := Aside0.mk (hop HB.out hb); clear N0 N1 HB hb u0 u1 u2 u3 u4 u5 u6 u7 u8 u9 u10 g0 g1; have N0 := N0_; have N1 := N1_; have HB := HB_; clear N0_ N1_ HB_; have u0 := blk_cell N0.out 0; have u1 := blk_cell N0.out 1; have u2 := blk_cell N0.out 2; have u3 := blk_cell N0.out 3; have u4 := blk_cell N0.out 4; have u5 := blk_cell N0.out 5; have u6 := blk_cell N0.out 6; have u7 := blk_cell N0.out 7; have u8 := blk_cell N0.out 8; have u9 := blk_cell N0.out 9; have u10 := blk_cell N0.out 10; have g0 := blk_cell N1.out 0; have g1 := blk_cell N1.out 1))
        go_ret
        rw [HR.out]
        exact ⟨rfl, HB.out⟩
      | false =>
        cases b3 with
        | true =>
          have HR := Aside0.mk (show levelP r v (wsP r n) (csP r n) = 2 by rw [HL.out]; simp [h2])
          go_enter Try.func51, Try.ntmps51
          go_wp2_with (first
            | (go_at_call 13; (with_reducible refine (H1.out _).mono ?_); rintro e w1 ⟨rfl, hb⟩; have N0_ := Aside0.mk ((hb.block _ (blk_lt N0.out)).trans N0.out); have N1_ := Aside0.mk ((hb.block _ (blk_lt N1.out)).trans N1.out); have HB_ := Aside0.mk (hop HB.out hb); clear N0 N1 HB hb u0 u1 u2 u3 u4 u5 u6 u7 u8 u9 u10 g0 g1; have N0 := N0_; have N1 := N1_; have HB := HB_; clear N0_ N1_ HB_; have u0 := blk_cell N0.out 0; have u1 := blk_cell N0.out 1; have u2 := blk_cell N0.out 2; have u3 := blk_cell N0.out 3; have u4 := blk_cell N0.out 4; have u5 := blk_cell N0.out 5; have u6 := blk_cell N0.out 6; have u7 := blk_cell N0.out 7; have u8 := blk_cell N0.out 8; have u9 := blk_cell N0.out 9; have u10 := blk_cell N0.out 10; have g0 := blk_cell N1.out 0; have g1 := blk_cell N1.out 1)
            | (go_at_call 13; (with_reducible refine (H2.out _).mono ?_); rintro e w1 ⟨rfl, hb⟩; have N0_ := Aside0.mk ((hb.block _ (blk_lt N0.out)).trans N0.out); have N1_ := Aside0.mk ((hb.block _ (blk_lt N1.out)).trans N1.out); have HB_ := Aside0.mk (hop HB.out hb); clear N0 N1 HB hb u0 u1 u2 u3 u4 u5 u6 u7 u8 u9 u10 g0 g1; have N0 := N0_; have N1 := N1_; have HB := HB_; clear N0_ N1_ HB_; have u0 := blk_cell N0.out 0; have u1 := blk_cell N0.out 1; have u2 := blk_cell N0.out 2; have u3 := blk_cell N0.out 3; have u4 := blk_cell N0.out 4; have u5 := blk_cell N0.out 5; have u6 := blk_cell N0.out 6; have u7 := blk_cell N0.out 7; have u8 := blk_cell N0.out 8; have u9 := blk_cell N0.out 9; have u10 := blk_cell N0.out 10; have g0 := blk_cell N1.out 0; have g1 := blk_cell N1.out 1)
            | (go_at_call 13; (with_reducible refine (H3.out _).mono ?_); rintro e w1 ⟨rfl, hb⟩; have N0_ := Aside0.mk ((hb.block _ (blk_lt N0.out)).trans N0.out); have N1_ := Aside0.mk ((hb.block _ (blk_lt N1.out)).trans N1.out); have HB_ := Aside0.mk (hop HB.out hb); clear N0 N1 HB hb u0 u1 u2 u3 u4 u5 u6 u7 u8 u9 u10 g0 g1; have N0 := N0_; have N1 := N1_; have HB := HB_; clear N0_ N1_ HB_; have u0 := blk_cell N0.out 0; have u1 := blk_cell N0.out 1; have u2 := blk_cell N0.out 2; have u3 := blk_cell N0.out 3; have u4 := blk_cell N0.out 4; have u5 := blk_cell N0.out 5; have u6 := blk_cell N0.out 6; have u7 := blk_cell N0.out 7; have u8 := blk_cell N0.out 8; have u9 := blk_cell N0.out 9; have u10 := blk_cell N0.out 10; have g0 := blk_cell N1.out 0; have g1 := blk_cell N1.out 1)
            | (go_at_call 13; (with_reducible refine (H4.out _).mono ?_); rintro e w1 ⟨rfl, hb⟩; have N0_ := Aside0.mk ((hb.block _ (blk_lt N0.out)).trans N0.out); have N1_ := Aside0.mk ((hb.block _ (blk_lt N1.out)).trans N1.out); have HB_ := Aside0.mk (hop HB.out hb); clear N0 N1 HB hb u0 u1 u2 u3 u4 u5 u6 u7 u8 u9 u10 g0 g1; have N0 := N0_; have N1 := N1_; have HB := HB_; clear N0_ N1_ HB_; have u0 := blk_cell N0.out 0; have u1 := blk_cell N0.out 1; have u2 := blk_cell N0.out 2; have u3 := blk_cell N0.out 3; have u4 := blk_cell N0.out 4; have u5 := blk_cell N0.out 5; have u6 := blk_cell N0.out 6; have u7 := blk_cell N0.out 7; have u8 := blk_cell N0.out 8; have u9 := blk_cell N0.out 9; have u10 := blk_cell N0.out 10; have g0 := blk_cell N1.out 0; have g1 := blk_cell N1.out 1))
          go_ret
          rw [HR.out]
          exact ⟨rfl, HB.out⟩
        | false =>
          cases b4 with
          | true =>
            have HR := Aside0.mk (show levelP r v (wsP r n) (csP r n) = 2 by rw [HL.out]; simp [h2])
            go_enter Try.func51, Try.ntmps51
            go_wp2_with (first
              | (go_at_call 13; (with_reducible refine (H1.out _).mono ?_); rintro e w1 ⟨rfl, hb⟩; have N0_ := Aside0.mk ((hb.block _ (blk_lt N0.out)).trans N0.out); have N1_ := Aside0.mk ((hb.block _ (blk_lt N1.out)).trans N1.out); have HB_ := Aside0.mk (hop HB.out hb); clear N0 N1 HB hb u0 u1 u2 u3 u4 u5 u6 u7 u8 u9 u10 g0 g1; have N0 := N0_; have N1 := N1_; have HB := HB_; clear N0_ N1_ HB_; have u0 := blk_cell N0.out 0; have u1 := blk_cell N0.out 1; have u2 := blk_cell N0.out 2; have u3 := blk_cell N0.out 3; have u4 := blk_cell N0.out 4; have u5 := blk_cell N0.out 5; have u6 := blk_cell N0.out 6; have u7 := blk_cell N0.out 7; have u8 := blk_cell N0.out 8; have u9 := blk_cell N0.out 9; have u10 := blk_cell N0.out 10; have g0 := blk_cell N1.out 0; have g1 := blk_cell N1.out 1)
              | (go_at_call 13; (with_reducible refine (H2.out _).mono ?_); rintro e w1 ⟨rfl, hb⟩; have N0_ := Aside0.mk ((hb.block _ (blk_lt N0.out)).trans N0.out); have N1_ := Aside0.mk ((hb.block _ (blk_lt N1.out)).trans N1.out); have HB_ := Aside0.mk (hop HB.out hb); clear N0 N1 HB hb u0 u1 u2 u3 u4 u5 u6 u7 u8 u9 u10 g0 g1; have N0 := N0_; have N1 := N1_; have HB := HB_; clear N0_ N1_ HB_; have u0 := blk_cell N0.out 0; have u1 := blk_cell N0.out 1; have u2 := blk_cell N0.out 2; have u3 := blk_cell N0.out 3; have u4 := blk_cell N0.out 4; have u5 := blk_cell N0.out 5; have u6 := blk_cell N0.out 6; have u7 := blk_cell N0.out 7; have u8 := blk_cell N0.out 8; have u9 := blk_cell N0.out 9; have u10 := blk_cell N0.out 10; have g0 := blk_cell N1.out 0; have g1 := blk_cell N1.out 1)
              | (go_at_call 13; (with_reducible refine (H3.out _).mono ?_); rintro e w1 ⟨rfl, hb⟩; have N0_ := Aside0.mk ((hb.block _ (blk_lt N0.out)).trans N0.out); have N1_ := Aside0.mk ((hb.block _ (blk_lt N1.out)).trans N1.out); have HB_ := Aside0.mk (hop HB.out hb); clear N0 N1 HB hb u0 u1 u2 u3 u4 u5 u6 u7 u8 u9 u10 g0 g1; have N0 := N0_; have N1 := N1_; have HB := HB_; clear N0_ N1_ HB_; have u0 := blk_cell N0.out 0; have u1 := blk_cell N0.out 1; have u2 := blk_cell N0.out 2; have u3 := blk_cell N0.out 3; have u4 := blk_cell N0.out 4; have u5 := blk_cell N0.out 5; have u6 := blk_cell N0.out 6; have u7 := blk_cell N0.out 7; have u8 := blk_cell N0.out 8; have u9 := blk_cell N0.out 9; have u10 := blk_cell N0.out 10; have g0 := blk_cell N1.out 0; have g1 := blk_cell N1.out 1)
              | (go_at_call 13; (with_reducible refine (H4.out _).mono ?_); rintro e w1 ⟨rfl, hb⟩; have N0_ := Aside0.mk ((hb.block _ (blk_lt N0.out)).trans N0.out); have N1_ := Aside0.mk ((hb.block _ (blk_lt N1.out)).trans N1.out); have HB_ := Aside0.mk (hop HB.out hb); clear N0 N1 HB hb u0 u1 u2 u3 u4 u5 u6 u7 u8 u9 u10 g0 g1; have N0 := N0_; have N1 := N1_; have HB := HB_; clear N0_ N1_ HB_; have u0 := blk_cell N0.out 0; have u1 := blk_cell N0.out 1; have u2 := blk_cell N0.out 2; have u3 := blk_cell N0.out 3; have u4 := blk_cell N0.out 4; have u5 := blk_cell N0.out 5; have u6 := blk_cell N0.out 6; have u7 := blk_cell N0.out 7; have u8 := blk_cell N0.out 8; have u9 := blk_cell N0.out 9; have u10 := blk_cell N0.out 10; have g0 := blk_cell N1.out 0; have g1 := blk_cell N1.out 1))
            go_ret
            rw [HR.out]
            exact ⟨rfl, HB.out⟩
          | false =>
            have HR := Aside0.mk (show levelP r v (wsP r n) (csP r n) = 1 by rw [HL.out]; simp [h2])
            go_enter Try.func51, Try.ntmps51
            go_wp2_with (first
              | (go_at_call 13; (with_reducible refine (H1.out _).mono ?_); rintro e w1 ⟨rfl, hb⟩; have N0_ := Aside0.mk ((hb.block _ (blk_lt N0.out)).trans N0.out); have N1_ := Aside0.mk ((hb.block _ (blk_lt N1.out)).trans N1.out); have HB_ := Aside0.mk (hop HB.out hb); clear N0 N1 HB hb u0 u1 u2 u3 u4 u5 u6 u7 u8 u9 u10 g0 g1; have N0 := N0_; have N1 := N1_; have HB := HB_; clear N0_ N1_ HB_; have u0 := blk_cell N0.out 0; have u1 := blk_cell N0.out 1; have u2 := blk_cell N0.out 2; have u3 := blk_cell N0.out 3; have u4 := blk_cell N0.out 4; have u5 := blk_cell N0.out 5; have u6 := blk_cell N0.out 6; have u7 := blk_cell N0.out 7; have u8 := blk_cell N0.out 8; have u9 := blk_cell N0.out 9; have u10 := blk_cell N0.out 10; have g0 := blk_cell N1.out 0; have g1 := blk_cell N1.out 1)
              | (go_at_call 13; (with_reducible refine (H2.out _).mono ?_); rintro e w1 ⟨rfl, hb⟩; have N0_ := Aside0.mk ((hb.block _ (blk_lt N0.out)).trans N0.out); have N1_ := Aside0.mk ((hb.block _ (blk_lt N1.out)).trans N1.out); have HB_ := Aside0.mk (hop HB.out hb); clear N0 N1 HB hb u0 u1 u2 u3 u4 u5 u6 u7 u8 u9 u10 g0 g1; have N0 := N0_; have N1 := N1_; have HB := HB_; clear N0_ N1_ HB_; have u0 := blk_cell N0.out 0; have u1 := blk_cell N0.out 1; have u2 := blk_cell N0.out 2; have u3 := blk_cell N0.out 3; have u4 := blk_cell N0.out 4; have u5 := blk_cell N0.out 5; have u6 := blk_cell N0.out 6; have u7 := blk_cell N0.out 7; have u8 := blk_cell N0.out 8; have u9 := blk_cell N0.out 9; have u10 := blk_cell N0.out 10; have g0 := blk_cell N1.out 0; have g1 := blk_cell N1.out 1)
              | (go_at_call 13; (with_reducible refine (H3.out _).mono ?_); rintro e w1 ⟨rfl, hb⟩; have N0_ := Aside0.mk ((hb.block _ (blk_lt N0.out)).trans N0.out); have N1_ := Aside0.mk ((hb.block _ (blk_lt N1.out)).trans N1.out); have HB_ := Aside0.mk (hop HB.out hb); clear N0 N1 HB hb u0 u1 u2 u3 u4 u5 u6 u7 u8 u9 u10 g0 g1; have N0 := N0_; have N1 := N1_; have HB := HB_; clear N0_ N1_ HB_; have u0 := blk_cell N0.out 0; have u1 := blk_cell N0.out 1; have u2 := blk_cell N0.out 2; have u3 := blk_cell N0.out 3; have u4 := blk_cell N0.out 4; have u5 := blk_cell N0.out 5; have u6 := blk_cell N0.out 6; have u7 := blk_cell N0.out 7; have u8 := blk_cell N0.out 8; have u9 := blk_cell N0.out 9; have u10 := blk_cell N0.out 10; have g0 := blk_cell N1.out 0; have g1 := blk_cell N1.out 1)
              | (go_at_call 13; (with_reducible refine (H4.out _).mono ?_); rintro e w1 ⟨rfl, hb⟩; have N0_ := Aside0.mk ((hb.block _ (blk_lt N0.out)).trans N0.out); have N1_ := Aside0.mk ((hb.block _ (blk_lt N1.out)).trans N1.out); have HB_ := Aside0.mk (hop HB.out hb); clear N0 N1 HB hb u0 u1 u2 u3 u4 u5 u6 u7 u8 u9 u10 g0 g1; have N0 := N0_; have N1 := N1_; have HB := HB_; clear N0_ N1_ HB_; have u0 := blk_cell N0.out 0; have u1 := blk_cell N0.out 1; have u2 := blk_cell N0.out 2; have u3 := blk_cell N0.out 3; have u4 := blk_cell N0.out 4; have u5 := blk_cell N0.out 5; have u6 := blk_cell N0.out 6; have u7 := blk_cell N0.out 7; have u8 := blk_cell N0.out 8; have u9 := blk_cell N0.out 9; have u10 := blk_cell N0.out 10; have g0 := blk_cell N1.out 0; have g1 := blk_cell N1.out 1))
            go_ret
            rw [HR.out]
            exact ⟨rfl, HB.out⟩
    · have e2 : (n == 2) = false := beq_eq_false_iff_ne.mpr h2
      cases b1 with
      | true =>
        have HR := Aside0.mk (show levelP r v (wsP r n) (csP r n) = 3 by rw [HL.out]; simp [h2, h3])
        go_enter Try.func51, Try.ntmps51
        go_wp2_with (first
          | (go_at_call 13; (with_reducible refine (H1.out _).mono ?_); rintro e w1 ⟨rfl, hb⟩; have N0_ := Aside0.mk ((hb.block _ (blk_lt N0.out)).trans N0.out); have N1_ := Aside0.mk ((hb.block _ (blk_lt N1.out)).trans N1.out); have HB_ := Aside0.mk (hop HB.out hb); clear N0 N1 HB hb u0 u1 u2 u3 u4 u5 u6 u7 u8 u9 u10 g0 g1; have N0 := N0_; have N1 := N1_; have HB := HB_; clear N0_ N1_ HB_; have u0 := blk_cell N0.out 0; have u1 := blk_cell N0.out 1; have u2 := blk_cell N0.out 2; have u3 := blk_cell N0.out 3; have u4 := blk_cell N0.out 4; have u5 := blk_cell N0.out 5; have u6 := blk_cell N0.out 6; have u7 := blk_cell N0.out 7; have u8 := blk_cell N0.out 8; have u9 := blk_cell N0.out 9; have u10 := blk_cell N0.out 10; have g0 := blk_cell N1.out 0; have g1 := blk_cell N1.out 1)
          | (go_at_call 13; (with_reducible refine (H2.out _).mono ?_); rintro e w1 ⟨rfl, hb⟩; have N0_ := Aside0.mk ((hb.block _ (blk_lt N0.out)).trans N0.out); have N1_ := Aside0.mk ((hb.block _ (blk_lt N1.out)).trans N1.out); have HB_ := Aside0.mk (hop HB.out hb); clear N0 N1 HB hb u0 u1 u2 u3 u4 u5 u6 u7 u8 u9 u10 g0 g1; have N0 := N0_; have N1 := N1_; have HB := HB_; clear N0_ N1_ HB_; have u0 := blk_cell N0.out 0; have u1 := blk_cell N0.out 1; have u2 := blk_cell N0.out 2; have u3 := blk_cell N0.out 3; have u4 := blk_cell N0.out 4; have u5 := blk_cell N0.out 5; have u6 := blk_cell N0.out 6; have u7 := blk_cell N0.out 7; have u8 := blk_cell N0.out 8; have u9 := blk_cell N0.out 9; have u10 := blk_cell N0.out 10; have g0 := blk_cell N1.out 0; have g1 := blk_cell N1.out 1)
          | (go_at_call 13; (with_reducible refine (H3.out _).mono ?_); rintro e w1 ⟨rfl, hb⟩; have N0_ := Aside0.mk ((hb.block _ (blk_lt N0.out)).trans N0.out); have N1_ := Aside0.mk ((hb.block _ (blk_lt N1.out)).trans N1.out); have HB_ := Aside0.mk (hop HB.out hb); clear N0 N1 HB hb u0 u1 u2 u3 u4 u5 u6 u7 u8 u9 u10 g0 g1; have N0 := N0_; have N1 := N1_; have HB := HB_; clear N0_ N1_ HB_; have u0 := blk_cell N0.out 0; have u1 := blk_cell N0.out 1; have u2 := blk_cell N0.out 2; have u3 := blk_cell N0.out 3; have u4 := blk_cell N0.out 4; have u5 := blk_cell N0.out 5; have u6 := blk_cell N0.out 6; have u7 := blk_cell N0.out 7; have u8 := blk_cell N0.out 8; have u9 := blk_cell N0.out 9; have u10 := blk_cell N0.out 10; have g0 := blk_cell N1.out 0; have g1 := blk_cell N1.out 1)
          | (go_at_call 13; (with_reducible refine (H4.out _).mono ?_); rintro e w1 ⟨rfl, hb⟩; have N0_ := Aside0.mk ((hb.block _ (blk_lt N0.out)).trans N0.out); have N1_ := Aside0.mk ((hb.block _ (blk_lt N1.out)).trans N1.out); have HB_ := Aside0.mk (hop HB.out hb); clear N0 N1 HB hb u0 u1 u2 u3 u4 u5 u6 u7 u8 u9 u10 g0 g1; have N0 := N0_; have N1 := N1_; have HB := HB_; clear N0_ N1_ HB_; have u0 := blk_cell N0.out 0; have u1 := blk_cell N0.out 1; have u2 := blk_cell N0.out 2; have u3 := blk_cell N0.out 3; have u4 := blk_cell N0.out 4; have u5 := blk_cell N0.out 5; have u6 := blk_cell N0.out 6; have u7 := blk_cell N0.out 7; have u8 := blk_cell N0.out 8; have u9 := blk_cell N0.out 9; have u10 := blk_cell N0.out 10; have g0 := blk_cell N1.out 0; have g1 := blk_cell N1.out 1))
        go_ret
        rw [HR.out]
        exact ⟨rfl, HB.out⟩
      | false =>
        cases b3 with
        | true =>
          have HR := Aside0.mk (show levelP r v (wsP r n) (csP r n) = 2 by rw [HL.out]; simp [h2, h3])
          go_enter Try.func51, Try.ntmps51
          go_wp2_with (first
            | (go_at_call 13; (with_reducible refine (H1.out _).mono ?_); rintro e w1 ⟨rfl, hb⟩; have N0_ := Aside0.mk ((hb.block _ (blk_lt N0.out)).trans N0.out); have N1_ := Aside0.mk ((hb.block _ (blk_lt N1.out)).trans N1.out); have HB_ := Aside0.mk (hop HB.out hb); clear N0 N1 HB hb u0 u1 u2 u3 u4 u5 u6 u7 u8 u9 u10 g0 g1; have N0 := N0_; have N1 := N1_; have HB := HB_; clear N0_ N1_ HB_; have u0 := blk_cell N0.out 0; have u1 := blk_cell N0.out 1; have u2 := blk_cell N0.out 2; have u3 := blk_cell N0.out 3; have u4 := blk_cell N0.out 4; have u5 := blk_cell N0.out 5; have u6 := blk_cell N0.out 6; have u7 := blk_cell N0.out 7; have u8 := blk_cell N0.out 8; have u9 := blk_cell N0.out 9; have u10 := blk_cell N0.out 10; have g0 := blk_cell N1.out 0; have g1 := blk_cell N1.out 1)
            | (go_at_call 13; (with_reducible refine (H2.out _).mono ?_); rintro e w1 ⟨rfl, hb⟩; have N0_ := Aside0.mk ((hb.block _ (blk_lt N0.out)).trans N0.out); have N1_ := Aside0.mk ((hb.block _ (blk_lt N1.out)).trans N1.out); have HB_ := Aside0.mk (hop HB.out hb); clear N0 N1 HB hb u0 u1 u2 u3 u4 u5 u6 u7 u8 u9 u10 g0 g1; have N0 := N0_; have N1 := N1_; have HB := HB_; clear N0_ N1_ HB_; have u0 := blk_cell N0.out 0; have u1 := blk_cell N0.out 1; have u2 := blk_cell N0.out 2; have u3 := blk_cell N0.out 3; have u4 := blk_cell N0.out 4; have u5 := blk_cell N0.out 5; have u6 := blk_cell N0.out 6; have u7 := blk_cell N0.out 7; have u8 := blk_cell N0.out 8; have u9 := blk_cell N0.out 9; have u10 := blk_cell N0.out 10; have g0 := blk_cell N1.out 0; have g1 := blk_cell N1.out 1)
            | (go_at_call 13; (with_reducible refine (H3.out _).mono ?_); rintro e w1 ⟨rfl, hb⟩; have N0_ := Aside0.mk ((hb.block _ (blk_lt N0.out)).trans N0.out); have N1_ := Aside0.mk ((hb.block _ (blk_lt N1.out)).trans N1.out); have HB_ := Aside0.mk (hop HB.out hb); clear N0 N1 HB hb u0 u1 u2 u3 u4 u5 u6 u7 u8 u9 u10 g0 g1; have N0 := N0_; have N1 := N1_; have HB := HB_; clear N0_ N1_ HB_; have u0 := blk_cell N0.out 0; have u1 := blk_cell N0.out 1; have u2 := blk_cell N0.out 2; have u3 := blk_cell N0.out 3; have u4 := blk_cell N0.out 4; have u5 := blk_cell N0.out 5; have u6 := blk_cell N0.out 6; have u7 := blk_cell N0.out 7; have u8 := blk_cell N0.out 8; have u9 := blk_cell N0.out 9; have u10 := blk_cell N0.out 10; have g0 := blk_cell N1.out 0; have g1 := blk_cell N1.out 1)
            | (go_at_call 13; (with_reducible refine (H4.out _).mono ?_); rintro e w1 ⟨rfl, hb⟩; have N0_ := Aside0.mk ((hb.block _ (blk_lt N0.out)).trans N0.out); have N1_ := Aside0.mk ((hb.block _ (blk_lt N1.out)).trans N1.out); have HB_ := Aside0.mk (hop HB.out hb); clear N0 N1 HB hb u0 u1 u2 u3 u4 u5 u6 u7 u8 u9 u10 g0 g1; have N0 := N0_; have N1 := N1_; have HB := HB_; clear N0_ N1_ HB_; have u0 := blk_cell N0.out 0; have u1 := blk_cell N0.out 1; have u2 := blk_cell N0.out 2; have u3 := blk_cell N0.out 3; have u4 := blk_cell N0.out 4; have u5 := blk_cell N0.out 5; have u6 := blk_cell N0.out 6; have u7 := blk_cell N0.out 7; have u8 := blk_cell N0.out 8; have u9 := blk_cell N0.out 9; have u10 := blk_cell N0.out 10; have g0 := blk_cell N1.out 0; have g1 := blk_cell N1.out 1))
          go_ret
          rw [HR.out]
          exact ⟨rfl, HB.out⟩
        | false =>
          have HR := Aside0.mk (show levelP r v (wsP r n) (csP r n) = 1 by rw [HL.out]; simp [h2, h3])
          go_enter Try.func51, Try.ntmps51
          go_wp2_with (first
            | (go_at_call 13; (with_reducible refine (H1.out _).mono ?_); rintro e w1 ⟨rfl, hb⟩; have N0_ := Aside0.mk ((hb.block _ (blk_lt N0.out)).trans N0.out); have N1_ := Aside0.mk ((hb.block _ (blk_lt N1.out)).trans N1.out); have HB_ := Aside0.mk (hop HB.out hb); clear N0 N1 HB hb u0 u1 u2 u3 u4 u5 u6 u7 u8 u9 u10 g0 g1; have N0 := N0_; have N1 := N1_; have HB := HB_; clear N0_ N1_ HB_; have u0 := blk_cell N0.out 0; have u1 := blk_cell N0.out 1; have u2 := blk_cell N0.out 2; have u3 := blk_cell N0.out 3; have u4 := blk_cell N0.out 4; have u5 := blk_cell N0.out 5; have u6 := blk_cell N0.out 6; have u7 := blk_cell N0.out 7; have u8 := blk_cell N0.out 8; have u9 := blk_cell N0.out 9; have u10 := blk_cell N0.out 10; have g0 := blk_cell N1.out 0; have g1 := blk_cell N1.out 1)
            | (go_at_call 13; (with_reducible refine (H2.out _).mono ?_); rintro e w1 ⟨rfl, hb⟩; have N0_ := Aside0.mk ((hb.block _ (blk_lt N0.out)).trans N0.out); have N1_ := Aside0.mk ((hb.block _ (blk_lt N1.out)).trans N1.out); have HB_ := Aside0.mk (hop HB.out hb); clear N0 N1 HB hb u0 u1 u2 u3 u4 u5 u6 u7 u8 u9 u10 g0 g1; have N0 := N0_; have N1 := N1_; have HB := HB_; clear N0_ N1_ HB_; have u0 := blk_cell N0.out 0; have u1 := blk_cell N0.out 1; have u2 := blk_cell N0.out 2; have u3 := blk_cell N0.out 3; have u4 := blk_cell N0.out 4; have u5 := blk_cell N0.out 5; have u6 := blk_cell N0.out 6; have u7 := blk_cell N0.out 7; have u8 := blk_cell N0.out 8; have u9 := blk_cell N0.out 9; have u10 := blk_cell N0.out 10; have g0 := blk_cell N1.out 0; have g1 := blk_cell N1.out 1)
            | (go_at_call 13; (with_reducible refine (H3.out _).mono ?_); rintro e w1 ⟨rfl, hb⟩; have N0_ := Aside0.mk ((hb.block _ (blk_lt N0.out)).trans N0.out); have N1_ := Aside0.mk ((hb.block _ (blk_lt N1.out)).trans N1.out); have HB_ := Aside0.mk (hop HB.out hb); clear N0 N1 HB hb u0 u1 u2 u3 u4 u5 u6 u7 u8 u9 u10 g0 g1; have N0 := N0_; have N1 := N1_; have HB := HB_; clear N0_ N1_ HB_; have u0 := blk_cell N0.out 0; have u1 := blk_cell N0.out 1; have u2 := blk_cell N0.out 2; have u3 := blk_cell N0.out 3; have u4 := blk_cell N0.out 4; have u5 := blk_cell N0.out 5; have u6 := blk_cell N0.out 6; have u7 := blk_cell N0.out 7; have u8 := blk_cell N0.out 8; have u9 := blk_cell N0.out 9; have u10 := blk_cell N0.out 10; have g0 := blk_cell N1.out 0; have g1 := blk_cell N1.out 1)
            | (go_at_call 13; (with_reducible refine (H4.out _).mono ?_); rintro e w1 ⟨rfl, hb⟩; have N0_ := Aside0.mk ((hb.block _ (blk_lt N0.out)).trans N0.out); have N1_ := Aside0.mk ((hb.block _ (blk_lt N1.out)).trans N1.out); have HB_ := Aside0.mk (hop HB.out hb); clear N0 N1 HB hb u0 u1 u2 u3 u4 u5 u6 u7 u8 u9 u10 g0 g1; have N0 := N0_; have N1 := N1_; have HB := HB_; clear N0_ N1_ HB_; have u0 := blk_cell N0.out 0; have u1 := blk_cell N0.out 1; have u2 := blk_cell N0.out 2; have u3 := blk_cell N0.out 3; have u4 := blk_cell N0.out 4; have u5 := blk_cell N0.out 5; have u6 := blk_cell N0.out 6; have u7 := blk_cell N0.out 7; have u8 := blk_cell N0.out 8; have u9 := blk_cell N0.out 9; have u10 := blk_cell N0.out 10; have g0 := blk_cell N1.out 0; have g1 := blk_cell N1.out 1))
          go_ret
          rw [HR.out]
          exact ⟨rfl, HB.out⟩
end Go.Proofs.Ytadmigijbfdboaa.Q
