import Derived.Test.YtadmigijbfdboaaLTwo
namespace Go.Proofs.Ytadmigijbfdboaa.Q
open Go.RowKit Go.Proofs.YtadmigijbfdboaaW.PrintWords Go.Proofs.YtadmigijbfdboaaW.PrintLast Go.Proofs.YtadmigijbfdboaaW.PrintMore Go.Proofs.YtadmigijbfdboaaV
set_option linter.unusedVariables false
set_option linter.unusedSimpArgs false

set_option maxHeartbeats 3200000 in
set_option maxRecDepth 4000 in
theorem law_AlarmApart_not (w : World) {a c : Rul} (ha : RulIn a) (hc : RulIn c) (hm : ¬ (MayP a ∧ MayP c ∧ a.name ≠ c.name)) (S0 : Option Addr) (c0 n0 : Nat) :
    Calls Try.prog 7 #[.agg (ruleA a), .agg (ruleA c), .slice S0 n0 c0] w fun e w' => e = .returned (.bool true) ∧ Below w.heap.size w w' := by
  have HMa := Aside0.mk (fun W => ref_May W a ha)
  have HMc := Aside0.mk (fun W => ref_May W c hc)
  have N0 := Aside0.mk (blk_alloc (heap_alloc_new w (.cells (ruleA a) 26 (0, 0))) (.cells (ruleA c) 26 (0, 0)))
  have N1 := Aside0.mk (heap_alloc2_new w (.cells (ruleA a) 26 (0, 0)) (.cells (ruleA c) 26 (0, 0)))
  have hb0 := (Below.refl w.heap.size w).alloc (Nat.le_refl _) (.cells (ruleA a) 26 (0, 0))
  have HB := Aside0.mk (hb0.alloc hb0.size (.cells (ruleA c) 26 (0, 0)))
  clear hb0
  have x0 := blk_cell N0.out 0
  have x1 := blk_cell N0.out 1
  have x2 := blk_cell N0.out 2
  have x3 := blk_cell N0.out 3
  have x4 := blk_cell N0.out 4
  have x5 := blk_cell N0.out 5
  have x6 := blk_cell N0.out 6
  have x7 := blk_cell N0.out 7
  have x8 := blk_cell N0.out 8
  have x9 := blk_cell N0.out 9
  have x10 := blk_cell N0.out 10
  have y0 := blk_cell N1.out 0
  have y1 := blk_cell N1.out 1
  have y2 := blk_cell N1.out 2
  have y3 := blk_cell N1.out 3
  have y4 := blk_cell N1.out 4
  have y5 := blk_cell N1.out 5
  have y6 := blk_cell N1.out 6
  have y7 := blk_cell N1.out 7
  have y8 := blk_cell N1.out 8
  have y9 := blk_cell N1.out 9
  have y10 := blk_cell N1.out 10
  by_cases h1 : MayP a
  · by_cases h2 : MayP c
    · have hn : a.name = c.name := Classical.byContradiction fun q => hm ⟨h1, h2, q⟩
      have en := toL_yes hn
      rw [decide_eq_true h1] at HMa
      rw [decide_eq_true h2] at HMc
      clear hm h1 h2 hn ha hc
      unfold ruleA at HMa HMc N0 N1 HB x0 y0 x1 y1 x2 y2 x3 y3 x4 y4 x5 y5 x6 y6 x7 y7 x8 y8 x9 y9 x10 y10 ⊢
      go_enter Try.func7, Try.ntmps7
      go_wp2_with (first
        | (go_at_call 22; (with_reducible refine (HMa.out _).mono ?_); rintro e w1 ⟨rfl, hb⟩; (try clear u0 v0 u1 v1 u2 v2 u3 v3 u4 v4 u5 v5 u6 v6 u7 v7 u8 v8 u9 v9 u10 v10); have N0_ := Aside0.mk ((hb.block _ (blk_lt N0.out)).trans N0.out); have N1_ := Aside0.mk ((hb.block _ (blk_lt N1.out)).trans N1.out); have HB_ := Aside0.mk (hop HB.out hb); clear N0 N1 HB hb; have N0 := N0_; have N1 := N1_; have HB := HB_; clear N0_ N1_ HB_; have u0 := blk_cell N0.out 0; have v0 := blk_cell N1.out 0; have u1 := blk_cell N0.out 1; have v1 := blk_cell N1.out 1; have u2 := blk_cell N0.out 2; have v2 := blk_cell N1.out 2; have u3 := blk_cell N0.out 3; have v3 := blk_cell N1.out 3; have u4 := blk_cell N0.out 4; have v4 := blk_cell N1.out 4; have u5 := blk_cell N0.out 5; have v5 := blk_cell N1.out 5; have u6 := blk_cell N0.out 6; have v6 := blk_cell N1.out 6; have u7 := blk_cell N0.out 7; have v7 := blk_cell N1.out 7; have u8 := blk_cell N0.out 8; have v8 := blk_cell N1.out 8; have u9 := blk_cell N0.out 9; have v9 := blk_cell N1.out 9; have u10 := blk_cell N0.out 10; have v10 := blk_cell N1.out 10)
        | (go_at_call 22; (with_reducible refine (HMc.out _).mono ?_); rintro e w1 ⟨rfl, hb⟩; (try clear u0 v0 u1 v1 u2 v2 u3 v3 u4 v4 u5 v5 u6 v6 u7 v7 u8 v8 u9 v9 u10 v10); have N0_ := Aside0.mk ((hb.block _ (blk_lt N0.out)).trans N0.out); have N1_ := Aside0.mk ((hb.block _ (blk_lt N1.out)).trans N1.out); have HB_ := Aside0.mk (hop HB.out hb); clear N0 N1 HB hb; have N0 := N0_; have N1 := N1_; have HB := HB_; clear N0_ N1_ HB_; have u0 := blk_cell N0.out 0; have v0 := blk_cell N1.out 0; have u1 := blk_cell N0.out 1; have v1 := blk_cell N1.out 1; have u2 := blk_cell N0.out 2; have v2 := blk_cell N1.out 2; have u3 := blk_cell N0.out 3; have v3 := blk_cell N1.out 3; have u4 := blk_cell N0.out 4; have v4 := blk_cell N1.out 4; have u5 := blk_cell N0.out 5; have v5 := blk_cell N1.out 5; have u6 := blk_cell N0.out 6; have v6 := blk_cell N1.out 6; have u7 := blk_cell N0.out 7; have v7 := blk_cell N1.out 7; have u8 := blk_cell N0.out 8; have v8 := blk_cell N1.out 8; have u9 := blk_cell N0.out 9; have v9 := blk_cell N1.out 9; have u10 := blk_cell N0.out 10; have v10 := blk_cell N1.out 10)
        | (go_at_call 10; (with_reducible refine (law_alive _).mono ?_); rintro e w9 ⟨rfl, hb⟩; have HB9 := Aside0.mk (hop HB.out hb); clear hb))
      go_ret
      exact ⟨rfl, HB9.out⟩
    · rw [decide_eq_true h1] at HMa
      rw [decide_eq_false h2] at HMc
      clear hm h1 h2 ha hc
      unfold ruleA at HMa HMc N0 N1 HB x0 y0 x1 y1 x2 y2 x3 y3 x4 y4 x5 y5 x6 y6 x7 y7 x8 y8 x9 y9 x10 y10 ⊢
      go_enter Try.func7, Try.ntmps7
      go_wp2_with (first
        | (go_at_call 22; (with_reducible refine (HMa.out _).mono ?_); rintro e w1 ⟨rfl, hb⟩; (try clear u0 v0 u1 v1 u2 v2 u3 v3 u4 v4 u5 v5 u6 v6 u7 v7 u8 v8 u9 v9 u10 v10); have N0_ := Aside0.mk ((hb.block _ (blk_lt N0.out)).trans N0.out); have N1_ := Aside0.mk ((hb.block _ (blk_lt N1.out)).trans N1.out); have HB_ := Aside0.mk (hop HB.out hb); clear N0 N1 HB hb; have N0 := N0_; have N1 := N1_; have HB := HB_; clear N0_ N1_ HB_; have u0 := blk_cell N0.out 0; have v0 := blk_cell N1.out 0; have u1 := blk_cell N0.out 1; have v1 := blk_cell N1.out 1; have u2 := blk_cell N0.out 2; have v2 := blk_cell N1.out 2; have u3 := blk_cell N0.out 3; have v3 := blk_cell N1.out 3; have u4 := blk_cell N0.out 4; have v4 := blk_cell N1.out 4; have u5 := blk_cell N0.out 5; have v5 := blk_cell N1.out 5; have u6 := blk_cell N0.out 6; have v6 := blk_cell N1.out 6; have u7 := blk_cell N0.out 7; have v7 := blk_cell N1.out 7; have u8 := blk_cell N0.out 8; have v8 := blk_cell N1.out 8; have u9 := blk_cell N0.out 9; have v9 := blk_cell N1.out 9; have u10 := blk_cell N0.out 10; have v10 := blk_cell N1.out 10)
        | (go_at_call 22; (with_reducible refine (HMc.out _).mono ?_); rintro e w1 ⟨rfl, hb⟩; (try clear u0 v0 u1 v1 u2 v2 u3 v3 u4 v4 u5 v5 u6 v6 u7 v7 u8 v8 u9 v9 u10 v10); have N0_ := Aside0.mk ((hb.block _ (blk_lt N0.out)).trans N0.out); have N1_ := Aside0.mk ((hb.block _ (blk_lt N1.out)).trans N1.out); have HB_ := Aside0.mk (hop HB.out hb); clear N0 N1 HB hb; have N0 := N0_; have N1 := N1_; have HB := HB_; clear N0_ N1_ HB_; have u0 := blk_cell N0.out 0; have v0 := blk_cell N1.out 0; have u1 := blk_cell N0.out 1; have v1 := blk_cell N1.out 1; have u2 := blk_cell N0.out 2; have v2 := blk_cell N1.out 2; have u3 := blk_cell N0.out 3; have v3 := blk_cell N1.out 3; have u4 := blk_cell N0.out 4; have v4 := blk_cell N1.out 4; have u5 := blk_cell N0.out 5; have v5 := blk_cell N1.out 5; have u6 := blk_cell N0.out 6; have v6 := blk_cell N1.out 6; have u7 := blk_cell N0.out 7; have v7 := blk_cell N1.out 7; have u8 := blk_cell N0.out 8; have v8 := blk_cell N1.out 8; have u9 := blk_cell N0.out 9; have v9 := blk_cell N1.out 9; have u10 := blk_cell N0.out 10; have v10 := blk_cell N1.out 10)
        | (go_at_call 10; (with_reducible refine (law_alive _).mono ?_); rintro e w9 ⟨rfl, hb⟩; have HB9 := Aside0.mk (hop HB.out hb); clear hb))
      go_ret
      exact ⟨rfl, HB9.out⟩
  · rw [decide_eq_false h1] at HMa
    clear hm h1 ha hc
    unfold ruleA at HMa HMc N0 N1 HB x0 y0 x1 y1 x2 y2 x3 y3 x4 y4 x5 y5 x6 y6 x7 y7 x8 y8 x9 y9 x10 y10 ⊢
    go_enter Try.func7, Try.ntmps7
    go_wp2_with (first
      | (go_at_call 22; (with_reducible refine (HMa.out _).mono ?_); rintro e w1 ⟨rfl, hb⟩; (try clear u0 v0 u1 v1 u2 v2 u3 v3 u4 v4 u5 v5 u6 v6 u7 v7 u8 v8 u9 v9 u10 v10); have N0_ := Aside0.mk ((hb.block _ (blk_lt N0.out)).trans N0.out); have N1_ := Aside0.mk ((hb.block _ (blk_lt N1.out)).trans N1.out); have HB_ := Aside0.mk (hop HB.out hb); clear N0 N1 HB hb; have N0 := N0_; have N1 := N1_; have HB := HB_; clear N0_ N1_ HB_; have u0 := blk_cell N0.out 0; have v0 := blk_cell N1.out 0; have u1 := blk_cell N0.out 1; have v1 := blk_cell N1.out 1; have u2 := blk_cell N0.out 2; have v2 := blk_cell N1.out 2; have u3 := blk_cell N0.out 3; have v3 := blk_cell N1.out 3; have u4 := blk_cell N0.out 4; have v4 := blk_cell N1.out 4; have u5 := blk_cell N0.out 5; have v5 := blk_cell N1.out 5; have u6 := blk_cell N0.out 6; have v6 := blk_cell N1.out 6; have u7 := blk_cell N0.out 7; have v7 := blk_cell N1.out 7; have u8 := blk_cell N0.out 8; have v8 := blk_cell N1.out 8; have u9 := blk_cell N0.out 9; have v9 := blk_cell N1.out 9; have u10 := blk_cell N0.out 10; have v10 := blk_cell N1.out 10)
      | (go_at_call 22; (with_reducible refine (HMc.out _).mono ?_); rintro e w1 ⟨rfl, hb⟩; (try clear u0 v0 u1 v1 u2 v2 u3 v3 u4 v4 u5 v5 u6 v6 u7 v7 u8 v8 u9 v9 u10 v10); have N0_ := Aside0.mk ((hb.block _ (blk_lt N0.out)).trans N0.out); have N1_ := Aside0.mk ((hb.block _ (blk_lt N1.out)).trans N1.out); have HB_ := Aside0.mk (hop HB.out hb); clear N0 N1 HB hb; have N0 := N0_; have N1 := N1_; have HB := HB_; clear N0_ N1_ HB_; have u0 := blk_cell N0.out 0; have v0 := blk_cell N1.out 0; have u1 := blk_cell N0.out 1; have v1 := blk_cell N1.out 1; have u2 := blk_cell N0.out 2; have v2 := blk_cell N1.out 2; have u3 := blk_cell N0.out 3; have v3 := blk_cell N1.out 3; have u4 := blk_cell N0.out 4; have v4 := blk_cell N1.out 4; have u5 := blk_cell N0.out 5; have v5 := blk_cell N1.out 5; have u6 := blk_cell N0.out 6; have v6 := blk_cell N1.out 6; have u7 := blk_cell N0.out 7; have v7 := blk_cell N1.out 7; have u8 := blk_cell N0.out 8; have v8 := blk_cell N1.out 8; have u9 := blk_cell N0.out 9; have v9 := blk_cell N1.out 9; have u10 := blk_cell N0.out 10; have v10 := blk_cell N1.out 10)
      | (go_at_call 10; (with_reducible refine (law_alive _).mono ?_); rintro e w9 ⟨rfl, hb⟩; have HB9 := Aside0.mk (hop HB.out hb); clear hb))
    go_ret
    exact ⟨rfl, HB9.out⟩

set_option maxHeartbeats 12800000 in
set_option maxRecDepth 4000 in
theorem law_AlarmApart_may (w : World) {a c : Rul} (ha : RulIn a) (hc : RulIn c) (ma : MayP a) (mc : MayP c) (hne : a.name ≠ c.name) {S0 : Option Addr} {c0 : Nat} {os : List OpR} (hC : Kd.C kOp w S0 os.length os) (hos : ∀ o ∈ os, inW o.val) :
    Calls Try.prog 7 #[.agg (ruleA a), .agg (ruleA c), .slice S0 os.length c0] w fun e w' => e = .returned (.bool true) ∧ Below w.heap.size w w' := by
  have HMa := Aside0.mk (fun W => ref_May W a ha)
  have HMc := Aside0.mk (fun W => ref_May W c hc)
  have N0 := Aside0.mk (blk_alloc (heap_alloc_new w (.cells (ruleA a) 26 (0, 0))) (.cells (ruleA c) 26 (0, 0)))
  have N1 := Aside0.mk (heap_alloc2_new w (.cells (ruleA a) 26 (0, 0)) (.cells (ruleA c) 26 (0, 0)))
  have hb0 := (Below.refl w.heap.size w).alloc (Nat.le_refl _) (.cells (ruleA a) 26 (0, 0))
  have HB := Aside0.mk (hb0.alloc hb0.size (.cells (ruleA c) 26 (0, 0)))
  clear hb0
  have x0 := blk_cell N0.out 0
  have x1 := blk_cell N0.out 1
  have x2 := blk_cell N0.out 2
  have x3 := blk_cell N0.out 3
  have x4 := blk_cell N0.out 4
  have x5 := blk_cell N0.out 5
  have x6 := blk_cell N0.out 6
  have x7 := blk_cell N0.out 7
  have x8 := blk_cell N0.out 8
  have x9 := blk_cell N0.out 9
  have x10 := blk_cell N0.out 10
  have y0 := blk_cell N1.out 0
  have y1 := blk_cell N1.out 1
  have y2 := blk_cell N1.out 2
  have y3 := blk_cell N1.out 3
  have y4 := blk_cell N1.out 4
  have y5 := blk_cell N1.out 5
  have y6 := blk_cell N1.out 6
  have y7 := blk_cell N1.out 7
  have y8 := blk_cell N1.out 8
  have y9 := blk_cell N1.out 9
  have y10 := blk_cell N1.out 10
  rw [decide_eq_true ma] at HMa
  rw [decide_eq_true mc] at HMc
  have oka : RulOk a := ma.ok
  have okc : RulOk c := mc.ok
  have en := toL_no hne
  have HNE := Aside0.mk hne
  have HC := Aside0.mk hC
  have HOS := Aside0.mk hos
  have HOKa := Aside0.mk oka
  have HOKc := Aside0.mk okc
  have HN2 := Aside0.mk (fun W1 : World => New_two (W := W1.alloc (.cells (ruleA a ++ ruleA c) 26 (0, 0))) (g := W1.heap.size) (n := W1.heap.size + 1) (by simp) (heap_alloc_new W1 _) ha hc ma mc hne)
  have HNa := Aside0.mk (fun W1 : World => New_may (W := W1.alloc (.cells (ruleA a) 26 (0, 0))) (g := W1.heap.size) (n := W1.heap.size + 1) (by simp) (heap_alloc_new W1 _) ha ma)
  have HNc := Aside0.mk (fun W1 : World => New_may (W := W1.alloc (.cells (ruleA c) 26 (0, 0))) (g := W1.heap.size) (n := W1.heap.size + 1) (by simp) (heap_alloc_new W1 _) hc mc)
  have hlen := hC.2.1
  rw [show ruleA a ++ ruleA c = #[.string a.name, .bool a.above, .int .i64 (hiW a.warn), .int .u64 (loW a.warn), .int .i64 (hiW a.crit), .int .u64 (loW a.crit), .int .i64 (hiW a.slack), .int .u64 (loW a.slack), .int .i64 a.for_, .int .i64 a.absent, .int .i64 a.again, .string c.name, .bool c.above, .int .i64 (hiW c.warn), .int .u64 (loW c.warn), .int .i64 (hiW c.crit), .int .u64 (loW c.crit), .int .i64 (hiW c.slack), .int .u64 (loW c.slack), .int .i64 c.for_, .int .i64 c.absent, .int .i64 c.again] from rfl] at HN2
  unfold ruleA at HNa HNc
  clear ha hc ma mc hne oka okc hC hos
  unfold ruleA at HMa HMc N0 N1 HB x0 y0 x1 y1 x2 y2 x3 y3 x4 y4 x5 y5 x6 y6 x7 y7 x8 y8 x9 y9 x10 y10 ⊢
  go_enter Try.func7, Try.ntmps7
  go_wp2_with (first
    | (go_at_call 22; (with_reducible refine (HMa.out _).mono ?_); rintro e w1 ⟨rfl, hb⟩; (try clear u0 v0 u1 v1 u2 v2 u3 v3 u4 v4 u5 v5 u6 v6 u7 v7 u8 v8 u9 v9 u10 v10); have N0_ := Aside0.mk ((hb.block _ (blk_lt N0.out)).trans N0.out); have N1_ := Aside0.mk ((hb.block _ (blk_lt N1.out)).trans N1.out); have HB_ := Aside0.mk (hop HB.out hb); clear N0 N1 HB hb; have N0 := N0_; have N1 := N1_; have HB := HB_; clear N0_ N1_ HB_; have u0 := blk_cell N0.out 0; have v0 := blk_cell N1.out 0; have u1 := blk_cell N0.out 1; have v1 := blk_cell N1.out 1; have u2 := blk_cell N0.out 2; have v2 := blk_cell N1.out 2; have u3 := blk_cell N0.out 3; have v3 := blk_cell N1.out 3; have u4 := blk_cell N0.out 4; have v4 := blk_cell N1.out 4; have u5 := blk_cell N0.out 5; have v5 := blk_cell N1.out 5; have u6 := blk_cell N0.out 6; have v6 := blk_cell N1.out 6; have u7 := blk_cell N0.out 7; have v7 := blk_cell N1.out 7; have u8 := blk_cell N0.out 8; have v8 := blk_cell N1.out 8; have u9 := blk_cell N0.out 9; have v9 := blk_cell N1.out 9; have u10 := blk_cell N0.out 10; have v10 := blk_cell N1.out 10)
    | (go_at_call 22; (with_reducible refine (HMc.out _).mono ?_); rintro e w1 ⟨rfl, hb⟩; (try clear u0 v0 u1 v1 u2 v2 u3 v3 u4 v4 u5 v5 u6 v6 u7 v7 u8 v8 u9 v9 u10 v10); have N0_ := Aside0.mk ((hb.block _ (blk_lt N0.out)).trans N0.out); have N1_ := Aside0.mk ((hb.block _ (blk_lt N1.out)).trans N1.out); have HB_ := Aside0.mk (hop HB.out hb); clear N0 N1 HB hb; have N0 := N0_; have N1 := N1_; have HB := HB_; clear N0_ N1_ HB_; have u0 := blk_cell N0.out 0; have v0 := blk_cell N1.out 0; have u1 := blk_cell N0.out 1; have v1 := blk_cell N1.out 1; have u2 := blk_cell N0.out 2; have v2 := blk_cell N1.out 2; have u3 := blk_cell N0.out 3; have v3 := blk_cell N1.out 3; have u4 := blk_cell N0.out 4; have v4 := blk_cell N1.out 4; have u5 := blk_cell N0.out 5; have v5 := blk_cell N1.out 5; have u6 := blk_cell N0.out 6; have v6 := blk_cell N1.out 6; have u7 := blk_cell N0.out 7; have v7 := blk_cell N1.out 7; have u8 := blk_cell N0.out 8; have v8 := blk_cell N1.out 8; have u9 := blk_cell N0.out 9; have v9 := blk_cell N1.out 9; have u10 := blk_cell N0.out 10; have v10 := blk_cell N1.out 10)
    | (go_at_call 15; (with_reducible refine (HN2.out w1).mono ?_); rintro e w2 ⟨A, cc, g1, g2, rfl, hb, hbk, hg1, hg2, hg12⟩; have HBo := Aside0.mk hbk; have hs2 := hb.size; have hg1l := blk_lt (hbk.rules (g1, a, stt0) (List.mem_cons_self ..)).1; have hg2l := blk_lt (hbk.rules (g2, c, stt0) (List.mem_cons_of_mem _ (List.mem_cons_self ..))).1; have hlo : w.heap.size + 1 < w1.heap.size := blk_lt N1.out; have hb_ := hop ((Below.refl w1.heap.size w1).alloc (Nat.le_refl _) _) hb; clear hb hbk; have hb := hb_; clear hb_; (try clear u0 v0 u1 v1 u2 v2 u3 v3 u4 v4 u5 v5 u6 v6 u7 v7 u8 v8 u9 v9 u10 v10); have N0_ := Aside0.mk ((hb.block _ (blk_lt N0.out)).trans N0.out); have N1_ := Aside0.mk ((hb.block _ (blk_lt N1.out)).trans N1.out); have HB_ := Aside0.mk (hop HB.out hb); clear N0 N1 HB hb; have N0 := N0_; have N1 := N1_; have HB := HB_; clear N0_ N1_ HB_; have u0 := blk_cell N0.out 0; have v0 := blk_cell N1.out 0; have u1 := blk_cell N0.out 1; have v1 := blk_cell N1.out 1; have u2 := blk_cell N0.out 2; have v2 := blk_cell N1.out 2; have u3 := blk_cell N0.out 3; have v3 := blk_cell N1.out 3; have u4 := blk_cell N0.out 4; have v4 := blk_cell N1.out 4; have u5 := blk_cell N0.out 5; have v5 := blk_cell N1.out 5; have u6 := blk_cell N0.out 6; have v6 := blk_cell N1.out 6; have u7 := blk_cell N0.out 7; have v7 := blk_cell N1.out 7; have u8 := blk_cell N0.out 8; have v8 := blk_cell N1.out 8; have u9 := blk_cell N0.out 9; have v9 := blk_cell N1.out 9; have u10 := blk_cell N0.out 10; have v10 := blk_cell N1.out 10)
    | (go_at_call 15; (with_reducible refine (HNa.out w2).mono ?_); rintro e w3 ⟨rfl, hb, Ax, cx, g3, hbk⟩; have HX := Aside0.mk hbk; have hg3 := (hbk.rules (g3, a, stt0) (List.mem_cons_self ..)).2; have hg3l := blk_lt (hbk.rules (g3, a, stt0) (List.mem_cons_self ..)).1; have hb_ := hop ((Below.refl w2.heap.size w2).alloc (Nat.le_refl _) _) hb; clear hb hbk; have hb := hb_; clear hb_; have HBo_ := Aside0.mk (HBo.out.quiet (below_keep hb)); clear HBo; have HBo := HBo_; clear HBo_; (try clear u0 v0 u1 v1 u2 v2 u3 v3 u4 v4 u5 v5 u6 v6 u7 v7 u8 v8 u9 v9 u10 v10); have N0_ := Aside0.mk ((hb.block _ (blk_lt N0.out)).trans N0.out); have N1_ := Aside0.mk ((hb.block _ (blk_lt N1.out)).trans N1.out); have HB_ := Aside0.mk (hop HB.out hb); clear N0 N1 HB hb; have N0 := N0_; have N1 := N1_; have HB := HB_; clear N0_ N1_ HB_; have u0 := blk_cell N0.out 0; have v0 := blk_cell N1.out 0; have u1 := blk_cell N0.out 1; have v1 := blk_cell N1.out 1; have u2 := blk_cell N0.out 2; have v2 := blk_cell N1.out 2; have u3 := blk_cell N0.out 3; have v3 := blk_cell N1.out 3; have u4 := blk_cell N0.out 4; have v4 := blk_cell N1.out 4; have u5 := blk_cell N0.out 5; have v5 := blk_cell N1.out 5; have u6 := blk_cell N0.out 6; have v6 := blk_cell N1.out 6; have u7 := blk_cell N0.out 7; have v7 := blk_cell N1.out 7; have u8 := blk_cell N0.out 8; have v8 := blk_cell N1.out 8; have u9 := blk_cell N0.out 9; have v9 := blk_cell N1.out 9; have u10 := blk_cell N0.out 10; have v10 := blk_cell N1.out 10)
    | (go_at_call 15; (with_reducible refine (HNc.out w3).mono ?_); rintro e w4 ⟨rfl, hb, Ay, cy, g4, hbk⟩; have HY := Aside0.mk hbk; have hg4 := (hbk.rules (g4, c, stt0) (List.mem_cons_self ..)).2; have hg4l := blk_lt (hbk.rules (g4, c, stt0) (List.mem_cons_self ..)).1; have hb_ := hop ((Below.refl w3.heap.size w3).alloc (Nat.le_refl _) _) hb; clear hb hbk; have hb := hb_; clear hb_; have HBo_ := Aside0.mk (HBo.out.quiet (below_keep hb)); have HX_ := Aside0.mk (HX.out.quiet (below_keep hb)); clear HBo HX; have HBo := HBo_; have HX := HX_; clear HBo_ HX_; (try clear u0 v0 u1 v1 u2 v2 u3 v3 u4 v4 u5 v5 u6 v6 u7 v7 u8 v8 u9 v9 u10 v10); have N0_ := Aside0.mk ((hb.block _ (blk_lt N0.out)).trans N0.out); have N1_ := Aside0.mk ((hb.block _ (blk_lt N1.out)).trans N1.out); have HB_ := Aside0.mk (hop HB.out hb); clear N0 N1 HB hb; have N0 := N0_; have N1 := N1_; have HB := HB_; clear N0_ N1_ HB_; have u0 := blk_cell N0.out 0; have v0 := blk_cell N1.out 0; have u1 := blk_cell N0.out 1; have v1 := blk_cell N1.out 1; have u2 := blk_cell N0.out 2; have v2 := blk_cell N1.out 2; have u3 := blk_cell N0.out 3; have v3 := blk_cell N1.out 3; have u4 := blk_cell N0.out 4; have v4 := blk_cell N1.out 4; have u5 := blk_cell N0.out 5; have v5 := blk_cell N1.out 5; have u6 := blk_cell N0.out 6; have v6 := blk_cell N1.out 6; have u7 := blk_cell N0.out 7; have v7 := blk_cell N1.out 7; have u8 := blk_cell N0.out 8; have v8 := blk_cell N1.out 8; have u9 := blk_cell N0.out 9; have v9 := blk_cell N1.out 9; have u10 := blk_cell N0.out 10; have v10 := blk_cell N1.out 10))
  obtain ⟨gb, hgb⟩ : ∃ gb, gb = w1.heap.size + 1 := ⟨_, rfl⟩
  obtain ⟨gx, hgx⟩ : ∃ gx, gx = w2.heap.size + 1 := ⟨_, rfl⟩
  obtain ⟨gy, hgy⟩ : ∃ gy, gy = w3.heap.size + 1 := ⟨_, rfl⟩
  rw [← hgb] at HBo ⊢
  rw [← hgx] at HX ⊢
  rw [← hgy] at HY ⊢
  clear u0 v0 u1 v1 u2 v2 u3 v3 u4 v4 u5 v5 u6 v6 u7 v7 u8 v8 u9 v9 u10 v10 x0 x1 x2 x3 x4 x5 x6 x7 x8 x9 x10 y0 y1 y2 y3 y4 y5 y6 y7 y8 y9 y10 HMa HMc HN2 HNa HNc
  have g31 : g3 ≠ g1 ∧ g3 ≠ g2 ∧ g4 ≠ g1 ∧ g4 ≠ g2 ∧ g4 ≠ g3 := by omega
  obtain ⟨g31, g32, g41, g42, g43⟩ := g31
  have hw : w.heap.size + 1 < g1 ∧ w.heap.size + 1 < g2 ∧ w.heap.size + 1 < g3 ∧ w.heap.size + 1 < g4 := by omega
  obtain ⟨hw1, hw2, hw3, hw4⟩ := hw
  have HSZ := Aside0.mk (show g1 < w4.heap.size ∧ g2 < w4.heap.size ∧ g3 < w4.heap.size ∧ g4 < w4.heap.size by have := blk_lt (HBo.out.rules (g1, a, stt0) (List.mem_cons_self ..)).1; have := blk_lt (HBo.out.rules (g2, c, stt0) (List.mem_cons_of_mem _ (List.mem_cons_self ..))).1; have := blk_lt (HX.out.rules (g3, a, stt0) (List.mem_cons_self ..)).1; exact ⟨by assumption, by assumption, by assumption, hg4l⟩)
  clear hgb hgx hgy hg1 hg2 hg1l hg2l hg3 hg3l hg4 hg4l hlo hs2
  go_loopg [16] os.length (fun kq v16 w' => ∃ (i : Nat) (s t : Stt), v16 = .int .i64 i ∧ i + kq = os.length ∧ Aside0 (BookAt w' gb gb A cc [(g1, a, s), (g2, c, t)]) ∧ Aside0 (BookAt w' gx gx Ax cx [(g3, a, s)]) ∧ Aside0 (BookAt w' gy gy Ay cy [(g4, c, t)]) ∧ Aside0 (RInv a s) ∧ Aside0 (RInv c t) ∧ Aside0 (Below w.heap.size w w') ∧ Aside0 (w'.heap[w.heap.size]? = some (.cells #[.string a.name, .bool a.above, .int .i64 (hiW a.warn), .int .u64 (loW a.warn), .int .i64 (hiW a.crit), .int .u64 (loW a.crit), .int .i64 (hiW a.slack), .int .u64 (loW a.slack), .int .i64 a.for_, .int .i64 a.absent, .int .i64 a.again] 26 (0, 0))) ∧ Aside0 (w'.heap[w.heap.size + 1]? = some (.cells #[.string c.name, .bool c.above, .int .i64 (hiW c.warn), .int .u64 (loW c.warn), .int .i64 (hiW c.crit), .int .u64 (loW c.crit), .int .i64 (hiW c.slack), .int .u64 (loW c.slack), .int .i64 c.for_, .int .i64 c.absent, .int .i64 c.again] 26 (0, 0))) ∧ Aside0 (w4.heap.size ≤ w'.heap.size))
  case atStart => exact ⟨0, stt0, stt0, rfl, by omega, HBo, HX, HY, ⟨stt0_inv HOKa.out⟩, ⟨stt0_inv HOKc.out⟩, HB, N0, N1, ⟨Nat.le_refl _⟩⟩
  case round =>
    clear HBo HX HY HB N0 N1
    obtain ⟨i, s, t, rfl, hik, HBo, HX, HY, HIa, HIc, HB, N0, N1, HLE⟩ := hrel
    cases gk with
    | zero =>
      have d1 : decide (i < os.length) = false := decide_eq_false (by omega)
      have d2 : decide (1 ≤ s.state) = true := decide_eq_true HIa.out.state.1
      have d3 : decide (1 ≤ t.state) = true := decide_eq_true HIc.out.state.1
      have u0 := blk_cell N0.out 0
      have v0 := blk_cell N1.out 0
      go_wp2_with (first
        | (go_at_call 12; (with_reducible refine (any_State HBo.out (by simp) (idx_two0 g1 g2 a c s t) rfl).mono ?_); rintro e w' ⟨rfl, rfl⟩)
        | (go_at_call 12; (with_reducible refine (any_State HX.out (by simp) (idxP_one g3 a s) rfl).mono ?_); rintro e w' ⟨rfl, rfl⟩)
        | (go_at_call 12; (with_reducible refine (any_State HBo.out (by simp) (idx_two1 g1 g2 s t HNE.out) rfl).mono ?_); rintro e w' ⟨rfl, rfl⟩)
        | (go_at_call 12; (with_reducible refine (any_State HY.out (by simp) (idxP_one g4 c t) rfl).mono ?_); rintro e w' ⟨rfl, rfl⟩)
        | (go_at_call 10; (with_reducible refine (law_alive _).mono ?_); rintro e w9 ⟨rfl, hb⟩; have HB9 := Aside0.mk (hop HB.out hb); clear hb))
      go_ret
      exact ⟨rfl, HB9.out⟩
    | succ k1 =>
      have hlt : i < os.length := by omega
      have d1 : decide (i < os.length) = true := decide_eq_true hlt
      obtain ⟨o, ho⟩ : ∃ o, os[i]? = some o := ⟨os[i], List.getElem?_eq_getElem hlt⟩
      have hov := HOS.out o (List.mem_of_getElem? ho)
      obtain ⟨ad, rfl, x0, x1, x2, x3, x4, x5⟩ := at_Op (Kd.C_below HC.out HB.out) i o ho
      obtain ⟨kd, nm, at_, is, val⟩ := o
      have hov' : inW val := hov
      have HV := Aside0.mk hov'
      have hlr : w4.heap.size ≤ wr.heap.size := HLE.out
      have hs4 := HSZ.out
      have hro : g1 < wr.heap.size ∧ g2 < wr.heap.size ∧ g3 < wr.heap.size ∧ g4 < wr.heap.size ∧ w.heap.size + 1 < wr.heap.size := by omega
      obtain ⟨hr1, hr2, hr3, hr4, hr5⟩ := hro
      have HLE1 := Aside0.mk (show w4.heap.size ≤ (wr.alloc (.cells #[.int .i64 kd, .string nm, .int .i64 at_, .bool is, .int .i64 (hiW val), .int .u64 (loW val)] 39 (0, 0))).heap.size by simp; omega)
      have hq : Keep wr (wr.alloc (.cells #[.int .i64 kd, .string nm, .int .i64 at_, .bool is, .int .i64 (hiW val), .int .u64 (loW val)] 39 (0, 0))) (fun _ => False) := Keep.of_below ((Below.refl wr.heap.size wr).alloc (Nat.le_refl _) (.cells #[.int .i64 kd, .string nm, .int .i64 at_, .bool is, .int .i64 (hiW val), .int .u64 (loW val)] 39 (0, 0)))
      have HBo1 := Aside0.mk (HBo.out.quiet hq)
      have HX1 := Aside0.mk (HX.out.quiet hq)
      have HY1 := Aside0.mk (HY.out.quiet hq)
      have HB1 := Aside0.mk (HB.out.alloc HB.out.size (.cells #[.int .i64 kd, .string nm, .int .i64 at_, .bool is, .int .i64 (hiW val), .int .u64 (loW val)] 39 (0, 0)))
      have N01 := Aside0.mk (blk_alloc N0.out (.cells #[.int .i64 kd, .string nm, .int .i64 at_, .bool is, .int .i64 (hiW val), .int .u64 (loW val)] 39 (0, 0)))
      have N11 := Aside0.mk (blk_alloc N1.out (.cells #[.int .i64 kd, .string nm, .int .i64 at_, .bool is, .int .i64 (hiW val), .int .u64 (loW val)] 39 (0, 0)))
      have O1 := Aside0.mk (heap_alloc_new wr (.cells #[.int .i64 kd, .string nm, .int .i64 at_, .bool is, .int .i64 (hiW val), .int .u64 (loW val)] 39 (0, 0)))
      have u0 := blk_cell N01.out 0
      have v0 := blk_cell N11.out 0
      clear HBo HX HY HB N0 N1 HLE ho hov hov' hlr hs4 hq
      have HBo := HBo1
      have HX := HX1
      have HY := HY1
      have HB := HB1
      have N0 := N01
      have N1 := N11
      have HLE := HLE1
      clear HBo1 HX1 HY1 HB1 N01 N11 HLE1
      by_cases hn : nm = a.name
      · have en2 : (nm.toList == a.name.toList) = true := toL_yes hn
        clear hn
        by_cases hk : kd = 2
        · have eK : (kd == 2) = true := beq_iff_eq.mpr hk
          clear hk
          obtain ⟨er, s', hi', hf'⟩ := mute_any HIa.out at_
          have HI' := Aside0.mk hi'
          have HF2 := Aside0.mk (show muteP [(g1, a, s), (g2, c, t)] a.name at_ = (er, [(g1, a, s'), (g2, c, t)]) from hf' _ 0 g1 _ (idx_two0 g1 g2 a c s t) rfl)
          have HF1 := Aside0.mk (show muteP [(g3, a, s)] a.name at_ = (er, [(g3, a, s')]) from hf' _ 0 g3 _ (idxP_one g3 a s) rfl)
          clear hi' hf'
          go_upto_region 18 with (fail)
          have hqd : Keep (wr.alloc (.cells #[.int .i64 kd, .string nm, .int .i64 at_, .bool is, .int .i64 (hiW val), .int .u64 (loW val)] 39 (0, 0))) (wr.alloc (.cells #[.int .i64 kd, .string nm, .int .i64 at_, .bool is, .int .i64 (hiW val), .int .u64 (loW val)] 39 (0, 0))).drew (fun _ => False) := below_keep (Below.refl (wr.alloc (.cells #[.int .i64 kd, .string nm, .int .i64 at_, .bool is, .int .i64 (hiW val), .int .u64 (loW val)] 39 (0, 0))).heap.size (wr.alloc (.cells #[.int .i64 kd, .string nm, .int .i64 at_, .bool is, .int .i64 (hiW val), .int .u64 (loW val)] 39 (0, 0)))).drew
          have HBo_ := Aside0.mk (HBo.out.quiet hqd)
          have HX_ := Aside0.mk (HX.out.quiet hqd)
          have HY_ := Aside0.mk (HY.out.quiet hqd)
          have HB_ := Aside0.mk (HB.out.drew)
          have N0_ := Aside0.mk (show (wr.alloc (.cells #[.int .i64 kd, .string nm, .int .i64 at_, .bool is, .int .i64 (hiW val), .int .u64 (loW val)] 39 (0, 0))).drew.heap[w.heap.size]? = _ from N0.out)
          have N1_ := Aside0.mk (show (wr.alloc (.cells #[.int .i64 kd, .string nm, .int .i64 at_, .bool is, .int .i64 (hiW val), .int .u64 (loW val)] 39 (0, 0))).drew.heap[w.heap.size + 1]? = _ from N1.out)
          have O_ := Aside0.mk (show (wr.alloc (.cells #[.int .i64 kd, .string nm, .int .i64 at_, .bool is, .int .i64 (hiW val), .int .u64 (loW val)] 39 (0, 0))).drew.heap[wr.heap.size]? = _ from O1.out)
          have HLE_ := Aside0.mk (show w4.heap.size ≤ (wr.alloc (.cells #[.int .i64 kd, .string nm, .int .i64 at_, .bool is, .int .i64 (hiW val), .int .u64 (loW val)] 39 (0, 0))).drew.heap.size from HLE.out)
          clear HBo HX HY HB N0 N1 O1 HLE hqd
          have HBo := HBo_
          have HX := HX_
          have HY := HY_
          have HB := HB_
          have N0 := N0_
          have N1 := N1_
          have O1 := O_
          have HLE := HLE_
          clear HBo_ HX_ HY_ HB_ N0_ N1_ O_ HLE_
          have p2 := blk_cell O1.out 2
          go_region_with (first
            | (go_at_call 19; (with_reducible refine (any_Mute HBo.out (by simp) HF2.out).mono ?_); rintro e w5 ⟨rfl, hbk, hk⟩; have N0_ := Aside0.mk ((hk.block _ (blk_lt N0.out) (nS2 (by omega) (by omega))).trans N0.out); have N1_ := Aside0.mk ((hk.block _ (blk_lt N1.out) (nS2 (by omega) (by omega))).trans N1.out); have O_ := Aside0.mk ((hk.block _ (blk_lt O1.out) (nS2 (by omega) (by omega))).trans O1.out); have HB_ := Aside0.mk (HB.out.trans (hk.below HB.out.size (ge2 (by omega) (by omega)))); have HLE_ := Aside0.mk (Nat.le_trans HLE.out hk.size); have HX_ := Aside0.mk (HX.out.beside HBo.out hk (ne12 g31 g32)); have HY_ := Aside0.mk (HY.out.beside HBo.out hk (ne12 g41 g42)); have HBo_ := Aside0.mk hbk; clear HBo HX HY HB N0 N1 HLE; have HBo := HBo_; have HX := HX_; have HY := HY_; have HB := HB_; have N0 := N0_; have N1 := N1_; have HLE := HLE_; clear HBo_ HX_ HY_ HB_ N0_ N1_ HLE_; clear O1; have O1 := O_; clear O_ hk hbk; have p2 := blk_cell O1.out 2; have p3 := blk_cell O1.out 3; have p4 := blk_cell O1.out 4; have p5 := blk_cell O1.out 5)
            | (go_at_call 19; (with_reducible refine (any_Mute HX.out (by simp) HF1.out).mono ?_); rintro e w6 ⟨rfl, hbk, hk⟩; have N0_ := Aside0.mk ((hk.block _ (blk_lt N0.out) (nS1 (by omega))).trans N0.out); have N1_ := Aside0.mk ((hk.block _ (blk_lt N1.out) (nS1 (by omega))).trans N1.out); have O_ := Aside0.mk ((hk.block _ (blk_lt O1.out) (nS1 (by omega))).trans O1.out); have HB_ := Aside0.mk (HB.out.trans (hk.below HB.out.size (ge1 (by omega)))); have HLE_ := Aside0.mk (Nat.le_trans HLE.out hk.size); have HBo_ := Aside0.mk (HBo.out.beside HX.out hk (ne21 (Ne.symm g31) (Ne.symm g32))); have HY_ := Aside0.mk (HY.out.beside HX.out hk (ne11 g43)); have HX_ := Aside0.mk hbk; clear HBo HX HY HB N0 N1 HLE; have HBo := HBo_; have HX := HX_; have HY := HY_; have HB := HB_; have N0 := N0_; have N1 := N1_; have HLE := HLE_; clear HBo_ HX_ HY_ HB_ N0_ N1_ HLE_; clear O1; have O1 := O_; clear O_ hk hbk; have p2 := blk_cell O1.out 2; have p3 := blk_cell O1.out 3; have p4 := blk_cell O1.out 4; have p5 := blk_cell O1.out 5))
          all_goals
            go_wp2_with (fail)
            go_roundg k1
            case rel => exact ⟨i + 1, s', t, by go_num, by omega, HBo, HX, HY, HI', HIc, HB, N0, N1, HLE⟩
            case measure => omega
        · have eK : (kd == 2) = false := beq_eq_false_iff_ne.mpr hk
          clear hk
          obtain ⟨l, er, s', hi', -, -, hf'⟩ := feed_any HIa.out HOKa.out at_ is val
          have HI' := Aside0.mk hi'
          have HF2 := Aside0.mk (show feedP [(g1, a, s), (g2, c, t)] a.name at_ is val = (l, er, [(g1, a, s'), (g2, c, t)]) from hf' _ 0 g1 _ (idx_two0 g1 g2 a c s t) rfl)
          have HF1 := Aside0.mk (show feedP [(g3, a, s)] a.name at_ is val = (l, er, [(g3, a, s')]) from hf' _ 0 g3 _ (idxP_one g3 a s) rfl)
          have HOK2 := Aside0.mk (show ∀ x ∈ [(g1, a, s), (g2, c, t)], RulOk x.2.1 ∧ RInv x.2.1 x.2.2 from ok2 ⟨HOKa.out, HIa.out⟩ ⟨HOKc.out, HIc.out⟩)
          have HOK1 := Aside0.mk (show ∀ x ∈ [(g3, a, s)], RulOk x.2.1 ∧ RInv x.2.1 x.2.2 from ok1 ⟨HOKa.out, HIa.out⟩)
          clear hi' hf'
          go_wp2_with (first
            | (go_at_call 11; (with_reducible refine (any_Feed HBo.out (by simp) HOK2.out HV.out HF2.out).mono ?_); rintro e w5 ⟨A5, c5, rfl, hA5, hA5b, hbk, hk⟩; have hsz5 : wr.heap.size < (wr.alloc (.cells #[.int .i64 kd, .string nm, .int .i64 at_, .bool is, .int .i64 (hiW val), .int .u64 (loW val)] 39 (0, 0))).heap.size := (by simp); have HA := Aside0.mk hA5; have HAb := Aside0.mk (fun ad (e : A5 = some ad) => Nat.lt_of_lt_of_le hsz5 (hA5b ad e)); clear hA5 hA5b hsz5; have N0_ := Aside0.mk ((hk.block _ (blk_lt N0.out) (nS2 (by omega) (by omega))).trans N0.out); have N1_ := Aside0.mk ((hk.block _ (blk_lt N1.out) (nS2 (by omega) (by omega))).trans N1.out); have O_ := Aside0.mk ((hk.block _ (blk_lt O1.out) (nS2 (by omega) (by omega))).trans O1.out); have HB_ := Aside0.mk (HB.out.trans (hk.below HB.out.size (ge2 (by omega) (by omega)))); have HLE_ := Aside0.mk (Nat.le_trans HLE.out hk.size); have HX_ := Aside0.mk (HX.out.beside HBo.out hk (ne12 g31 g32)); have HY_ := Aside0.mk (HY.out.beside HBo.out hk (ne12 g41 g42)); have HBo_ := Aside0.mk hbk; clear HBo HX HY HB N0 N1 HLE; have HBo := HBo_; have HX := HX_; have HY := HY_; have HB := HB_; have N0 := N0_; have N1 := N1_; have HLE := HLE_; clear HBo_ HX_ HY_ HB_ N0_ N1_ HLE_; clear O1; have O1 := O_; clear O_ hk hbk; have p2 := blk_cell O1.out 2; have p3 := blk_cell O1.out 3; have p4 := blk_cell O1.out 4; have p5 := blk_cell O1.out 5)
            | (go_at_call 11; (with_reducible refine (any_Feed HX.out (by simp) HOK1.out HV.out HF1.out).mono ?_); rintro e w6 ⟨A6, c6, rfl, hA6, hA6b, hbk, hk⟩; have HA6 := Aside0.mk hA6; have HA_ := Aside0.mk (HA.out.keep hk (fun ad e => nS1 (by have := HAb.out ad e; omega))); clear hA6 hA6b HA; have HA := HA_; clear HA_; have N0_ := Aside0.mk ((hk.block _ (blk_lt N0.out) (nS1 (by omega))).trans N0.out); have N1_ := Aside0.mk ((hk.block _ (blk_lt N1.out) (nS1 (by omega))).trans N1.out); have O_ := Aside0.mk ((hk.block _ (blk_lt O1.out) (nS1 (by omega))).trans O1.out); have HB_ := Aside0.mk (HB.out.trans (hk.below HB.out.size (ge1 (by omega)))); have HLE_ := Aside0.mk (Nat.le_trans HLE.out hk.size); have HBo_ := Aside0.mk (HBo.out.beside HX.out hk (ne21 (Ne.symm g31) (Ne.symm g32))); have HY_ := Aside0.mk (HY.out.beside HX.out hk (ne11 g43)); have HX_ := Aside0.mk hbk; clear HBo HX HY HB N0 N1 HLE; have HBo := HBo_; have HX := HX_; have HY := HY_; have HB := HB_; have N0 := N0_; have N1 := N1_; have HLE := HLE_; clear HBo_ HX_ HY_ HB_ N0_ N1_ HLE_; clear O1; have O1 := O_; clear O_ hk hbk; have p2 := blk_cell O1.out 2; have p3 := blk_cell O1.out 3; have p4 := blk_cell O1.out 4; have p5 := blk_cell O1.out 5)
            | (go_at_call 18; (with_reducible refine (ref_Same HA.out HA6.out).mono ?_); rintro e w7 ⟨rfl, hb⟩; have hq := below_keep hb; have HBo_ := Aside0.mk (HBo.out.quiet hq); have HX_ := Aside0.mk (HX.out.quiet hq); have HY_ := Aside0.mk (HY.out.quiet hq); have HB_ := Aside0.mk (hop HB.out hb); have N0_ := Aside0.mk ((hb.block _ (blk_lt N0.out)).trans N0.out); have N1_ := Aside0.mk ((hb.block _ (blk_lt N1.out)).trans N1.out); have HLE_ := Aside0.mk (Nat.le_trans HLE.out hb.size); clear HBo HX HY HB N0 N1 HLE; have HBo := HBo_; have HX := HX_; have HY := HY_; have HB := HB_; have N0 := N0_; have N1 := N1_; have HLE := HLE_; clear HBo_ HX_ HY_ HB_ N0_ N1_ HLE_; clear hb hq))
          go_roundg k1
          case rel => exact ⟨i + 1, s', t, by go_num, by omega, HBo, HX, HY, HI', HIc, HB, N0, N1, HLE⟩
          case measure => omega
      · have en2 : (nm.toList == a.name.toList) = false := toL_no hn
        clear hn
        by_cases hk : kd = 2
        · have eK : (kd == 2) = true := beq_iff_eq.mpr hk
          clear hk
          obtain ⟨er, s', hi', hf'⟩ := mute_any HIc.out at_
          have HI' := Aside0.mk hi'
          have HF2 := Aside0.mk (show muteP [(g1, a, s), (g2, c, t)] c.name at_ = (er, [(g1, a, s), (g2, c, s')]) from hf' _ 1 g2 _ (idx_two1 g1 g2 s t HNE.out) rfl)
          have HF1 := Aside0.mk (show muteP [(g4, c, t)] c.name at_ = (er, [(g4, c, s')]) from hf' _ 0 g4 _ (idxP_one g4 c t) rfl)
          clear hi' hf'
          go_upto_region 18 with (fail)
          have hqd : Keep (wr.alloc (.cells #[.int .i64 kd, .string nm, .int .i64 at_, .bool is, .int .i64 (hiW val), .int .u64 (loW val)] 39 (0, 0))) (wr.alloc (.cells #[.int .i64 kd, .string nm, .int .i64 at_, .bool is, .int .i64 (hiW val), .int .u64 (loW val)] 39 (0, 0))).drew (fun _ => False) := below_keep (Below.refl (wr.alloc (.cells #[.int .i64 kd, .string nm, .int .i64 at_, .bool is, .int .i64 (hiW val), .int .u64 (loW val)] 39 (0, 0))).heap.size (wr.alloc (.cells #[.int .i64 kd, .string nm, .int .i64 at_, .bool is, .int .i64 (hiW val), .int .u64 (loW val)] 39 (0, 0)))).drew
          have HBo_ := Aside0.mk (HBo.out.quiet hqd)
          have HX_ := Aside0.mk (HX.out.quiet hqd)
          have HY_ := Aside0.mk (HY.out.quiet hqd)
          have HB_ := Aside0.mk (HB.out.drew)
          have N0_ := Aside0.mk (show (wr.alloc (.cells #[.int .i64 kd, .string nm, .int .i64 at_, .bool is, .int .i64 (hiW val), .int .u64 (loW val)] 39 (0, 0))).drew.heap[w.heap.size]? = _ from N0.out)
          have N1_ := Aside0.mk (show (wr.alloc (.cells #[.int .i64 kd, .string nm, .int .i64 at_, .bool is, .int .i64 (hiW val), .int .u64 (loW val)] 39 (0, 0))).drew.heap[w.heap.size + 1]? = _ from N1.out)
          have O_ := Aside0.mk (show (wr.alloc (.cells #[.int .i64 kd, .string nm, .int .i64 at_, .bool is, .int .i64 (hiW val), .int .u64 (loW val)] 39 (0, 0))).drew.heap[wr.heap.size]? = _ from O1.out)
          have HLE_ := Aside0.mk (show w4.heap.size ≤ (wr.alloc (.cells #[.int .i64 kd, .string nm, .int .i64 at_, .bool is, .int .i64 (hiW val), .int .u64 (loW val)] 39 (0, 0))).drew.heap.size from HLE.out)
          clear HBo HX HY HB N0 N1 O1 HLE hqd
          have HBo := HBo_
          have HX := HX_
          have HY := HY_
          have HB := HB_
          have N0 := N0_
          have N1 := N1_
          have O1 := O_
          have HLE := HLE_
          clear HBo_ HX_ HY_ HB_ N0_ N1_ O_ HLE_
          have p2 := blk_cell O1.out 2
          go_region_with (first
            | (go_at_call 19; (with_reducible refine (any_Mute HBo.out (by simp) HF2.out).mono ?_); rintro e w5 ⟨rfl, hbk, hk⟩; have N0_ := Aside0.mk ((hk.block _ (blk_lt N0.out) (nS2 (by omega) (by omega))).trans N0.out); have N1_ := Aside0.mk ((hk.block _ (blk_lt N1.out) (nS2 (by omega) (by omega))).trans N1.out); have O_ := Aside0.mk ((hk.block _ (blk_lt O1.out) (nS2 (by omega) (by omega))).trans O1.out); have HB_ := Aside0.mk (HB.out.trans (hk.below HB.out.size (ge2 (by omega) (by omega)))); have HLE_ := Aside0.mk (Nat.le_trans HLE.out hk.size); have HX_ := Aside0.mk (HX.out.beside HBo.out hk (ne12 g31 g32)); have HY_ := Aside0.mk (HY.out.beside HBo.out hk (ne12 g41 g42)); have HBo_ := Aside0.mk hbk; clear HBo HX HY HB N0 N1 HLE; have HBo := HBo_; have HX := HX_; have HY := HY_; have HB := HB_; have N0 := N0_; have N1 := N1_; have HLE := HLE_; clear HBo_ HX_ HY_ HB_ N0_ N1_ HLE_; clear O1; have O1 := O_; clear O_ hk hbk; have p2 := blk_cell O1.out 2; have p3 := blk_cell O1.out 3; have p4 := blk_cell O1.out 4; have p5 := blk_cell O1.out 5)
            | (go_at_call 19; (with_reducible refine (any_Mute HY.out (by simp) HF1.out).mono ?_); rintro e w6 ⟨rfl, hbk, hk⟩; have N0_ := Aside0.mk ((hk.block _ (blk_lt N0.out) (nS1 (by omega))).trans N0.out); have N1_ := Aside0.mk ((hk.block _ (blk_lt N1.out) (nS1 (by omega))).trans N1.out); have O_ := Aside0.mk ((hk.block _ (blk_lt O1.out) (nS1 (by omega))).trans O1.out); have HB_ := Aside0.mk (HB.out.trans (hk.below HB.out.size (ge1 (by omega)))); have HLE_ := Aside0.mk (Nat.le_trans HLE.out hk.size); have HBo_ := Aside0.mk (HBo.out.beside HY.out hk (ne21 (Ne.symm g41) (Ne.symm g42))); have HX_ := Aside0.mk (HX.out.beside HY.out hk (ne11 (Ne.symm g43))); have HY_ := Aside0.mk hbk; clear HBo HX HY HB N0 N1 HLE; have HBo := HBo_; have HX := HX_; have HY := HY_; have HB := HB_; have N0 := N0_; have N1 := N1_; have HLE := HLE_; clear HBo_ HX_ HY_ HB_ N0_ N1_ HLE_; clear O1; have O1 := O_; clear O_ hk hbk; have p2 := blk_cell O1.out 2; have p3 := blk_cell O1.out 3; have p4 := blk_cell O1.out 4; have p5 := blk_cell O1.out 5))
          all_goals
            go_wp2_with (fail)
            go_roundg k1
            case rel => exact ⟨i + 1, s, s', by go_num, by omega, HBo, HX, HY, HIa, HI', HB, N0, N1, HLE⟩
            case measure => omega
        · have eK : (kd == 2) = false := beq_eq_false_iff_ne.mpr hk
          clear hk
          obtain ⟨l, er, s', hi', -, -, hf'⟩ := feed_any HIc.out HOKc.out at_ is val
          have HI' := Aside0.mk hi'
          have HF2 := Aside0.mk (show feedP [(g1, a, s), (g2, c, t)] c.name at_ is val = (l, er, [(g1, a, s), (g2, c, s')]) from hf' _ 1 g2 _ (idx_two1 g1 g2 s t HNE.out) rfl)
          have HF1 := Aside0.mk (show feedP [(g4, c, t)] c.name at_ is val = (l, er, [(g4, c, s')]) from hf' _ 0 g4 _ (idxP_one g4 c t) rfl)
          have HOK2 := Aside0.mk (show ∀ x ∈ [(g1, a, s), (g2, c, t)], RulOk x.2.1 ∧ RInv x.2.1 x.2.2 from ok2 ⟨HOKa.out, HIa.out⟩ ⟨HOKc.out, HIc.out⟩)
          have HOK1 := Aside0.mk (show ∀ x ∈ [(g4, c, t)], RulOk x.2.1 ∧ RInv x.2.1 x.2.2 from ok1 ⟨HOKc.out, HIc.out⟩)
          clear hi' hf'
          go_wp2_with (first
            | (go_at_call 11; (with_reducible refine (any_Feed HBo.out (by simp) HOK2.out HV.out HF2.out).mono ?_); rintro e w5 ⟨A5, c5, rfl, hA5, hA5b, hbk, hk⟩; have hsz5 : wr.heap.size < (wr.alloc (.cells #[.int .i64 kd, .string nm, .int .i64 at_, .bool is, .int .i64 (hiW val), .int .u64 (loW val)] 39 (0, 0))).heap.size := (by simp); have HA := Aside0.mk hA5; have HAb := Aside0.mk (fun ad (e : A5 = some ad) => Nat.lt_of_lt_of_le hsz5 (hA5b ad e)); clear hA5 hA5b hsz5; have N0_ := Aside0.mk ((hk.block _ (blk_lt N0.out) (nS2 (by omega) (by omega))).trans N0.out); have N1_ := Aside0.mk ((hk.block _ (blk_lt N1.out) (nS2 (by omega) (by omega))).trans N1.out); have O_ := Aside0.mk ((hk.block _ (blk_lt O1.out) (nS2 (by omega) (by omega))).trans O1.out); have HB_ := Aside0.mk (HB.out.trans (hk.below HB.out.size (ge2 (by omega) (by omega)))); have HLE_ := Aside0.mk (Nat.le_trans HLE.out hk.size); have HX_ := Aside0.mk (HX.out.beside HBo.out hk (ne12 g31 g32)); have HY_ := Aside0.mk (HY.out.beside HBo.out hk (ne12 g41 g42)); have HBo_ := Aside0.mk hbk; clear HBo HX HY HB N0 N1 HLE; have HBo := HBo_; have HX := HX_; have HY := HY_; have HB := HB_; have N0 := N0_; have N1 := N1_; have HLE := HLE_; clear HBo_ HX_ HY_ HB_ N0_ N1_ HLE_; clear O1; have O1 := O_; clear O_ hk hbk; have p2 := blk_cell O1.out 2; have p3 := blk_cell O1.out 3; have p4 := blk_cell O1.out 4; have p5 := blk_cell O1.out 5)
            | (go_at_call 11; (with_reducible refine (any_Feed HY.out (by simp) HOK1.out HV.out HF1.out).mono ?_); rintro e w6 ⟨A6, c6, rfl, hA6, hA6b, hbk, hk⟩; have HA6 := Aside0.mk hA6; have HA_ := Aside0.mk (HA.out.keep hk (fun ad e => nS1 (by have := HAb.out ad e; omega))); clear hA6 hA6b HA; have HA := HA_; clear HA_; have N0_ := Aside0.mk ((hk.block _ (blk_lt N0.out) (nS1 (by omega))).trans N0.out); have N1_ := Aside0.mk ((hk.block _ (blk_lt N1.out) (nS1 (by omega))).trans N1.out); have O_ := Aside0.mk ((hk.block _ (blk_lt O1.out) (nS1 (by omega))).trans O1.out); have HB_ := Aside0.mk (HB.out.trans (hk.below HB.out.size (ge1 (by omega)))); have HLE_ := Aside0.mk (Nat.le_trans HLE.out hk.size); have HBo_ := Aside0.mk (HBo.out.beside HY.out hk (ne21 (Ne.symm g41) (Ne.symm g42))); have HX_ := Aside0.mk (HX.out.beside HY.out hk (ne11 (Ne.symm g43))); have HY_ := Aside0.mk hbk; clear HBo HX HY HB N0 N1 HLE; have HBo := HBo_; have HX := HX_; have HY := HY_; have HB := HB_; have N0 := N0_; have N1 := N1_; have HLE := HLE_; clear HBo_ HX_ HY_ HB_ N0_ N1_ HLE_; clear O1; have O1 := O_; clear O_ hk hbk; have p2 := blk_cell O1.out 2; have p3 := blk_cell O1.out 3; have p4 := blk_cell O1.out 4; have p5 := blk_cell O1.out 5)
            | (go_at_call 18; (with_reducible refine (ref_Same HA.out HA6.out).mono ?_); rintro e w7 ⟨rfl, hb⟩; have hq := below_keep hb; have HBo_ := Aside0.mk (HBo.out.quiet hq); have HX_ := Aside0.mk (HX.out.quiet hq); have HY_ := Aside0.mk (HY.out.quiet hq); have HB_ := Aside0.mk (hop HB.out hb); have N0_ := Aside0.mk ((hb.block _ (blk_lt N0.out)).trans N0.out); have N1_ := Aside0.mk ((hb.block _ (blk_lt N1.out)).trans N1.out); have HLE_ := Aside0.mk (Nat.le_trans HLE.out hb.size); clear HBo HX HY HB N0 N1 HLE; have HBo := HBo_; have HX := HX_; have HY := HY_; have HB := HB_; have N0 := N0_; have N1 := N1_; have HLE := HLE_; clear HBo_ HX_ HY_ HB_ N0_ N1_ HLE_; clear hb hq))
          go_roundg k1
          case rel => exact ⟨i + 1, s, s', by go_num, by omega, HBo, HX, HY, HIa, HI', HB, N0, N1, HLE⟩
          case measure => omega
/-- Every two rules and script. -/
theorem law_AlarmApart (w : World) {a c : Rul} (ha : RulIn a) (hc : RulIn c) {S0 : Option Addr} {c0 : Nat} {os : List OpR} (hC : Kd.C kOp w S0 os.length os) (hos : ∀ o ∈ os, inW o.val) :
    Calls Try.prog 7 #[.agg (ruleA a), .agg (ruleA c), .slice S0 os.length c0] w fun e w' => e = .returned (.bool true) ∧ Below w.heap.size w w' := by
  by_cases hm : MayP a ∧ MayP c ∧ a.name ≠ c.name
  · exact law_AlarmApart_may w ha hc hm.1 hm.2.1 hm.2.2 hC hos
  · exact law_AlarmApart_not w ha hc hm S0 c0 _
end Go.Proofs.Ytadmigijbfdboaa.Q
