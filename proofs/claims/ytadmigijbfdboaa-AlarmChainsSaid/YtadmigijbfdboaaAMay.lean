import Derived.Test.YtadmigijbfdboaaMC
namespace Go.Proofs.Ytadmigijbfdboaa.Q
open Go.RowKit Go.Proofs.YtadmigijbfdboaaW.PrintWords Go.Proofs.YtadmigijbfdboaaW.PrintLast Go.Proofs.YtadmigijbfdboaaW.PrintMore Go.Proofs.YtadmigijbfdboaaV
set_option linter.unusedVariables false
set_option linter.unusedSimpArgs false

/-- May a rule be? -/
def MayP (r : Rul) : Prop := 1 ≤ r.name.size ∧ r.name.size ≤ 200 ∧ (r.warn.natAbs : Int) ≤ FAR ∧ (r.crit.natAbs : Int) ≤ FAR ∧ (r.slack.natAbs : Int) ≤ FAR ∧ 0 ≤ r.slack ∧ (r.above = true → r.warn ≤ r.crit) ∧ (r.above = false → r.crit ≤ r.warn) ∧ (1 ≤ r.for_ ∧ r.for_ ≤ 1000) ∧ (0 ≤ r.absent ∧ r.absent ≤ 1000) ∧ (0 ≤ r.again ∧ r.again ≤ 1099511627775)
instance (r : Rul) : Decidable (MayP r) := by unfold MayP; infer_instance
theorem MayP.ok {r : Rul} (h : MayP r) : RulOk r := by
  obtain ⟨-, -, h1, h2, h3, h4, -, -, h5, h6, h7⟩ := h
  unfold FAR at h1 h2 h3
  exact ⟨by omega, by omega, by omega, h5, h6, h7⟩
def ruleA (r : Rul) : Array Value := #[.string r.name, .bool r.above, .int .i64 (hiW r.warn), .int .u64 (loW r.warn), .int .i64 (hiW r.crit), .int .u64 (loW r.crit), .int .i64 (hiW r.slack), .int .u64 (loW r.slack), .int .i64 r.for_, .int .i64 r.absent, .int .i64 r.again]
/-- A rule that has come in. -/
structure RulIn (r : Rul) : Prop where
  warn : inW r.warn
  crit : inW r.crit
  slack : inW r.slack
theorem str_none {s : ByteArray} (h : s.size = 0) : (s.toList == []) = true := by
  have : s.toList.length = 0 := by rw [ByteArray.toList_eq, Array.length_toList]; exact h
  rw [List.eq_nil_of_length_eq_zero this]; rfl
theorem str_some {s : ByteArray} (h : ¬ s.size = 0) : (s.toList == []) = false := by
  refine beq_eq_false_iff_ne.mpr (fun e => h ?_)
  have : s.toList.length = 0 := by rw [e]; rfl
  rwa [ByteArray.toList_eq, Array.length_toList] at this

set_option maxHeartbeats 12800000 in
set_option maxRecDepth 4000 in
theorem alarm_may (w : World) (r : Rul) (hin : RulIn r) :
    Calls Try.prog 33 #[.agg (ruleA r)] w fun e w' => e = .returned (.bool (decide (MayP r))) ∧ Below w.heap.size w w' := by
  have HFw := Aside0.mk (fun W => alarm_far (x := r.warn) W hin.warn)
  have HFc := Aside0.mk (fun W => alarm_far (x := r.crit) W hin.crit)
  have HFs := Aside0.mk (fun W => alarm_far (x := r.slack) W hin.slack)
  have HSg := Aside0.mk (fun W => wide_Sign (x := r.slack) W hin.slack)
  have HCm := Aside0.mk (fun W => wide_Cmp W hin.crit hin.warn)
  have sp1 : (sgn r.slack < 0) ↔ r.slack < 0 := by unfold sgn; split <;> (try split) <;> omega
  have sp2 : (sgn (r.crit - r.warn) < 0) ↔ r.crit < r.warn := by unfold sgn; split <;> (try split) <;> omega
  have sp3 : (0 < sgn (r.crit - r.warn)) ↔ r.warn < r.crit := by unfold sgn; split <;> (try split) <;> omega
  obtain ⟨W, hW⟩ : ∃ W, W = w.alloc (.cells (ruleA r) 26 (0, 0)) := ⟨_, rfl⟩
  have n0 : W.heap[w.heap.size]? = some (.cells (ruleA r) 26 (0, 0)) := by rw [hW]; exact heap_alloc_new _ _
  have HBX := Aside0.mk (show ∀ W', Below w.heap.size w W' → Keep W W' (fun _ => False) → W'.heap[w.heap.size]? = some (.cells (ruleA r) 26 (0, 0)) from fun W' _ hk => (hk.block _ (blk_lt n0) (fun h => h)).trans n0)
  have hb0 : Below w.heap.size w W := by rw [hW]; exact (Below.refl _ _).alloc (Nat.le_refl _) _
  have HK0 := Aside0.mk (Keep.refl W (fun _ => False))
  have HB0 := Aside0.mk hb0
  have HW := Aside0.mk hW
  have x0 := blk_cell n0 0
  have x2 := blk_cell n0 2
  have x3 := blk_cell n0 3
  unfold ruleA at n0 x0 x2 x3 hW
  unfold ruleA at HBX HW
  unfold WV at HFw HFc HFs HSg HCm
  unfold ruleA
  obtain ⟨wa, hwa⟩ : ∃ a, a = hiW r.warn := ⟨_, rfl⟩
  obtain ⟨wb, hwb⟩ : ∃ a, a = loW r.warn := ⟨_, rfl⟩
  obtain ⟨ca, hca⟩ : ∃ a, a = hiW r.crit := ⟨_, rfl⟩
  obtain ⟨cb, hcb⟩ : ∃ a, a = loW r.crit := ⟨_, rfl⟩
  obtain ⟨sa, hsa⟩ : ∃ a, a = hiW r.slack := ⟨_, rfl⟩
  obtain ⟨sb, hsb⟩ : ∃ a, a = loW r.slack := ⟨_, rfl⟩
  rw [← hwa, ← hwb, ← hca, ← hcb, ← hsa, ← hsb] at HBX HW x0 x2 x3 n0
  rw [← hwa, ← hwb] at HFw
  rw [← hca, ← hcb] at HFc
  rw [← hsa, ← hsb] at HFs HSg
  rw [← hca, ← hcb, ← hwa, ← hwb] at HCm
  rw [← hwa, ← hwb, ← hca, ← hcb, ← hsa, ← hsb]
  obtain ⟨fw, hfw⟩ : ∃ b, b = decide (FAR < (r.warn.natAbs : Int)) := ⟨_, rfl⟩
  obtain ⟨fc, hfc⟩ : ∃ b, b = decide (FAR < (r.crit.natAbs : Int)) := ⟨_, rfl⟩
  obtain ⟨fs, hfs⟩ : ∃ b, b = decide (FAR < (r.slack.natAbs : Int)) := ⟨_, rfl⟩
  obtain ⟨zs, hzs⟩ : ∃ b, b = sgn r.slack := ⟨_, rfl⟩
  obtain ⟨zc, hzc⟩ : ∃ b, b = sgn (r.crit - r.warn) := ⟨_, rfl⟩
  obtain ⟨ab, hab⟩ : ∃ b, b = r.above := ⟨_, rfl⟩
  rw [← hfw] at HFw
  rw [← hfc] at HFc
  rw [← hfs] at HFs
  rw [← hzs] at HSg sp1
  rw [← hzc] at HCm sp2 sp3
  rw [← hab] at HBX HW n0 x0 x2 x3
  rw [← hab]
  have pw : fw = true ↔ FAR < (r.warn.natAbs : Int) := by rw [hfw]; simp
  have pc : fc = true ↔ FAR < (r.crit.natAbs : Int) := by rw [hfc]; simp
  have ps : fs = true ↔ FAR < (r.slack.natAbs : Int) := by rw [hfs]; simp
  clear hwa hwb hca hcb hsa hsb hfw hfc hfs hzs hzc hW hb0 hin
  have dm : MayP r ↔ (1 ≤ r.name.size ∧ r.name.size ≤ 200 ∧ ¬ fw = true ∧ ¬ fc = true ∧ ¬ fs = true ∧ ¬ zs < 0 ∧ (ab = true → ¬ zc < 0) ∧ (ab = false → ¬ 0 < zc) ∧ (1 ≤ r.for_ ∧ r.for_ ≤ 1000) ∧ (0 ≤ r.absent ∧ r.absent ≤ 1000) ∧ (0 ≤ r.again ∧ r.again ≤ 1099511627775)) := by
    unfold MayP
    rw [pw, pc, ps, sp1, sp2, sp3, ← hab]
    cases ab <;> simp only [Bool.false_eq_true, Bool.true_eq_false, reduceCtorEq, false_implies, true_implies, forall_const, true_and, and_true] <;> omega
  clear pw pc ps sp1 sp2 sp3 hab
  have DM := Aside0.mk dm
  clear dm
  by_cases h1 : r.name.size = 0
  · have e1 := str_none h1
    have HD := Aside0.mk (show decide (MayP r) = false from decide_eq_false (fun m => by have := DM.out.1 m; omega))
    clear DM h1
    go_enter Try.func33, Try.ntmps33
    go_upto_region 1 with (fail)
    rw [← HW.out]
    go_wp2_with (first
        | (go_at_call 48; (with_reducible refine (HFw.out _).mono ?_); rintro e w1 ⟨rfl, hb1⟩; have HB_ := Aside0.mk (hop HB0.out hb1); have HK_ := Aside0.mk (HK0.out.trans (Keep.of_below (S := fun _ => False) hb1) (fun _ _ h => h) (fun _ _ h => h)); clear HB0 HK0 hb1; have HB0 := HB_; have HK0 := HK_; clear HB_ HK_; have k4 := blk_cell (HBX.out _ HB0.out HK0.out) 4; have k5 := blk_cell (HBX.out _ HB0.out HK0.out) 5; skip)
        | (go_at_call 48; (with_reducible refine (HFc.out _).mono ?_); rintro e w1 ⟨rfl, hb1⟩; have HB_ := Aside0.mk (hop HB0.out hb1); have HK_ := Aside0.mk (HK0.out.trans (Keep.of_below (S := fun _ => False) hb1) (fun _ _ h => h) (fun _ _ h => h)); clear HB0 HK0 hb1; have HB0 := HB_; have HK0 := HK_; clear HB_ HK_; have k6 := blk_cell (HBX.out _ HB0.out HK0.out) 6; have k7 := blk_cell (HBX.out _ HB0.out HK0.out) 7; skip)
        | (go_at_call 48; (with_reducible refine (HFs.out _).mono ?_); rintro e w1 ⟨rfl, hb1⟩; have HB_ := Aside0.mk (hop HB0.out hb1); have HK_ := Aside0.mk (HK0.out.trans (Keep.of_below (S := fun _ => False) hb1) (fun _ _ h => h) (fun _ _ h => h)); clear HB0 HK0 hb1; have HB0 := HB_; have HK0 := HK_; clear HB_ HK_; have k6 := blk_cell (HBX.out _ HB0.out HK0.out) 6; have k7 := blk_cell (HBX.out _ HB0.out HK0.out) 7; skip)
        | (go_at_call 49; (with_reducible refine (HSg.out _).mono ?_); rintro e w1 ⟨rfl, hb1⟩; have HB_ := Aside0.mk (hop HB0.out hb1); have HK_ := Aside0.mk (HK0.out.trans (Keep.of_below (S := fun _ => False) hb1) (fun _ _ h => h) (fun _ _ h => h)); clear HB0 HK0 hb1; have HB0 := HB_; have HK0 := HK_; clear HB_ HK_; have k2 := blk_cell (HBX.out _ HB0.out HK0.out) 2; have k3 := blk_cell (HBX.out _ HB0.out HK0.out) 3; have k4 := blk_cell (HBX.out _ HB0.out HK0.out) 4; have k5 := blk_cell (HBX.out _ HB0.out HK0.out) 5; skip)
        | (go_at_call 50; (with_reducible refine (HCm.out _).mono ?_); rintro e w1 ⟨rfl, hb1⟩; have HB_ := Aside0.mk (hop HB0.out hb1); have HK_ := Aside0.mk (HK0.out.trans (Keep.of_below (S := fun _ => False) hb1) (fun _ _ h => h) (fun _ _ h => h)); clear HB0 HK0 hb1; have HB0 := HB_; have HK0 := HK_; clear HB_ HK_; have k1 := blk_cell (HBX.out _ HB0.out HK0.out) 1; have k8 := blk_cell (HBX.out _ HB0.out HK0.out) 8; have k9 := blk_cell (HBX.out _ HB0.out HK0.out) 9; have k10 := blk_cell (HBX.out _ HB0.out HK0.out) 10; skip))
    go_ret
    rw [HD.out]
    exact ⟨rfl, HB0.out⟩
  · have e1 := str_some h1
    by_cases h2 : 200 < r.name.size
    · have e2 : decide ((200 : Int) < (r.name.size : Int)) = true := decide_eq_true (by omega)
      have HD := Aside0.mk (show decide (MayP r) = false from decide_eq_false (fun m => by have := DM.out.1 m; omega))
      clear DM h1 h2
      go_enter Try.func33, Try.ntmps33
      go_upto_region 1 with (fail)
      rw [← HW.out]
      go_wp2_with (first
          | (go_at_call 48; (with_reducible refine (HFw.out _).mono ?_); rintro e w1 ⟨rfl, hb1⟩; have HB_ := Aside0.mk (hop HB0.out hb1); have HK_ := Aside0.mk (HK0.out.trans (Keep.of_below (S := fun _ => False) hb1) (fun _ _ h => h) (fun _ _ h => h)); clear HB0 HK0 hb1; have HB0 := HB_; have HK0 := HK_; clear HB_ HK_; have k4 := blk_cell (HBX.out _ HB0.out HK0.out) 4; have k5 := blk_cell (HBX.out _ HB0.out HK0.out) 5; skip)
          | (go_at_call 48; (with_reducible refine (HFc.out _).mono ?_); rintro e w1 ⟨rfl, hb1⟩; have HB_ := Aside0.mk (hop HB0.out hb1); have HK_ := Aside0.mk (HK0.out.trans (Keep.of_below (S := fun _ => False) hb1) (fun _ _ h => h) (fun _ _ h => h)); clear HB0 HK0 hb1; have HB0 := HB_; have HK0 := HK_; clear HB_ HK_; have k6 := blk_cell (HBX.out _ HB0.out HK0.out) 6; have k7 := blk_cell (HBX.out _ HB0.out HK0.out) 7; skip)
          | (go_at_call 48; (with_reducible refine (HFs.out _).mono ?_); rintro e w1 ⟨rfl, hb1⟩; have HB_ := Aside0.mk (hop HB0.out hb1); have HK_ := Aside0.mk (HK0.out.trans (Keep.of_below (S := fun _ => False) hb1) (fun _ _ h => h) (fun _ _ h => h)); clear HB0 HK0 hb1; have HB0 := HB_; have HK0 := HK_; clear HB_ HK_; have k6 := blk_cell (HBX.out _ HB0.out HK0.out) 6; have k7 := blk_cell (HBX.out _ HB0.out HK0.out) 7; skip)
          | (go_at_call 49; (with_reducible refine (HSg.out _).mono ?_); rintro e w1 ⟨rfl, hb1⟩; have HB_ := Aside0.mk (hop HB0.out hb1); have HK_ := Aside0.mk (HK0.out.trans (Keep.of_below (S := fun _ => False) hb1) (fun _ _ h => h) (fun _ _ h => h)); clear HB0 HK0 hb1; have HB0 := HB_; have HK0 := HK_; clear HB_ HK_; have k2 := blk_cell (HBX.out _ HB0.out HK0.out) 2; have k3 := blk_cell (HBX.out _ HB0.out HK0.out) 3; have k4 := blk_cell (HBX.out _ HB0.out HK0.out) 4; have k5 := blk_cell (HBX.out _ HB0.out HK0.out) 5; skip)
          | (go_at_call 50; (with_reducible refine (HCm.out _).mono ?_); rintro e w1 ⟨rfl, hb1⟩; have HB_ := Aside0.mk (hop HB0.out hb1); have HK_ := Aside0.mk (HK0.out.trans (Keep.of_below (S := fun _ => False) hb1) (fun _ _ h => h) (fun _ _ h => h)); clear HB0 HK0 hb1; have HB0 := HB_; have HK0 := HK_; clear HB_ HK_; have k1 := blk_cell (HBX.out _ HB0.out HK0.out) 1; have k8 := blk_cell (HBX.out _ HB0.out HK0.out) 8; have k9 := blk_cell (HBX.out _ HB0.out HK0.out) 9; have k10 := blk_cell (HBX.out _ HB0.out HK0.out) 10; skip))
      go_ret
      rw [HD.out]
      exact ⟨rfl, HB0.out⟩
    · have e2 : decide ((200 : Int) < (r.name.size : Int)) = false := decide_eq_false (by omega)
      by_cases h3 : fw = true
      · rw [h3] at HFw
        have HD := Aside0.mk (show decide (MayP r) = false from decide_eq_false (fun m => (DM.out.1 m).2.2.1 h3))
        clear DM h1 h2 h3
        go_enter Try.func33, Try.ntmps33
        go_upto_region 1 with (fail)
        rw [← HW.out]
        go_wp2_with (first
            | (go_at_call 48; (with_reducible refine (HFw.out _).mono ?_); rintro e w1 ⟨rfl, hb1⟩; have HB_ := Aside0.mk (hop HB0.out hb1); have HK_ := Aside0.mk (HK0.out.trans (Keep.of_below (S := fun _ => False) hb1) (fun _ _ h => h) (fun _ _ h => h)); clear HB0 HK0 hb1; have HB0 := HB_; have HK0 := HK_; clear HB_ HK_; have k4 := blk_cell (HBX.out _ HB0.out HK0.out) 4; have k5 := blk_cell (HBX.out _ HB0.out HK0.out) 5; skip)
            | (go_at_call 48; (with_reducible refine (HFc.out _).mono ?_); rintro e w1 ⟨rfl, hb1⟩; have HB_ := Aside0.mk (hop HB0.out hb1); have HK_ := Aside0.mk (HK0.out.trans (Keep.of_below (S := fun _ => False) hb1) (fun _ _ h => h) (fun _ _ h => h)); clear HB0 HK0 hb1; have HB0 := HB_; have HK0 := HK_; clear HB_ HK_; have k6 := blk_cell (HBX.out _ HB0.out HK0.out) 6; have k7 := blk_cell (HBX.out _ HB0.out HK0.out) 7; skip)
            | (go_at_call 48; (with_reducible refine (HFs.out _).mono ?_); rintro e w1 ⟨rfl, hb1⟩; have HB_ := Aside0.mk (hop HB0.out hb1); have HK_ := Aside0.mk (HK0.out.trans (Keep.of_below (S := fun _ => False) hb1) (fun _ _ h => h) (fun _ _ h => h)); clear HB0 HK0 hb1; have HB0 := HB_; have HK0 := HK_; clear HB_ HK_; have k6 := blk_cell (HBX.out _ HB0.out HK0.out) 6; have k7 := blk_cell (HBX.out _ HB0.out HK0.out) 7; skip)
            | (go_at_call 49; (with_reducible refine (HSg.out _).mono ?_); rintro e w1 ⟨rfl, hb1⟩; have HB_ := Aside0.mk (hop HB0.out hb1); have HK_ := Aside0.mk (HK0.out.trans (Keep.of_below (S := fun _ => False) hb1) (fun _ _ h => h) (fun _ _ h => h)); clear HB0 HK0 hb1; have HB0 := HB_; have HK0 := HK_; clear HB_ HK_; have k2 := blk_cell (HBX.out _ HB0.out HK0.out) 2; have k3 := blk_cell (HBX.out _ HB0.out HK0.out) 3; have k4 := blk_cell (HBX.out _ HB0.out HK0.out) 4; have k5 := blk_cell (HBX.out _ HB0.out HK0.out) 5; skip)
            | (go_at_call 50; (with_reducible refine (HCm.out _).mono ?_); rintro e w1 ⟨rfl, hb1⟩; have HB_ := Aside0.mk (hop HB0.out hb1); have HK_ := Aside0.mk (HK0.out.trans (Keep.of_below (S := fun _ => False) hb1) (fun _ _ h => h) (fun _ _ h => h)); clear HB0 HK0 hb1; have HB0 := HB_; have HK0 := HK_; clear HB_ HK_; have k1 := blk_cell (HBX.out _ HB0.out HK0.out) 1; have k8 := blk_cell (HBX.out _ HB0.out HK0.out) 8; have k9 := blk_cell (HBX.out _ HB0.out HK0.out) 9; have k10 := blk_cell (HBX.out _ HB0.out HK0.out) 10; skip))
        go_ret
        rw [HD.out]
        exact ⟨rfl, HB0.out⟩
      · have q3 : fw = false := by simpa using h3
        rw [q3] at HFw
        by_cases h4 : fc = true
        · rw [h4] at HFc
          have HD := Aside0.mk (show decide (MayP r) = false from decide_eq_false (fun m => (DM.out.1 m).2.2.2.1 h4))
          clear DM h1 h2 h3 h4
          go_enter Try.func33, Try.ntmps33
          go_upto_region 1 with (fail)
          rw [← HW.out]
          go_wp2_with (first
              | (go_at_call 48; (with_reducible refine (HFw.out _).mono ?_); rintro e w1 ⟨rfl, hb1⟩; have HB_ := Aside0.mk (hop HB0.out hb1); have HK_ := Aside0.mk (HK0.out.trans (Keep.of_below (S := fun _ => False) hb1) (fun _ _ h => h) (fun _ _ h => h)); clear HB0 HK0 hb1; have HB0 := HB_; have HK0 := HK_; clear HB_ HK_; have k4 := blk_cell (HBX.out _ HB0.out HK0.out) 4; have k5 := blk_cell (HBX.out _ HB0.out HK0.out) 5; skip)
              | (go_at_call 48; (with_reducible refine (HFc.out _).mono ?_); rintro e w1 ⟨rfl, hb1⟩; have HB_ := Aside0.mk (hop HB0.out hb1); have HK_ := Aside0.mk (HK0.out.trans (Keep.of_below (S := fun _ => False) hb1) (fun _ _ h => h) (fun _ _ h => h)); clear HB0 HK0 hb1; have HB0 := HB_; have HK0 := HK_; clear HB_ HK_; have k6 := blk_cell (HBX.out _ HB0.out HK0.out) 6; have k7 := blk_cell (HBX.out _ HB0.out HK0.out) 7; skip)
              | (go_at_call 48; (with_reducible refine (HFs.out _).mono ?_); rintro e w1 ⟨rfl, hb1⟩; have HB_ := Aside0.mk (hop HB0.out hb1); have HK_ := Aside0.mk (HK0.out.trans (Keep.of_below (S := fun _ => False) hb1) (fun _ _ h => h) (fun _ _ h => h)); clear HB0 HK0 hb1; have HB0 := HB_; have HK0 := HK_; clear HB_ HK_; have k6 := blk_cell (HBX.out _ HB0.out HK0.out) 6; have k7 := blk_cell (HBX.out _ HB0.out HK0.out) 7; skip)
              | (go_at_call 49; (with_reducible refine (HSg.out _).mono ?_); rintro e w1 ⟨rfl, hb1⟩; have HB_ := Aside0.mk (hop HB0.out hb1); have HK_ := Aside0.mk (HK0.out.trans (Keep.of_below (S := fun _ => False) hb1) (fun _ _ h => h) (fun _ _ h => h)); clear HB0 HK0 hb1; have HB0 := HB_; have HK0 := HK_; clear HB_ HK_; have k2 := blk_cell (HBX.out _ HB0.out HK0.out) 2; have k3 := blk_cell (HBX.out _ HB0.out HK0.out) 3; have k4 := blk_cell (HBX.out _ HB0.out HK0.out) 4; have k5 := blk_cell (HBX.out _ HB0.out HK0.out) 5; skip)
              | (go_at_call 50; (with_reducible refine (HCm.out _).mono ?_); rintro e w1 ⟨rfl, hb1⟩; have HB_ := Aside0.mk (hop HB0.out hb1); have HK_ := Aside0.mk (HK0.out.trans (Keep.of_below (S := fun _ => False) hb1) (fun _ _ h => h) (fun _ _ h => h)); clear HB0 HK0 hb1; have HB0 := HB_; have HK0 := HK_; clear HB_ HK_; have k1 := blk_cell (HBX.out _ HB0.out HK0.out) 1; have k8 := blk_cell (HBX.out _ HB0.out HK0.out) 8; have k9 := blk_cell (HBX.out _ HB0.out HK0.out) 9; have k10 := blk_cell (HBX.out _ HB0.out HK0.out) 10; skip))
          go_ret
          rw [HD.out]
          exact ⟨rfl, HB0.out⟩
        · have q4 : fc = false := by simpa using h4
          rw [q4] at HFc
          by_cases h5 : fs = true
          · rw [h5] at HFs
            have HD := Aside0.mk (show decide (MayP r) = false from decide_eq_false (fun m => (DM.out.1 m).2.2.2.2.1 h5))
            clear DM h1 h2 h3 h4 h5
            go_enter Try.func33, Try.ntmps33
            go_upto_region 1 with (fail)
            rw [← HW.out]
            go_wp2_with (first
                | (go_at_call 48; (with_reducible refine (HFw.out _).mono ?_); rintro e w1 ⟨rfl, hb1⟩; have HB_ := Aside0.mk (hop HB0.out hb1); have HK_ := Aside0.mk (HK0.out.trans (Keep.of_below (S := fun _ => False) hb1) (fun _ _ h => h) (fun _ _ h => h)); clear HB0 HK0 hb1; have HB0 := HB_; have HK0 := HK_; clear HB_ HK_; have k4 := blk_cell (HBX.out _ HB0.out HK0.out) 4; have k5 := blk_cell (HBX.out _ HB0.out HK0.out) 5; skip)
                | (go_at_call 48; (with_reducible refine (HFc.out _).mono ?_); rintro e w1 ⟨rfl, hb1⟩; have HB_ := Aside0.mk (hop HB0.out hb1); have HK_ := Aside0.mk (HK0.out.trans (Keep.of_below (S := fun _ => False) hb1) (fun _ _ h => h) (fun _ _ h => h)); clear HB0 HK0 hb1; have HB0 := HB_; have HK0 := HK_; clear HB_ HK_; have k6 := blk_cell (HBX.out _ HB0.out HK0.out) 6; have k7 := blk_cell (HBX.out _ HB0.out HK0.out) 7; skip)
                | (go_at_call 48; (with_reducible refine (HFs.out _).mono ?_); rintro e w1 ⟨rfl, hb1⟩; have HB_ := Aside0.mk (hop HB0.out hb1); have HK_ := Aside0.mk (HK0.out.trans (Keep.of_below (S := fun _ => False) hb1) (fun _ _ h => h) (fun _ _ h => h)); clear HB0 HK0 hb1; have HB0 := HB_; have HK0 := HK_; clear HB_ HK_; have k6 := blk_cell (HBX.out _ HB0.out HK0.out) 6; have k7 := blk_cell (HBX.out _ HB0.out HK0.out) 7; skip)
                | (go_at_call 49; (with_reducible refine (HSg.out _).mono ?_); rintro e w1 ⟨rfl, hb1⟩; have HB_ := Aside0.mk (hop HB0.out hb1); have HK_ := Aside0.mk (HK0.out.trans (Keep.of_below (S := fun _ => False) hb1) (fun _ _ h => h) (fun _ _ h => h)); clear HB0 HK0 hb1; have HB0 := HB_; have HK0 := HK_; clear HB_ HK_; have k2 := blk_cell (HBX.out _ HB0.out HK0.out) 2; have k3 := blk_cell (HBX.out _ HB0.out HK0.out) 3; have k4 := blk_cell (HBX.out _ HB0.out HK0.out) 4; have k5 := blk_cell (HBX.out _ HB0.out HK0.out) 5; skip)
                | (go_at_call 50; (with_reducible refine (HCm.out _).mono ?_); rintro e w1 ⟨rfl, hb1⟩; have HB_ := Aside0.mk (hop HB0.out hb1); have HK_ := Aside0.mk (HK0.out.trans (Keep.of_below (S := fun _ => False) hb1) (fun _ _ h => h) (fun _ _ h => h)); clear HB0 HK0 hb1; have HB0 := HB_; have HK0 := HK_; clear HB_ HK_; have k1 := blk_cell (HBX.out _ HB0.out HK0.out) 1; have k8 := blk_cell (HBX.out _ HB0.out HK0.out) 8; have k9 := blk_cell (HBX.out _ HB0.out HK0.out) 9; have k10 := blk_cell (HBX.out _ HB0.out HK0.out) 10; skip))
            go_ret
            rw [HD.out]
            exact ⟨rfl, HB0.out⟩
          · have q5 : fs = false := by simpa using h5
            rw [q5] at HFs
            by_cases h6 : zs < 0
            · have e6 : decide (zs < 0) = true := decide_eq_true h6
              have HD := Aside0.mk (show decide (MayP r) = false from decide_eq_false (fun m => by have := DM.out.1 m; omega))
              clear DM h1 h2 h3 h4 h5 h6
              go_enter Try.func33, Try.ntmps33
              go_upto_region 1 with (fail)
              rw [← HW.out]
              go_wp2_with (first
                  | (go_at_call 48; (with_reducible refine (HFw.out _).mono ?_); rintro e w1 ⟨rfl, hb1⟩; have HB_ := Aside0.mk (hop HB0.out hb1); have HK_ := Aside0.mk (HK0.out.trans (Keep.of_below (S := fun _ => False) hb1) (fun _ _ h => h) (fun _ _ h => h)); clear HB0 HK0 hb1; have HB0 := HB_; have HK0 := HK_; clear HB_ HK_; have k4 := blk_cell (HBX.out _ HB0.out HK0.out) 4; have k5 := blk_cell (HBX.out _ HB0.out HK0.out) 5; skip)
                  | (go_at_call 48; (with_reducible refine (HFc.out _).mono ?_); rintro e w1 ⟨rfl, hb1⟩; have HB_ := Aside0.mk (hop HB0.out hb1); have HK_ := Aside0.mk (HK0.out.trans (Keep.of_below (S := fun _ => False) hb1) (fun _ _ h => h) (fun _ _ h => h)); clear HB0 HK0 hb1; have HB0 := HB_; have HK0 := HK_; clear HB_ HK_; have k6 := blk_cell (HBX.out _ HB0.out HK0.out) 6; have k7 := blk_cell (HBX.out _ HB0.out HK0.out) 7; skip)
                  | (go_at_call 48; (with_reducible refine (HFs.out _).mono ?_); rintro e w1 ⟨rfl, hb1⟩; have HB_ := Aside0.mk (hop HB0.out hb1); have HK_ := Aside0.mk (HK0.out.trans (Keep.of_below (S := fun _ => False) hb1) (fun _ _ h => h) (fun _ _ h => h)); clear HB0 HK0 hb1; have HB0 := HB_; have HK0 := HK_; clear HB_ HK_; have k6 := blk_cell (HBX.out _ HB0.out HK0.out) 6; have k7 := blk_cell (HBX.out _ HB0.out HK0.out) 7; skip)
                  | (go_at_call 49; (with_reducible refine (HSg.out _).mono ?_); rintro e w1 ⟨rfl, hb1⟩; have HB_ := Aside0.mk (hop HB0.out hb1); have HK_ := Aside0.mk (HK0.out.trans (Keep.of_below (S := fun _ => False) hb1) (fun _ _ h => h) (fun _ _ h => h)); clear HB0 HK0 hb1; have HB0 := HB_; have HK0 := HK_; clear HB_ HK_; have k2 := blk_cell (HBX.out _ HB0.out HK0.out) 2; have k3 := blk_cell (HBX.out _ HB0.out HK0.out) 3; have k4 := blk_cell (HBX.out _ HB0.out HK0.out) 4; have k5 := blk_cell (HBX.out _ HB0.out HK0.out) 5; skip)
                  | (go_at_call 50; (with_reducible refine (HCm.out _).mono ?_); rintro e w1 ⟨rfl, hb1⟩; have HB_ := Aside0.mk (hop HB0.out hb1); have HK_ := Aside0.mk (HK0.out.trans (Keep.of_below (S := fun _ => False) hb1) (fun _ _ h => h) (fun _ _ h => h)); clear HB0 HK0 hb1; have HB0 := HB_; have HK0 := HK_; clear HB_ HK_; have k1 := blk_cell (HBX.out _ HB0.out HK0.out) 1; have k8 := blk_cell (HBX.out _ HB0.out HK0.out) 8; have k9 := blk_cell (HBX.out _ HB0.out HK0.out) 9; have k10 := blk_cell (HBX.out _ HB0.out HK0.out) 10; skip))
              go_ret
              rw [HD.out]
              exact ⟨rfl, HB0.out⟩
            · have e6 : decide (zs < 0) = false := decide_eq_false h6
              cases ab with
              | true =>
                by_cases o1 : zc < 0
                · have eo : decide (zc < 0) = true := decide_eq_true o1
                  have HD := Aside0.mk (show decide (MayP r) = false from decide_eq_false (fun m => (DM.out.1 m).2.2.2.2.2.2.1 rfl o1))
                  clear DM h1 h2 h3 h4 h5 h6 o1
                  go_enter Try.func33, Try.ntmps33
                  go_upto_region 1 with (fail)
                  rw [← HW.out]
                  go_wp2_with (first
                      | (go_at_call 48; (with_reducible refine (HFw.out _).mono ?_); rintro e w1 ⟨rfl, hb1⟩; have HB_ := Aside0.mk (hop HB0.out hb1); have HK_ := Aside0.mk (HK0.out.trans (Keep.of_below (S := fun _ => False) hb1) (fun _ _ h => h) (fun _ _ h => h)); clear HB0 HK0 hb1; have HB0 := HB_; have HK0 := HK_; clear HB_ HK_; have k4 := blk_cell (HBX.out _ HB0.out HK0.out) 4; have k5 := blk_cell (HBX.out _ HB0.out HK0.out) 5; skip)
                      | (go_at_call 48; (with_reducible refine (HFc.out _).mono ?_); rintro e w1 ⟨rfl, hb1⟩; have HB_ := Aside0.mk (hop HB0.out hb1); have HK_ := Aside0.mk (HK0.out.trans (Keep.of_below (S := fun _ => False) hb1) (fun _ _ h => h) (fun _ _ h => h)); clear HB0 HK0 hb1; have HB0 := HB_; have HK0 := HK_; clear HB_ HK_; have k6 := blk_cell (HBX.out _ HB0.out HK0.out) 6; have k7 := blk_cell (HBX.out _ HB0.out HK0.out) 7; skip)
                      | (go_at_call 48; (with_reducible refine (HFs.out _).mono ?_); rintro e w1 ⟨rfl, hb1⟩; have HB_ := Aside0.mk (hop HB0.out hb1); have HK_ := Aside0.mk (HK0.out.trans (Keep.of_below (S := fun _ => False) hb1) (fun _ _ h => h) (fun _ _ h => h)); clear HB0 HK0 hb1; have HB0 := HB_; have HK0 := HK_; clear HB_ HK_; have k6 := blk_cell (HBX.out _ HB0.out HK0.out) 6; have k7 := blk_cell (HBX.out _ HB0.out HK0.out) 7; skip)
                      | (go_at_call 49; (with_reducible refine (HSg.out _).mono ?_); rintro e w1 ⟨rfl, hb1⟩; have HB_ := Aside0.mk (hop HB0.out hb1); have HK_ := Aside0.mk (HK0.out.trans (Keep.of_below (S := fun _ => False) hb1) (fun _ _ h => h) (fun _ _ h => h)); clear HB0 HK0 hb1; have HB0 := HB_; have HK0 := HK_; clear HB_ HK_; have k2 := blk_cell (HBX.out _ HB0.out HK0.out) 2; have k3 := blk_cell (HBX.out _ HB0.out HK0.out) 3; have k4 := blk_cell (HBX.out _ HB0.out HK0.out) 4; have k5 := blk_cell (HBX.out _ HB0.out HK0.out) 5; skip)
                      | (go_at_call 50; (with_reducible refine (HCm.out _).mono ?_); rintro e w1 ⟨rfl, hb1⟩; have HB_ := Aside0.mk (hop HB0.out hb1); have HK_ := Aside0.mk (HK0.out.trans (Keep.of_below (S := fun _ => False) hb1) (fun _ _ h => h) (fun _ _ h => h)); clear HB0 HK0 hb1; have HB0 := HB_; have HK0 := HK_; clear HB_ HK_; have k1 := blk_cell (HBX.out _ HB0.out HK0.out) 1; have k8 := blk_cell (HBX.out _ HB0.out HK0.out) 8; have k9 := blk_cell (HBX.out _ HB0.out HK0.out) 9; have k10 := blk_cell (HBX.out _ HB0.out HK0.out) 10; skip))
                  go_ret
                  rw [HD.out]
                  exact ⟨rfl, HB0.out⟩
                · have eo : decide (zc < 0) = false := decide_eq_false o1
                  by_cases j1 : 1 ≤ r.for_
                  · have ij1 : decide (1 ≤ r.for_) = true := decide_eq_true j1
                    by_cases j2 : r.for_ ≤ 1000
                    · have ij2 : decide (r.for_ ≤ 1000) = true := decide_eq_true j2
                      by_cases j3 : 0 ≤ r.absent
                      · have ij3 : decide (0 ≤ r.absent) = true := decide_eq_true j3
                        by_cases j4 : r.absent ≤ 1000
                        · have ij4 : decide (r.absent ≤ 1000) = true := decide_eq_true j4
                          by_cases j5 : 0 ≤ r.again
                          · have ij5 : decide (0 ≤ r.again) = true := decide_eq_true j5
                            by_cases j6 : r.again ≤ 1099511627775
                            · have ij6 : decide (r.again ≤ 1099511627775) = true := decide_eq_true j6
                              have HD := Aside0.mk (show decide (MayP r) = true from decide_eq_true (DM.out.2 ⟨by omega, by omega, h3, h4, h5, h6, ⟨fun _ => o1, ⟨(fun q => by cases q), ⟨j1, j2⟩, ⟨j3, j4⟩, j5, j6⟩⟩⟩))
                              clear DM h1 h2 h3 h4 h5 h6 j1 j2 j3 j4 j5 j6 o1
                              go_enter Try.func33, Try.ntmps33
                              go_upto_region 1 with (fail)
                              rw [← HW.out]
                              go_wp2_with (first
                                  | (go_at_call 48; (with_reducible refine (HFw.out _).mono ?_); rintro e w1 ⟨rfl, hb1⟩; have HB_ := Aside0.mk (hop HB0.out hb1); have HK_ := Aside0.mk (HK0.out.trans (Keep.of_below (S := fun _ => False) hb1) (fun _ _ h => h) (fun _ _ h => h)); clear HB0 HK0 hb1; have HB0 := HB_; have HK0 := HK_; clear HB_ HK_; have k4 := blk_cell (HBX.out _ HB0.out HK0.out) 4; have k5 := blk_cell (HBX.out _ HB0.out HK0.out) 5; skip)
                                  | (go_at_call 48; (with_reducible refine (HFc.out _).mono ?_); rintro e w1 ⟨rfl, hb1⟩; have HB_ := Aside0.mk (hop HB0.out hb1); have HK_ := Aside0.mk (HK0.out.trans (Keep.of_below (S := fun _ => False) hb1) (fun _ _ h => h) (fun _ _ h => h)); clear HB0 HK0 hb1; have HB0 := HB_; have HK0 := HK_; clear HB_ HK_; have k6 := blk_cell (HBX.out _ HB0.out HK0.out) 6; have k7 := blk_cell (HBX.out _ HB0.out HK0.out) 7; skip)
                                  | (go_at_call 48; (with_reducible refine (HFs.out _).mono ?_); rintro e w1 ⟨rfl, hb1⟩; have HB_ := Aside0.mk (hop HB0.out hb1); have HK_ := Aside0.mk (HK0.out.trans (Keep.of_below (S := fun _ => False) hb1) (fun _ _ h => h) (fun _ _ h => h)); clear HB0 HK0 hb1; have HB0 := HB_; have HK0 := HK_; clear HB_ HK_; have k6 := blk_cell (HBX.out _ HB0.out HK0.out) 6; have k7 := blk_cell (HBX.out _ HB0.out HK0.out) 7; skip)
                                  | (go_at_call 49; (with_reducible refine (HSg.out _).mono ?_); rintro e w1 ⟨rfl, hb1⟩; have HB_ := Aside0.mk (hop HB0.out hb1); have HK_ := Aside0.mk (HK0.out.trans (Keep.of_below (S := fun _ => False) hb1) (fun _ _ h => h) (fun _ _ h => h)); clear HB0 HK0 hb1; have HB0 := HB_; have HK0 := HK_; clear HB_ HK_; have k2 := blk_cell (HBX.out _ HB0.out HK0.out) 2; have k3 := blk_cell (HBX.out _ HB0.out HK0.out) 3; have k4 := blk_cell (HBX.out _ HB0.out HK0.out) 4; have k5 := blk_cell (HBX.out _ HB0.out HK0.out) 5; skip)
                                  | (go_at_call 50; (with_reducible refine (HCm.out _).mono ?_); rintro e w1 ⟨rfl, hb1⟩; have HB_ := Aside0.mk (hop HB0.out hb1); have HK_ := Aside0.mk (HK0.out.trans (Keep.of_below (S := fun _ => False) hb1) (fun _ _ h => h) (fun _ _ h => h)); clear HB0 HK0 hb1; have HB0 := HB_; have HK0 := HK_; clear HB_ HK_; have k1 := blk_cell (HBX.out _ HB0.out HK0.out) 1; have k8 := blk_cell (HBX.out _ HB0.out HK0.out) 8; have k9 := blk_cell (HBX.out _ HB0.out HK0.out) 9; have k10 := blk_cell (HBX.out _ HB0.out HK0.out) 10; skip))
                              go_ret
                              rw [HD.out]
                              exact ⟨rfl, HB0.out⟩
                            · have ij6 : decide (r.again ≤ 1099511627775) = false := decide_eq_false j6
                              have HD := Aside0.mk (show decide (MayP r) = false from decide_eq_false (fun m => by have := DM.out.1 m; omega))
                              clear DM h1 h2 h3 h4 h5 h6 j1 j2 j3 j4 j5 j6 o1
                              go_enter Try.func33, Try.ntmps33
                              go_upto_region 1 with (fail)
                              rw [← HW.out]
                              go_wp2_with (first
                                  | (go_at_call 48; (with_reducible refine (HFw.out _).mono ?_); rintro e w1 ⟨rfl, hb1⟩; have HB_ := Aside0.mk (hop HB0.out hb1); have HK_ := Aside0.mk (HK0.out.trans (Keep.of_below (S := fun _ => False) hb1) (fun _ _ h => h) (fun _ _ h => h)); clear HB0 HK0 hb1; have HB0 := HB_; have HK0 := HK_; clear HB_ HK_; have k4 := blk_cell (HBX.out _ HB0.out HK0.out) 4; have k5 := blk_cell (HBX.out _ HB0.out HK0.out) 5; skip)
                                  | (go_at_call 48; (with_reducible refine (HFc.out _).mono ?_); rintro e w1 ⟨rfl, hb1⟩; have HB_ := Aside0.mk (hop HB0.out hb1); have HK_ := Aside0.mk (HK0.out.trans (Keep.of_below (S := fun _ => False) hb1) (fun _ _ h => h) (fun _ _ h => h)); clear HB0 HK0 hb1; have HB0 := HB_; have HK0 := HK_; clear HB_ HK_; have k6 := blk_cell (HBX.out _ HB0.out HK0.out) 6; have k7 := blk_cell (HBX.out _ HB0.out HK0.out) 7; skip)
                                  | (go_at_call 48; (with_reducible refine (HFs.out _).mono ?_); rintro e w1 ⟨rfl, hb1⟩; have HB_ := Aside0.mk (hop HB0.out hb1); have HK_ := Aside0.mk (HK0.out.trans (Keep.of_below (S := fun _ => False) hb1) (fun _ _ h => h) (fun _ _ h => h)); clear HB0 HK0 hb1; have HB0 := HB_; have HK0 := HK_; clear HB_ HK_; have k6 := blk_cell (HBX.out _ HB0.out HK0.out) 6; have k7 := blk_cell (HBX.out _ HB0.out HK0.out) 7; skip)
                                  | (go_at_call 49; (with_reducible refine (HSg.out _).mono ?_); rintro e w1 ⟨rfl, hb1⟩; have HB_ := Aside0.mk (hop HB0.out hb1); have HK_ := Aside0.mk (HK0.out.trans (Keep.of_below (S := fun _ => False) hb1) (fun _ _ h => h) (fun _ _ h => h)); clear HB0 HK0 hb1; have HB0 := HB_; have HK0 := HK_; clear HB_ HK_; have k2 := blk_cell (HBX.out _ HB0.out HK0.out) 2; have k3 := blk_cell (HBX.out _ HB0.out HK0.out) 3; have k4 := blk_cell (HBX.out _ HB0.out HK0.out) 4; have k5 := blk_cell (HBX.out _ HB0.out HK0.out) 5; skip)
                                  | (go_at_call 50; (with_reducible refine (HCm.out _).mono ?_); rintro e w1 ⟨rfl, hb1⟩; have HB_ := Aside0.mk (hop HB0.out hb1); have HK_ := Aside0.mk (HK0.out.trans (Keep.of_below (S := fun _ => False) hb1) (fun _ _ h => h) (fun _ _ h => h)); clear HB0 HK0 hb1; have HB0 := HB_; have HK0 := HK_; clear HB_ HK_; have k1 := blk_cell (HBX.out _ HB0.out HK0.out) 1; have k8 := blk_cell (HBX.out _ HB0.out HK0.out) 8; have k9 := blk_cell (HBX.out _ HB0.out HK0.out) 9; have k10 := blk_cell (HBX.out _ HB0.out HK0.out) 10; skip))
                              go_ret
                              rw [HD.out]
                              exact ⟨rfl, HB0.out⟩
                          · have ij5 : decide (0 ≤ r.again) = false := decide_eq_false j5
                            have HD := Aside0.mk (show decide (MayP r) = false from decide_eq_false (fun m => by have := DM.out.1 m; omega))
                            clear DM h1 h2 h3 h4 h5 h6 j1 j2 j3 j4 j5 o1
                            go_enter Try.func33, Try.ntmps33
                            go_upto_region 1 with (fail)
                            rw [← HW.out]
                            go_wp2_with (first
                                | (go_at_call 48; (with_reducible refine (HFw.out _).mono ?_); rintro e w1 ⟨rfl, hb1⟩; have HB_ := Aside0.mk (hop HB0.out hb1); have HK_ := Aside0.mk (HK0.out.trans (Keep.of_below (S := fun _ => False) hb1) (fun _ _ h => h) (fun _ _ h => h)); clear HB0 HK0 hb1; have HB0 := HB_; have HK0 := HK_; clear HB_ HK_; have k4 := blk_cell (HBX.out _ HB0.out HK0.out) 4; have k5 := blk_cell (HBX.out _ HB0.out HK0.out) 5; skip)
                                | (go_at_call 48; (with_reducible refine (HFc.out _).mono ?_); rintro e w1 ⟨rfl, hb1⟩; have HB_ := Aside0.mk (hop HB0.out hb1); have HK_ := Aside0.mk (HK0.out.trans (Keep.of_below (S := fun _ => False) hb1) (fun _ _ h => h) (fun _ _ h => h)); clear HB0 HK0 hb1; have HB0 := HB_; have HK0 := HK_; clear HB_ HK_; have k6 := blk_cell (HBX.out _ HB0.out HK0.out) 6; have k7 := blk_cell (HBX.out _ HB0.out HK0.out) 7; skip)
                                | (go_at_call 48; (with_reducible refine (HFs.out _).mono ?_); rintro e w1 ⟨rfl, hb1⟩; have HB_ := Aside0.mk (hop HB0.out hb1); have HK_ := Aside0.mk (HK0.out.trans (Keep.of_below (S := fun _ => False) hb1) (fun _ _ h => h) (fun _ _ h => h)); clear HB0 HK0 hb1; have HB0 := HB_; have HK0 := HK_; clear HB_ HK_; have k6 := blk_cell (HBX.out _ HB0.out HK0.out) 6; have k7 := blk_cell (HBX.out _ HB0.out HK0.out) 7; skip)
                                | (go_at_call 49; (with_reducible refine (HSg.out _).mono ?_); rintro e w1 ⟨rfl, hb1⟩; have HB_ := Aside0.mk (hop HB0.out hb1); have HK_ := Aside0.mk (HK0.out.trans (Keep.of_below (S := fun _ => False) hb1) (fun _ _ h => h) (fun _ _ h => h)); clear HB0 HK0 hb1; have HB0 := HB_; have HK0 := HK_; clear HB_ HK_; have k2 := blk_cell (HBX.out _ HB0.out HK0.out) 2; have k3 := blk_cell (HBX.out _ HB0.out HK0.out) 3; have k4 := blk_cell (HBX.out _ HB0.out HK0.out) 4; have k5 := blk_cell (HBX.out _ HB0.out HK0.out) 5; skip)
                                | (go_at_call 50; (with_reducible refine (HCm.out _).mono ?_); rintro e w1 ⟨rfl, hb1⟩; have HB_ := Aside0.mk (hop HB0.out hb1); have HK_ := Aside0.mk (HK0.out.trans (Keep.of_below (S := fun _ => False) hb1) (fun _ _ h => h) (fun _ _ h => h)); clear HB0 HK0 hb1; have HB0 := HB_; have HK0 := HK_; clear HB_ HK_; have k1 := blk_cell (HBX.out _ HB0.out HK0.out) 1; have k8 := blk_cell (HBX.out _ HB0.out HK0.out) 8; have k9 := blk_cell (HBX.out _ HB0.out HK0.out) 9; have k10 := blk_cell (HBX.out _ HB0.out HK0.out) 10; skip))
                            go_ret
                            rw [HD.out]
                            exact ⟨rfl, HB0.out⟩
                        · have ij4 : decide (r.absent ≤ 1000) = false := decide_eq_false j4
                          have HD := Aside0.mk (show decide (MayP r) = false from decide_eq_false (fun m => by have := DM.out.1 m; omega))
                          clear DM h1 h2 h3 h4 h5 h6 j1 j2 j3 j4 o1
                          go_enter Try.func33, Try.ntmps33
                          go_upto_region 1 with (fail)
                          rw [← HW.out]
                          go_wp2_with (first
                              | (go_at_call 48; (with_reducible refine (HFw.out _).mono ?_); rintro e w1 ⟨rfl, hb1⟩; have HB_ := Aside0.mk (hop HB0.out hb1); have HK_ := Aside0.mk (HK0.out.trans (Keep.of_below (S := fun _ => False) hb1) (fun _ _ h => h) (fun _ _ h => h)); clear HB0 HK0 hb1; have HB0 := HB_; have HK0 := HK_; clear HB_ HK_; have k4 := blk_cell (HBX.out _ HB0.out HK0.out) 4; have k5 := blk_cell (HBX.out _ HB0.out HK0.out) 5; skip)
                              | (go_at_call 48; (with_reducible refine (HFc.out _).mono ?_); rintro e w1 ⟨rfl, hb1⟩; have HB_ := Aside0.mk (hop HB0.out hb1); have HK_ := Aside0.mk (HK0.out.trans (Keep.of_below (S := fun _ => False) hb1) (fun _ _ h => h) (fun _ _ h => h)); clear HB0 HK0 hb1; have HB0 := HB_; have HK0 := HK_; clear HB_ HK_; have k6 := blk_cell (HBX.out _ HB0.out HK0.out) 6; have k7 := blk_cell (HBX.out _ HB0.out HK0.out) 7; skip)
                              | (go_at_call 48; (with_reducible refine (HFs.out _).mono ?_); rintro e w1 ⟨rfl, hb1⟩; have HB_ := Aside0.mk (hop HB0.out hb1); have HK_ := Aside0.mk (HK0.out.trans (Keep.of_below (S := fun _ => False) hb1) (fun _ _ h => h) (fun _ _ h => h)); clear HB0 HK0 hb1; have HB0 := HB_; have HK0 := HK_; clear HB_ HK_; have k6 := blk_cell (HBX.out _ HB0.out HK0.out) 6; have k7 := blk_cell (HBX.out _ HB0.out HK0.out) 7; skip)
                              | (go_at_call 49; (with_reducible refine (HSg.out _).mono ?_); rintro e w1 ⟨rfl, hb1⟩; have HB_ := Aside0.mk (hop HB0.out hb1); have HK_ := Aside0.mk (HK0.out.trans (Keep.of_below (S := fun _ => False) hb1) (fun _ _ h => h) (fun _ _ h => h)); clear HB0 HK0 hb1; have HB0 := HB_; have HK0 := HK_; clear HB_ HK_; have k2 := blk_cell (HBX.out _ HB0.out HK0.out) 2; have k3 := blk_cell (HBX.out _ HB0.out HK0.out) 3; have k4 := blk_cell (HBX.out _ HB0.out HK0.out) 4; have k5 := blk_cell (HBX.out _ HB0.out HK0.out) 5; skip)
                              | (go_at_call 50; (with_reducible refine (HCm.out _).mono ?_); rintro e w1 ⟨rfl, hb1⟩; have HB_ := Aside0.mk (hop HB0.out hb1); have HK_ := Aside0.mk (HK0.out.trans (Keep.of_below (S := fun _ => False) hb1) (fun _ _ h => h) (fun _ _ h => h)); clear HB0 HK0 hb1; have HB0 := HB_; have HK0 := HK_; clear HB_ HK_; have k1 := blk_cell (HBX.out _ HB0.out HK0.out) 1; have k8 := blk_cell (HBX.out _ HB0.out HK0.out) 8; have k9 := blk_cell (HBX.out _ HB0.out HK0.out) 9; have k10 := blk_cell (HBX.out _ HB0.out HK0.out) 10; skip))
                          go_ret
                          rw [HD.out]
                          exact ⟨rfl, HB0.out⟩
                      · have ij3 : decide (0 ≤ r.absent) = false := decide_eq_false j3
                        have HD := Aside0.mk (show decide (MayP r) = false from decide_eq_false (fun m => by have := DM.out.1 m; omega))
                        clear DM h1 h2 h3 h4 h5 h6 j1 j2 j3 o1
                        go_enter Try.func33, Try.ntmps33
                        go_upto_region 1 with (fail)
                        rw [← HW.out]
                        go_wp2_with (first
                            | (go_at_call 48; (with_reducible refine (HFw.out _).mono ?_); rintro e w1 ⟨rfl, hb1⟩; have HB_ := Aside0.mk (hop HB0.out hb1); have HK_ := Aside0.mk (HK0.out.trans (Keep.of_below (S := fun _ => False) hb1) (fun _ _ h => h) (fun _ _ h => h)); clear HB0 HK0 hb1; have HB0 := HB_; have HK0 := HK_; clear HB_ HK_; have k4 := blk_cell (HBX.out _ HB0.out HK0.out) 4; have k5 := blk_cell (HBX.out _ HB0.out HK0.out) 5; skip)
                            | (go_at_call 48; (with_reducible refine (HFc.out _).mono ?_); rintro e w1 ⟨rfl, hb1⟩; have HB_ := Aside0.mk (hop HB0.out hb1); have HK_ := Aside0.mk (HK0.out.trans (Keep.of_below (S := fun _ => False) hb1) (fun _ _ h => h) (fun _ _ h => h)); clear HB0 HK0 hb1; have HB0 := HB_; have HK0 := HK_; clear HB_ HK_; have k6 := blk_cell (HBX.out _ HB0.out HK0.out) 6; have k7 := blk_cell (HBX.out _ HB0.out HK0.out) 7; skip)
                            | (go_at_call 48; (with_reducible refine (HFs.out _).mono ?_); rintro e w1 ⟨rfl, hb1⟩; have HB_ := Aside0.mk (hop HB0.out hb1); have HK_ := Aside0.mk (HK0.out.trans (Keep.of_below (S := fun _ => False) hb1) (fun _ _ h => h) (fun _ _ h => h)); clear HB0 HK0 hb1; have HB0 := HB_; have HK0 := HK_; clear HB_ HK_; have k6 := blk_cell (HBX.out _ HB0.out HK0.out) 6; have k7 := blk_cell (HBX.out _ HB0.out HK0.out) 7; skip)
                            | (go_at_call 49; (with_reducible refine (HSg.out _).mono ?_); rintro e w1 ⟨rfl, hb1⟩; have HB_ := Aside0.mk (hop HB0.out hb1); have HK_ := Aside0.mk (HK0.out.trans (Keep.of_below (S := fun _ => False) hb1) (fun _ _ h => h) (fun _ _ h => h)); clear HB0 HK0 hb1; have HB0 := HB_; have HK0 := HK_; clear HB_ HK_; have k2 := blk_cell (HBX.out _ HB0.out HK0.out) 2; have k3 := blk_cell (HBX.out _ HB0.out HK0.out) 3; have k4 := blk_cell (HBX.out _ HB0.out HK0.out) 4; have k5 := blk_cell (HBX.out _ HB0.out HK0.out) 5; skip)
                            | (go_at_call 50; (with_reducible refine (HCm.out _).mono ?_); rintro e w1 ⟨rfl, hb1⟩; have HB_ := Aside0.mk (hop HB0.out hb1); have HK_ := Aside0.mk (HK0.out.trans (Keep.of_below (S := fun _ => False) hb1) (fun _ _ h => h) (fun _ _ h => h)); clear HB0 HK0 hb1; have HB0 := HB_; have HK0 := HK_; clear HB_ HK_; have k1 := blk_cell (HBX.out _ HB0.out HK0.out) 1; have k8 := blk_cell (HBX.out _ HB0.out HK0.out) 8; have k9 := blk_cell (HBX.out _ HB0.out HK0.out) 9; have k10 := blk_cell (HBX.out _ HB0.out HK0.out) 10; skip))
                        go_ret
                        rw [HD.out]
                        exact ⟨rfl, HB0.out⟩
                    · have ij2 : decide (r.for_ ≤ 1000) = false := decide_eq_false j2
                      have HD := Aside0.mk (show decide (MayP r) = false from decide_eq_false (fun m => by have := DM.out.1 m; omega))
                      clear DM h1 h2 h3 h4 h5 h6 j1 j2 o1
                      go_enter Try.func33, Try.ntmps33
                      go_upto_region 1 with (fail)
                      rw [← HW.out]
                      go_wp2_with (first
                          | (go_at_call 48; (with_reducible refine (HFw.out _).mono ?_); rintro e w1 ⟨rfl, hb1⟩; have HB_ := Aside0.mk (hop HB0.out hb1); have HK_ := Aside0.mk (HK0.out.trans (Keep.of_below (S := fun _ => False) hb1) (fun _ _ h => h) (fun _ _ h => h)); clear HB0 HK0 hb1; have HB0 := HB_; have HK0 := HK_; clear HB_ HK_; have k4 := blk_cell (HBX.out _ HB0.out HK0.out) 4; have k5 := blk_cell (HBX.out _ HB0.out HK0.out) 5; skip)
                          | (go_at_call 48; (with_reducible refine (HFc.out _).mono ?_); rintro e w1 ⟨rfl, hb1⟩; have HB_ := Aside0.mk (hop HB0.out hb1); have HK_ := Aside0.mk (HK0.out.trans (Keep.of_below (S := fun _ => False) hb1) (fun _ _ h => h) (fun _ _ h => h)); clear HB0 HK0 hb1; have HB0 := HB_; have HK0 := HK_; clear HB_ HK_; have k6 := blk_cell (HBX.out _ HB0.out HK0.out) 6; have k7 := blk_cell (HBX.out _ HB0.out HK0.out) 7; skip)
                          | (go_at_call 48; (with_reducible refine (HFs.out _).mono ?_); rintro e w1 ⟨rfl, hb1⟩; have HB_ := Aside0.mk (hop HB0.out hb1); have HK_ := Aside0.mk (HK0.out.trans (Keep.of_below (S := fun _ => False) hb1) (fun _ _ h => h) (fun _ _ h => h)); clear HB0 HK0 hb1; have HB0 := HB_; have HK0 := HK_; clear HB_ HK_; have k6 := blk_cell (HBX.out _ HB0.out HK0.out) 6; have k7 := blk_cell (HBX.out _ HB0.out HK0.out) 7; skip)
                          | (go_at_call 49; (with_reducible refine (HSg.out _).mono ?_); rintro e w1 ⟨rfl, hb1⟩; have HB_ := Aside0.mk (hop HB0.out hb1); have HK_ := Aside0.mk (HK0.out.trans (Keep.of_below (S := fun _ => False) hb1) (fun _ _ h => h) (fun _ _ h => h)); clear HB0 HK0 hb1; have HB0 := HB_; have HK0 := HK_; clear HB_ HK_; have k2 := blk_cell (HBX.out _ HB0.out HK0.out) 2; have k3 := blk_cell (HBX.out _ HB0.out HK0.out) 3; have k4 := blk_cell (HBX.out _ HB0.out HK0.out) 4; have k5 := blk_cell (HBX.out _ HB0.out HK0.out) 5; skip)
                          | (go_at_call 50; (with_reducible refine (HCm.out _).mono ?_); rintro e w1 ⟨rfl, hb1⟩; have HB_ := Aside0.mk (hop HB0.out hb1); have HK_ := Aside0.mk (HK0.out.trans (Keep.of_below (S := fun _ => False) hb1) (fun _ _ h => h) (fun _ _ h => h)); clear HB0 HK0 hb1; have HB0 := HB_; have HK0 := HK_; clear HB_ HK_; have k1 := blk_cell (HBX.out _ HB0.out HK0.out) 1; have k8 := blk_cell (HBX.out _ HB0.out HK0.out) 8; have k9 := blk_cell (HBX.out _ HB0.out HK0.out) 9; have k10 := blk_cell (HBX.out _ HB0.out HK0.out) 10; skip))
                      go_ret
                      rw [HD.out]
                      exact ⟨rfl, HB0.out⟩
                  · have ij1 : decide (1 ≤ r.for_) = false := decide_eq_false j1
                    have HD := Aside0.mk (show decide (MayP r) = false from decide_eq_false (fun m => by have := DM.out.1 m; omega))
                    clear DM h1 h2 h3 h4 h5 h6 j1 o1
                    go_enter Try.func33, Try.ntmps33
                    go_upto_region 1 with (fail)
                    rw [← HW.out]
                    go_wp2_with (first
                        | (go_at_call 48; (with_reducible refine (HFw.out _).mono ?_); rintro e w1 ⟨rfl, hb1⟩; have HB_ := Aside0.mk (hop HB0.out hb1); have HK_ := Aside0.mk (HK0.out.trans (Keep.of_below (S := fun _ => False) hb1) (fun _ _ h => h) (fun _ _ h => h)); clear HB0 HK0 hb1; have HB0 := HB_; have HK0 := HK_; clear HB_ HK_; have k4 := blk_cell (HBX.out _ HB0.out HK0.out) 4; have k5 := blk_cell (HBX.out _ HB0.out HK0.out) 5; skip)
                        | (go_at_call 48; (with_reducible refine (HFc.out _).mono ?_); rintro e w1 ⟨rfl, hb1⟩; have HB_ := Aside0.mk (hop HB0.out hb1); have HK_ := Aside0.mk (HK0.out.trans (Keep.of_below (S := fun _ => False) hb1) (fun _ _ h => h) (fun _ _ h => h)); clear HB0 HK0 hb1; have HB0 := HB_; have HK0 := HK_; clear HB_ HK_; have k6 := blk_cell (HBX.out _ HB0.out HK0.out) 6; have k7 := blk_cell (HBX.out _ HB0.out HK0.out) 7; skip)
                        | (go_at_call 48; (with_reducible refine (HFs.out _).mono ?_); rintro e w1 ⟨rfl, hb1⟩; have HB_ := Aside0.mk (hop HB0.out hb1); have HK_ := Aside0.mk (HK0.out.trans (Keep.of_below (S := fun _ => False) hb1) (fun _ _ h => h) (fun _ _ h => h)); clear HB0 HK0 hb1; have HB0 := HB_; have HK0 := HK_; clear HB_ HK_; have k6 := blk_cell (HBX.out _ HB0.out HK0.out) 6; have k7 := blk_cell (HBX.out _ HB0.out HK0.out) 7; skip)
                        | (go_at_call 49; (with_reducible refine (HSg.out _).mono ?_); rintro e w1 ⟨rfl, hb1⟩; have HB_ := Aside0.mk (hop HB0.out hb1); have HK_ := Aside0.mk (HK0.out.trans (Keep.of_below (S := fun _ => False) hb1) (fun _ _ h => h) (fun _ _ h => h)); clear HB0 HK0 hb1; have HB0 := HB_; have HK0 := HK_; clear HB_ HK_; have k2 := blk_cell (HBX.out _ HB0.out HK0.out) 2; have k3 := blk_cell (HBX.out _ HB0.out HK0.out) 3; have k4 := blk_cell (HBX.out _ HB0.out HK0.out) 4; have k5 := blk_cell (HBX.out _ HB0.out HK0.out) 5; skip)
                        | (go_at_call 50; (with_reducible refine (HCm.out _).mono ?_); rintro e w1 ⟨rfl, hb1⟩; have HB_ := Aside0.mk (hop HB0.out hb1); have HK_ := Aside0.mk (HK0.out.trans (Keep.of_below (S := fun _ => False) hb1) (fun _ _ h => h) (fun _ _ h => h)); clear HB0 HK0 hb1; have HB0 := HB_; have HK0 := HK_; clear HB_ HK_; have k1 := blk_cell (HBX.out _ HB0.out HK0.out) 1; have k8 := blk_cell (HBX.out _ HB0.out HK0.out) 8; have k9 := blk_cell (HBX.out _ HB0.out HK0.out) 9; have k10 := blk_cell (HBX.out _ HB0.out HK0.out) 10; skip))
                    go_ret
                    rw [HD.out]
                    exact ⟨rfl, HB0.out⟩
              | false =>
                by_cases o1 : 0 < zc
                · have eo : decide (0 < zc) = true := decide_eq_true o1
                  have HD := Aside0.mk (show decide (MayP r) = false from decide_eq_false (fun m => (DM.out.1 m).2.2.2.2.2.2.2.1 rfl o1))
                  clear DM h1 h2 h3 h4 h5 h6 o1
                  go_enter Try.func33, Try.ntmps33
                  go_upto_region 1 with (fail)
                  rw [← HW.out]
                  go_wp2_with (first
                      | (go_at_call 48; (with_reducible refine (HFw.out _).mono ?_); rintro e w1 ⟨rfl, hb1⟩; have HB_ := Aside0.mk (hop HB0.out hb1); have HK_ := Aside0.mk (HK0.out.trans (Keep.of_below (S := fun _ => False) hb1) (fun _ _ h => h) (fun _ _ h => h)); clear HB0 HK0 hb1; have HB0 := HB_; have HK0 := HK_; clear HB_ HK_; have k4 := blk_cell (HBX.out _ HB0.out HK0.out) 4; have k5 := blk_cell (HBX.out _ HB0.out HK0.out) 5; skip)
                      | (go_at_call 48; (with_reducible refine (HFc.out _).mono ?_); rintro e w1 ⟨rfl, hb1⟩; have HB_ := Aside0.mk (hop HB0.out hb1); have HK_ := Aside0.mk (HK0.out.trans (Keep.of_below (S := fun _ => False) hb1) (fun _ _ h => h) (fun _ _ h => h)); clear HB0 HK0 hb1; have HB0 := HB_; have HK0 := HK_; clear HB_ HK_; have k6 := blk_cell (HBX.out _ HB0.out HK0.out) 6; have k7 := blk_cell (HBX.out _ HB0.out HK0.out) 7; skip)
                      | (go_at_call 48; (with_reducible refine (HFs.out _).mono ?_); rintro e w1 ⟨rfl, hb1⟩; have HB_ := Aside0.mk (hop HB0.out hb1); have HK_ := Aside0.mk (HK0.out.trans (Keep.of_below (S := fun _ => False) hb1) (fun _ _ h => h) (fun _ _ h => h)); clear HB0 HK0 hb1; have HB0 := HB_; have HK0 := HK_; clear HB_ HK_; have k6 := blk_cell (HBX.out _ HB0.out HK0.out) 6; have k7 := blk_cell (HBX.out _ HB0.out HK0.out) 7; skip)
                      | (go_at_call 49; (with_reducible refine (HSg.out _).mono ?_); rintro e w1 ⟨rfl, hb1⟩; have HB_ := Aside0.mk (hop HB0.out hb1); have HK_ := Aside0.mk (HK0.out.trans (Keep.of_below (S := fun _ => False) hb1) (fun _ _ h => h) (fun _ _ h => h)); clear HB0 HK0 hb1; have HB0 := HB_; have HK0 := HK_; clear HB_ HK_; have k2 := blk_cell (HBX.out _ HB0.out HK0.out) 2; have k3 := blk_cell (HBX.out _ HB0.out HK0.out) 3; have k4 := blk_cell (HBX.out _ HB0.out HK0.out) 4; have k5 := blk_cell (HBX.out _ HB0.out HK0.out) 5; skip)
                      | (go_at_call 50; (with_reducible refine (HCm.out _).mono ?_); rintro e w1 ⟨rfl, hb1⟩; have HB_ := Aside0.mk (hop HB0.out hb1); have HK_ := Aside0.mk (HK0.out.trans (Keep.of_below (S := fun _ => False) hb1) (fun _ _ h => h) (fun _ _ h => h)); clear HB0 HK0 hb1; have HB0 := HB_; have HK0 := HK_; clear HB_ HK_; have k1 := blk_cell (HBX.out _ HB0.out HK0.out) 1; have k8 := blk_cell (HBX.out _ HB0.out HK0.out) 8; have k9 := blk_cell (HBX.out _ HB0.out HK0.out) 9; have k10 := blk_cell (HBX.out _ HB0.out HK0.out) 10; skip))
                  go_ret
                  rw [HD.out]
                  exact ⟨rfl, HB0.out⟩
                · have eo : decide (0 < zc) = false := decide_eq_false o1
                  by_cases j1 : 1 ≤ r.for_
                  · have ij1 : decide (1 ≤ r.for_) = true := decide_eq_true j1
                    by_cases j2 : r.for_ ≤ 1000
                    · have ij2 : decide (r.for_ ≤ 1000) = true := decide_eq_true j2
                      by_cases j3 : 0 ≤ r.absent
                      · have ij3 : decide (0 ≤ r.absent) = true := decide_eq_true j3
                        by_cases j4 : r.absent ≤ 1000
                        · have ij4 : decide (r.absent ≤ 1000) = true := decide_eq_true j4
                          by_cases j5 : 0 ≤ r.again
                          · have ij5 : decide (0 ≤ r.again) = true := decide_eq_true j5
                            by_cases j6 : r.again ≤ 1099511627775
                            · have ij6 : decide (r.again ≤ 1099511627775) = true := decide_eq_true j6
                              have HD := Aside0.mk (show decide (MayP r) = true from decide_eq_true (DM.out.2 ⟨by omega, by omega, h3, h4, h5, h6, ⟨(fun q => by cases q), ⟨fun _ => o1, ⟨j1, j2⟩, ⟨j3, j4⟩, j5, j6⟩⟩⟩))
                              clear DM h1 h2 h3 h4 h5 h6 j1 j2 j3 j4 j5 j6 o1
                              go_enter Try.func33, Try.ntmps33
                              go_upto_region 1 with (fail)
                              rw [← HW.out]
                              go_wp2_with (first
                                  | (go_at_call 48; (with_reducible refine (HFw.out _).mono ?_); rintro e w1 ⟨rfl, hb1⟩; have HB_ := Aside0.mk (hop HB0.out hb1); have HK_ := Aside0.mk (HK0.out.trans (Keep.of_below (S := fun _ => False) hb1) (fun _ _ h => h) (fun _ _ h => h)); clear HB0 HK0 hb1; have HB0 := HB_; have HK0 := HK_; clear HB_ HK_; have k4 := blk_cell (HBX.out _ HB0.out HK0.out) 4; have k5 := blk_cell (HBX.out _ HB0.out HK0.out) 5; skip)
                                  | (go_at_call 48; (with_reducible refine (HFc.out _).mono ?_); rintro e w1 ⟨rfl, hb1⟩; have HB_ := Aside0.mk (hop HB0.out hb1); have HK_ := Aside0.mk (HK0.out.trans (Keep.of_below (S := fun _ => False) hb1) (fun _ _ h => h) (fun _ _ h => h)); clear HB0 HK0 hb1; have HB0 := HB_; have HK0 := HK_; clear HB_ HK_; have k6 := blk_cell (HBX.out _ HB0.out HK0.out) 6; have k7 := blk_cell (HBX.out _ HB0.out HK0.out) 7; skip)
                                  | (go_at_call 48; (with_reducible refine (HFs.out _).mono ?_); rintro e w1 ⟨rfl, hb1⟩; have HB_ := Aside0.mk (hop HB0.out hb1); have HK_ := Aside0.mk (HK0.out.trans (Keep.of_below (S := fun _ => False) hb1) (fun _ _ h => h) (fun _ _ h => h)); clear HB0 HK0 hb1; have HB0 := HB_; have HK0 := HK_; clear HB_ HK_; have k6 := blk_cell (HBX.out _ HB0.out HK0.out) 6; have k7 := blk_cell (HBX.out _ HB0.out HK0.out) 7; skip)
                                  | (go_at_call 49; (with_reducible refine (HSg.out _).mono ?_); rintro e w1 ⟨rfl, hb1⟩; have HB_ := Aside0.mk (hop HB0.out hb1); have HK_ := Aside0.mk (HK0.out.trans (Keep.of_below (S := fun _ => False) hb1) (fun _ _ h => h) (fun _ _ h => h)); clear HB0 HK0 hb1; have HB0 := HB_; have HK0 := HK_; clear HB_ HK_; have k2 := blk_cell (HBX.out _ HB0.out HK0.out) 2; have k3 := blk_cell (HBX.out _ HB0.out HK0.out) 3; have k4 := blk_cell (HBX.out _ HB0.out HK0.out) 4; have k5 := blk_cell (HBX.out _ HB0.out HK0.out) 5; skip)
                                  | (go_at_call 50; (with_reducible refine (HCm.out _).mono ?_); rintro e w1 ⟨rfl, hb1⟩; have HB_ := Aside0.mk (hop HB0.out hb1); have HK_ := Aside0.mk (HK0.out.trans (Keep.of_below (S := fun _ => False) hb1) (fun _ _ h => h) (fun _ _ h => h)); clear HB0 HK0 hb1; have HB0 := HB_; have HK0 := HK_; clear HB_ HK_; have k1 := blk_cell (HBX.out _ HB0.out HK0.out) 1; have k8 := blk_cell (HBX.out _ HB0.out HK0.out) 8; have k9 := blk_cell (HBX.out _ HB0.out HK0.out) 9; have k10 := blk_cell (HBX.out _ HB0.out HK0.out) 10; skip))
                              go_ret
                              rw [HD.out]
                              exact ⟨rfl, HB0.out⟩
                            · have ij6 : decide (r.again ≤ 1099511627775) = false := decide_eq_false j6
                              have HD := Aside0.mk (show decide (MayP r) = false from decide_eq_false (fun m => by have := DM.out.1 m; omega))
                              clear DM h1 h2 h3 h4 h5 h6 j1 j2 j3 j4 j5 j6 o1
                              go_enter Try.func33, Try.ntmps33
                              go_upto_region 1 with (fail)
                              rw [← HW.out]
                              go_wp2_with (first
                                  | (go_at_call 48; (with_reducible refine (HFw.out _).mono ?_); rintro e w1 ⟨rfl, hb1⟩; have HB_ := Aside0.mk (hop HB0.out hb1); have HK_ := Aside0.mk (HK0.out.trans (Keep.of_below (S := fun _ => False) hb1) (fun _ _ h => h) (fun _ _ h => h)); clear HB0 HK0 hb1; have HB0 := HB_; have HK0 := HK_; clear HB_ HK_; have k4 := blk_cell (HBX.out _ HB0.out HK0.out) 4; have k5 := blk_cell (HBX.out _ HB0.out HK0.out) 5; skip)
                                  | (go_at_call 48; (with_reducible refine (HFc.out _).mono ?_); rintro e w1 ⟨rfl, hb1⟩; have HB_ := Aside0.mk (hop HB0.out hb1); have HK_ := Aside0.mk (HK0.out.trans (Keep.of_below (S := fun _ => False) hb1) (fun _ _ h => h) (fun _ _ h => h)); clear HB0 HK0 hb1; have HB0 := HB_; have HK0 := HK_; clear HB_ HK_; have k6 := blk_cell (HBX.out _ HB0.out HK0.out) 6; have k7 := blk_cell (HBX.out _ HB0.out HK0.out) 7; skip)
                                  | (go_at_call 48; (with_reducible refine (HFs.out _).mono ?_); rintro e w1 ⟨rfl, hb1⟩; have HB_ := Aside0.mk (hop HB0.out hb1); have HK_ := Aside0.mk (HK0.out.trans (Keep.of_below (S := fun _ => False) hb1) (fun _ _ h => h) (fun _ _ h => h)); clear HB0 HK0 hb1; have HB0 := HB_; have HK0 := HK_; clear HB_ HK_; have k6 := blk_cell (HBX.out _ HB0.out HK0.out) 6; have k7 := blk_cell (HBX.out _ HB0.out HK0.out) 7; skip)
                                  | (go_at_call 49; (with_reducible refine (HSg.out _).mono ?_); rintro e w1 ⟨rfl, hb1⟩; have HB_ := Aside0.mk (hop HB0.out hb1); have HK_ := Aside0.mk (HK0.out.trans (Keep.of_below (S := fun _ => False) hb1) (fun _ _ h => h) (fun _ _ h => h)); clear HB0 HK0 hb1; have HB0 := HB_; have HK0 := HK_; clear HB_ HK_; have k2 := blk_cell (HBX.out _ HB0.out HK0.out) 2; have k3 := blk_cell (HBX.out _ HB0.out HK0.out) 3; have k4 := blk_cell (HBX.out _ HB0.out HK0.out) 4; have k5 := blk_cell (HBX.out _ HB0.out HK0.out) 5; skip)
                                  | (go_at_call 50; (with_reducible refine (HCm.out _).mono ?_); rintro e w1 ⟨rfl, hb1⟩; have HB_ := Aside0.mk (hop HB0.out hb1); have HK_ := Aside0.mk (HK0.out.trans (Keep.of_below (S := fun _ => False) hb1) (fun _ _ h => h) (fun _ _ h => h)); clear HB0 HK0 hb1; have HB0 := HB_; have HK0 := HK_; clear HB_ HK_; have k1 := blk_cell (HBX.out _ HB0.out HK0.out) 1; have k8 := blk_cell (HBX.out _ HB0.out HK0.out) 8; have k9 := blk_cell (HBX.out _ HB0.out HK0.out) 9; have k10 := blk_cell (HBX.out _ HB0.out HK0.out) 10; skip))
                              go_ret
                              rw [HD.out]
                              exact ⟨rfl, HB0.out⟩
                          · have ij5 : decide (0 ≤ r.again) = false := decide_eq_false j5
                            have HD := Aside0.mk (show decide (MayP r) = false from decide_eq_false (fun m => by have := DM.out.1 m; omega))
                            clear DM h1 h2 h3 h4 h5 h6 j1 j2 j3 j4 j5 o1
                            go_enter Try.func33, Try.ntmps33
                            go_upto_region 1 with (fail)
                            rw [← HW.out]
                            go_wp2_with (first
                                | (go_at_call 48; (with_reducible refine (HFw.out _).mono ?_); rintro e w1 ⟨rfl, hb1⟩; have HB_ := Aside0.mk (hop HB0.out hb1); have HK_ := Aside0.mk (HK0.out.trans (Keep.of_below (S := fun _ => False) hb1) (fun _ _ h => h) (fun _ _ h => h)); clear HB0 HK0 hb1; have HB0 := HB_; have HK0 := HK_; clear HB_ HK_; have k4 := blk_cell (HBX.out _ HB0.out HK0.out) 4; have k5 := blk_cell (HBX.out _ HB0.out HK0.out) 5; skip)
                                | (go_at_call 48; (with_reducible refine (HFc.out _).mono ?_); rintro e w1 ⟨rfl, hb1⟩; have HB_ := Aside0.mk (hop HB0.out hb1); have HK_ := Aside0.mk (HK0.out.trans (Keep.of_below (S := fun _ => False) hb1) (fun _ _ h => h) (fun _ _ h => h)); clear HB0 HK0 hb1; have HB0 := HB_; have HK0 := HK_; clear HB_ HK_; have k6 := blk_cell (HBX.out _ HB0.out HK0.out) 6; have k7 := blk_cell (HBX.out _ HB0.out HK0.out) 7; skip)
                                | (go_at_call 48; (with_reducible refine (HFs.out _).mono ?_); rintro e w1 ⟨rfl, hb1⟩; have HB_ := Aside0.mk (hop HB0.out hb1); have HK_ := Aside0.mk (HK0.out.trans (Keep.of_below (S := fun _ => False) hb1) (fun _ _ h => h) (fun _ _ h => h)); clear HB0 HK0 hb1; have HB0 := HB_; have HK0 := HK_; clear HB_ HK_; have k6 := blk_cell (HBX.out _ HB0.out HK0.out) 6; have k7 := blk_cell (HBX.out _ HB0.out HK0.out) 7; skip)
                                | (go_at_call 49; (with_reducible refine (HSg.out _).mono ?_); rintro e w1 ⟨rfl, hb1⟩; have HB_ := Aside0.mk (hop HB0.out hb1); have HK_ := Aside0.mk (HK0.out.trans (Keep.of_below (S := fun _ => False) hb1) (fun _ _ h => h) (fun _ _ h => h)); clear HB0 HK0 hb1; have HB0 := HB_; have HK0 := HK_; clear HB_ HK_; have k2 := blk_cell (HBX.out _ HB0.out HK0.out) 2; have k3 := blk_cell (HBX.out _ HB0.out HK0.out) 3; have k4 := blk_cell (HBX.out _ HB0.out HK0.out) 4; have k5 := blk_cell (HBX.out _ HB0.out HK0.out) 5; skip)
                                | (go_at_call 50; (with_reducible refine (HCm.out _).mono ?_); rintro e w1 ⟨rfl, hb1⟩; have HB_ := Aside0.mk (hop HB0.out hb1); have HK_ := Aside0.mk (HK0.out.trans (Keep.of_below (S := fun _ => False) hb1) (fun _ _ h => h) (fun _ _ h => h)); clear HB0 HK0 hb1; have HB0 := HB_; have HK0 := HK_; clear HB_ HK_; have k1 := blk_cell (HBX.out _ HB0.out HK0.out) 1; have k8 := blk_cell (HBX.out _ HB0.out HK0.out) 8; have k9 := blk_cell (HBX.out _ HB0.out HK0.out) 9; have k10 := blk_cell (HBX.out _ HB0.out HK0.out) 10; skip))
                            go_ret
                            rw [HD.out]
                            exact ⟨rfl, HB0.out⟩
                        · have ij4 : decide (r.absent ≤ 1000) = false := decide_eq_false j4
                          have HD := Aside0.mk (show decide (MayP r) = false from decide_eq_false (fun m => by have := DM.out.1 m; omega))
                          clear DM h1 h2 h3 h4 h5 h6 j1 j2 j3 j4 o1
                          go_enter Try.func33, Try.ntmps33
                          go_upto_region 1 with (fail)
                          rw [← HW.out]
                          go_wp2_with (first
                              | (go_at_call 48; (with_reducible refine (HFw.out _).mono ?_); rintro e w1 ⟨rfl, hb1⟩; have HB_ := Aside0.mk (hop HB0.out hb1); have HK_ := Aside0.mk (HK0.out.trans (Keep.of_below (S := fun _ => False) hb1) (fun _ _ h => h) (fun _ _ h => h)); clear HB0 HK0 hb1; have HB0 := HB_; have HK0 := HK_; clear HB_ HK_; have k4 := blk_cell (HBX.out _ HB0.out HK0.out) 4; have k5 := blk_cell (HBX.out _ HB0.out HK0.out) 5; skip)
                              | (go_at_call 48; (with_reducible refine (HFc.out _).mono ?_); rintro e w1 ⟨rfl, hb1⟩; have HB_ := Aside0.mk (hop HB0.out hb1); have HK_ := Aside0.mk (HK0.out.trans (Keep.of_below (S := fun _ => False) hb1) (fun _ _ h => h) (fun _ _ h => h)); clear HB0 HK0 hb1; have HB0 := HB_; have HK0 := HK_; clear HB_ HK_; have k6 := blk_cell (HBX.out _ HB0.out HK0.out) 6; have k7 := blk_cell (HBX.out _ HB0.out HK0.out) 7; skip)
                              | (go_at_call 48; (with_reducible refine (HFs.out _).mono ?_); rintro e w1 ⟨rfl, hb1⟩; have HB_ := Aside0.mk (hop HB0.out hb1); have HK_ := Aside0.mk (HK0.out.trans (Keep.of_below (S := fun _ => False) hb1) (fun _ _ h => h) (fun _ _ h => h)); clear HB0 HK0 hb1; have HB0 := HB_; have HK0 := HK_; clear HB_ HK_; have k6 := blk_cell (HBX.out _ HB0.out HK0.out) 6; have k7 := blk_cell (HBX.out _ HB0.out HK0.out) 7; skip)
                              | (go_at_call 49; (with_reducible refine (HSg.out _).mono ?_); rintro e w1 ⟨rfl, hb1⟩; have HB_ := Aside0.mk (hop HB0.out hb1); have HK_ := Aside0.mk (HK0.out.trans (Keep.of_below (S := fun _ => False) hb1) (fun _ _ h => h) (fun _ _ h => h)); clear HB0 HK0 hb1; have HB0 := HB_; have HK0 := HK_; clear HB_ HK_; have k2 := blk_cell (HBX.out _ HB0.out HK0.out) 2; have k3 := blk_cell (HBX.out _ HB0.out HK0.out) 3; have k4 := blk_cell (HBX.out _ HB0.out HK0.out) 4; have k5 := blk_cell (HBX.out _ HB0.out HK0.out) 5; skip)
                              | (go_at_call 50; (with_reducible refine (HCm.out _).mono ?_); rintro e w1 ⟨rfl, hb1⟩; have HB_ := Aside0.mk (hop HB0.out hb1); have HK_ := Aside0.mk (HK0.out.trans (Keep.of_below (S := fun _ => False) hb1) (fun _ _ h => h) (fun _ _ h => h)); clear HB0 HK0 hb1; have HB0 := HB_; have HK0 := HK_; clear HB_ HK_; have k1 := blk_cell (HBX.out _ HB0.out HK0.out) 1; have k8 := blk_cell (HBX.out _ HB0.out HK0.out) 8; have k9 := blk_cell (HBX.out _ HB0.out HK0.out) 9; have k10 := blk_cell (HBX.out _ HB0.out HK0.out) 10; skip))
                          go_ret
                          rw [HD.out]
                          exact ⟨rfl, HB0.out⟩
                      · have ij3 : decide (0 ≤ r.absent) = false := decide_eq_false j3
                        have HD := Aside0.mk (show decide (MayP r) = false from decide_eq_false (fun m => by have := DM.out.1 m; omega))
                        clear DM h1 h2 h3 h4 h5 h6 j1 j2 j3 o1
                        go_enter Try.func33, Try.ntmps33
                        go_upto_region 1 with (fail)
                        rw [← HW.out]
                        go_wp2_with (first
                            | (go_at_call 48; (with_reducible refine (HFw.out _).mono ?_); rintro e w1 ⟨rfl, hb1⟩; have HB_ := Aside0.mk (hop HB0.out hb1); have HK_ := Aside0.mk (HK0.out.trans (Keep.of_below (S := fun _ => False) hb1) (fun _ _ h => h) (fun _ _ h => h)); clear HB0 HK0 hb1; have HB0 := HB_; have HK0 := HK_; clear HB_ HK_; have k4 := blk_cell (HBX.out _ HB0.out HK0.out) 4; have k5 := blk_cell (HBX.out _ HB0.out HK0.out) 5; skip)
                            | (go_at_call 48; (with_reducible refine (HFc.out _).mono ?_); rintro e w1 ⟨rfl, hb1⟩; have HB_ := Aside0.mk (hop HB0.out hb1); have HK_ := Aside0.mk (HK0.out.trans (Keep.of_below (S := fun _ => False) hb1) (fun _ _ h => h) (fun _ _ h => h)); clear HB0 HK0 hb1; have HB0 := HB_; have HK0 := HK_; clear HB_ HK_; have k6 := blk_cell (HBX.out _ HB0.out HK0.out) 6; have k7 := blk_cell (HBX.out _ HB0.out HK0.out) 7; skip)
                            | (go_at_call 48; (with_reducible refine (HFs.out _).mono ?_); rintro e w1 ⟨rfl, hb1⟩; have HB_ := Aside0.mk (hop HB0.out hb1); have HK_ := Aside0.mk (HK0.out.trans (Keep.of_below (S := fun _ => False) hb1) (fun _ _ h => h) (fun _ _ h => h)); clear HB0 HK0 hb1; have HB0 := HB_; have HK0 := HK_; clear HB_ HK_; have k6 := blk_cell (HBX.out _ HB0.out HK0.out) 6; have k7 := blk_cell (HBX.out _ HB0.out HK0.out) 7; skip)
                            | (go_at_call 49; (with_reducible refine (HSg.out _).mono ?_); rintro e w1 ⟨rfl, hb1⟩; have HB_ := Aside0.mk (hop HB0.out hb1); have HK_ := Aside0.mk (HK0.out.trans (Keep.of_below (S := fun _ => False) hb1) (fun _ _ h => h) (fun _ _ h => h)); clear HB0 HK0 hb1; have HB0 := HB_; have HK0 := HK_; clear HB_ HK_; have k2 := blk_cell (HBX.out _ HB0.out HK0.out) 2; have k3 := blk_cell (HBX.out _ HB0.out HK0.out) 3; have k4 := blk_cell (HBX.out _ HB0.out HK0.out) 4; have k5 := blk_cell (HBX.out _ HB0.out HK0.out) 5; skip)
                            | (go_at_call 50; (with_reducible refine (HCm.out _).mono ?_); rintro e w1 ⟨rfl, hb1⟩; have HB_ := Aside0.mk (hop HB0.out hb1); have HK_ := Aside0.mk (HK0.out.trans (Keep.of_below (S := fun _ => False) hb1) (fun _ _ h => h) (fun _ _ h => h)); clear HB0 HK0 hb1; have HB0 := HB_; have HK0 := HK_; clear HB_ HK_; have k1 := blk_cell (HBX.out _ HB0.out HK0.out) 1; have k8 := blk_cell (HBX.out _ HB0.out HK0.out) 8; have k9 := blk_cell (HBX.out _ HB0.out HK0.out) 9; have k10 := blk_cell (HBX.out _ HB0.out HK0.out) 10; skip))
                        go_ret
                        rw [HD.out]
                        exact ⟨rfl, HB0.out⟩
                    · have ij2 : decide (r.for_ ≤ 1000) = false := decide_eq_false j2
                      have HD := Aside0.mk (show decide (MayP r) = false from decide_eq_false (fun m => by have := DM.out.1 m; omega))
                      clear DM h1 h2 h3 h4 h5 h6 j1 j2 o1
                      go_enter Try.func33, Try.ntmps33
                      go_upto_region 1 with (fail)
                      rw [← HW.out]
                      go_wp2_with (first
                          | (go_at_call 48; (with_reducible refine (HFw.out _).mono ?_); rintro e w1 ⟨rfl, hb1⟩; have HB_ := Aside0.mk (hop HB0.out hb1); have HK_ := Aside0.mk (HK0.out.trans (Keep.of_below (S := fun _ => False) hb1) (fun _ _ h => h) (fun _ _ h => h)); clear HB0 HK0 hb1; have HB0 := HB_; have HK0 := HK_; clear HB_ HK_; have k4 := blk_cell (HBX.out _ HB0.out HK0.out) 4; have k5 := blk_cell (HBX.out _ HB0.out HK0.out) 5; skip)
                          | (go_at_call 48; (with_reducible refine (HFc.out _).mono ?_); rintro e w1 ⟨rfl, hb1⟩; have HB_ := Aside0.mk (hop HB0.out hb1); have HK_ := Aside0.mk (HK0.out.trans (Keep.of_below (S := fun _ => False) hb1) (fun _ _ h => h) (fun _ _ h => h)); clear HB0 HK0 hb1; have HB0 := HB_; have HK0 := HK_; clear HB_ HK_; have k6 := blk_cell (HBX.out _ HB0.out HK0.out) 6; have k7 := blk_cell (HBX.out _ HB0.out HK0.out) 7; skip)
                          | (go_at_call 48; (with_reducible refine (HFs.out _).mono ?_); rintro e w1 ⟨rfl, hb1⟩; have HB_ := Aside0.mk (hop HB0.out hb1); have HK_ := Aside0.mk (HK0.out.trans (Keep.of_below (S := fun _ => False) hb1) (fun _ _ h => h) (fun _ _ h => h)); clear HB0 HK0 hb1; have HB0 := HB_; have HK0 := HK_; clear HB_ HK_; have k6 := blk_cell (HBX.out _ HB0.out HK0.out) 6; have k7 := blk_cell (HBX.out _ HB0.out HK0.out) 7; skip)
                          | (go_at_call 49; (with_reducible refine (HSg.out _).mono ?_); rintro e w1 ⟨rfl, hb1⟩; have HB_ := Aside0.mk (hop HB0.out hb1); have HK_ := Aside0.mk (HK0.out.trans (Keep.of_below (S := fun _ => False) hb1) (fun _ _ h => h) (fun _ _ h => h)); clear HB0 HK0 hb1; have HB0 := HB_; have HK0 := HK_; clear HB_ HK_; have k2 := blk_cell (HBX.out _ HB0.out HK0.out) 2; have k3 := blk_cell (HBX.out _ HB0.out HK0.out) 3; have k4 := blk_cell (HBX.out _ HB0.out HK0.out) 4; have k5 := blk_cell (HBX.out _ HB0.out HK0.out) 5; skip)
                          | (go_at_call 50; (with_reducible refine (HCm.out _).mono ?_); rintro e w1 ⟨rfl, hb1⟩; have HB_ := Aside0.mk (hop HB0.out hb1); have HK_ := Aside0.mk (HK0.out.trans (Keep.of_below (S := fun _ => False) hb1) (fun _ _ h => h) (fun _ _ h => h)); clear HB0 HK0 hb1; have HB0 := HB_; have HK0 := HK_; clear HB_ HK_; have k1 := blk_cell (HBX.out _ HB0.out HK0.out) 1; have k8 := blk_cell (HBX.out _ HB0.out HK0.out) 8; have k9 := blk_cell (HBX.out _ HB0.out HK0.out) 9; have k10 := blk_cell (HBX.out _ HB0.out HK0.out) 10; skip))
                      go_ret
                      rw [HD.out]
                      exact ⟨rfl, HB0.out⟩
                  · have ij1 : decide (1 ≤ r.for_) = false := decide_eq_false j1
                    have HD := Aside0.mk (show decide (MayP r) = false from decide_eq_false (fun m => by have := DM.out.1 m; omega))
                    clear DM h1 h2 h3 h4 h5 h6 j1 o1
                    go_enter Try.func33, Try.ntmps33
                    go_upto_region 1 with (fail)
                    rw [← HW.out]
                    go_wp2_with (first
                        | (go_at_call 48; (with_reducible refine (HFw.out _).mono ?_); rintro e w1 ⟨rfl, hb1⟩; have HB_ := Aside0.mk (hop HB0.out hb1); have HK_ := Aside0.mk (HK0.out.trans (Keep.of_below (S := fun _ => False) hb1) (fun _ _ h => h) (fun _ _ h => h)); clear HB0 HK0 hb1; have HB0 := HB_; have HK0 := HK_; clear HB_ HK_; have k4 := blk_cell (HBX.out _ HB0.out HK0.out) 4; have k5 := blk_cell (HBX.out _ HB0.out HK0.out) 5; skip)
                        | (go_at_call 48; (with_reducible refine (HFc.out _).mono ?_); rintro e w1 ⟨rfl, hb1⟩; have HB_ := Aside0.mk (hop HB0.out hb1); have HK_ := Aside0.mk (HK0.out.trans (Keep.of_below (S := fun _ => False) hb1) (fun _ _ h => h) (fun _ _ h => h)); clear HB0 HK0 hb1; have HB0 := HB_; have HK0 := HK_; clear HB_ HK_; have k6 := blk_cell (HBX.out _ HB0.out HK0.out) 6; have k7 := blk_cell (HBX.out _ HB0.out HK0.out) 7; skip)
                        | (go_at_call 48; (with_reducible refine (HFs.out _).mono ?_); rintro e w1 ⟨rfl, hb1⟩; have HB_ := Aside0.mk (hop HB0.out hb1); have HK_ := Aside0.mk (HK0.out.trans (Keep.of_below (S := fun _ => False) hb1) (fun _ _ h => h) (fun _ _ h => h)); clear HB0 HK0 hb1; have HB0 := HB_; have HK0 := HK_; clear HB_ HK_; have k6 := blk_cell (HBX.out _ HB0.out HK0.out) 6; have k7 := blk_cell (HBX.out _ HB0.out HK0.out) 7; skip)
                        | (go_at_call 49; (with_reducible refine (HSg.out _).mono ?_); rintro e w1 ⟨rfl, hb1⟩; have HB_ := Aside0.mk (hop HB0.out hb1); have HK_ := Aside0.mk (HK0.out.trans (Keep.of_below (S := fun _ => False) hb1) (fun _ _ h => h) (fun _ _ h => h)); clear HB0 HK0 hb1; have HB0 := HB_; have HK0 := HK_; clear HB_ HK_; have k2 := blk_cell (HBX.out _ HB0.out HK0.out) 2; have k3 := blk_cell (HBX.out _ HB0.out HK0.out) 3; have k4 := blk_cell (HBX.out _ HB0.out HK0.out) 4; have k5 := blk_cell (HBX.out _ HB0.out HK0.out) 5; skip)
                        | (go_at_call 50; (with_reducible refine (HCm.out _).mono ?_); rintro e w1 ⟨rfl, hb1⟩; have HB_ := Aside0.mk (hop HB0.out hb1); have HK_ := Aside0.mk (HK0.out.trans (Keep.of_below (S := fun _ => False) hb1) (fun _ _ h => h) (fun _ _ h => h)); clear HB0 HK0 hb1; have HB0 := HB_; have HK0 := HK_; clear HB_ HK_; have k1 := blk_cell (HBX.out _ HB0.out HK0.out) 1; have k8 := blk_cell (HBX.out _ HB0.out HK0.out) 8; have k9 := blk_cell (HBX.out _ HB0.out HK0.out) 9; have k10 := blk_cell (HBX.out _ HB0.out HK0.out) 10; skip))
                    go_ret
                    rw [HD.out]
                    exact ⟨rfl, HB0.out⟩
end Go.Proofs.Ytadmigijbfdboaa.Q
