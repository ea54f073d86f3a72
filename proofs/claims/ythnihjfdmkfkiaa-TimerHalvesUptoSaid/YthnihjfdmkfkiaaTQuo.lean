import Derived.Test.YthnihjfdmkfkiaaTMul
namespace Go.Proofs.Ythnihjfdmkfkiaa.Q
open Go.RowKit Go.Proofs.YthnihjfdmkfkiaaW.PrintWords Go.Proofs.YthnihjfdmkfkiaaW.PrintLast Go.Proofs.YthnihjfdmkfkiaaW.PrintMore Go.Proofs.YthnihjfdmkfkiaaV
set_option linter.unusedVariables false
set_option linter.unusedSimpArgs false

theorem new4 (w : World) (a b c d : Obj) : ((((w.alloc a).alloc b).alloc c).alloc d).heap[w.heap.size]? = some a ∧ ((((w.alloc a).alloc b).alloc c).alloc d).heap[w.heap.size + 1]? = some b ∧ ((((w.alloc a).alloc b).alloc c).alloc d).heap[w.heap.size + 2]? = some c ∧ ((((w.alloc a).alloc b).alloc c).alloc d).heap[w.heap.size + 3]? = some d ∧ Below w.heap.size w ((((w.alloc a).alloc b).alloc c).alloc d) := by
  obtain ⟨h0, h1, h2, hb⟩ := new2 w a b c d
  refine ⟨blk_alloc h0 _, blk_alloc h1 _, blk_alloc h2 _, ?_, below_alloc hb _⟩
  have := heap_alloc_new (((w.alloc a).alloc b).alloc c) d
  simpa using this
def quo3.T : Bool × List (List Nat × List Nat) := (true, [([], []), ([0], [0]), ([], []), ([2, 1], [2]), ([1, 3, 3], [1, 3]), ([4], [4]), ([5], [5]), ([5], [5]), ([], []), ([], []), ([8, 6, 4, 0, 1, 2, 3, 4, 5, 6, 8, 9], [6, 8]), ([9, 7, 10, 0, 1, 2, 3, 4, 5, 6, 7, 8, 9, 10], [7, 9])])
def quo3.B : List Nat := [0, 1, 0, 7, 15, 31, 63, 63, 0, 0, 895, 2047]
theorem quo3.tab : rtab .any (opsOf Try.f17 3) = quo3.T := by kernel_rfl
theorem quo3.bits : waitsOk quo3.T.2 quo3.B = true := by kernel_rfl
set_option maxHeartbeats 3200000 in
set_option maxRecDepth 4000 in
theorem wide_Quo {x y : Int} (w : World) (hx : 0 ≤ x ∧ x ≤ 170141183460469231731687303715884105727) (hy : 1 ≤ y ∧ y ≤ 9223372036854775807) :
    Calls Try.prog 17 #[WV x, WV y] w fun q w' => q = .returned (.tuple #[WV (x / y), WV (x % y), .int .i64 0]) ∧ Below w.heap.size w w' := by
  have HAx := Aside0.mk (fun W => wide_amount (x := x) W (by unfold inW; omega))
  have HAy := Aside0.mk (fun W => wide_amount (x := y) W (by unfold inW; omega))
  rw [show (x.natAbs : Int) = x by omega] at HAx
  rw [show (y.natAbs : Int) = y by omega] at HAy
  have HDV := Aside0.mk (fun W => wide_divided (M := x) (N := y) W (by omega) (by omega))
  have d1 : 0 ≤ x / y := Int.ediv_nonneg hx.1 (by omega)
  have d2 : x / y ≤ x := Int.ediv_le_self _ hx.1
  have d3 := Int.emod_nonneg x (show y ≠ 0 by omega)
  have d4 := Int.emod_lt_of_pos x (show 0 < y by omega)
  have HQ := Aside0.mk (fun W => wide_signed (m := x / y) false W d1 (by omega))
  have HR := Aside0.mk (fun W => wide_signed (m := x % y) false W d3 (by omega))
  simp only [Bool.false_eq_true, if_false] at HQ HR
  unfold WV LV at HQ HR
  unfold LV at HDV
  unfold WV LV at HAx HAy
  unfold WV
  have e1 : hiW y = 0 := by unfold hiW; omega
  have e2 : loW y = y := by unfold loW; omega
  rw [e1, e2] at HAy HDV ⊢
  obtain ⟨ya, hya⟩ : ∃ a : Int, a = 0 := ⟨_, rfl⟩
  have e3 : ¬ hiW x < 0 := by unfold hiW; omega
  have k0 : (y == 0) = false := beq_eq_false_iff_ne.mpr (by omega)
  obtain ⟨xa, hxa⟩ : ∃ a, a = hiW x := ⟨_, rfl⟩
  obtain ⟨xb, hxb⟩ : ∃ a, a = loW x := ⟨_, rfl⟩
  obtain ⟨q1, hq1⟩ : ∃ a, a = hiW (x / y) := ⟨_, rfl⟩
  obtain ⟨q0, hq0⟩ : ∃ a, a = loW (x / y) := ⟨_, rfl⟩
  obtain ⟨r1, hr1⟩ : ∃ a, a = hiW (x % y) := ⟨_, rfl⟩
  obtain ⟨r0, hr0⟩ : ∃ a, a = loW (x % y) := ⟨_, rfl⟩
  rw [← hq1, ← hq0, ← hr1, ← hr0] at HDV ⊢
  rw [← hq1, ← hq0] at HQ
  rw [← hr1, ← hr0] at HR
  rw [← hxa, ← hxb] at HAx HDV ⊢
  rw [← hxa] at e3
  have d5 : decide (xa < 0) = false := decide_eq_false e3
  obtain ⟨p1, hp1⟩ : ∃ a, a = xa := ⟨_, rfl⟩
  obtain ⟨p0, hp0⟩ : ∃ a, a = xb := ⟨_, rfl⟩
  obtain ⟨s1, hs1⟩ : ∃ a : Int, a = 0 := ⟨_, rfl⟩
  obtain ⟨s0, hs0⟩ : ∃ a, a = y := ⟨_, rfl⟩
  obtain ⟨yb, hyb⟩ : ∃ a, a = y := ⟨_, rfl⟩
  have HAx : Aside0 (∀ W, Calls Try.prog 45 #[.agg #[.int .i64 xa, .int .u64 xb]] W fun q w' => q = .returned (.agg #[.int .u64 p0, .int .u64 p1]) ∧ Below W.heap.size W w') := by rw [hp0, hp1]; exact HAx
  have HAy : Aside0 (∀ W, Calls Try.prog 45 #[.agg #[.int .i64 ya, .int .u64 yb]] W fun q w' => q = .returned (.agg #[.int .u64 s0, .int .u64 s1]) ∧ Below W.heap.size W w') := by rw [hs0, hs1, hya, hyb]; exact HAy
  have HDV : Aside0 (∀ W, Calls Try.prog 44 #[.agg #[.int .u64 p0, .int .u64 p1], .agg #[.int .u64 s0, .int .u64 s1]] W fun q w' => q = .returned (.tuple #[.agg #[.int .u64 q0, .int .u64 q1], .agg #[.int .u64 r0, .int .u64 r1]]) ∧ Below W.heap.size W w') := by rw [hp0, hp1, hs0, hs1]; exact HDV
  rw [← hya, ← hyb]
  rw [← hyb] at k0
  have HYA := Aside0.mk hya
  have d6 : decide (ya < 0) = false := decide_eq_false (by omega)
  obtain ⟨W, hW⟩ : ∃ W, W = (((w.alloc (.cells #[.int .i64 xa, .int .u64 xb] 25 (0, 0))).alloc (.cells #[.int .i64 ya, .int .u64 yb] 25 (0, 0))).alloc (.cells #[.int .i64 0, .int .u64 0] 25 (0, 0))).alloc (.cells #[.int .i64 0, .int .u64 0] 25 (0, 0)) := ⟨_, rfl⟩
  obtain ⟨n0, n1, n2, n3, nb⟩ := new4 w (.cells #[.int .i64 xa, .int .u64 xb] 25 (0, 0)) (.cells #[.int .i64 ya, .int .u64 yb] 25 (0, 0)) (.cells #[.int .i64 0, .int .u64 0] 25 (0, 0)) (.cells #[.int .i64 0, .int .u64 0] 25 (0, 0))
  rw [← hW] at n0 n1 n2 n3 nb
  have HW := Aside0.mk hW
  have N0 := Aside0.mk n0
  have N1 := Aside0.mk n1
  have N2 := Aside0.mk n2
  have N3 := Aside0.mk n3
  have NB := Aside0.mk nb
  have i0 := blk_cell n1 0
  have i1 := blk_cell n1 1
  clear hW n0 n1 n2 n3 nb hxa hxb hya hyb hq1 hq0 hr1 hr0 hp1 hp0 hs1 hs0 d1 d2 d3 d4 e1 e2 e3 hx hy
  go_enter Try.func17, Try.ntmps17
  go_upto_region 1 with (fail)
  rw [← HW.out]
  go_upto_region 3 with (fail)
  go_cut [7, 8] from 9 to 25 (fun v7 v8 wx => ∃ g7 g8, v7 = .pointer (some ⟨g7, 0, none⟩) ∧ v8 = .pointer (some ⟨g8, 0, none⟩) ∧ Aside0 (wx.heap[g7]? = some (.cells #[.int .u64 q0, .int .u64 q1] 84 (0, 0))) ∧ Aside0 (wx.heap[g8]? = some (.cells #[.int .u64 r0, .int .u64 r1] 84 (0, 0))) ∧ Aside0 (Below W.heap.size W wx))
  case first =>
    have HB := Aside0.mk (show Below W.heap.size W W.drew from (Below.refl _ _).drew)
    have D8_9 : True := trivial
    refine start_ (n := 12) (S := fun w' => True) (ds := []) #[false, false, false, false, false, false, false, false, false, false, false, false] (by kernel_rfl) rfl rfl trivial (fun hHeld => ?_)
    refine with_tabW quo3.tab quo3.bits (fun HT_ HW_ => ?_)
    refine inv_at [0, 1, 2, 3, 4, 5, 6, 7, 8, 9, 10, 11] (fun a0_ b a w' => ∃ (g7 : Nat) (g8 : Nat) (m8_ : Value) (m9_ : Value), a = putSel a0_ b [(0, 19, .agg #[.int .i64 xa, .int .u64 xb]), (1, 20, .agg #[.int .u64 p0, .int .u64 p1]), (2, 21, .agg #[.int .i64 ya, .int .u64 yb]), (3, 22, .agg #[.int .u64 s0, .int .u64 s1]), (4, 23, .tuple #[.agg #[.int .u64 q0, .int .u64 q1], .agg #[.int .u64 r0, .int .u64 r1]]), (5, 18, .tuple #[.agg #[.int .u64 q0, .int .u64 q1], .agg #[.int .u64 r0, .int .u64 r1]]), (6, 24, .agg #[.int .u64 q0, .int .u64 q1]), (7, 25, .agg #[.int .u64 r0, .int .u64 r1]), (8, 7, m8_), (9, 8, m9_)] ∧ (Below W.heap.size W w') ∧ (b 8 = true → W.heap.size ≤ g7) ∧ (b 8 = true → g7 < w'.heap.size) ∧ (b 8 = true → b 10 = false → w'.heap[g7]? = some (.cells #[.int .u64 0, .int .u64 0] 84 (0, 0))) ∧ (b 8 = true → b 10 = true → w'.heap[g7]? = some (.cells #[.int .u64 q0, .int .u64 q1] 84 (0, 0))) ∧ (b 9 = true → W.heap.size ≤ g8) ∧ (b 9 = true → g8 < w'.heap.size) ∧ (b 9 = true → b 11 = false → w'.heap[g8]? = some (.cells #[.int .u64 0, .int .u64 0] 84 (0, 0))) ∧ (b 9 = true → b 11 = true → w'.heap[g8]? = some (.cells #[.int .u64 r0, .int .u64 r1] 84 (0, 0))) ∧ ((b 8 = true → b 9 = true → g7 ≠ g8)) ∧ (b 8 = true → (m8_ : Value) = .pointer (some ⟨g7, 0, none⟩)) ∧ (b 9 = true → (m9_ : Value) = .pointer (some ⟨g8, 0, none⟩))) HT_.out HW_.out (by kernel_rfl) (by kernel_rfl) ?_ ?_ ?_
    · exact ⟨0, 0, .bool false, .bool false, by simp only [putSel, Bool.false_eq_true, if_false], HB.out, fun h_ => absurd h_ (by decide), fun h_ => absurd h_ (by decide), fun h_ => absurd h_ (by decide), fun h_ => absurd h_ (by decide), fun h_ => absurd h_ (by decide), fun h_ => absurd h_ (by decide), fun h_ => absurd h_ (by decide), fun h_ => absurd h_ (by decide), fun h_ => absurd h_ (by decide), fun h_ => absurd h_ (by decide), fun h_ => absurd h_ (by decide)⟩
    · skip
      clear D8_9 HB
      refine steps_cons ?_ ?_
      · rintro b a w' ⟨g7, g8, m8_, m9_, ha, Q_HB, Q_G8, Q_L8, Q_Z8, Q_N10, Q_G9, Q_L9, Q_Z9, Q_N11, Q_D8_9, Q_X8_, Q_X9_⟩ hb_ hon hoff
        refine ⟨_, rfl, fun K hK => ?_⟩
        have e2 : a.tmps[2]? = some (.pointer (some ⟨w.heap.size, 0, none⟩)) := by rw [ha]; exact (putSel_off rfl).trans rfl
        replace ha := Aside0.mk ha
        have HB := Aside0.mk Q_HB
        have D8_9 := Aside0.mk Q_D8_9
        have k0 := blk_cell ((HB.out.block _ (blk_lt N0.out)).trans N0.out) 0
        have k1 := blk_cell ((HB.out.block _ (blk_lt N0.out)).trans N0.out) 1
        refine value_ (w1 := w') (v := .agg #[.int .i64 xa, .int .u64 xb]) (by rfl) rfl ?_ ?_
        · go_simp
          (try simp only [i64_w])
          try rfl
        refine hK.out _ _ ⟨g7, g8, m8_, m9_, (by rw [ha.out]; exact putSel_upk 0 hb_ rfl rfl rfl), Q_HB, Q_G8, Q_L8, Q_Z8, fun _ h1_ => absurd ((hoff 10 (by kernel_rfl)).symm.trans h1_) (by decide), Q_G9, Q_L9, Q_Z9, fun _ h1_ => absurd ((hoff 11 (by kernel_rfl)).symm.trans h1_) (by decide), Q_D8_9, Q_X8_, Q_X9_⟩
      refine steps_cons ?_ ?_
      · rintro b a w' ⟨g7, g8, m8_, m9_, ha, Q_HB, Q_G8, Q_L8, Q_Z8, Q_N10, Q_G9, Q_L9, Q_Z9, Q_N11, Q_D8_9, Q_X8_, Q_X9_⟩ hb_ hon hoff
        refine ⟨_, rfl, fun K hK => ?_⟩
        have e19 : a.tmps[19]? = some (.agg #[.int .i64 xa, .int .u64 xb]) := by rw [ha]; exact putSel_on (e := (0, 19, .agg #[.int .i64 xa, .int .u64 xb])) 0 rfl rfl (hon 0 (by kernel_rfl)) rfl
        replace ha := Aside0.mk ha
        have HB := Aside0.mk Q_HB
        have D8_9 := Aside0.mk Q_D8_9
        refine goes_ Try.func45 (by kernel_rfl) rfl #[.agg #[.int .i64 xa, .int .u64 xb]] (by rfl) rfl rfl (by first | (simp only [List.map_toArray, List.map_cons, List.map_nil, Act.eval, Array.getD_eq_getD_getElem?, Option.getD_some, e19]; done) | (simp only [List.map_toArray, List.map_cons, List.map_nil, Act.eval, Array.getD_eq_getD_getElem?, Option.getD_some, e19]; rfl)) ?_
        with_reducible refine (HAx.out _).mono ?_
        rintro e w1 ⟨rfl, hb⟩
        refine ⟨_, rfl, ?_⟩
        refine hK.out _ _ ⟨g7, g8, m8_, m9_, (by rw [ha.out]; exact putSel_upk 1 hb_ rfl rfl rfl), hop HB.out hb, Q_G8, fun h8 => Nat.lt_of_lt_of_le (Q_L8 h8) hb.size, fun h8 h10 => (hb.block _ (blk_lt (Q_Z8 h8 h10))).trans (Q_Z8 h8 h10), fun _ h1_ => absurd ((hoff 10 (by kernel_rfl)).symm.trans h1_) (by decide), Q_G9, fun h9 => Nat.lt_of_lt_of_le (Q_L9 h9) hb.size, fun h9 h11 => (hb.block _ (blk_lt (Q_Z9 h9 h11))).trans (Q_Z9 h9 h11), fun _ h1_ => absurd ((hoff 11 (by kernel_rfl)).symm.trans h1_) (by decide), Q_D8_9, Q_X8_, Q_X9_⟩
      refine steps_cons ?_ ?_
      · rintro b a w' ⟨g7, g8, m8_, m9_, ha, Q_HB, Q_G8, Q_L8, Q_Z8, Q_N10, Q_G9, Q_L9, Q_Z9, Q_N11, Q_D8_9, Q_X8_, Q_X9_⟩ hb_ hon hoff
        refine ⟨_, rfl, fun K hK => ?_⟩
        have e3 : a.tmps[3]? = some (.pointer (some ⟨w.heap.size + 1, 0, none⟩)) := by rw [ha]; exact (putSel_off rfl).trans rfl
        replace ha := Aside0.mk ha
        have HB := Aside0.mk Q_HB
        have D8_9 := Aside0.mk Q_D8_9
        have k0 := blk_cell ((HB.out.block _ (blk_lt N1.out)).trans N1.out) 0
        have k1 := blk_cell ((HB.out.block _ (blk_lt N1.out)).trans N1.out) 1
        refine value_ (w1 := w') (v := .agg #[.int .i64 ya, .int .u64 yb]) (by rfl) rfl ?_ ?_
        · go_simp
          (try simp only [i64_w])
          try rfl
        refine hK.out _ _ ⟨g7, g8, m8_, m9_, (by rw [ha.out]; exact putSel_upk 2 hb_ rfl rfl rfl), Q_HB, Q_G8, Q_L8, Q_Z8, fun _ h1_ => absurd ((hoff 10 (by kernel_rfl)).symm.trans h1_) (by decide), Q_G9, Q_L9, Q_Z9, fun _ h1_ => absurd ((hoff 11 (by kernel_rfl)).symm.trans h1_) (by decide), Q_D8_9, Q_X8_, Q_X9_⟩
      refine steps_cons ?_ ?_
      · rintro b a w' ⟨g7, g8, m8_, m9_, ha, Q_HB, Q_G8, Q_L8, Q_Z8, Q_N10, Q_G9, Q_L9, Q_Z9, Q_N11, Q_D8_9, Q_X8_, Q_X9_⟩ hb_ hon hoff
        refine ⟨_, rfl, fun K hK => ?_⟩
        have e21 : a.tmps[21]? = some (.agg #[.int .i64 ya, .int .u64 yb]) := by rw [ha]; exact putSel_on (e := (2, 21, .agg #[.int .i64 ya, .int .u64 yb])) 2 rfl rfl (hon 2 (by kernel_rfl)) rfl
        replace ha := Aside0.mk ha
        have HB := Aside0.mk Q_HB
        have D8_9 := Aside0.mk Q_D8_9
        refine goes_ Try.func45 (by kernel_rfl) rfl #[.agg #[.int .i64 ya, .int .u64 yb]] (by rfl) rfl rfl (by first | (simp only [List.map_toArray, List.map_cons, List.map_nil, Act.eval, Array.getD_eq_getD_getElem?, Option.getD_some, e21]; done) | (simp only [List.map_toArray, List.map_cons, List.map_nil, Act.eval, Array.getD_eq_getD_getElem?, Option.getD_some, e21]; rfl)) ?_
        with_reducible refine (HAy.out _).mono ?_
        rintro e w1 ⟨rfl, hb⟩
        refine ⟨_, rfl, ?_⟩
        refine hK.out _ _ ⟨g7, g8, m8_, m9_, (by rw [ha.out]; exact putSel_upk 3 hb_ rfl rfl rfl), hop HB.out hb, Q_G8, fun h8 => Nat.lt_of_lt_of_le (Q_L8 h8) hb.size, fun h8 h10 => (hb.block _ (blk_lt (Q_Z8 h8 h10))).trans (Q_Z8 h8 h10), fun _ h1_ => absurd ((hoff 10 (by kernel_rfl)).symm.trans h1_) (by decide), Q_G9, fun h9 => Nat.lt_of_lt_of_le (Q_L9 h9) hb.size, fun h9 h11 => (hb.block _ (blk_lt (Q_Z9 h9 h11))).trans (Q_Z9 h9 h11), fun _ h1_ => absurd ((hoff 11 (by kernel_rfl)).symm.trans h1_) (by decide), Q_D8_9, Q_X8_, Q_X9_⟩
      refine steps_cons ?_ ?_
      · rintro b a w' ⟨g7, g8, m8_, m9_, ha, Q_HB, Q_G8, Q_L8, Q_Z8, Q_N10, Q_G9, Q_L9, Q_Z9, Q_N11, Q_D8_9, Q_X8_, Q_X9_⟩ hb_ hon hoff
        refine ⟨_, rfl, fun K hK => ?_⟩
        have e20 : a.tmps[20]? = some (.agg #[.int .u64 p0, .int .u64 p1]) := by rw [ha]; exact putSel_on (e := (1, 20, .agg #[.int .u64 p0, .int .u64 p1])) 1 rfl rfl (hon 1 (by kernel_rfl)) rfl
        have e22 : a.tmps[22]? = some (.agg #[.int .u64 s0, .int .u64 s1]) := by rw [ha]; exact putSel_on (e := (3, 22, .agg #[.int .u64 s0, .int .u64 s1])) 3 rfl rfl (hon 3 (by kernel_rfl)) rfl
        replace ha := Aside0.mk ha
        have HB := Aside0.mk Q_HB
        have D8_9 := Aside0.mk Q_D8_9
        refine goes_ Try.func44 (by kernel_rfl) rfl #[.agg #[.int .u64 p0, .int .u64 p1], .agg #[.int .u64 s0, .int .u64 s1]] (by rfl) rfl rfl (by first | (simp only [List.map_toArray, List.map_cons, List.map_nil, Act.eval, Array.getD_eq_getD_getElem?, Option.getD_some, e20, e22]; done) | (simp only [List.map_toArray, List.map_cons, List.map_nil, Act.eval, Array.getD_eq_getD_getElem?, Option.getD_some, e20, e22]; rfl)) ?_
        with_reducible refine (HDV.out _).mono ?_
        rintro e w1 ⟨rfl, hb⟩
        refine ⟨_, rfl, ?_⟩
        refine hK.out _ _ ⟨g7, g8, m8_, m9_, (by rw [ha.out]; exact putSel_upk 4 hb_ rfl rfl rfl), hop HB.out hb, Q_G8, fun h8 => Nat.lt_of_lt_of_le (Q_L8 h8) hb.size, fun h8 h10 => (hb.block _ (blk_lt (Q_Z8 h8 h10))).trans (Q_Z8 h8 h10), fun _ h1_ => absurd ((hoff 10 (by kernel_rfl)).symm.trans h1_) (by decide), Q_G9, fun h9 => Nat.lt_of_lt_of_le (Q_L9 h9) hb.size, fun h9 h11 => (hb.block _ (blk_lt (Q_Z9 h9 h11))).trans (Q_Z9 h9 h11), fun _ h1_ => absurd ((hoff 11 (by kernel_rfl)).symm.trans h1_) (by decide), Q_D8_9, Q_X8_, Q_X9_⟩
      refine steps_cons ?_ ?_
      · rintro b a w' ⟨g7, g8, m8_, m9_, ha, Q_HB, Q_G8, Q_L8, Q_Z8, Q_N10, Q_G9, Q_L9, Q_Z9, Q_N11, Q_D8_9, Q_X8_, Q_X9_⟩ hb_ hon hoff
        refine ⟨_, rfl, fun K hK => ?_⟩
        have e23 : a.tmps[23]? = some (.tuple #[.agg #[.int .u64 q0, .int .u64 q1], .agg #[.int .u64 r0, .int .u64 r1]]) := by rw [ha]; exact putSel_on (e := (4, 23, .tuple #[.agg #[.int .u64 q0, .int .u64 q1], .agg #[.int .u64 r0, .int .u64 r1]])) 4 rfl rfl (hon 4 (by kernel_rfl)) rfl
        replace ha := Aside0.mk ha
        have HB := Aside0.mk Q_HB
        have D8_9 := Aside0.mk Q_D8_9
        refine value_ (w1 := w') (v := .tuple #[.agg #[.int .u64 q0, .int .u64 q1], .agg #[.int .u64 r0, .int .u64 r1]]) (by rfl) rfl ?_ ?_
        · go_simp
          (try simp only [i64_w])
          try rfl
        refine hK.out _ _ ⟨g7, g8, m8_, m9_, (by rw [ha.out]; exact putSel_upk 5 hb_ rfl rfl rfl), Q_HB, Q_G8, Q_L8, Q_Z8, fun _ h1_ => absurd ((hoff 10 (by kernel_rfl)).symm.trans h1_) (by decide), Q_G9, Q_L9, Q_Z9, fun _ h1_ => absurd ((hoff 11 (by kernel_rfl)).symm.trans h1_) (by decide), Q_D8_9, Q_X8_, Q_X9_⟩
      refine steps_cons ?_ ?_
      · rintro b a w' ⟨g7, g8, m8_, m9_, ha, Q_HB, Q_G8, Q_L8, Q_Z8, Q_N10, Q_G9, Q_L9, Q_Z9, Q_N11, Q_D8_9, Q_X8_, Q_X9_⟩ hb_ hon hoff
        refine ⟨_, rfl, fun K hK => ?_⟩
        have e18 : a.tmps[18]? = some (.tuple #[.agg #[.int .u64 q0, .int .u64 q1], .agg #[.int .u64 r0, .int .u64 r1]]) := by rw [ha]; exact putSel_on (e := (5, 18, .tuple #[.agg #[.int .u64 q0, .int .u64 q1], .agg #[.int .u64 r0, .int .u64 r1]])) 5 rfl rfl (hon 5 (by kernel_rfl)) rfl
        replace ha := Aside0.mk ha
        have HB := Aside0.mk Q_HB
        have D8_9 := Aside0.mk Q_D8_9
        refine value_ (w1 := w') (v := .agg #[.int .u64 q0, .int .u64 q1]) (by rfl) rfl ?_ ?_
        · go_simp
          (try simp only [i64_w])
          try rfl
        refine hK.out _ _ ⟨g7, g8, m8_, m9_, (by rw [ha.out]; exact putSel_upk 6 hb_ rfl rfl rfl), Q_HB, Q_G8, Q_L8, Q_Z8, fun _ h1_ => absurd ((hoff 10 (by kernel_rfl)).symm.trans h1_) (by decide), Q_G9, Q_L9, Q_Z9, fun _ h1_ => absurd ((hoff 11 (by kernel_rfl)).symm.trans h1_) (by decide), Q_D8_9, Q_X8_, Q_X9_⟩
      refine steps_cons ?_ ?_
      · rintro b a w' ⟨g7, g8, m8_, m9_, ha, Q_HB, Q_G8, Q_L8, Q_Z8, Q_N10, Q_G9, Q_L9, Q_Z9, Q_N11, Q_D8_9, Q_X8_, Q_X9_⟩ hb_ hon hoff
        refine ⟨_, rfl, fun K hK => ?_⟩
        have e18 : a.tmps[18]? = some (.tuple #[.agg #[.int .u64 q0, .int .u64 q1], .agg #[.int .u64 r0, .int .u64 r1]]) := by rw [ha]; exact putSel_on (e := (5, 18, .tuple #[.agg #[.int .u64 q0, .int .u64 q1], .agg #[.int .u64 r0, .int .u64 r1]])) 5 rfl rfl (hon 5 (by kernel_rfl)) rfl
        replace ha := Aside0.mk ha
        have HB := Aside0.mk Q_HB
        have D8_9 := Aside0.mk Q_D8_9
        refine value_ (w1 := w') (v := .agg #[.int .u64 r0, .int .u64 r1]) (by rfl) rfl ?_ ?_
        · go_simp
          (try simp only [i64_w])
          try rfl
        refine hK.out _ _ ⟨g7, g8, m8_, m9_, (by rw [ha.out]; exact putSel_upk 7 hb_ rfl rfl rfl), Q_HB, Q_G8, Q_L8, Q_Z8, Q_N10, Q_G9, Q_L9, Q_Z9, fun _ h1_ => absurd ((hoff 11 (by kernel_rfl)).symm.trans h1_) (by decide), Q_D8_9, Q_X8_, Q_X9_⟩
      refine steps_cons ?_ ?_
      · rintro b a w' ⟨g7, g8, m8_, m9_, ha, Q_HB, Q_G8, Q_L8, Q_Z8, Q_N10, Q_G9, Q_L9, Q_Z9, Q_N11, Q_D8_9, Q_X8_, Q_X9_⟩ hb_ hon hoff
        refine ⟨_, rfl, fun K hK => ?_⟩
        replace ha := Aside0.mk ha
        have HB := Aside0.mk Q_HB
        have D8_9 := Aside0.mk Q_D8_9
        have hb := (Below.refl w'.heap.size w').alloc (Nat.le_refl _) (.cells #[.int .u64 0, .int .u64 0] 84 (0, 0))
        refine value_ (w1 := w'.alloc (.cells #[.int .u64 0, .int .u64 0] 84 (0, 0))) (v := .pointer (some ⟨w'.heap.size, 0, none⟩)) (by rfl) rfl ?_ ?_
        · go_simp
          try rfl
        refine hK.out _ _ ⟨w'.heap.size, g8, (.pointer (some ⟨w'.heap.size, 0, none⟩)), m9_, (by rw [ha.out]; exact putSel_upk 8 hb_ rfl rfl rfl), hop HB.out hb, fun _ => HB.out.size, fun _ => (by simp), fun _ _ => heap_alloc_new w' _, fun _ h1_ => absurd ((hoff 10 (by kernel_rfl)).symm.trans h1_) (by decide), Q_G9, fun h9 => Nat.lt_of_lt_of_le (Q_L9 h9) hb.size, fun h9 h11 => (hb.block _ (blk_lt (Q_Z9 h9 h11))).trans (Q_Z9 h9 h11), fun _ h1_ => absurd ((hoff 11 (by kernel_rfl)).symm.trans h1_) (by decide), fun h1 h2 => (fun e => by have := Q_L9 h2; omega), fun _ => rfl, Q_X9_⟩
      refine steps_cons ?_ ?_
      · rintro b a w' ⟨g7, g8, m8_, m9_, ha, Q_HB, Q_G8, Q_L8, Q_Z8, Q_N10, Q_G9, Q_L9, Q_Z9, Q_N11, Q_D8_9, Q_X8_, Q_X9_⟩ hb_ hon hoff
        refine ⟨_, rfl, fun K hK => ?_⟩
        replace ha := Aside0.mk ha
        have HB := Aside0.mk Q_HB
        have D8_9 := Aside0.mk Q_D8_9
        have hb := (Below.refl w'.heap.size w').alloc (Nat.le_refl _) (.cells #[.int .u64 0, .int .u64 0] 84 (0, 0))
        refine value_ (w1 := w'.alloc (.cells #[.int .u64 0, .int .u64 0] 84 (0, 0))) (v := .pointer (some ⟨w'.heap.size, 0, none⟩)) (by rfl) rfl ?_ ?_
        · go_simp
          try rfl
        refine hK.out _ _ ⟨g7, w'.heap.size, m8_, (.pointer (some ⟨w'.heap.size, 0, none⟩)), (by rw [ha.out]; exact putSel_upk 9 hb_ rfl rfl rfl), hop HB.out hb, Q_G8, fun h8 => Nat.lt_of_lt_of_le (Q_L8 h8) hb.size, fun h8 h10 => (hb.block _ (blk_lt (Q_Z8 h8 h10))).trans (Q_Z8 h8 h10), fun _ h1_ => absurd ((hoff 10 (by kernel_rfl)).symm.trans h1_) (by decide), fun _ => HB.out.size, fun _ => (by simp), fun _ _ => heap_alloc_new w' _, fun _ h1_ => absurd ((hoff 11 (by kernel_rfl)).symm.trans h1_) (by decide), fun h1 h2 => (fun e => by have := Q_L8 h1; omega), Q_X8_, fun _ => rfl⟩
      refine steps_cons ?_ ?_
      · rintro b a w' ⟨g7, g8, m8_, m9_, ha, Q_HB, Q_G8, Q_L8, Q_Z8, Q_N10, Q_G9, Q_L9, Q_Z9, Q_N11, Q_D8_9, Q_X8_, Q_X9_⟩ hb_ hon hoff
        refine ⟨_, rfl, fun K hK => ?_⟩
        have e7 : a.tmps[7]? = some (m8_) := by rw [ha]; exact putSel_on (e := (8, 7, m8_)) 8 rfl rfl (hon 8 (by kernel_rfl)) rfl
        rw [Q_X8_ (hon 8 (by kernel_rfl))] at e7
        have e24 : a.tmps[24]? = some (.agg #[.int .u64 q0, .int .u64 q1]) := by rw [ha]; exact putSel_on (e := (6, 24, .agg #[.int .u64 q0, .int .u64 q1])) 6 rfl rfl (hon 6 (by kernel_rfl)) rfl
        replace ha := Aside0.mk ha
        have HB := Aside0.mk Q_HB
        have G8 := Aside0.mk (Q_G8 (hon 8 (by kernel_rfl)))
        have L8 := Aside0.mk (Q_L8 (hon 8 (by kernel_rfl)))
        have Z8 := Aside0.mk (Q_Z8 (hon 8 (by kernel_rfl)) hb_)
        have G9 := Aside0.mk (Q_G9 (hon 9 (by kernel_rfl)))
        have L9 := Aside0.mk (Q_L9 (hon 9 (by kernel_rfl)))
        have Z9 := Aside0.mk (Q_Z9 (hon 9 (by kernel_rfl)) (hoff 11 (by kernel_rfl)))
        have D8_9 := Aside0.mk Q_D8_9
        have hk : Keep w' ((w'.setCell ⟨g7, 0, none⟩ (.int .u64 q0)).setCell ⟨g7, 1, none⟩ (.int .u64 q1)) (fun k => k = g7) := (((Keep.refl w' (fun k => k = g7)).set ⟨g7, 0, none⟩ (.int .u64 q0) (.inl rfl)).set ⟨g7, 1, none⟩ (.int .u64 q1) (.inl rfl))
        have y0 := blk_cell Z8.out 0
        have y1 := blk_cell Z8.out 1
        have z0 := blk_frozen Z8.out 0
        have z1 := blk_frozen Z8.out 1
        refine skip_ (w1 := ((w'.setCell ⟨g7, 0, none⟩ (.int .u64 q0)).setCell ⟨g7, 1, none⟩ (.int .u64 q1))) (by rfl) rfl ?_ ?_
        · go_simp
          try rfl
        refine hK.out _ _ ⟨g7, g8, m8_, m9_, (by rw [ha.out]; exact putSel_none (v := undef) rfl), HB.out.trans (hk.below HB.out.size (fun k e => by have e2 : k = g7 := e; rw [e2]; exact G8.out)), Q_G8, fun h8 => Nat.lt_of_lt_of_le (Q_L8 h8) hk.size, fun _ h1_ => absurd ((up_self b 10).symm.trans h1_) (by decide), fun _ _ => (blk_put (blk_put Z8.out 0 (.int .u64 q0) rfl) 1 (.int .u64 q1) rfl), Q_G9, fun h9 => Nat.lt_of_lt_of_le (Q_L9 h9) hk.size, fun h9 h11 => (hk.block _ (blk_lt (Q_Z9 h9 h11)) (fun e => Q_D8_9 (hon 8 (by kernel_rfl)) h9 e.symm)).trans (Q_Z9 h9 h11), fun _ h1_ => absurd ((hoff 11 (by kernel_rfl)).symm.trans h1_) (by decide), Q_D8_9, Q_X8_, Q_X9_⟩
      refine steps_cons ?_ ?_
      · rintro b a w' ⟨g7, g8, m8_, m9_, ha, Q_HB, Q_G8, Q_L8, Q_Z8, Q_N10, Q_G9, Q_L9, Q_Z9, Q_N11, Q_D8_9, Q_X8_, Q_X9_⟩ hb_ hon hoff
        refine ⟨_, rfl, fun K hK => ?_⟩
        have e8 : a.tmps[8]? = some (m9_) := by rw [ha]; exact putSel_on (e := (9, 8, m9_)) 9 rfl rfl (hon 9 (by kernel_rfl)) rfl
        rw [Q_X9_ (hon 9 (by kernel_rfl))] at e8
        have e25 : a.tmps[25]? = some (.agg #[.int .u64 r0, .int .u64 r1]) := by rw [ha]; exact putSel_on (e := (7, 25, .agg #[.int .u64 r0, .int .u64 r1])) 7 rfl rfl (hon 7 (by kernel_rfl)) rfl
        replace ha := Aside0.mk ha
        have HB := Aside0.mk Q_HB
        have G8 := Aside0.mk (Q_G8 (hon 8 (by kernel_rfl)))
        have L8 := Aside0.mk (Q_L8 (hon 8 (by kernel_rfl)))
        have N10 := Aside0.mk (Q_N10 (hon 8 (by kernel_rfl)) (hon 10 (by kernel_rfl)))
        have G9 := Aside0.mk (Q_G9 (hon 9 (by kernel_rfl)))
        have L9 := Aside0.mk (Q_L9 (hon 9 (by kernel_rfl)))
        have Z9 := Aside0.mk (Q_Z9 (hon 9 (by kernel_rfl)) hb_)
        have D8_9 := Aside0.mk Q_D8_9
        have hk : Keep w' ((w'.setCell ⟨g8, 0, none⟩ (.int .u64 r0)).setCell ⟨g8, 1, none⟩ (.int .u64 r1)) (fun k => k = g8) := (((Keep.refl w' (fun k => k = g8)).set ⟨g8, 0, none⟩ (.int .u64 r0) (.inl rfl)).set ⟨g8, 1, none⟩ (.int .u64 r1) (.inl rfl))
        have y0 := blk_cell Z9.out 0
        have y1 := blk_cell Z9.out 1
        have z0 := blk_frozen Z9.out 0
        have z1 := blk_frozen Z9.out 1
        refine skip_ (w1 := ((w'.setCell ⟨g8, 0, none⟩ (.int .u64 r0)).setCell ⟨g8, 1, none⟩ (.int .u64 r1))) (by rfl) rfl ?_ ?_
        · go_simp
          try rfl
        refine hK.out _ _ ⟨g7, g8, m8_, m9_, (by rw [ha.out]; exact putSel_none (v := undef) rfl), HB.out.trans (hk.below HB.out.size (fun k e => by have e2 : k = g8 := e; rw [e2]; exact G9.out)), Q_G8, fun h8 => Nat.lt_of_lt_of_le (Q_L8 h8) hk.size, fun _ h1_ => absurd ((hon 10 (by kernel_rfl)).symm.trans h1_) (by decide), fun h8 h10 => (hk.block _ (blk_lt (Q_N10 h8 h10)) (fun e => Q_D8_9 h8 (hon 9 (by kernel_rfl)) e)).trans (Q_N10 h8 h10), Q_G9, fun h9 => Nat.lt_of_lt_of_le (Q_L9 h9) hk.size, fun _ h1_ => absurd ((up_self b 11).symm.trans h1_) (by decide), fun _ _ => (blk_put (blk_put Z9.out 0 (.int .u64 r0) rfl) 1 (.int .u64 r1) rfl), Q_D8_9, Q_X8_, Q_X9_⟩
      exact steps_nil
    · rintro b a w' hall ⟨g7, g8, m8_, m9_, ha, Q_HB, Q_G8, Q_L8, Q_Z8, Q_N10, Q_G9, Q_L9, Q_Z9, Q_N11, Q_D8_9, Q_X8_, Q_X9_⟩
      clear D8_9 HB
      have hb0_ := hall 0 (by kernel_rfl)
      have hb1_ := hall 1 (by kernel_rfl)
      have hb2_ := hall 2 (by kernel_rfl)
      have hb3_ := hall 3 (by kernel_rfl)
      have hb4_ := hall 4 (by kernel_rfl)
      have hb5_ := hall 5 (by kernel_rfl)
      have hb6_ := hall 6 (by kernel_rfl)
      have hb7_ := hall 7 (by kernel_rfl)
      have hb8_ := hall 8 (by kernel_rfl)
      have hb9_ := hall 9 (by kernel_rfl)
      have hb10_ := hall 10 (by kernel_rfl)
      have hb11_ := hall 11 (by kernel_rfl)
      subst ha
      obtain rfl := Q_X8_ hb8_
      obtain rfl := Q_X9_ hb9_
      simp only [putSel, hb0_, hb1_, hb2_, hb3_, hb4_, hb5_, hb6_, hb7_, hb8_, hb9_, hb10_, hb11_, if_true, Act.put, List.setIfInBounds_toArray, List.set_cons_zero, List.set_cons_succ]
      have HB := Aside0.mk Q_HB
      clear Q_HB
      have G8 := Aside0.mk (Q_G8 hb8_)
      clear Q_G8
      have L8 := Aside0.mk (Q_L8 hb8_)
      clear Q_L8
      clear Q_Z8
      have N10 := Aside0.mk (Q_N10 hb8_ hb10_)
      clear Q_N10
      have G9 := Aside0.mk (Q_G9 hb9_)
      clear Q_G9
      have L9 := Aside0.mk (Q_L9 hb9_)
      clear Q_L9
      clear Q_Z9
      have N11 := Aside0.mk (Q_N11 hb9_ hb11_)
      clear Q_N11
      have D8_9 := Aside0.mk Q_D8_9
      clear Q_D8_9
      clear hall hb0_ hb1_ hb2_ hb3_ hb4_ hb5_ hb6_ hb7_ hb8_ hb9_ hb10_ hb11_
      go_wp2_with (fail)
      go_meet
      exact ⟨g7, g8, rfl, rfl, N10, N11, HB⟩
  case rest =>
    obtain ⟨g7, g8, rfl, rfl, M7, M8, HBc⟩ := hcut
    have a0 := blk_cell M7.out 0
    have a1 := blk_cell M7.out 1
    have b0 := blk_cell M8.out 0
    have b1 := blk_cell M8.out 1
    have c0 := blk_cell ((HBc.out.block _ (blk_lt N0.out)).trans N0.out) 0
    have c1 := blk_cell ((HBc.out.block _ (blk_lt N1.out)).trans N1.out) 0
    clear i0 i1
    go_upto_region 8 with (first
      | (go_at_call 46; (with_reducible refine (HQ.out _).mono ?_); rintro e w1 ⟨rfl, hb⟩; have HB1 := Aside0.mk hb; have z8 := (hb.block _ (blk_lt M8.out)).trans M8.out; have x8 := blk_alloc z8 (.cells #[.int .i64 q1, .int .u64 q0] 25 (0, 0)); have x0 := blk_alloc ((hb.block _ (blk_lt ((HBc.out.block _ (blk_lt N0.out)).trans N0.out))).trans ((HBc.out.block _ (blk_lt N0.out)).trans N0.out)) (.cells #[.int .i64 q1, .int .u64 q0] 25 (0, 0)); have y0 := blk_cell x8 0; have y1 := blk_cell x8 1; have y2 := blk_cell x0 0; clear HQ hb z8 x8 x0)
      | (go_at_call 46; (with_reducible refine (HR.out _).mono ?_); rintro e w2 ⟨rfl, hb⟩; have HB2 := Aside0.mk hb; clear HR hb))
    have hb1 := (HBc.out.trans ⟨HB1.out.os, HB1.out.tape, HB1.out.output, HB1.out.size, fun k hk => HB1.out.block k (Nat.lt_of_lt_of_le hk HBc.out.size)⟩)
    have hb2 := hop (hb1.alloc hb1.size (.cells #[.int .i64 q1, .int .u64 q0] 25 (0, 0))) HB2.out
    have hz1 : w.heap.size + 3 < w1.heap.size := Nat.lt_of_lt_of_le (blk_lt N3.out) hb1.size
    have hz2 : w.heap.size + 3 < w2.heap.size := Nat.lt_of_lt_of_le (blk_lt N3.out) hb2.size
    obtain ⟨W9, h9⟩ : ∃ W9, W9 = w2.alloc (.cells #[.int .i64 r1, .int .u64 r0] 25 (0, 0)) := ⟨_, rfl⟩
    have hb3 := hb2.alloc hb2.size (.cells #[.int .i64 r1, .int .u64 r0] 25 (0, 0))
    have m9 := (blk_alloc ((HB2.out.block _ (by simp)).trans (heap_alloc_new w1 (.cells #[.int .i64 q1, .int .u64 q0] 25 (0, 0)))) (.cells #[.int .i64 r1, .int .u64 r0] 25 (0, 0)))
    have m11 := heap_alloc_new w2 (.cells #[.int .i64 r1, .int .u64 r0] 25 (0, 0))
    rw [← h9] at hb3 m9 m11 ⊢
    have m2 := (hb3.block _ (blk_lt N2.out)).trans N2.out
    have m3 := (hb3.block _ (blk_lt N3.out)).trans N3.out
    have l0 := blk_cell m9 0
    have l1 := blk_cell m9 1
    have l2 := blk_cell m11 0
    have l3 := blk_cell m11 1
    have s0_ := blk_cell m2 0
    have s1_ := blk_cell m2 1
    have s2_ := blk_cell m3 0
    have s3_ := blk_cell m3 1
    have t0_ := blk_frozen m2 0
    have t1_ := blk_frozen m2 1
    have t2_ := blk_frozen m3 0
    have t3_ := blk_frozen m3 1
    have HB3 := Aside0.mk hb3
    have hsz : w.heap.size + 3 < W9.heap.size := blk_lt m3
    clear hb1 hb2 hb3 m9 m11 m2 m3 h9 y0 y1 y2 a0 a1 b0 b1 c0 c1
    go_region
    all_goals
      go_wp2_with (fail)
      rw [HYA.out]
      refine bodyPost_ret (v := .tuple #[.agg #[.int .i64 q1, .int .u64 q0], .agg #[.int .i64 r1, .int .u64 r0], .int .i64 0]) (by simp [results, Try.results17, go_sem, s0_, s1_, s2_, s3_, t0_, t1_, t2_, t3_, hsz]) rfl ⟨rfl, ?_⟩
      exact below_drew (((((hop NB.out HB3.out).setCell (Nat.le_add_right _ 2) _).setCell (Nat.le_add_right _ 2) _).setCell (Nat.le_add_right _ 3) _).setCell (Nat.le_add_right _ 3) _)
end Go.Proofs.Ythnihjfdmkfkiaa.Q
