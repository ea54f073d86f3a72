import Derived.Test.YthnihjfdmkfkiaaTSgn
import Derived.Test.YthnihjfdmkfkiaaWInvWords
import Derived.Laws.MathBits
import Derived.Deep.DeepCutAuto
namespace Go.Proofs.Ythnihjfdmkfkiaa.Q
open Go.RowKit Go.Proofs.YthnihjfdmkfkiaaW.PrintWords Go.Proofs.YthnihjfdmkfkiaaW.PrintLast Go.Proofs.YthnihjfdmkfkiaaW.PrintMore Go.Proofs.YthnihjfdmkfkiaaV
set_option linter.unusedVariables false
set_option linter.unusedSimpArgs false

theorem and32 (a : Int) (h0 : 0 ≤ a) (h1 : a < 18446744073709551616) : bits .and .u64 a 4294967295 = a % 4294967296 := by
  rw [u64_and a 4294967295 h0 h1 (by omega) (by omega), show (4294967295 : Int).toNat = 4294967295 from rfl]
  have := Nat.and_two_pow_sub_one_eq_mod a.toNat 32
  rw [show (2 : Nat) ^ 32 - 1 = 4294967295 by decide, show (2 : Nat) ^ 32 = 4294967296 by decide] at this
  rw [this]
  omega
set_option maxHeartbeats 800000 in
theorem bits_Mul64 (x y : Int) (w : World) (hx0 : 0 ≤ x) (hx : x < 18446744073709551616) (hy0 : 0 ≤ y) (hy : y < 18446744073709551616) :
    Calls Try.prog 52 #[.int .u64 x, .int .u64 y] w fun e w' => e = .returned (.tuple #[.int .u64 (x * y / 18446744073709551616), .int .u64 (x * y % 18446744073709551616)]) ∧ w = w' := by
  have HE := Aside0.mk (mul64_arith x y hx0 hx hy0 hy)
  have HX := Aside0.mk (And.intro hx0 hx)
  have HY := Aside0.mk (And.intro hy0 hy)
  clear hx0 hx hy0 hy
  go_enter Try.func52, Try.ntmps52
  go_wp2
  have a1 := and32 x HX.out.1 HX.out.2
  have a2 := and32 y HY.out.1 HY.out.2
  have a3 := fun a : Int => and32 (a % 18446744073709551616) (by omega) (by omega)
  simp only [u64w, a1, a2, a3]
  rw [HE.out]
  go_ret2
  exact ⟨rfl, rfl⟩
theorem new2 (w : World) (a b c : Obj) (d : Obj) : ((((w.alloc a).alloc b).alloc c)).heap[w.heap.size]? = some a ∧ (((w.alloc a).alloc b).alloc c).heap[w.heap.size + 1]? = some b ∧ (((w.alloc a).alloc b).alloc c).heap[w.heap.size + 2]? = some c ∧ Below w.heap.size w (((w.alloc a).alloc b).alloc c) := by
  refine ⟨blk_alloc (blk_alloc (heap_alloc_new _ _) _) _, blk_alloc (heap_alloc2_new _ _ _) _, ?_, below_alloc (below_alloc (below_alloc (Below.refl _ _) _) _) _⟩
  have := heap_alloc_new ((w.alloc a).alloc b) c
  simpa using this
/-- Numbers of 64 bits with a sign. -/
def in64 (x : Int) : Prop := -9223372036854775808 ≤ x ∧ x ≤ 9223372036854775807
def mul1.T : Bool × List (List Nat × List Nat) := (true, [([], []), ([0], [0]), ([], []), ([2, 1], [2]), ([], []), ([], []), ([4, 1, 3, 0, 1, 4, 5], [1, 4]), ([5, 3, 6, 0, 1, 2, 3, 4, 5, 6], [3, 5])])
def mul1.B : List Nat := [0, 1, 0, 7, 0, 0, 63, 127]
theorem mul1.tab : rtab .any (opsOf Try.f27 1) = mul1.T := by kernel_rfl
theorem mul1.bits : waitsOk mul1.T.2 mul1.B = true := by kernel_rfl
set_option maxHeartbeats 3200000 in
set_option maxRecDepth 4000 in
theorem wide_Mul {x y : Int} (w : World) (hx : in64 x) (hy : in64 y) :
    Calls Try.prog 27 #[WV x, WV y] w fun q w' => q = .returned (.tuple #[WV (x * y), .int .i64 0]) ∧ Below w.heap.size w w' := by
  have ix : inW x := by unfold in64 at hx; unfold inW; omega
  have iy : inW y := by unfold in64 at hy; unfold inW; omega
  have HAx := Aside0.mk (fun W => wide_amount W ix)
  have HAy := Aside0.mk (fun W => wide_amount W iy)
  unfold in64 at hx hy
  have hp : 0 ≤ (x.natAbs : Int) ∧ (x.natAbs : Int) ≤ 9223372036854775808 := by omega
  have hs : 0 ≤ (y.natAbs : Int) ∧ (y.natAbs : Int) ≤ 9223372036854775808 := by omega
  have hz : (x.natAbs : Int) * (y.natAbs : Int) = ((x * y).natAbs : Int) := by rw [← Int.natCast_mul, Int.natAbs_mul]
  have hm0 := Int.mul_nonneg hp.1 hs.1
  have hm1 : (x.natAbs : Int) * (y.natAbs : Int) ≤ 9223372036854775808 * 9223372036854775808 := Int.mul_le_mul hp.2 hs.2 hs.1 (by omega)
  have hM := Aside0.mk (bits_Mul64 (x.natAbs : Int) (y.natAbs : Int) · hp.1 (by omega) hs.1 (by omega))
  have hM2 := Aside0.mk (bits_Mul64 0 (y.natAbs : Int) · (by omega) (by omega) hs.1 (by omega))
  have HG := Aside0.mk (fun b W => wide_signed (m := (x.natAbs : Int) * (y.natAbs : Int)) b W hm0 (by omega))
  have hsg : (if (decide (hiW x < 0) != decide (hiW y < 0)) then -((x.natAbs : Int) * (y.natAbs : Int)) else (x.natAbs : Int) * (y.natAbs : Int)) = x * y := by
    have nx : hiW x < 0 ↔ x < 0 := by unfold hiW; omega
    have ny : hiW y < 0 ↔ y < 0 := by unfold hiW; omega
    by_cases h1 : x < 0 <;> by_cases h2 : y < 0
    · rw [decide_eq_true (nx.2 h1), decide_eq_true (ny.2 h2)]
      simp only [bne_self_eq_false, Bool.false_eq_true, if_false]
      rw [show (x.natAbs : Int) = -x by omega, show (y.natAbs : Int) = -y by omega, Int.neg_mul_neg]
    · rw [decide_eq_true (nx.2 h1), decide_eq_false (fun h => h2 (ny.1 h))]
      simp only [Bool.true_bne, Bool.not_false, if_true]
      rw [show (x.natAbs : Int) = -x by omega, show (y.natAbs : Int) = y by omega, Int.neg_mul, Int.neg_neg]
    · rw [decide_eq_false (fun h => h1 (nx.1 h)), decide_eq_true (ny.2 h2)]
      simp only [Bool.false_bne, if_true]
      rw [show (x.natAbs : Int) = x by omega, show (y.natAbs : Int) = -y by omega, Int.mul_neg, Int.neg_neg]
    · rw [decide_eq_false (fun h => h1 (nx.1 h)), decide_eq_false (fun h => h2 (ny.1 h))]
      simp only [bne_self_eq_false, Bool.false_eq_true, if_false]
      rw [show (x.natAbs : Int) = x by omega, show (y.natAbs : Int) = y by omega]
  have e1 : loW (x.natAbs : Int) = (x.natAbs : Int) := by unfold loW; omega
  have e2 : hiW (x.natAbs : Int) = 0 := by unfold hiW; omega
  have e3 : loW (y.natAbs : Int) = (y.natAbs : Int) := by unfold loW; omega
  have e4 : hiW (y.natAbs : Int) = 0 := by unfold hiW; omega
  have RES := Aside0.mk hsg
  unfold WV LV at HAx HAy HG
  unfold WV
  rw [e1, e2] at HAx
  rw [e3, e4] at HAy
  have HG_ := HG
  clear HG
  have HG := Aside0.mk (fun b W => (show Calls Try.prog 46 #[.agg #[.int .u64 ((x.natAbs : Int) * (y.natAbs : Int) % 18446744073709551616), .int .u64 ((x.natAbs : Int) * (y.natAbs : Int) / 18446744073709551616)], .bool b] W _ from HG_.out b W))
  clear HG_
  obtain ⟨xa, hxa⟩ : ∃ a, a = hiW x := ⟨_, rfl⟩
  obtain ⟨xb, hxb⟩ : ∃ a, a = loW x := ⟨_, rfl⟩
  obtain ⟨ya, hya⟩ : ∃ a, a = hiW y := ⟨_, rfl⟩
  obtain ⟨yb, hyb⟩ : ∃ a, a = loW y := ⟨_, rfl⟩
  rw [← hxa, ← hxb] at HAx ⊢
  rw [← hya, ← hyb] at HAy ⊢
  rw [← hxa, ← hya] at RES
  obtain ⟨bx, hbx⟩ : ∃ b, b = decide (xa < 0) := ⟨_, rfl⟩
  obtain ⟨by_, hby⟩ : ∃ b, b = decide (ya < 0) := ⟨_, rfl⟩
  have qx := hbx.symm
  have qy := hby.symm
  rw [← hbx, ← hby] at RES
  have HG := Aside0.mk (fun W => HG.out (bx != by_) W)
  have HG_ := HG
  clear HG
  rw [RES.out] at HG_
  have HG := HG_
  clear HG_
  change Aside0 (∀ W, Calls Try.prog 46 #[.agg #[.int .u64 ((x.natAbs : Int) * (y.natAbs : Int) % 18446744073709551616), .int .u64 ((x.natAbs : Int) * (y.natAbs : Int) / 18446744073709551616)], .bool (bx != by_)] W fun q w' => q = .returned (.tuple #[.agg #[.int .i64 (hiW (x * y)), .int .u64 (loW (x * y))], .int .i64 0]) ∧ Below W.heap.size W w') at HG
  obtain ⟨za, hza⟩ : ∃ a, a = hiW (x * y) := ⟨_, rfl⟩
  obtain ⟨zb, hzb⟩ : ∃ a, a = loW (x * y) := ⟨_, rfl⟩
  rw [← hza, ← hzb] at HG ⊢
  obtain ⟨bb, hbb⟩ : ∃ b, b = (bx != by_) := ⟨_, rfl⟩
  have qb : (!(bx == by_)) = bb := by rw [hbb]; rfl
  rw [← hbb] at HG
  clear hza hzb RES hbx hby hbb
  obtain ⟨p0, hp0⟩ : ∃ a, a = (x.natAbs : Int) := ⟨_, rfl⟩
  obtain ⟨s0, hs0⟩ : ∃ a, a = (y.natAbs : Int) := ⟨_, rfl⟩
  rw [← hp0] at HAx hM HG
  rw [← hs0] at HAy hM hM2 HG
  rw [← hp0, ← hs0] at hm0 hm1
  obtain ⟨hi, hhi⟩ : ∃ a, a = p0 * s0 / 18446744073709551616 := ⟨_, rfl⟩
  obtain ⟨lo, hlo⟩ : ∃ a, a = p0 * s0 % 18446744073709551616 := ⟨_, rfl⟩
  rw [← hhi, ← hlo] at hM HG
  rw [show (0 : Int) * s0 / 18446744073709551616 = 0 by rw [Int.zero_mul]; rfl, show (0 : Int) * s0 % 18446744073709551616 = 0 by rw [Int.zero_mul]; rfl] at hM2
  have hir : 0 ≤ hi ∧ hi ≤ 18446744073709551615 := by rw [hhi]; omega
  have A1 := call_add64 hi 0 0 hir.1 (by omega) (by omega) (by omega)
  rw [show (hi + 0 + 0) % 18446744073709551616 = hi by omega, show (hi + 0 + 0) / 18446744073709551616 = 0 by omega] at A1
  obtain ⟨p1, hp1⟩ : ∃ a : Int, a = 0 := ⟨_, rfl⟩
  obtain ⟨s1, hs1⟩ : ∃ a : Int, a = 0 := ⟨_, rfl⟩
  rw [← hp1] at HAx
  rw [← hs1] at HAy
  have HP1 := Aside0.mk hp1
  have HS1 := Aside0.mk hs1
  obtain ⟨W, hW⟩ : ∃ W, W = ((w.alloc (.cells #[.int .i64 xa, .int .u64 xb] 25 (0, 0))).alloc (.cells #[.int .i64 ya, .int .u64 yb] 25 (0, 0))).alloc (.cells #[.int .i64 0, .int .u64 0] 25 (0, 0)) := ⟨_, rfl⟩
  obtain ⟨n0, n1, n2, nb⟩ := new2 w (.cells #[.int .i64 xa, .int .u64 xb] 25 (0, 0)) (.cells #[.int .i64 ya, .int .u64 yb] 25 (0, 0)) (.cells #[.int .i64 0, .int .u64 0] 25 (0, 0)) (.cells #[] 0 (0, 0))
  rw [← hW] at n0 n1 n2 nb
  have HW := Aside0.mk hW
  have N0 := Aside0.mk n0
  have N1 := Aside0.mk n1
  have N2 := Aside0.mk n2
  have NB := Aside0.mk nb
  clear hW n0 n1 n2 nb hxa hxb hya hyb hp0 hs0 hhi hlo hm0 hm1 hz hp hs hsg e1 e2 e3 e4 ix iy hx hy hp1 hs1
  go_enter Try.func27, Try.ntmps27
  go_upto_region 1 with (fail)
  rw [← HW.out]
  go_cut [6, 7] from 8 to 17 (fun v6 v7 wx => ∃ g6 g7, v6 = .pointer (some ⟨g6, 0, none⟩) ∧ v7 = .pointer (some ⟨g7, 0, none⟩) ∧ Aside0 (wx.heap[g6]? = some (.cells #[.int .u64 p0, .int .u64 p1] 84 (0, 0))) ∧ Aside0 (wx.heap[g7]? = some (.cells #[.int .u64 s0, .int .u64 s1] 84 (0, 0))) ∧ Aside0 (Below W.heap.size W wx))
  case first =>
    have HB := Aside0.mk (show Below W.heap.size W W.drew from (Below.refl _ _).drew)
    have D4_5 : True := trivial
    refine start_ (n := 8) (S := fun w' => True) (ds := []) #[false, false, false, false, false, false, false, false] (by kernel_rfl) rfl rfl trivial (fun hHeld => ?_)
    refine with_tabW mul1.tab mul1.bits (fun HT_ HW_ => ?_)
    refine inv_at [0, 1, 2, 3, 4, 5, 6, 7] (fun a0_ b a w' => ∃ (g6 : Nat) (g7 : Nat) (m4_ : Value) (m5_ : Value), a = putSel a0_ b [(0, 14, .agg #[.int .i64 xa, .int .u64 xb]), (1, 15, .agg #[.int .u64 p0, .int .u64 p1]), (2, 16, .agg #[.int .i64 ya, .int .u64 yb]), (3, 17, .agg #[.int .u64 s0, .int .u64 s1]), (4, 6, m4_), (5, 7, m5_)] ∧ (Below W.heap.size W w') ∧ (b 4 = true → W.heap.size ≤ g6) ∧ (b 4 = true → g6 < w'.heap.size) ∧ (b 4 = true → b 6 = false → w'.heap[g6]? = some (.cells #[.int .u64 0, .int .u64 0] 84 (0, 0))) ∧ (b 4 = true → b 6 = true → w'.heap[g6]? = some (.cells #[.int .u64 p0, .int .u64 p1] 84 (0, 0))) ∧ (b 5 = true → W.heap.size ≤ g7) ∧ (b 5 = true → g7 < w'.heap.size) ∧ (b 5 = true → b 7 = false → w'.heap[g7]? = some (.cells #[.int .u64 0, .int .u64 0] 84 (0, 0))) ∧ (b 5 = true → b 7 = true → w'.heap[g7]? = some (.cells #[.int .u64 s0, .int .u64 s1] 84 (0, 0))) ∧ ((b 4 = true → b 5 = true → g6 ≠ g7)) ∧ (b 4 = true → (m4_ : Value) = .pointer (some ⟨g6, 0, none⟩)) ∧ (b 5 = true → (m5_ : Value) = .pointer (some ⟨g7, 0, none⟩))) HT_.out HW_.out (by kernel_rfl) (by kernel_rfl) ?_ ?_ ?_
    · exact ⟨0, 0, .bool false, .bool false, by simp only [putSel, Bool.false_eq_true, if_false], HB.out, fun h_ => absurd h_ (by decide), fun h_ => absurd h_ (by decide), fun h_ => absurd h_ (by decide), fun h_ => absurd h_ (by decide), fun h_ => absurd h_ (by decide), fun h_ => absurd h_ (by decide), fun h_ => absurd h_ (by decide), fun h_ => absurd h_ (by decide), fun h_ => absurd h_ (by decide), fun h_ => absurd h_ (by decide), fun h_ => absurd h_ (by decide)⟩
    · skip
      clear D4_5 HB
      refine steps_cons ?_ ?_
      · rintro b a w' ⟨g6, g7, m4_, m5_, ha, Q_HB, Q_G4, Q_L4, Q_Z4, Q_N6, Q_G5, Q_L5, Q_Z5, Q_N7, Q_D4_5, Q_X4_, Q_X5_⟩ hb_ hon hoff
        refine ⟨_, rfl, fun K hK => ?_⟩
        have e2 : a.tmps[2]? = some (.pointer (some ⟨w.heap.size, 0, none⟩)) := by rw [ha]; exact (putSel_off rfl).trans rfl
        replace ha := Aside0.mk ha
        have HB := Aside0.mk Q_HB
        have D4_5 := Aside0.mk Q_D4_5
        have k0 := blk_cell ((HB.out.block _ (blk_lt N0.out)).trans N0.out) 0
        have k1 := blk_cell ((HB.out.block _ (blk_lt N0.out)).trans N0.out) 1
        refine value_ (w1 := w') (v := .agg #[.int .i64 xa, .int .u64 xb]) (by rfl) rfl ?_ ?_
        · go_simp
          (try simp only [i64_w])
          try rfl
        refine hK.out _ _ ⟨g6, g7, m4_, m5_, (by rw [ha.out]; exact putSel_upk 0 hb_ rfl rfl rfl), Q_HB, Q_G4, Q_L4, Q_Z4, fun _ h1_ => absurd ((hoff 6 (by kernel_rfl)).symm.trans h1_) (by decide), Q_G5, Q_L5, Q_Z5, fun _ h1_ => absurd ((hoff 7 (by kernel_rfl)).symm.trans h1_) (by decide), Q_D4_5, Q_X4_, Q_X5_⟩
      refine steps_cons ?_ ?_
      · rintro b a w' ⟨g6, g7, m4_, m5_, ha, Q_HB, Q_G4, Q_L4, Q_Z4, Q_N6, Q_G5, Q_L5, Q_Z5, Q_N7, Q_D4_5, Q_X4_, Q_X5_⟩ hb_ hon hoff
        refine ⟨_, rfl, fun K hK => ?_⟩
        have e14 : a.tmps[14]? = some (.agg #[.int .i64 xa, .int .u64 xb]) := by rw [ha]; exact putSel_on (e := (0, 14, .agg #[.int .i64 xa, .int .u64 xb])) 0 rfl rfl (hon 0 (by kernel_rfl)) rfl
        replace ha := Aside0.mk ha
        have HB := Aside0.mk Q_HB
        have D4_5 := Aside0.mk Q_D4_5
        refine goes_ Try.func45 (by kernel_rfl) rfl #[.agg #[.int .i64 xa, .int .u64 xb]] (by rfl) rfl rfl (by first | (simp only [List.map_toArray, List.map_cons, List.map_nil, Act.eval, Array.getD_eq_getD_getElem?, Option.getD_some, e14]; done) | (simp only [List.map_toArray, List.map_cons, List.map_nil, Act.eval, Array.getD_eq_getD_getElem?, Option.getD_some, e14]; rfl)) ?_
        with_reducible refine (HAx.out _).mono ?_
        rintro e w1 ⟨rfl, hb⟩
        refine ⟨_, rfl, ?_⟩
        refine hK.out _ _ ⟨g6, g7, m4_, m5_, (by rw [ha.out]; exact putSel_upk 1 hb_ rfl rfl rfl), hop HB.out hb, Q_G4, fun h4 => Nat.lt_of_lt_of_le (Q_L4 h4) hb.size, fun h4 h6 => (hb.block _ (blk_lt (Q_Z4 h4 h6))).trans (Q_Z4 h4 h6), fun _ h1_ => absurd ((hoff 6 (by kernel_rfl)).symm.trans h1_) (by decide), Q_G5, fun h5 => Nat.lt_of_lt_of_le (Q_L5 h5) hb.size, fun h5 h7 => (hb.block _ (blk_lt (Q_Z5 h5 h7))).trans (Q_Z5 h5 h7), fun _ h1_ => absurd ((hoff 7 (by kernel_rfl)).symm.trans h1_) (by decide), Q_D4_5, Q_X4_, Q_X5_⟩
      refine steps_cons ?_ ?_
      · rintro b a w' ⟨g6, g7, m4_, m5_, ha, Q_HB, Q_G4, Q_L4, Q_Z4, Q_N6, Q_G5, Q_L5, Q_Z5, Q_N7, Q_D4_5, Q_X4_, Q_X5_⟩ hb_ hon hoff
        refine ⟨_, rfl, fun K hK => ?_⟩
        have e3 : a.tmps[3]? = some (.pointer (some ⟨w.heap.size + 1, 0, none⟩)) := by rw [ha]; exact (putSel_off rfl).trans rfl
        replace ha := Aside0.mk ha
        have HB := Aside0.mk Q_HB
        have D4_5 := Aside0.mk Q_D4_5
        have k0 := blk_cell ((HB.out.block _ (blk_lt N1.out)).trans N1.out) 0
        have k1 := blk_cell ((HB.out.block _ (blk_lt N1.out)).trans N1.out) 1
        refine value_ (w1 := w') (v := .agg #[.int .i64 ya, .int .u64 yb]) (by rfl) rfl ?_ ?_
        · go_simp
          (try simp only [i64_w])
          try rfl
        refine hK.out _ _ ⟨g6, g7, m4_, m5_, (by rw [ha.out]; exact putSel_upk 2 hb_ rfl rfl rfl), Q_HB, Q_G4, Q_L4, Q_Z4, fun _ h1_ => absurd ((hoff 6 (by kernel_rfl)).symm.trans h1_) (by decide), Q_G5, Q_L5, Q_Z5, fun _ h1_ => absurd ((hoff 7 (by kernel_rfl)).symm.trans h1_) (by decide), Q_D4_5, Q_X4_, Q_X5_⟩
      refine steps_cons ?_ ?_
      · rintro b a w' ⟨g6, g7, m4_, m5_, ha, Q_HB, Q_G4, Q_L4, Q_Z4, Q_N6, Q_G5, Q_L5, Q_Z5, Q_N7, Q_D4_5, Q_X4_, Q_X5_⟩ hb_ hon hoff
        refine ⟨_, rfl, fun K hK => ?_⟩
        have e16 : a.tmps[16]? = some (.agg #[.int .i64 ya, .int .u64 yb]) := by rw [ha]; exact putSel_on (e := (2, 16, .agg #[.int .i64 ya, .int .u64 yb])) 2 rfl rfl (hon 2 (by kernel_rfl)) rfl
        replace ha := Aside0.mk ha
        have HB := Aside0.mk Q_HB
        have D4_5 := Aside0.mk Q_D4_5
        refine goes_ Try.func45 (by kernel_rfl) rfl #[.agg #[.int .i64 ya, .int .u64 yb]] (by rfl) rfl rfl (by first | (simp only [List.map_toArray, List.map_cons, List.map_nil, Act.eval, Array.getD_eq_getD_getElem?, Option.getD_some, e16]; done) | (simp only [List.map_toArray, List.map_cons, List.map_nil, Act.eval, Array.getD_eq_getD_getElem?, Option.getD_some, e16]; rfl)) ?_
        with_reducible refine (HAy.out _).mono ?_
        rintro e w1 ⟨rfl, hb⟩
        refine ⟨_, rfl, ?_⟩
        refine hK.out _ _ ⟨g6, g7, m4_, m5_, (by rw [ha.out]; exact putSel_upk 3 hb_ rfl rfl rfl), hop HB.out hb, Q_G4, fun h4 => Nat.lt_of_lt_of_le (Q_L4 h4) hb.size, fun h4 h6 => (hb.block _ (blk_lt (Q_Z4 h4 h6))).trans (Q_Z4 h4 h6), fun _ h1_ => absurd ((hoff 6 (by kernel_rfl)).symm.trans h1_) (by decide), Q_G5, fun h5 => Nat.lt_of_lt_of_le (Q_L5 h5) hb.size, fun h5 h7 => (hb.block _ (blk_lt (Q_Z5 h5 h7))).trans (Q_Z5 h5 h7), fun _ h1_ => absurd ((hoff 7 (by kernel_rfl)).symm.trans h1_) (by decide), Q_D4_5, Q_X4_, Q_X5_⟩
      refine steps_cons ?_ ?_
      · rintro b a w' ⟨g6, g7, m4_, m5_, ha, Q_HB, Q_G4, Q_L4, Q_Z4, Q_N6, Q_G5, Q_L5, Q_Z5, Q_N7, Q_D4_5, Q_X4_, Q_X5_⟩ hb_ hon hoff
        refine ⟨_, rfl, fun K hK => ?_⟩
        replace ha := Aside0.mk ha
        have HB := Aside0.mk Q_HB
        have D4_5 := Aside0.mk Q_D4_5
        have hb := (Below.refl w'.heap.size w').alloc (Nat.le_refl _) (.cells #[.int .u64 0, .int .u64 0] 84 (0, 0))
        refine value_ (w1 := w'.alloc (.cells #[.int .u64 0, .int .u64 0] 84 (0, 0))) (v := .pointer (some ⟨w'.heap.size, 0, none⟩)) (by rfl) rfl ?_ ?_
        · go_simp
          try rfl
        refine hK.out _ _ ⟨w'.heap.size, g7, (.pointer (some ⟨w'.heap.size, 0, none⟩)), m5_, (by rw [ha.out]; exact putSel_upk 4 hb_ rfl rfl rfl), hop HB.out hb, fun _ => HB.out.size, fun _ => (by simp), fun _ _ => heap_alloc_new w' _, fun _ h1_ => absurd ((hoff 6 (by kernel_rfl)).symm.trans h1_) (by decide), Q_G5, fun h5 => Nat.lt_of_lt_of_le (Q_L5 h5) hb.size, fun h5 h7 => (hb.block _ (blk_lt (Q_Z5 h5 h7))).trans (Q_Z5 h5 h7), fun _ h1_ => absurd ((hoff 7 (by kernel_rfl)).symm.trans h1_) (by decide), fun h1 h2 => (fun e => by have := Q_L5 h2; omega), fun _ => rfl, Q_X5_⟩
      refine steps_cons ?_ ?_
      · rintro b a w' ⟨g6, g7, m4_, m5_, ha, Q_HB, Q_G4, Q_L4, Q_Z4, Q_N6, Q_G5, Q_L5, Q_Z5, Q_N7, Q_D4_5, Q_X4_, Q_X5_⟩ hb_ hon hoff
        refine ⟨_, rfl, fun K hK => ?_⟩
        replace ha := Aside0.mk ha
        have HB := Aside0.mk Q_HB
        have D4_5 := Aside0.mk Q_D4_5
        have hb := (Below.refl w'.heap.size w').alloc (Nat.le_refl _) (.cells #[.int .u64 0, .int .u64 0] 84 (0, 0))
        refine value_ (w1 := w'.alloc (.cells #[.int .u64 0, .int .u64 0] 84 (0, 0))) (v := .pointer (some ⟨w'.heap.size, 0, none⟩)) (by rfl) rfl ?_ ?_
        · go_simp
          try rfl
        refine hK.out _ _ ⟨g6, w'.heap.size, m4_, (.pointer (some ⟨w'.heap.size, 0, none⟩)), (by rw [ha.out]; exact putSel_upk 5 hb_ rfl rfl rfl), hop HB.out hb, Q_G4, fun h4 => Nat.lt_of_lt_of_le (Q_L4 h4) hb.size, fun h4 h6 => (hb.block _ (blk_lt (Q_Z4 h4 h6))).trans (Q_Z4 h4 h6), fun _ h1_ => absurd ((hoff 6 (by kernel_rfl)).symm.trans h1_) (by decide), fun _ => HB.out.size, fun _ => (by simp), fun _ _ => heap_alloc_new w' _, fun _ h1_ => absurd ((hoff 7 (by kernel_rfl)).symm.trans h1_) (by decide), fun h1 h2 => (fun e => by have := Q_L4 h1; omega), Q_X4_, fun _ => rfl⟩
      refine steps_cons ?_ ?_
      · rintro b a w' ⟨g6, g7, m4_, m5_, ha, Q_HB, Q_G4, Q_L4, Q_Z4, Q_N6, Q_G5, Q_L5, Q_Z5, Q_N7, Q_D4_5, Q_X4_, Q_X5_⟩ hb_ hon hoff
        refine ⟨_, rfl, fun K hK => ?_⟩
        have e6 : a.tmps[6]? = some (m4_) := by rw [ha]; exact putSel_on (e := (4, 6, m4_)) 4 rfl rfl (hon 4 (by kernel_rfl)) rfl
        rw [Q_X4_ (hon 4 (by kernel_rfl))] at e6
        have e15 : a.tmps[15]? = some (.agg #[.int .u64 p0, .int .u64 p1]) := by rw [ha]; exact putSel_on (e := (1, 15, .agg #[.int .u64 p0, .int .u64 p1])) 1 rfl rfl (hon 1 (by kernel_rfl)) rfl
        replace ha := Aside0.mk ha
        have HB := Aside0.mk Q_HB
        have G4 := Aside0.mk (Q_G4 (hon 4 (by kernel_rfl)))
        have L4 := Aside0.mk (Q_L4 (hon 4 (by kernel_rfl)))
        have Z4 := Aside0.mk (Q_Z4 (hon 4 (by kernel_rfl)) hb_)
        have G5 := Aside0.mk (Q_G5 (hon 5 (by kernel_rfl)))
        have L5 := Aside0.mk (Q_L5 (hon 5 (by kernel_rfl)))
        have Z5 := Aside0.mk (Q_Z5 (hon 5 (by kernel_rfl)) (hoff 7 (by kernel_rfl)))
        have D4_5 := Aside0.mk Q_D4_5
        have hk : Keep w' ((w'.setCell ⟨g6, 0, none⟩ (.int .u64 p0)).setCell ⟨g6, 1, none⟩ (.int .u64 p1)) (fun k => k = g6) := (((Keep.refl w' (fun k => k = g6)).set ⟨g6, 0, none⟩ (.int .u64 p0) (.inl rfl)).set ⟨g6, 1, none⟩ (.int .u64 p1) (.inl rfl))
        have y0 := blk_cell Z4.out 0
        have y1 := blk_cell Z4.out 1
        have z0 := blk_frozen Z4.out 0
        have z1 := blk_frozen Z4.out 1
        refine skip_ (w1 := ((w'.setCell ⟨g6, 0, none⟩ (.int .u64 p0)).setCell ⟨g6, 1, none⟩ (.int .u64 p1))) (by rfl) rfl ?_ ?_
        · go_simp
          try rfl
        refine hK.out _ _ ⟨g6, g7, m4_, m5_, (by rw [ha.out]; exact putSel_none (v := undef) rfl), HB.out.trans (hk.below HB.out.size (fun k e => by have e2 : k = g6 := e; rw [e2]; exact G4.out)), Q_G4, fun h4 => Nat.lt_of_lt_of_le (Q_L4 h4) hk.size, fun _ h1_ => absurd ((up_self b 6).symm.trans h1_) (by decide), fun _ _ => (blk_put (blk_put Z4.out 0 (.int .u64 p0) rfl) 1 (.int .u64 p1) rfl), Q_G5, fun h5 => Nat.lt_of_lt_of_le (Q_L5 h5) hk.size, fun h5 h7 => (hk.block _ (blk_lt (Q_Z5 h5 h7)) (fun e => Q_D4_5 (hon 4 (by kernel_rfl)) h5 e.symm)).trans (Q_Z5 h5 h7), fun _ h1_ => absurd ((hoff 7 (by kernel_rfl)).symm.trans h1_) (by decide), Q_D4_5, Q_X4_, Q_X5_⟩
      refine steps_cons ?_ ?_
      · rintro b a w' ⟨g6, g7, m4_, m5_, ha, Q_HB, Q_G4, Q_L4, Q_Z4, Q_N6, Q_G5, Q_L5, Q_Z5, Q_N7, Q_D4_5, Q_X4_, Q_X5_⟩ hb_ hon hoff
        refine ⟨_, rfl, fun K hK => ?_⟩
        have e7 : a.tmps[7]? = some (m5_) := by rw [ha]; exact putSel_on (e := (5, 7, m5_)) 5 rfl rfl (hon 5 (by kernel_rfl)) rfl
        rw [Q_X5_ (hon 5 (by kernel_rfl))] at e7
        have e17 : a.tmps[17]? = some (.agg #[.int .u64 s0, .int .u64 s1]) := by rw [ha]; exact putSel_on (e := (3, 17, .agg #[.int .u64 s0, .int .u64 s1])) 3 rfl rfl (hon 3 (by kernel_rfl)) rfl
        replace ha := Aside0.mk ha
        have HB := Aside0.mk Q_HB
        have G4 := Aside0.mk (Q_G4 (hon 4 (by kernel_rfl)))
        have L4 := Aside0.mk (Q_L4 (hon 4 (by kernel_rfl)))
        have N6 := Aside0.mk (Q_N6 (hon 4 (by kernel_rfl)) (hon 6 (by kernel_rfl)))
        have G5 := Aside0.mk (Q_G5 (hon 5 (by kernel_rfl)))
        have L5 := Aside0.mk (Q_L5 (hon 5 (by kernel_rfl)))
        have Z5 := Aside0.mk (Q_Z5 (hon 5 (by kernel_rfl)) hb_)
        have D4_5 := Aside0.mk Q_D4_5
        have hk : Keep w' ((w'.setCell ⟨g7, 0, none⟩ (.int .u64 s0)).setCell ⟨g7, 1, none⟩ (.int .u64 s1)) (fun k => k = g7) := (((Keep.refl w' (fun k => k = g7)).set ⟨g7, 0, none⟩ (.int .u64 s0) (.inl rfl)).set ⟨g7, 1, none⟩ (.int .u64 s1) (.inl rfl))
        have y0 := blk_cell Z5.out 0
        have y1 := blk_cell Z5.out 1
        have z0 := blk_frozen Z5.out 0
        have z1 := blk_frozen Z5.out 1
        refine skip_ (w1 := ((w'.setCell ⟨g7, 0, none⟩ (.int .u64 s0)).setCell ⟨g7, 1, none⟩ (.int .u64 s1))) (by rfl) rfl ?_ ?_
        · go_simp
          try rfl
        refine hK.out _ _ ⟨g6, g7, m4_, m5_, (by rw [ha.out]; exact putSel_none (v := undef) rfl), HB.out.trans (hk.below HB.out.size (fun k e => by have e2 : k = g7 := e; rw [e2]; exact G5.out)), Q_G4, fun h4 => Nat.lt_of_lt_of_le (Q_L4 h4) hk.size, fun _ h1_ => absurd ((hon 6 (by kernel_rfl)).symm.trans h1_) (by decide), fun h4 h6 => (hk.block _ (blk_lt (Q_N6 h4 h6)) (fun e => Q_D4_5 h4 (hon 5 (by kernel_rfl)) e)).trans (Q_N6 h4 h6), Q_G5, fun h5 => Nat.lt_of_lt_of_le (Q_L5 h5) hk.size, fun _ h1_ => absurd ((up_self b 7).symm.trans h1_) (by decide), fun _ _ => (blk_put (blk_put Z5.out 0 (.int .u64 s0) rfl) 1 (.int .u64 s1) rfl), Q_D4_5, Q_X4_, Q_X5_⟩
      exact steps_nil
    · rintro b a w' hall ⟨g6, g7, m4_, m5_, ha, Q_HB, Q_G4, Q_L4, Q_Z4, Q_N6, Q_G5, Q_L5, Q_Z5, Q_N7, Q_D4_5, Q_X4_, Q_X5_⟩
      clear D4_5 HB
      have hb0_ := hall 0 (by kernel_rfl)
      have hb1_ := hall 1 (by kernel_rfl)
      have hb2_ := hall 2 (by kernel_rfl)
      have hb3_ := hall 3 (by kernel_rfl)
      have hb4_ := hall 4 (by kernel_rfl)
      have hb5_ := hall 5 (by kernel_rfl)
      have hb6_ := hall 6 (by kernel_rfl)
      have hb7_ := hall 7 (by kernel_rfl)
      subst ha
      obtain rfl := Q_X4_ hb4_
      obtain rfl := Q_X5_ hb5_
      simp only [putSel, hb0_, hb1_, hb2_, hb3_, hb4_, hb5_, hb6_, hb7_, if_true, Act.put, List.setIfInBounds_toArray, List.set_cons_zero, List.set_cons_succ]
      have HB := Aside0.mk Q_HB
      clear Q_HB
      have G4 := Aside0.mk (Q_G4 hb4_)
      clear Q_G4
      have L4 := Aside0.mk (Q_L4 hb4_)
      clear Q_L4
      clear Q_Z4
      have N6 := Aside0.mk (Q_N6 hb4_ hb6_)
      clear Q_N6
      have G5 := Aside0.mk (Q_G5 hb5_)
      clear Q_G5
      have L5 := Aside0.mk (Q_L5 hb5_)
      clear Q_L5
      clear Q_Z5
      have N7 := Aside0.mk (Q_N7 hb5_ hb7_)
      clear Q_N7
      have D4_5 := Aside0.mk Q_D4_5
      clear Q_D4_5
      clear hall hb0_ hb1_ hb2_ hb3_ hb4_ hb5_ hb6_ hb7_
      go_wp2_with (fail)
      go_meet
      exact ⟨g6, g7, rfl, rfl, N6, N7, HB⟩
  case rest =>
    obtain ⟨g6, g7, rfl, rfl, M6, M7, HBc⟩ := hcut
    obtain rfl := HP1.out
    obtain rfl := HS1.out
    have a0 := blk_cell M6.out 0
    have a1 := blk_cell M6.out 1
    have b0 := blk_cell M7.out 0
    have b1 := blk_cell M7.out 1
    have c0 := blk_cell ((HBc.out.block _ (blk_lt N0.out)).trans N0.out) 0
    have c1 := blk_cell ((HBc.out.block _ (blk_lt N1.out)).trans N1.out) 0
    have z2 := (HBc.out.block _ (blk_lt N2.out)).trans N2.out
    have ZZ := Aside0.mk z2
    clear z2
    go_wp2_with (first
      | (go_at_call 52; (with_reducible refine (hM.out _).mono ?_); rintro e w1 ⟨rfl, rfl⟩; clear hM)
      | (go_at_call 52; (with_reducible refine (hM2.out _).mono ?_); rintro e w1 ⟨rfl, rfl⟩)
      | (go_at_call 46; (with_reducible refine (HG.out _).mono ?_); rintro e w1 ⟨rfl, hb⟩; have HB1 := Aside0.mk (hop HBc.out hb); have zz := (hb.block _ (blk_lt ZZ.out)).trans ZZ.out; obtain ⟨f1, f2, f3, f4, f5⟩ := res2 (v0 := .int .i64 za) (v1 := .int .u64 zb) zz; have HF := Aside0.mk f5; clear hb f5))
    refine bodyPost_ret (results_ct rfl _ _ (w.heap.size + 2) 25 _ (0, 0) _ rfl HF.out Try.underlying25 rfl (by kernel_rfl)) rfl ?_
    exact ⟨rfl, (hop NB.out HB1.out).trans (keep_set2.below (hop NB.out HB1.out).size (fun k hk => by omega))⟩
end Go.Proofs.Ythnihjfdmkfkiaa.Q
