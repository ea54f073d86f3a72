import Derived.Test.YthnihjfdmkfkiaaBInt
import Derived.Test.YthnihjfdmkfkiaaMA
import Derived.Test.YthnihjfdmkfkiaaTRank
import Derived.Test.YthnihjfdmkfkiaaWInvWords
namespace Go.Proofs.Ythnihjfdmkfkiaa.Q
open Go.RowKit Go.Proofs.YthnihjfdmkfkiaaW.PrintWords Go.Proofs.YthnihjfdmkfkiaaW.PrintLast Go.Proofs.YthnihjfdmkfkiaaW.PrintMore Go.Proofs.YthnihjfdmkfkiaaV
set_option linter.unusedVariables false
set_option linter.unusedSimpArgs false

def rnk6.T : Bool × List (List Nat × List Nat) := (true, [([], []), ([], []), ([0, 1, 1], [0, 1]), ([2], [2]), ([3], [3]), ([3], [3]), ([], []), ([], []), ([6, 4, 2, 0, 1, 2, 3, 4, 6, 7], [4, 6]), ([7, 5, 8, 0, 1, 2, 3, 4, 5, 6, 7, 8], [5, 7])])
def rnk6.B : List Nat := [0, 0, 3, 7, 15, 15, 0, 0, 223, 511]
theorem rnk6.tab : rtab .any (opsOf Try.f22 6) = rnk6.T := by kernel_rfl
theorem rnk6.bits : waitsOk rnk6.T.2 rnk6.B = true := by kernel_rfl
theorem few16 {x : Int} (h : inW x) : (limbs x.natAbs).length ≤ 16 := limbs_len 16 _ (by
  unfold inW at h
  have e : (340282366920938463463374607431768211456 : Nat) ≤ 65536 ^ 16 := by decide
  omega)
set_option maxHeartbeats 3200000 in
set_option maxRecDepth 4000 in
theorem Rank_walk {n p x y : Int} (w : World) (hn : 1 ≤ n ∧ n ≤ 9223372036854775807) (hp : 1 ≤ p ∧ p ≤ 100000000) (hx : x = p * n) (hy : y = 100000000) :
    Calls Try.prog 22 #[.int .i64 n, .int .i64 p] w fun e w' => e = .returned (.tuple #[.int .i64 (x / y + (if x % y = 0 then 0 else 1)), .int .i64 0]) ∧ Below w.heap.size w w' := by
  have hx0 : 1 ≤ x ∧ x ≤ n * 100000000 := by
    have h1 := Int.mul_le_mul (a := 1) (b := 1) (c := p) (d := n) hp.1 hn.1 (by omega) (by omega)
    have h2 := Int.mul_le_mul_of_nonneg_right (c := n) hp.2 (by omega)
    subst hx
    omega
  have q0 : 0 ≤ x / y ∧ x / y ≤ n ∧ (x % y ≠ 0 → x / y + 1 ≤ n) := by subst hy; omega
  have m0 : 0 ≤ x % y ∧ x % y ≤ 99999999 := by subst hy; omega
  have wq : inW (x / y) := by unfold inW; omega
  have wm : inW (x % y) := by unfold inW; omega
  have d1 : decide (p < 1) = false := decide_eq_false (by omega)
  have d2 : decide (100000000 < p) = false := decide_eq_false (by omega)
  have d3 : decide (n < 1) = false := decide_eq_false (by omega)
  have HIP := Aside0.mk (fun W => ref_Int (z := p) W (by unfold in64; omega))
  have HIN := Aside0.mk (fun W => ref_Int (z := n) W (by unfold in64; omega))
  have HIY := Aside0.mk (fun W => (show Calls Try.prog 38 #[.int .i64 100000000] W (fun e w' => ∃ v, e = .returned v ∧ NumV w' v y ∧ Below W.heap.size W w') by rw [hy]; exact ref_Int (z := 100000000) W (by unfold in64; omega)))
  have HMU := Aside0.mk (fun (W : World) (u v : Value) (h1 : NumV W u p) (h2 : NumV W v n) => (show Calls Try.prog 40 #[u, v] W (fun e w' => ∃ v, e = .returned v ∧ NumV w' v x ∧ Below W.heap.size W w') by rw [hx]; exact ref_MulN h1 h2 (few_W (by unfold inW; omega)) (few_W (by unfold inW; omega))))
  have HQU := Aside0.mk (fun (W : World) (u v : Value) (h1 : NumV W u x) (h2 : NumV W v y) => ref_QuoN h1 h2 (by omega) (by omega) (Nat.le_trans (few16 (by unfold inW; omega)) (by decide)) (Nat.le_trans (few16 (by unfold inW; omega)) (by decide)))
  have HTO := Aside0.mk (fun (W : World) (u : Value) (h : NumV W u (x / y)) => ref_To h (by omega))
  have el : loW (x / y) = x / y := by unfold loW; omega
  have eh : hiW (x / y) = 0 := by unfold hiW; omega
  unfold WV at HTO
  rw [el, eh] at HTO
  have HQ0 := Aside0.mk q0
  have HM0 := Aside0.mk m0
  obtain ⟨xq, hxq⟩ : ∃ q, q = x / y := ⟨_, rfl⟩
  obtain ⟨xr, hxr⟩ : ∃ q, q = x % y := ⟨_, rfl⟩
  clear hx hy el eh hx0
  go_enter Try.func22, Try.ntmps22
  go_upto_region 6 with (first
    | (go_at_call 38; (with_reducible refine (HIP.out _).mono ?_); rintro e w3 ⟨v, rfl, ⟨A3, c3, rfl, h3⟩, hb3⟩; have H3 := Aside0.mk h3; have HB3 := Aside0.mk hb3; clear h3 hb3)
    | (go_at_call 38; (with_reducible refine (HIN.out _).mono ?_); rintro e w4 ⟨v, rfl, ⟨A4, c4, rfl, h4⟩, hb4⟩; have H4 := Aside0.mk h4; have H3 := Aside0.mk (H3.out.below hb4); have HB4 := Aside0.mk (hop HB3.out hb4); clear h4 hb4)
    | (go_at_call 40; (with_reducible refine (HMU.out _ _ _ (NumV.of H3.out) (NumV.of H4.out)).mono ?_); rintro e w5 ⟨v, rfl, ⟨A6, c6, rfl, h5⟩, hb5⟩; have H5 := Aside0.mk h5; have HB5 := Aside0.mk (hop HB4.out hb5); clear h5 hb5))
  have m6 : (w5.alloc (.cells #[.bool (decide (x < 0)), .slice A6 (limbs x.natAbs).length c6] 71 (0, 0))).heap[w5.heap.size]? = some (.cells #[.bool (decide (x < 0)), .slice A6 (limbs x.natAbs).length c6] 71 (0, 0)) := heap_alloc_new _ _
  have hb6 : Below w.heap.size w (w5.alloc (.cells #[.bool (decide (x < 0)), .slice A6 (limbs x.natAbs).length c6] 71 (0, 0))) := HB5.out.alloc HB5.out.size _
  have l6 := H5.out.below (below_alloc (Below.refl w5.heap.size w5) (.cells #[.bool (decide (x < 0)), .slice A6 (limbs x.natAbs).length c6] 71 (0, 0)))
  obtain ⟨W, hW⟩ : ∃ W, W = w5.alloc (.cells #[.bool (decide (x < 0)), .slice A6 (limbs x.natAbs).length c6] 71 (0, 0)) := ⟨_, rfl⟩
  rw [← hW] at m6 hb6 l6 ⊢
  have N6 := Aside0.mk m6
  have L6 := Aside0.mk l6
  have NB := Aside0.mk hb6
  clear m6 hb6 l6 hW
  have HB := Aside0.mk (show Below W.heap.size W W.drew from (Below.refl _ _).drew)
  have D6_7 : True := trivial
  refine start_ (n := 10) (S := fun w' => True) (ds := []) #[false, false, false, false, false, false, false, false, false, false] (by kernel_rfl) rfl rfl trivial (fun hHeld => ?_)
  refine with_tabW rnk6.tab rnk6.bits (fun HT_ HW_ => ?_)
  refine inv_at [0, 1, 2, 3, 4, 5, 6, 7, 8, 9] (fun a0_ b a w' => ∃ (A27 : Option Addr) (c27 : Nat) (Aq : Option Addr) (cq : Nat) (Ar : Option Addr) (cr : Nat) (g7 : Nat) (g8 : Nat) (m1_ : Value) (m2_ : Value) (m3_ : Value) (m4_ : Value) (m5_ : Value) (m6_ : Value) (m7_ : Value), a = putSel a0_ b [(0, 26, .agg #[.bool (decide (x < 0)), .slice A6 (limbs x.natAbs).length c6]), (1, 27, m1_), (2, 28, m2_), (3, 25, m3_), (4, 29, m4_), (5, 30, m5_), (6, 7, m6_), (7, 8, m7_)] ∧ (Below W.heap.size W w') ∧ (b 1 = true → Lm w' A27 c27 (limbs y.natAbs)) ∧ (b 2 = true → Lm w' Aq cq (limbs (x / y).natAbs)) ∧ (b 2 = true → Lm w' Ar cr (limbs (x % y).natAbs)) ∧ (b 6 = true → W.heap.size ≤ g7) ∧ (b 6 = true → g7 < w'.heap.size) ∧ (b 6 = true → b 8 = false → w'.heap[g7]? = some (.cells #[.bool false, .slice none 0 0] 71 (0, 0))) ∧ (b 6 = true → b 8 = true → w'.heap[g7]? = some (.cells #[.bool (decide (x / y < 0)), .slice Aq (limbs (x / y).natAbs).length cq] 71 (0, 0))) ∧ (b 7 = true → W.heap.size ≤ g8) ∧ (b 7 = true → g8 < w'.heap.size) ∧ (b 7 = true → b 9 = false → w'.heap[g8]? = some (.cells #[.bool false, .slice none 0 0] 71 (0, 0))) ∧ (b 7 = true → b 9 = true → w'.heap[g8]? = some (.cells #[.bool (decide (x % y < 0)), .slice Ar (limbs (x % y).natAbs).length cr] 71 (0, 0))) ∧ ((b 6 = true → b 7 = true → g7 ≠ g8)) ∧ (b 1 = true → (m1_ : Value) = .agg #[.bool (decide (y < 0)), .slice A27 (limbs y.natAbs).length c27]) ∧ (b 2 = true → (m2_ : Value) = .tuple #[.agg #[.bool (decide (x / y < 0)), .slice Aq (limbs (x / y).natAbs).length cq], .agg #[.bool (decide (x % y < 0)), .slice Ar (limbs (x % y).natAbs).length cr]]) ∧ (b 3 = true → (m3_ : Value) = .tuple #[.agg #[.bool (decide (x / y < 0)), .slice Aq (limbs (x / y).natAbs).length cq], .agg #[.bool (decide (x % y < 0)), .slice Ar (limbs (x % y).natAbs).length cr]]) ∧ (b 4 = true → (m4_ : Value) = .agg #[.bool (decide (x / y < 0)), .slice Aq (limbs (x / y).natAbs).length cq]) ∧ (b 5 = true → (m5_ : Value) = .agg #[.bool (decide (x % y < 0)), .slice Ar (limbs (x % y).natAbs).length cr]) ∧ (b 6 = true → (m6_ : Value) = .pointer (some ⟨g7, 0, none⟩)) ∧ (b 7 = true → (m7_ : Value) = .pointer (some ⟨g8, 0, none⟩))) HT_.out HW_.out (by kernel_rfl) (by kernel_rfl) ?_ ?_ ?_
  · exact ⟨none, 0, none, 0, none, 0, 0, 0, .bool false, .bool false, .bool false, .bool false, .bool false, .bool false, .bool false, by simp only [putSel, Bool.false_eq_true, if_false], HB.out, fun h_ => absurd h_ (by decide), fun h_ => absurd h_ (by decide), fun h_ => absurd h_ (by decide), fun h_ => absurd h_ (by decide), fun h_ => absurd h_ (by decide), fun h_ => absurd h_ (by decide), fun h_ => absurd h_ (by decide), fun h_ => absurd h_ (by decide), fun h_ => absurd h_ (by decide), fun h_ => absurd h_ (by decide), fun h_ => absurd h_ (by decide), fun h_ => absurd h_ (by decide), fun h_ => absurd h_ (by decide), fun h_ => absurd h_ (by decide), fun h_ => absurd h_ (by decide), fun h_ => absurd h_ (by decide), fun h_ => absurd h_ (by decide), fun h_ => absurd h_ (by decide), fun h_ => absurd h_ (by decide)⟩
  · skip
    clear D6_7 HB
    refine steps_cons ?_ ?_
    · rintro b a w' ⟨A27, c27, Aq, cq, Ar, cr, g7, g8, m1_, m2_, m3_, m4_, m5_, m6_, m7_, ha, Q_HB, Q_FY, Q_FQ, Q_FR, Q_G6, Q_L6, Q_Z6, Q_N8, Q_G7, Q_L7, Q_Z7, Q_N9, Q_D6_7, Q_X1_, Q_X2_, Q_X3_, Q_X4_, Q_X5_, Q_X6_, Q_X7_⟩ hb_ hon hoff
      refine ⟨_, rfl, fun K hK => ?_⟩
      have e6 : a.tmps[6]? = some (.pointer (some ⟨w5.heap.size, 0, none⟩)) := by rw [ha]; exact (putSel_off rfl).trans rfl
      replace ha := Aside0.mk ha
      have HB := Aside0.mk Q_HB
      have D6_7 := Aside0.mk Q_D6_7
      have k0 := blk_cell ((HB.out.block _ (blk_lt N6.out)).trans N6.out) 0
      have k1 := blk_cell ((HB.out.block _ (blk_lt N6.out)).trans N6.out) 1
      refine value_ (w1 := w') (v := .agg #[.bool (decide (x < 0)), .slice A6 (limbs x.natAbs).length c6]) (by rfl) rfl ?_ ?_
      · go_simp
        (try simp only [i64_w])
        try rfl
      refine hK.out _ _ ⟨A27, c27, Aq, cq, Ar, cr, g7, g8, m1_, m2_, m3_, m4_, m5_, m6_, m7_, (by rw [ha.out]; exact putSel_upk 0 hb_ rfl rfl rfl), Q_HB, Q_FY, fun h0_ => absurd ((hoff 2 (by kernel_rfl)).symm.trans h0_) (by decide), fun h0_ => absurd ((hoff 2 (by kernel_rfl)).symm.trans h0_) (by decide), Q_G6, Q_L6, Q_Z6, fun _ h1_ => absurd ((hoff 8 (by kernel_rfl)).symm.trans h1_) (by decide), Q_G7, Q_L7, Q_Z7, fun _ h1_ => absurd ((hoff 9 (by kernel_rfl)).symm.trans h1_) (by decide), Q_D6_7, Q_X1_, fun h0_ => absurd ((hoff 2 (by kernel_rfl)).symm.trans h0_) (by decide), fun h0_ => absurd ((hoff 3 (by kernel_rfl)).symm.trans h0_) (by decide), fun h0_ => absurd ((hoff 4 (by kernel_rfl)).symm.trans h0_) (by decide), fun h0_ => absurd ((hoff 5 (by kernel_rfl)).symm.trans h0_) (by decide), Q_X6_, Q_X7_⟩
    refine steps_cons ?_ ?_
    · rintro b a w' ⟨A27, c27, Aq, cq, Ar, cr, g7, g8, m1_, m2_, m3_, m4_, m5_, m6_, m7_, ha, Q_HB, Q_FY, Q_FQ, Q_FR, Q_G6, Q_L6, Q_Z6, Q_N8, Q_G7, Q_L7, Q_Z7, Q_N9, Q_D6_7, Q_X1_, Q_X2_, Q_X3_, Q_X4_, Q_X5_, Q_X6_, Q_X7_⟩ hb_ hon hoff
      refine ⟨_, rfl, fun K hK => ?_⟩
      replace ha := Aside0.mk ha
      have HB := Aside0.mk Q_HB
      have D6_7 := Aside0.mk Q_D6_7
      refine goes_ Try.func38 (by kernel_rfl) rfl #[.int .i64 100000000] (by rfl) rfl rfl (by first | (simp only [List.map_toArray, List.map_cons, List.map_nil, Act.eval, Array.getD_eq_getD_getElem?, Option.getD_some]; done) | (simp only [List.map_toArray, List.map_cons, List.map_nil, Act.eval, Array.getD_eq_getD_getElem?, Option.getD_some]; rfl)) ?_
      with_reducible refine (HIY.out _).mono ?_
      rintro e w1 ⟨u1, rfl, ⟨A1, c1, rfl, h1⟩, hb⟩
      refine ⟨_, rfl, ?_⟩
      refine hK.out _ _ ⟨A1, c1, Aq, cq, Ar, cr, g7, g8, (.agg #[.bool (decide (y < 0)), .slice A1 (limbs y.natAbs).length c1]), m2_, m3_, m4_, m5_, m6_, m7_, (by rw [ha.out]; exact putSel_upk 1 hb_ rfl rfl rfl), hop HB.out hb, fun _ => h1, fun h0_ => absurd ((hoff 2 (by kernel_rfl)).symm.trans h0_) (by decide), fun h0_ => absurd ((hoff 2 (by kernel_rfl)).symm.trans h0_) (by decide), Q_G6, fun h6 => Nat.lt_of_lt_of_le (Q_L6 h6) hb.size, fun h6 h8 => (hb.block _ (blk_lt (Q_Z6 h6 h8))).trans (Q_Z6 h6 h8), fun _ h1_ => absurd ((hoff 8 (by kernel_rfl)).symm.trans h1_) (by decide), Q_G7, fun h7 => Nat.lt_of_lt_of_le (Q_L7 h7) hb.size, fun h7 h9 => (hb.block _ (blk_lt (Q_Z7 h7 h9))).trans (Q_Z7 h7 h9), fun _ h1_ => absurd ((hoff 9 (by kernel_rfl)).symm.trans h1_) (by decide), Q_D6_7, fun _ => rfl, fun h0_ => absurd ((hoff 2 (by kernel_rfl)).symm.trans h0_) (by decide), fun h0_ => absurd ((hoff 3 (by kernel_rfl)).symm.trans h0_) (by decide), fun h0_ => absurd ((hoff 4 (by kernel_rfl)).symm.trans h0_) (by decide), fun h0_ => absurd ((hoff 5 (by kernel_rfl)).symm.trans h0_) (by decide), Q_X6_, Q_X7_⟩
    refine steps_cons ?_ ?_
    · rintro b a w' ⟨A27, c27, Aq, cq, Ar, cr, g7, g8, m1_, m2_, m3_, m4_, m5_, m6_, m7_, ha, Q_HB, Q_FY, Q_FQ, Q_FR, Q_G6, Q_L6, Q_Z6, Q_N8, Q_G7, Q_L7, Q_Z7, Q_N9, Q_D6_7, Q_X1_, Q_X2_, Q_X3_, Q_X4_, Q_X5_, Q_X6_, Q_X7_⟩ hb_ hon hoff
      refine ⟨_, rfl, fun K hK => ?_⟩
      have e26 : a.tmps[26]? = some (.agg #[.bool (decide (x < 0)), .slice A6 (limbs x.natAbs).length c6]) := by rw [ha]; exact putSel_on (e := (0, 26, .agg #[.bool (decide (x < 0)), .slice A6 (limbs x.natAbs).length c6])) 0 rfl rfl (hon 0 (by kernel_rfl)) rfl
      have e27 : a.tmps[27]? = some (m1_) := by rw [ha]; exact putSel_on (e := (1, 27, m1_)) 1 rfl rfl (hon 1 (by kernel_rfl)) rfl
      rw [Q_X1_ (hon 1 (by kernel_rfl))] at e27
      replace ha := Aside0.mk ha
      have HB := Aside0.mk Q_HB
      have FY := Aside0.mk (Q_FY (hon 1 (by kernel_rfl)))
      have D6_7 := Aside0.mk Q_D6_7
      refine goes_ Try.func41 (by kernel_rfl) rfl #[.agg #[.bool (decide (x < 0)), .slice A6 (limbs x.natAbs).length c6], .agg #[.bool (decide (y < 0)), .slice A27 (limbs y.natAbs).length c27]] (by rfl) rfl rfl (by first | (simp only [List.map_toArray, List.map_cons, List.map_nil, Act.eval, Array.getD_eq_getD_getElem?, Option.getD_some, e26, e27]; done) | (simp only [List.map_toArray, List.map_cons, List.map_nil, Act.eval, Array.getD_eq_getD_getElem?, Option.getD_some, e26, e27]; rfl)) ?_
      with_reducible refine (HQU.out _ _ _ (NumV.of (L6.out.below HB.out)) (NumV.of FY.out)).mono ?_
      rintro e w1 ⟨u1, u2, rfl, ⟨A1, c1, rfl, h1⟩, ⟨A2, c2, rfl, h2⟩, hb⟩
      refine ⟨_, rfl, ?_⟩
      refine hK.out _ _ ⟨A27, c27, A1, c1, A2, c2, g7, g8, m1_, (.tuple #[.agg #[.bool (decide (x / y < 0)), .slice A1 (limbs (x / y).natAbs).length c1], .agg #[.bool (decide (x % y < 0)), .slice A2 (limbs (x % y).natAbs).length c2]]), m3_, m4_, m5_, m6_, m7_, (by rw [ha.out]; exact putSel_upk 2 hb_ rfl rfl rfl), hop HB.out hb, fun h1 => (Q_FY h1).below hb, fun _ => h1, fun _ => h2, Q_G6, fun h6 => Nat.lt_of_lt_of_le (Q_L6 h6) hb.size, fun h6 h8 => (hb.block _ (blk_lt (Q_Z6 h6 h8))).trans (Q_Z6 h6 h8), fun _ h1_ => absurd ((hoff 8 (by kernel_rfl)).symm.trans h1_) (by decide), Q_G7, fun h7 => Nat.lt_of_lt_of_le (Q_L7 h7) hb.size, fun h7 h9 => (hb.block _ (blk_lt (Q_Z7 h7 h9))).trans (Q_Z7 h7 h9), fun _ h1_ => absurd ((hoff 9 (by kernel_rfl)).symm.trans h1_) (by decide), Q_D6_7, Q_X1_, fun _ => rfl, fun h0_ => absurd ((hoff 3 (by kernel_rfl)).symm.trans h0_) (by decide), fun h0_ => absurd ((hoff 4 (by kernel_rfl)).symm.trans h0_) (by decide), fun h0_ => absurd ((hoff 5 (by kernel_rfl)).symm.trans h0_) (by decide), Q_X6_, Q_X7_⟩
    refine steps_cons ?_ ?_
    · rintro b a w' ⟨A27, c27, Aq, cq, Ar, cr, g7, g8, m1_, m2_, m3_, m4_, m5_, m6_, m7_, ha, Q_HB, Q_FY, Q_FQ, Q_FR, Q_G6, Q_L6, Q_Z6, Q_N8, Q_G7, Q_L7, Q_Z7, Q_N9, Q_D6_7, Q_X1_, Q_X2_, Q_X3_, Q_X4_, Q_X5_, Q_X6_, Q_X7_⟩ hb_ hon hoff
      refine ⟨_, rfl, fun K hK => ?_⟩
      have e28 : a.tmps[28]? = some (m2_) := by rw [ha]; exact putSel_on (e := (2, 28, m2_)) 2 rfl rfl (hon 2 (by kernel_rfl)) rfl
      rw [Q_X2_ (hon 2 (by kernel_rfl))] at e28
      replace ha := Aside0.mk ha
      have HB := Aside0.mk Q_HB
      have FY := Aside0.mk (Q_FY (hon 1 (by kernel_rfl)))
      have FQ := Aside0.mk (Q_FQ (hon 2 (by kernel_rfl)))
      have FR := Aside0.mk (Q_FR (hon 2 (by kernel_rfl)))
      have D6_7 := Aside0.mk Q_D6_7
      refine value_ (w1 := w') (v := .tuple #[.agg #[.bool (decide (x / y < 0)), .slice Aq (limbs (x / y).natAbs).length cq], .agg #[.bool (decide (x % y < 0)), .slice Ar (limbs (x % y).natAbs).length cr]]) (by rfl) rfl ?_ ?_
      · go_simp
        (try simp only [i64_w])
        try rfl
      refine hK.out _ _ ⟨A27, c27, Aq, cq, Ar, cr, g7, g8, m1_, m2_, (.tuple #[.agg #[.bool (decide (x / y < 0)), .slice Aq (limbs (x / y).natAbs).length cq], .agg #[.bool (decide (x % y < 0)), .slice Ar (limbs (x % y).natAbs).length cr]]), m4_, m5_, m6_, m7_, (by rw [ha.out]; exact putSel_upk 3 hb_ rfl rfl rfl), Q_HB, Q_FY, Q_FQ, Q_FR, Q_G6, Q_L6, Q_Z6, fun _ h1_ => absurd ((hoff 8 (by kernel_rfl)).symm.trans h1_) (by decide), Q_G7, Q_L7, Q_Z7, fun _ h1_ => absurd ((hoff 9 (by kernel_rfl)).symm.trans h1_) (by decide), Q_D6_7, Q_X1_, Q_X2_, fun _ => rfl, fun h0_ => absurd ((hoff 4 (by kernel_rfl)).symm.trans h0_) (by decide), fun h0_ => absurd ((hoff 5 (by kernel_rfl)).symm.trans h0_) (by decide), Q_X6_, Q_X7_⟩
    refine steps_cons ?_ ?_
    · rintro b a w' ⟨A27, c27, Aq, cq, Ar, cr, g7, g8, m1_, m2_, m3_, m4_, m5_, m6_, m7_, ha, Q_HB, Q_FY, Q_FQ, Q_FR, Q_G6, Q_L6, Q_Z6, Q_N8, Q_G7, Q_L7, Q_Z7, Q_N9, Q_D6_7, Q_X1_, Q_X2_, Q_X3_, Q_X4_, Q_X5_, Q_X6_, Q_X7_⟩ hb_ hon hoff
      refine ⟨_, rfl, fun K hK => ?_⟩
      have e25 : a.tmps[25]? = some (m3_) := by rw [ha]; exact putSel_on (e := (3, 25, m3_)) 3 rfl rfl (hon 3 (by kernel_rfl)) rfl
      rw [Q_X3_ (hon 3 (by kernel_rfl))] at e25
      replace ha := Aside0.mk ha
      have HB := Aside0.mk Q_HB
      have FY := Aside0.mk (Q_FY (hon 1 (by kernel_rfl)))
      have FQ := Aside0.mk (Q_FQ (hon 2 (by kernel_rfl)))
      have FR := Aside0.mk (Q_FR (hon 2 (by kernel_rfl)))
      have D6_7 := Aside0.mk Q_D6_7
      refine value_ (w1 := w') (v := .agg #[.bool (decide (x / y < 0)), .slice Aq (limbs (x / y).natAbs).length cq]) (by rfl) rfl ?_ ?_
      · go_simp
        (try simp only [i64_w])
        try rfl
      refine hK.out _ _ ⟨A27, c27, Aq, cq, Ar, cr, g7, g8, m1_, m2_, m3_, (.agg #[.bool (decide (x / y < 0)), .slice Aq (limbs (x / y).natAbs).length cq]), m5_, m6_, m7_, (by rw [ha.out]; exact putSel_upk 4 hb_ rfl rfl rfl), Q_HB, Q_FY, Q_FQ, Q_FR, Q_G6, Q_L6, Q_Z6, fun _ h1_ => absurd ((hoff 8 (by kernel_rfl)).symm.trans h1_) (by decide), Q_G7, Q_L7, Q_Z7, fun _ h1_ => absurd ((hoff 9 (by kernel_rfl)).symm.trans h1_) (by decide), Q_D6_7, Q_X1_, Q_X2_, Q_X3_, fun _ => rfl, Q_X5_, Q_X6_, Q_X7_⟩
    refine steps_cons ?_ ?_
    · rintro b a w' ⟨A27, c27, Aq, cq, Ar, cr, g7, g8, m1_, m2_, m3_, m4_, m5_, m6_, m7_, ha, Q_HB, Q_FY, Q_FQ, Q_FR, Q_G6, Q_L6, Q_Z6, Q_N8, Q_G7, Q_L7, Q_Z7, Q_N9, Q_D6_7, Q_X1_, Q_X2_, Q_X3_, Q_X4_, Q_X5_, Q_X6_, Q_X7_⟩ hb_ hon hoff
      refine ⟨_, rfl, fun K hK => ?_⟩
      have e25 : a.tmps[25]? = some (m3_) := by rw [ha]; exact putSel_on (e := (3, 25, m3_)) 3 rfl rfl (hon 3 (by kernel_rfl)) rfl
      rw [Q_X3_ (hon 3 (by kernel_rfl))] at e25
      replace ha := Aside0.mk ha
      have HB := Aside0.mk Q_HB
      have FY := Aside0.mk (Q_FY (hon 1 (by kernel_rfl)))
      have FQ := Aside0.mk (Q_FQ (hon 2 (by kernel_rfl)))
      have FR := Aside0.mk (Q_FR (hon 2 (by kernel_rfl)))
      have D6_7 := Aside0.mk Q_D6_7
      refine value_ (w1 := w') (v := .agg #[.bool (decide (x % y < 0)), .slice Ar (limbs (x % y).natAbs).length cr]) (by rfl) rfl ?_ ?_
      · go_simp
        (try simp only [i64_w])
        try rfl
      refine hK.out _ _ ⟨A27, c27, Aq, cq, Ar, cr, g7, g8, m1_, m2_, m3_, m4_, (.agg #[.bool (decide (x % y < 0)), .slice Ar (limbs (x % y).natAbs).length cr]), m6_, m7_, (by rw [ha.out]; exact putSel_upk 5 hb_ rfl rfl rfl), Q_HB, Q_FY, Q_FQ, Q_FR, Q_G6, Q_L6, Q_Z6, Q_N8, Q_G7, Q_L7, Q_Z7, fun _ h1_ => absurd ((hoff 9 (by kernel_rfl)).symm.trans h1_) (by decide), Q_D6_7, Q_X1_, Q_X2_, Q_X3_, Q_X4_, fun _ => rfl, Q_X6_, Q_X7_⟩
    refine steps_cons ?_ ?_
    · rintro b a w' ⟨A27, c27, Aq, cq, Ar, cr, g7, g8, m1_, m2_, m3_, m4_, m5_, m6_, m7_, ha, Q_HB, Q_FY, Q_FQ, Q_FR, Q_G6, Q_L6, Q_Z6, Q_N8, Q_G7, Q_L7, Q_Z7, Q_N9, Q_D6_7, Q_X1_, Q_X2_, Q_X3_, Q_X4_, Q_X5_, Q_X6_, Q_X7_⟩ hb_ hon hoff
      refine ⟨_, rfl, fun K hK => ?_⟩
      replace ha := Aside0.mk ha
      have HB := Aside0.mk Q_HB
      have D6_7 := Aside0.mk Q_D6_7
      have hb := (Below.refl w'.heap.size w').alloc (Nat.le_refl _) (.cells #[.bool false, .slice none 0 0] 71 (0, 0))
      refine value_ (w1 := w'.alloc (.cells #[.bool false, .slice none 0 0] 71 (0, 0))) (v := .pointer (some ⟨w'.heap.size, 0, none⟩)) (by rfl) rfl ?_ ?_
      · go_simp
        try rfl
      refine hK.out _ _ ⟨A27, c27, Aq, cq, Ar, cr, w'.heap.size, g8, m1_, m2_, m3_, m4_, m5_, (.pointer (some ⟨w'.heap.size, 0, none⟩)), m7_, (by rw [ha.out]; exact putSel_upk 6 hb_ rfl rfl rfl), hop HB.out hb, fun h1 => (Q_FY h1).below hb, fun h2 => (Q_FQ h2).below hb, fun h2 => (Q_FR h2).below hb, fun _ => HB.out.size, fun _ => (by simp), fun _ _ => heap_alloc_new w' _, fun _ h1_ => absurd ((hoff 8 (by kernel_rfl)).symm.trans h1_) (by decide), Q_G7, fun h7 => Nat.lt_of_lt_of_le (Q_L7 h7) hb.size, fun h7 h9 => (hb.block _ (blk_lt (Q_Z7 h7 h9))).trans (Q_Z7 h7 h9), fun _ h1_ => absurd ((hoff 9 (by kernel_rfl)).symm.trans h1_) (by decide), fun h1 h2 => (fun e => by have := Q_L7 h2; omega), Q_X1_, Q_X2_, Q_X3_, Q_X4_, Q_X5_, fun _ => rfl, Q_X7_⟩
    refine steps_cons ?_ ?_
    · rintro b a w' ⟨A27, c27, Aq, cq, Ar, cr, g7, g8, m1_, m2_, m3_, m4_, m5_, m6_, m7_, ha, Q_HB, Q_FY, Q_FQ, Q_FR, Q_G6, Q_L6, Q_Z6, Q_N8, Q_G7, Q_L7, Q_Z7, Q_N9, Q_D6_7, Q_X1_, Q_X2_, Q_X3_, Q_X4_, Q_X5_, Q_X6_, Q_X7_⟩ hb_ hon hoff
      refine ⟨_, rfl, fun K hK => ?_⟩
      replace ha := Aside0.mk ha
      have HB := Aside0.mk Q_HB
      have D6_7 := Aside0.mk Q_D6_7
      have hb := (Below.refl w'.heap.size w').alloc (Nat.le_refl _) (.cells #[.bool false, .slice none 0 0] 71 (0, 0))
      refine value_ (w1 := w'.alloc (.cells #[.bool false, .slice none 0 0] 71 (0, 0))) (v := .pointer (some ⟨w'.heap.size, 0, none⟩)) (by rfl) rfl ?_ ?_
      · go_simp
        try rfl
      refine hK.out _ _ ⟨A27, c27, Aq, cq, Ar, cr, g7, w'.heap.size, m1_, m2_, m3_, m4_, m5_, m6_, (.pointer (some ⟨w'.heap.size, 0, none⟩)), (by rw [ha.out]; exact putSel_upk 7 hb_ rfl rfl rfl), hop HB.out hb, fun h1 => (Q_FY h1).below hb, fun h2 => (Q_FQ h2).below hb, fun h2 => (Q_FR h2).below hb, Q_G6, fun h6 => Nat.lt_of_lt_of_le (Q_L6 h6) hb.size, fun h6 h8 => (hb.block _ (blk_lt (Q_Z6 h6 h8))).trans (Q_Z6 h6 h8), fun _ h1_ => absurd ((hoff 8 (by kernel_rfl)).symm.trans h1_) (by decide), fun _ => HB.out.size, fun _ => (by simp), fun _ _ => heap_alloc_new w' _, fun _ h1_ => absurd ((hoff 9 (by kernel_rfl)).symm.trans h1_) (by decide), fun h1 h2 => (fun e => by have := Q_L6 h1; omega), Q_X1_, Q_X2_, Q_X3_, Q_X4_, Q_X5_, Q_X6_, fun _ => rfl⟩
    refine steps_cons ?_ ?_
    · rintro b a w' ⟨A27, c27, Aq, cq, Ar, cr, g7, g8, m1_, m2_, m3_, m4_, m5_, m6_, m7_, ha, Q_HB, Q_FY, Q_FQ, Q_FR, Q_G6, Q_L6, Q_Z6, Q_N8, Q_G7, Q_L7, Q_Z7, Q_N9, Q_D6_7, Q_X1_, Q_X2_, Q_X3_, Q_X4_, Q_X5_, Q_X6_, Q_X7_⟩ hb_ hon hoff
      refine ⟨_, rfl, fun K hK => ?_⟩
      have e7 : a.tmps[7]? = some (m6_) := by rw [ha]; exact putSel_on (e := (6, 7, m6_)) 6 rfl rfl (hon 6 (by kernel_rfl)) rfl
      rw [Q_X6_ (hon 6 (by kernel_rfl))] at e7
      have e29 : a.tmps[29]? = some (m4_) := by rw [ha]; exact putSel_on (e := (4, 29, m4_)) 4 rfl rfl (hon 4 (by kernel_rfl)) rfl
      rw [Q_X4_ (hon 4 (by kernel_rfl))] at e29
      replace ha := Aside0.mk ha
      have HB := Aside0.mk Q_HB
      have FY := Aside0.mk (Q_FY (hon 1 (by kernel_rfl)))
      have FQ := Aside0.mk (Q_FQ (hon 2 (by kernel_rfl)))
      have FR := Aside0.mk (Q_FR (hon 2 (by kernel_rfl)))
      have G6 := Aside0.mk (Q_G6 (hon 6 (by kernel_rfl)))
      have L6 := Aside0.mk (Q_L6 (hon 6 (by kernel_rfl)))
      have Z6 := Aside0.mk (Q_Z6 (hon 6 (by kernel_rfl)) hb_)
      have G7 := Aside0.mk (Q_G7 (hon 7 (by kernel_rfl)))
      have L7 := Aside0.mk (Q_L7 (hon 7 (by kernel_rfl)))
      have Z7 := Aside0.mk (Q_Z7 (hon 7 (by kernel_rfl)) (hoff 9 (by kernel_rfl)))
      have D6_7 := Aside0.mk Q_D6_7
      have hk : Keep w' ((w'.setCell ⟨g7, 0, none⟩ (.bool (decide (x / y < 0)))).setCell ⟨g7, 1, none⟩ (.slice Aq (limbs (x / y).natAbs).length cq)) (fun k => k = g7) := (((Keep.refl w' (fun k => k = g7)).set ⟨g7, 0, none⟩ (.bool (decide (x / y < 0))) (.inl rfl)).set ⟨g7, 1, none⟩ (.slice Aq (limbs (x / y).natAbs).length cq) (.inl rfl))
      have y0 := blk_cell Z6.out 0
      have y1 := blk_cell Z6.out 1
      have z0 := blk_frozen Z6.out 0
      have z1 := blk_frozen Z6.out 1
      refine skip_ (w1 := ((w'.setCell ⟨g7, 0, none⟩ (.bool (decide (x / y < 0)))).setCell ⟨g7, 1, none⟩ (.slice Aq (limbs (x / y).natAbs).length cq))) (by rfl) rfl ?_ ?_
      · go_simp
        try rfl
      refine hK.out _ _ ⟨A27, c27, Aq, cq, Ar, cr, g7, g8, m1_, m2_, m3_, m4_, m5_, m6_, m7_, (by rw [ha.out]; exact putSel_none (v := undef) rfl), HB.out.trans (hk.below HB.out.size (fun k e => by have e2 : k = g7 := e; rw [e2]; exact G6.out)), fun h1 => (Q_FY h1).num Z6.out num_cells hk, fun h2 => (Q_FQ h2).num Z6.out num_cells hk, fun h2 => (Q_FR h2).num Z6.out num_cells hk, Q_G6, fun h6 => Nat.lt_of_lt_of_le (Q_L6 h6) hk.size, fun _ h1_ => absurd ((up_self b 8).symm.trans h1_) (by decide), fun _ _ => (blk_put (blk_put Z6.out 0 (.bool (decide (x / y < 0))) rfl) 1 (.slice Aq (limbs (x / y).natAbs).length cq) rfl), Q_G7, fun h7 => Nat.lt_of_lt_of_le (Q_L7 h7) hk.size, fun h7 h9 => (hk.block _ (blk_lt (Q_Z7 h7 h9)) (fun e => Q_D6_7 (hon 6 (by kernel_rfl)) h7 e.symm)).trans (Q_Z7 h7 h9), fun _ h1_ => absurd ((hoff 9 (by kernel_rfl)).symm.trans h1_) (by decide), Q_D6_7, Q_X1_, Q_X2_, Q_X3_, Q_X4_, Q_X5_, Q_X6_, Q_X7_⟩
    refine steps_cons ?_ ?_
    · rintro b a w' ⟨A27, c27, Aq, cq, Ar, cr, g7, g8, m1_, m2_, m3_, m4_, m5_, m6_, m7_, ha, Q_HB, Q_FY, Q_FQ, Q_FR, Q_G6, Q_L6, Q_Z6, Q_N8, Q_G7, Q_L7, Q_Z7, Q_N9, Q_D6_7, Q_X1_, Q_X2_, Q_X3_, Q_X4_, Q_X5_, Q_X6_, Q_X7_⟩ hb_ hon hoff
      refine ⟨_, rfl, fun K hK => ?_⟩
      have e8 : a.tmps[8]? = some (m7_) := by rw [ha]; exact putSel_on (e := (7, 8, m7_)) 7 rfl rfl (hon 7 (by kernel_rfl)) rfl
      rw [Q_X7_ (hon 7 (by kernel_rfl))] at e8
      have e30 : a.tmps[30]? = some (m5_) := by rw [ha]; exact putSel_on (e := (5, 30, m5_)) 5 rfl rfl (hon 5 (by kernel_rfl)) rfl
      rw [Q_X5_ (hon 5 (by kernel_rfl))] at e30
      replace ha := Aside0.mk ha
      have HB := Aside0.mk Q_HB
      have FY := Aside0.mk (Q_FY (hon 1 (by kernel_rfl)))
      have FQ := Aside0.mk (Q_FQ (hon 2 (by kernel_rfl)))
      have FR := Aside0.mk (Q_FR (hon 2 (by kernel_rfl)))
      have G6 := Aside0.mk (Q_G6 (hon 6 (by kernel_rfl)))
      have L6 := Aside0.mk (Q_L6 (hon 6 (by kernel_rfl)))
      have N8 := Aside0.mk (Q_N8 (hon 6 (by kernel_rfl)) (hon 8 (by kernel_rfl)))
      have G7 := Aside0.mk (Q_G7 (hon 7 (by kernel_rfl)))
      have L7 := Aside0.mk (Q_L7 (hon 7 (by kernel_rfl)))
      have Z7 := Aside0.mk (Q_Z7 (hon 7 (by kernel_rfl)) hb_)
      have D6_7 := Aside0.mk Q_D6_7
      have hk : Keep w' ((w'.setCell ⟨g8, 0, none⟩ (.bool (decide (x % y < 0)))).setCell ⟨g8, 1, none⟩ (.slice Ar (limbs (x % y).natAbs).length cr)) (fun k => k = g8) := (((Keep.refl w' (fun k => k = g8)).set ⟨g8, 0, none⟩ (.bool (decide (x % y < 0))) (.inl rfl)).set ⟨g8, 1, none⟩ (.slice Ar (limbs (x % y).natAbs).length cr) (.inl rfl))
      have y0 := blk_cell Z7.out 0
      have y1 := blk_cell Z7.out 1
      have z0 := blk_frozen Z7.out 0
      have z1 := blk_frozen Z7.out 1
      refine skip_ (w1 := ((w'.setCell ⟨g8, 0, none⟩ (.bool (decide (x % y < 0)))).setCell ⟨g8, 1, none⟩ (.slice Ar (limbs (x % y).natAbs).length cr))) (by rfl) rfl ?_ ?_
      · go_simp
        try rfl
      refine hK.out _ _ ⟨A27, c27, Aq, cq, Ar, cr, g7, g8, m1_, m2_, m3_, m4_, m5_, m6_, m7_, (by rw [ha.out]; exact putSel_none (v := undef) rfl), HB.out.trans (hk.below HB.out.size (fun k e => by have e2 : k = g8 := e; rw [e2]; exact G7.out)), fun h1 => (Q_FY h1).num Z7.out num_cells hk, fun h2 => (Q_FQ h2).num Z7.out num_cells hk, fun h2 => (Q_FR h2).num Z7.out num_cells hk, Q_G6, fun h6 => Nat.lt_of_lt_of_le (Q_L6 h6) hk.size, fun _ h1_ => absurd ((hon 8 (by kernel_rfl)).symm.trans h1_) (by decide), fun h6 h8 => (hk.block _ (blk_lt (Q_N8 h6 h8)) (fun e => Q_D6_7 h6 (hon 7 (by kernel_rfl)) e)).trans (Q_N8 h6 h8), Q_G7, fun h7 => Nat.lt_of_lt_of_le (Q_L7 h7) hk.size, fun _ h1_ => absurd ((up_self b 9).symm.trans h1_) (by decide), fun _ _ => (blk_put (blk_put Z7.out 0 (.bool (decide (x % y < 0))) rfl) 1 (.slice Ar (limbs (x % y).natAbs).length cr) rfl), Q_D6_7, Q_X1_, Q_X2_, Q_X3_, Q_X4_, Q_X5_, Q_X6_, Q_X7_⟩
    exact steps_nil
  · rintro b a w' hall ⟨A27, c27, Aq, cq, Ar, cr, g7, g8, m1_, m2_, m3_, m4_, m5_, m6_, m7_, ha, Q_HB, Q_FY, Q_FQ, Q_FR, Q_G6, Q_L6, Q_Z6, Q_N8, Q_G7, Q_L7, Q_Z7, Q_N9, Q_D6_7, Q_X1_, Q_X2_, Q_X3_, Q_X4_, Q_X5_, Q_X6_, Q_X7_⟩
    clear D6_7 HB
    have hb0_ := hall 0 (by kernel_rfl)
    have hb1_ := hall 1 (by kernel_rfl)
    have hb2_ := hall 2 (by kernel_rfl)
    have hb3_ := hall 3 (by kernel_rfl)
    have hb4_ := hall 4 (by kernel_rfl)
    have hb5_ := hall 5 (by kernel_rfl)
    have hb6_ := hall 6 (by kernel_rfl)
    have hb7_ := hall 7 (by kernel_rfl)
    have hb8_ := hall 8 (by kernel_rfl)
    have hb9_ := hall 9 (by kernel_rfl)
    subst ha
    obtain rfl := Q_X1_ hb1_
    obtain rfl := Q_X2_ hb2_
    obtain rfl := Q_X3_ hb3_
    obtain rfl := Q_X4_ hb4_
    obtain rfl := Q_X5_ hb5_
    obtain rfl := Q_X6_ hb6_
    obtain rfl := Q_X7_ hb7_
    simp only [putSel, hb0_, hb1_, hb2_, hb3_, hb4_, hb5_, hb6_, hb7_, hb8_, hb9_, if_true, Act.put, List.setIfInBounds_toArray, List.set_cons_zero, List.set_cons_succ]
    have HB := Aside0.mk Q_HB
    clear Q_HB
    have FY := Aside0.mk (Q_FY hb1_)
    clear Q_FY
    have FQ := Aside0.mk (Q_FQ hb2_)
    clear Q_FQ
    have FR := Aside0.mk (Q_FR hb2_)
    clear Q_FR
    have G6 := Aside0.mk (Q_G6 hb6_)
    clear Q_G6
    have L6 := Aside0.mk (Q_L6 hb6_)
    clear Q_L6
    clear Q_Z6
    have N8 := Aside0.mk (Q_N8 hb6_ hb8_)
    clear Q_N8
    have G7 := Aside0.mk (Q_G7 hb7_)
    clear Q_G7
    have L7 := Aside0.mk (Q_L7 hb7_)
    clear Q_L7
    clear Q_Z7
    have N9 := Aside0.mk (Q_N9 hb7_ hb9_)
    clear Q_N9
    have D6_7 := Aside0.mk Q_D6_7
    clear Q_D6_7
    clear hall hb0_ hb1_ hb2_ hb3_ hb4_ hb5_ hb6_ hb7_ hb8_ hb9_
    go_upto_region 7 with (fail)
    have k0 := blk_cell N8.out 0
    have k1 := blk_cell N8.out 1
    have ew : wrap64 (x / y) = x / y := by unfold wrap64; omega
    have EW := Aside0.mk ew
    have HLR := Aside0.mk (limbs_nil (x % y).natAbs)
    have HBW := Aside0.mk (hop NB.out HB.out)
    clear ew
    by_cases hz : x % y = 0
    · have d9 : decide ((0 : Int) < ((limbs (x % y).natAbs).length : Int)) = false := by rw [hz]; rfl
      go_wp2_with (first
        | (go_at_call 49; (with_reducible refine (HTO.out _ _ (NumV.of FQ.out)).mono ?_); rintro e w7 ⟨rfl, hb7⟩; have m9 := blk_alloc ((hb7.block _ (blk_lt N9.out)).trans N9.out) (.cells #[.int .i64 0, .int .u64 (x / y)] 25 (0, 0)); have j1 := blk_cell m9 1; have HB7 := Aside0.mk (hop HBW.out hb7); clear hb7 m9))
      go_ret2
      exact ⟨rfl, HB7.out.alloc HB7.out.size _⟩
    · have d9 : decide ((0 : Int) < ((limbs (x % y).natAbs).length : Int)) = true := decide_eq_true (by
        have h1 : (limbs (x % y).natAbs) ≠ [] := fun e => by have := HLR.out.1 e; omega
        have h2 := List.length_pos_iff.2 h1
        omega)
      have d9n : 0 < (limbs (x % y).natAbs).length := by have := of_decide_eq_true d9; omega
      have q1 := q0.2.2 hz
      go_wp2_with (first
        | (go_at_call 49; (with_reducible refine (HTO.out _ _ (NumV.of FQ.out)).mono ?_); rintro e w7 ⟨rfl, hb7⟩; have m9 := blk_alloc ((hb7.block _ (blk_lt N9.out)).trans N9.out) (.cells #[.int .i64 0, .int .u64 (x / y)] 25 (0, 0)); have j1 := blk_cell m9 1; have HB7 := Aside0.mk (hop HBW.out hb7); clear hb7 m9))
      go_ret2
      exact ⟨rfl, HB7.out.alloc HB7.out.size _⟩
set_option maxHeartbeats 1600000 in
theorem ref_Rank {n p : Int} (w : World) (hn : -9223372036854775808 ≤ n ∧ n ≤ 9223372036854775807) :
    Calls Try.prog 22 #[.int .i64 n, .int .i64 p] w fun e w' => e = .returned (.tuple (if p < 1 ∨ 100000000 < p then #[.int .i64 0, .int .i64 91] else if n < 1 then #[.int .i64 0, .int .i64 90] else #[.int .i64 (rankP n p), .int .i64 0])) ∧ Below w.heap.size w w' := by
  by_cases h1 : p < 1
  · have d1 : decide (p < 1) = true := decide_eq_true h1
    rw [if_pos (.inl h1)]
    go_enter Try.func22, Try.ntmps22
    go_wp2
    go_ret2
    exact ⟨rfl, Below.refl _ _⟩
  have d1 : decide (p < 1) = false := decide_eq_false h1
  by_cases h2 : 100000000 < p
  · have d2 : decide (100000000 < p) = true := decide_eq_true h2
    rw [if_pos (.inr h2)]
    go_enter Try.func22, Try.ntmps22
    go_wp2
    go_ret2
    exact ⟨rfl, Below.refl _ _⟩
  have d2 : decide (100000000 < p) = false := decide_eq_false h2
  rw [if_neg (by omega)]
  by_cases h3 : n < 1
  · have d3 : decide (n < 1) = true := decide_eq_true h3
    rw [if_pos h3]
    go_enter Try.func22, Try.ntmps22
    go_wp2
    go_ret2
    exact ⟨rfl, Below.refl _ _⟩
  rw [if_neg h3]
  refine (Rank_walk w (by omega) (by omega) rfl rfl).mono ?_
  rintro e w' ⟨rfl, hb⟩
  refine ⟨?_, hb⟩
  have e1 : p * n / 100000000 + (if p * n % 100000000 = 0 then 0 else 1) = rankP n p := by
    unfold rankP
    rw [Int.mul_comm p n]
    split <;> omega
  rw [e1]
end Go.Proofs.Ythnihjfdmkfkiaa.Q
