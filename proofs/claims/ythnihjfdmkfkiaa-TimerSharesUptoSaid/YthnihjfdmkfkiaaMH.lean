/- Texts of this claim, laid in one: contracts of functions that the claim reaches, and the plain laws that they want; under no condition beyond those that each theorem states. -/
import Derived.Test.YthnihjfdmkfkiaaMA
import Derived.Test.YthnihjfdmkfkiaaME
import Derived.Test.YthnihjfdmkfkiaaWInvWords
import Derived.Test.YthnihjfdmkfkiaaMF
import Derived.Test.YthnihjfdmkfkiaaMD
namespace Go.Proofs.Ythnihjfdmkfkiaa.Q
open Go.RowKit Go.Proofs.YthnihjfdmkfkiaaW.PrintWords Go.Proofs.YthnihjfdmkfkiaaW.PrintLast Go.Proofs.YthnihjfdmkfkiaaW.PrintMore Go.Proofs.YthnihjfdmkfkiaaV
set_option linter.unusedVariables false
set_option linter.unusedSimpArgs false

/-- The nearest rank. -/
def rankP (n p : Int) : Int := (n * p + 99999999) / 100000000
theorem rank_parts {n p : Int} : rankP n p = n / 100000000 * p + (n % 100000000 * p + 99999999) / 100000000 := by
  unfold rankP
  have e : n * p + 99999999 = (n % 100000000 * p + 99999999) + n / 100000000 * p * 100000000 := by
    have h : n = n / 100000000 * 100000000 + n % 100000000 := by omega
    have : n * p = n / 100000000 * p * 100000000 + n % 100000000 * p := by
      conv => lhs; rw [h]
      rw [Int.add_mul, Int.mul_assoc, Int.mul_comm 100000000 p, ← Int.mul_assoc]
    omega
  rw [e, Int.add_mul_ediv_right _ _ (by omega)]
  omega
set_option maxHeartbeats 1600000 in
theorem timer_rank {n p : Int} (w : World) (hn : 1 ≤ n ∧ n ≤ 9223372036854775807) (hp : 1 ≤ p ∧ p ≤ 100000000) :
    Calls Try.prog 48 #[.int .i64 n, .int .i64 p] w fun e w' => e = .returned (.int .i64 (rankP n p)) ∧ w' = w := by
  obtain ⟨a, ha⟩ : ∃ a, a = n / 100000000 := ⟨_, rfl⟩
  obtain ⟨b, hb⟩ : ∃ b, b = n % 100000000 := ⟨_, rfl⟩
  have e1 : Int.tdiv n 100000000 = a := by rw [Int.tdiv_eq_ediv_of_nonneg (by omega)]; exact ha.symm
  have e2 : Int.tmod n 100000000 = b := by rw [Int.tmod_eq_emod_of_nonneg (by omega)]; exact hb.symm
  have hR := rank_parts (n := n) (p := p)
  rw [← ha, ← hb] at hR
  have h1 : 0 ≤ a * p ∧ a * p ≤ a * 100000000 := ⟨Int.mul_nonneg (by omega) (by omega), Int.mul_le_mul_of_nonneg_left hp.2 (by omega)⟩
  have h2 : 0 ≤ b * p ∧ b * p ≤ b * 100000000 := ⟨Int.mul_nonneg (by omega) (by omega), Int.mul_le_mul_of_nonneg_left hp.2 (by omega)⟩
  have hs1 : 0 ≤ a ∧ a * 100000000 ≤ 9223372036854775807 := by omega
  have hs2 : 0 ≤ b ∧ b * 100000000 ≤ 10000000000000000 := by omega
  have hle : a * p + (b * p + 99999999) / 100000000 ≤ n := by
    omega
  have HR := Aside0.mk hR
  clear hR
  go_enter Try.func48, Try.ntmps48
  go_wp2
  rw [← ha, ← hb]
  have hq := HR.out
  generalize a * p = P at *
  generalize b * p = Q at *
  have w1 : wrap64 P = P := by unfold wrap64; omega
  have w2 : wrap64 Q = Q := by unfold wrap64; omega
  have w3 : wrap64 (Q + 100000000) = Q + 100000000 := by unfold wrap64; omega
  have w4 : wrap64 (Q + 100000000 - 1) = Q + 99999999 := by unfold wrap64; omega
  have w5 : Int.tdiv (Q + 99999999) 100000000 = (Q + 99999999) / 100000000 := Int.tdiv_eq_ediv_of_nonneg (by omega)
  have w6 : wrap64 ((Q + 99999999) / 100000000) = (Q + 99999999) / 100000000 := by unfold wrap64; omega
  have w7 : wrap64 (P + (Q + 99999999) / 100000000) = P + (Q + 99999999) / 100000000 := by unfold wrap64; omega
  rw [w1, w2, w3, w4, w5, w6, w7, ← hq]
  go_ret
  exact ⟨rfl, rfl⟩
set_option maxHeartbeats 1600000 in
theorem timer_Rank {n p : Int} (w : World) (hn : -9223372036854775808 ≤ n ∧ n ≤ 9223372036854775807) :
    Calls Try.prog 21 #[.int .i64 n, .int .i64 p] w fun e w' => e = .returned (.tuple (if p < 1 ∨ 100000000 < p then #[.int .i64 0, .int .i64 91] else if n < 1 then #[.int .i64 0, .int .i64 90] else #[.int .i64 (rankP n p), .int .i64 0])) ∧ w' = w := by
  by_cases h1 : p < 1
  · have d1 : decide (p < 1) = true := decide_eq_true h1
    rw [if_pos (.inl h1)]
    go_enter Try.func21, Try.ntmps21
    go_wp2
    go_ret2
    exact ⟨rfl, rfl⟩
  have d1 : decide (p < 1) = false := decide_eq_false h1
  by_cases h2 : 100000000 < p
  · have d2 : decide (100000000 < p) = true := decide_eq_true h2
    rw [if_pos (.inr h2)]
    go_enter Try.func21, Try.ntmps21
    go_wp2
    go_ret2
    exact ⟨rfl, rfl⟩
  have d2 : decide (100000000 < p) = false := decide_eq_false h2
  rw [if_neg (by omega)]
  by_cases h3 : n < 1
  · have d3 : decide (n < 1) = true := decide_eq_true h3
    rw [if_pos h3]
    go_enter Try.func21, Try.ntmps21
    go_wp2
    go_ret2
    exact ⟨rfl, rfl⟩
  have d3 : decide (n < 1) = false := decide_eq_false h3
  rw [if_neg h3]
  have HR := Aside0.mk (timer_rank (n := n) (p := p) w (by omega) (by omega))
  go_enter Try.func21, Try.ntmps21
  go_wp2_with (first
    | (go_at_call 48; (with_reducible refine (HR.out).mono ?_); rintro e w5 ⟨rfl, rfl⟩))
  go_ret2
  exact ⟨rfl, rfl⟩
end Go.Proofs.Ythnihjfdmkfkiaa.Q

namespace Go.Proofs.Ythnihjfdmkfkiaa.Q
open Go.RowKit Go.Proofs.YthnihjfdmkfkiaaW.PrintWords Go.Proofs.YthnihjfdmkfkiaaW.PrintLast Go.Proofs.YthnihjfdmkfkiaaW.PrintMore Go.Proofs.YthnihjfdmkfkiaaV
set_option linter.unusedVariables false
set_option linter.unusedSimpArgs false

def rnk6.T : Bool × List (List Nat × List Nat) := (true, [([], []), ([], []), ([0, 1, 1], [0, 1]), ([2], [2]), ([3], [3]), ([3], [3]), ([], []), ([], []), ([6, 4, 2, 0, 1, 2, 3, 4, 6, 7], [4, 6]), ([7, 5, 8, 0, 1, 2, 3, 4, 5, 6, 7, 8], [5, 7])])
def rnk6.B : List Nat := [0, 0, 3, 7, 15, 15, 0, 0, 223, 511]
theorem rnk6.tab : rtab .any (opsOf Try.f22 6) = rnk6.T := by kernel_rfl
theorem rnk6.bits : waitsOk rnk6.T.2 rnk6.B = true := by kernel_rfl
theorem few16 {x : Int} (h : inW x) : (limbs x.natAbs).length ≤ 16 := limbs_len 16 _ (by
  unfold inW at h
  have e : (340282366920938463463374607431768211456 : Nat) ≤ 65536 ^ 16 := by decide
  omega)
set_option maxHeartbeats 3200000 in
set_option maxRecDepth 4000 in
theorem Rank_walk {n p x y : Int} (w : World) (hn : 1 ≤ n ∧ n ≤ 9223372036854775807) (hp : 1 ≤ p ∧ p ≤ 100000000) (hx : x = p * n) (hy : y = 100000000) :
    Calls Try.prog 22 #[.int .i64 n, .int .i64 p] w fun e w' => e = .returned (.tuple #[.int .i64 (x / y + (if x % y = 0 then 0 else 1)), .int .i64 0]) ∧ Below w.heap.size w w' := by
  have hx0 : 1 ≤ x ∧ x ≤ n * 100000000 := by
    have h1 := Int.mul_le_mul (a := 1) (b := 1) (c := p) (d := n) hp.1 hn.1 (by omega) (by omega)
    have h2 := Int.mul_le_mul_of_nonneg_right (c := n) hp.2 (by omega)
    subst hx
    omega
  have q0 : 0 ≤ x / y ∧ x / y ≤ n ∧ (x % y ≠ 0 → x / y + 1 ≤ n) := by subst hy; omega
  have m0 : 0 ≤ x % y ∧ x % y ≤ 99999999 := by subst hy; omega
  have wq : inW (x / y) := by unfold inW; omega
  have wm : inW (x % y) := by unfold inW; omega
  have d1 : decide (p < 1) = false := decide_eq_false (by omega)
  have d2 : decide (100000000 < p) = false := decide_eq_false (by omega)
  have d3 : decide (n < 1) = false := decide_eq_false (by omega)
  have HIP := Aside0.mk (fun W => ref_Int (z := p) W (by unfold in64; omega))
  have HIN := Aside0.mk (fun W => ref_Int (z := n) W (by unfold in64; omega))
  have HIY := Aside0.mk (fun W => (show Calls Try.prog 38 #[.int .i64 100000000] W (fun e w' => ∃ v, e = .returned v ∧ NumV w' v y ∧ Below W.heap.size W w') by rw [hy]; exact ref_Int (z := 100000000) W (by unfold in64; omega)))
  have HMU := Aside0.mk (fun (W : World) (u v : Value) (h1 : NumV W u p) (h2 : NumV W v n) => (show Calls Try.prog 40 #[u, v] W (fun e w' => ∃ v, e = .returned v ∧ NumV w' v x ∧ Below W.heap.size W w') by rw [hx]; exact ref_MulN h1 h2 (few_W (by unfold inW; omega)) (few_W (by unfold inW; omega))))
  have HQU := Aside0.mk (fun (W : World) (u v : Value) (h1 : NumV W u x) (h2 : NumV W v y) => ref_QuoN h1 h2 (by omega) (by omega) (Nat.le_trans (few16 (by unfold inW; omega)) (by decide)) (Nat.le_trans (few16 (by unfold inW; omega)) (by decide)))
  have HTO := Aside0.mk (fun (W : World) (u : Value) (h : NumV W u (x / y)) => ref_To h (by omega))
  have el : loW (x / y) = x / y := by unfold loW; omega
  have eh : hiW (x / y) = 0 := by unfold hiW; omega
  unfold WV at HTO
  rw [el, eh] at HTO
  have HQ0 := Aside0.mk q0
  have HM0 := Aside0.mk m0
  obtain ⟨xq, hxq⟩ : ∃ q, q = x / y := ⟨_, rfl⟩
  obtain ⟨xr, hxr⟩ : ∃ q, q = x % y := ⟨_, rfl⟩
  clear hx hy el eh hx0
  go_enter Try.func22, Try.ntmps22
  go_upto_region 6 with (first
    | (go_at_call 38; (with_reducible refine (HIP.out _).mono ?_); rintro e w3 ⟨v, rfl, ⟨A3, c3, rfl, h3⟩, hb3⟩; have H3 := Aside0.mk h3; have HB3 := Aside0.mk hb3; clear h3 hb3)
    | (go_at_call 38; (with_reducible refine (HIN.out _).mono ?_); rintro e w4 ⟨v, rfl, ⟨A4, c4, rfl, h4⟩, hb4⟩; have H4 := Aside0.mk h4; have H3 := Aside0.mk (H3.out.below hb4); have HB4 := Aside0.mk (hop HB3.out hb4); clear h4 hb4)
    | (go_at_call 40; (with_reducible refine (HMU.out _ _ _ (NumV.of H3.out) (NumV.of H4.out)).mono ?_); rintro e w5 ⟨v, rfl, ⟨A6, c6, rfl, h5⟩, hb5⟩; have H5 := Aside0.mk h5; have HB5 := Aside0.mk (hop HB4.out hb5); clear h5 hb5))
  have m6 : (w5.alloc (.cells #[.bool (decide (x < 0)), .slice A6 (limbs x.natAbs).length c6] 71 (0, 0))).heap[w5.heap.size]? = some (.cells #[.bool (decide (x < 0)), .slice A6 (limbs x.natAbs).length c6] 71 (0, 0)) := heap_alloc_new _ _
  have hb6 : Below w.heap.size w (w5.alloc (.cells #[.bool (decide (x < 0)), .slice A6 (limbs x.natAbs).length c6] 71 (0, 0))) := HB5.out.alloc HB5.out.size _
  have l6 := H5.out.below (below_alloc (Below.refl w5.heap.size w5) (.cells #[.bool (decide (x < 0)), .slice A6 (limbs x.natAbs).length c6] 71 (0, 0)))
  obtain ⟨W, hW⟩ : ∃ W, W = w5.alloc (.cells #[.bool (decide (x < 0)), .slice A6 (limbs x.natAbs).length c6] 71 (0, 0)) := ⟨_, rfl⟩
  rw [← hW] at m6 hb6 l6 ⊢
  have N6 := Aside0.mk m6
  have L6 := Aside0.mk l6
  have NB := Aside0.mk hb6
  clear m6 hb6 l6 hW
  have HB := Aside0.mk (show Below W.heap.size W W.drew from (Below.refl _ _).drew)
  have D6_7 : True := trivial
  refine start_ (n := 10) (S := fun w' => True) (ds := []) #[false, false, false, false, false, false, false, false, false, false] (by kernel_rfl) rfl rfl trivial (fun hHeld => ?_)
  refine with_tabW rnk6.tab rnk6.bits (fun HT_ HW_ => ?_)
  refine inv_at [0, 1, 2, 3, 4, 5, 6, 7, 8, 9] (fun a0_ b a w' => ∃ (A27 : Option Addr) (c27 : Nat) (Aq : Option Addr) (cq : Nat) (Ar : Option Addr) (cr : Nat) (g7 : Nat) (g8 : Nat) (m1_ : Value) (m2_ : Value) (m3_ : Value) (m4_ : Value) (m5_ : Value) (m6_ : Value) (m7_ : Value), a = putSel a0_ b [(0, 26, .agg #[.bool (decide (x < 0)), .slice A6 (limbs x.natAbs).length c6]), (1, 27, m1_), (2, 28, m2_), (3, 25, m3_), (4, 29, m4_), (5, 30, m5_), (6, 7, m6_), (7, 8, m7_)] ∧ (Below W.heap.size W w') ∧ (b 1 = true → Lm w' A27 c27 (limbs y.natAbs)) ∧ (b 2 = true → Lm w' Aq cq (limbs (x / y).natAbs)) ∧ (b 2 = true → Lm w' Ar cr (limbs (x % y).natAbs)) ∧ (b 6 = true → W.heap.size ≤ g7) ∧ (b 6 = true → g7 < w'.heap.size) ∧ (b 6 = true → b 8 = false → w'.heap[g7]? = some (.cells #[.bool false, .slice none 0 0] 71 (0, 0))) ∧ (b 6 = true → b 8 = true → w'.heap[g7]? = some (.cells #[.bool (decide (x / y < 0)), .slice Aq (limbs (x / y).natAbs).length cq] 71 (0, 0))) ∧ (b 7 = true → W.heap.size ≤ g8) ∧ (b 7 = true → g8 < w'.heap.size) ∧ (b 7 = true → b 9 = false → w'.heap[g8]? = some (.cells #[.bool false, .slice none 0 0] 71 (0, 0))) ∧ (b 7 = true → b 9 = true → w'.heap[g8]? = some (.cells #[.bool (decide (x % y < 0)), .slice Ar (limbs (x % y).natAbs).length cr] 71 (0, 0))) ∧ ((b 6 = true → b 7 = true → g7 ≠ g8)) ∧ (b 1 = true → (m1_ : Value) = .agg #[.bool (decide (y < 0)), .slice A27 (limbs y.natAbs).length c27]) ∧ (b 2 = true → (m2_ : Value) = .tuple #[.agg #[.bool (decide (x / y < 0)), .slice Aq (limbs (x / y).natAbs).length cq], .agg #[.bool (decide (x % y < 0)), .slice Ar (limbs (x % y).natAbs).length cr]]) ∧ (b 3 = true → (m3_ : Value) = .tuple #[.agg #[.bool (decide (x / y < 0)), .slice Aq (limbs (x / y).natAbs).length cq], .agg #[.bool (decide (x % y < 0)), .slice Ar (limbs (x % y).natAbs).length cr]]) ∧ (b 4 = true → (m4_ : Value) = .agg #[.bool (decide (x / y < 0)), .slice Aq (limbs (x / y).natAbs).length cq]) ∧ (b 5 = true → (m5_ : Value) = .agg #[.bool (decide (x % y < 0)), .slice Ar (limbs (x % y).natAbs).length cr]) ∧ (b 6 = true → (m6_ : Value) = .pointer (some ⟨g7, 0, none⟩)) ∧ (b 7 = true → (m7_ : Value) = .pointer (some ⟨g8, 0, none⟩))) HT_.out HW_.out (by kernel_rfl) (by kernel_rfl) ?_ ?_ ?_
  · exact ⟨none, 0, none, 0, none, 0, 0, 0, .bool false, .bool false, .bool false, .bool false, .bool false, .bool false, .bool false, by simp only [putSel, Bool.false_eq_true, if_false], HB.out, fun h_ => absurd h_ (by decide), fun h_ => absurd h_ (by decide), fun h_ => absurd h_ (by decide), fun h_ => absurd h_ (by decide), fun h_ => absurd h_ (by decide), fun h_ => absurd h_ (by decide), fun h_ => absurd h_ (by decide), fun h_ => absurd h_ (by decide), fun h_ => absurd h_ (by decide), fun h_ => absurd h_ (by decide), fun h_ => absurd h_ (by decide), fun h_ => absurd h_ (by decide), fun h_ => absurd h_ (by decide), fun h_ => absurd h_ (by decide), fun h_ => absurd h_ (by decide), fun h_ => absurd h_ (by decide), fun h_ => absurd h_ (by decide), fun h_ => absurd h_ (by decide), fun h_ => absurd h_ (by decide)⟩
  · skip
    clear D6_7 HB
    refine steps_cons ?_ ?_
    · rintro b a w' ⟨A27, c27, Aq, cq, Ar, cr, g7, g8, m1_, m2_, m3_, m4_, m5_, m6_, m7_, ha, Q_HB, Q_FY, Q_FQ, Q_FR, Q_G6, Q_L6, Q_Z6, Q_N8, Q_G7, Q_L7, Q_Z7, Q_N9, Q_D6_7, Q_X1_, Q_X2_, Q_X3_, Q_X4_, Q_X5_, Q_X6_, Q_X7_⟩ hb_ hon hoff
      refine ⟨_, rfl, fun K hK => ?_⟩
      have e6 : a.tmps[6]? = some (.pointer (some ⟨w5.heap.size, 0, none⟩)) := by rw [ha]; exact (putSel_off rfl).trans rfl
      replace ha := Aside0.mk ha
      have HB := Aside0.mk Q_HB
      have D6_7 := Aside0.mk Q_D6_7
      have k0 := blk_cell ((HB.out.block _ (blk_lt N6.out)).trans N6.out) 0
      have k1 := blk_cell ((HB.out.block _ (blk_lt N6.out)).trans N6.out) 1
      refine value_ (w1 := w') (v := .agg #[.bool (decide (x < 0)), .slice A6 (limbs x.natAbs).length c6]) (by rfl) rfl ?_ ?_
      · go_simp
        (try simp only [i64_w])
        try rfl
      refine hK.out _ _ ⟨A27, c27, Aq, cq, Ar, cr, g7, g8, m1_, m2_, m3_, m4_, m5_, m6_, m7_, (by rw [ha.out]; exact putSel_upk 0 hb_ rfl rfl rfl), Q_HB, Q_FY, fun h0_ => absurd ((hoff 2 (by kernel_rfl)).symm.trans h0_) (by decide), fun h0_ => absurd ((hoff 2 (by kernel_rfl)).symm.trans h0_) (by decide), Q_G6, Q_L6, Q_Z6, fun _ h1_ => absurd ((hoff 8 (by kernel_rfl)).symm.trans h1_) (by decide), Q_G7, Q_L7, Q_Z7, fun _ h1_ => absurd ((hoff 9 (by kernel_rfl)).symm.trans h1_) (by decide), Q_D6_7, Q_X1_, fun h0_ => absurd ((hoff 2 (by kernel_rfl)).symm.trans h0_) (by decide), fun h0_ => absurd ((hoff 3 (by kernel_rfl)).symm.trans h0_) (by decide), fun h0_ => absurd ((hoff 4 (by kernel_rfl)).symm.trans h0_) (by decide), fun h0_ => absurd ((hoff 5 (by kernel_rfl)).symm.trans h0_) (by decide), Q_X6_, Q_X7_⟩
    refine steps_cons ?_ ?_
    · rintro b a w' ⟨A27, c27, Aq, cq, Ar, cr, g7, g8, m1_, m2_, m3_, m4_, m5_, m6_, m7_, ha, Q_HB, Q_FY, Q_FQ, Q_FR, Q_G6, Q_L6, Q_Z6, Q_N8, Q_G7, Q_L7, Q_Z7, Q_N9, Q_D6_7, Q_X1_, Q_X2_, Q_X3_, Q_X4_, Q_X5_, Q_X6_, Q_X7_⟩ hb_ hon hoff
      refine ⟨_, rfl, fun K hK => ?_⟩
      replace ha := Aside0.mk ha
      have HB := Aside0.mk Q_HB
      have D6_7 := Aside0.mk Q_D6_7
      refine goes_ Try.func38 (by kernel_rfl) rfl #[.int .i64 100000000] (by rfl) rfl rfl (by first | (simp only [List.map_toArray, List.map_cons, List.map_nil, Act.eval, Array.getD_eq_getD_getElem?, Option.getD_some]; done) | (simp only [List.map_toArray, List.map_cons, List.map_nil, Act.eval, Array.getD_eq_getD_getElem?, Option.getD_some]; rfl)) ?_
      with_reducible refine (HIY.out _).mono ?_
      rintro e w1 ⟨u1, rfl, ⟨A1, c1, rfl, h1⟩, hb⟩
      refine ⟨_, rfl, ?_⟩
      refine hK.out _ _ ⟨A1, c1, Aq, cq, Ar, cr, g7, g8, (.agg #[.bool (decide (y < 0)), .slice A1 (limbs y.natAbs).length c1]), m2_, m3_, m4_, m5_, m6_, m7_, (by rw [ha.out]; exact putSel_upk 1 hb_ rfl rfl rfl), hop HB.out hb, fun _ => h1, fun h0_ => absurd ((hoff 2 (by kernel_rfl)).symm.trans h0_) (by decide), fun h0_ => absurd ((hoff 2 (by kernel_rfl)).symm.trans h0_) (by decide), Q_G6, fun h6 => Nat.lt_of_lt_of_le (Q_L6 h6) hb.size, fun h6 h8 => (hb.block _ (blk_lt (Q_Z6 h6 h8))).trans (Q_Z6 h6 h8), fun _ h1_ => absurd ((hoff 8 (by kernel_rfl)).symm.trans h1_) (by decide), Q_G7, fun h7 => Nat.lt_of_lt_of_le (Q_L7 h7) hb.size, fun h7 h9 => (hb.block _ (blk_lt (Q_Z7 h7 h9))).trans (Q_Z7 h7 h9), fun _ h1_ => absurd ((hoff 9 (by kernel_rfl)).symm.trans h1_) (by decide), Q_D6_7, fun _ => rfl, fun h0_ => absurd ((hoff 2 (by kernel_rfl)).symm.trans h0_) (by decide), fun h0_ => absurd ((hoff 3 (by kernel_rfl)).symm.trans h0_) (by decide), fun h0_ => absurd ((hoff 4 (by kernel_rfl)).symm.trans h0_) (by decide), fun h0_ => absurd ((hoff 5 (by kernel_rfl)).symm.trans h0_) (by decide), Q_X6_, Q_X7_⟩
    refine steps_cons ?_ ?_
    · rintro b a w' ⟨A27, c27, Aq, cq, Ar, cr, g7, g8, m1_, m2_, m3_, m4_, m5_, m6_, m7_, ha, Q_HB, Q_FY, Q_FQ, Q_FR, Q_G6, Q_L6, Q_Z6, Q_N8, Q_G7, Q_L7, Q_Z7, Q_N9, Q_D6_7, Q_X1_, Q_X2_, Q_X3_, Q_X4_, Q_X5_, Q_X6_, Q_X7_⟩ hb_ hon hoff
      refine ⟨_, rfl, fun K hK => ?_⟩
      have e26 : a.tmps[26]? = some (.agg #[.bool (decide (x < 0)), .slice A6 (limbs x.natAbs).length c6]) := by rw [ha]; exact putSel_on (e := (0, 26, .agg #[.bool (decide (x < 0)), .slice A6 (limbs x.natAbs).length c6])) 0 rfl rfl (hon 0 (by kernel_rfl)) rfl
      have e27 : a.tmps[27]? = some (m1_) := by rw [ha]; exact putSel_on (e := (1, 27, m1_)) 1 rfl rfl (hon 1 (by kernel_rfl)) rfl
      rw [Q_X1_ (hon 1 (by kernel_rfl))] at e27
      replace ha := Aside0.mk ha
      have HB := Aside0.mk Q_HB
      have FY := Aside0.mk (Q_FY (hon 1 (by kernel_rfl)))
      have D6_7 := Aside0.mk Q_D6_7
      refine goes_ Try.func41 (by kernel_rfl) rfl #[.agg #[.bool (decide (x < 0)), .slice A6 (limbs x.natAbs).length c6], .agg #[.bool (decide (y < 0)), .slice A27 (limbs y.natAbs).length c27]] (by rfl) rfl rfl (by first | (simp only [List.map_toArray, List.map_cons, List.map_nil, Act.eval, Array.getD_eq_getD_getElem?, Option.getD_some, e26, e27]; done) | (simp only [List.map_toArray, List.map_cons, List.map_nil, Act.eval, Array.getD_eq_getD_getElem?, Option.getD_some, e26, e27]; rfl)) ?_
      with_reducible refine (HQU.out _ _ _ (NumV.of (L6.out.below HB.out)) (NumV.of FY.out)).mono ?_
      rintro e w1 ⟨u1, u2, rfl, ⟨A1, c1, rfl, h1⟩, ⟨A2, c2, rfl, h2⟩, hb⟩
      refine ⟨_, rfl, ?_⟩
      refine hK.out _ _ ⟨A27, c27, A1, c1, A2, c2, g7, g8, m1_, (.tuple #[.agg #[.bool (decide (x / y < 0)), .slice A1 (limbs (x / y).natAbs).length c1], .agg #[.bool (decide (x % y < 0)), .slice A2 (limbs (x % y).natAbs).length c2]]), m3_, m4_, m5_, m6_, m7_, (by rw [ha.out]; exact putSel_upk 2 hb_ rfl rfl rfl), hop HB.out hb, fun h1 => (Q_FY h1).below hb, fun _ => h1, fun _ => h2, Q_G6, fun h6 => Nat.lt_of_lt_of_le (Q_L6 h6) hb.size, fun h6 h8 => (hb.block _ (blk_lt (Q_Z6 h6 h8))).trans (Q_Z6 h6 h8), fun _ h1_ => absurd ((hoff 8 (by kernel_rfl)).symm.trans h1_) (by decide), Q_G7, fun h7 => Nat.lt_of_lt_of_le (Q_L7 h7) hb.size, fun h7 h9 => (hb.block _ (blk_lt (Q_Z7 h7 h9))).trans (Q_Z7 h7 h9), fun _ h1_ => absurd ((hoff 9 (by kernel_rfl)).symm.trans h1_) (by decide), Q_D6_7, Q_X1_, fun _ => rfl, fun h0_ => absurd ((hoff 3 (by kernel_rfl)).symm.trans h0_) (by decide), fun h0_ => absurd ((hoff 4 (by kernel_rfl)).symm.trans h0_) (by decide), fun h0_ => absurd ((hoff 5 (by kernel_rfl)).symm.trans h0_) (by decide), Q_X6_, Q_X7_⟩
    refine steps_cons ?_ ?_
    · rintro b a w' ⟨A27, c27, Aq, cq, Ar, cr, g7, g8, m1_, m2_, m3_, m4_, m5_, m6_, m7_, ha, Q_HB, Q_FY, Q_FQ, Q_FR, Q_G6, Q_L6, Q_Z6, Q_N8, Q_G7, Q_L7, Q_Z7, Q_N9, Q_D6_7, Q_X1_, Q_X2_, Q_X3_, Q_X4_, Q_X5_, Q_X6_, Q_X7_⟩ hb_ hon hoff
      refine ⟨_, rfl, fun K hK => ?_⟩
      have e28 : a.tmps[28]? = some (m2_) := by rw [ha]; exact putSel_on (e := (2, 28, m2_)) 2 rfl rfl (hon 2 (by kernel_rfl)) rfl
      rw [Q_X2_ (hon 2 (by kernel_rfl))] at e28
      replace ha := Aside0.mk ha
      have HB := Aside0.mk Q_HB
      have FY := Aside0.mk (Q_FY (hon 1 (by kernel_rfl)))
      have FQ := Aside0.mk (Q_FQ (hon 2 (by kernel_rfl)))
      have FR := Aside0.mk (Q_FR (hon 2 (by kernel_rfl)))
      have D6_7 := Aside0.mk Q_D6_7
      refine value_ (w1 := w') (v := .tuple #[.agg #[.bool (decide (x / y < 0)), .slice Aq (limbs (x / y).natAbs).length cq], .agg #[.bool (decide (x % y < 0)), .slice Ar (limbs (x % y).natAbs).length cr]]) (by rfl) rfl ?_ ?_
      · go_simp
        (try simp only [i64_w])
        try rfl
      refine hK.out _ _ ⟨A27, c27, Aq, cq, Ar, cr, g7, g8, m1_, m2_, (.tuple #[.agg #[.bool (decide (x / y < 0)), .slice Aq (limbs (x / y).natAbs).length cq], .agg #[.bool (decide (x % y < 0)), .slice Ar (limbs (x % y).natAbs).length cr]]), m4_, m5_, m6_, m7_, (by rw [ha.out]; exact putSel_upk 3 hb_ rfl rfl rfl), Q_HB, Q_FY, Q_FQ, Q_FR, Q_G6, Q_L6, Q_Z6, fun _ h1_ => absurd ((hoff 8 (by kernel_rfl)).symm.trans h1_) (by decide), Q_G7, Q_L7, Q_Z7, fun _ h1_ => absurd ((hoff 9 (by kernel_rfl)).symm.trans h1_) (by decide), Q_D6_7, Q_X1_, Q_X2_, fun _ => rfl, fun h0_ => absurd ((hoff 4 (by kernel_rfl)).symm.trans h0_) (by decide), fun h0_ => absurd ((hoff 5 (by kernel_rfl)).symm.trans h0_) (by decide), Q_X6_, Q_X7_⟩
    refine steps_cons ?_ ?_
    · rintro b a w' ⟨A27, c27, Aq, cq, Ar, cr, g7, g8, m1_, m2_, m3_, m4_, m5_, m6_, m7_, ha, Q_HB, Q_FY, Q_FQ, Q_FR, Q_G6, Q_L6, Q_Z6, Q_N8, Q_G7, Q_L7, Q_Z7, Q_N9, Q_D6_7, Q_X1_, Q_X2_, Q_X3_, Q_X4_, Q_X5_, Q_X6_, Q_X7_⟩ hb_ hon hoff
      refine ⟨_, rfl, fun K hK => ?_⟩
      have e25 : a.tmps[25]? = some (m3_) := by rw [ha]; exact putSel_on (e := (3, 25, m3_)) 3 rfl rfl (hon 3 (by kernel_rfl)) rfl
      rw [Q_X3_ (hon 3 (by kernel_rfl))] at e25
      replace ha := Aside0.mk ha
      have HB := Aside0.mk Q_HB
      have FY := Aside0.mk (Q_FY (hon 1 (by kernel_rfl)))
      have FQ := Aside0.mk (Q_FQ (hon 2 (by kernel_rfl)))
      have FR := Aside0.mk (Q_FR (hon 2 (by kernel_rfl)))
      have D6_7 := Aside0.mk Q_D6_7
      refine value_ (w1 := w') (v := .agg #[.bool (decide (x / y < 0)), .slice Aq (limbs (x / y).natAbs).length cq]) (by rfl) rfl ?_ ?_
      · go_simp
        (try simp only [i64_w])
        try rfl
      refine hK.out _ _ ⟨A27, c27, Aq, cq, Ar, cr, g7, g8, m1_, m2_, m3_, (.agg #[.bool (decide (x / y < 0)), .slice Aq (limbs (x / y).natAbs).length cq]), m5_, m6_, m7_, (by rw [ha.out]; exact putSel_upk 4 hb_ rfl rfl rfl), Q_HB, Q_FY, Q_FQ, Q_FR, Q_G6, Q_L6, Q_Z6, fun _ h1_ => absurd ((hoff 8 (by kernel_rfl)).symm.trans h1_) (by decide), Q_G7, Q_L7, Q_Z7, fun _ h1_ => absurd ((hoff 9 (by kernel_rfl)).symm.trans h1_) (by decide), Q_D6_7, Q_X1_, Q_X2_, Q_X3_, fun _ => rfl, Q_X5_, Q_X6_, Q_X7_⟩
    refine steps_cons ?_ ?_
    · rintro b a w' ⟨A27, c27, Aq, cq, Ar, cr, g7, g8, m1_, m2_, m3_, m4_, m5_, m6_, m7_, ha, Q_HB, Q_FY, Q_FQ, Q_FR, Q_G6, Q_L6, Q_Z6, Q_N8, Q_G7, Q_L7, Q_Z7, Q_N9, Q_D6_7, Q_X1_, Q_X2_, Q_X3_, Q_X4_, Q_X5_, Q_X6_, Q_X7_⟩ hb_ hon hoff
      refine ⟨_, rfl, fun K hK => ?_⟩
      have e25 : a.tmps[25]? = some (m3_) := by rw [ha]; exact putSel_on (e := (3, 25, m3_)) 3 rfl rfl (hon 3 (by kernel_rfl)) rfl
      rw [Q_X3_ (hon 3 (by kernel_rfl))] at e25
      replace ha := Aside0.mk ha
      have HB := Aside0.mk Q_HB
      have FY := Aside0.mk (Q_FY (hon 1 (by kernel_rfl)))
      have FQ := Aside0.mk (Q_FQ (hon 2 (by kernel_rfl)))
      have FR := Aside0.mk (Q_FR (hon 2 (by kernel_rfl)))
      have D6_7 := Aside0.mk Q_D6_7
      refine value_ (w1 := w') (v := .agg #[.bool (decide (x % y < 0)), .slice Ar (limbs (x % y).natAbs).length cr]) (by rfl) rfl ?_ ?_
      · go_simp
        (try simp only [i64_w])
        try rfl
      refine hK.out _ _ ⟨A27, c27, Aq, cq, Ar, cr, g7, g8, m1_, m2_, m3_, m4_, (.agg #[.bool (decide (x % y < 0)), .slice Ar (limbs (x % y).natAbs).length cr]), m6_, m7_, (by rw [ha.out]; exact putSel_upk 5 hb_ rfl rfl rfl), Q_HB, Q_FY, Q_FQ, Q_FR, Q_G6, Q_L6, Q_Z6, Q_N8, Q_G7, Q_L7, Q_Z7, fun _ h1_ => absurd ((hoff 9 (by kernel_rfl)).symm.trans h1_) (by decide), Q_D6_7, Q_X1_, Q_X2_, Q_X3_, Q_X4_, fun _ => rfl, Q_X6_, Q_X7_⟩
    refine steps_cons ?_ ?_
    · rintro b a w' ⟨A27, c27, Aq, cq, Ar, cr, g7, g8, m1_, m2_, m3_, m4_, m5_, m6_, m7_, ha, Q_HB, Q_FY, Q_FQ, Q_FR, Q_G6, Q_L6, Q_Z6, Q_N8, Q_G7, Q_L7, Q_Z7, Q_N9, Q_D6_7, Q_X1_, Q_X2_, Q_X3_, Q_X4_, Q_X5_, Q_X6_, Q_X7_⟩ hb_ hon hoff
      refine ⟨_, rfl, fun K hK => ?_⟩
      replace ha := Aside0.mk ha
      have HB := Aside0.mk Q_HB
      have D6_7 := Aside0.mk Q_D6_7
      have hb := (Below.refl w'.heap.size w').alloc (Nat.le_refl _) (.cells #[.bool false, .slice none 0 0] 71 (0, 0))
      refine value_ (w1 := w'.alloc (.cells #[.bool false, .slice none 0 0] 71 (0, 0))) (v := .pointer (some ⟨w'.heap.size, 0, none⟩)) (by rfl) rfl ?_ ?_
      · go_simp
        try rfl
      refine hK.out _ _ ⟨A27, c27, Aq, cq, Ar, cr, w'.heap.size, g8, m1_, m2_, m3_, m4_, m5_, (.pointer (some ⟨w'.heap.size, 0, none⟩)), m7_, (by rw [ha.out]; exact putSel_upk 6 hb_ rfl rfl rfl), hop HB.out hb, fun h1 => (Q_FY h1).below hb, fun h2 => (Q_FQ h2).below hb, fun h2 => (Q_FR h2).below hb, fun _ => HB.out.size, fun _ => (by simp), fun _ _ => heap_alloc_new w' _, fun _ h1_ => absurd ((hoff 8 (by kernel_rfl)).symm.trans h1_) (by decide), Q_G7, fun h7 => Nat.lt_of_lt_of_le (Q_L7 h7) hb.size, fun h7 h9 => (hb.block _ (blk_lt (Q_Z7 h7 h9))).trans (Q_Z7 h7 h9), fun _ h1_ => absurd ((hoff 9 (by kernel_rfl)).symm.trans h1_) (by decide), fun h1 h2 => (fun e => by have := Q_L7 h2; omega), Q_X1_, Q_X2_, Q_X3_, Q_X4_, Q_X5_, fun _ => rfl, Q_X7_⟩
    refine steps_cons ?_ ?_
    · rintro b a w' ⟨A27, c27, Aq, cq, Ar, cr, g7, g8, m1_, m2_, m3_, m4_, m5_, m6_, m7_, ha, Q_HB, Q_FY, Q_FQ, Q_FR, Q_G6, Q_L6, Q_Z6, Q_N8, Q_G7, Q_L7, Q_Z7, Q_N9, Q_D6_7, Q_X1_, Q_X2_, Q_X3_, Q_X4_, Q_X5_, Q_X6_, Q_X7_⟩ hb_ hon hoff
      refine ⟨_, rfl, fun K hK => ?_⟩
      replace ha := Aside0.mk ha
      have HB := Aside0.mk Q_HB
      have D6_7 := Aside0.mk Q_D6_7
      have hb := (Below.refl w'.heap.size w').alloc (Nat.le_refl _) (.cells #[.bool false, .slice none 0 0] 71 (0, 0))
      refine value_ (w1 := w'.alloc (.cells #[.bool false, .slice none 0 0] 71 (0, 0))) (v := .pointer (some ⟨w'.heap.size, 0, none⟩)) (by rfl) rfl ?_ ?_
      · go_simp
        try rfl
      refine hK.out _ _ ⟨A27, c27, Aq, cq, Ar, cr, g7, w'.heap.size, m1_, m2_, m3_, m4_, m5_, m6_, (.pointer (some ⟨w'.heap.size, 0, none⟩)), (by rw [ha.out]; exact putSel_upk 7 hb_ rfl rfl rfl), hop HB.out hb, fun h1 => (Q_FY h1).below hb, fun h2 => (Q_FQ h2).below hb, fun h2 => (Q_FR h2).below hb, Q_G6, fun h6 => Nat.lt_of_lt_of_le (Q_L6 h6) hb.size, fun h6 h8 => (hb.block _ (blk_lt (Q_Z6 h6 h8))).trans (Q_Z6 h6 h8), fun _ h1_ => absurd ((hoff 8 (by kernel_rfl)).symm.trans h1_) (by decide), fun _ => HB.out.size, fun _ => (by simp), fun _ _ => heap_alloc_new w' _, fun _ h1_ => absurd ((hoff 9 (by kernel_rfl)).symm.trans h1_) (by decide), fun h1 h2 => (fun e => by have := Q_L6 h1; omega), Q_X1_, Q_X2_, Q_X3_, Q_X4_, Q_X5_, Q_X6_, fun _ => rfl⟩
    refine steps_cons ?_ ?_
    · rintro b a w' ⟨A27, c27, Aq, cq, Ar, cr, g7, g8, m1_, m2_, m3_, m4_, m5_, m6_, m7_, ha, Q_HB, Q_FY, Q_FQ, Q_FR, Q_G6, Q_L6, Q_Z6, Q_N8, Q_G7, Q_L7, Q_Z7, Q_N9, Q_D6_7, Q_X1_, Q_X2_, Q_X3_, Q_X4_, Q_X5_, Q_X6_, Q_X7_⟩ hb_ hon hoff
      refine ⟨_, rfl, fun K hK => ?_⟩
      have e7 : a.tmps[7]? = some (m6_) := by rw [ha]; exact putSel_on (e := (6, 7, m6_)) 6 rfl rfl (hon 6 (by kernel_rfl)) rfl
      rw [Q_X6_ (hon 6 (by kernel_rfl))] at e7
      have e29 : a.tmps[29]? = some (m4_) := by rw [ha]; exact putSel_on (e := (4, 29, m4_)) 4 rfl rfl (hon 4 (by kernel_rfl)) rfl
      rw [Q_X4_ (hon 4 (by kernel_rfl))] at e29
      replace ha := Aside0.mk ha
      have HB := Aside0.mk Q_HB
      have FY := Aside0.mk (Q_FY (hon 1 (by kernel_rfl)))
      have FQ := Aside0.mk (Q_FQ (hon 2 (by kernel_rfl)))
      have FR := Aside0.mk (Q_FR (hon 2 (by kernel_rfl)))
      have G6 := Aside0.mk (Q_G6 (hon 6 (by kernel_rfl)))
      have L6 := Aside0.mk (Q_L6 (hon 6 (by kernel_rfl)))
      have Z6 := Aside0.mk (Q_Z6 (hon 6 (by kernel_rfl)) hb_)
      have G7 := Aside0.mk (Q_G7 (hon 7 (by kernel_rfl)))
      have L7 := Aside0.mk (Q_L7 (hon 7 (by kernel_rfl)))
      have Z7 := Aside0.mk (Q_Z7 (hon 7 (by kernel_rfl)) (hoff 9 (by kernel_rfl)))
      have D6_7 := Aside0.mk Q_D6_7
      have hk : Keep w' ((w'.setCell ⟨g7, 0, none⟩ (.bool (decide (x / y < 0)))).setCell ⟨g7, 1, none⟩ (.slice Aq (limbs (x / y).natAbs).length cq)) (fun k => k = g7) := (((Keep.refl w' (fun k => k = g7)).set ⟨g7, 0, none⟩ (.bool (decide (x / y < 0))) (.inl rfl)).set ⟨g7, 1, none⟩ (.slice Aq (limbs (x / y).natAbs).length cq) (.inl rfl))
      have y0 := blk_cell Z6.out 0
      have y1 := blk_cell Z6.out 1
      have z0 := blk_frozen Z6.out 0
      have z1 := blk_frozen Z6.out 1
      refine skip_ (w1 := ((w'.setCell ⟨g7, 0, none⟩ (.bool (decide (x / y < 0)))).setCell ⟨g7, 1, none⟩ (.slice Aq (limbs (x / y).natAbs).length cq))) (by rfl) rfl ?_ ?_
      · go_simp
        try rfl
      refine hK.out _ _ ⟨A27, c27, Aq, cq, Ar, cr, g7, g8, m1_, m2_, m3_, m4_, m5_, m6_, m7_, (by rw [ha.out]; exact putSel_none (v := undef) rfl), HB.out.trans (hk.below HB.out.size (fun k e => by have e2 : k = g7 := e; rw [e2]; exact G6.out)), fun h1 => (Q_FY h1).num Z6.out num_cells hk, fun h2 => (Q_FQ h2).num Z6.out num_cells hk, fun h2 => (Q_FR h2).num Z6.out num_cells hk, Q_G6, fun h6 => Nat.lt_of_lt_of_le (Q_L6 h6) hk.size, fun _ h1_ => absurd ((up_self b 8).symm.trans h1_) (by decide), fun _ _ => (blk_put (blk_put Z6.out 0 (.bool (decide (x / y < 0))) rfl) 1 (.slice Aq (limbs (x / y).natAbs).length cq) rfl), Q_G7, fun h7 => Nat.lt_of_lt_of_le (Q_L7 h7) hk.size, fun h7 h9 => (hk.block _ (blk_lt (Q_Z7 h7 h9)) (fun e => Q_D6_7 (hon 6 (by kernel_rfl)) h7 e.symm)).trans (Q_Z7 h7 h9), fun _ h1_ => absurd ((hoff 9 (by kernel_rfl)).symm.trans h1_) (by decide), Q_D6_7, Q_X1_, Q_X2_, Q_X3_, Q_X4_, Q_X5_, Q_X6_, Q_X7_⟩
    refine steps_cons ?_ ?_
    · rintro b a w' ⟨A27, c27, Aq, cq, Ar, cr, g7, g8, m1_, m2_, m3_, m4_, m5_, m6_, m7_, ha, Q_HB, Q_FY, Q_FQ, Q_FR, Q_G6, Q_L6, Q_Z6, Q_N8, Q_G7, Q_L7, Q_Z7, Q_N9, Q_D6_7, Q_X1_, Q_X2_, Q_X3_, Q_X4_, Q_X5_, Q_X6_, Q_X7_⟩ hb_ hon hoff
      refine ⟨_, rfl, fun K hK => ?_⟩
      have e8 : a.tmps[8]? = some (m7_) := by rw [ha]; exact putSel_on (e := (7, 8, m7_)) 7 rfl rfl (hon 7 (by kernel_rfl)) rfl
      rw [Q_X7_ (hon 7 (by kernel_rfl))] at e8
      have e30 : a.tmps[30]? = some (m5_) := by rw [ha]; exact putSel_on (e := (5, 30, m5_)) 5 rfl rfl (hon 5 (by kernel_rfl)) rfl
      rw [Q_X5_ (hon 5 (by kernel_rfl))] at e30
      replace ha := Aside0.mk ha
      have HB := Aside0.mk Q_HB
      have FY := Aside0.mk (Q_FY (hon 1 (by kernel_rfl)))
      have FQ := Aside0.mk (Q_FQ (hon 2 (by kernel_rfl)))
      have FR := Aside0.mk (Q_FR (hon 2 (by kernel_rfl)))
      have G6 := Aside0.mk (Q_G6 (hon 6 (by kernel_rfl)))
      have L6 := Aside0.mk (Q_L6 (hon 6 (by kernel_rfl)))
      have N8 := Aside0.mk (Q_N8 (hon 6 (by kernel_rfl)) (hon 8 (by kernel_rfl)))
      have G7 := Aside0.mk (Q_G7 (hon 7 (by kernel_rfl)))
      have L7 := Aside0.mk (Q_L7 (hon 7 (by kernel_rfl)))
      have Z7 := Aside0.mk (Q_Z7 (hon 7 (by kernel_rfl)) hb_)
      have D6_7 := Aside0.mk Q_D6_7
      have hk : Keep w' ((w'.setCell ⟨g8, 0, none⟩ (.bool (decide (x % y < 0)))).setCell ⟨g8, 1, none⟩ (.slice Ar (limbs (x % y).natAbs).length cr)) (fun k => k = g8) := (((Keep.refl w' (fun k => k = g8)).set ⟨g8, 0, none⟩ (.bool (decide (x % y < 0))) (.inl rfl)).set ⟨g8, 1, none⟩ (.slice Ar (limbs (x % y).natAbs).length cr) (.inl rfl))
      have y0 := blk_cell Z7.out 0
      have y1 := blk_cell Z7.out 1
      have z0 := blk_frozen Z7.out 0
      have z1 := blk_frozen Z7.out 1
      refine skip_ (w1 := ((w'.setCell ⟨g8, 0, none⟩ (.bool (decide (x % y < 0)))).setCell ⟨g8, 1, none⟩ (.slice Ar (limbs (x % y).natAbs).length cr))) (by rfl) rfl ?_ ?_
      · go_simp
        try rfl
      refine hK.out _ _ ⟨A27, c27, Aq, cq, Ar, cr, g7, g8, m1_, m2_, m3_, m4_, m5_, m6_, m7_, (by rw [ha.out]; exact putSel_none (v := undef) rfl), HB.out.trans (hk.below HB.out.size (fun k e => by have e2 : k = g8 := e; rw [e2]; exact G7.out)), fun h1 => (Q_FY h1).num Z7.out num_cells hk, fun h2 => (Q_FQ h2).num Z7.out num_cells hk, fun h2 => (Q_FR h2).num Z7.out num_cells hk, Q_G6, fun h6 => Nat.lt_of_lt_of_le (Q_L6 h6) hk.size, fun _ h1_ => absurd ((hon 8 (by kernel_rfl)).symm.trans h1_) (by decide), fun h6 h8 => (hk.block _ (blk_lt (Q_N8 h6 h8)) (fun e => Q_D6_7 h6 (hon 7 (by kernel_rfl)) e)).trans (Q_N8 h6 h8), Q_G7, fun h7 => Nat.lt_of_lt_of_le (Q_L7 h7) hk.size, fun _ h1_ => absurd ((up_self b 9).symm.trans h1_) (by decide), fun _ _ => (blk_put (blk_put Z7.out 0 (.bool (decide (x % y < 0))) rfl) 1 (.slice Ar (limbs (x % y).natAbs).length cr) rfl), Q_D6_7, Q_X1_, Q_X2_, Q_X3_, Q_X4_, Q_X5_, Q_X6_, Q_X7_⟩
    exact steps_nil
  · rintro b a w' hall ⟨A27, c27, Aq, cq, Ar, cr, g7, g8, m1_, m2_, m3_, m4_, m5_, m6_, m7_, ha, Q_HB, Q_FY, Q_FQ, Q_FR, Q_G6, Q_L6, Q_Z6, Q_N8, Q_G7, Q_L7, Q_Z7, Q_N9, Q_D6_7, Q_X1_, Q_X2_, Q_X3_, Q_X4_, Q_X5_, Q_X6_, Q_X7_⟩
    clear D6_7 HB
    have hb0_ := hall 0 (by kernel_rfl)
    have hb1_ := hall 1 (by kernel_rfl)
    have hb2_ := hall 2 (by kernel_rfl)
    have hb3_ := hall 3 (by kernel_rfl)
    have hb4_ := hall 4 (by kernel_rfl)
    have hb5_ := hall 5 (by kernel_rfl)
    have hb6_ := hall 6 (by kernel_rfl)
    have hb7_ := hall 7 (by kernel_rfl)
    have hb8_ := hall 8 (by kernel_rfl)
    have hb9_ := hall 9 (by kernel_rfl)
    subst ha
    obtain rfl := Q_X1_ hb1_
    obtain rfl := Q_X2_ hb2_
    obtain rfl := Q_X3_ hb3_
    obtain rfl := Q_X4_ hb4_
    obtain rfl := Q_X5_ hb5_
    obtain rfl := Q_X6_ hb6_
    obtain rfl := Q_X7_ hb7_
    simp only [putSel, hb0_, hb1_, hb2_, hb3_, hb4_, hb5_, hb6_, hb7_, hb8_, hb9_, if_true, Act.put, List.setIfInBounds_toArray, List.set_cons_zero, List.set_cons_succ]
    have HB := Aside0.mk Q_HB
    clear Q_HB
    have FY := Aside0.mk (Q_FY hb1_)
    clear Q_FY
    have FQ := Aside0.mk (Q_FQ hb2_)
    clear Q_FQ
    have FR := Aside0.mk (Q_FR hb2_)
    clear Q_FR
    have G6 := Aside0.mk (Q_G6 hb6_)
    clear Q_G6
    have L6 := Aside0.mk (Q_L6 hb6_)
    clear Q_L6
    clear Q_Z6
    have N8 := Aside0.mk (Q_N8 hb6_ hb8_)
    clear Q_N8
    have G7 := Aside0.mk (Q_G7 hb7_)
    clear Q_G7
    have L7 := Aside0.mk (Q_L7 hb7_)
    clear Q_L7
    clear Q_Z7
    have N9 := Aside0.mk (Q_N9 hb7_ hb9_)
    clear Q_N9
    have D6_7 := Aside0.mk Q_D6_7
    clear Q_D6_7
    clear hall hb0_ hb1_ hb2_ hb3_ hb4_ hb5_ hb6_ hb7_ hb8_ hb9_
    go_upto_region 7 with (fail)
    have k0 := blk_cell N8.out 0
    have k1 := blk_cell N8.out 1
    have ew : wrap64 (x / y) = x / y := by unfold wrap64; omega
    have EW := Aside0.mk ew
    have HLR := Aside0.mk (limbs_nil (x % y).natAbs)
    have HBW := Aside0.mk (hop NB.out HB.out)
    clear ew
    by_cases hz : x % y = 0
    · have d9 : decide ((0 : Int) < ((limbs (x % y).natAbs).length : Int)) = false := by rw [hz]; rfl
      go_wp2_with (first
        | (go_at_call 49; (with_reducible refine (HTO.out _ _ (NumV.of FQ.out)).mono ?_); rintro e w7 ⟨rfl, hb7⟩; have m9 := blk_alloc ((hb7.block _ (blk_lt N9.out)).trans N9.out) (.cells #[.int .i64 0, .int .u64 (x / y)] 25 (0, 0)); have j1 := blk_cell m9 1; have HB7 := Aside0.mk (hop HBW.out hb7); clear hb7 m9))
      go_ret2
      exact ⟨rfl, HB7.out.alloc HB7.out.size _⟩
    · have d9 : decide ((0 : Int) < ((limbs (x % y).natAbs).length : Int)) = true := decide_eq_true (by
        have h1 : (limbs (x % y).natAbs) ≠ [] := fun e => by have := HLR.out.1 e; omega
        have h2 := List.length_pos_iff.2 h1
        omega)
      have d9n : 0 < (limbs (x % y).natAbs).length := by have := of_decide_eq_true d9; omega
      have q1 := q0.2.2 hz
      go_wp2_with (first
        | (go_at_call 49; (with_reducible refine (HTO.out _ _ (NumV.of FQ.out)).mono ?_); rintro e w7 ⟨rfl, hb7⟩; have m9 := blk_alloc ((hb7.block _ (blk_lt N9.out)).trans N9.out) (.cells #[.int .i64 0, .int .u64 (x / y)] 25 (0, 0)); have j1 := blk_cell m9 1; have HB7 := Aside0.mk (hop HBW.out hb7); clear hb7 m9))
      go_ret2
      exact ⟨rfl, HB7.out.alloc HB7.out.size _⟩
set_option maxHeartbeats 1600000 in
theorem ref_Rank {n p : Int} (w : World) (hn : -9223372036854775808 ≤ n ∧ n ≤ 9223372036854775807) :
    Calls Try.prog 22 #[.int .i64 n, .int .i64 p] w fun e w' => e = .returned (.tuple (if p < 1 ∨ 100000000 < p then #[.int .i64 0, .int .i64 91] else if n < 1 then #[.int .i64 0, .int .i64 90] else #[.int .i64 (rankP n p), .int .i64 0])) ∧ Below w.heap.size w w' := by
  by_cases h1 : p < 1
  · have d1 : decide (p < 1) = true := decide_eq_true h1
    rw [if_pos (.inl h1)]
    go_enter Try.func22, Try.ntmps22
    go_wp2
    go_ret2
    exact ⟨rfl, Below.refl _ _⟩
  have d1 : decide (p < 1) = false := decide_eq_false h1
  by_cases h2 : 100000000 < p
  · have d2 : decide (100000000 < p) = true := decide_eq_true h2
    rw [if_pos (.inr h2)]
    go_enter Try.func22, Try.ntmps22
    go_wp2
    go_ret2
    exact ⟨rfl, Below.refl _ _⟩
  have d2 : decide (100000000 < p) = false := decide_eq_false h2
  rw [if_neg (by omega)]
  by_cases h3 : n < 1
  · have d3 : decide (n < 1) = true := decide_eq_true h3
    rw [if_pos h3]
    go_enter Try.func22, Try.ntmps22
    go_wp2
    go_ret2
    exact ⟨rfl, Below.refl _ _⟩
  rw [if_neg h3]
  refine (Rank_walk w (by omega) (by omega) rfl rfl).mono ?_
  rintro e w' ⟨rfl, hb⟩
  refine ⟨?_, hb⟩
  have e1 : p * n / 100000000 + (if p * n % 100000000 = 0 then 0 else 1) = rankP n p := by
    unfold rankP
    rw [Int.mul_comm p n]
    split <;> omega
  rw [e1]
end Go.Proofs.Ythnihjfdmkfkiaa.Q

namespace Go.Proofs.Ythnihjfdmkfkiaa.Q
open Go.RowKit Go.Proofs.YthnihjfdmkfkiaaW.PrintWords Go.Proofs.YthnihjfdmkfkiaaW.PrintLast Go.Proofs.YthnihjfdmkfkiaaW.PrintMore Go.Proofs.YthnihjfdmkfkiaaV
set_option linter.unusedVariables false
set_option linter.unusedSimpArgs false

/-- How many, of a share. -/
def shareN (n : Nat) (p : Int) : Nat := (rankP n (if 0 < p then p else -p)).toNat
/-- The share's samples: the lowest, or the greatest. -/
def shareL (s : List Int) (p : Int) : List Int := if 0 < p then s.take (shareN s.length p) else s.drop (s.length - shareN s.length p)
def edgeP (s : List Int) (p : Int) : Int := if 0 < p then rd s (shareN s.length p - 1 : Nat) else rd s (s.length - shareN s.length p : Nat)
def shareA (s : List Int) (p : Int) : Array Value := #[.int .i64 (shareN s.length p), .int .i64 (hiW (shareL s p).sum), .int .u64 (loW (shareL s p).sum), .int .i64 (meanP (shareL s p)), .int .i64 (edgeP s p)]
theorem rank_rng {n p : Int} (hn : 1 ≤ n) (hp : 1 ≤ p ∧ p ≤ 100000000) : 1 ≤ rankP n p ∧ rankP n p ≤ n := by
  have h1 := Int.mul_le_mul (a := 1) (b := 1) (c := n) (d := p) hn hp.1 (by omega) (by omega)
  have h2 := Int.mul_le_mul_of_nonneg_left (c := n) hp.2 (by omega)
  unfold rankP
  generalize n * p = z at h1 h2
  omega
theorem rank_N {n : Nat} {p q : Int} (hn : 1 ≤ n) (hl : n ≤ 1048576) (hq : 1 ≤ q ∧ q ≤ 100000000) {r : Nat} (hr : r = (rankP n q).toNat) :
    rankP n q = (r : Int) ∧ 1 ≤ r ∧ r ≤ n ∧ (n : Int) - (r : Int) = ((n - r : Nat) : Int) ∧ (r : Int) - 1 = ((r - 1 : Nat) : Int) ∧ wrap64 ((n - r : Nat) : Int) = ((n - r : Nat) : Int) ∧ wrap64 ((r - 1 : Nat) : Int) = ((r - 1 : Nat) : Int) ∧ IntKind.i64.wrap ((n - r : Nat) : Int) = ((n - r : Nat) : Int) ∧ IntKind.i64.wrap ((r - 1 : Nat) : Int) = ((r - 1 : Nat) : Int) := by
  have h := rank_rng (n := (n : Int)) (by omega) hq
  have h1 : rankP n q = (r : Int) := by omega
  have w1 : n - r ≤ 1048576 := by omega
  have w2 : r - 1 ≤ 1048576 := by omega
  exact ⟨h1, by omega, by omega, by omega, by omega, (wrap_small w1).2, (wrap_small w2).2, (wrap_small w1).1, (wrap_small w2).1⟩
theorem int_rng {n : Nat} (h : n ≤ 1048576) : -9223372036854775808 ≤ (n : Int) ∧ (n : Int) ≤ 9223372036854775807 := by omega
theorem neg_small {p : Int} (h : -100000000 ≤ p ∧ p ≤ 100000000) : wrap64 (-p) = -p ∧ IntKind.i64.wrap (-p) = -p := by
  have h2 : wrap64 (-p) = -p := by unfold wrap64; omega
  exact ⟨h2, (i64_w _).trans h2⟩
theorem sh_rng {part : List Int} {r : Nat} (hs : ∀ x ∈ part, smp x) (hl : part.length = r) (h1 : 1 ≤ r) (hr : r ≤ 1048576) :
    (0 ≤ part.sum ∧ part.sum ≤ 170141183460469231731687303715884105727) ∧ (1 ≤ (r : Int) ∧ (r : Int) ≤ 9223372036854775807) ∧ part.sum / (r : Int) ≤ 9223372036854775807 ∧ meanP part = part.sum / (r : Int) := by
  have h := sum_smp hs
  have hm := mean_rng hs (by omega)
  have e : meanP part = part.sum / (r : Int) := by unfold meanP; rw [hl]
  rw [hl] at h
  rw [e] at hm
  exact ⟨by omega, by omega, by omega, e⟩
def rup18p.T : Bool × List (List Nat × List Nat) := (true, [([], []), ([], []), ([1], [1]), ([], []), ([], []), ([3, 4, 2], [3, 4]), ([], []), ([], []), ([6, 7], [6, 7]), ([8], [8]), ([0, 2, 5, 9], [0, 2, 5, 9]), ([10, 5, 0, 1, 2, 3, 4, 5, 6, 7, 8, 9, 10], [10]), ([11, 0, 1, 2, 3, 4, 5, 6, 7, 8, 9, 10, 11], [])])
def rup18p.B : List Nat := [0, 0, 2, 0, 0, 30, 0, 0, 192, 448, 1023, 2047, 4095]
theorem rup18p.tab : rtab .any (opsOf Try.f26 18) = rup18p.T := by kernel_rfl
theorem rup18p.bits : waitsOk rup18p.T.2 rup18p.B = true := by kernel_rfl
set_option maxHeartbeats 3200000 in
set_option maxRecDepth 8000 in
theorem Upto_pos {w : World} {A : Option Addr} {c : Nat} {l : List Int} {p : Int} (h : Kd.C (Kd.int .i64) w A l.length l) (h0 : 1 ≤ l.length) (hc : l.length ≤ c) (hl : l.length ≤ 1048576) (hs : ∀ x ∈ l, smp x) (hp : 1 ≤ p ∧ p ≤ 100000000) :
    Calls Try.prog 26 #[.slice A l.length c, .int .i64 p] w fun e w' => e = .returned (.tuple #[.agg (shareA (sortP l) p), .int .i64 0]) ∧ Below w.heap.size w w' := by
  obtain ⟨W, hW⟩ : ∃ W, W = w.alloc (.cells #[.int .i64 0, .int .i64 0, .int .u64 0, .int .i64 0, .int .i64 0] 53 (0, 0)) := ⟨_, rfl⟩
  have n0 : W.heap[w.heap.size]? = some (.cells #[.int .i64 0, .int .i64 0, .int .u64 0, .int .i64 0, .int .i64 0] 53 (0, 0)) := by rw [hW]; exact heap_alloc_new _ _
  have nb : Below w.heap.size w W := by rw [hW]; exact below_alloc (Below.refl _ _) _
  obtain ⟨s, hsdef⟩ : ∃ s, s = sortP l := ⟨_, rfl⟩
  have sl : s.length = l.length := by rw [hsdef]; exact sortP_length l
  have ss : ∀ x ∈ s, smp x := fun x hx => hs x ((sortP_perm l).mem_iff.1 (by rw [← hsdef]; exact hx))
  rw [← hsdef]
  obtain ⟨N, hN⟩ : ∃ n, n = l.length := ⟨_, rfl⟩
  have hNs : s.length = N := by omega
  have HSO := Aside0.mk (ref_Sorted l.length (c := c) (Nat.le_refl _) rfl (Kd.C_below h nb) hc hl)
  have HFI := Aside0.mk (ref_fine (c := c) (Kd.C_below h nb) hl true (by
    symm
    rw [List.all_eq_true]
    intro x hx
    exact decide_eq_true (hs x hx)))
  rw [← hsdef, ← hN] at HSO
  rw [← hN] at HFI h hl hc h0 ⊢
  obtain ⟨r, hr⟩ : ∃ r, r = shareN s.length p := ⟨_, rfl⟩
  have hr2 : r = (rankP N (p)).toNat := by rw [hr, hNs]; unfold shareN; rw [if_pos (by omega)]
  have HRN := Aside0.mk (rank_N (p := p) h0 hl (show 1 ≤ (p : Int) ∧ (p : Int) ≤ 100000000 by omega) hr2)
  have e2 := HRN.out.2.1
  have e3 := HRN.out.2.2.1
  have HLE := Aside0.mk hl
  clear hl hr2
  obtain ⟨part, hpart⟩ : ∃ q, q = shareL s p := ⟨_, rfl⟩
  have hp2 : part = s.take r := by rw [hpart]; unfold shareL; rw [if_pos (by omega), ← hr]
  have hpl : part.length = r := by rw [hp2]; simp only [List.length_take, List.length_drop]; omega
  obtain ⟨ed, hed⟩ : ∃ q, q = edgeP s p := ⟨_, rfl⟩
  have hed2 : ed = rd s (r - 1 : Nat) := by rw [hed]; unfold edgeP; rw [if_pos (by omega), ← hr]
  obtain ⟨v1, v2, v3, v4⟩ := sh_rng (part := part) (fun x hx => ss x (by rw [hp2] at hx; exact List.mem_of_mem_take hx)) hpl e2 (Nat.le_trans e3 HLE.out)
  have RES := Aside0.mk (show shareA s p = #[.int .i64 (r : Int), .int .i64 (hiW part.sum), .int .u64 (loW part.sum), .int .i64 (part.sum / (r : Int)), .int .i64 ed] by unfold shareA; rw [← hr, ← hpart, ← hed, v4])
  obtain ⟨sm, hsm⟩ : ∃ x, x = part.sum := ⟨_, rfl⟩
  have HWI := Aside0.mk (fun (W : World) (u : Value) (h : NumV W u part.sum) => ref_wideN h v1)
  have HPT := Aside0.mk (fun (W : World) (u : Value) (h : NumV W u part.sum) => ref_part (n := (r : Int)) h v1 v2 v3)
  rw [← hsm] at RES HWI HPT
  unfold WV at HWI
  obtain ⟨ua, hua⟩ : ∃ m, m = hiW sm := ⟨_, rfl⟩
  obtain ⟨ub, hub⟩ : ∃ m, m = loW sm := ⟨_, rfl⟩
  obtain ⟨me, hme⟩ : ∃ m, m = sm / (r : Int) := ⟨_, rfl⟩
  rw [← hua, ← hub] at RES HWI
  rw [← hme] at RES HPT
  have HRK := Aside0.mk (fun W => (show Calls Try.prog 22 #[.int .i64 (N : Int), .int .i64 (p)] W (fun e w' => e = .returned (.tuple #[.int .i64 (r : Int), .int .i64 0]) ∧ Below W.heap.size W w') by
    have h3 := ref_Rank (n := (N : Int)) (p := p) W (int_rng HLE.out)
    rw [if_neg (by omega), if_neg (by omega), HRN.out.1] at h3
    exact h3))
  -- the share's row, out of the sorted row
  have HCL := Aside0.mk (fun (W : World) (B : Option Addr) (cb : Nat) (h : Kd.C (Kd.int .i64) W B s.length s) (hcb : s.length ≤ cb) => show ∃ ad, B = some ad ∧ Kd.C (Kd.int .i64) W (some (ad)) r part ∧ r ≤ cb ∧ W.cell? ((ad).add (r - 1)) = some (.int .i64 ed) ∧ ad.add 0 = ad ∧ (cb = 0) = False ∧ (cb = N - r) = False by
    obtain ⟨ad, hA, c0⟩ := cell_rd h (i := r - 1) (by omega)
    subst hA
    have ha0 : ad.add 0 = ad := by simp [Addr.add]
    refine ⟨ad, rfl, ?_, by omega, ?_, ha0, eq_false (by omega), eq_false (by omega)⟩
    · have t := Kd.C_take (m := r) h (by omega)
      rw [← hp2, hpl] at t
      exact t
    · rw [hed2]
      exact c0
)
  have HSU := Aside0.mk (fun (V : World) (B : Option Addr) (cb : Nat) (hb : Kd.C (Kd.int .i64) V B r part) => (show Calls Try.prog 35 #[.slice B r cb] V (fun e w' => ∃ v, e = .returned v ∧ NumV w' v sm ∧ Below V.heap.size V w') by
    rw [hsm, ← hpl]
    rw [← hpl] at hb
    exact ref_sum hb (by rw [hpl]; exact Nat.le_trans e3 HLE.out) (fun x hx => ss x (by rw [hp2] at hx; exact List.mem_of_mem_take hx))))
  obtain ⟨i5, hi5, hz⟩ := Option.map_eq_some_iff.1 info_i64
  simp only [Prod.mk.injEq] at hz
  have HI := Aside0.mk (And.intro hi5 hz.2.1)
  have HNS := Aside0.mk hNs
  have HW := Aside0.mk hW
  have NB := Aside0.mk nb
  have N0 := Aside0.mk n0
  have d0 : ((N : Int) == 0) = false := beq_eq_false_iff_ne.mpr (by omega)
  have d1 : (p == 0) = false := beq_eq_false_iff_ne.mpr (by omega)
  have d2 : decide (100000000 < p) = false := decide_eq_false (by omega)
  have d3 : decide (p < -100000000) = false := decide_eq_false (by omega)
  have d4 : decide (p < 0) = false := decide_eq_false (by omega)
  have d5 : decide (0 < p) = true := decide_eq_true (by omega)
  have f3 : r ≤ N := e3
  have f2 : 0 < r := e2
  have f4 : (r - 1) < r := by omega
  have f5 : (0 : Int) ≤ (r : Int) := by omega
  have f6 : (r : Int) ≤ (N : Int) := by omega
  obtain ⟨-, -, -, e4, e5, e6, e7, e8, e9⟩ := HRN.out
  clear h hs hW n0 nb hsdef sl ss hN hNs hr hpart hp2 hpl hed hed2 v1 v2 v3 v4 hsm hua hub hme hi5 hz e2 e3 hc h0 hp
  go_enter Try.func26, Try.ntmps26
  go_upto_region 1 with (fail)
  rw [← HW.out]
  go_upto_region 14 with (first
    | (go_at_call 33; (with_reducible refine (HFI.out).mono ?_); rintro e w1 ⟨rfl, rfl⟩)
    | (go_at_call 34; (with_reducible refine (HSO.out).mono ?_); rintro e w1 ⟨A4, c4, rfl, h4, l4, b4⟩; have H4 := Aside0.mk h4; have L4 := Aside0.mk l4; have hl4 : N ≤ c4 := (by rw [← HNS.out]; exact l4); rw [HNS.out]; have HB4 := Aside0.mk (hop NB.out b4); have N4 := Aside0.mk ((b4.block _ (blk_lt N0.out)).trans N0.out); clear h4 l4 b4)
    | (go_at_call 22; (with_reducible refine (HRK.out _).mono ?_); rintro e w3 ⟨rfl, b3⟩; have H3 := Aside0.mk (Kd.C_below H4.out b3); have HB3 := Aside0.mk (hop HB4.out b3); have N3 := Aside0.mk ((b3.block _ (blk_lt N4.out)).trans N4.out); clear b3))
  obtain ⟨ad, rfl, hrow, hcp, hcell, ha0, hc0, hcm⟩ := HCL.out _ _ _ H3.out L4.out
  have HROW := Aside0.mk hrow
  have HCE := Aside0.mk hcell
  have r1 := run_cuth (P := Try.prog) 22 2 i5 Try.underlying22 HI.out.1 HI.out.2 (some ad) N c4 (r : Int) (by omega) (by omega) hl4
  rw [Int.toNat_natCast] at r1
  clear hrow hcell hl4 H3 H4 L4 HCL HB4 N4 NB N0 HFI HSO
  go_upto_region 18 with (first
    | (go_at_call 35; (with_reducible refine (HSU.out _ _ _ HROW.out).mono ?_); rintro e w5 ⟨v, rfl, ⟨A5, c5, rfl, h5⟩, b5⟩; have H5 := Aside0.mk h5; have HB5 := Aside0.mk (hop HB3.out b5); have N5 := Aside0.mk ((b5.block _ (blk_lt N3.out)).trans N3.out); have C5 := Aside0.mk (pw_cell_below b5 HCE.out); clear h5 b5))
  have m5 := heap_alloc_new w5 (.cells #[.bool (decide (sm < 0)), .slice A5 (limbs sm.natAbs).length c5] 71 (0, 0))
  have b5 := below_alloc (Below.refl w5.heap.size w5) (.cells #[.bool (decide (sm < 0)), .slice A5 (limbs sm.natAbs).length c5] 71 (0, 0))
  obtain ⟨W5, hW5⟩ : ∃ W5, W5 = w5.alloc (.cells #[.bool (decide (sm < 0)), .slice A5 (limbs sm.natAbs).length c5] 71 (0, 0)) := ⟨_, rfl⟩
  rw [← hW5] at m5 b5 ⊢
  have hg5 : w.heap.size < w5.heap.size := blk_lt N5.out
  obtain ⟨g5, hg5e⟩ : ∃ g, g = w5.heap.size := ⟨_, rfl⟩
  rw [← hg5e] at m5 hg5 ⊢
  obtain ⟨bq, hb⟩ : ∃ b, b = decide (sm < 0) := ⟨_, rfl⟩
  obtain ⟨nl, hn⟩ : ∃ n, n = (limbs sm.natAbs).length := ⟨_, rfl⟩
  have HNV := Aside0.mk (fun (V : World) (hb2 : Lm V A5 c5 (limbs sm.natAbs)) => (show NumV V (.agg #[.bool bq, .slice A5 nl c5]) sm by rw [hb, hn]; exact NumV.of hb2))
  rw [← hb, ← hn] at m5 ⊢
  have k0 : W5.cell? ⟨g5, 0, none⟩ = some (.bool bq) := blk_cell m5 0
  have k1 : W5.cell? ⟨g5, 1, none⟩ = some (.slice A5 nl c5) := blk_cell m5 1
  have x0 := pw_cell_below b5 C5.out
  have M5 := Aside0.mk m5
  have L5 := Aside0.mk (H5.out.below b5)
  have BW := Aside0.mk (hop HB5.out b5)
  have T5 := Aside0.mk ((b5.block _ (blk_lt N5.out)).trans N5.out)
  have X0 := Aside0.mk x0
  have hne1 : (g5 = w.heap.size) = False := eq_false (by omega)
  have hne2 : (w.heap.size = g5) = False := eq_false (by omega)
  have hne3 : (g5 == w.heap.size) = false := beq_eq_false_iff_ne.mpr (by omega)
  have hne4 : (w.heap.size == g5) = false := beq_eq_false_iff_ne.mpr (by omega)
  clear m5 b5 hW5 hg5e HB5 N5 C5 H5 hb hn HROW HCE hg5 N3 HB3
  have HB := Aside0.mk (show Below W5.heap.size W5 W5.drew from (Below.refl _ _).drew)
  have E11 := Aside0.mk (show W5.drew.heap[w.heap.size]? = some (.cells #[.int .i64 0, .int .i64 0, .int .u64 0, .int .i64 0, .int .i64 0] 53 (0, 0)) from T5.out)
  refine start_ (n := 13) (S := fun w' => True) (ds := []) #[false, false, false, false, false, false, false, false, false, false, false, false, false] (by kernel_rfl) rfl rfl trivial (fun hHeld => ?_)
  refine with_tabW rup18p.tab rup18p.bits (fun HT_ HW_ => ?_)
  refine inv_at [0, 1, 2, 3, 4, 5, 6, 7, 8, 9, 10, 11, 12] (fun a0_ b a w' => a = putSel a0_ b [(0, 60, .int .i64 (r : Int)), (1, 61, .agg #[.bool bq, .slice A5 nl c5]), (2, 62, .agg #[.int .i64 ua, .int .u64 ub]), (3, 63, .agg #[.bool bq, .slice A5 nl c5]), (4, 64, .int .i64 (r : Int)), (5, 65, .int .i64 me), (6, 66, .slice (some (ad)) r c4), (7, 67, .int .i64 ((r - 1 : Nat) : Int)), (8, 68, .pointer (some (ad.add (r - 1)))), (9, 69, .int .i64 ed), (10, 70, .agg #[.int .i64 (r : Int), .int .i64 ua, .int .u64 ub, .int .i64 me, .int .i64 ed]), (12, 5, .int .i64 0)] ∧ (b 11 = false → Below W5.heap.size W5 w') ∧ (b 11 = false → w'.heap[w.heap.size]? = some (.cells #[.int .i64 0, .int .i64 0, .int .u64 0, .int .i64 0, .int .i64 0] 53 (0, 0))) ∧ (b 11 = true → w'.heap[w.heap.size]? = some (.cells #[.int .i64 (r : Int), .int .i64 ua, .int .u64 ub, .int .i64 me, .int .i64 ed] 53 (0, 0))) ∧ (b 11 = true → Keep W5 w' (fun k => k = w.heap.size))) HT_.out HW_.out (by kernel_rfl) (by kernel_rfl) ?_ ?_ ?_
  · exact ⟨by simp only [putSel, Bool.false_eq_true, if_false], fun _ => HB.out, fun _ => E11.out, fun h_ => absurd h_ (by decide), fun h_ => absurd h_ (by decide)⟩
  · skip
    clear E11 HB
    refine steps_cons ?_ ?_
    · rintro b a w' ⟨ha, Q_HB, Q_E11, Q_N11, Q_K11⟩ hb_ hon hoff
      refine ⟨_, rfl, fun K hK => ?_⟩
      have e8 : a.tmps[8]? = some (.int .i64 (r : Int)) := by rw [ha]; exact (putSel_off rfl).trans rfl
      replace ha := Aside0.mk ha
      have HB := Aside0.mk (Q_HB (hoff 11 (by kernel_rfl)))
      have E11 := Aside0.mk (Q_E11 (hoff 11 (by kernel_rfl)))
      refine value_ (w1 := w') (v := .int .i64 (r : Int)) (by rfl) rfl ?_ ?_
      · go_simp
        (try simp only [i64_w])
        try rfl
        try assumption
        try (unfold wrap64; omega)
      refine hK.out _ _ ⟨(by rw [ha.out]; exact putSel_upk 0 hb_ rfl rfl rfl), Q_HB, Q_E11, fun h0_ => absurd ((hoff 11 (by kernel_rfl)).symm.trans h0_) (by decide), fun h0_ => absurd ((hoff 11 (by kernel_rfl)).symm.trans h0_) (by decide)⟩
    refine steps_cons ?_ ?_
    · rintro b a w' ⟨ha, Q_HB, Q_E11, Q_N11, Q_K11⟩ hb_ hon hoff
      refine ⟨_, rfl, fun K hK => ?_⟩
      have e11 : a.tmps[11]? = some (.pointer (some ⟨g5, 0, none⟩)) := by rw [ha]; exact (putSel_off rfl).trans rfl
      replace ha := Aside0.mk ha
      have HB := Aside0.mk (Q_HB (hoff 11 (by kernel_rfl)))
      have E11 := Aside0.mk (Q_E11 (hoff 11 (by kernel_rfl)))
      have k0 := blk_cell ((HB.out.block _ (blk_lt M5.out)).trans M5.out) 0
      have k1 := blk_cell ((HB.out.block _ (blk_lt M5.out)).trans M5.out) 1
      refine value_ (w1 := w') (v := .agg #[.bool bq, .slice A5 nl c5]) (by rfl) rfl ?_ ?_
      · go_simp
        (try simp only [i64_w])
        try rfl
        try assumption
        try (unfold wrap64; omega)
      refine hK.out _ _ ⟨(by rw [ha.out]; exact putSel_upk 1 hb_ rfl rfl rfl), Q_HB, Q_E11, fun h0_ => absurd ((hoff 11 (by kernel_rfl)).symm.trans h0_) (by decide), fun h0_ => absurd ((hoff 11 (by kernel_rfl)).symm.trans h0_) (by decide)⟩
    refine steps_cons ?_ ?_
    · rintro b a w' ⟨ha, Q_HB, Q_E11, Q_N11, Q_K11⟩ hb_ hon hoff
      refine ⟨_, rfl, fun K hK => ?_⟩
      have e61 : a.tmps[61]? = some (.agg #[.bool bq, .slice A5 nl c5]) := by rw [ha]; exact putSel_on (e := (1, 61, .agg #[.bool bq, .slice A5 nl c5])) 1 rfl rfl (hon 1 (by kernel_rfl)) rfl
      replace ha := Aside0.mk ha
      have HB := Aside0.mk (Q_HB (hoff 11 (by kernel_rfl)))
      have E11 := Aside0.mk (Q_E11 (hoff 11 (by kernel_rfl)))
      refine goes_ Try.func36 (by kernel_rfl) rfl #[.agg #[.bool bq, .slice A5 nl c5]] (by rfl) rfl rfl (by first | (simp only [List.map_toArray, List.map_cons, List.map_nil, Act.eval, Array.getD_eq_getD_getElem?, Option.getD_some, e61]; done) | (simp only [List.map_toArray, List.map_cons, List.map_nil, Act.eval, Array.getD_eq_getD_getElem?, Option.getD_some, e61]; rfl)) ?_
      with_reducible refine (HWI.out _ _ (HNV.out _ (L5.out.below HB.out))).mono ?_
      rintro e w1 ⟨rfl, hb⟩
      refine ⟨_, rfl, ?_⟩
      refine hK.out _ _ ⟨(by rw [ha.out]; exact putSel_upk 2 hb_ rfl rfl rfl), fun h11 => hop HB.out hb, fun h11 => (hb.block _ (blk_lt (Q_E11 h11))).trans (Q_E11 h11), fun h0_ => absurd ((hoff 11 (by kernel_rfl)).symm.trans h0_) (by decide), fun h0_ => absurd ((hoff 11 (by kernel_rfl)).symm.trans h0_) (by decide)⟩
    refine steps_cons ?_ ?_
    · rintro b a w' ⟨ha, Q_HB, Q_E11, Q_N11, Q_K11⟩ hb_ hon hoff
      refine ⟨_, rfl, fun K hK => ?_⟩
      have e11 : a.tmps[11]? = some (.pointer (some ⟨g5, 0, none⟩)) := by rw [ha]; exact (putSel_off rfl).trans rfl
      replace ha := Aside0.mk ha
      have HB := Aside0.mk (Q_HB (hoff 11 (by kernel_rfl)))
      have E11 := Aside0.mk (Q_E11 (hoff 11 (by kernel_rfl)))
      have k0 := blk_cell ((HB.out.block _ (blk_lt M5.out)).trans M5.out) 0
      have k1 := blk_cell ((HB.out.block _ (blk_lt M5.out)).trans M5.out) 1
      refine value_ (w1 := w') (v := .agg #[.bool bq, .slice A5 nl c5]) (by rfl) rfl ?_ ?_
      · go_simp
        (try simp only [i64_w])
        try rfl
        try assumption
        try (unfold wrap64; omega)
      refine hK.out _ _ ⟨(by rw [ha.out]; exact putSel_upk 3 hb_ rfl rfl rfl), Q_HB, Q_E11, fun h0_ => absurd ((hoff 11 (by kernel_rfl)).symm.trans h0_) (by decide), fun h0_ => absurd ((hoff 11 (by kernel_rfl)).symm.trans h0_) (by decide)⟩
    refine steps_cons ?_ ?_
    · rintro b a w' ⟨ha, Q_HB, Q_E11, Q_N11, Q_K11⟩ hb_ hon hoff
      refine ⟨_, rfl, fun K hK => ?_⟩
      have e8 : a.tmps[8]? = some (.int .i64 (r : Int)) := by rw [ha]; exact (putSel_off rfl).trans rfl
      replace ha := Aside0.mk ha
      have HB := Aside0.mk (Q_HB (hoff 11 (by kernel_rfl)))
      have E11 := Aside0.mk (Q_E11 (hoff 11 (by kernel_rfl)))
      refine value_ (w1 := w') (v := .int .i64 (r : Int)) (by rfl) rfl ?_ ?_
      · go_simp
        (try simp only [i64_w])
        try rfl
        try assumption
        try (unfold wrap64; omega)
      refine hK.out _ _ ⟨(by rw [ha.out]; exact putSel_upk 4 hb_ rfl rfl rfl), Q_HB, Q_E11, fun h0_ => absurd ((hoff 11 (by kernel_rfl)).symm.trans h0_) (by decide), fun h0_ => absurd ((hoff 11 (by kernel_rfl)).symm.trans h0_) (by decide)⟩
    refine steps_cons ?_ ?_
    · rintro b a w' ⟨ha, Q_HB, Q_E11, Q_N11, Q_K11⟩ hb_ hon hoff
      refine ⟨_, rfl, fun K hK => ?_⟩
      have e63 : a.tmps[63]? = some (.agg #[.bool bq, .slice A5 nl c5]) := by rw [ha]; exact putSel_on (e := (3, 63, .agg #[.bool bq, .slice A5 nl c5])) 3 rfl rfl (hon 3 (by kernel_rfl)) rfl
      have e64 : a.tmps[64]? = some (.int .i64 (r : Int)) := by rw [ha]; exact putSel_on (e := (4, 64, .int .i64 (r : Int))) 4 rfl rfl (hon 4 (by kernel_rfl)) rfl
      replace ha := Aside0.mk ha
      have HB := Aside0.mk (Q_HB (hoff 11 (by kernel_rfl)))
      have E11 := Aside0.mk (Q_E11 (hoff 11 (by kernel_rfl)))
      refine goes_ Try.func37 (by kernel_rfl) rfl #[.agg #[.bool bq, .slice A5 nl c5], .int .i64 (r : Int)] (by rfl) rfl rfl (by first | (simp only [List.map_toArray, List.map_cons, List.map_nil, Act.eval, Array.getD_eq_getD_getElem?, Option.getD_some, e63, e64]; done) | (simp only [List.map_toArray, List.map_cons, List.map_nil, Act.eval, Array.getD_eq_getD_getElem?, Option.getD_some, e63, e64]; rfl)) ?_
      with_reducible refine (HPT.out _ _ (HNV.out _ (L5.out.below HB.out))).mono ?_
      rintro e w1 ⟨rfl, hb⟩
      refine ⟨_, rfl, ?_⟩
      refine hK.out _ _ ⟨(by rw [ha.out]; exact putSel_upk 5 hb_ rfl rfl rfl), fun h11 => hop HB.out hb, fun h11 => (hb.block _ (blk_lt (Q_E11 h11))).trans (Q_E11 h11), fun h0_ => absurd ((hoff 11 (by kernel_rfl)).symm.trans h0_) (by decide), fun h0_ => absurd ((hoff 11 (by kernel_rfl)).symm.trans h0_) (by decide)⟩
    refine steps_cons ?_ ?_
    · rintro b a w' ⟨ha, Q_HB, Q_E11, Q_N11, Q_K11⟩ hb_ hon hoff
      refine ⟨_, rfl, fun K hK => ?_⟩
      have e6 : a.tmps[6]? = some (.slice (some (ad)) r c4) := by rw [ha]; exact (putSel_off rfl).trans rfl
      replace ha := Aside0.mk ha
      have HB := Aside0.mk (Q_HB (hoff 11 (by kernel_rfl)))
      have E11 := Aside0.mk (Q_E11 (hoff 11 (by kernel_rfl)))
      refine value_ (w1 := w') (v := .slice (some (ad)) r c4) (by rfl) rfl ?_ ?_
      · go_simp
        (try simp only [i64_w])
        try rfl
        try assumption
        try (unfold wrap64; omega)
      refine hK.out _ _ ⟨(by rw [ha.out]; exact putSel_upk 6 hb_ rfl rfl rfl), Q_HB, Q_E11, fun h0_ => absurd ((hoff 11 (by kernel_rfl)).symm.trans h0_) (by decide), fun h0_ => absurd ((hoff 11 (by kernel_rfl)).symm.trans h0_) (by decide)⟩
    refine steps_cons ?_ ?_
    · rintro b a w' ⟨ha, Q_HB, Q_E11, Q_N11, Q_K11⟩ hb_ hon hoff
      refine ⟨_, rfl, fun K hK => ?_⟩
      have e10 : a.tmps[10]? = some (.int .i64 ((r - 1 : Nat) : Int)) := by rw [ha]; exact (putSel_off rfl).trans rfl
      replace ha := Aside0.mk ha
      have HB := Aside0.mk (Q_HB (hoff 11 (by kernel_rfl)))
      have E11 := Aside0.mk (Q_E11 (hoff 11 (by kernel_rfl)))
      refine value_ (w1 := w') (v := .int .i64 ((r - 1 : Nat) : Int)) (by rfl) rfl ?_ ?_
      · go_simp
        (try simp only [i64_w])
        try rfl
        try assumption
        try (unfold wrap64; omega)
      refine hK.out _ _ ⟨(by rw [ha.out]; exact putSel_upk 7 hb_ rfl rfl rfl), Q_HB, Q_E11, fun h0_ => absurd ((hoff 11 (by kernel_rfl)).symm.trans h0_) (by decide), fun h0_ => absurd ((hoff 11 (by kernel_rfl)).symm.trans h0_) (by decide)⟩
    refine steps_cons ?_ ?_
    · rintro b a w' ⟨ha, Q_HB, Q_E11, Q_N11, Q_K11⟩ hb_ hon hoff
      refine ⟨_, rfl, fun K hK => ?_⟩
      have e66 : a.tmps[66]? = some (.slice (some (ad)) r c4) := by rw [ha]; exact putSel_on (e := (6, 66, .slice (some (ad)) r c4)) 6 rfl rfl (hon 6 (by kernel_rfl)) rfl
      have e67 : a.tmps[67]? = some (.int .i64 ((r - 1 : Nat) : Int)) := by rw [ha]; exact putSel_on (e := (7, 67, .int .i64 ((r - 1 : Nat) : Int))) 7 rfl rfl (hon 7 (by kernel_rfl)) rfl
      replace ha := Aside0.mk ha
      have HB := Aside0.mk (Q_HB (hoff 11 (by kernel_rfl)))
      have E11 := Aside0.mk (Q_E11 (hoff 11 (by kernel_rfl)))
      refine value_ (w1 := w') (v := .pointer (some (ad.add (r - 1)))) (by rfl) rfl ?_ ?_
      · go_simp
        (try simp only [i64_w])
        try rfl
        try assumption
        try (unfold wrap64; omega)
      refine hK.out _ _ ⟨(by rw [ha.out]; exact putSel_upk 8 hb_ rfl rfl rfl), Q_HB, Q_E11, fun h0_ => absurd ((hoff 11 (by kernel_rfl)).symm.trans h0_) (by decide), fun h0_ => absurd ((hoff 11 (by kernel_rfl)).symm.trans h0_) (by decide)⟩
    refine steps_cons ?_ ?_
    · rintro b a w' ⟨ha, Q_HB, Q_E11, Q_N11, Q_K11⟩ hb_ hon hoff
      refine ⟨_, rfl, fun K hK => ?_⟩
      have e68 : a.tmps[68]? = some (.pointer (some (ad.add (r - 1)))) := by rw [ha]; exact putSel_on (e := (8, 68, .pointer (some (ad.add (r - 1))))) 8 rfl rfl (hon 8 (by kernel_rfl)) rfl
      replace ha := Aside0.mk ha
      have HB := Aside0.mk (Q_HB (hoff 11 (by kernel_rfl)))
      have E11 := Aside0.mk (Q_E11 (hoff 11 (by kernel_rfl)))
      have k0 := pw_cell_below HB.out X0.out
      refine value_ (w1 := w') (v := .int .i64 ed) (by rfl) rfl ?_ ?_
      · go_simp
        (try simp only [i64_w])
        try rfl
        try assumption
        try (unfold wrap64; omega)
      refine hK.out _ _ ⟨(by rw [ha.out]; exact putSel_upk 9 hb_ rfl rfl rfl), Q_HB, Q_E11, fun h0_ => absurd ((hoff 11 (by kernel_rfl)).symm.trans h0_) (by decide), fun h0_ => absurd ((hoff 11 (by kernel_rfl)).symm.trans h0_) (by decide)⟩
    refine steps_cons ?_ ?_
    · rintro b a w' ⟨ha, Q_HB, Q_E11, Q_N11, Q_K11⟩ hb_ hon hoff
      refine ⟨_, rfl, fun K hK => ?_⟩
      have e60 : a.tmps[60]? = some (.int .i64 (r : Int)) := by rw [ha]; exact putSel_on (e := (0, 60, .int .i64 (r : Int))) 0 rfl rfl (hon 0 (by kernel_rfl)) rfl
      have e62 : a.tmps[62]? = some (.agg #[.int .i64 ua, .int .u64 ub]) := by rw [ha]; exact putSel_on (e := (2, 62, .agg #[.int .i64 ua, .int .u64 ub])) 2 rfl rfl (hon 2 (by kernel_rfl)) rfl
      have e65 : a.tmps[65]? = some (.int .i64 me) := by rw [ha]; exact putSel_on (e := (5, 65, .int .i64 me)) 5 rfl rfl (hon 5 (by kernel_rfl)) rfl
      have e69 : a.tmps[69]? = some (.int .i64 ed) := by rw [ha]; exact putSel_on (e := (9, 69, .int .i64 ed)) 9 rfl rfl (hon 9 (by kernel_rfl)) rfl
      replace ha := Aside0.mk ha
      have HB := Aside0.mk (Q_HB (hoff 11 (by kernel_rfl)))
      have E11 := Aside0.mk (Q_E11 (hoff 11 (by kernel_rfl)))
      refine value_ (w1 := w') (v := .agg #[.int .i64 (r : Int), .int .i64 ua, .int .u64 ub, .int .i64 me, .int .i64 ed]) (by rfl) rfl ?_ ?_
      · go_simp
        (try simp only [i64_w])
        try rfl
        try assumption
        try (unfold wrap64; omega)
      refine hK.out _ _ ⟨(by rw [ha.out]; exact putSel_upk 10 hb_ rfl rfl rfl), Q_HB, Q_E11, fun h0_ => absurd ((hoff 11 (by kernel_rfl)).symm.trans h0_) (by decide), fun h0_ => absurd ((hoff 11 (by kernel_rfl)).symm.trans h0_) (by decide)⟩
    refine steps_cons ?_ ?_
    · rintro b a w' ⟨ha, Q_HB, Q_E11, Q_N11, Q_K11⟩ hb_ hon hoff
      refine ⟨_, rfl, fun K hK => ?_⟩
      have e4 : a.tmps[4]? = some (.pointer (some ⟨w.heap.size, 0, none⟩)) := by rw [ha]; exact (putSel_off rfl).trans rfl
      have e70 : a.tmps[70]? = some (.agg #[.int .i64 (r : Int), .int .i64 ua, .int .u64 ub, .int .i64 me, .int .i64 ed]) := by rw [ha]; exact putSel_on (e := (10, 70, .agg #[.int .i64 (r : Int), .int .i64 ua, .int .u64 ub, .int .i64 me, .int .i64 ed])) 10 rfl rfl (hon 10 (by kernel_rfl)) rfl
      replace ha := Aside0.mk ha
      have HB := Aside0.mk (Q_HB hb_)
      have E11 := Aside0.mk (Q_E11 hb_)
      have hk : Keep w' (((((w'.setCell ⟨w.heap.size, 0, none⟩ (.int .i64 (r : Int))).setCell ⟨w.heap.size, 1, none⟩ (.int .i64 ua)).setCell ⟨w.heap.size, 2, none⟩ (.int .u64 ub)).setCell ⟨w.heap.size, 3, none⟩ (.int .i64 me)).setCell ⟨w.heap.size, 4, none⟩ (.int .i64 ed)) (fun k => k = w.heap.size) := ((((((Keep.refl w' (fun k => k = w.heap.size)).set ⟨w.heap.size, 0, none⟩ (.int .i64 (r : Int)) (.inl rfl)).set ⟨w.heap.size, 1, none⟩ (.int .i64 ua) (.inl rfl)).set ⟨w.heap.size, 2, none⟩ (.int .u64 ub) (.inl rfl)).set ⟨w.heap.size, 3, none⟩ (.int .i64 me) (.inl rfl)).set ⟨w.heap.size, 4, none⟩ (.int .i64 ed) (.inl rfl))
      have y0 := blk_cell E11.out 0
      have y1 := blk_cell E11.out 1
      have y2 := blk_cell E11.out 2
      have y3 := blk_cell E11.out 3
      have y4 := blk_cell E11.out 4
      have z0 := blk_frozen E11.out 0
      have z1 := blk_frozen E11.out 1
      have z2 := blk_frozen E11.out 2
      have z3 := blk_frozen E11.out 3
      have z4 := blk_frozen E11.out 4
      refine skip_ (w1 := (((((w'.setCell ⟨w.heap.size, 0, none⟩ (.int .i64 (r : Int))).setCell ⟨w.heap.size, 1, none⟩ (.int .i64 ua)).setCell ⟨w.heap.size, 2, none⟩ (.int .u64 ub)).setCell ⟨w.heap.size, 3, none⟩ (.int .i64 me)).setCell ⟨w.heap.size, 4, none⟩ (.int .i64 ed))) (by rfl) rfl ?_ ?_
      · go_simp
        try rfl
        try assumption
        try (unfold wrap64; omega)
      refine hK.out _ _ ⟨(by rw [ha.out]; exact putSel_none (v := undef) rfl), fun h0_ => absurd ((up_self b 11).symm.trans h0_) (by decide), fun h0_ => absurd ((up_self b 11).symm.trans h0_) (by decide), fun _ => (blk_put (blk_put (blk_put (blk_put (blk_put E11.out 0 (.int .i64 (r : Int)) rfl) 1 (.int .i64 ua) rfl) 2 (.int .u64 ub) rfl) 3 (.int .i64 me) rfl) 4 (.int .i64 ed) rfl), fun _ => (Keep.of_below HB.out).trans hk (fun _ _ (q : False) => q.elim) (fun _ _ q => q)⟩
    refine steps_cons ?_ ?_
    · rintro b a w' ⟨ha, Q_HB, Q_E11, Q_N11, Q_K11⟩ hb_ hon hoff
      refine ⟨_, rfl, fun K hK => ?_⟩
      replace ha := Aside0.mk ha
      have N11 := Aside0.mk (Q_N11 (hon 11 (by kernel_rfl)))
      have K11 := Aside0.mk (Q_K11 (hon 11 (by kernel_rfl)))
      refine value_ (w1 := w') (v := .int .i64 0) (by rfl) rfl ?_ ?_
      · go_simp
        (try simp only [i64_w])
        try rfl
        try assumption
        try (unfold wrap64; omega)
      refine hK.out _ _ ⟨(by rw [ha.out]; exact putSel_upk 11 hb_ rfl rfl rfl), fun h0_ => absurd ((hon 11 (by kernel_rfl)).symm.trans h0_) (by decide), fun h0_ => absurd ((hon 11 (by kernel_rfl)).symm.trans h0_) (by decide), Q_N11, Q_K11⟩
    exact steps_nil
  · rintro b a w' hall ⟨ha, Q_HB, Q_E11, Q_N11, Q_K11⟩
    clear E11 HB
    have hb0_ := hall 0 (by kernel_rfl)
    have hb1_ := hall 1 (by kernel_rfl)
    have hb2_ := hall 2 (by kernel_rfl)
    have hb3_ := hall 3 (by kernel_rfl)
    have hb4_ := hall 4 (by kernel_rfl)
    have hb5_ := hall 5 (by kernel_rfl)
    have hb6_ := hall 6 (by kernel_rfl)
    have hb7_ := hall 7 (by kernel_rfl)
    have hb8_ := hall 8 (by kernel_rfl)
    have hb9_ := hall 9 (by kernel_rfl)
    have hb10_ := hall 10 (by kernel_rfl)
    have hb11_ := hall 11 (by kernel_rfl)
    have hb12_ := hall 12 (by kernel_rfl)
    subst ha
    simp only [putSel, hb0_, hb1_, hb2_, hb3_, hb4_, hb5_, hb6_, hb7_, hb8_, hb9_, hb10_, hb11_, hb12_, if_true, Act.put, List.setIfInBounds_toArray, List.set_cons_zero, List.set_cons_succ]
    clear Q_HB
    clear Q_E11
    have N11 := Aside0.mk (Q_N11 hb11_)
    clear Q_N11
    have K11 := Aside0.mk (Q_K11 hb11_)
    clear Q_K11
    clear hall hb0_ hb1_ hb2_ hb3_ hb4_ hb5_ hb6_ hb7_ hb8_ hb9_ hb10_ hb11_ hb12_
    go_wp2_with (fail)
    rw [RES.out]
    refine bodyPost_ret (results_ct rfl _ _ w.heap.size 53 _ (0, 0) _ rfl N11.out Try.underlying53 rfl (by kernel_rfl)) rfl ?_
    exact ⟨rfl, BW.out.trans (K11.out.below BW.out.size (fun k e => Nat.le_of_eq e.symm))⟩
def rup18n.T : Bool × List (List Nat × List Nat) := (true, [([], []), ([], []), ([1], [1]), ([], []), ([], []), ([3, 4, 2], [3, 4]), ([], []), ([], []), ([6, 7], [6, 7]), ([8], [8]), ([0, 2, 5, 9], [0, 2, 5, 9]), ([10, 5, 0, 1, 2, 3, 4, 5, 6, 7, 8, 9, 10], [10]), ([11, 0, 1, 2, 3, 4, 5, 6, 7, 8, 9, 10, 11], [])])
def rup18n.B : List Nat := [0, 0, 2, 0, 0, 30, 0, 0, 192, 448, 1023, 2047, 4095]
theorem rup18n.tab : rtab .any (opsOf Try.f26 18) = rup18n.T := by kernel_rfl
theorem rup18n.bits : waitsOk rup18n.T.2 rup18n.B = true := by kernel_rfl
set_option maxHeartbeats 3200000 in
set_option maxRecDepth 8000 in
theorem Upto_neg {w : World} {A : Option Addr} {c : Nat} {l : List Int} {p : Int} (h : Kd.C (Kd.int .i64) w A l.length l) (h0 : 1 ≤ l.length) (hc : l.length ≤ c) (hl : l.length ≤ 1048576) (hs : ∀ x ∈ l, smp x) (hp : p ≤ -1 ∧ -100000000 ≤ p) :
    Calls Try.prog 26 #[.slice A l.length c, .int .i64 p] w fun e w' => e = .returned (.tuple #[.agg (shareA (sortP l) p), .int .i64 0]) ∧ Below w.heap.size w w' := by
  obtain ⟨W, hW⟩ : ∃ W, W = w.alloc (.cells #[.int .i64 0, .int .i64 0, .int .u64 0, .int .i64 0, .int .i64 0] 53 (0, 0)) := ⟨_, rfl⟩
  have n0 : W.heap[w.heap.size]? = some (.cells #[.int .i64 0, .int .i64 0, .int .u64 0, .int .i64 0, .int .i64 0] 53 (0, 0)) := by rw [hW]; exact heap_alloc_new _ _
  have nb : Below w.heap.size w W := by rw [hW]; exact below_alloc (Below.refl _ _) _
  obtain ⟨s, hsdef⟩ : ∃ s, s = sortP l := ⟨_, rfl⟩
  have sl : s.length = l.length := by rw [hsdef]; exact sortP_length l
  have ss : ∀ x ∈ s, smp x := fun x hx => hs x ((sortP_perm l).mem_iff.1 (by rw [← hsdef]; exact hx))
  rw [← hsdef]
  obtain ⟨N, hN⟩ : ∃ n, n = l.length := ⟨_, rfl⟩
  have hNs : s.length = N := by omega
  have HSO := Aside0.mk (ref_Sorted l.length (c := c) (Nat.le_refl _) rfl (Kd.C_below h nb) hc hl)
  have HFI := Aside0.mk (ref_fine (c := c) (Kd.C_below h nb) hl true (by
    symm
    rw [List.all_eq_true]
    intro x hx
    exact decide_eq_true (hs x hx)))
  rw [← hsdef, ← hN] at HSO
  rw [← hN] at HFI h hl hc h0 ⊢
  obtain ⟨r, hr⟩ : ∃ r, r = shareN s.length p := ⟨_, rfl⟩
  have hr2 : r = (rankP N (-p)).toNat := by rw [hr, hNs]; unfold shareN; rw [if_neg (by omega)]
  have HRN := Aside0.mk (rank_N (p := p) h0 hl (show 1 ≤ (-p : Int) ∧ (-p : Int) ≤ 100000000 by omega) hr2)
  have e2 := HRN.out.2.1
  have e3 := HRN.out.2.2.1
  have HLE := Aside0.mk hl
  clear hl hr2
  obtain ⟨part, hpart⟩ : ∃ q, q = shareL s p := ⟨_, rfl⟩
  have hp2 : part = s.drop (N - r) := by rw [hpart]; unfold shareL; rw [if_neg (by omega), ← hr, hNs]
  have hpl : part.length = r := by rw [hp2]; simp only [List.length_take, List.length_drop]; omega
  obtain ⟨ed, hed⟩ : ∃ q, q = edgeP s p := ⟨_, rfl⟩
  have hed2 : ed = rd s (N - r : Nat) := by rw [hed]; unfold edgeP; rw [if_neg (by omega), ← hr, hNs]
  obtain ⟨v1, v2, v3, v4⟩ := sh_rng (part := part) (fun x hx => ss x (by rw [hp2] at hx; exact List.mem_of_mem_drop hx)) hpl e2 (Nat.le_trans e3 HLE.out)
  have RES := Aside0.mk (show shareA s p = #[.int .i64 (r : Int), .int .i64 (hiW part.sum), .int .u64 (loW part.sum), .int .i64 (part.sum / (r : Int)), .int .i64 ed] by unfold shareA; rw [← hr, ← hpart, ← hed, v4])
  obtain ⟨sm, hsm⟩ : ∃ x, x = part.sum := ⟨_, rfl⟩
  have HWI := Aside0.mk (fun (W : World) (u : Value) (h : NumV W u part.sum) => ref_wideN h v1)
  have HPT := Aside0.mk (fun (W : World) (u : Value) (h : NumV W u part.sum) => ref_part (n := (r : Int)) h v1 v2 v3)
  rw [← hsm] at RES HWI HPT
  unfold WV at HWI
  obtain ⟨ua, hua⟩ : ∃ m, m = hiW sm := ⟨_, rfl⟩
  obtain ⟨ub, hub⟩ : ∃ m, m = loW sm := ⟨_, rfl⟩
  obtain ⟨me, hme⟩ : ∃ m, m = sm / (r : Int) := ⟨_, rfl⟩
  rw [← hua, ← hub] at RES HWI
  rw [← hme] at RES HPT
  have HRK := Aside0.mk (fun W => (show Calls Try.prog 22 #[.int .i64 (N : Int), .int .i64 (-p)] W (fun e w' => e = .returned (.tuple #[.int .i64 (r : Int), .int .i64 0]) ∧ Below W.heap.size W w') by
    have h3 := ref_Rank (n := (N : Int)) (p := -p) W (int_rng HLE.out)
    rw [if_neg (by omega), if_neg (by omega), HRN.out.1] at h3
    exact h3))
  -- the share's row, out of the sorted row
  have HCL := Aside0.mk (fun (W : World) (B : Option Addr) (cb : Nat) (h : Kd.C (Kd.int .i64) W B s.length s) (hcb : s.length ≤ cb) => show ∃ ad, B = some ad ∧ Kd.C (Kd.int .i64) W (some (if cb = N - r then ad else ad.add (N - r))) r part ∧ r ≤ cb - (N - r) ∧ W.cell? ((if cb = N - r then ad else ad.add (N - r)).add (0)) = some (.int .i64 ed) ∧ ad.add 0 = ad ∧ (cb = 0) = False ∧ (cb = N - r) = False by
    obtain ⟨ad, hA, c0⟩ := cell_rd h (i := N - r) (by omega)
    subst hA
    have ha0 : ad.add 0 = ad := by simp [Addr.add]
    refine ⟨ad, rfl, ?_, by omega, ?_, ha0, eq_false (by omega), eq_false (by omega)⟩
    · have t := Kd.C_drop (m := N - r) (c := cb) h (by omega) (by omega)
      rw [← hp2, hpl, if_neg (by omega)] at t
      have e := t
      rw [if_neg (by omega)]
      have hsz : (Kd.int IntKind.i64).sz = 1 := rfl
      rw [hsz, Nat.mul_one] at e
      exact e
    · rw [if_neg (by omega), show (ad.add (N - r)).add 0 = ad.add (N - r) by simp [Addr.add], hed2]
      exact c0
)
  have HSU := Aside0.mk (fun (V : World) (B : Option Addr) (cb : Nat) (hb : Kd.C (Kd.int .i64) V B r part) => (show Calls Try.prog 35 #[.slice B r cb] V (fun e w' => ∃ v, e = .returned v ∧ NumV w' v sm ∧ Below V.heap.size V w') by
    rw [hsm, ← hpl]
    rw [← hpl] at hb
    exact ref_sum hb (by rw [hpl]; exact Nat.le_trans e3 HLE.out) (fun x hx => ss x (by rw [hp2] at hx; exact List.mem_of_mem_drop hx))))
  obtain ⟨i5, hi5, hz⟩ := Option.map_eq_some_iff.1 info_i64
  simp only [Prod.mk.injEq] at hz
  have HI := Aside0.mk (And.intro hi5 hz.2.1)
  have HNS := Aside0.mk hNs
  have HW := Aside0.mk hW
  have NB := Aside0.mk nb
  have N0 := Aside0.mk n0
  have d0 : ((N : Int) == 0) = false := beq_eq_false_iff_ne.mpr (by omega)
  have d1 : (p == 0) = false := beq_eq_false_iff_ne.mpr (by omega)
  have d2 : decide (100000000 < p) = false := decide_eq_false (by omega)
  have d3 : decide (p < -100000000) = false := decide_eq_false (by omega)
  have d4 : decide (p < 0) = true := decide_eq_true (by omega)
  have d5 : decide (0 < p) = false := decide_eq_false (by omega)
  have d6 := (neg_small (p := p) (by omega)).1
  have d7 := (neg_small (p := p) (by omega)).2
  have f3 : r ≤ N := e3
  have f2 : 0 < r := e2
  have f4 : (0) < r := by omega
  have f5 : (0 : Int) ≤ (r : Int) := by omega
  have f6 : (r : Int) ≤ (N : Int) := by omega
  obtain ⟨-, -, -, e4, e5, e6, e7, e8, e9⟩ := HRN.out
  clear h hs hW n0 nb hsdef sl ss hN hNs hr hpart hp2 hpl hed hed2 v1 v2 v3 v4 hsm hua hub hme hi5 hz e2 e3 hc h0 hp
  go_enter Try.func26, Try.ntmps26
  go_upto_region 1 with (fail)
  rw [← HW.out]
  go_upto_region 16 with (first
    | (go_at_call 33; (with_reducible refine (HFI.out).mono ?_); rintro e w1 ⟨rfl, rfl⟩)
    | (go_at_call 34; (with_reducible refine (HSO.out).mono ?_); rintro e w1 ⟨A4, c4, rfl, h4, l4, b4⟩; have H4 := Aside0.mk h4; have L4 := Aside0.mk l4; have hl4 : N ≤ c4 := (by rw [← HNS.out]; exact l4); rw [HNS.out]; have HB4 := Aside0.mk (hop NB.out b4); have N4 := Aside0.mk ((b4.block _ (blk_lt N0.out)).trans N0.out); clear h4 l4 b4)
    | (go_at_call 22; (with_reducible refine (HRK.out _).mono ?_); rintro e w3 ⟨rfl, b3⟩; have H3 := Aside0.mk (Kd.C_below H4.out b3); have HB3 := Aside0.mk (hop HB4.out b3); have N3 := Aside0.mk ((b3.block _ (blk_lt N4.out)).trans N4.out); clear b3))
  obtain ⟨ad, rfl, hrow, hcp, hcell, ha0, hc0, hcm⟩ := HCL.out _ _ _ H3.out L4.out
  have HROW := Aside0.mk hrow
  have HCE := Aside0.mk hcell
  rw [if_neg (by omega)] at hrow hcell HROW HCE
  have hb0 : (ad.add (N - r)).add 0 = ad.add (N - r) := by simp [Addr.add]
  rw [hb0] at HCE
  have r1 := cut_from (P := Try.prog) 22 2 .i64 Try.underlying22 HI.out.1 1 HI.out.2 (some ad) N c4 ((N - r : Nat) : Int) (by omega) (by omega)
  rw [Int.toNat_natCast, if_neg (by omega), Nat.mul_one, show N - (N - r) = r by omega] at r1
  have r1 : ∀ W : World, (Instr.slice 22 (.slice (some ad) N c4) (some (.int .i64 ((N - r : Nat) : Int))) none none).run Try.prog W = .ok (.slice (some (ad.add (N - r))) r (c4 - (N - r))) W := r1
  have nnr : N - (N - r) = r := by omega
  clear hrow hcell hl4 H3 H4 L4 HCL HB4 N4 NB N0 HFI HSO
  go_upto_region 18 with (first
    | (go_at_call 35; (with_reducible refine (HSU.out _ _ _ HROW.out).mono ?_); rintro e w5 ⟨v, rfl, ⟨A5, c5, rfl, h5⟩, b5⟩; have H5 := Aside0.mk h5; have HB5 := Aside0.mk (hop HB3.out b5); have N5 := Aside0.mk ((b5.block _ (blk_lt N3.out)).trans N3.out); have C5 := Aside0.mk (pw_cell_below b5 HCE.out); clear h5 b5))
  have m5 := heap_alloc_new w5 (.cells #[.bool (decide (sm < 0)), .slice A5 (limbs sm.natAbs).length c5] 71 (0, 0))
  have b5 := below_alloc (Below.refl w5.heap.size w5) (.cells #[.bool (decide (sm < 0)), .slice A5 (limbs sm.natAbs).length c5] 71 (0, 0))
  obtain ⟨W5, hW5⟩ : ∃ W5, W5 = w5.alloc (.cells #[.bool (decide (sm < 0)), .slice A5 (limbs sm.natAbs).length c5] 71 (0, 0)) := ⟨_, rfl⟩
  rw [← hW5] at m5 b5 ⊢
  have hg5 : w.heap.size < w5.heap.size := blk_lt N5.out
  obtain ⟨g5, hg5e⟩ : ∃ g, g = w5.heap.size := ⟨_, rfl⟩
  rw [← hg5e] at m5 hg5 ⊢
  obtain ⟨bq, hb⟩ : ∃ b, b = decide (sm < 0) := ⟨_, rfl⟩
  obtain ⟨nl, hn⟩ : ∃ n, n = (limbs sm.natAbs).length := ⟨_, rfl⟩
  have HNV := Aside0.mk (fun (V : World) (hb2 : Lm V A5 c5 (limbs sm.natAbs)) => (show NumV V (.agg #[.bool bq, .slice A5 nl c5]) sm by rw [hb, hn]; exact NumV.of hb2))
  rw [← hb, ← hn] at m5 ⊢
  have k0 : W5.cell? ⟨g5, 0, none⟩ = some (.bool bq) := blk_cell m5 0
  have k1 : W5.cell? ⟨g5, 1, none⟩ = some (.slice A5 nl c5) := blk_cell m5 1
  have x0 := pw_cell_below b5 C5.out
  have M5 := Aside0.mk m5
  have L5 := Aside0.mk (H5.out.below b5)
  have BW := Aside0.mk (hop HB5.out b5)
  have T5 := Aside0.mk ((b5.block _ (blk_lt N5.out)).trans N5.out)
  have X0 := Aside0.mk x0
  have hne1 : (g5 = w.heap.size) = False := eq_false (by omega)
  have hne2 : (w.heap.size = g5) = False := eq_false (by omega)
  have hne3 : (g5 == w.heap.size) = false := beq_eq_false_iff_ne.mpr (by omega)
  have hne4 : (w.heap.size == g5) = false := beq_eq_false_iff_ne.mpr (by omega)
  clear m5 b5 hW5 hg5e HB5 N5 C5 H5 hb hn HROW HCE hg5 N3 HB3
  have HB := Aside0.mk (show Below W5.heap.size W5 W5.drew from (Below.refl _ _).drew)
  have E11 := Aside0.mk (show W5.drew.heap[w.heap.size]? = some (.cells #[.int .i64 0, .int .i64 0, .int .u64 0, .int .i64 0, .int .i64 0] 53 (0, 0)) from T5.out)
  refine start_ (n := 13) (S := fun w' => True) (ds := []) #[false, false, false, false, false, false, false, false, false, false, false, false, false] (by kernel_rfl) rfl rfl trivial (fun hHeld => ?_)
  refine with_tabW rup18n.tab rup18n.bits (fun HT_ HW_ => ?_)
  refine inv_at [0, 1, 2, 3, 4, 5, 6, 7, 8, 9, 10, 11, 12] (fun a0_ b a w' => a = putSel a0_ b [(0, 60, .int .i64 (r : Int)), (1, 61, .agg #[.bool bq, .slice A5 nl c5]), (2, 62, .agg #[.int .i64 ua, .int .u64 ub]), (3, 63, .agg #[.bool bq, .slice A5 nl c5]), (4, 64, .int .i64 (r : Int)), (5, 65, .int .i64 me), (6, 66, .slice (some (ad.add (N - r))) r (c4 - (N - r))), (7, 67, .int .i64 0), (8, 68, .pointer (some (ad.add (N - r)))), (9, 69, .int .i64 ed), (10, 70, .agg #[.int .i64 (r : Int), .int .i64 ua, .int .u64 ub, .int .i64 me, .int .i64 ed]), (12, 5, .int .i64 0)] ∧ (b 11 = false → Below W5.heap.size W5 w') ∧ (b 11 = false → w'.heap[w.heap.size]? = some (.cells #[.int .i64 0, .int .i64 0, .int .u64 0, .int .i64 0, .int .i64 0] 53 (0, 0))) ∧ (b 11 = true → w'.heap[w.heap.size]? = some (.cells #[.int .i64 (r : Int), .int .i64 ua, .int .u64 ub, .int .i64 me, .int .i64 ed] 53 (0, 0))) ∧ (b 11 = true → Keep W5 w' (fun k => k = w.heap.size))) HT_.out HW_.out (by kernel_rfl) (by kernel_rfl) ?_ ?_ ?_
  · exact ⟨by simp only [putSel, Bool.false_eq_true, if_false], fun _ => HB.out, fun _ => E11.out, fun h_ => absurd h_ (by decide), fun h_ => absurd h_ (by decide)⟩
  · skip
    clear E11 HB
    refine steps_cons ?_ ?_
    · rintro b a w' ⟨ha, Q_HB, Q_E11, Q_N11, Q_K11⟩ hb_ hon hoff
      refine ⟨_, rfl, fun K hK => ?_⟩
      have e8 : a.tmps[8]? = some (.int .i64 (r : Int)) := by rw [ha]; exact (putSel_off rfl).trans rfl
      replace ha := Aside0.mk ha
      have HB := Aside0.mk (Q_HB (hoff 11 (by kernel_rfl)))
      have E11 := Aside0.mk (Q_E11 (hoff 11 (by kernel_rfl)))
      refine value_ (w1 := w') (v := .int .i64 (r : Int)) (by rfl) rfl ?_ ?_
      · go_simp
        (try simp only [i64_w])
        try rfl
        try assumption
        try (unfold wrap64; omega)
      refine hK.out _ _ ⟨(by rw [ha.out]; exact putSel_upk 0 hb_ rfl rfl rfl), Q_HB, Q_E11, fun h0_ => absurd ((hoff 11 (by kernel_rfl)).symm.trans h0_) (by decide), fun h0_ => absurd ((hoff 11 (by kernel_rfl)).symm.trans h0_) (by decide)⟩
    refine steps_cons ?_ ?_
    · rintro b a w' ⟨ha, Q_HB, Q_E11, Q_N11, Q_K11⟩ hb_ hon hoff
      refine ⟨_, rfl, fun K hK => ?_⟩
      have e11 : a.tmps[11]? = some (.pointer (some ⟨g5, 0, none⟩)) := by rw [ha]; exact (putSel_off rfl).trans rfl
      replace ha := Aside0.mk ha
      have HB := Aside0.mk (Q_HB (hoff 11 (by kernel_rfl)))
      have E11 := Aside0.mk (Q_E11 (hoff 11 (by kernel_rfl)))
      have k0 := blk_cell ((HB.out.block _ (blk_lt M5.out)).trans M5.out) 0
      have k1 := blk_cell ((HB.out.block _ (blk_lt M5.out)).trans M5.out) 1
      refine value_ (w1 := w') (v := .agg #[.bool bq, .slice A5 nl c5]) (by rfl) rfl ?_ ?_
      · go_simp
        (try simp only [i64_w])
        try rfl
        try assumption
        try (unfold wrap64; omega)
      refine hK.out _ _ ⟨(by rw [ha.out]; exact putSel_upk 1 hb_ rfl rfl rfl), Q_HB, Q_E11, fun h0_ => absurd ((hoff 11 (by kernel_rfl)).symm.trans h0_) (by decide), fun h0_ => absurd ((hoff 11 (by kernel_rfl)).symm.trans h0_) (by decide)⟩
    refine steps_cons ?_ ?_
    · rintro b a w' ⟨ha, Q_HB, Q_E11, Q_N11, Q_K11⟩ hb_ hon hoff
      refine ⟨_, rfl, fun K hK => ?_⟩
      have e61 : a.tmps[61]? = some (.agg #[.bool bq, .slice A5 nl c5]) := by rw [ha]; exact putSel_on (e := (1, 61, .agg #[.bool bq, .slice A5 nl c5])) 1 rfl rfl (hon 1 (by kernel_rfl)) rfl
      replace ha := Aside0.mk ha
      have HB := Aside0.mk (Q_HB (hoff 11 (by kernel_rfl)))
      have E11 := Aside0.mk (Q_E11 (hoff 11 (by kernel_rfl)))
      refine goes_ Try.func36 (by kernel_rfl) rfl #[.agg #[.bool bq, .slice A5 nl c5]] (by rfl) rfl rfl (by first | (simp only [List.map_toArray, List.map_cons, List.map_nil, Act.eval, Array.getD_eq_getD_getElem?, Option.getD_some, e61]; done) | (simp only [List.map_toArray, List.map_cons, List.map_nil, Act.eval, Array.getD_eq_getD_getElem?, Option.getD_some, e61]; rfl)) ?_
      with_reducible refine (HWI.out _ _ (HNV.out _ (L5.out.below HB.out))).mono ?_
      rintro e w1 ⟨rfl, hb⟩
      refine ⟨_, rfl, ?_⟩
      refine hK.out _ _ ⟨(by rw [ha.out]; exact putSel_upk 2 hb_ rfl rfl rfl), fun h11 => hop HB.out hb, fun h11 => (hb.block _ (blk_lt (Q_E11 h11))).trans (Q_E11 h11), fun h0_ => absurd ((hoff 11 (by kernel_rfl)).symm.trans h0_) (by decide), fun h0_ => absurd ((hoff 11 (by kernel_rfl)).symm.trans h0_) (by decide)⟩
    refine steps_cons ?_ ?_
    · rintro b a w' ⟨ha, Q_HB, Q_E11, Q_N11, Q_K11⟩ hb_ hon hoff
      refine ⟨_, rfl, fun K hK => ?_⟩
      have e11 : a.tmps[11]? = some (.pointer (some ⟨g5, 0, none⟩)) := by rw [ha]; exact (putSel_off rfl).trans rfl
      replace ha := Aside0.mk ha
      have HB := Aside0.mk (Q_HB (hoff 11 (by kernel_rfl)))
      have E11 := Aside0.mk (Q_E11 (hoff 11 (by kernel_rfl)))
      have k0 := blk_cell ((HB.out.block _ (blk_lt M5.out)).trans M5.out) 0
      have k1 := blk_cell ((HB.out.block _ (blk_lt M5.out)).trans M5.out) 1
      refine value_ (w1 := w') (v := .agg #[.bool bq, .slice A5 nl c5]) (by rfl) rfl ?_ ?_
      · go_simp
        (try simp only [i64_w])
        try rfl
        try assumption
        try (unfold wrap64; omega)
      refine hK.out _ _ ⟨(by rw [ha.out]; exact putSel_upk 3 hb_ rfl rfl rfl), Q_HB, Q_E11, fun h0_ => absurd ((hoff 11 (by kernel_rfl)).symm.trans h0_) (by decide), fun h0_ => absurd ((hoff 11 (by kernel_rfl)).symm.trans h0_) (by decide)⟩
    refine steps_cons ?_ ?_
    · rintro b a w' ⟨ha, Q_HB, Q_E11, Q_N11, Q_K11⟩ hb_ hon hoff
      refine ⟨_, rfl, fun K hK => ?_⟩
      have e8 : a.tmps[8]? = some (.int .i64 (r : Int)) := by rw [ha]; exact (putSel_off rfl).trans rfl
      replace ha := Aside0.mk ha
      have HB := Aside0.mk (Q_HB (hoff 11 (by kernel_rfl)))
      have E11 := Aside0.mk (Q_E11 (hoff 11 (by kernel_rfl)))
      refine value_ (w1 := w') (v := .int .i64 (r : Int)) (by rfl) rfl ?_ ?_
      · go_simp
        (try simp only [i64_w])
        try rfl
        try assumption
        try (unfold wrap64; omega)
      refine hK.out _ _ ⟨(by rw [ha.out]; exact putSel_upk 4 hb_ rfl rfl rfl), Q_HB, Q_E11, fun h0_ => absurd ((hoff 11 (by kernel_rfl)).symm.trans h0_) (by decide), fun h0_ => absurd ((hoff 11 (by kernel_rfl)).symm.trans h0_) (by decide)⟩
    refine steps_cons ?_ ?_
    · rintro b a w' ⟨ha, Q_HB, Q_E11, Q_N11, Q_K11⟩ hb_ hon hoff
      refine ⟨_, rfl, fun K hK => ?_⟩
      have e63 : a.tmps[63]? = some (.agg #[.bool bq, .slice A5 nl c5]) := by rw [ha]; exact putSel_on (e := (3, 63, .agg #[.bool bq, .slice A5 nl c5])) 3 rfl rfl (hon 3 (by kernel_rfl)) rfl
      have e64 : a.tmps[64]? = some (.int .i64 (r : Int)) := by rw [ha]; exact putSel_on (e := (4, 64, .int .i64 (r : Int))) 4 rfl rfl (hon 4 (by kernel_rfl)) rfl
      replace ha := Aside0.mk ha
      have HB := Aside0.mk (Q_HB (hoff 11 (by kernel_rfl)))
      have E11 := Aside0.mk (Q_E11 (hoff 11 (by kernel_rfl)))
      refine goes_ Try.func37 (by kernel_rfl) rfl #[.agg #[.bool bq, .slice A5 nl c5], .int .i64 (r : Int)] (by rfl) rfl rfl (by first | (simp only [List.map_toArray, List.map_cons, List.map_nil, Act.eval, Array.getD_eq_getD_getElem?, Option.getD_some, e63, e64]; done) | (simp only [List.map_toArray, List.map_cons, List.map_nil, Act.eval, Array.getD_eq_getD_getElem?, Option.getD_some, e63, e64]; rfl)) ?_
      with_reducible refine (HPT.out _ _ (HNV.out _ (L5.out.below HB.out))).mono ?_
      rintro e w1 ⟨rfl, hb⟩
      refine ⟨_, rfl, ?_⟩
      refine hK.out _ _ ⟨(by rw [ha.out]; exact putSel_upk 5 hb_ rfl rfl rfl), fun h11 => hop HB.out hb, fun h11 => (hb.block _ (blk_lt (Q_E11 h11))).trans (Q_E11 h11), fun h0_ => absurd ((hoff 11 (by kernel_rfl)).symm.trans h0_) (by decide), fun h0_ => absurd ((hoff 11 (by kernel_rfl)).symm.trans h0_) (by decide)⟩
    refine steps_cons ?_ ?_
    · rintro b a w' ⟨ha, Q_HB, Q_E11, Q_N11, Q_K11⟩ hb_ hon hoff
      refine ⟨_, rfl, fun K hK => ?_⟩
      have e6 : a.tmps[6]? = some (.slice (some (ad.add (N - r))) r (c4 - (N - r))) := by rw [ha]; exact (putSel_off rfl).trans rfl
      replace ha := Aside0.mk ha
      have HB := Aside0.mk (Q_HB (hoff 11 (by kernel_rfl)))
      have E11 := Aside0.mk (Q_E11 (hoff 11 (by kernel_rfl)))
      refine value_ (w1 := w') (v := .slice (some (ad.add (N - r))) r (c4 - (N - r))) (by rfl) rfl ?_ ?_
      · go_simp
        (try simp only [i64_w])
        try rfl
        try assumption
        try (unfold wrap64; omega)
      refine hK.out _ _ ⟨(by rw [ha.out]; exact putSel_upk 6 hb_ rfl rfl rfl), Q_HB, Q_E11, fun h0_ => absurd ((hoff 11 (by kernel_rfl)).symm.trans h0_) (by decide), fun h0_ => absurd ((hoff 11 (by kernel_rfl)).symm.trans h0_) (by decide)⟩
    refine steps_cons ?_ ?_
    · rintro b a w' ⟨ha, Q_HB, Q_E11, Q_N11, Q_K11⟩ hb_ hon hoff
      refine ⟨_, rfl, fun K hK => ?_⟩
      have e10 : a.tmps[10]? = some (.int .i64 0) := by rw [ha]; exact (putSel_off rfl).trans rfl
      replace ha := Aside0.mk ha
      have HB := Aside0.mk (Q_HB (hoff 11 (by kernel_rfl)))
      have E11 := Aside0.mk (Q_E11 (hoff 11 (by kernel_rfl)))
      refine value_ (w1 := w') (v := .int .i64 0) (by rfl) rfl ?_ ?_
      · go_simp
        (try simp only [i64_w])
        try rfl
        try assumption
        try (unfold wrap64; omega)
      refine hK.out _ _ ⟨(by rw [ha.out]; exact putSel_upk 7 hb_ rfl rfl rfl), Q_HB, Q_E11, fun h0_ => absurd ((hoff 11 (by kernel_rfl)).symm.trans h0_) (by decide), fun h0_ => absurd ((hoff 11 (by kernel_rfl)).symm.trans h0_) (by decide)⟩
    refine steps_cons ?_ ?_
    · rintro b a w' ⟨ha, Q_HB, Q_E11, Q_N11, Q_K11⟩ hb_ hon hoff
      refine ⟨_, rfl, fun K hK => ?_⟩
      have e66 : a.tmps[66]? = some (.slice (some (ad.add (N - r))) r (c4 - (N - r))) := by rw [ha]; exact putSel_on (e := (6, 66, .slice (some (ad.add (N - r))) r (c4 - (N - r)))) 6 rfl rfl (hon 6 (by kernel_rfl)) rfl
      have e67 : a.tmps[67]? = some (.int .i64 0) := by rw [ha]; exact putSel_on (e := (7, 67, .int .i64 0)) 7 rfl rfl (hon 7 (by kernel_rfl)) rfl
      replace ha := Aside0.mk ha
      have HB := Aside0.mk (Q_HB (hoff 11 (by kernel_rfl)))
      have E11 := Aside0.mk (Q_E11 (hoff 11 (by kernel_rfl)))
      refine value_ (w1 := w') (v := .pointer (some (ad.add (N - r)))) (by rfl) rfl ?_ ?_
      · go_simp
        (try simp only [i64_w])
        try rfl
        try assumption
        try (unfold wrap64; omega)
      refine hK.out _ _ ⟨(by rw [ha.out]; exact putSel_upk 8 hb_ rfl rfl rfl), Q_HB, Q_E11, fun h0_ => absurd ((hoff 11 (by kernel_rfl)).symm.trans h0_) (by decide), fun h0_ => absurd ((hoff 11 (by kernel_rfl)).symm.trans h0_) (by decide)⟩
    refine steps_cons ?_ ?_
    · rintro b a w' ⟨ha, Q_HB, Q_E11, Q_N11, Q_K11⟩ hb_ hon hoff
      refine ⟨_, rfl, fun K hK => ?_⟩
      have e68 : a.tmps[68]? = some (.pointer (some (ad.add (N - r)))) := by rw [ha]; exact putSel_on (e := (8, 68, .pointer (some (ad.add (N - r))))) 8 rfl rfl (hon 8 (by kernel_rfl)) rfl
      replace ha := Aside0.mk ha
      have HB := Aside0.mk (Q_HB (hoff 11 (by kernel_rfl)))
      have E11 := Aside0.mk (Q_E11 (hoff 11 (by kernel_rfl)))
      have k0 := pw_cell_below HB.out X0.out
      refine value_ (w1 := w') (v := .int .i64 ed) (by rfl) rfl ?_ ?_
      · go_simp
        (try simp only [i64_w])
        try rfl
        try assumption
        try (unfold wrap64; omega)
      refine hK.out _ _ ⟨(by rw [ha.out]; exact putSel_upk 9 hb_ rfl rfl rfl), Q_HB, Q_E11, fun h0_ => absurd ((hoff 11 (by kernel_rfl)).symm.trans h0_) (by decide), fun h0_ => absurd ((hoff 11 (by kernel_rfl)).symm.trans h0_) (by decide)⟩
    refine steps_cons ?_ ?_
    · rintro b a w' ⟨ha, Q_HB, Q_E11, Q_N11, Q_K11⟩ hb_ hon hoff
      refine ⟨_, rfl, fun K hK => ?_⟩
      have e60 : a.tmps[60]? = some (.int .i64 (r : Int)) := by rw [ha]; exact putSel_on (e := (0, 60, .int .i64 (r : Int))) 0 rfl rfl (hon 0 (by kernel_rfl)) rfl
      have e62 : a.tmps[62]? = some (.agg #[.int .i64 ua, .int .u64 ub]) := by rw [ha]; exact putSel_on (e := (2, 62, .agg #[.int .i64 ua, .int .u64 ub])) 2 rfl rfl (hon 2 (by kernel_rfl)) rfl
      have e65 : a.tmps[65]? = some (.int .i64 me) := by rw [ha]; exact putSel_on (e := (5, 65, .int .i64 me)) 5 rfl rfl (hon 5 (by kernel_rfl)) rfl
      have e69 : a.tmps[69]? = some (.int .i64 ed) := by rw [ha]; exact putSel_on (e := (9, 69, .int .i64 ed)) 9 rfl rfl (hon 9 (by kernel_rfl)) rfl
      replace ha := Aside0.mk ha
      have HB := Aside0.mk (Q_HB (hoff 11 (by kernel_rfl)))
      have E11 := Aside0.mk (Q_E11 (hoff 11 (by kernel_rfl)))
      refine value_ (w1 := w') (v := .agg #[.int .i64 (r : Int), .int .i64 ua, .int .u64 ub, .int .i64 me, .int .i64 ed]) (by rfl) rfl ?_ ?_
      · go_simp
        (try simp only [i64_w])
        try rfl
        try assumption
        try (unfold wrap64; omega)
      refine hK.out _ _ ⟨(by rw [ha.out]; exact putSel_upk 10 hb_ rfl rfl rfl), Q_HB, Q_E11, fun h0_ => absurd ((hoff 11 (by kernel_rfl)).symm.trans h0_) (by decide), fun h0_ => absurd ((hoff 11 (by kernel_rfl)).symm.trans h0_) (by decide)⟩
    refine steps_cons ?_ ?_
    · rintro b a w' ⟨ha, Q_HB, Q_E11, Q_N11, Q_K11⟩ hb_ hon hoff
      refine ⟨_, rfl, fun K hK => ?_⟩
      have e4 : a.tmps[4]? = some (.pointer (some ⟨w.heap.size, 0, none⟩)) := by rw [ha]; exact (putSel_off rfl).trans rfl
      have e70 : a.tmps[70]? = some (.agg #[.int .i64 (r : Int), .int .i64 ua, .int .u64 ub, .int .i64 me, .int .i64 ed]) := by rw [ha]; exact putSel_on (e := (10, 70, .agg #[.int .i64 (r : Int), .int .i64 ua, .int .u64 ub, .int .i64 me, .int .i64 ed])) 10 rfl rfl (hon 10 (by kernel_rfl)) rfl
      replace ha := Aside0.mk ha
      have HB := Aside0.mk (Q_HB hb_)
      have E11 := Aside0.mk (Q_E11 hb_)
      have hk : Keep w' (((((w'.setCell ⟨w.heap.size, 0, none⟩ (.int .i64 (r : Int))).setCell ⟨w.heap.size, 1, none⟩ (.int .i64 ua)).setCell ⟨w.heap.size, 2, none⟩ (.int .u64 ub)).setCell ⟨w.heap.size, 3, none⟩ (.int .i64 me)).setCell ⟨w.heap.size, 4, none⟩ (.int .i64 ed)) (fun k => k = w.heap.size) := ((((((Keep.refl w' (fun k => k = w.heap.size)).set ⟨w.heap.size, 0, none⟩ (.int .i64 (r : Int)) (.inl rfl)).set ⟨w.heap.size, 1, none⟩ (.int .i64 ua) (.inl rfl)).set ⟨w.heap.size, 2, none⟩ (.int .u64 ub) (.inl rfl)).set ⟨w.heap.size, 3, none⟩ (.int .i64 me) (.inl rfl)).set ⟨w.heap.size, 4, none⟩ (.int .i64 ed) (.inl rfl))
      have y0 := blk_cell E11.out 0
      have y1 := blk_cell E11.out 1
      have y2 := blk_cell E11.out 2
      have y3 := blk_cell E11.out 3
      have y4 := blk_cell E11.out 4
      have z0 := blk_frozen E11.out 0
      have z1 := blk_frozen E11.out 1
      have z2 := blk_frozen E11.out 2
      have z3 := blk_frozen E11.out 3
      have z4 := blk_frozen E11.out 4
      refine skip_ (w1 := (((((w'.setCell ⟨w.heap.size, 0, none⟩ (.int .i64 (r : Int))).setCell ⟨w.heap.size, 1, none⟩ (.int .i64 ua)).setCell ⟨w.heap.size, 2, none⟩ (.int .u64 ub)).setCell ⟨w.heap.size, 3, none⟩ (.int .i64 me)).setCell ⟨w.heap.size, 4, none⟩ (.int .i64 ed))) (by rfl) rfl ?_ ?_
      · go_simp
        try rfl
        try assumption
        try (unfold wrap64; omega)
      refine hK.out _ _ ⟨(by rw [ha.out]; exact putSel_none (v := undef) rfl), fun h0_ => absurd ((up_self b 11).symm.trans h0_) (by decide), fun h0_ => absurd ((up_self b 11).symm.trans h0_) (by decide), fun _ => (blk_put (blk_put (blk_put (blk_put (blk_put E11.out 0 (.int .i64 (r : Int)) rfl) 1 (.int .i64 ua) rfl) 2 (.int .u64 ub) rfl) 3 (.int .i64 me) rfl) 4 (.int .i64 ed) rfl), fun _ => (Keep.of_below HB.out).trans hk (fun _ _ (q : False) => q.elim) (fun _ _ q => q)⟩
    refine steps_cons ?_ ?_
    · rintro b a w' ⟨ha, Q_HB, Q_E11, Q_N11, Q_K11⟩ hb_ hon hoff
      refine ⟨_, rfl, fun K hK => ?_⟩
      replace ha := Aside0.mk ha
      have N11 := Aside0.mk (Q_N11 (hon 11 (by kernel_rfl)))
      have K11 := Aside0.mk (Q_K11 (hon 11 (by kernel_rfl)))
      refine value_ (w1 := w') (v := .int .i64 0) (by rfl) rfl ?_ ?_
      · go_simp
        (try simp only [i64_w])
        try rfl
        try assumption
        try (unfold wrap64; omega)
      refine hK.out _ _ ⟨(by rw [ha.out]; exact putSel_upk 11 hb_ rfl rfl rfl), fun h0_ => absurd ((hon 11 (by kernel_rfl)).symm.trans h0_) (by decide), fun h0_ => absurd ((hon 11 (by kernel_rfl)).symm.trans h0_) (by decide), Q_N11, Q_K11⟩
    exact steps_nil
  · rintro b a w' hall ⟨ha, Q_HB, Q_E11, Q_N11, Q_K11⟩
    clear E11 HB
    have hb0_ := hall 0 (by kernel_rfl)
    have hb1_ := hall 1 (by kernel_rfl)
    have hb2_ := hall 2 (by kernel_rfl)
    have hb3_ := hall 3 (by kernel_rfl)
    have hb4_ := hall 4 (by kernel_rfl)
    have hb5_ := hall 5 (by kernel_rfl)
    have hb6_ := hall 6 (by kernel_rfl)
    have hb7_ := hall 7 (by kernel_rfl)
    have hb8_ := hall 8 (by kernel_rfl)
    have hb9_ := hall 9 (by kernel_rfl)
    have hb10_ := hall 10 (by kernel_rfl)
    have hb11_ := hall 11 (by kernel_rfl)
    have hb12_ := hall 12 (by kernel_rfl)
    subst ha
    simp only [putSel, hb0_, hb1_, hb2_, hb3_, hb4_, hb5_, hb6_, hb7_, hb8_, hb9_, hb10_, hb11_, hb12_, if_true, Act.put, List.setIfInBounds_toArray, List.set_cons_zero, List.set_cons_succ]
    clear Q_HB
    clear Q_E11
    have N11 := Aside0.mk (Q_N11 hb11_)
    clear Q_N11
    have K11 := Aside0.mk (Q_K11 hb11_)
    clear Q_K11
    clear hall hb0_ hb1_ hb2_ hb3_ hb4_ hb5_ hb6_ hb7_ hb8_ hb9_ hb10_ hb11_ hb12_
    go_wp2_with (fail)
    rw [RES.out]
    refine bodyPost_ret (results_ct rfl _ _ w.heap.size 53 _ (0, 0) _ rfl N11.out Try.underlying53 rfl (by kernel_rfl)) rfl ?_
    exact ⟨rfl, BW.out.trans (K11.out.below BW.out.size (fun k e => Nat.le_of_eq e.symm))⟩
end Go.Proofs.Ythnihjfdmkfkiaa.Q

namespace Go.Proofs.Ythnihjfdmkfkiaa.Q
open Go.RowKit Go.Proofs.YthnihjfdmkfkiaaW.PrintWords Go.Proofs.YthnihjfdmkfkiaaW.PrintLast Go.Proofs.YthnihjfdmkfkiaaW.PrintMore Go.Proofs.YthnihjfdmkfkiaaV
set_option linter.unusedVariables false
set_option linter.unusedSimpArgs false

theorem some_notU {l : List Int} (h : ¬ ∀ x ∈ l, smp x) : ∃ x, x ∈ l ∧ ¬ decide (smp x) = true := by
  apply Classical.byContradiction
  intro hn
  apply h
  intro x hx
  apply Classical.byContradiction
  intro hx2
  exact hn ⟨x, hx, by simpa using hx2⟩
set_option maxHeartbeats 1600000 in
theorem refUp_not {w : World} {A : Option Addr} {c : Nat} {l : List Int} {p : Int} (h : Kd.C (Kd.int .i64) w A l.length l) (hl : l.length ≤ 1048576) (hs0 : ¬ ∀ x ∈ l, smp x) :
    Calls Try.prog 26 #[.slice A l.length c, .int .i64 p] w fun e w' => e = .returned (.tuple #[.agg #[.int .i64 0, .int .i64 0, .int .u64 0, .int .i64 0, .int .i64 0], .int .i64 93]) ∧ Below w.heap.size w w' := by
  obtain ⟨W, hW⟩ : ∃ W, W = w.alloc (.cells #[.int .i64 0, .int .i64 0, .int .u64 0, .int .i64 0, .int .i64 0] 53 (0, 0)) := ⟨_, rfl⟩
  have n0 : W.heap[w.heap.size]? = some (.cells #[.int .i64 0, .int .i64 0, .int .u64 0, .int .i64 0, .int .i64 0] 53 (0, 0)) := by rw [hW]; exact heap_alloc_new _ _
  have nb : Below w.heap.size w W := by rw [hW]; exact below_alloc (Below.refl _ _) _
  have HFI := Aside0.mk (ref_fine (c := c) (Kd.C_below h nb) hl false (by rw [eq_comm, List.all_eq_false]; exact some_notU hs0))
  have HW := Aside0.mk hW
  have NB := Aside0.mk nb
  have N0 := Aside0.mk n0
  clear hW n0 nb h hl
  go_enter Try.func26, Try.ntmps26
  go_upto_region 1 with (fail)
  rw [← HW.out]
  have z0 := blk_cell N0.out 0
  have y0 := blk_frozen N0.out 0
  have z1 := blk_cell N0.out 1
  have y1 := blk_frozen N0.out 1
  have z2 := blk_cell N0.out 2
  have y2 := blk_frozen N0.out 2
  have z3 := blk_cell N0.out 3
  have y3 := blk_frozen N0.out 3
  have z4 := blk_cell N0.out 4
  have y4 := blk_frozen N0.out 4
  go_wp2_with (first
    | (go_at_call 33; (with_reducible refine (HFI.out).mono ?_); rintro e w1 ⟨rfl, rfl⟩))
  have hf := (blk_put (blk_put (blk_put (blk_put (blk_put N0.out 0 (.int .i64 0) rfl) 1 (.int .i64 0) rfl) 2 (.int .u64 0) rfl) 3 (.int .i64 0) rfl) 4 (.int .i64 0) rfl)
  refine bodyPost_ret (results_ct rfl _ _ w.heap.size 53 _ (0, 0) _ rfl hf Try.underlying53 rfl (by kernel_rfl)) rfl ?_
  exact ⟨rfl, (((((NB.out.setCell (Nat.le_refl _) _).setCell (Nat.le_refl _) _).setCell (Nat.le_refl _) _).setCell (Nat.le_refl _) _).setCell (Nat.le_refl _) _)⟩
set_option maxHeartbeats 1600000 in
theorem refUp_zero {w : World} {A : Option Addr} {c : Nat} {l : List Int} {p : Int} (h : Kd.C (Kd.int .i64) w A l.length l) (hl : l.length ≤ 1048576) (hs : ∀ x ∈ l, smp x) (hp : p = 0) :
    Calls Try.prog 26 #[.slice A l.length c, .int .i64 p] w fun e w' => e = .returned (.tuple #[.agg #[.int .i64 0, .int .i64 0, .int .u64 0, .int .i64 0, .int .i64 0], .int .i64 91]) ∧ Below w.heap.size w w' := by
  obtain ⟨W, hW⟩ : ∃ W, W = w.alloc (.cells #[.int .i64 0, .int .i64 0, .int .u64 0, .int .i64 0, .int .i64 0] 53 (0, 0)) := ⟨_, rfl⟩
  have n0 : W.heap[w.heap.size]? = some (.cells #[.int .i64 0, .int .i64 0, .int .u64 0, .int .i64 0, .int .i64 0] 53 (0, 0)) := by rw [hW]; exact heap_alloc_new _ _
  have nb : Below w.heap.size w W := by rw [hW]; exact below_alloc (Below.refl _ _) _
  have HFI := Aside0.mk (ref_fine (c := c) (Kd.C_below h nb) hl true (by symm; rw [List.all_eq_true]; intro x hx; exact decide_eq_true (hs x hx)))
  have HW := Aside0.mk hW
  have NB := Aside0.mk nb
  have N0 := Aside0.mk n0
  have d1 : (p == 0) = true := beq_iff_eq.mpr hp
  clear hp
  clear hW n0 nb h hl
  go_enter Try.func26, Try.ntmps26
  go_upto_region 1 with (fail)
  rw [← HW.out]
  have z0 := blk_cell N0.out 0
  have y0 := blk_frozen N0.out 0
  have z1 := blk_cell N0.out 1
  have y1 := blk_frozen N0.out 1
  have z2 := blk_cell N0.out 2
  have y2 := blk_frozen N0.out 2
  have z3 := blk_cell N0.out 3
  have y3 := blk_frozen N0.out 3
  have z4 := blk_cell N0.out 4
  have y4 := blk_frozen N0.out 4
  go_wp2_with (first
    | (go_at_call 33; (with_reducible refine (HFI.out).mono ?_); rintro e w1 ⟨rfl, rfl⟩))
  have hf := (blk_put (blk_put (blk_put (blk_put (blk_put N0.out 0 (.int .i64 0) rfl) 1 (.int .i64 0) rfl) 2 (.int .u64 0) rfl) 3 (.int .i64 0) rfl) 4 (.int .i64 0) rfl)
  refine bodyPost_ret (results_ct rfl _ _ w.heap.size 53 _ (0, 0) _ rfl hf Try.underlying53 rfl (by kernel_rfl)) rfl ?_
  exact ⟨rfl, (((((NB.out.setCell (Nat.le_refl _) _).setCell (Nat.le_refl _) _).setCell (Nat.le_refl _) _).setCell (Nat.le_refl _) _).setCell (Nat.le_refl _) _)⟩
set_option maxHeartbeats 1600000 in
theorem refUp_high {w : World} {A : Option Addr} {c : Nat} {l : List Int} {p : Int} (h : Kd.C (Kd.int .i64) w A l.length l) (hl : l.length ≤ 1048576) (hs : ∀ x ∈ l, smp x) (hp : 100000000 < p) :
    Calls Try.prog 26 #[.slice A l.length c, .int .i64 p] w fun e w' => e = .returned (.tuple #[.agg #[.int .i64 0, .int .i64 0, .int .u64 0, .int .i64 0, .int .i64 0], .int .i64 91]) ∧ Below w.heap.size w w' := by
  obtain ⟨W, hW⟩ : ∃ W, W = w.alloc (.cells #[.int .i64 0, .int .i64 0, .int .u64 0, .int .i64 0, .int .i64 0] 53 (0, 0)) := ⟨_, rfl⟩
  have n0 : W.heap[w.heap.size]? = some (.cells #[.int .i64 0, .int .i64 0, .int .u64 0, .int .i64 0, .int .i64 0] 53 (0, 0)) := by rw [hW]; exact heap_alloc_new _ _
  have nb : Below w.heap.size w W := by rw [hW]; exact below_alloc (Below.refl _ _) _
  have HFI := Aside0.mk (ref_fine (c := c) (Kd.C_below h nb) hl true (by symm; rw [List.all_eq_true]; intro x hx; exact decide_eq_true (hs x hx)))
  have HW := Aside0.mk hW
  have NB := Aside0.mk nb
  have N0 := Aside0.mk n0
  have d1 : (p == 0) = false := beq_eq_false_iff_ne.mpr (by omega)
  have d2 : decide (100000000 < p) = true := decide_eq_true hp
  clear hW n0 nb h hl
  go_enter Try.func26, Try.ntmps26
  go_upto_region 1 with (fail)
  rw [← HW.out]
  have z0 := blk_cell N0.out 0
  have y0 := blk_frozen N0.out 0
  have z1 := blk_cell N0.out 1
  have y1 := blk_frozen N0.out 1
  have z2 := blk_cell N0.out 2
  have y2 := blk_frozen N0.out 2
  have z3 := blk_cell N0.out 3
  have y3 := blk_frozen N0.out 3
  have z4 := blk_cell N0.out 4
  have y4 := blk_frozen N0.out 4
  go_wp2_with (first
    | (go_at_call 33; (with_reducible refine (HFI.out).mono ?_); rintro e w1 ⟨rfl, rfl⟩))
  have hf := (blk_put (blk_put (blk_put (blk_put (blk_put N0.out 0 (.int .i64 0) rfl) 1 (.int .i64 0) rfl) 2 (.int .u64 0) rfl) 3 (.int .i64 0) rfl) 4 (.int .i64 0) rfl)
  refine bodyPost_ret (results_ct rfl _ _ w.heap.size 53 _ (0, 0) _ rfl hf Try.underlying53 rfl (by kernel_rfl)) rfl ?_
  exact ⟨rfl, (((((NB.out.setCell (Nat.le_refl _) _).setCell (Nat.le_refl _) _).setCell (Nat.le_refl _) _).setCell (Nat.le_refl _) _).setCell (Nat.le_refl _) _)⟩
set_option maxHeartbeats 1600000 in
theorem refUp_low {w : World} {A : Option Addr} {c : Nat} {l : List Int} {p : Int} (h : Kd.C (Kd.int .i64) w A l.length l) (hl : l.length ≤ 1048576) (hs : ∀ x ∈ l, smp x) (hp : p < -100000000) :
    Calls Try.prog 26 #[.slice A l.length c, .int .i64 p] w fun e w' => e = .returned (.tuple #[.agg #[.int .i64 0, .int .i64 0, .int .u64 0, .int .i64 0, .int .i64 0], .int .i64 91]) ∧ Below w.heap.size w w' := by
  obtain ⟨W, hW⟩ : ∃ W, W = w.alloc (.cells #[.int .i64 0, .int .i64 0, .int .u64 0, .int .i64 0, .int .i64 0] 53 (0, 0)) := ⟨_, rfl⟩
  have n0 : W.heap[w.heap.size]? = some (.cells #[.int .i64 0, .int .i64 0, .int .u64 0, .int .i64 0, .int .i64 0] 53 (0, 0)) := by rw [hW]; exact heap_alloc_new _ _
  have nb : Below w.heap.size w W := by rw [hW]; exact below_alloc (Below.refl _ _) _
  have HFI := Aside0.mk (ref_fine (c := c) (Kd.C_below h nb) hl true (by symm; rw [List.all_eq_true]; intro x hx; exact decide_eq_true (hs x hx)))
  have HW := Aside0.mk hW
  have NB := Aside0.mk nb
  have N0 := Aside0.mk n0
  have d1 : (p == 0) = false := beq_eq_false_iff_ne.mpr (by omega)
  have d2 : decide (100000000 < p) = false := decide_eq_false (by omega)
  have d3 : decide (p < -100000000) = true := decide_eq_true hp
  clear hW n0 nb h hl
  go_enter Try.func26, Try.ntmps26
  go_upto_region 1 with (fail)
  rw [← HW.out]
  have z0 := blk_cell N0.out 0
  have y0 := blk_frozen N0.out 0
  have z1 := blk_cell N0.out 1
  have y1 := blk_frozen N0.out 1
  have z2 := blk_cell N0.out 2
  have y2 := blk_frozen N0.out 2
  have z3 := blk_cell N0.out 3
  have y3 := blk_frozen N0.out 3
  have z4 := blk_cell N0.out 4
  have y4 := blk_frozen N0.out 4
  go_wp2_with (first
    | (go_at_call 33; (with_reducible refine (HFI.out).mono ?_); rintro e w1 ⟨rfl, rfl⟩))
  have hf := (blk_put (blk_put (blk_put (blk_put (blk_put N0.out 0 (.int .i64 0) rfl) 1 (.int .i64 0) rfl) 2 (.int .u64 0) rfl) 3 (.int .i64 0) rfl) 4 (.int .i64 0) rfl)
  refine bodyPost_ret (results_ct rfl _ _ w.heap.size 53 _ (0, 0) _ rfl hf Try.underlying53 rfl (by kernel_rfl)) rfl ?_
  exact ⟨rfl, (((((NB.out.setCell (Nat.le_refl _) _).setCell (Nat.le_refl _) _).setCell (Nat.le_refl _) _).setCell (Nat.le_refl _) _).setCell (Nat.le_refl _) _)⟩
set_option maxHeartbeats 1600000 in
theorem refUp_nil {w : World} {A : Option Addr} {c : Nat} {l : List Int} {p : Int} (h : Kd.C (Kd.int .i64) w A l.length l) (hl : l.length ≤ 1048576) (hs : ∀ x ∈ l, smp x) (h0 : l.length = 0) (hp : p ≠ 0 ∧ p ≤ 100000000 ∧ -100000000 ≤ p) :
    Calls Try.prog 26 #[.slice A l.length c, .int .i64 p] w fun e w' => e = .returned (.tuple #[.agg #[.int .i64 0, .int .i64 0, .int .u64 0, .int .i64 0, .int .i64 0], .int .i64 90]) ∧ Below w.heap.size w w' := by
  obtain ⟨W, hW⟩ : ∃ W, W = w.alloc (.cells #[.int .i64 0, .int .i64 0, .int .u64 0, .int .i64 0, .int .i64 0] 53 (0, 0)) := ⟨_, rfl⟩
  have n0 : W.heap[w.heap.size]? = some (.cells #[.int .i64 0, .int .i64 0, .int .u64 0, .int .i64 0, .int .i64 0] 53 (0, 0)) := by rw [hW]; exact heap_alloc_new _ _
  have nb : Below w.heap.size w W := by rw [hW]; exact below_alloc (Below.refl _ _) _
  have HFI := Aside0.mk (ref_fine (c := c) (Kd.C_below h nb) hl true (by symm; rw [List.all_eq_true]; intro x hx; exact decide_eq_true (hs x hx)))
  have HW := Aside0.mk hW
  have NB := Aside0.mk nb
  have N0 := Aside0.mk n0
  have d1 : (p == 0) = false := beq_eq_false_iff_ne.mpr hp.1
  have d2 : decide (100000000 < p) = false := decide_eq_false (by omega)
  have d3 : decide (p < -100000000) = false := decide_eq_false (by omega)
  have d0 : ((l.length : Int) == 0) = true := beq_iff_eq.mpr (by omega)
  clear hp h0
  clear hW n0 nb h hl
  go_enter Try.func26, Try.ntmps26
  go_upto_region 1 with (fail)
  rw [← HW.out]
  have z0 := blk_cell N0.out 0
  have y0 := blk_frozen N0.out 0
  have z1 := blk_cell N0.out 1
  have y1 := blk_frozen N0.out 1
  have z2 := blk_cell N0.out 2
  have y2 := blk_frozen N0.out 2
  have z3 := blk_cell N0.out 3
  have y3 := blk_frozen N0.out 3
  have z4 := blk_cell N0.out 4
  have y4 := blk_frozen N0.out 4
  go_wp2_with (first
    | (go_at_call 33; (with_reducible refine (HFI.out).mono ?_); rintro e w1 ⟨rfl, rfl⟩))
  have hf := (blk_put (blk_put (blk_put (blk_put (blk_put N0.out 0 (.int .i64 0) rfl) 1 (.int .i64 0) rfl) 2 (.int .u64 0) rfl) 3 (.int .i64 0) rfl) 4 (.int .i64 0) rfl)
  refine bodyPost_ret (results_ct rfl _ _ w.heap.size 53 _ (0, 0) _ rfl hf Try.underlying53 rfl (by kernel_rfl)) rfl ?_
  exact ⟨rfl, (((((NB.out.setCell (Nat.le_refl _) _).setCell (Nat.le_refl _) _).setCell (Nat.le_refl _) _).setCell (Nat.le_refl _) _).setCell (Nat.le_refl _) _)⟩
end Go.Proofs.Ythnihjfdmkfkiaa.Q
