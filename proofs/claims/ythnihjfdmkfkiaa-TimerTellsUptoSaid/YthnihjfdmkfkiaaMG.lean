/- Texts of this claim, laid in one: contracts of functions that the claim reaches, and the plain laws that they want; under no condition beyond those that each theorem states. -/
import Derived.Test.YthnihjfdmkfkiaaME
import Derived.Test.YthnihjfdmkfkiaaMA
import Derived.Test.YthnihjfdmkfkiaaMC
import Derived.Test.YthnihjfdmkfkiaaMF
import Derived.Test.YthnihjfdmkfkiaaMD
namespace Go.Proofs.Ythnihjfdmkfkiaa.Q
open Go.RowKit Go.Proofs.YthnihjfdmkfkiaaW.PrintWords Go.Proofs.YthnihjfdmkfkiaaW.PrintLast Go.Proofs.YthnihjfdmkfkiaaW.PrintMore Go.Proofs.YthnihjfdmkfkiaaV
set_option linter.unusedVariables false
set_option linter.unusedSimpArgs false

/-- The root's bits from k on. -/
def RtN (x : Int) (k : Nat) (r : Int) : Prop := 0 ≤ r ∧ r * r ≤ x ∧ x < (r + 2 ^ k) * (r + 2 ^ k)
theorem rtN_step {x r : Int} {k : Nat} (h : RtN x (k + 1) r) : ((r + 2 ^ k) * (r + 2 ^ k) ≤ x → RtN x k (r + 2 ^ k)) ∧ (¬ (r + 2 ^ k) * (r + 2 ^ k) ≤ x → RtN x k r) := by
  obtain ⟨h0, h1, h2⟩ := h
  have p : (0 : Int) < 2 ^ k := Int.pow_pos (by omega)
  refine ⟨fun h => ⟨by omega, h, ?_⟩, fun h => ⟨h0, h1, by omega⟩⟩
  rw [Int.pow_succ] at h2
  rw [show r + 2 ^ k + 2 ^ k = r + 2 ^ k * 2 by omega]
  exact h2
theorem rtN_zero {x r : Int} (h : RtN x 0 r) : isq x = r := by
  obtain ⟨h0, h1, h2⟩ := h
  exact isq_eq h0 h1 (by simpa using h2)
theorem rtN_start {x : Int} {n : Nat} (h0 : 0 ≤ x) (h : x < 65536 ^ n) : RtN x (8 * n + 9) 0 := by
  refine ⟨by omega, by omega, ?_⟩
  rw [Int.zero_add, ← Int.pow_add]
  have e : (65536 : Int) ^ n = 2 ^ (16 * n) := by rw [Int.pow_mul]; rfl
  rw [e] at h
  have : (2 : Int) ^ (16 * n) ≤ 2 ^ (8 * n + 9 + (8 * n + 9)) := by
    have := Nat.pow_le_pow_right (n := 2) (by omega) (show 16 * n ≤ 8 * n + 9 + (8 * n + 9) by omega)
    exact_mod_cast this
  omega
theorem rtN_small {x r : Int} {k : Nat} (h : RtN x k r) (hx : x ≤ 170141183460469231731687303715884105727) : r < 18446744073709551616 := by
  by_cases c : r < 18446744073709551616
  · exact c
  · have := sq_mono (a := 18446744073709551616) (b := r) (by omega) (by omega)
    have := h.2.1
    omega
theorem val_zeros (m : Nat) (v : Int) : valL (List.replicate m 0 ++ [v]) = v * 65536 ^ m := by
  rw [val_put (List.replicate m 0) [] 0 v, zeros_val (l := List.replicate m 0 ++ [0]) (fun x hx => by
    rcases List.mem_append.1 hx with h | h
    · exact (List.mem_replicate.1 h).2
    · simpa using h), List.length_replicate, Int.sub_zero, Int.zero_add]
theorem pow_73 {k : Nat} (h : k ≤ 73) : (2 : Int) ^ k ≤ 9444732965739290427392 := by
  have h1 := Nat.pow_le_pow_right (n := 2) (by omega) h
  have e : (2 : Nat) ^ 73 = 9444732965739290427392 := by decide
  rw [e] at h1
  have e2 : ((2 : Int) ^ k) = ((2 ^ k : Nat) : Int) := by simp
  rw [e2]
  exact Int.ofNat_le.2 h1
theorem set_zeros (m : Nat) (v : Int) : (List.replicate (m + 1) (0 : Int)).set m v = List.replicate m 0 ++ [v] := by
  rw [List.replicate_succ', List.set_append, if_neg (by rw [List.length_replicate]; omega), List.length_replicate, Nat.sub_self]
  rfl
theorem pow32 {t : Nat} (h : t < 16) : (2 : Int) ^ t % 4294967296 = 2 ^ t ∧ (0 : Int) < 2 ^ t ∧ (2 : Int) ^ t ≤ 65535 := by
  have := u32_orp 0 t (by omega) (by omega) (by simp) h
  have p : (0 : Int) < 2 ^ t := Int.pow_pos (by omega)
  omega
set_option maxHeartbeats 6400000 in
set_option maxRecDepth 8000 in
theorem ref_RootN {w : World} {u : Value} {x : Int} (hu : NumV w u x) (hx : 0 ≤ x ∧ x ≤ 170141183460469231731687303715884105727) :
    Calls Try.prog 42 #[u] w fun e w' => ∃ v, e = .returned v ∧ NumV w' v (isq x) ∧ Below w.heap.size w w' := by
  obtain ⟨A, c, rfl, hl⟩ := hu
  have hlen : (limbs x.natAbs).length ≤ 8 := limbs_len 8 _ (by have e : (65536 : Nat) ^ 8 = 340282366920938463463374607431768211456 := by decide
                                                               omega)
  have hst := rtN_start (n := (limbs x.natAbs).length) hx.1 (by have h1 := valL_lt (limbs_ok x.natAbs); rw [limbs_val] at h1; omega)
  obtain ⟨L, hL⟩ : ∃ L, L = (limbs x.natAbs).length := ⟨_, rfl⟩
  rw [← hL] at hst hlen ⊢
  obtain ⟨n0, n1, n2, nb, ns⟩ := new3 w (.cells #[.bool (decide (x < 0)), .slice A L c] 71 (0, 0)) (.cells #[.bool false, .slice none 0 0] 71 (0, 0)) (.cells #[.bool false, .slice none 0 0] 71 (0, 0))
  obtain ⟨W, hW⟩ : ∃ W, W = ((w.alloc (.cells #[.bool (decide (x < 0)), .slice A L c] 71 (0, 0))).alloc (.cells #[.bool false, .slice none 0 0] 71 (0, 0))).alloc (.cells #[.bool false, .slice none 0 0] 71 (0, 0)) := ⟨_, rfl⟩
  rw [← hW] at n0 n1 n2 nb ns
  have HST := Aside0.mk hst
  have HL := Aside0.mk hL
  have HX := Aside0.mk hl
  have N0 := Aside0.mk n0
  have N1 := Aside0.mk n1
  have N2 := Aside0.mk (show NumAt W (w.heap.size + 2) 0 from ⟨none, 0, n2, Lm_none _⟩)
  have NB := Aside0.mk nb
  have HW := Aside0.mk hW
  have k1 : W.cell? ⟨w.heap.size, 1, none⟩ = some (.slice A L c) := blk_cell n0 1
  clear hst hL hl n0 n1 n2 nb ns hW
  go_enter Try.func42, Try.ntmps42
  go_upto_region 2 with (fail)
  rw [← HW.out]
  go_wp2_with (fail)
  clear k1
  go_loopg [4] (8 * L + 9) (fun kq v4 w' => ∃ (i r : Int), v4 = .int .i64 i ∧ i = (kq : Int) - 1 ∧ kq ≤ 8 * L + 9 ∧ Aside0 (RtN x kq r) ∧ Aside0 (NumAt w' (w.heap.size + 2) r) ∧ Aside0 (w'.heap[w.heap.size]? = some (.cells #[.bool (decide (x < 0)), .slice A L c] 71 (0, 0))) ∧ Aside0 (w'.heap[w.heap.size + 1]? = some (.cells #[.bool false, .slice none 0 0] 71 (0, 0))) ∧ Aside0 (Below w.heap.size w w'))
  case atStart => exact ⟨_, 0, rfl, by omega, Nat.le_refl _, HST, N2, N0, N1, NB⟩
  case round =>
    clear N0 N1 N2 NB HST
    obtain ⟨i, r, rfl, hi, hk, HR, N2, N0, N1, NB⟩ := hrel
    cases gk with
    | zero =>
      have d1 : decide (0 ≤ i) = false := decide_eq_false (by omega)
      have ER := Aside0.mk (rtN_zero HR.out)
      obtain ⟨A1, c1, h1, lm1⟩ := N2.out
      have k0 := blk_cell h1 0
      have k1 := blk_cell h1 1
      obtain ⟨b, hb⟩ : ∃ b, b = decide (r < 0) := ⟨_, rfl⟩
      obtain ⟨n, hn⟩ : ∃ n, n = (limbs r.natAbs).length := ⟨_, rfl⟩
      rw [← hb] at k0
      rw [← hn] at k1
      obtain ⟨f1, f2, f3, f4, f5⟩ := res2 (v0 := .bool b) (v1 := .slice A1 n c1) N1.out
      have F5 := Aside0.mk f5
      have HB_ := Aside0.mk hb
      have HN_ := Aside0.mk hn
      have L1 := Aside0.mk lm1
      clear h1 lm1 f5 hb hn hi
      go_wp2_with (fail)
      refine bodyPost_ret (results_cell_row rfl _ _ (w.heap.size + 1) 71 _ (0, 0) _ rfl F5.out Try.underlying71 rfl (by kernel_rfl)) rfl ?_
      rw [ER.out]
      exact ⟨_, rfl, ⟨A1, c1, by rw [← HB_.out, ← HN_.out], L1.out.num N1.out num_cells keep_set2⟩, NB.out.trans (keep_set2.below NB.out.size (fun k hk => by omega))⟩
    | succ k1 =>
      have ei : (k1 : Int) = i := by omega
      subst ei
      clear hi
      have d1 : decide ((0 : Int) ≤ (k1 : Int)) = true := decide_eq_true (by omega)
      obtain ⟨m, hm⟩ : ∃ m, m = k1 / 16 := ⟨_, rfl⟩
      obtain ⟨t, ht⟩ : ∃ t, t = k1 % 16 := ⟨_, rfl⟩
      have i1 : (k1 : Int) / 16 = (m : Int) := by omega
      have i2 : (0 : Int) ≤ (m : Int) := by omega
      have i4 : (k1 : Int) % 16 = (t : Int) := by omega
      have i5 : Int.tmod (k1 : Int) 16 = (t : Int) := by rw [Int.tmod_eq_emod_of_nonneg (by omega)]; omega
      have hmk : m ≤ 5 := by omega
      have ht16 : t < 16 := by omega
      have hkk : k1 ≤ 72 := by omega
      have HK1 := Aside0.mk (show k1 = 16 * m + t by omega)
      clear hm ht
      have h2t := pow32 ht16
      have HR1 := Aside0.mk (rtN_step HR.out)
      have hrs := rtN_small HR.out hx.2
      have hr0 := HR.out.1
      go_upto_region 6 with (first
        | ((with_reducible refine gate_dst (N := 20) rfl ?_); refine Kd.R_make (Kd.int .u32) (w0 := wr) wr.heap.size 105 rfl (N := 20) rfl 69 _ _ rfl ((m : Int) + 1) rfl rfl Try.underlying69 (.int .u32 0) 4 info_u32 rfl (by decide) (by omega) (0 : Int) (ok := fun _ => True) (okp := fun _ => False) rfl (fun _ hk => hk.elim) trivial (by omega) (by omega) (Below.refl _ _) (Nat.le_refl _) ?_; intro v1 w2 hr hb hg hat; obtain ⟨A2, c2, e2⟩ := Kd.R_slice hr; rw [List.length_replicate, show ((m : Int) + 1).toNat = m + 1 by omega] at e2; subst e2; rw [show ((m : Int) + 1).toNat = m + 1 by omega] at hr; have HR2 := Aside0.mk hr; have HB2 := Aside0.mk hb; clear hr hb hg hat))
      obtain ⟨go_, cap, e, hgB, hgl, -⟩ := Kd.R_form HR2.out (by rw [List.length_replicate]; omega)
      injection e with e e' e''
      subst e
      clear e' e''
      have kq := Kd.R_celln 0 HR2.out (m : Int) i2 (by omega)
      rw [Int.toNat_natCast] at kq
      have kq1 := kq.1
      have kq2 := kq.2
      clear kq
      have q1 := Kd.R_putn HR2.out (m : Int) (2 ^ t)
      rw [Int.toNat_natCast, set_zeros] at q1
      have B3 := HB2.out.setCell (p := ⟨go_, m, none⟩) hgB (.int .u32 (2 ^ t))
      obtain ⟨bl, hbl⟩ : ∃ bl, bl = List.replicate m 0 ++ [(2 : Int) ^ t] := ⟨_, rfl⟩
      have hbll : bl.length = m + 1 := by rw [hbl]; simp
      have hbv : valL bl = 2 ^ k1 := by rw [hbl, val_zeros, HK1.out, pow_mt, Int.mul_comm]
      have hbo : okL bl := by
        rw [hbl]
        exact okL_app (fun y hy => by rw [(List.mem_replicate.1 hy).2]; omega) (okL_mk (by omega) okL_nil)
      rw [← hbl, ← hbll] at q1
      obtain ⟨W3, hW3⟩ : ∃ W3, W3 = w2.setCell ⟨go_, m, none⟩ (.int .u32 (2 ^ t)) := ⟨_, rfl⟩
      rw [← hW3] at q1 B3
      have LB := Aside0.mk (show Lm W3 (some ⟨go_, 0, none⟩) c2 bl from ⟨(Kd.R_reads' q1).2.2, (Kd.R_reads' q1).2.1, hbo⟩)
      have HB3 := Aside0.mk B3
      have HBV := Aside0.mk hbv
      have HBL := Aside0.mk hbll
      clear q1 B3 hbl hbll hbv hbo HR2 HB2
      obtain ⟨A1, c1, h1, lm1⟩ := N2.out
      have M2 := Aside0.mk ((HB3.out.block _ (blk_lt h1)).trans h1)
      have LR := Aside0.mk (lm1.below HB3.out)
      have k1_ := blk_cell M2.out 1
      clear h1 lm1
      have hp := pow_73 (show k1 ≤ 73 by omega)
      have hp0 : (0 : Int) < 2 ^ k1 := Int.pow_pos (by omega)
      obtain ⟨T, hT⟩ : ∃ T, T = r + 2 ^ k1 := ⟨_, rfl⟩
      rw [← hT] at HR1
      have hT0 : 0 < T ∧ T < 18889465931478580854784 := by omega
      have HTT := Aside0.mk hT
      have hfr : (limbs r.natAbs).length ≤ 1048576 := few_W (by unfold inW; omega)
      have HAD := ref_addL LR.out LB.out hfr (by rw [HBL.out]; omega)
      rw [limbs_val, HBV.out, show (r.natAbs : Int) + 2 ^ k1 = T by omega, show T.toNat = T.natAbs by omega, HBL.out] at HAD
      have HAD := Aside0.mk HAD
      clear hT hp hp0 hfr
      go_upto_region 7 with (fail)
      rw [← hW3]
      have hw3s : wr.heap.size ≤ W3.heap.size := HB3.out.size
      clear hW3 kq1 kq2
      go_upto_region 8 with (first
        | (go_at_call 59; (with_reducible refine (HAD.out).mono ?_); rintro e w4 ⟨A4, c4, rfl, h4, hf4, hb4⟩; have H4 := Aside0.mk h4; have HB4 := Aside0.mk (hop HB3.out hb4); have M4 := Aside0.mk ((hb4.block _ (blk_lt M2.out)).trans M2.out); clear h4 hf4 hb4))
      have m6 := heap_alloc_new w4 (.cells #[.bool false, .slice A4 (limbs T.natAbs).length c4] 71 (0, 0))
      have b6 : Below wr.heap.size wr (w4.alloc (.cells #[.bool false, .slice A4 (limbs T.natAbs).length c4] 71 (0, 0))) := HB4.out.alloc HB4.out.size _
      have l6 := H4.out.below (below_alloc (Below.refl w4.heap.size w4) (.cells #[.bool false, .slice A4 (limbs T.natAbs).length c4] 71 (0, 0)))
      obtain ⟨W6, hW6⟩ : ∃ W6, W6 = w4.alloc (.cells #[.bool false, .slice A4 (limbs T.natAbs).length c4] 71 (0, 0)) := ⟨_, rfl⟩
      rw [← hW6] at m6 b6 l6 ⊢
      have hg6 : wr.heap.size ≤ w4.heap.size := HB4.out.size
      obtain ⟨g6, hg⟩ : ∃ g, g = w4.heap.size := ⟨_, rfl⟩
      rw [← hg] at m6 hg6 ⊢
      clear hg hW6
      have hwr : w.heap.size + 3 ≤ wr.heap.size := by
        obtain ⟨_, _, h1, _⟩ := N2.out
        have := blk_lt h1
        omega
      have c0 : W6.cell? ⟨g6, 0, none⟩ = some (.bool false) := blk_cell m6 0
      have c1_ : W6.cell? ⟨g6, 1, none⟩ = some (.slice A4 (limbs T.natAbs).length c4) := blk_cell m6 1
      have X0 := Aside0.mk ((b6.block _ (blk_lt N0.out)).trans N0.out)
      have x0 : W6.cell? ⟨w.heap.size, 0, none⟩ = some (.bool (decide (x < 0))) := blk_cell X0.out 0
      have x1 : W6.cell? ⟨w.heap.size, 1, none⟩ = some (.slice A L c) := blk_cell X0.out 1
      have M6 := Aside0.mk m6
      have B6 := Aside0.mk b6
      have L6 := Aside0.mk l6
      have HTF : decide (T < 0) = false := decide_eq_false (by omega)
      have HTV := Aside0.mk (fun (W : World) (h : Lm W A4 c4 (limbs T.natAbs)) => (show NumV W (.agg #[.bool false, .slice A4 (limbs T.natAbs).length c4]) T by rw [← HTF]; exact NumV.of h))
      have HMU := Aside0.mk (fun (W : World) (u v : Value) (h1 : NumV W u T) (h2 : NumV W v T) => ref_MulN h1 h2 (few_W (by unfold inW; omega)) (few_W (by unfold inW; omega)))
      have HXV := Aside0.mk (fun (W : World) (h : Below w.heap.size w W) => (show NumV W (.agg #[.bool (decide (x < 0)), .slice A L c]) x by rw [HL.out]; exact NumV.of (HX.out.below h)))
      have HBW := Aside0.mk (hop NB.out b6)
      obtain ⟨xb, hxb⟩ : ∃ b, b = decide (x < 0) := ⟨_, rfl⟩
      have HXB := Aside0.mk hxb
      rw [← hxb] at x0 HXV X0 N0 ⊢
      have HTF := Aside0.mk HTF
      clear m6 b6 l6 hxb
      by_cases hle : T * T ≤ x
      · have d8 : decide (sgn (T * T - x) ≤ 0) = true := decide_eq_true (by unfold sgn; split <;> (try split) <;> omega)
        have HR2 := Aside0.mk (HR1.out.1 hle)
        go_region_held3 (fun w' => w'.cell? ⟨g6, 0, none⟩ = some (.bool false) ∧ w'.cell? ⟨g6, 1, none⟩ = some (.slice A4 (limbs T.natAbs).length c4) ∧ w'.cell? ⟨w.heap.size, 0, none⟩ = some (.bool xb) ∧ w'.cell? ⟨w.heap.size, 1, none⟩ = some (.slice A L c)) (go_keep) (first
          | (go_at_call 40; (with_reducible refine (HMU.out _ _ _ (HTV.out _ (L6.out.keep (keep_drew W6) (fun ad e h => h))) (HTV.out _ (L6.out.keep (keep_drew W6) (fun ad e h => h)))).mono ?_); rintro e w7 ⟨v, rfl, ⟨A7, c7, rfl, h7⟩, hb7⟩; have M7 := Aside0.mk ((hb7.block _ (blk_lt M6.out)).trans M6.out); have X7 := Aside0.mk ((hb7.block _ (blk_lt X0.out)).trans X0.out); have j0 := blk_cell M7.out 0; have j1 := blk_cell M7.out 1; have j2 := blk_cell X7.out 0; have j3 := blk_cell X7.out 1; have H7 := Aside0.mk h7; have L7 := Aside0.mk ((L6.out.keep (keep_drew W6) (fun ad e h => h)).below hb7); have B7 := Aside0.mk (hop (below_drew B6.out) hb7); have HBW7 := Aside0.mk (hop (below_drew HBW.out) hb7); clear h7 hb7)
          | (go_at_call 64; (with_reducible refine (ref_CmpN (NumV.of H7.out) (HXV.out _ HBW7.out)).mono ?_); rintro e w8 ⟨rfl, hb8⟩; have M8 := Aside0.mk ((hb8.block _ (blk_lt M7.out)).trans M7.out); have X8 := Aside0.mk ((hb8.block _ (blk_lt X7.out)).trans X7.out); have j0 := blk_cell M8.out 0; have j1 := blk_cell M8.out 1; have j2 := blk_cell X8.out 0; have j3 := blk_cell X8.out 1; have L8 := Aside0.mk (L7.out.below hb8); have B8 := Aside0.mk (hop B7.out hb8); have HBW8 := Aside0.mk (hop HBW7.out hb8); obtain ⟨Ar, cr, hr2, lr2⟩ := N2.out; have R8 := Aside0.mk ((B8.out.block _ (blk_lt hr2)).trans hr2); have LR8 := Aside0.mk (lr2.below B8.out); obtain ⟨f1, f2, f3, f4, f5⟩ := res2 (v0 := .bool false) (v1 := .slice A4 (limbs T.natAbs).length c4) R8.out; have F5 := Aside0.mk f5; clear f5 hr2 lr2 hb8))
        all_goals
          go_wp2_with (fail)
          rw [HXB.out] at X8 ⊢
          go_roundg k1
          case rel =>
            refine ⟨(k1 : Int) - 1, T, rfl, rfl, by omega, HR2, ⟨A4, c4, by rw [HTF.out]; exact F5.out, L8.out.num R8.out num_cells keep_set2⟩, ⟨(keep_set2.block _ (blk_lt X8.out) (by omega)).trans X8.out⟩, ⟨(keep_set2.block _ (Nat.lt_of_lt_of_le (blk_lt N1.out) B8.out.size) (by omega)).trans ((B8.out.block _ (blk_lt N1.out)).trans N1.out)⟩, ⟨HBW8.out.trans (keep_set2.below HBW8.out.size (fun k hk => by omega))⟩⟩
          case measure => omega
      · have d8 : decide (sgn (T * T - x) ≤ 0) = false := decide_eq_false (by rw [sgn_pos (by omega)]; omega)
        have HR2 := Aside0.mk (HR1.out.2 (by omega))
        go_region_held3 (fun w' => w'.cell? ⟨g6, 0, none⟩ = some (.bool false) ∧ w'.cell? ⟨g6, 1, none⟩ = some (.slice A4 (limbs T.natAbs).length c4) ∧ w'.cell? ⟨w.heap.size, 0, none⟩ = some (.bool xb) ∧ w'.cell? ⟨w.heap.size, 1, none⟩ = some (.slice A L c)) (go_keep) (first
          | (go_at_call 40; (with_reducible refine (HMU.out _ _ _ (HTV.out _ (L6.out.keep (keep_drew W6) (fun ad e h => h))) (HTV.out _ (L6.out.keep (keep_drew W6) (fun ad e h => h)))).mono ?_); rintro e w7 ⟨v, rfl, ⟨A7, c7, rfl, h7⟩, hb7⟩; have M7 := Aside0.mk ((hb7.block _ (blk_lt M6.out)).trans M6.out); have X7 := Aside0.mk ((hb7.block _ (blk_lt X0.out)).trans X0.out); have j0 := blk_cell M7.out 0; have j1 := blk_cell M7.out 1; have j2 := blk_cell X7.out 0; have j3 := blk_cell X7.out 1; have H7 := Aside0.mk h7; have L7 := Aside0.mk ((L6.out.keep (keep_drew W6) (fun ad e h => h)).below hb7); have B7 := Aside0.mk (hop (below_drew B6.out) hb7); have HBW7 := Aside0.mk (hop (below_drew HBW.out) hb7); clear h7 hb7)
          | (go_at_call 64; (with_reducible refine (ref_CmpN (NumV.of H7.out) (HXV.out _ HBW7.out)).mono ?_); rintro e w8 ⟨rfl, hb8⟩; have M8 := Aside0.mk ((hb8.block _ (blk_lt M7.out)).trans M7.out); have X8 := Aside0.mk ((hb8.block _ (blk_lt X7.out)).trans X7.out); have j0 := blk_cell M8.out 0; have j1 := blk_cell M8.out 1; have j2 := blk_cell X8.out 0; have j3 := blk_cell X8.out 1; have L8 := Aside0.mk (L7.out.below hb8); have B8 := Aside0.mk (hop B7.out hb8); have HBW8 := Aside0.mk (hop HBW7.out hb8); obtain ⟨Ar, cr, hr2, lr2⟩ := N2.out; have R8 := Aside0.mk ((B8.out.block _ (blk_lt hr2)).trans hr2); have LR8 := Aside0.mk (lr2.below B8.out); obtain ⟨f1, f2, f3, f4, f5⟩ := res2 (v0 := .bool false) (v1 := .slice A4 (limbs T.natAbs).length c4) R8.out; have F5 := Aside0.mk f5; clear f5 hr2 lr2 hb8))
        all_goals
          go_wp2_with (fail)
          rw [HXB.out] at X8 ⊢
          go_roundg k1
          case rel =>
            exact ⟨(k1 : Int) - 1, r, rfl, rfl, by omega, HR2, ⟨Ar, cr, R8.out, LR8.out⟩, X8, ⟨(B8.out.block _ (blk_lt N1.out)).trans N1.out⟩, HBW8⟩
          case measure => omega
end Go.Proofs.Ythnihjfdmkfkiaa.Q

namespace Go.Proofs.Ythnihjfdmkfkiaa.Q
open Go.RowKit Go.Proofs.YthnihjfdmkfkiaaW.PrintWords Go.Proofs.YthnihjfdmkfkiaaW.PrintLast Go.Proofs.YthnihjfdmkfkiaaW.PrintMore Go.Proofs.YthnihjfdmkfkiaaV
set_option linter.unusedVariables false
set_option linter.unusedSimpArgs false

def rof7.T : Bool × List (List Nat × List Nat) := (true, [([], []), ([0], [0]), ([], []), ([2], [2]), ([], []), ([4], [4]), ([5], [5]), ([], []), ([], []), ([8], [8]), ([9], [9]), ([7, 10], [7, 10]), ([11], [11]), ([], []), ([], []), ([14], [14]), ([13, 15, 3], [13, 15]), ([1, 3, 6, 12, 16], [1, 3, 6, 12, 16]), ([], []), ([18, 17, 16, 0, 1, 2, 3, 4, 5, 6, 7, 8, 9, 10, 11, 12, 13, 14, 15, 16, 17, 18], [17, 18])])
def rof7.B : List Nat := [0, 1, 0, 4, 0, 16, 48, 0, 0, 256, 768, 1920, 3968, 0, 0, 16384, 57356, 131071, 0, 524287]
theorem rof7.tab : rtab .any (opsOf Try.f13 7) = rof7.T := by kernel_rfl
theorem rof7.bits : waitsOk rof7.T.2 rof7.B = true := by kernel_rfl
def rof10.T : Bool × List (List Nat × List Nat) := (true, [([], []), ([], []), ([1], [1]), ([2], [2]), ([3], [3]), ([0, 4], [0, 4]), ([5], [5]), ([], []), ([], []), ([8], [8]), ([9], [9]), ([7, 10], [7, 10]), ([11], [11]), ([6, 12], [6, 12]), ([13], [13]), ([0, 1, 2, 3, 4, 5, 6, 7, 8, 9, 10, 11, 12, 13, 14], []), ([15, 14, 0, 1, 2, 3, 4, 5, 6, 7, 8, 9, 10, 11, 12, 13, 14], [14, 15])])
def rof10.B : List Nat := [0, 0, 2, 6, 14, 31, 63, 0, 0, 256, 768, 1920, 3968, 8191, 16383, 32767, 65535]
theorem rof10.tab : rtab .any (opsOf Try.f13 10) = rof10.T := by kernel_rfl
theorem rof10.bits : waitsOk rof10.T.2 rof10.B = true := by kernel_rfl
def rof15.T : Bool × List (List Nat × List Nat) := (true, [([], []), ([], []), ([0, 1], [0, 1]), ([2], [2]), ([], []), ([4], [4]), ([3, 5], [3, 5]), ([6], [6]), ([], []), ([8, 7, 7, 0, 1, 2, 3, 4, 5, 6, 7, 8], [7, 8])])
def rof15.B : List Nat := [0, 0, 3, 7, 0, 16, 63, 127, 0, 511]
theorem rof15.tab : rtab .any (opsOf Try.f13 15) = rof15.T := by kernel_rfl
theorem rof15.bits : waitsOk rof15.T.2 rof15.B = true := by kernel_rfl
def rof16.T : Bool × List (List Nat × List Nat) := (true, [([], []), ([], []), ([], []), ([1, 2], [1, 2]), ([0, 3, 3], [0, 3]), ([4, 4, 0, 1, 2, 3, 4], [4])])
def rof16.B : List Nat := [0, 0, 0, 6, 15, 31]
theorem rof16.tab : rtab .any (opsOf Try.f13 16) = rof16.T := by kernel_rfl
theorem rof16.bits : waitsOk rof16.T.2 rof16.B = true := by kernel_rfl
def rof17.T : Bool × List (List Nat × List Nat) := (true, [([], []), ([], []), ([1], [1]), ([2], [2]), ([0, 3, 3], [0, 3]), ([4], [4]), ([5], [5]), ([5], [5]), ([], []), ([], []), ([8, 6, 4, 0, 1, 2, 3, 4, 5, 6, 8, 9], [6, 8]), ([9, 7, 10, 0, 1, 2, 3, 4, 5, 6, 7, 8, 9, 10], [7, 9])])
def rof17.B : List Nat := [0, 0, 2, 6, 15, 31, 63, 63, 0, 0, 895, 2047]
theorem rof17.tab : rtab .any (opsOf Try.f13 17) = rof17.T := by kernel_rfl
theorem rof17.bits : waitsOk rof17.T.2 rof17.B = true := by kernel_rfl
theorem perm_sum {a b : List Int} (h : a.Perm b) : a.sum = b.sum := by
  induction h with
  | nil => rfl
  | cons x _ ih => simp only [List.sum_cons, ih]
  | swap x y l => simp only [List.sum_cons]; omega
  | trans _ _ h1 h2 => exact h1.trans h2
theorem perm_sq {a b : List Int} (m : Int) (h : a.Perm b) : sqP m a = sqP m b := perm_sum (h.map _)
theorem of_idx {N k k1 k2 : Nat} (h0 : 1 ≤ N) (hl : N ≤ 1048576) (hk : k = N - 1) (hk1 : k1 = (N - 1) / 2) (hk2 : k2 = N / 2) :
    k < N ∧ k2 < N ∧ IntKind.i64.wrap ((N : Int) - 1) = (k : Int) ∧ (N : Int) - 1 = (k : Int) ∧ (N : Int) / 2 = (k2 : Int) ∧ wrap64 (k : Int) = (k : Int) ∧ wrap64 (k2 : Int) = (k2 : Int) ∧
    ∃ r : Nat, (N : Int) % 2 = (r : Int) ∧ Int.tmod (N : Int) 2 = (r : Int) ∧ (0 : Int) ≤ (k : Int) ∧ (k : Int) < (N : Int) ∧ (0 : Int) < (N : Int) ∧ 0 < N ∧ (k1 < N ∧ k2 < N) ∧ ((N : Int) == 0) = false ∧ ((r = 0 → k1 + 1 = k2) ∧ (r ≠ 0 → k1 = k2)) ∧ IntKind.i64.wrap (k2 : Int) = (k2 : Int) ∧ IntKind.i64.wrap (k : Int) = (k : Int) := by
  have hkN : k < N := by omega
  have hk2N : k2 < N := by omega
  have e : (N : Int) - 1 = (k : Int) := by omega
  refine ⟨hkN, hk2N, by rw [e]; exact (wrap_small (Nat.le_trans (Nat.le_of_lt hkN) hl)).1, e, by omega, (wrap_small (Nat.le_trans (Nat.le_of_lt hkN) hl)).2, (wrap_small (Nat.le_trans (Nat.le_of_lt hk2N) hl)).2, N % 2, by omega, by rw [Int.tmod_eq_emod_of_nonneg (by omega)]; omega, by omega, by omega, by omega, by omega, by omega, beq_eq_false_iff_ne.mpr (by omega), by omega, (wrap_small (Nat.le_trans (Nat.le_of_lt hk2N) hl)).1, (wrap_small (Nat.le_trans (Nat.le_of_lt hkN) hl)).1⟩
theorem sq_inW {l : List Int} {m : Int} (hs : ∀ x ∈ l, smp x) (hm : 0 ≤ m ∧ m ≤ 100000000000000) (hl : l.length ≤ 1048576) (i : Nat) : inW (sqP m (l.take i)) := by
  have h := sqs_rng (l := l.take i) (fun y hy => hs y (List.mem_of_mem_take hy)) hm
  have h2 : (l.take i).length ≤ 1048576 := by rw [List.length_take]; omega
  unfold inW
  generalize (l.take i).length = n at h h2
  omega
theorem d_rng {x m : Int} (hx : smp x) (hm : 0 ≤ m ∧ m ≤ 100000000000000) : in64 (x - m) ∧ inW (x - m) ∧ inW ((x - m) * (x - m)) ∧ wrap64 (x - m) = x - m ∧ IntKind.i64.wrap (x - m) = x - m := by
  unfold smp at hx
  have h := sq_rng (d := x - m) (by omega) (by omega)
  have w : wrap64 (x - m) = x - m := by unfold wrap64; omega
  refine ⟨by unfold in64; omega, by unfold inW; omega, ?_, w, (i64_w _).trans w⟩
  generalize (x - m) * (x - m) = z at h
  unfold inW
  omega
theorem q_rng {v NI dv : Int} {i : Nat} (h : 0 ≤ v ∧ v ≤ (i : Int) * 10000000000000000000000000000) (hl : i ≤ 1048576) (h0 : 1 ≤ i) (hN : NI = (i : Int)) (hd : dv = isq (v / (i : Int))) :
    in64 NI ∧ 0 ≤ v ∧ 0 < NI ∧ inW v ∧ inW NI ∧ (0 ≤ v / NI ∧ v / NI ≤ 170141183460469231731687303715884105727) ∧ ((0 ≤ isq (v / NI) ∧ isq (v / NI) ≤ 170141183460469231731687303715884105727) ∧ isq (v / NI) ≤ 9223372036854775807 ∧ dv = isq (v / NI)) := by
  rw [← hN] at h hd
  have hq : 0 ≤ v / NI ∧ v / NI ≤ 10000000000000000000000000000 := ⟨Int.ediv_nonneg h.1 (by omega), by
    have := Int.ediv_le_ediv (c := NI) (by omega) h.2
    rw [Int.mul_comm, Int.mul_ediv_cancel _ (by omega)] at this
    exact this⟩
  have hr := root_ex hq.1
  have hb : isq (v / NI) ≤ 100000000000000 := by
    by_cases c : isq (v / NI) ≤ 100000000000000
    · exact c
    · have := sq_mono (a := 100000000000001) (b := isq (v / NI)) (by omega) (by omega)
      omega
  have hb0 := hr.1
  have v4 : inW v := by unfold inW; omega
  refine ⟨by unfold in64; omega, h.1, by omega, v4, by unfold inW; omega, ⟨hq.1, by omega⟩, ⟨hb0, by omega⟩, by omega, hd⟩
theorem wrap_next {i N : Nat} (h : i < N) (h2 : N ≤ 1048576) : wrap64 ((i : Int) + 1) = ((i + 1 : Nat) : Int) := by
  have := (wrap_small (m := i + 1) (by omega)).2
  rw [← this]
  rfl
theorem of_par {r k1 k2 : Nat} {b : Bool} (hb : ((r : Int) == 0) = b) (h : (r = 0 → k1 + 1 = k2) ∧ (r ≠ 0 → k1 = k2)) : (b = true → k1 + 1 = k2) ∧ (b = false → k1 = k2) := by
  refine ⟨fun e => h.1 ?_, fun e => h.2 ?_⟩
  · rw [e, beq_iff_eq] at hb
    omega
  · rw [e, beq_eq_false_iff_ne] at hb
    omega
theorem of_odd {y1 y2 md : Int} (h : md = (y1 + y2) / 2) (e : y1 = y2) : y2 = md := by omega
theorem of_med {k1 k2 : Nat} {y1 y2 md : Int} (h : k1 + 1 = k2) (hk : k1 ≤ 1048576) (r1 : 0 ≤ y1 ∧ y1 ≤ 100000000000000) (r2 : 0 ≤ y2 ∧ y2 ≤ 100000000000000) (hm : md = (y1 + y2) / 2) :
    (k2 : Int) - 1 = (k1 : Int) ∧ IntKind.i64.wrap (k1 : Int) = (k1 : Int) ∧ wrap64 (k1 : Int) = (k1 : Int) ∧ wrap64 (y1 + y2) = y1 + y2 ∧ Int.tdiv (y1 + y2) 2 = md ∧ (y1 + y2) / 2 = md ∧ wrap64 md = md ∧ IntKind.i64.wrap md = md := by
  have w1 : wrap64 md = md := by unfold wrap64; omega
  exact ⟨by omega, (wrap_small hk).1, (wrap_small hk).2, by unfold wrap64; omega, by rw [Int.tdiv_eq_ediv_of_nonneg (by omega)]; exact hm.symm, hm.symm, w1, (i64_w _).trans w1⟩
set_option maxHeartbeats 6400000 in
set_option maxRecDepth 8000 in
theorem ref_OfN {w : World} {A : Option Addr} {c : Nat} {l : List Int} (h : Kd.C (Kd.int .i64) w A l.length l) (h0 : 1 ≤ l.length) (hc : l.length ≤ c) (hl : l.length ≤ 1048576) (hs : ∀ x ∈ l, smp x) :
    Calls Try.prog 13 #[.slice A l.length c] w fun e w' => e = .returned (.tuple #[.agg (statA (sortP l)), .int .i64 0]) ∧ Below w.heap.size w w' := by
  obtain ⟨W, hW⟩ : ∃ W, W = w.alloc (.cells #[.int .i64 0, .int .i64 0, .int .u64 0, .int .i64 0, .int .i64 0, .int .i64 0, .int .i64 0, .int .i64 0] 27 (0, 0)) := ⟨_, rfl⟩
  have n0 : W.heap[w.heap.size]? = some (.cells #[.int .i64 0, .int .i64 0, .int .u64 0, .int .i64 0, .int .i64 0, .int .i64 0, .int .i64 0, .int .i64 0] 27 (0, 0)) := by rw [hW]; exact heap_alloc_new _ _
  have nb : Below w.heap.size w W := by rw [hW]; exact below_alloc (Below.refl _ _) _
  obtain ⟨s, hsdef⟩ : ∃ s, s = sortP l := ⟨_, rfl⟩
  have sl : s.length = l.length := by rw [hsdef]; exact sortP_length l
  have ss : ∀ x ∈ s, smp x := fun x hx => hs x ((sortP_perm l).mem_iff.1 (by rw [← hsdef]; exact hx))
  have hsum : s.sum = l.sum := by rw [hsdef]; exact perm_sum (sortP_perm l)
  have hsq : ∀ m, sqP m s = sqP m l := fun m => by rw [hsdef]; exact perm_sq m (sortP_perm l)
  rw [← hsdef]
  have hmr := mean_rng ss (by omega)
  have hqr := sqs_rng ss hmr
  have hsr := sum_smp ss
  obtain ⟨N, hN⟩ : ∃ n, n = l.length := ⟨_, rfl⟩
  have hNs : s.length = N := by omega
  obtain ⟨k, hk⟩ : ∃ q, q = N - 1 := ⟨_, rfl⟩
  obtain ⟨x0, hx0⟩ : ∃ x, x = rd s 0 := ⟨_, rfl⟩
  obtain ⟨xk, hxk⟩ : ∃ x, x = rd s (k : Nat) := ⟨_, rfl⟩
  obtain ⟨k1, hk1⟩ : ∃ q, q = (N - 1) / 2 := ⟨_, rfl⟩
  obtain ⟨k2, hk2⟩ : ∃ q, q = N / 2 := ⟨_, rfl⟩
  obtain ⟨y1, hy1⟩ : ∃ x, x = rd s (k1 : Nat) := ⟨_, rfl⟩
  obtain ⟨y2, hy2⟩ : ∃ x, x = rd s (k2 : Nat) := ⟨_, rfl⟩
  have ry1 : smp y1 := by rw [hy1]; exact rd_smp ss (by omega)
  have ry2 : smp y2 := by rw [hy2]; exact rd_smp ss (by omega)
  unfold smp at ry1 ry2
  obtain ⟨me, hme⟩ : ∃ m, m = meanP s := ⟨_, rfl⟩
  obtain ⟨md, hmd⟩ : ∃ m, m = medP s := ⟨_, rfl⟩
  have hmd2 : md = (y1 + y2) / 2 := by rw [hmd, hy1, hy2, hk1, hk2, ← hNs]; rfl
  obtain ⟨dv, hdv⟩ : ∃ m, m = devP s := ⟨_, rfl⟩
  obtain ⟨ua, hua⟩ : ∃ m, m = hiW s.sum := ⟨_, rfl⟩
  obtain ⟨ub, hub⟩ : ∃ m, m = loW s.sum := ⟨_, rfl⟩
  have RES := Aside0.mk (show statA s = #[.int .i64 (N : Int), .int .i64 ua, .int .u64 ub, .int .i64 x0, .int .i64 xk, .int .i64 me, .int .i64 md, .int .i64 dv] by unfold statA; rw [hNs, hua, hub, hx0, hxk, hme, hmd, hdv, hk])
  rw [← hme] at hmr hqr
  have HDV := Aside0.mk (show dv = isq (sqP me l / N) by rw [hdv, ← hsq, hme, ← hNs]; rfl)
  obtain ⟨sm, hsm⟩ : ∃ x, x = l.sum := ⟨_, rfl⟩
  have hme2 : me = sm / (N : Int) := by rw [hme, hsm, ← hsum, ← hNs]; rfl
  rw [hsum, ← hsm] at hua hub hsr
  have HCL := Aside0.mk (fun (W : World) (A : Option Addr) (h : Kd.C (Kd.int .i64) W A s.length s) => show ∃ ad, A = some ad ∧ W.cell? ad = some (.int .i64 x0) ∧ W.cell? (ad.add k) = some (.int .i64 xk) ∧ W.cell? (ad.add k1) = some (.int .i64 y1) ∧ W.cell? (ad.add k2) = some (.int .i64 y2) by
    obtain ⟨ad, hA, c0⟩ := cell_rd h (show 0 < s.length by omega)
    obtain ⟨ad', hA', c1⟩ := cell_rd h (show k < s.length by omega)
    rw [hA] at hA'; injection hA' with hA'; subst hA'
    obtain ⟨ad', hA', c2⟩ := cell_rd h (show k1 < s.length by omega)
    rw [hA] at hA'; injection hA' with hA'; subst hA'
    obtain ⟨ad', hA', c3⟩ := cell_rd h (show k2 < s.length by omega)
    rw [hA] at hA'; injection hA' with hA'; subst hA'
    rw [show ad.add 0 = ad by simp [Addr.add]] at c0
    exact ⟨ad, hA, by rw [hx0]; exact c0, by rw [hxk]; exact c1, by rw [hy1]; exact c2, by rw [hy2]; exact c3⟩)
  have HFI := Aside0.mk (ref_fine (c := c) (Kd.C_below h nb) hl true (by
    symm
    rw [List.all_eq_true]
    intro x hx
    exact decide_eq_true (hs x hx)))
  have HSO := Aside0.mk (ref_Sorted l.length (c := c) (Nat.le_refl _) rfl (Kd.C_below h nb) hc hl)
  have HSU := Aside0.mk (fun (V : World) (hb : Below w.heap.size w V) => ref_sum (c := c) (Kd.C_below h hb) hl hs)
  rw [← hsm] at HSU
  rw [← hsdef, ← hN] at HSO
  rw [← hN] at HFI HSU h hl hc h0 ⊢
  have HNS := Aside0.mk hNs
  have HCA := Aside0.mk h
  have HLS := Aside0.mk hs
  have HNL := Aside0.mk hN
  have HWI := Aside0.mk (fun (W : World) (u : Value) (h : NumV W u sm) => ref_wideN h (by omega))
  unfold WV at HWI
  rw [← hua, ← hub] at HWI
  have HPT := Aside0.mk (fun (W : World) (u : Value) (h : NumV W u sm) => ref_part (n := (N : Int)) h (by omega) (by omega) (by rw [← hme2]; omega))
  rw [← hme2] at HPT
  obtain ⟨hkN, hk2N, a1, a2, a3, a4, a5, r, a6, a7, q0, q1, q2, q2n, q3n, d0, hr1, a8, a9⟩ := of_idx h0 hl hk hk1 hk2
  have q1n := hkN
  have HR1 := Aside0.mk hr1
  have HYY := Aside0.mk (show k1 = k2 → y1 = y2 by intro e; rw [hy1, hy2, e])
  have HW := Aside0.mk hW
  have NB := Aside0.mk nb
  have N0 := Aside0.mk n0
  have HMR := Aside0.mk hmr
  have HQR := Aside0.mk hqr
  have HSQ := Aside0.mk hsq
  have HLL := Aside0.mk hl
  have HMD := Aside0.mk hmd2
  have RY := Aside0.mk (And.intro ry1 ry2)
  clear ry1 ry2 hmd2 hl h hs hW n0 nb hsdef sl ss hsum hsq hsr hqr hmr hx0 hxk hk1 hk2 hy1 hy2 hme hmd hdv hua hub hN hNs hme2 hsm hk hr1
  go_enter Try.func13, Try.ntmps13
  go_upto_region 1 with (fail)
  rw [← HW.out]
  go_upto_region 7 with (first
    | (go_at_call 33; (with_reducible refine (HFI.out).mono ?_); rintro e w1 ⟨rfl, rfl⟩)
    | (go_at_call 34; (with_reducible refine (HSO.out).mono ?_); rintro e w1 ⟨A4, c4, rfl, h4, l4, b4⟩; obtain ⟨ad, rfl, p0, p1, p2, p3⟩ := HCL.out _ _ h4; rw [HNS.out]; have PP0 := Aside0.mk p0; have PP1 := Aside0.mk p1; have PP2 := Aside0.mk p2; have PP3 := Aside0.mk p3; have HB4 := Aside0.mk (hop NB.out b4); have N4 := Aside0.mk ((b4.block _ (blk_lt N0.out)).trans N0.out); clear h4 l4 b4 p0 p1 p2 p3)
    | (go_at_call 35; (with_reducible refine (HSU.out _ HB4.out).mono ?_); rintro e w5 ⟨v, rfl, ⟨A5, c5, rfl, h5⟩, b5⟩; have H5 := Aside0.mk h5; have HB5 := Aside0.mk (hop HB4.out b5); have N5_ := Aside0.mk ((b5.block _ (blk_lt N4.out)).trans N4.out); have PQ0 := Aside0.mk (pw_cell_below b5 PP0.out); have PQ1 := Aside0.mk (pw_cell_below b5 PP1.out); have PQ2 := Aside0.mk (pw_cell_below b5 PP2.out); have PQ3 := Aside0.mk (pw_cell_below b5 PP3.out); clear h5 b5))
  have m5 := heap_alloc_new w5 (.cells #[.bool (decide (sm < 0)), .slice A5 (limbs sm.natAbs).length c5] 71 (0, 0))
  have b5 := below_alloc (Below.refl w5.heap.size w5) (.cells #[.bool (decide (sm < 0)), .slice A5 (limbs sm.natAbs).length c5] 71 (0, 0))
  obtain ⟨W5, hW5⟩ : ∃ W5, W5 = w5.alloc (.cells #[.bool (decide (sm < 0)), .slice A5 (limbs sm.natAbs).length c5] 71 (0, 0)) := ⟨_, rfl⟩
  rw [← hW5] at m5 b5 ⊢
  obtain ⟨g5, hg5⟩ : ∃ g, g = w5.heap.size := ⟨_, rfl⟩
  rw [← hg5] at m5 ⊢
  have N5 := Aside0.mk m5
  have L5 := Aside0.mk (H5.out.below b5)
  have P0 := Aside0.mk (pw_cell_below b5 PQ0.out)
  have P1 := Aside0.mk (pw_cell_below b5 PQ1.out)
  have P2 := Aside0.mk (pw_cell_below b5 PQ2.out)
  have P3 := Aside0.mk (pw_cell_below b5 PQ3.out)
  have B5 := Aside0.mk (hop HB5.out b5)
  have T5 := Aside0.mk ((b5.block _ (blk_lt N5_.out)).trans N5_.out)
  have hgg : w.heap.size < W5.heap.size := blk_lt T5.out
  clear m5 b5 hW5 hg5 PQ0 PQ1 PQ2 PQ3 HB5 N5_ H5 PP0 PP1 PP2 PP3 HB4 N4 NB N0 HW
  have HB := Aside0.mk (show Below W5.heap.size W5 W5.drew from (Below.refl _ _).drew)
  refine start_ (n := 20) (S := fun w' => True) (ds := []) #[false, false, false, false, false, false, false, false, false, false, false, false, false, false, false, false, false, false, false, false] (by kernel_rfl) rfl rfl trivial (fun hHeld => ?_)
  refine with_tabW rof7.tab rof7.bits (fun HT_ HW_ => ?_)
  refine inv_at [0, 1, 2, 3, 4, 5, 6, 7, 8, 9, 10, 11, 12, 13, 14, 15, 16, 17, 18, 19] (fun a0_ b a w' => ∃ (g6 : Nat) (m18_ : Value), a = putSel a0_ b [(0, 24, .slice A N c), (1, 25, .int .i64 (N : Int)), (2, 26, .agg #[.bool (decide (sm < 0)), .slice A5 (limbs sm.natAbs).length c5]), (3, 27, .agg #[.int .i64 ua, .int .u64 ub]), (4, 28, .slice (some ad) N c4), (5, 29, .pointer (some ad)), (6, 30, .int .i64 x0), (7, 31, .slice (some ad) N c4), (8, 32, .slice (some ad) N c4), (9, 33, .int .i64 (N : Int)), (10, 34, .int .i64 (k : Int)), (11, 35, .pointer (some (ad.add k))), (12, 36, .int .i64 xk), (13, 37, .agg #[.bool (decide (sm < 0)), .slice A5 (limbs sm.natAbs).length c5]), (14, 38, .slice A N c), (15, 39, .int .i64 (N : Int)), (16, 40, .int .i64 me), (17, 41, .agg #[.int .i64 (N : Int), .int .i64 ua, .int .u64 ub, .int .i64 x0, .int .i64 xk, .int .i64 me, .int .i64 0, .int .i64 0]), (18, 6, m18_)] ∧ (Below W5.heap.size W5 w') ∧ (b 18 = true → W5.heap.size ≤ g6) ∧ (b 18 = true → g6 < w'.heap.size) ∧ (b 18 = true → b 19 = false → w'.heap[g6]? = some (.cells #[.int .i64 0, .int .i64 0, .int .u64 0, .int .i64 0, .int .i64 0, .int .i64 0, .int .i64 0, .int .i64 0] 27 (0, 0))) ∧ (b 18 = true → b 19 = true → w'.heap[g6]? = some (.cells #[.int .i64 (N : Int), .int .i64 ua, .int .u64 ub, .int .i64 x0, .int .i64 xk, .int .i64 me, .int .i64 0, .int .i64 0] 27 (0, 0))) ∧ (b 18 = true → (m18_ : Value) = .pointer (some ⟨g6, 0, none⟩))) HT_.out HW_.out (by kernel_rfl) (by kernel_rfl) ?_ ?_ ?_
  · exact ⟨0, .bool false, by simp only [putSel, Bool.false_eq_true, if_false], HB.out, fun h_ => absurd h_ (by decide), fun h_ => absurd h_ (by decide), fun h_ => absurd h_ (by decide), fun h_ => absurd h_ (by decide), fun h_ => absurd h_ (by decide)⟩
  · skip
    clear HB
    refine steps_cons ?_ ?_
    · rintro b a w' ⟨g6, m18_, ha, Q_HB, Q_G18, Q_L18, Q_Z18, Q_N19, Q_X18_⟩ hb_ hon hoff
      refine ⟨_, rfl, fun K hK => ?_⟩
      have e0 : a.tmps[0]? = some (.slice A N c) := by rw [ha]; exact (putSel_off rfl).trans rfl
      replace ha := Aside0.mk ha
      have HB := Aside0.mk Q_HB
      refine value_ (w1 := w') (v := .slice A N c) (by rfl) rfl ?_ ?_
      · go_simp
        (try simp only [i64_w])
        try rfl
        try assumption
        try (unfold wrap64; omega)
      refine hK.out _ _ ⟨g6, m18_, (by rw [ha.out]; exact putSel_upk 0 hb_ rfl rfl rfl), Q_HB, Q_G18, Q_L18, Q_Z18, fun _ h1_ => absurd ((hoff 19 (by kernel_rfl)).symm.trans h1_) (by decide), Q_X18_⟩
    refine steps_cons ?_ ?_
    · rintro b a w' ⟨g6, m18_, ha, Q_HB, Q_G18, Q_L18, Q_Z18, Q_N19, Q_X18_⟩ hb_ hon hoff
      refine ⟨_, rfl, fun K hK => ?_⟩
      have e24 : a.tmps[24]? = some (.slice A N c) := by rw [ha]; exact putSel_on (e := (0, 24, .slice A N c)) 0 rfl rfl (hon 0 (by kernel_rfl)) rfl
      replace ha := Aside0.mk ha
      have HB := Aside0.mk Q_HB
      refine value_ (w1 := w') (v := .int .i64 (N : Int)) (by rfl) rfl ?_ ?_
      · go_simp
        (try simp only [i64_w])
        try rfl
        try assumption
        try (unfold wrap64; omega)
      refine hK.out _ _ ⟨g6, m18_, (by rw [ha.out]; exact putSel_upk 1 hb_ rfl rfl rfl), Q_HB, Q_G18, Q_L18, Q_Z18, fun _ h1_ => absurd ((hoff 19 (by kernel_rfl)).symm.trans h1_) (by decide), Q_X18_⟩
    refine steps_cons ?_ ?_
    · rintro b a w' ⟨g6, m18_, ha, Q_HB, Q_G18, Q_L18, Q_Z18, Q_N19, Q_X18_⟩ hb_ hon hoff
      refine ⟨_, rfl, fun K hK => ?_⟩
      have e5 : a.tmps[5]? = some (.pointer (some ⟨g5, 0, none⟩)) := by rw [ha]; exact (putSel_off rfl).trans rfl
      replace ha := Aside0.mk ha
      have HB := Aside0.mk Q_HB
      have k0 := blk_cell ((HB.out.block _ (blk_lt N5.out)).trans N5.out) 0
      have k1 := blk_cell ((HB.out.block _ (blk_lt N5.out)).trans N5.out) 1
      refine value_ (w1 := w') (v := .agg #[.bool (decide (sm < 0)), .slice A5 (limbs sm.natAbs).length c5]) (by rfl) rfl ?_ ?_
      · go_simp
        (try simp only [i64_w])
        try rfl
        try assumption
        try (unfold wrap64; omega)
      refine hK.out _ _ ⟨g6, m18_, (by rw [ha.out]; exact putSel_upk 2 hb_ rfl rfl rfl), Q_HB, Q_G18, Q_L18, Q_Z18, fun _ h1_ => absurd ((hoff 19 (by kernel_rfl)).symm.trans h1_) (by decide), Q_X18_⟩
    refine steps_cons ?_ ?_
    · rintro b a w' ⟨g6, m18_, ha, Q_HB, Q_G18, Q_L18, Q_Z18, Q_N19, Q_X18_⟩ hb_ hon hoff
      refine ⟨_, rfl, fun K hK => ?_⟩
      have e26 : a.tmps[26]? = some (.agg #[.bool (decide (sm < 0)), .slice A5 (limbs sm.natAbs).length c5]) := by rw [ha]; exact putSel_on (e := (2, 26, .agg #[.bool (decide (sm < 0)), .slice A5 (limbs sm.natAbs).length c5])) 2 rfl rfl (hon 2 (by kernel_rfl)) rfl
      replace ha := Aside0.mk ha
      have HB := Aside0.mk Q_HB
      refine goes_ Try.func36 (by kernel_rfl) rfl #[.agg #[.bool (decide (sm < 0)), .slice A5 (limbs sm.natAbs).length c5]] (by rfl) rfl rfl (by first | (simp only [List.map_toArray, List.map_cons, List.map_nil, Act.eval, Array.getD_eq_getD_getElem?, Option.getD_some, e26]; done) | (simp only [List.map_toArray, List.map_cons, List.map_nil, Act.eval, Array.getD_eq_getD_getElem?, Option.getD_some, e26]; rfl)) ?_
      with_reducible refine (HWI.out _ _ (NumV.of (L5.out.below HB.out))).mono ?_
      rintro e w1 ⟨rfl, hb⟩
      refine ⟨_, rfl, ?_⟩
      refine hK.out _ _ ⟨g6, m18_, (by rw [ha.out]; exact putSel_upk 3 hb_ rfl rfl rfl), hop HB.out hb, Q_G18, fun h18 => Nat.lt_of_lt_of_le (Q_L18 h18) hb.size, fun h18 h19 => (hb.block _ (blk_lt (Q_Z18 h18 h19))).trans (Q_Z18 h18 h19), fun _ h1_ => absurd ((hoff 19 (by kernel_rfl)).symm.trans h1_) (by decide), Q_X18_⟩
    refine steps_cons ?_ ?_
    · rintro b a w' ⟨g6, m18_, ha, Q_HB, Q_G18, Q_L18, Q_Z18, Q_N19, Q_X18_⟩ hb_ hon hoff
      refine ⟨_, rfl, fun K hK => ?_⟩
      have e4 : a.tmps[4]? = some (.slice (some ad) N c4) := by rw [ha]; exact (putSel_off rfl).trans rfl
      replace ha := Aside0.mk ha
      have HB := Aside0.mk Q_HB
      refine value_ (w1 := w') (v := .slice (some ad) N c4) (by rfl) rfl ?_ ?_
      · go_simp
        (try simp only [i64_w])
        try rfl
        try assumption
        try (unfold wrap64; omega)
      refine hK.out _ _ ⟨g6, m18_, (by rw [ha.out]; exact putSel_upk 4 hb_ rfl rfl rfl), Q_HB, Q_G18, Q_L18, Q_Z18, fun _ h1_ => absurd ((hoff 19 (by kernel_rfl)).symm.trans h1_) (by decide), Q_X18_⟩
    refine steps_cons ?_ ?_
    · rintro b a w' ⟨g6, m18_, ha, Q_HB, Q_G18, Q_L18, Q_Z18, Q_N19, Q_X18_⟩ hb_ hon hoff
      refine ⟨_, rfl, fun K hK => ?_⟩
      have e28 : a.tmps[28]? = some (.slice (some ad) N c4) := by rw [ha]; exact putSel_on (e := (4, 28, .slice (some ad) N c4)) 4 rfl rfl (hon 4 (by kernel_rfl)) rfl
      replace ha := Aside0.mk ha
      have HB := Aside0.mk Q_HB
      refine value_ (w1 := w') (v := .pointer (some ad)) (by rfl) rfl ?_ ?_
      · go_simp
        (try simp only [i64_w])
        try rfl
        try assumption
        try (unfold wrap64; omega)
      refine hK.out _ _ ⟨g6, m18_, (by rw [ha.out]; exact putSel_upk 5 hb_ rfl rfl rfl), Q_HB, Q_G18, Q_L18, Q_Z18, fun _ h1_ => absurd ((hoff 19 (by kernel_rfl)).symm.trans h1_) (by decide), Q_X18_⟩
    refine steps_cons ?_ ?_
    · rintro b a w' ⟨g6, m18_, ha, Q_HB, Q_G18, Q_L18, Q_Z18, Q_N19, Q_X18_⟩ hb_ hon hoff
      refine ⟨_, rfl, fun K hK => ?_⟩
      have e29 : a.tmps[29]? = some (.pointer (some ad)) := by rw [ha]; exact putSel_on (e := (5, 29, .pointer (some ad))) 5 rfl rfl (hon 5 (by kernel_rfl)) rfl
      replace ha := Aside0.mk ha
      have HB := Aside0.mk Q_HB
      have k0 := pw_cell_below HB.out P0.out
      refine value_ (w1 := w') (v := .int .i64 x0) (by rfl) rfl ?_ ?_
      · go_simp
        (try simp only [i64_w])
        try rfl
        try assumption
        try (unfold wrap64; omega)
      refine hK.out _ _ ⟨g6, m18_, (by rw [ha.out]; exact putSel_upk 6 hb_ rfl rfl rfl), Q_HB, Q_G18, Q_L18, Q_Z18, fun _ h1_ => absurd ((hoff 19 (by kernel_rfl)).symm.trans h1_) (by decide), Q_X18_⟩
    refine steps_cons ?_ ?_
    · rintro b a w' ⟨g6, m18_, ha, Q_HB, Q_G18, Q_L18, Q_Z18, Q_N19, Q_X18_⟩ hb_ hon hoff
      refine ⟨_, rfl, fun K hK => ?_⟩
      have e4 : a.tmps[4]? = some (.slice (some ad) N c4) := by rw [ha]; exact (putSel_off rfl).trans rfl
      replace ha := Aside0.mk ha
      have HB := Aside0.mk Q_HB
      refine value_ (w1 := w') (v := .slice (some ad) N c4) (by rfl) rfl ?_ ?_
      · go_simp
        (try simp only [i64_w])
        try rfl
        try assumption
        try (unfold wrap64; omega)
      refine hK.out _ _ ⟨g6, m18_, (by rw [ha.out]; exact putSel_upk 7 hb_ rfl rfl rfl), Q_HB, Q_G18, Q_L18, Q_Z18, fun _ h1_ => absurd ((hoff 19 (by kernel_rfl)).symm.trans h1_) (by decide), Q_X18_⟩
    refine steps_cons ?_ ?_
    · rintro b a w' ⟨g6, m18_, ha, Q_HB, Q_G18, Q_L18, Q_Z18, Q_N19, Q_X18_⟩ hb_ hon hoff
      refine ⟨_, rfl, fun K hK => ?_⟩
      have e4 : a.tmps[4]? = some (.slice (some ad) N c4) := by rw [ha]; exact (putSel_off rfl).trans rfl
      replace ha := Aside0.mk ha
      have HB := Aside0.mk Q_HB
      refine value_ (w1 := w') (v := .slice (some ad) N c4) (by rfl) rfl ?_ ?_
      · go_simp
        (try simp only [i64_w])
        try rfl
        try assumption
        try (unfold wrap64; omega)
      refine hK.out _ _ ⟨g6, m18_, (by rw [ha.out]; exact putSel_upk 8 hb_ rfl rfl rfl), Q_HB, Q_G18, Q_L18, Q_Z18, fun _ h1_ => absurd ((hoff 19 (by kernel_rfl)).symm.trans h1_) (by decide), Q_X18_⟩
    refine steps_cons ?_ ?_
    · rintro b a w' ⟨g6, m18_, ha, Q_HB, Q_G18, Q_L18, Q_Z18, Q_N19, Q_X18_⟩ hb_ hon hoff
      refine ⟨_, rfl, fun K hK => ?_⟩
      have e32 : a.tmps[32]? = some (.slice (some ad) N c4) := by rw [ha]; exact putSel_on (e := (8, 32, .slice (some ad) N c4)) 8 rfl rfl (hon 8 (by kernel_rfl)) rfl
      replace ha := Aside0.mk ha
      have HB := Aside0.mk Q_HB
      refine value_ (w1 := w') (v := .int .i64 (N : Int)) (by rfl) rfl ?_ ?_
      · go_simp
        (try simp only [i64_w])
        try rfl
        try assumption
        try (unfold wrap64; omega)
      refine hK.out _ _ ⟨g6, m18_, (by rw [ha.out]; exact putSel_upk 9 hb_ rfl rfl rfl), Q_HB, Q_G18, Q_L18, Q_Z18, fun _ h1_ => absurd ((hoff 19 (by kernel_rfl)).symm.trans h1_) (by decide), Q_X18_⟩
    refine steps_cons ?_ ?_
    · rintro b a w' ⟨g6, m18_, ha, Q_HB, Q_G18, Q_L18, Q_Z18, Q_N19, Q_X18_⟩ hb_ hon hoff
      refine ⟨_, rfl, fun K hK => ?_⟩
      have e33 : a.tmps[33]? = some (.int .i64 (N : Int)) := by rw [ha]; exact putSel_on (e := (9, 33, .int .i64 (N : Int))) 9 rfl rfl (hon 9 (by kernel_rfl)) rfl
      replace ha := Aside0.mk ha
      have HB := Aside0.mk Q_HB
      refine value_ (w1 := w') (v := .int .i64 (k : Int)) (by rfl) rfl ?_ ?_
      · go_simp
        (try simp only [i64_w])
        try rfl
        try assumption
        try (unfold wrap64; omega)
      refine hK.out _ _ ⟨g6, m18_, (by rw [ha.out]; exact putSel_upk 10 hb_ rfl rfl rfl), Q_HB, Q_G18, Q_L18, Q_Z18, fun _ h1_ => absurd ((hoff 19 (by kernel_rfl)).symm.trans h1_) (by decide), Q_X18_⟩
    refine steps_cons ?_ ?_
    · rintro b a w' ⟨g6, m18_, ha, Q_HB, Q_G18, Q_L18, Q_Z18, Q_N19, Q_X18_⟩ hb_ hon hoff
      refine ⟨_, rfl, fun K hK => ?_⟩
      have e31 : a.tmps[31]? = some (.slice (some ad) N c4) := by rw [ha]; exact putSel_on (e := (7, 31, .slice (some ad) N c4)) 7 rfl rfl (hon 7 (by kernel_rfl)) rfl
      have e34 : a.tmps[34]? = some (.int .i64 (k : Int)) := by rw [ha]; exact putSel_on (e := (10, 34, .int .i64 (k : Int))) 10 rfl rfl (hon 10 (by kernel_rfl)) rfl
      replace ha := Aside0.mk ha
      have HB := Aside0.mk Q_HB
      refine value_ (w1 := w') (v := .pointer (some (ad.add k))) (by rfl) rfl ?_ ?_
      · go_simp
        (try simp only [i64_w])
        try rfl
        try assumption
        try (unfold wrap64; omega)
      refine hK.out _ _ ⟨g6, m18_, (by rw [ha.out]; exact putSel_upk 11 hb_ rfl rfl rfl), Q_HB, Q_G18, Q_L18, Q_Z18, fun _ h1_ => absurd ((hoff 19 (by kernel_rfl)).symm.trans h1_) (by decide), Q_X18_⟩
    refine steps_cons ?_ ?_
    · rintro b a w' ⟨g6, m18_, ha, Q_HB, Q_G18, Q_L18, Q_Z18, Q_N19, Q_X18_⟩ hb_ hon hoff
      refine ⟨_, rfl, fun K hK => ?_⟩
      have e35 : a.tmps[35]? = some (.pointer (some (ad.add k))) := by rw [ha]; exact putSel_on (e := (11, 35, .pointer (some (ad.add k)))) 11 rfl rfl (hon 11 (by kernel_rfl)) rfl
      replace ha := Aside0.mk ha
      have HB := Aside0.mk Q_HB
      have k0 := pw_cell_below HB.out P1.out
      refine value_ (w1 := w') (v := .int .i64 xk) (by rfl) rfl ?_ ?_
      · go_simp
        (try simp only [i64_w])
        try rfl
        try assumption
        try (unfold wrap64; omega)
      refine hK.out _ _ ⟨g6, m18_, (by rw [ha.out]; exact putSel_upk 12 hb_ rfl rfl rfl), Q_HB, Q_G18, Q_L18, Q_Z18, fun _ h1_ => absurd ((hoff 19 (by kernel_rfl)).symm.trans h1_) (by decide), Q_X18_⟩
    refine steps_cons ?_ ?_
    · rintro b a w' ⟨g6, m18_, ha, Q_HB, Q_G18, Q_L18, Q_Z18, Q_N19, Q_X18_⟩ hb_ hon hoff
      refine ⟨_, rfl, fun K hK => ?_⟩
      have e5 : a.tmps[5]? = some (.pointer (some ⟨g5, 0, none⟩)) := by rw [ha]; exact (putSel_off rfl).trans rfl
      replace ha := Aside0.mk ha
      have HB := Aside0.mk Q_HB
      have k0 := blk_cell ((HB.out.block _ (blk_lt N5.out)).trans N5.out) 0
      have k1 := blk_cell ((HB.out.block _ (blk_lt N5.out)).trans N5.out) 1
      refine value_ (w1 := w') (v := .agg #[.bool (decide (sm < 0)), .slice A5 (limbs sm.natAbs).length c5]) (by rfl) rfl ?_ ?_
      · go_simp
        (try simp only [i64_w])
        try rfl
        try assumption
        try (unfold wrap64; omega)
      refine hK.out _ _ ⟨g6, m18_, (by rw [ha.out]; exact putSel_upk 13 hb_ rfl rfl rfl), Q_HB, Q_G18, Q_L18, Q_Z18, fun _ h1_ => absurd ((hoff 19 (by kernel_rfl)).symm.trans h1_) (by decide), Q_X18_⟩
    refine steps_cons ?_ ?_
    · rintro b a w' ⟨g6, m18_, ha, Q_HB, Q_G18, Q_L18, Q_Z18, Q_N19, Q_X18_⟩ hb_ hon hoff
      refine ⟨_, rfl, fun K hK => ?_⟩
      have e0 : a.tmps[0]? = some (.slice A N c) := by rw [ha]; exact (putSel_off rfl).trans rfl
      replace ha := Aside0.mk ha
      have HB := Aside0.mk Q_HB
      refine value_ (w1 := w') (v := .slice A N c) (by rfl) rfl ?_ ?_
      · go_simp
        (try simp only [i64_w])
        try rfl
        try assumption
        try (unfold wrap64; omega)
      refine hK.out _ _ ⟨g6, m18_, (by rw [ha.out]; exact putSel_upk 14 hb_ rfl rfl rfl), Q_HB, Q_G18, Q_L18, Q_Z18, fun _ h1_ => absurd ((hoff 19 (by kernel_rfl)).symm.trans h1_) (by decide), Q_X18_⟩
    refine steps_cons ?_ ?_
    · rintro b a w' ⟨g6, m18_, ha, Q_HB, Q_G18, Q_L18, Q_Z18, Q_N19, Q_X18_⟩ hb_ hon hoff
      refine ⟨_, rfl, fun K hK => ?_⟩
      have e38 : a.tmps[38]? = some (.slice A N c) := by rw [ha]; exact putSel_on (e := (14, 38, .slice A N c)) 14 rfl rfl (hon 14 (by kernel_rfl)) rfl
      replace ha := Aside0.mk ha
      have HB := Aside0.mk Q_HB
      refine value_ (w1 := w') (v := .int .i64 (N : Int)) (by rfl) rfl ?_ ?_
      · go_simp
        (try simp only [i64_w])
        try rfl
        try assumption
        try (unfold wrap64; omega)
      refine hK.out _ _ ⟨g6, m18_, (by rw [ha.out]; exact putSel_upk 15 hb_ rfl rfl rfl), Q_HB, Q_G18, Q_L18, Q_Z18, fun _ h1_ => absurd ((hoff 19 (by kernel_rfl)).symm.trans h1_) (by decide), Q_X18_⟩
    refine steps_cons ?_ ?_
    · rintro b a w' ⟨g6, m18_, ha, Q_HB, Q_G18, Q_L18, Q_Z18, Q_N19, Q_X18_⟩ hb_ hon hoff
      refine ⟨_, rfl, fun K hK => ?_⟩
      have e37 : a.tmps[37]? = some (.agg #[.bool (decide (sm < 0)), .slice A5 (limbs sm.natAbs).length c5]) := by rw [ha]; exact putSel_on (e := (13, 37, .agg #[.bool (decide (sm < 0)), .slice A5 (limbs sm.natAbs).length c5])) 13 rfl rfl (hon 13 (by kernel_rfl)) rfl
      have e39 : a.tmps[39]? = some (.int .i64 (N : Int)) := by rw [ha]; exact putSel_on (e := (15, 39, .int .i64 (N : Int))) 15 rfl rfl (hon 15 (by kernel_rfl)) rfl
      replace ha := Aside0.mk ha
      have HB := Aside0.mk Q_HB
      refine goes_ Try.func37 (by kernel_rfl) rfl #[.agg #[.bool (decide (sm < 0)), .slice A5 (limbs sm.natAbs).length c5], .int .i64 (N : Int)] (by rfl) rfl rfl (by first | (simp only [List.map_toArray, List.map_cons, List.map_nil, Act.eval, Array.getD_eq_getD_getElem?, Option.getD_some, e37, e39]; done) | (simp only [List.map_toArray, List.map_cons, List.map_nil, Act.eval, Array.getD_eq_getD_getElem?, Option.getD_some, e37, e39]; rfl)) ?_
      with_reducible refine (HPT.out _ _ (NumV.of (L5.out.below HB.out))).mono ?_
      rintro e w1 ⟨rfl, hb⟩
      refine ⟨_, rfl, ?_⟩
      refine hK.out _ _ ⟨g6, m18_, (by rw [ha.out]; exact putSel_upk 16 hb_ rfl rfl rfl), hop HB.out hb, Q_G18, fun h18 => Nat.lt_of_lt_of_le (Q_L18 h18) hb.size, fun h18 h19 => (hb.block _ (blk_lt (Q_Z18 h18 h19))).trans (Q_Z18 h18 h19), fun _ h1_ => absurd ((hoff 19 (by kernel_rfl)).symm.trans h1_) (by decide), Q_X18_⟩
    refine steps_cons ?_ ?_
    · rintro b a w' ⟨g6, m18_, ha, Q_HB, Q_G18, Q_L18, Q_Z18, Q_N19, Q_X18_⟩ hb_ hon hoff
      refine ⟨_, rfl, fun K hK => ?_⟩
      have e25 : a.tmps[25]? = some (.int .i64 (N : Int)) := by rw [ha]; exact putSel_on (e := (1, 25, .int .i64 (N : Int))) 1 rfl rfl (hon 1 (by kernel_rfl)) rfl
      have e27 : a.tmps[27]? = some (.agg #[.int .i64 ua, .int .u64 ub]) := by rw [ha]; exact putSel_on (e := (3, 27, .agg #[.int .i64 ua, .int .u64 ub])) 3 rfl rfl (hon 3 (by kernel_rfl)) rfl
      have e30 : a.tmps[30]? = some (.int .i64 x0) := by rw [ha]; exact putSel_on (e := (6, 30, .int .i64 x0)) 6 rfl rfl (hon 6 (by kernel_rfl)) rfl
      have e36 : a.tmps[36]? = some (.int .i64 xk) := by rw [ha]; exact putSel_on (e := (12, 36, .int .i64 xk)) 12 rfl rfl (hon 12 (by kernel_rfl)) rfl
      have e40 : a.tmps[40]? = some (.int .i64 me) := by rw [ha]; exact putSel_on (e := (16, 40, .int .i64 me)) 16 rfl rfl (hon 16 (by kernel_rfl)) rfl
      replace ha := Aside0.mk ha
      have HB := Aside0.mk Q_HB
      refine value_ (w1 := w') (v := .agg #[.int .i64 (N : Int), .int .i64 ua, .int .u64 ub, .int .i64 x0, .int .i64 xk, .int .i64 me, .int .i64 0, .int .i64 0]) (by rfl) rfl ?_ ?_
      · go_simp
        (try simp only [i64_w])
        try rfl
        try assumption
        try (unfold wrap64; omega)
      refine hK.out _ _ ⟨g6, m18_, (by rw [ha.out]; exact putSel_upk 17 hb_ rfl rfl rfl), Q_HB, Q_G18, Q_L18, Q_Z18, fun _ h1_ => absurd ((hoff 19 (by kernel_rfl)).symm.trans h1_) (by decide), Q_X18_⟩
    refine steps_cons ?_ ?_
    · rintro b a w' ⟨g6, m18_, ha, Q_HB, Q_G18, Q_L18, Q_Z18, Q_N19, Q_X18_⟩ hb_ hon hoff
      refine ⟨_, rfl, fun K hK => ?_⟩
      replace ha := Aside0.mk ha
      have HB := Aside0.mk Q_HB
      have hb := (Below.refl w'.heap.size w').alloc (Nat.le_refl _) (.cells #[.int .i64 0, .int .i64 0, .int .u64 0, .int .i64 0, .int .i64 0, .int .i64 0, .int .i64 0, .int .i64 0] 27 (0, 0))
      refine value_ (w1 := w'.alloc (.cells #[.int .i64 0, .int .i64 0, .int .u64 0, .int .i64 0, .int .i64 0, .int .i64 0, .int .i64 0, .int .i64 0] 27 (0, 0))) (v := .pointer (some ⟨w'.heap.size, 0, none⟩)) (by rfl) rfl ?_ ?_
      · go_simp
        try rfl
        try assumption
        try (unfold wrap64; omega)
      refine hK.out _ _ ⟨w'.heap.size, (.pointer (some ⟨w'.heap.size, 0, none⟩)), (by rw [ha.out]; exact putSel_upk 18 hb_ rfl rfl rfl), hop HB.out hb, fun _ => HB.out.size, fun _ => (by simp), fun _ _ => heap_alloc_new w' _, fun _ h1_ => absurd ((hoff 19 (by kernel_rfl)).symm.trans h1_) (by decide), fun _ => rfl⟩
    refine steps_cons ?_ ?_
    · rintro b a w' ⟨g6, m18_, ha, Q_HB, Q_G18, Q_L18, Q_Z18, Q_N19, Q_X18_⟩ hb_ hon hoff
      refine ⟨_, rfl, fun K hK => ?_⟩
      have e6 : a.tmps[6]? = some (m18_) := by rw [ha]; exact putSel_on (e := (18, 6, m18_)) 18 rfl rfl (hon 18 (by kernel_rfl)) rfl
      rw [Q_X18_ (hon 18 (by kernel_rfl))] at e6
      have e41 : a.tmps[41]? = some (.agg #[.int .i64 (N : Int), .int .i64 ua, .int .u64 ub, .int .i64 x0, .int .i64 xk, .int .i64 me, .int .i64 0, .int .i64 0]) := by rw [ha]; exact putSel_on (e := (17, 41, .agg #[.int .i64 (N : Int), .int .i64 ua, .int .u64 ub, .int .i64 x0, .int .i64 xk, .int .i64 me, .int .i64 0, .int .i64 0])) 17 rfl rfl (hon 17 (by kernel_rfl)) rfl
      replace ha := Aside0.mk ha
      have HB := Aside0.mk Q_HB
      have G18 := Aside0.mk (Q_G18 (hon 18 (by kernel_rfl)))
      have L18 := Aside0.mk (Q_L18 (hon 18 (by kernel_rfl)))
      have Z18 := Aside0.mk (Q_Z18 (hon 18 (by kernel_rfl)) hb_)
      have hk : Keep w' ((((((((w'.setCell ⟨g6, 0, none⟩ (.int .i64 (N : Int))).setCell ⟨g6, 1, none⟩ (.int .i64 ua)).setCell ⟨g6, 2, none⟩ (.int .u64 ub)).setCell ⟨g6, 3, none⟩ (.int .i64 x0)).setCell ⟨g6, 4, none⟩ (.int .i64 xk)).setCell ⟨g6, 5, none⟩ (.int .i64 me)).setCell ⟨g6, 6, none⟩ (.int .i64 0)).setCell ⟨g6, 7, none⟩ (.int .i64 0)) (fun k => k = g6) := (((((((((Keep.refl w' (fun k => k = g6)).set ⟨g6, 0, none⟩ (.int .i64 (N : Int)) (.inl rfl)).set ⟨g6, 1, none⟩ (.int .i64 ua) (.inl rfl)).set ⟨g6, 2, none⟩ (.int .u64 ub) (.inl rfl)).set ⟨g6, 3, none⟩ (.int .i64 x0) (.inl rfl)).set ⟨g6, 4, none⟩ (.int .i64 xk) (.inl rfl)).set ⟨g6, 5, none⟩ (.int .i64 me) (.inl rfl)).set ⟨g6, 6, none⟩ (.int .i64 0) (.inl rfl)).set ⟨g6, 7, none⟩ (.int .i64 0) (.inl rfl))
      have y0 := blk_cell Z18.out 0
      have y1 := blk_cell Z18.out 1
      have y2 := blk_cell Z18.out 2
      have y3 := blk_cell Z18.out 3
      have y4 := blk_cell Z18.out 4
      have y5 := blk_cell Z18.out 5
      have y6 := blk_cell Z18.out 6
      have y7 := blk_cell Z18.out 7
      have z0 := blk_frozen Z18.out 0
      have z1 := blk_frozen Z18.out 1
      have z2 := blk_frozen Z18.out 2
      have z3 := blk_frozen Z18.out 3
      have z4 := blk_frozen Z18.out 4
      have z5 := blk_frozen Z18.out 5
      have z6 := blk_frozen Z18.out 6
      have z7 := blk_frozen Z18.out 7
      refine skip_ (w1 := ((((((((w'.setCell ⟨g6, 0, none⟩ (.int .i64 (N : Int))).setCell ⟨g6, 1, none⟩ (.int .i64 ua)).setCell ⟨g6, 2, none⟩ (.int .u64 ub)).setCell ⟨g6, 3, none⟩ (.int .i64 x0)).setCell ⟨g6, 4, none⟩ (.int .i64 xk)).setCell ⟨g6, 5, none⟩ (.int .i64 me)).setCell ⟨g6, 6, none⟩ (.int .i64 0)).setCell ⟨g6, 7, none⟩ (.int .i64 0))) (by rfl) rfl ?_ ?_
      · go_simp
        try rfl
        try assumption
        try (unfold wrap64; omega)
      refine hK.out _ _ ⟨g6, m18_, (by rw [ha.out]; exact putSel_none (v := undef) rfl), HB.out.trans (hk.below HB.out.size (fun k e => by have e2 : k = g6 := e; rw [e2]; exact G18.out)), Q_G18, fun h18 => Nat.lt_of_lt_of_le (Q_L18 h18) hk.size, fun _ h1_ => absurd ((up_self b 19).symm.trans h1_) (by decide), fun _ _ => (blk_put (blk_put (blk_put (blk_put (blk_put (blk_put (blk_put (blk_put Z18.out 0 (.int .i64 (N : Int)) rfl) 1 (.int .i64 ua) rfl) 2 (.int .u64 ub) rfl) 3 (.int .i64 x0) rfl) 4 (.int .i64 xk) rfl) 5 (.int .i64 me) rfl) 6 (.int .i64 0) rfl) 7 (.int .i64 0) rfl), Q_X18_⟩
    exact steps_nil
  · rintro b a w' hall ⟨g6, m18_, ha, Q_HB, Q_G18, Q_L18, Q_Z18, Q_N19, Q_X18_⟩
    clear HB
    have hb0_ := hall 0 (by kernel_rfl)
    have hb1_ := hall 1 (by kernel_rfl)
    have hb2_ := hall 2 (by kernel_rfl)
    have hb3_ := hall 3 (by kernel_rfl)
    have hb4_ := hall 4 (by kernel_rfl)
    have hb5_ := hall 5 (by kernel_rfl)
    have hb6_ := hall 6 (by kernel_rfl)
    have hb7_ := hall 7 (by kernel_rfl)
    have hb8_ := hall 8 (by kernel_rfl)
    have hb9_ := hall 9 (by kernel_rfl)
    have hb10_ := hall 10 (by kernel_rfl)
    have hb11_ := hall 11 (by kernel_rfl)
    have hb12_ := hall 12 (by kernel_rfl)
    have hb13_ := hall 13 (by kernel_rfl)
    have hb14_ := hall 14 (by kernel_rfl)
    have hb15_ := hall 15 (by kernel_rfl)
    have hb16_ := hall 16 (by kernel_rfl)
    have hb17_ := hall 17 (by kernel_rfl)
    have hb18_ := hall 18 (by kernel_rfl)
    have hb19_ := hall 19 (by kernel_rfl)
    subst ha
    obtain rfl := Q_X18_ hb18_
    simp only [putSel, hb0_, hb1_, hb2_, hb3_, hb4_, hb5_, hb6_, hb7_, hb8_, hb9_, hb10_, hb11_, hb12_, hb13_, hb14_, hb15_, hb16_, hb17_, hb18_, hb19_, if_true, Act.put, List.setIfInBounds_toArray, List.set_cons_zero, List.set_cons_succ]
    have HB := Aside0.mk Q_HB
    clear Q_HB
    have G18 := Aside0.mk (Q_G18 hb18_)
    clear Q_G18
    have L18 := Aside0.mk (Q_L18 hb18_)
    clear Q_L18
    clear Q_Z18
    have N19 := Aside0.mk (Q_N19 hb18_ hb19_)
    clear Q_N19
    clear hall hb0_ hb1_ hb2_ hb3_ hb4_ hb5_ hb6_ hb7_ hb8_ hb9_ hb10_ hb11_ hb12_ hb13_ hb14_ hb15_ hb16_ hb17_ hb18_ hb19_
    have NV := Aside0.mk N19.out
    have u6 := blk_cell NV.out 6
    have f6 := blk_frozen NV.out 6
    have p3 := pw_cell_below HB.out P3.out
    have hg6 := G18.out
    obtain ⟨b0, hb0⟩ : ∃ b, ((r : Int) == 0) = b := ⟨_, rfl⟩
    have HB0 := Aside0.mk (of_par hb0 HR1.out)
    go_upto_if 52 with (fail)
    have w8 : (w'.setCell ⟨g6, 6, none⟩ (.int .i64 y2)).heap[g6]? = some (.cells #[.int .i64 (N : Int), .int .i64 ua, .int .u64 ub, .int .i64 x0, .int .i64 xk, .int .i64 me, .int .i64 y2, .int .i64 0] 27 (0, 0)) := blk_put NV.out 6 _ rfl
    have b8 : Below W5.heap.size W5 (w'.setCell ⟨g6, 6, none⟩ (.int .i64 y2)) := HB.out.trans (((Keep.refl w' (fun k => k = g6)).set ⟨g6, 6, none⟩ (.int .i64 y2) (.inl rfl)).below HB.out.size (fun k e => by have e2 : k = g6 := e; rw [e2]; exact hg6))
    obtain ⟨V, hV⟩ : ∃ V, V = w'.setCell ⟨g6, 6, none⟩ (.int .i64 y2) := ⟨_, rfl⟩
    rw [← hV] at w8 b8 ⊢
    have NV6 := Aside0.mk w8
    have BV := Aside0.mk b8
    clear hV w8 b8 u6 f6 p3 HB NV N19 G18 L18
    have PV2 := Aside0.mk (pw_cell_below BV.out P2.out)
    have PV3 := Aside0.mk (pw_cell_below BV.out P3.out)
    go_cut [] from 53 to 68 (fun wx => Aside0 (wx.heap[g6]? = some (.cells #[.int .i64 (N : Int), .int .i64 ua, .int .u64 ub, .int .i64 x0, .int .i64 xk, .int .i64 me, .int .i64 md, .int .i64 0] 27 (0, 0))) ∧ Aside0 (Below W5.heap.size W5 wx))
    case first =>
      cases b0 with
      | true =>
        have hk12 := HB0.out.1 rfl
        obtain ⟨b1, b2, b3, b4, b5, b6, b7, b8⟩ := of_med hk12 (Nat.le_trans (Nat.le_of_lt q3n.1) HLL.out) RY.out.1 RY.out.2 HMD.out
        have q4n := q3n.1
        have q5n := q3n.2
        clear hk12
        go_upto_region 10 with (fail)
        have HB := Aside0.mk (show Below V.heap.size V V.drew from (Below.refl _ _).drew)
        have E16 := Aside0.mk (show V.drew.heap[g6]? = some (.cells #[.int .i64 (N : Int), .int .i64 ua, .int .u64 ub, .int .i64 x0, .int .i64 xk, .int .i64 me, .int .i64 y2, .int .i64 0] 27 (0, 0)) from NV6.out)
        refine start_ (n := 17) (S := fun w' => True) (ds := []) #[false, false, false, false, false, false, false, false, false, false, false, false, false, false, false, false, false] (by kernel_rfl) rfl rfl trivial (fun hHeld => ?_)
        refine with_tabW rof10.tab rof10.bits (fun HT_ HW_ => ?_)
        refine inv_at [0, 1, 2, 3, 4, 5, 6, 7, 8, 9, 10, 11, 12, 13, 14, 15, 16] (fun a0_ b a w' => a = putSel a0_ b [(0, 53, .slice (some ad) N c4), (1, 54, .slice (some ad) N c4), (2, 55, .int .i64 (N : Int)), (3, 56, .int .i64 (k2 : Int)), (4, 57, .int .i64 (k1 : Int)), (5, 58, .pointer (some (ad.add k1))), (6, 59, .int .i64 y1), (7, 60, .slice (some ad) N c4), (8, 61, .slice (some ad) N c4), (9, 62, .int .i64 (N : Int)), (10, 63, .int .i64 (k2 : Int)), (11, 64, .pointer (some (ad.add k2))), (12, 65, .int .i64 y2), (13, 66, .int .i64 (y1 + y2)), (14, 67, .int .i64 md), (15, 68, .pointer (some ⟨g6, 6, none⟩))] ∧ (b 16 = false → Below V.heap.size V w') ∧ (b 16 = false → w'.heap[g6]? = some (.cells #[.int .i64 (N : Int), .int .i64 ua, .int .u64 ub, .int .i64 x0, .int .i64 xk, .int .i64 me, .int .i64 y2, .int .i64 0] 27 (0, 0))) ∧ (b 16 = true → w'.heap[g6]? = some (.cells #[.int .i64 (N : Int), .int .i64 ua, .int .u64 ub, .int .i64 x0, .int .i64 xk, .int .i64 me, .int .i64 md, .int .i64 0] 27 (0, 0))) ∧ (b 16 = true → Keep V w' (fun k => k = g6))) HT_.out HW_.out (by kernel_rfl) (by kernel_rfl) ?_ ?_ ?_
        · exact ⟨by simp only [putSel, Bool.false_eq_true, if_false], fun _ => HB.out, fun _ => E16.out, fun h_ => absurd h_ (by decide), fun h_ => absurd h_ (by decide)⟩
        · skip
          clear E16 HB
          refine steps_cons ?_ ?_
          · rintro b a w' ⟨ha, Q_HB, Q_E16, Q_N16, Q_K16⟩ hb_ hon hoff
            refine ⟨_, rfl, fun K hK => ?_⟩
            have e4 : a.tmps[4]? = some (.slice (some ad) N c4) := by rw [ha]; exact (putSel_off rfl).trans rfl
            replace ha := Aside0.mk ha
            have HB := Aside0.mk (Q_HB (hoff 16 (by kernel_rfl)))
            have E16 := Aside0.mk (Q_E16 (hoff 16 (by kernel_rfl)))
            refine value_ (w1 := w') (v := .slice (some ad) N c4) (by rfl) rfl ?_ ?_
            · go_simp
              (try simp only [i64_w])
              try rfl
              try assumption
              try (unfold wrap64; omega)
            refine hK.out _ _ ⟨(by rw [ha.out]; exact putSel_upk 0 hb_ rfl rfl rfl), Q_HB, Q_E16, fun h0_ => absurd ((hoff 16 (by kernel_rfl)).symm.trans h0_) (by decide), fun h0_ => absurd ((hoff 16 (by kernel_rfl)).symm.trans h0_) (by decide)⟩
          refine steps_cons ?_ ?_
          · rintro b a w' ⟨ha, Q_HB, Q_E16, Q_N16, Q_K16⟩ hb_ hon hoff
            refine ⟨_, rfl, fun K hK => ?_⟩
            have e4 : a.tmps[4]? = some (.slice (some ad) N c4) := by rw [ha]; exact (putSel_off rfl).trans rfl
            replace ha := Aside0.mk ha
            have HB := Aside0.mk (Q_HB (hoff 16 (by kernel_rfl)))
            have E16 := Aside0.mk (Q_E16 (hoff 16 (by kernel_rfl)))
            refine value_ (w1 := w') (v := .slice (some ad) N c4) (by rfl) rfl ?_ ?_
            · go_simp
              (try simp only [i64_w])
              try rfl
              try assumption
              try (unfold wrap64; omega)
            refine hK.out _ _ ⟨(by rw [ha.out]; exact putSel_upk 1 hb_ rfl rfl rfl), Q_HB, Q_E16, fun h0_ => absurd ((hoff 16 (by kernel_rfl)).symm.trans h0_) (by decide), fun h0_ => absurd ((hoff 16 (by kernel_rfl)).symm.trans h0_) (by decide)⟩
          refine steps_cons ?_ ?_
          · rintro b a w' ⟨ha, Q_HB, Q_E16, Q_N16, Q_K16⟩ hb_ hon hoff
            refine ⟨_, rfl, fun K hK => ?_⟩
            have e54 : a.tmps[54]? = some (.slice (some ad) N c4) := by rw [ha]; exact putSel_on (e := (1, 54, .slice (some ad) N c4)) 1 rfl rfl (hon 1 (by kernel_rfl)) rfl
            replace ha := Aside0.mk ha
            have HB := Aside0.mk (Q_HB (hoff 16 (by kernel_rfl)))
            have E16 := Aside0.mk (Q_E16 (hoff 16 (by kernel_rfl)))
            refine value_ (w1 := w') (v := .int .i64 (N : Int)) (by rfl) rfl ?_ ?_
            · go_simp
              (try simp only [i64_w])
              try rfl
              try assumption
              try (unfold wrap64; omega)
            refine hK.out _ _ ⟨(by rw [ha.out]; exact putSel_upk 2 hb_ rfl rfl rfl), Q_HB, Q_E16, fun h0_ => absurd ((hoff 16 (by kernel_rfl)).symm.trans h0_) (by decide), fun h0_ => absurd ((hoff 16 (by kernel_rfl)).symm.trans h0_) (by decide)⟩
          refine steps_cons ?_ ?_
          · rintro b a w' ⟨ha, Q_HB, Q_E16, Q_N16, Q_K16⟩ hb_ hon hoff
            refine ⟨_, rfl, fun K hK => ?_⟩
            have e55 : a.tmps[55]? = some (.int .i64 (N : Int)) := by rw [ha]; exact putSel_on (e := (2, 55, .int .i64 (N : Int))) 2 rfl rfl (hon 2 (by kernel_rfl)) rfl
            replace ha := Aside0.mk ha
            have HB := Aside0.mk (Q_HB (hoff 16 (by kernel_rfl)))
            have E16 := Aside0.mk (Q_E16 (hoff 16 (by kernel_rfl)))
            refine value_ (w1 := w') (v := .int .i64 (k2 : Int)) (by rfl) rfl ?_ ?_
            · go_simp
              (try simp only [i64_w])
              try rfl
              try assumption
              try (unfold wrap64; omega)
            refine hK.out _ _ ⟨(by rw [ha.out]; exact putSel_upk 3 hb_ rfl rfl rfl), Q_HB, Q_E16, fun h0_ => absurd ((hoff 16 (by kernel_rfl)).symm.trans h0_) (by decide), fun h0_ => absurd ((hoff 16 (by kernel_rfl)).symm.trans h0_) (by decide)⟩
          refine steps_cons ?_ ?_
          · rintro b a w' ⟨ha, Q_HB, Q_E16, Q_N16, Q_K16⟩ hb_ hon hoff
            refine ⟨_, rfl, fun K hK => ?_⟩
            have e56 : a.tmps[56]? = some (.int .i64 (k2 : Int)) := by rw [ha]; exact putSel_on (e := (3, 56, .int .i64 (k2 : Int))) 3 rfl rfl (hon 3 (by kernel_rfl)) rfl
            replace ha := Aside0.mk ha
            have HB := Aside0.mk (Q_HB (hoff 16 (by kernel_rfl)))
            have E16 := Aside0.mk (Q_E16 (hoff 16 (by kernel_rfl)))
            refine value_ (w1 := w') (v := .int .i64 (k1 : Int)) (by rfl) rfl ?_ ?_
            · go_simp
              (try simp only [i64_w])
              try rfl
              try assumption
              try (unfold wrap64; omega)
            refine hK.out _ _ ⟨(by rw [ha.out]; exact putSel_upk 4 hb_ rfl rfl rfl), Q_HB, Q_E16, fun h0_ => absurd ((hoff 16 (by kernel_rfl)).symm.trans h0_) (by decide), fun h0_ => absurd ((hoff 16 (by kernel_rfl)).symm.trans h0_) (by decide)⟩
          refine steps_cons ?_ ?_
          · rintro b a w' ⟨ha, Q_HB, Q_E16, Q_N16, Q_K16⟩ hb_ hon hoff
            refine ⟨_, rfl, fun K hK => ?_⟩
            have e53 : a.tmps[53]? = some (.slice (some ad) N c4) := by rw [ha]; exact putSel_on (e := (0, 53, .slice (some ad) N c4)) 0 rfl rfl (hon 0 (by kernel_rfl)) rfl
            have e57 : a.tmps[57]? = some (.int .i64 (k1 : Int)) := by rw [ha]; exact putSel_on (e := (4, 57, .int .i64 (k1 : Int))) 4 rfl rfl (hon 4 (by kernel_rfl)) rfl
            replace ha := Aside0.mk ha
            have HB := Aside0.mk (Q_HB (hoff 16 (by kernel_rfl)))
            have E16 := Aside0.mk (Q_E16 (hoff 16 (by kernel_rfl)))
            refine value_ (w1 := w') (v := .pointer (some (ad.add k1))) (by rfl) rfl ?_ ?_
            · go_simp
              (try simp only [i64_w])
              try rfl
              try assumption
              try (unfold wrap64; omega)
            refine hK.out _ _ ⟨(by rw [ha.out]; exact putSel_upk 5 hb_ rfl rfl rfl), Q_HB, Q_E16, fun h0_ => absurd ((hoff 16 (by kernel_rfl)).symm.trans h0_) (by decide), fun h0_ => absurd ((hoff 16 (by kernel_rfl)).symm.trans h0_) (by decide)⟩
          refine steps_cons ?_ ?_
          · rintro b a w' ⟨ha, Q_HB, Q_E16, Q_N16, Q_K16⟩ hb_ hon hoff
            refine ⟨_, rfl, fun K hK => ?_⟩
            have e58 : a.tmps[58]? = some (.pointer (some (ad.add k1))) := by rw [ha]; exact putSel_on (e := (5, 58, .pointer (some (ad.add k1)))) 5 rfl rfl (hon 5 (by kernel_rfl)) rfl
            replace ha := Aside0.mk ha
            have HB := Aside0.mk (Q_HB (hoff 16 (by kernel_rfl)))
            have E16 := Aside0.mk (Q_E16 (hoff 16 (by kernel_rfl)))
            have k0 := pw_cell_below HB.out PV2.out
            refine value_ (w1 := w') (v := .int .i64 y1) (by rfl) rfl ?_ ?_
            · go_simp
              (try simp only [i64_w])
              try rfl
              try assumption
              try (unfold wrap64; omega)
            refine hK.out _ _ ⟨(by rw [ha.out]; exact putSel_upk 6 hb_ rfl rfl rfl), Q_HB, Q_E16, fun h0_ => absurd ((hoff 16 (by kernel_rfl)).symm.trans h0_) (by decide), fun h0_ => absurd ((hoff 16 (by kernel_rfl)).symm.trans h0_) (by decide)⟩
          refine steps_cons ?_ ?_
          · rintro b a w' ⟨ha, Q_HB, Q_E16, Q_N16, Q_K16⟩ hb_ hon hoff
            refine ⟨_, rfl, fun K hK => ?_⟩
            have e4 : a.tmps[4]? = some (.slice (some ad) N c4) := by rw [ha]; exact (putSel_off rfl).trans rfl
            replace ha := Aside0.mk ha
            have HB := Aside0.mk (Q_HB (hoff 16 (by kernel_rfl)))
            have E16 := Aside0.mk (Q_E16 (hoff 16 (by kernel_rfl)))
            refine value_ (w1 := w') (v := .slice (some ad) N c4) (by rfl) rfl ?_ ?_
            · go_simp
              (try simp only [i64_w])
              try rfl
              try assumption
              try (unfold wrap64; omega)
            refine hK.out _ _ ⟨(by rw [ha.out]; exact putSel_upk 7 hb_ rfl rfl rfl), Q_HB, Q_E16, fun h0_ => absurd ((hoff 16 (by kernel_rfl)).symm.trans h0_) (by decide), fun h0_ => absurd ((hoff 16 (by kernel_rfl)).symm.trans h0_) (by decide)⟩
          refine steps_cons ?_ ?_
          · rintro b a w' ⟨ha, Q_HB, Q_E16, Q_N16, Q_K16⟩ hb_ hon hoff
            refine ⟨_, rfl, fun K hK => ?_⟩
            have e4 : a.tmps[4]? = some (.slice (some ad) N c4) := by rw [ha]; exact (putSel_off rfl).trans rfl
            replace ha := Aside0.mk ha
            have HB := Aside0.mk (Q_HB (hoff 16 (by kernel_rfl)))
            have E16 := Aside0.mk (Q_E16 (hoff 16 (by kernel_rfl)))
            refine value_ (w1 := w') (v := .slice (some ad) N c4) (by rfl) rfl ?_ ?_
            · go_simp
              (try simp only [i64_w])
              try rfl
              try assumption
              try (unfold wrap64; omega)
            refine hK.out _ _ ⟨(by rw [ha.out]; exact putSel_upk 8 hb_ rfl rfl rfl), Q_HB, Q_E16, fun h0_ => absurd ((hoff 16 (by kernel_rfl)).symm.trans h0_) (by decide), fun h0_ => absurd ((hoff 16 (by kernel_rfl)).symm.trans h0_) (by decide)⟩
          refine steps_cons ?_ ?_
          · rintro b a w' ⟨ha, Q_HB, Q_E16, Q_N16, Q_K16⟩ hb_ hon hoff
            refine ⟨_, rfl, fun K hK => ?_⟩
            have e61 : a.tmps[61]? = some (.slice (some ad) N c4) := by rw [ha]; exact putSel_on (e := (8, 61, .slice (some ad) N c4)) 8 rfl rfl (hon 8 (by kernel_rfl)) rfl
            replace ha := Aside0.mk ha
            have HB := Aside0.mk (Q_HB (hoff 16 (by kernel_rfl)))
            have E16 := Aside0.mk (Q_E16 (hoff 16 (by kernel_rfl)))
            refine value_ (w1 := w') (v := .int .i64 (N : Int)) (by rfl) rfl ?_ ?_
            · go_simp
              (try simp only [i64_w])
              try rfl
              try assumption
              try (unfold wrap64; omega)
            refine hK.out _ _ ⟨(by rw [ha.out]; exact putSel_upk 9 hb_ rfl rfl rfl), Q_HB, Q_E16, fun h0_ => absurd ((hoff 16 (by kernel_rfl)).symm.trans h0_) (by decide), fun h0_ => absurd ((hoff 16 (by kernel_rfl)).symm.trans h0_) (by decide)⟩
          refine steps_cons ?_ ?_
          · rintro b a w' ⟨ha, Q_HB, Q_E16, Q_N16, Q_K16⟩ hb_ hon hoff
            refine ⟨_, rfl, fun K hK => ?_⟩
            have e62 : a.tmps[62]? = some (.int .i64 (N : Int)) := by rw [ha]; exact putSel_on (e := (9, 62, .int .i64 (N : Int))) 9 rfl rfl (hon 9 (by kernel_rfl)) rfl
            replace ha := Aside0.mk ha
            have HB := Aside0.mk (Q_HB (hoff 16 (by kernel_rfl)))
            have E16 := Aside0.mk (Q_E16 (hoff 16 (by kernel_rfl)))
            refine value_ (w1 := w') (v := .int .i64 (k2 : Int)) (by rfl) rfl ?_ ?_
            · go_simp
              (try simp only [i64_w])
              try rfl
              try assumption
              try (unfold wrap64; omega)
            refine hK.out _ _ ⟨(by rw [ha.out]; exact putSel_upk 10 hb_ rfl rfl rfl), Q_HB, Q_E16, fun h0_ => absurd ((hoff 16 (by kernel_rfl)).symm.trans h0_) (by decide), fun h0_ => absurd ((hoff 16 (by kernel_rfl)).symm.trans h0_) (by decide)⟩
          refine steps_cons ?_ ?_
          · rintro b a w' ⟨ha, Q_HB, Q_E16, Q_N16, Q_K16⟩ hb_ hon hoff
            refine ⟨_, rfl, fun K hK => ?_⟩
            have e60 : a.tmps[60]? = some (.slice (some ad) N c4) := by rw [ha]; exact putSel_on (e := (7, 60, .slice (some ad) N c4)) 7 rfl rfl (hon 7 (by kernel_rfl)) rfl
            have e63 : a.tmps[63]? = some (.int .i64 (k2 : Int)) := by rw [ha]; exact putSel_on (e := (10, 63, .int .i64 (k2 : Int))) 10 rfl rfl (hon 10 (by kernel_rfl)) rfl
            replace ha := Aside0.mk ha
            have HB := Aside0.mk (Q_HB (hoff 16 (by kernel_rfl)))
            have E16 := Aside0.mk (Q_E16 (hoff 16 (by kernel_rfl)))
            refine value_ (w1 := w') (v := .pointer (some (ad.add k2))) (by rfl) rfl ?_ ?_
            · go_simp
              (try simp only [i64_w])
              try rfl
              try assumption
              try (unfold wrap64; omega)
            refine hK.out _ _ ⟨(by rw [ha.out]; exact putSel_upk 11 hb_ rfl rfl rfl), Q_HB, Q_E16, fun h0_ => absurd ((hoff 16 (by kernel_rfl)).symm.trans h0_) (by decide), fun h0_ => absurd ((hoff 16 (by kernel_rfl)).symm.trans h0_) (by decide)⟩
          refine steps_cons ?_ ?_
          · rintro b a w' ⟨ha, Q_HB, Q_E16, Q_N16, Q_K16⟩ hb_ hon hoff
            refine ⟨_, rfl, fun K hK => ?_⟩
            have e64 : a.tmps[64]? = some (.pointer (some (ad.add k2))) := by rw [ha]; exact putSel_on (e := (11, 64, .pointer (some (ad.add k2)))) 11 rfl rfl (hon 11 (by kernel_rfl)) rfl
            replace ha := Aside0.mk ha
            have HB := Aside0.mk (Q_HB (hoff 16 (by kernel_rfl)))
            have E16 := Aside0.mk (Q_E16 (hoff 16 (by kernel_rfl)))
            have k0 := pw_cell_below HB.out PV3.out
            refine value_ (w1 := w') (v := .int .i64 y2) (by rfl) rfl ?_ ?_
            · go_simp
              (try simp only [i64_w])
              try rfl
              try assumption
              try (unfold wrap64; omega)
            refine hK.out _ _ ⟨(by rw [ha.out]; exact putSel_upk 12 hb_ rfl rfl rfl), Q_HB, Q_E16, fun h0_ => absurd ((hoff 16 (by kernel_rfl)).symm.trans h0_) (by decide), fun h0_ => absurd ((hoff 16 (by kernel_rfl)).symm.trans h0_) (by decide)⟩
          refine steps_cons ?_ ?_
          · rintro b a w' ⟨ha, Q_HB, Q_E16, Q_N16, Q_K16⟩ hb_ hon hoff
            refine ⟨_, rfl, fun K hK => ?_⟩
            have e59 : a.tmps[59]? = some (.int .i64 y1) := by rw [ha]; exact putSel_on (e := (6, 59, .int .i64 y1)) 6 rfl rfl (hon 6 (by kernel_rfl)) rfl
            have e65 : a.tmps[65]? = some (.int .i64 y2) := by rw [ha]; exact putSel_on (e := (12, 65, .int .i64 y2)) 12 rfl rfl (hon 12 (by kernel_rfl)) rfl
            replace ha := Aside0.mk ha
            have HB := Aside0.mk (Q_HB (hoff 16 (by kernel_rfl)))
            have E16 := Aside0.mk (Q_E16 (hoff 16 (by kernel_rfl)))
            refine value_ (w1 := w') (v := .int .i64 (y1 + y2)) (by rfl) rfl ?_ ?_
            · go_simp
              (try simp only [i64_w])
              try rfl
              try assumption
              try (unfold wrap64; omega)
            refine hK.out _ _ ⟨(by rw [ha.out]; exact putSel_upk 13 hb_ rfl rfl rfl), Q_HB, Q_E16, fun h0_ => absurd ((hoff 16 (by kernel_rfl)).symm.trans h0_) (by decide), fun h0_ => absurd ((hoff 16 (by kernel_rfl)).symm.trans h0_) (by decide)⟩
          refine steps_cons ?_ ?_
          · rintro b a w' ⟨ha, Q_HB, Q_E16, Q_N16, Q_K16⟩ hb_ hon hoff
            refine ⟨_, rfl, fun K hK => ?_⟩
            have e66 : a.tmps[66]? = some (.int .i64 (y1 + y2)) := by rw [ha]; exact putSel_on (e := (13, 66, .int .i64 (y1 + y2))) 13 rfl rfl (hon 13 (by kernel_rfl)) rfl
            replace ha := Aside0.mk ha
            have HB := Aside0.mk (Q_HB (hoff 16 (by kernel_rfl)))
            have E16 := Aside0.mk (Q_E16 (hoff 16 (by kernel_rfl)))
            refine value_ (w1 := w') (v := .int .i64 md) (by rfl) rfl ?_ ?_
            · go_simp
              (try simp only [i64_w])
              try rfl
              try assumption
              try (unfold wrap64; omega)
            refine hK.out _ _ ⟨(by rw [ha.out]; exact putSel_upk 14 hb_ rfl rfl rfl), Q_HB, Q_E16, fun h0_ => absurd ((hoff 16 (by kernel_rfl)).symm.trans h0_) (by decide), fun h0_ => absurd ((hoff 16 (by kernel_rfl)).symm.trans h0_) (by decide)⟩
          refine steps_cons ?_ ?_
          · rintro b a w' ⟨ha, Q_HB, Q_E16, Q_N16, Q_K16⟩ hb_ hon hoff
            refine ⟨_, rfl, fun K hK => ?_⟩
            have e6 : a.tmps[6]? = some (.pointer (some ⟨g6, 0, none⟩)) := by rw [ha]; exact (putSel_off rfl).trans rfl
            replace ha := Aside0.mk ha
            have HB := Aside0.mk (Q_HB (hoff 16 (by kernel_rfl)))
            have E16 := Aside0.mk (Q_E16 (hoff 16 (by kernel_rfl)))
            refine value_ (w1 := w') (v := .pointer (some ⟨g6, 6, none⟩)) (by rfl) rfl ?_ ?_
            · go_simp
              (try simp only [i64_w])
              try rfl
              try assumption
              try (unfold wrap64; omega)
            refine hK.out _ _ ⟨(by rw [ha.out]; exact putSel_upk 15 hb_ rfl rfl rfl), Q_HB, Q_E16, fun h0_ => absurd ((hoff 16 (by kernel_rfl)).symm.trans h0_) (by decide), fun h0_ => absurd ((hoff 16 (by kernel_rfl)).symm.trans h0_) (by decide)⟩
          refine steps_cons ?_ ?_
          · rintro b a w' ⟨ha, Q_HB, Q_E16, Q_N16, Q_K16⟩ hb_ hon hoff
            refine ⟨_, rfl, fun K hK => ?_⟩
            have e68 : a.tmps[68]? = some (.pointer (some ⟨g6, 6, none⟩)) := by rw [ha]; exact putSel_on (e := (15, 68, .pointer (some ⟨g6, 6, none⟩))) 15 rfl rfl (hon 15 (by kernel_rfl)) rfl
            have e67 : a.tmps[67]? = some (.int .i64 md) := by rw [ha]; exact putSel_on (e := (14, 67, .int .i64 md)) 14 rfl rfl (hon 14 (by kernel_rfl)) rfl
            replace ha := Aside0.mk ha
            have HB := Aside0.mk (Q_HB hb_)
            have E16 := Aside0.mk (Q_E16 hb_)
            have hk : Keep w' (w'.setCell ⟨g6, 6, none⟩ (.int .i64 md)) (fun k => k = g6) := ((Keep.refl w' (fun k => k = g6)).set ⟨g6, 6, none⟩ (.int .i64 md) (.inl rfl))
            have y0 := blk_cell E16.out 6
            have z0 := blk_frozen E16.out 6
            refine skip_ (w1 := (w'.setCell ⟨g6, 6, none⟩ (.int .i64 md))) (by rfl) rfl ?_ ?_
            · go_simp
              try rfl
              try assumption
              try (unfold wrap64; omega)
            refine hK.out _ _ ⟨(by rw [ha.out]; exact putSel_none (v := undef) rfl), fun h0_ => absurd ((up_self b 16).symm.trans h0_) (by decide), fun h0_ => absurd ((up_self b 16).symm.trans h0_) (by decide), fun _ => (blk_put E16.out 6 (.int .i64 md) rfl), fun _ => (Keep.of_below HB.out).trans hk (fun _ _ (q : False) => q.elim) (fun _ _ q => q)⟩
          exact steps_nil
        · rintro b a w' hall ⟨ha, Q_HB, Q_E16, Q_N16, Q_K16⟩
          clear E16 HB
          have hb0_ := hall 0 (by kernel_rfl)
          have hb1_ := hall 1 (by kernel_rfl)
          have hb2_ := hall 2 (by kernel_rfl)
          have hb3_ := hall 3 (by kernel_rfl)
          have hb4_ := hall 4 (by kernel_rfl)
          have hb5_ := hall 5 (by kernel_rfl)
          have hb6_ := hall 6 (by kernel_rfl)
          have hb7_ := hall 7 (by kernel_rfl)
          have hb8_ := hall 8 (by kernel_rfl)
          have hb9_ := hall 9 (by kernel_rfl)
          have hb10_ := hall 10 (by kernel_rfl)
          have hb11_ := hall 11 (by kernel_rfl)
          have hb12_ := hall 12 (by kernel_rfl)
          have hb13_ := hall 13 (by kernel_rfl)
          have hb14_ := hall 14 (by kernel_rfl)
          have hb15_ := hall 15 (by kernel_rfl)
          have hb16_ := hall 16 (by kernel_rfl)
          subst ha
          simp only [putSel, hb0_, hb1_, hb2_, hb3_, hb4_, hb5_, hb6_, hb7_, hb8_, hb9_, hb10_, hb11_, hb12_, hb13_, hb14_, hb15_, hb16_, if_true, Act.put, List.setIfInBounds_toArray, List.set_cons_zero, List.set_cons_succ]
          clear Q_HB
          clear Q_E16
          have N16 := Aside0.mk (Q_N16 hb16_)
          clear Q_N16
          have K16 := Aside0.mk (Q_K16 hb16_)
          clear Q_K16
          clear hall hb0_ hb1_ hb2_ hb3_ hb4_ hb5_ hb6_ hb7_ hb8_ hb9_ hb10_ hb11_ hb12_ hb13_ hb14_ hb15_ hb16_
          go_wp2_with (fail)
          go_meet
          exact ⟨N16, ⟨BV.out.trans (K16.out.below BV.out.size (fun k e => by have e2 : k = g6 := e; rw [e2]; exact hg6))⟩⟩
      | false =>
        have e12 : y1 = y2 := HYY.out (HB0.out.2 rfl)
        have EMD := Aside0.mk (of_odd HMD.out e12)
        clear e12
        go_wp2_with (fail)
        go_meet
        exact ⟨by rw [← EMD.out]; exact NV6, BV⟩
    case rest =>
      obtain ⟨T6, BC⟩ := hcut
      have BW := Aside0.mk (hop B5.out BC.out)
      have T2 := Aside0.mk ((BC.out.block _ (blk_lt T5.out)).trans T5.out)
      have m7 := heap_alloc_new wc (.cells #[.bool false, .slice none 0 0] 71 (0, 0))
      have b7 := below_alloc (Below.refl wc.heap.size wc) (.cells #[.bool false, .slice none 0 0] 71 (0, 0))
      have hg7 : g6 < wc.heap.size := blk_lt T6.out
      clear N5 L5 P0 P1 P2 P3 PV2 PV3 BV NV6 T5 HR1 HB0 HYY RY HMD HSU HSO HFI HCL HWI HPT a1 a2 a4 a5 a8 a9 q0 q1 q1n q3n hb0 a3 a6 a7
      go_upto_region 12 with (fail)
      obtain ⟨W7, hW7⟩ : ∃ W, W = wc.alloc (.cells #[.bool false, .slice none 0 0] 71 (0, 0)) := ⟨_, rfl⟩
      rw [← hW7] at m7 b7 ⊢
      obtain ⟨g7, hg7e⟩ : ∃ g, g = wc.heap.size := ⟨_, rfl⟩
      rw [← hg7e] at m7 hg7 ⊢
      have N7S := Aside0.mk (show NumAt W7 g7 0 from ⟨none, 0, m7, Lm_none _⟩)
      have T6S := Aside0.mk ((b7.block _ (blk_lt T6.out)).trans T6.out)
      have T2S := Aside0.mk ((b7.block _ (blk_lt T2.out)).trans T2.out)
      have BWS := Aside0.mk (hop BW.out b7)
      clear m7 b7 hW7 hg7e T6 T2 BW BC
      go_wp2_with (fail)
      go_loopg [8] N (fun kq v8 w' => ∃ i : Nat, v8 = .int .i64 i ∧ i + kq = N ∧ Aside0 (NumAt w' g7 (sqP me (l.take i))) ∧ Aside0 (w'.heap[g6]? = some (.cells #[.int .i64 (N : Int), .int .i64 ua, .int .u64 ub, .int .i64 x0, .int .i64 xk, .int .i64 me, .int .i64 md, .int .i64 0] 27 (0, 0))) ∧ Aside0 (w'.heap[w.heap.size]? = some (.cells #[.int .i64 0, .int .i64 0, .int .u64 0, .int .i64 0, .int .i64 0, .int .i64 0, .int .i64 0, .int .i64 0] 27 (0, 0))) ∧ Aside0 (Below w.heap.size w w'))
      case atStart => exact ⟨0, rfl, by omega, N7S, T6S, T2S, BWS⟩
      case round =>
        clear N7S T6S T2S BWS
        obtain ⟨i, rfl, hik, NA, T6, T2, BW⟩ := hrel
        cases gk with
        | zero =>
          obtain rfl : N = i := by omega
          have d1 : decide (N < N) = false := decide_eq_false (by omega)
          rw [show l.take N = l from by rw [HNL.out, List.take_length]] at NA
          have hqr := HQR.out
          rw [HSQ.out, HNS.out] at hqr
          have hdv := HDV.out
          obtain ⟨v, hv⟩ : ∃ v, v = sqP me l := ⟨_, rfl⟩
          rw [← hv] at hqr hdv NA
          obtain ⟨NI, hNI⟩ : ∃ x, x = (N : Int) := ⟨_, rfl⟩
          obtain ⟨v1, v2, v3, v4, v5, v6, v7⟩ := q_rng hqr HLL.out h0 hNI hdv
          obtain ⟨A7, c7, n7, l7⟩ := NA.out
          have N7 := Aside0.mk n7
          have L7 := Aside0.mk l7
          have HIN := Aside0.mk (fun W => (show Calls Try.prog 38 #[.int .i64 (N : Int)] W (fun e w' => ∃ v, e = .returned v ∧ NumV w' v NI ∧ Below W.heap.size W w') by rw [← hNI]; exact ref_Int W v1))
          have HQU := Aside0.mk (fun (W : World) (u u2 : Value) (h1 : NumV W u v) (h2 : NumV W u2 NI) => ref_QuoN h1 h2 v2 v3 (fewD v4) (fewD v5))
          have HRT := Aside0.mk (fun (W : World) (u : Value) (h : NumV W u (v / NI)) => ref_RootN h v6)
          have HPD := Aside0.mk (fun (W : World) (u : Value) (h : NumV W u (isq (v / NI))) => (show Calls Try.prog 37 #[u, .int .i64 1] W (fun e w' => e = .returned (.int .i64 dv) ∧ Below W.heap.size W w') by
            have h2 := ref_part (n := 1) h v7.1 (by omega) (by rw [Int.ediv_one]; exact v7.2.1)
            rw [Int.ediv_one, ← v7.2.2] at h2
            exact h2))
          clear hqr hdv hv v1 v2 v3 v4 v5 v6 v7 n7 l7 NA hNI
          go_upto_region 17 with (fail)
          have HB := Aside0.mk (show Below wr.heap.size wr wr.drew from (Below.refl _ _).drew)
          have D8_9 : True := trivial
          refine start_ (n := 12) (S := fun w' => True) (ds := []) #[false, false, false, false, false, false, false, false, false, false, false, false] (by kernel_rfl) rfl rfl trivial (fun hHeld => ?_)
          refine with_tabW rof17.tab rof17.bits (fun HT_ HW_ => ?_)
          refine inv_at [0, 1, 2, 3, 4, 5, 6, 7, 8, 9, 10, 11] (fun a0_ b a w' => ∃ (A93 : Option Addr) (c93 : Nat) (Aq : Option Addr) (cq : Nat) (Ar : Option Addr) (cr : Nat) (g10 : Nat) (g11 : Nat) (m3_ : Value) (m4_ : Value) (m5_ : Value) (m6_ : Value) (m7_ : Value) (m8_ : Value) (m9_ : Value), a = putSel a0_ b [(0, 90, .agg #[.bool (decide (v < 0)), .slice A7 (limbs v.natAbs).length c7]), (1, 91, .slice A N c), (2, 92, .int .i64 (N : Int)), (3, 93, m3_), (4, 94, m4_), (5, 89, m5_), (6, 95, m6_), (7, 96, m7_), (8, 10, m8_), (9, 11, m9_)] ∧ (Below wr.heap.size wr w') ∧ (b 3 = true → Lm w' A93 c93 (limbs NI.natAbs)) ∧ (b 4 = true → Lm w' Aq cq (limbs (v / NI).natAbs)) ∧ (b 4 = true → Lm w' Ar cr (limbs (v % NI).natAbs)) ∧ (b 8 = true → wr.heap.size ≤ g10) ∧ (b 8 = true → g10 < w'.heap.size) ∧ (b 8 = true → b 10 = false → w'.heap[g10]? = some (.cells #[.bool false, .slice none 0 0] 71 (0, 0))) ∧ (b 8 = true → b 10 = true → w'.heap[g10]? = some (.cells #[.bool (decide (v / NI < 0)), .slice Aq (limbs (v / NI).natAbs).length cq] 71 (0, 0))) ∧ (b 9 = true → wr.heap.size ≤ g11) ∧ (b 9 = true → g11 < w'.heap.size) ∧ (b 9 = true → b 11 = false → w'.heap[g11]? = some (.cells #[.bool false, .slice none 0 0] 71 (0, 0))) ∧ (b 9 = true → b 11 = true → w'.heap[g11]? = some (.cells #[.bool (decide (v % NI < 0)), .slice Ar (limbs (v % NI).natAbs).length cr] 71 (0, 0))) ∧ ((b 8 = true → b 9 = true → g10 ≠ g11)) ∧ (b 3 = true → (m3_ : Value) = .agg #[.bool (decide (NI < 0)), .slice A93 (limbs NI.natAbs).length c93]) ∧ (b 4 = true → (m4_ : Value) = .tuple #[.agg #[.bool (decide (v / NI < 0)), .slice Aq (limbs (v / NI).natAbs).length cq], .agg #[.bool (decide (v % NI < 0)), .slice Ar (limbs (v % NI).natAbs).length cr]]) ∧ (b 5 = true → (m5_ : Value) = .tuple #[.agg #[.bool (decide (v / NI < 0)), .slice Aq (limbs (v / NI).natAbs).length cq], .agg #[.bool (decide (v % NI < 0)), .slice Ar (limbs (v % NI).natAbs).length cr]]) ∧ (b 6 = true → (m6_ : Value) = .agg #[.bool (decide (v / NI < 0)), .slice Aq (limbs (v / NI).natAbs).length cq]) ∧ (b 7 = true → (m7_ : Value) = .agg #[.bool (decide (v % NI < 0)), .slice Ar (limbs (v % NI).natAbs).length cr]) ∧ (b 8 = true → (m8_ : Value) = .pointer (some ⟨g10, 0, none⟩)) ∧ (b 9 = true → (m9_ : Value) = .pointer (some ⟨g11, 0, none⟩))) HT_.out HW_.out (by kernel_rfl) (by kernel_rfl) ?_ ?_ ?_
          · exact ⟨none, 0, none, 0, none, 0, 0, 0, .bool false, .bool false, .bool false, .bool false, .bool false, .bool false, .bool false, by simp only [putSel, Bool.false_eq_true, if_false], HB.out, fun h_ => absurd h_ (by decide), fun h_ => absurd h_ (by decide), fun h_ => absurd h_ (by decide), fun h_ => absurd h_ (by decide), fun h_ => absurd h_ (by decide), fun h_ => absurd h_ (by decide), fun h_ => absurd h_ (by decide), fun h_ => absurd h_ (by decide), fun h_ => absurd h_ (by decide), fun h_ => absurd h_ (by decide), fun h_ => absurd h_ (by decide), fun h_ => absurd h_ (by decide), fun h_ => absurd h_ (by decide), fun h_ => absurd h_ (by decide), fun h_ => absurd h_ (by decide), fun h_ => absurd h_ (by decide), fun h_ => absurd h_ (by decide), fun h_ => absurd h_ (by decide), fun h_ => absurd h_ (by decide)⟩
          · skip
            clear D8_9 HB
            refine steps_cons ?_ ?_
            · rintro b a w' ⟨A93, c93, Aq, cq, Ar, cr, g10, g11, m3_, m4_, m5_, m6_, m7_, m8_, m9_, ha, Q_HB, Q_FY, Q_FQ, Q_FR, Q_G8, Q_L8, Q_Z8, Q_N10, Q_G9, Q_L9, Q_Z9, Q_N11, Q_D8_9, Q_X3_, Q_X4_, Q_X5_, Q_X6_, Q_X7_, Q_X8_, Q_X9_⟩ hb_ hon hoff
              refine ⟨_, rfl, fun K hK => ?_⟩
              have e7 : a.tmps[7]? = some (.pointer (some ⟨g7, 0, none⟩)) := by rw [ha]; exact (putSel_off rfl).trans rfl
              replace ha := Aside0.mk ha
              have HB := Aside0.mk Q_HB
              have D8_9 := Aside0.mk Q_D8_9
              have k0 := blk_cell ((HB.out.block _ (blk_lt N7.out)).trans N7.out) 0
              have k1 := blk_cell ((HB.out.block _ (blk_lt N7.out)).trans N7.out) 1
              refine value_ (w1 := w') (v := .agg #[.bool (decide (v < 0)), .slice A7 (limbs v.natAbs).length c7]) (by rfl) rfl ?_ ?_
              · go_simp
                (try simp only [i64_w])
                try rfl
                try assumption
                try (unfold wrap64; omega)
              refine hK.out _ _ ⟨A93, c93, Aq, cq, Ar, cr, g10, g11, m3_, m4_, m5_, m6_, m7_, m8_, m9_, (by rw [ha.out]; exact putSel_upk 0 hb_ rfl rfl rfl), Q_HB, Q_FY, fun h0_ => absurd ((hoff 4 (by kernel_rfl)).symm.trans h0_) (by decide), fun h0_ => absurd ((hoff 4 (by kernel_rfl)).symm.trans h0_) (by decide), Q_G8, Q_L8, Q_Z8, fun _ h1_ => absurd ((hoff 10 (by kernel_rfl)).symm.trans h1_) (by decide), Q_G9, Q_L9, Q_Z9, fun _ h1_ => absurd ((hoff 11 (by kernel_rfl)).symm.trans h1_) (by decide), Q_D8_9, Q_X3_, fun h0_ => absurd ((hoff 4 (by kernel_rfl)).symm.trans h0_) (by decide), fun h0_ => absurd ((hoff 5 (by kernel_rfl)).symm.trans h0_) (by decide), fun h0_ => absurd ((hoff 6 (by kernel_rfl)).symm.trans h0_) (by decide), fun h0_ => absurd ((hoff 7 (by kernel_rfl)).symm.trans h0_) (by decide), Q_X8_, Q_X9_⟩
            refine steps_cons ?_ ?_
            · rintro b a w' ⟨A93, c93, Aq, cq, Ar, cr, g10, g11, m3_, m4_, m5_, m6_, m7_, m8_, m9_, ha, Q_HB, Q_FY, Q_FQ, Q_FR, Q_G8, Q_L8, Q_Z8, Q_N10, Q_G9, Q_L9, Q_Z9, Q_N11, Q_D8_9, Q_X3_, Q_X4_, Q_X5_, Q_X6_, Q_X7_, Q_X8_, Q_X9_⟩ hb_ hon hoff
              refine ⟨_, rfl, fun K hK => ?_⟩
              have e0 : a.tmps[0]? = some (.slice A N c) := by rw [ha]; exact (putSel_off rfl).trans rfl
              replace ha := Aside0.mk ha
              have HB := Aside0.mk Q_HB
              have D8_9 := Aside0.mk Q_D8_9
              refine value_ (w1 := w') (v := .slice A N c) (by rfl) rfl ?_ ?_
              · go_simp
                (try simp only [i64_w])
                try rfl
                try assumption
                try (unfold wrap64; omega)
              refine hK.out _ _ ⟨A93, c93, Aq, cq, Ar, cr, g10, g11, m3_, m4_, m5_, m6_, m7_, m8_, m9_, (by rw [ha.out]; exact putSel_upk 1 hb_ rfl rfl rfl), Q_HB, fun h0_ => absurd ((hoff 3 (by kernel_rfl)).symm.trans h0_) (by decide), fun h0_ => absurd ((hoff 4 (by kernel_rfl)).symm.trans h0_) (by decide), fun h0_ => absurd ((hoff 4 (by kernel_rfl)).symm.trans h0_) (by decide), Q_G8, Q_L8, Q_Z8, fun _ h1_ => absurd ((hoff 10 (by kernel_rfl)).symm.trans h1_) (by decide), Q_G9, Q_L9, Q_Z9, fun _ h1_ => absurd ((hoff 11 (by kernel_rfl)).symm.trans h1_) (by decide), Q_D8_9, fun h0_ => absurd ((hoff 3 (by kernel_rfl)).symm.trans h0_) (by decide), fun h0_ => absurd ((hoff 4 (by kernel_rfl)).symm.trans h0_) (by decide), fun h0_ => absurd ((hoff 5 (by kernel_rfl)).symm.trans h0_) (by decide), fun h0_ => absurd ((hoff 6 (by kernel_rfl)).symm.trans h0_) (by decide), fun h0_ => absurd ((hoff 7 (by kernel_rfl)).symm.trans h0_) (by decide), Q_X8_, Q_X9_⟩
            refine steps_cons ?_ ?_
            · rintro b a w' ⟨A93, c93, Aq, cq, Ar, cr, g10, g11, m3_, m4_, m5_, m6_, m7_, m8_, m9_, ha, Q_HB, Q_FY, Q_FQ, Q_FR, Q_G8, Q_L8, Q_Z8, Q_N10, Q_G9, Q_L9, Q_Z9, Q_N11, Q_D8_9, Q_X3_, Q_X4_, Q_X5_, Q_X6_, Q_X7_, Q_X8_, Q_X9_⟩ hb_ hon hoff
              refine ⟨_, rfl, fun K hK => ?_⟩
              have e91 : a.tmps[91]? = some (.slice A N c) := by rw [ha]; exact putSel_on (e := (1, 91, .slice A N c)) 1 rfl rfl (hon 1 (by kernel_rfl)) rfl
              replace ha := Aside0.mk ha
              have HB := Aside0.mk Q_HB
              have D8_9 := Aside0.mk Q_D8_9
              refine value_ (w1 := w') (v := .int .i64 (N : Int)) (by rfl) rfl ?_ ?_
              · go_simp
                (try simp only [i64_w])
                try rfl
                try assumption
                try (unfold wrap64; omega)
              refine hK.out _ _ ⟨A93, c93, Aq, cq, Ar, cr, g10, g11, m3_, m4_, m5_, m6_, m7_, m8_, m9_, (by rw [ha.out]; exact putSel_upk 2 hb_ rfl rfl rfl), Q_HB, fun h0_ => absurd ((hoff 3 (by kernel_rfl)).symm.trans h0_) (by decide), fun h0_ => absurd ((hoff 4 (by kernel_rfl)).symm.trans h0_) (by decide), fun h0_ => absurd ((hoff 4 (by kernel_rfl)).symm.trans h0_) (by decide), Q_G8, Q_L8, Q_Z8, fun _ h1_ => absurd ((hoff 10 (by kernel_rfl)).symm.trans h1_) (by decide), Q_G9, Q_L9, Q_Z9, fun _ h1_ => absurd ((hoff 11 (by kernel_rfl)).symm.trans h1_) (by decide), Q_D8_9, fun h0_ => absurd ((hoff 3 (by kernel_rfl)).symm.trans h0_) (by decide), fun h0_ => absurd ((hoff 4 (by kernel_rfl)).symm.trans h0_) (by decide), fun h0_ => absurd ((hoff 5 (by kernel_rfl)).symm.trans h0_) (by decide), fun h0_ => absurd ((hoff 6 (by kernel_rfl)).symm.trans h0_) (by decide), fun h0_ => absurd ((hoff 7 (by kernel_rfl)).symm.trans h0_) (by decide), Q_X8_, Q_X9_⟩
            refine steps_cons ?_ ?_
            · rintro b a w' ⟨A93, c93, Aq, cq, Ar, cr, g10, g11, m3_, m4_, m5_, m6_, m7_, m8_, m9_, ha, Q_HB, Q_FY, Q_FQ, Q_FR, Q_G8, Q_L8, Q_Z8, Q_N10, Q_G9, Q_L9, Q_Z9, Q_N11, Q_D8_9, Q_X3_, Q_X4_, Q_X5_, Q_X6_, Q_X7_, Q_X8_, Q_X9_⟩ hb_ hon hoff
              refine ⟨_, rfl, fun K hK => ?_⟩
              have e92 : a.tmps[92]? = some (.int .i64 (N : Int)) := by rw [ha]; exact putSel_on (e := (2, 92, .int .i64 (N : Int))) 2 rfl rfl (hon 2 (by kernel_rfl)) rfl
              replace ha := Aside0.mk ha
              have HB := Aside0.mk Q_HB
              have D8_9 := Aside0.mk Q_D8_9
              refine goes_ Try.func38 (by kernel_rfl) rfl #[.int .i64 (N : Int)] (by rfl) rfl rfl (by first | (simp only [List.map_toArray, List.map_cons, List.map_nil, Act.eval, Array.getD_eq_getD_getElem?, Option.getD_some, e92]; done) | (simp only [List.map_toArray, List.map_cons, List.map_nil, Act.eval, Array.getD_eq_getD_getElem?, Option.getD_some, e92]; rfl)) ?_
              with_reducible refine (HIN.out _).mono ?_
              rintro e w1 ⟨u1, rfl, ⟨A1_, c1_, rfl, h1⟩, hb⟩
              refine ⟨_, rfl, ?_⟩
              refine hK.out _ _ ⟨A1_, c1_, Aq, cq, Ar, cr, g10, g11, (.agg #[.bool (decide (NI < 0)), .slice A1_ (limbs NI.natAbs).length c1_]), m4_, m5_, m6_, m7_, m8_, m9_, (by rw [ha.out]; exact putSel_upk 3 hb_ rfl rfl rfl), hop HB.out hb, fun _ => h1, fun h0_ => absurd ((hoff 4 (by kernel_rfl)).symm.trans h0_) (by decide), fun h0_ => absurd ((hoff 4 (by kernel_rfl)).symm.trans h0_) (by decide), Q_G8, fun h8 => Nat.lt_of_lt_of_le (Q_L8 h8) hb.size, fun h8 h10 => (hb.block _ (blk_lt (Q_Z8 h8 h10))).trans (Q_Z8 h8 h10), fun _ h1_ => absurd ((hoff 10 (by kernel_rfl)).symm.trans h1_) (by decide), Q_G9, fun h9 => Nat.lt_of_lt_of_le (Q_L9 h9) hb.size, fun h9 h11 => (hb.block _ (blk_lt (Q_Z9 h9 h11))).trans (Q_Z9 h9 h11), fun _ h1_ => absurd ((hoff 11 (by kernel_rfl)).symm.trans h1_) (by decide), Q_D8_9, fun _ => rfl, fun h0_ => absurd ((hoff 4 (by kernel_rfl)).symm.trans h0_) (by decide), fun h0_ => absurd ((hoff 5 (by kernel_rfl)).symm.trans h0_) (by decide), fun h0_ => absurd ((hoff 6 (by kernel_rfl)).symm.trans h0_) (by decide), fun h0_ => absurd ((hoff 7 (by kernel_rfl)).symm.trans h0_) (by decide), Q_X8_, Q_X9_⟩
            refine steps_cons ?_ ?_
            · rintro b a w' ⟨A93, c93, Aq, cq, Ar, cr, g10, g11, m3_, m4_, m5_, m6_, m7_, m8_, m9_, ha, Q_HB, Q_FY, Q_FQ, Q_FR, Q_G8, Q_L8, Q_Z8, Q_N10, Q_G9, Q_L9, Q_Z9, Q_N11, Q_D8_9, Q_X3_, Q_X4_, Q_X5_, Q_X6_, Q_X7_, Q_X8_, Q_X9_⟩ hb_ hon hoff
              refine ⟨_, rfl, fun K hK => ?_⟩
              have e90 : a.tmps[90]? = some (.agg #[.bool (decide (v < 0)), .slice A7 (limbs v.natAbs).length c7]) := by rw [ha]; exact putSel_on (e := (0, 90, .agg #[.bool (decide (v < 0)), .slice A7 (limbs v.natAbs).length c7])) 0 rfl rfl (hon 0 (by kernel_rfl)) rfl
              have e93 : a.tmps[93]? = some (m3_) := by rw [ha]; exact putSel_on (e := (3, 93, m3_)) 3 rfl rfl (hon 3 (by kernel_rfl)) rfl
              rw [Q_X3_ (hon 3 (by kernel_rfl))] at e93
              replace ha := Aside0.mk ha
              have HB := Aside0.mk Q_HB
              have FY := Aside0.mk (Q_FY (hon 3 (by kernel_rfl)))
              have D8_9 := Aside0.mk Q_D8_9
              refine goes_ Try.func41 (by kernel_rfl) rfl #[.agg #[.bool (decide (v < 0)), .slice A7 (limbs v.natAbs).length c7], .agg #[.bool (decide (NI < 0)), .slice A93 (limbs NI.natAbs).length c93]] (by rfl) rfl rfl (by first | (simp only [List.map_toArray, List.map_cons, List.map_nil, Act.eval, Array.getD_eq_getD_getElem?, Option.getD_some, e90, e93]; done) | (simp only [List.map_toArray, List.map_cons, List.map_nil, Act.eval, Array.getD_eq_getD_getElem?, Option.getD_some, e90, e93]; rfl)) ?_
              with_reducible refine (HQU.out _ _ _ (NumV.of (L7.out.below HB.out)) (NumV.of FY.out)).mono ?_
              rintro e w1 ⟨u1, u2, rfl, ⟨A1_, c1_, rfl, h1⟩, ⟨A2_, c2_, rfl, h2⟩, hb⟩
              refine ⟨_, rfl, ?_⟩
              refine hK.out _ _ ⟨A93, c93, A1_, c1_, A2_, c2_, g10, g11, m3_, (.tuple #[.agg #[.bool (decide (v / NI < 0)), .slice A1_ (limbs (v / NI).natAbs).length c1_], .agg #[.bool (decide (v % NI < 0)), .slice A2_ (limbs (v % NI).natAbs).length c2_]]), m5_, m6_, m7_, m8_, m9_, (by rw [ha.out]; exact putSel_upk 4 hb_ rfl rfl rfl), hop HB.out hb, fun h3 => (Q_FY h3).below hb, fun _ => h1, fun _ => h2, Q_G8, fun h8 => Nat.lt_of_lt_of_le (Q_L8 h8) hb.size, fun h8 h10 => (hb.block _ (blk_lt (Q_Z8 h8 h10))).trans (Q_Z8 h8 h10), fun _ h1_ => absurd ((hoff 10 (by kernel_rfl)).symm.trans h1_) (by decide), Q_G9, fun h9 => Nat.lt_of_lt_of_le (Q_L9 h9) hb.size, fun h9 h11 => (hb.block _ (blk_lt (Q_Z9 h9 h11))).trans (Q_Z9 h9 h11), fun _ h1_ => absurd ((hoff 11 (by kernel_rfl)).symm.trans h1_) (by decide), Q_D8_9, Q_X3_, fun _ => rfl, fun h0_ => absurd ((hoff 5 (by kernel_rfl)).symm.trans h0_) (by decide), fun h0_ => absurd ((hoff 6 (by kernel_rfl)).symm.trans h0_) (by decide), fun h0_ => absurd ((hoff 7 (by kernel_rfl)).symm.trans h0_) (by decide), Q_X8_, Q_X9_⟩
            refine steps_cons ?_ ?_
            · rintro b a w' ⟨A93, c93, Aq, cq, Ar, cr, g10, g11, m3_, m4_, m5_, m6_, m7_, m8_, m9_, ha, Q_HB, Q_FY, Q_FQ, Q_FR, Q_G8, Q_L8, Q_Z8, Q_N10, Q_G9, Q_L9, Q_Z9, Q_N11, Q_D8_9, Q_X3_, Q_X4_, Q_X5_, Q_X6_, Q_X7_, Q_X8_, Q_X9_⟩ hb_ hon hoff
              refine ⟨_, rfl, fun K hK => ?_⟩
              have e94 : a.tmps[94]? = some (m4_) := by rw [ha]; exact putSel_on (e := (4, 94, m4_)) 4 rfl rfl (hon 4 (by kernel_rfl)) rfl
              rw [Q_X4_ (hon 4 (by kernel_rfl))] at e94
              replace ha := Aside0.mk ha
              have HB := Aside0.mk Q_HB
              have FY := Aside0.mk (Q_FY (hon 3 (by kernel_rfl)))
              have FQ := Aside0.mk (Q_FQ (hon 4 (by kernel_rfl)))
              have FR := Aside0.mk (Q_FR (hon 4 (by kernel_rfl)))
              have D8_9 := Aside0.mk Q_D8_9
              refine value_ (w1 := w') (v := .tuple #[.agg #[.bool (decide (v / NI < 0)), .slice Aq (limbs (v / NI).natAbs).length cq], .agg #[.bool (decide (v % NI < 0)), .slice Ar (limbs (v % NI).natAbs).length cr]]) (by rfl) rfl ?_ ?_
              · go_simp
                (try simp only [i64_w])
                try rfl
                try assumption
                try (unfold wrap64; omega)
              refine hK.out _ _ ⟨A93, c93, Aq, cq, Ar, cr, g10, g11, m3_, m4_, (.tuple #[.agg #[.bool (decide (v / NI < 0)), .slice Aq (limbs (v / NI).natAbs).length cq], .agg #[.bool (decide (v % NI < 0)), .slice Ar (limbs (v % NI).natAbs).length cr]]), m6_, m7_, m8_, m9_, (by rw [ha.out]; exact putSel_upk 5 hb_ rfl rfl rfl), Q_HB, Q_FY, Q_FQ, Q_FR, Q_G8, Q_L8, Q_Z8, fun _ h1_ => absurd ((hoff 10 (by kernel_rfl)).symm.trans h1_) (by decide), Q_G9, Q_L9, Q_Z9, fun _ h1_ => absurd ((hoff 11 (by kernel_rfl)).symm.trans h1_) (by decide), Q_D8_9, Q_X3_, Q_X4_, fun _ => rfl, fun h0_ => absurd ((hoff 6 (by kernel_rfl)).symm.trans h0_) (by decide), fun h0_ => absurd ((hoff 7 (by kernel_rfl)).symm.trans h0_) (by decide), Q_X8_, Q_X9_⟩
            refine steps_cons ?_ ?_
            · rintro b a w' ⟨A93, c93, Aq, cq, Ar, cr, g10, g11, m3_, m4_, m5_, m6_, m7_, m8_, m9_, ha, Q_HB, Q_FY, Q_FQ, Q_FR, Q_G8, Q_L8, Q_Z8, Q_N10, Q_G9, Q_L9, Q_Z9, Q_N11, Q_D8_9, Q_X3_, Q_X4_, Q_X5_, Q_X6_, Q_X7_, Q_X8_, Q_X9_⟩ hb_ hon hoff
              refine ⟨_, rfl, fun K hK => ?_⟩
              have e89 : a.tmps[89]? = some (m5_) := by rw [ha]; exact putSel_on (e := (5, 89, m5_)) 5 rfl rfl (hon 5 (by kernel_rfl)) rfl
              rw [Q_X5_ (hon 5 (by kernel_rfl))] at e89
              replace ha := Aside0.mk ha
              have HB := Aside0.mk Q_HB
              have FY := Aside0.mk (Q_FY (hon 3 (by kernel_rfl)))
              have FQ := Aside0.mk (Q_FQ (hon 4 (by kernel_rfl)))
              have FR := Aside0.mk (Q_FR (hon 4 (by kernel_rfl)))
              have D8_9 := Aside0.mk Q_D8_9
              refine value_ (w1 := w') (v := .agg #[.bool (decide (v / NI < 0)), .slice Aq (limbs (v / NI).natAbs).length cq]) (by rfl) rfl ?_ ?_
              · go_simp
                (try simp only [i64_w])
                try rfl
                try assumption
                try (unfold wrap64; omega)
              refine hK.out _ _ ⟨A93, c93, Aq, cq, Ar, cr, g10, g11, m3_, m4_, m5_, (.agg #[.bool (decide (v / NI < 0)), .slice Aq (limbs (v / NI).natAbs).length cq]), m7_, m8_, m9_, (by rw [ha.out]; exact putSel_upk 6 hb_ rfl rfl rfl), Q_HB, Q_FY, Q_FQ, Q_FR, Q_G8, Q_L8, Q_Z8, fun _ h1_ => absurd ((hoff 10 (by kernel_rfl)).symm.trans h1_) (by decide), Q_G9, Q_L9, Q_Z9, fun _ h1_ => absurd ((hoff 11 (by kernel_rfl)).symm.trans h1_) (by decide), Q_D8_9, Q_X3_, Q_X4_, Q_X5_, fun _ => rfl, Q_X7_, Q_X8_, Q_X9_⟩
            refine steps_cons ?_ ?_
            · rintro b a w' ⟨A93, c93, Aq, cq, Ar, cr, g10, g11, m3_, m4_, m5_, m6_, m7_, m8_, m9_, ha, Q_HB, Q_FY, Q_FQ, Q_FR, Q_G8, Q_L8, Q_Z8, Q_N10, Q_G9, Q_L9, Q_Z9, Q_N11, Q_D8_9, Q_X3_, Q_X4_, Q_X5_, Q_X6_, Q_X7_, Q_X8_, Q_X9_⟩ hb_ hon hoff
              refine ⟨_, rfl, fun K hK => ?_⟩
              have e89 : a.tmps[89]? = some (m5_) := by rw [ha]; exact putSel_on (e := (5, 89, m5_)) 5 rfl rfl (hon 5 (by kernel_rfl)) rfl
              rw [Q_X5_ (hon 5 (by kernel_rfl))] at e89
              replace ha := Aside0.mk ha
              have HB := Aside0.mk Q_HB
              have FY := Aside0.mk (Q_FY (hon 3 (by kernel_rfl)))
              have FQ := Aside0.mk (Q_FQ (hon 4 (by kernel_rfl)))
              have FR := Aside0.mk (Q_FR (hon 4 (by kernel_rfl)))
              have D8_9 := Aside0.mk Q_D8_9
              refine value_ (w1 := w') (v := .agg #[.bool (decide (v % NI < 0)), .slice Ar (limbs (v % NI).natAbs).length cr]) (by rfl) rfl ?_ ?_
              · go_simp
                (try simp only [i64_w])
                try rfl
                try assumption
                try (unfold wrap64; omega)
              refine hK.out _ _ ⟨A93, c93, Aq, cq, Ar, cr, g10, g11, m3_, m4_, m5_, m6_, (.agg #[.bool (decide (v % NI < 0)), .slice Ar (limbs (v % NI).natAbs).length cr]), m8_, m9_, (by rw [ha.out]; exact putSel_upk 7 hb_ rfl rfl rfl), Q_HB, Q_FY, Q_FQ, Q_FR, Q_G8, Q_L8, Q_Z8, Q_N10, Q_G9, Q_L9, Q_Z9, fun _ h1_ => absurd ((hoff 11 (by kernel_rfl)).symm.trans h1_) (by decide), Q_D8_9, Q_X3_, Q_X4_, Q_X5_, Q_X6_, fun _ => rfl, Q_X8_, Q_X9_⟩
            refine steps_cons ?_ ?_
            · rintro b a w' ⟨A93, c93, Aq, cq, Ar, cr, g10, g11, m3_, m4_, m5_, m6_, m7_, m8_, m9_, ha, Q_HB, Q_FY, Q_FQ, Q_FR, Q_G8, Q_L8, Q_Z8, Q_N10, Q_G9, Q_L9, Q_Z9, Q_N11, Q_D8_9, Q_X3_, Q_X4_, Q_X5_, Q_X6_, Q_X7_, Q_X8_, Q_X9_⟩ hb_ hon hoff
              refine ⟨_, rfl, fun K hK => ?_⟩
              replace ha := Aside0.mk ha
              have HB := Aside0.mk Q_HB
              have D8_9 := Aside0.mk Q_D8_9
              have hb := (Below.refl w'.heap.size w').alloc (Nat.le_refl _) (.cells #[.bool false, .slice none 0 0] 71 (0, 0))
              refine value_ (w1 := w'.alloc (.cells #[.bool false, .slice none 0 0] 71 (0, 0))) (v := .pointer (some ⟨w'.heap.size, 0, none⟩)) (by rfl) rfl ?_ ?_
              · go_simp
                try rfl
                try assumption
                try (unfold wrap64; omega)
              refine hK.out _ _ ⟨A93, c93, Aq, cq, Ar, cr, w'.heap.size, g11, m3_, m4_, m5_, m6_, m7_, (.pointer (some ⟨w'.heap.size, 0, none⟩)), m9_, (by rw [ha.out]; exact putSel_upk 8 hb_ rfl rfl rfl), hop HB.out hb, fun h3 => (Q_FY h3).below hb, fun h4 => (Q_FQ h4).below hb, fun h4 => (Q_FR h4).below hb, fun _ => HB.out.size, fun _ => (by simp), fun _ _ => heap_alloc_new w' _, fun _ h1_ => absurd ((hoff 10 (by kernel_rfl)).symm.trans h1_) (by decide), Q_G9, fun h9 => Nat.lt_of_lt_of_le (Q_L9 h9) hb.size, fun h9 h11 => (hb.block _ (blk_lt (Q_Z9 h9 h11))).trans (Q_Z9 h9 h11), fun _ h1_ => absurd ((hoff 11 (by kernel_rfl)).symm.trans h1_) (by decide), fun h1 h2 => (fun e => by have := Q_L9 h2; omega), Q_X3_, Q_X4_, Q_X5_, Q_X6_, Q_X7_, fun _ => rfl, Q_X9_⟩
            refine steps_cons ?_ ?_
            · rintro b a w' ⟨A93, c93, Aq, cq, Ar, cr, g10, g11, m3_, m4_, m5_, m6_, m7_, m8_, m9_, ha, Q_HB, Q_FY, Q_FQ, Q_FR, Q_G8, Q_L8, Q_Z8, Q_N10, Q_G9, Q_L9, Q_Z9, Q_N11, Q_D8_9, Q_X3_, Q_X4_, Q_X5_, Q_X6_, Q_X7_, Q_X8_, Q_X9_⟩ hb_ hon hoff
              refine ⟨_, rfl, fun K hK => ?_⟩
              replace ha := Aside0.mk ha
              have HB := Aside0.mk Q_HB
              have D8_9 := Aside0.mk Q_D8_9
              have hb := (Below.refl w'.heap.size w').alloc (Nat.le_refl _) (.cells #[.bool false, .slice none 0 0] 71 (0, 0))
              refine value_ (w1 := w'.alloc (.cells #[.bool false, .slice none 0 0] 71 (0, 0))) (v := .pointer (some ⟨w'.heap.size, 0, none⟩)) (by rfl) rfl ?_ ?_
              · go_simp
                try rfl
                try assumption
                try (unfold wrap64; omega)
              refine hK.out _ _ ⟨A93, c93, Aq, cq, Ar, cr, g10, w'.heap.size, m3_, m4_, m5_, m6_, m7_, m8_, (.pointer (some ⟨w'.heap.size, 0, none⟩)), (by rw [ha.out]; exact putSel_upk 9 hb_ rfl rfl rfl), hop HB.out hb, fun h3 => (Q_FY h3).below hb, fun h4 => (Q_FQ h4).below hb, fun h4 => (Q_FR h4).below hb, Q_G8, fun h8 => Nat.lt_of_lt_of_le (Q_L8 h8) hb.size, fun h8 h10 => (hb.block _ (blk_lt (Q_Z8 h8 h10))).trans (Q_Z8 h8 h10), fun _ h1_ => absurd ((hoff 10 (by kernel_rfl)).symm.trans h1_) (by decide), fun _ => HB.out.size, fun _ => (by simp), fun _ _ => heap_alloc_new w' _, fun _ h1_ => absurd ((hoff 11 (by kernel_rfl)).symm.trans h1_) (by decide), fun h1 h2 => (fun e => by have := Q_L8 h1; omega), Q_X3_, Q_X4_, Q_X5_, Q_X6_, Q_X7_, Q_X8_, fun _ => rfl⟩
            refine steps_cons ?_ ?_
            · rintro b a w' ⟨A93, c93, Aq, cq, Ar, cr, g10, g11, m3_, m4_, m5_, m6_, m7_, m8_, m9_, ha, Q_HB, Q_FY, Q_FQ, Q_FR, Q_G8, Q_L8, Q_Z8, Q_N10, Q_G9, Q_L9, Q_Z9, Q_N11, Q_D8_9, Q_X3_, Q_X4_, Q_X5_, Q_X6_, Q_X7_, Q_X8_, Q_X9_⟩ hb_ hon hoff
              refine ⟨_, rfl, fun K hK => ?_⟩
              have e10 : a.tmps[10]? = some (m8_) := by rw [ha]; exact putSel_on (e := (8, 10, m8_)) 8 rfl rfl (hon 8 (by kernel_rfl)) rfl
              rw [Q_X8_ (hon 8 (by kernel_rfl))] at e10
              have e95 : a.tmps[95]? = some (m6_) := by rw [ha]; exact putSel_on (e := (6, 95, m6_)) 6 rfl rfl (hon 6 (by kernel_rfl)) rfl
              rw [Q_X6_ (hon 6 (by kernel_rfl))] at e95
              replace ha := Aside0.mk ha
              have HB := Aside0.mk Q_HB
              have FY := Aside0.mk (Q_FY (hon 3 (by kernel_rfl)))
              have FQ := Aside0.mk (Q_FQ (hon 4 (by kernel_rfl)))
              have FR := Aside0.mk (Q_FR (hon 4 (by kernel_rfl)))
              have G8 := Aside0.mk (Q_G8 (hon 8 (by kernel_rfl)))
              have L8 := Aside0.mk (Q_L8 (hon 8 (by kernel_rfl)))
              have Z8 := Aside0.mk (Q_Z8 (hon 8 (by kernel_rfl)) hb_)
              have G9 := Aside0.mk (Q_G9 (hon 9 (by kernel_rfl)))
              have L9 := Aside0.mk (Q_L9 (hon 9 (by kernel_rfl)))
              have Z9 := Aside0.mk (Q_Z9 (hon 9 (by kernel_rfl)) (hoff 11 (by kernel_rfl)))
              have D8_9 := Aside0.mk Q_D8_9
              have hk : Keep w' ((w'.setCell ⟨g10, 0, none⟩ (.bool (decide (v / NI < 0)))).setCell ⟨g10, 1, none⟩ (.slice Aq (limbs (v / NI).natAbs).length cq)) (fun k => k = g10) := (((Keep.refl w' (fun k => k = g10)).set ⟨g10, 0, none⟩ (.bool (decide (v / NI < 0))) (.inl rfl)).set ⟨g10, 1, none⟩ (.slice Aq (limbs (v / NI).natAbs).length cq) (.inl rfl))
              have y0 := blk_cell Z8.out 0
              have y1 := blk_cell Z8.out 1
              have z0 := blk_frozen Z8.out 0
              have z1 := blk_frozen Z8.out 1
              refine skip_ (w1 := ((w'.setCell ⟨g10, 0, none⟩ (.bool (decide (v / NI < 0)))).setCell ⟨g10, 1, none⟩ (.slice Aq (limbs (v / NI).natAbs).length cq))) (by rfl) rfl ?_ ?_
              · go_simp
                try rfl
                try assumption
                try (unfold wrap64; omega)
              refine hK.out _ _ ⟨A93, c93, Aq, cq, Ar, cr, g10, g11, m3_, m4_, m5_, m6_, m7_, m8_, m9_, (by rw [ha.out]; exact putSel_none (v := undef) rfl), HB.out.trans (hk.below HB.out.size (fun k e => by have e2 : k = g10 := e; rw [e2]; exact G8.out)), fun h3 => (Q_FY h3).num Z8.out num_cells hk, fun h4 => (Q_FQ h4).num Z8.out num_cells hk, fun h4 => (Q_FR h4).num Z8.out num_cells hk, Q_G8, fun h8 => Nat.lt_of_lt_of_le (Q_L8 h8) hk.size, fun _ h1_ => absurd ((up_self b 10).symm.trans h1_) (by decide), fun _ _ => (blk_put (blk_put Z8.out 0 (.bool (decide (v / NI < 0))) rfl) 1 (.slice Aq (limbs (v / NI).natAbs).length cq) rfl), Q_G9, fun h9 => Nat.lt_of_lt_of_le (Q_L9 h9) hk.size, fun h9 h11 => (hk.block _ (blk_lt (Q_Z9 h9 h11)) (fun e => Q_D8_9 (hon 8 (by kernel_rfl)) h9 e.symm)).trans (Q_Z9 h9 h11), fun _ h1_ => absurd ((hoff 11 (by kernel_rfl)).symm.trans h1_) (by decide), Q_D8_9, Q_X3_, Q_X4_, Q_X5_, Q_X6_, Q_X7_, Q_X8_, Q_X9_⟩
            refine steps_cons ?_ ?_
            · rintro b a w' ⟨A93, c93, Aq, cq, Ar, cr, g10, g11, m3_, m4_, m5_, m6_, m7_, m8_, m9_, ha, Q_HB, Q_FY, Q_FQ, Q_FR, Q_G8, Q_L8, Q_Z8, Q_N10, Q_G9, Q_L9, Q_Z9, Q_N11, Q_D8_9, Q_X3_, Q_X4_, Q_X5_, Q_X6_, Q_X7_, Q_X8_, Q_X9_⟩ hb_ hon hoff
              refine ⟨_, rfl, fun K hK => ?_⟩
              have e11 : a.tmps[11]? = some (m9_) := by rw [ha]; exact putSel_on (e := (9, 11, m9_)) 9 rfl rfl (hon 9 (by kernel_rfl)) rfl
              rw [Q_X9_ (hon 9 (by kernel_rfl))] at e11
              have e96 : a.tmps[96]? = some (m7_) := by rw [ha]; exact putSel_on (e := (7, 96, m7_)) 7 rfl rfl (hon 7 (by kernel_rfl)) rfl
              rw [Q_X7_ (hon 7 (by kernel_rfl))] at e96
              replace ha := Aside0.mk ha
              have HB := Aside0.mk Q_HB
              have FY := Aside0.mk (Q_FY (hon 3 (by kernel_rfl)))
              have FQ := Aside0.mk (Q_FQ (hon 4 (by kernel_rfl)))
              have FR := Aside0.mk (Q_FR (hon 4 (by kernel_rfl)))
              have G8 := Aside0.mk (Q_G8 (hon 8 (by kernel_rfl)))
              have L8 := Aside0.mk (Q_L8 (hon 8 (by kernel_rfl)))
              have N10 := Aside0.mk (Q_N10 (hon 8 (by kernel_rfl)) (hon 10 (by kernel_rfl)))
              have G9 := Aside0.mk (Q_G9 (hon 9 (by kernel_rfl)))
              have L9 := Aside0.mk (Q_L9 (hon 9 (by kernel_rfl)))
              have Z9 := Aside0.mk (Q_Z9 (hon 9 (by kernel_rfl)) hb_)
              have D8_9 := Aside0.mk Q_D8_9
              have hk : Keep w' ((w'.setCell ⟨g11, 0, none⟩ (.bool (decide (v % NI < 0)))).setCell ⟨g11, 1, none⟩ (.slice Ar (limbs (v % NI).natAbs).length cr)) (fun k => k = g11) := (((Keep.refl w' (fun k => k = g11)).set ⟨g11, 0, none⟩ (.bool (decide (v % NI < 0))) (.inl rfl)).set ⟨g11, 1, none⟩ (.slice Ar (limbs (v % NI).natAbs).length cr) (.inl rfl))
              have y0 := blk_cell Z9.out 0
              have y1 := blk_cell Z9.out 1
              have z0 := blk_frozen Z9.out 0
              have z1 := blk_frozen Z9.out 1
              refine skip_ (w1 := ((w'.setCell ⟨g11, 0, none⟩ (.bool (decide (v % NI < 0)))).setCell ⟨g11, 1, none⟩ (.slice Ar (limbs (v % NI).natAbs).length cr))) (by rfl) rfl ?_ ?_
              · go_simp
                try rfl
                try assumption
                try (unfold wrap64; omega)
              refine hK.out _ _ ⟨A93, c93, Aq, cq, Ar, cr, g10, g11, m3_, m4_, m5_, m6_, m7_, m8_, m9_, (by rw [ha.out]; exact putSel_none (v := undef) rfl), HB.out.trans (hk.below HB.out.size (fun k e => by have e2 : k = g11 := e; rw [e2]; exact G9.out)), fun h3 => (Q_FY h3).num Z9.out num_cells hk, fun h4 => (Q_FQ h4).num Z9.out num_cells hk, fun h4 => (Q_FR h4).num Z9.out num_cells hk, Q_G8, fun h8 => Nat.lt_of_lt_of_le (Q_L8 h8) hk.size, fun _ h1_ => absurd ((hon 10 (by kernel_rfl)).symm.trans h1_) (by decide), fun h8 h10 => (hk.block _ (blk_lt (Q_N10 h8 h10)) (fun e => Q_D8_9 h8 (hon 9 (by kernel_rfl)) e)).trans (Q_N10 h8 h10), Q_G9, fun h9 => Nat.lt_of_lt_of_le (Q_L9 h9) hk.size, fun _ h1_ => absurd ((up_self b 11).symm.trans h1_) (by decide), fun _ _ => (blk_put (blk_put Z9.out 0 (.bool (decide (v % NI < 0))) rfl) 1 (.slice Ar (limbs (v % NI).natAbs).length cr) rfl), Q_D8_9, Q_X3_, Q_X4_, Q_X5_, Q_X6_, Q_X7_, Q_X8_, Q_X9_⟩
            exact steps_nil
          · rintro b a w' hall ⟨A93, c93, Aq, cq, Ar, cr, g10, g11, m3_, m4_, m5_, m6_, m7_, m8_, m9_, ha, Q_HB, Q_FY, Q_FQ, Q_FR, Q_G8, Q_L8, Q_Z8, Q_N10, Q_G9, Q_L9, Q_Z9, Q_N11, Q_D8_9, Q_X3_, Q_X4_, Q_X5_, Q_X6_, Q_X7_, Q_X8_, Q_X9_⟩
            clear D8_9 HB
            have hb0_ := hall 0 (by kernel_rfl)
            have hb1_ := hall 1 (by kernel_rfl)
            have hb2_ := hall 2 (by kernel_rfl)
            have hb3_ := hall 3 (by kernel_rfl)
            have hb4_ := hall 4 (by kernel_rfl)
            have hb5_ := hall 5 (by kernel_rfl)
            have hb6_ := hall 6 (by kernel_rfl)
            have hb7_ := hall 7 (by kernel_rfl)
            have hb8_ := hall 8 (by kernel_rfl)
            have hb9_ := hall 9 (by kernel_rfl)
            have hb10_ := hall 10 (by kernel_rfl)
            have hb11_ := hall 11 (by kernel_rfl)
            subst ha
            obtain rfl := Q_X3_ hb3_
            obtain rfl := Q_X4_ hb4_
            obtain rfl := Q_X5_ hb5_
            obtain rfl := Q_X6_ hb6_
            obtain rfl := Q_X7_ hb7_
            obtain rfl := Q_X8_ hb8_
            obtain rfl := Q_X9_ hb9_
            simp only [putSel, hb0_, hb1_, hb2_, hb3_, hb4_, hb5_, hb6_, hb7_, hb8_, hb9_, hb10_, hb11_, if_true, Act.put, List.setIfInBounds_toArray, List.set_cons_zero, List.set_cons_succ]
            have HB := Aside0.mk Q_HB
            clear Q_HB
            have FY := Aside0.mk (Q_FY hb3_)
            clear Q_FY
            have FQ := Aside0.mk (Q_FQ hb4_)
            clear Q_FQ
            have FR := Aside0.mk (Q_FR hb4_)
            clear Q_FR
            have G8 := Aside0.mk (Q_G8 hb8_)
            clear Q_G8
            have L8 := Aside0.mk (Q_L8 hb8_)
            clear Q_L8
            clear Q_Z8
            have N10 := Aside0.mk (Q_N10 hb8_ hb10_)
            clear Q_N10
            have G9 := Aside0.mk (Q_G9 hb9_)
            clear Q_G9
            have L9 := Aside0.mk (Q_L9 hb9_)
            clear Q_L9
            clear Q_Z9
            have N11 := Aside0.mk (Q_N11 hb9_ hb11_)
            clear Q_N11
            have D8_9 := Aside0.mk Q_D8_9
            clear Q_D8_9
            clear hall hb0_ hb1_ hb2_ hb3_ hb4_ hb5_ hb6_ hb7_ hb8_ hb9_ hb10_ hb11_
            have BW_ := Aside0.mk (hop BW.out HB.out)
            have T6_ := Aside0.mk ((HB.out.block _ (blk_lt T6.out)).trans T6.out)
            have T2_ := Aside0.mk ((HB.out.block _ (blk_lt T2.out)).trans T2.out)
            have M10 := Aside0.mk N10.out
            have k0 := blk_cell M10.out 0
            have k1 := blk_cell M10.out 1
            clear HB BW T6 T2 N10 N11 G8 G9 FR
            go_upto_region 19 with (first
              | (go_at_call 42; (with_reducible refine (HRT.out _ _ (NumV.of FQ.out)).mono ?_); rintro e w6 ⟨u6, rfl, ⟨A6, c6, rfl, h6⟩, hb⟩; have HN6 := Aside0.mk (NumV.of h6); have B6 := Aside0.mk (hop BW_.out hb); have T66 := Aside0.mk ((hb.block _ (blk_lt T6_.out)).trans T6_.out); have T26 := Aside0.mk ((hb.block _ (blk_lt T2_.out)).trans T2_.out); clear hb h6)
              | (go_at_call 37; (with_reducible refine (HPD.out _ _ HN6.out).mono ?_); rintro e w7 ⟨rfl, hb⟩; have B7 := Aside0.mk (hop B6.out hb); have MG7 := Aside0.mk ((hb.block _ (blk_lt T66.out)).trans T66.out); have T27 := Aside0.mk ((hb.block _ (blk_lt T26.out)).trans T26.out); have l7 := blk_cell MG7.out 7; have t7 := blk_frozen MG7.out 7; clear hb))
            obtain ⟨WZ, hWZ⟩ : ∃ WZ, WZ = w7.setCell ⟨g6, 7, none⟩ (.int .i64 dv) := ⟨_, rfl⟩
            have hkz : Keep w7 WZ (fun k => k = g6) := by rw [hWZ]; exact (Keep.refl w7 (fun k => k = g6)).set ⟨g6, 7, none⟩ _ (.inl rfl)
            have mgz : WZ.heap[g6]? = some (.cells #[.int .i64 (N : Int), .int .i64 ua, .int .u64 ub, .int .i64 x0, .int .i64 xk, .int .i64 me, .int .i64 md, .int .i64 dv] 27 (0, 0)) := by rw [hWZ]; exact blk_put MG7.out 7 _ rfl
            rw [← hWZ]
            have hbz : Below w.heap.size w WZ := B7.out.trans (hkz.below B7.out.size (fun k e => by have e2 : k = g6 := e; omega))
            have mz : WZ.heap[w.heap.size]? = some (.cells #[.int .i64 0, .int .i64 0, .int .u64 0, .int .i64 0, .int .i64 0, .int .i64 0, .int .i64 0, .int .i64 0] 27 (0, 0)) := (hkz.block _ (blk_lt T27.out) (by omega)).trans T27.out
            have y0 := blk_cell mgz 0
            have z0 := blk_cell mz 0
            have f0 := blk_frozen mz 0
            have y1 := blk_cell mgz 1
            have z1 := blk_cell mz 1
            have f1 := blk_frozen mz 1
            have y2 := blk_cell mgz 2
            have z2 := blk_cell mz 2
            have f2 := blk_frozen mz 2
            have y3 := blk_cell mgz 3
            have z3 := blk_cell mz 3
            have f3 := blk_frozen mz 3
            have y4 := blk_cell mgz 4
            have z4 := blk_cell mz 4
            have f4 := blk_frozen mz 4
            have y5 := blk_cell mgz 5
            have z5 := blk_cell mz 5
            have f5 := blk_frozen mz 5
            have y6 := blk_cell mgz 6
            have z6 := blk_cell mz 6
            have f6 := blk_frozen mz 6
            have y7 := blk_cell mgz 7
            have z7 := blk_cell mz 7
            have f7 := blk_frozen mz 7
            have MZ := Aside0.mk mz
            have HBZ := Aside0.mk hbz
            have hne : w.heap.size ≠ g6 := by omega
            clear hWZ hkz mgz hbz mz l7 t7 d0 d1
            go_wp2_with (fail)
            have hf := (blk_put (blk_put (blk_put (blk_put (blk_put (blk_put (blk_put (blk_put MZ.out 0 (.int .i64 (N : Int)) rfl) 1 (.int .i64 ua) rfl) 2 (.int .u64 ub) rfl) 3 (.int .i64 x0) rfl) 4 (.int .i64 xk) rfl) 5 (.int .i64 me) rfl) 6 (.int .i64 md) rfl) 7 (.int .i64 dv) rfl)
            rw [RES.out]
            refine bodyPost_ret (results_ct rfl _ _ w.heap.size 27 _ (0, 0) _ rfl hf Try.underlying27 rfl (by kernel_rfl)) rfl ?_
            exact ⟨rfl, (((((((HBZ.out.setCell (Nat.le_refl _) _).setCell (Nat.le_refl _) _).setCell (Nat.le_refl _) _).setCell (Nat.le_refl _) _).setCell (Nat.le_refl _) _).setCell (Nat.le_refl _) _).setCell (Nat.le_refl _) _).setCell (Nat.le_refl _) _⟩
        | succ k_ =>
          have hlt : i < N := by omega
          have d1 : decide (i < N) = true := decide_eq_true hlt
          have HWI1 := Aside0.mk (wrap_next hlt HLL.out)
          have hil : i < l.length := by rw [← HNL.out]; exact hlt
          obtain ⟨adl, rfl, hcx⟩ := cell_rd (w := wr) (l := l) (by rw [← HNL.out]; exact Kd.C_below HCA.out BW.out) hil
          obtain ⟨x, hx⟩ : ∃ x, x = rd l (i : Nat) := ⟨_, rfl⟩
          rw [← hx] at hcx
          have hxs : smp x := by rw [hx, ← rd_getE hil]; exact HLS.out _ (List.getElem_mem _)
          have hst := sq_snoc (m := me) hil
          rw [rd_getE hil, ← hx] at hst
          have hvi := sq_inW HLS.out HMR.out (by rw [← HNL.out]; exact HLL.out) i
          obtain ⟨v, hv⟩ : ∃ v, v = sqP me (l.take i) := ⟨_, rfl⟩
          rw [← hv] at hst hvi NA
          obtain ⟨hd1, hd2, hd3, hd4, hd5⟩ := d_rng hxs HMR.out
          have HCX := Aside0.mk hcx
          have HST := Aside0.mk hst
          have HID := Aside0.mk (fun W => ref_Int (z := x - me) W hd1)
          have HVI := Aside0.mk (And.intro hvi (And.intro hd2 hd3))
          have x1 := hcx
          clear hxs hx hst hvi hd1 hd2 hd3 hv
          go_upto_region 15 with (fail)
          have HB := Aside0.mk (show Below wr.heap.size wr wr.drew from (Below.refl _ _).drew)
          refine start_ (n := 10) (S := fun w' => True) (ds := []) #[false, false, false, false, false, false, false, false, false, false] (by kernel_rfl) rfl rfl trivial (fun hHeld => ?_)
          refine with_tabW rof15.tab rof15.bits (fun HT_ HW_ => ?_)
          refine inv_at [0, 1, 2, 3, 4, 5, 6, 7, 8, 9] (fun a0_ b a w' => ∃ (A83 : Option Addr) (c83 : Nat) (g9 : Nat) (m7_ : Value) (m8_ : Value), a = putSel a0_ b [(0, 76, .slice (some adl) N c), (1, 77, .int .i64 (i : Int)), (2, 78, .pointer (some (adl.add i))), (3, 79, .int .i64 x), (4, 80, .pointer (some ⟨g6, 5, none⟩)), (5, 81, .int .i64 me), (6, 82, .int .i64 (x - me)), (7, 83, m7_), (8, 9, m8_)] ∧ (Below wr.heap.size wr w') ∧ (b 7 = true → Lm w' A83 c83 (limbs (x - me).natAbs)) ∧ (b 8 = true → wr.heap.size ≤ g9) ∧ (b 8 = true → g9 < w'.heap.size) ∧ (b 8 = true → b 9 = false → w'.heap[g9]? = some (.cells #[.bool false, .slice none 0 0] 71 (0, 0))) ∧ (b 8 = true → b 9 = true → w'.heap[g9]? = some (.cells #[.bool (decide (x - me < 0)), .slice A83 (limbs (x - me).natAbs).length c83] 71 (0, 0))) ∧ (b 7 = true → (m7_ : Value) = .agg #[.bool (decide (x - me < 0)), .slice A83 (limbs (x - me).natAbs).length c83]) ∧ (b 8 = true → (m8_ : Value) = .pointer (some ⟨g9, 0, none⟩))) HT_.out HW_.out (by kernel_rfl) (by kernel_rfl) ?_ ?_ ?_
          · exact ⟨none, 0, 0, .bool false, .bool false, by simp only [putSel, Bool.false_eq_true, if_false], HB.out, fun h_ => absurd h_ (by decide), fun h_ => absurd h_ (by decide), fun h_ => absurd h_ (by decide), fun h_ => absurd h_ (by decide), fun h_ => absurd h_ (by decide), fun h_ => absurd h_ (by decide), fun h_ => absurd h_ (by decide)⟩
          · skip
            clear HB
            refine steps_cons ?_ ?_
            · rintro b a w' ⟨A83, c83, g9, m7_, m8_, ha, Q_HB, Q_FX, Q_G8, Q_L8, Q_Z8, Q_N9, Q_X7_, Q_X8_⟩ hb_ hon hoff
              refine ⟨_, rfl, fun K hK => ?_⟩
              have e0 : a.tmps[0]? = some (.slice (some adl) N c) := by rw [ha]; exact (putSel_off rfl).trans rfl
              replace ha := Aside0.mk ha
              have HB := Aside0.mk Q_HB
              refine value_ (w1 := w') (v := .slice (some adl) N c) (by rfl) rfl ?_ ?_
              · go_simp
                (try simp only [i64_w])
                try rfl
                try assumption
                try (unfold wrap64; omega)
              refine hK.out _ _ ⟨A83, c83, g9, m7_, m8_, (by rw [ha.out]; exact putSel_upk 0 hb_ rfl rfl rfl), Q_HB, fun h0_ => absurd ((hoff 7 (by kernel_rfl)).symm.trans h0_) (by decide), Q_G8, Q_L8, Q_Z8, fun _ h1_ => absurd ((hoff 9 (by kernel_rfl)).symm.trans h1_) (by decide), fun h0_ => absurd ((hoff 7 (by kernel_rfl)).symm.trans h0_) (by decide), Q_X8_⟩
            refine steps_cons ?_ ?_
            · rintro b a w' ⟨A83, c83, g9, m7_, m8_, ha, Q_HB, Q_FX, Q_G8, Q_L8, Q_Z8, Q_N9, Q_X7_, Q_X8_⟩ hb_ hon hoff
              refine ⟨_, rfl, fun K hK => ?_⟩
              have e8 : a.tmps[8]? = some (.int .i64 (i : Int)) := by rw [ha]; exact (putSel_off rfl).trans rfl
              replace ha := Aside0.mk ha
              have HB := Aside0.mk Q_HB
              refine value_ (w1 := w') (v := .int .i64 (i : Int)) (by rfl) rfl ?_ ?_
              · go_simp
                (try simp only [i64_w])
                try rfl
                try assumption
                try (unfold wrap64; omega)
              refine hK.out _ _ ⟨A83, c83, g9, m7_, m8_, (by rw [ha.out]; exact putSel_upk 1 hb_ rfl rfl rfl), Q_HB, fun h0_ => absurd ((hoff 7 (by kernel_rfl)).symm.trans h0_) (by decide), Q_G8, Q_L8, Q_Z8, fun _ h1_ => absurd ((hoff 9 (by kernel_rfl)).symm.trans h1_) (by decide), fun h0_ => absurd ((hoff 7 (by kernel_rfl)).symm.trans h0_) (by decide), Q_X8_⟩
            refine steps_cons ?_ ?_
            · rintro b a w' ⟨A83, c83, g9, m7_, m8_, ha, Q_HB, Q_FX, Q_G8, Q_L8, Q_Z8, Q_N9, Q_X7_, Q_X8_⟩ hb_ hon hoff
              refine ⟨_, rfl, fun K hK => ?_⟩
              have e76 : a.tmps[76]? = some (.slice (some adl) N c) := by rw [ha]; exact putSel_on (e := (0, 76, .slice (some adl) N c)) 0 rfl rfl (hon 0 (by kernel_rfl)) rfl
              have e77 : a.tmps[77]? = some (.int .i64 (i : Int)) := by rw [ha]; exact putSel_on (e := (1, 77, .int .i64 (i : Int))) 1 rfl rfl (hon 1 (by kernel_rfl)) rfl
              replace ha := Aside0.mk ha
              have HB := Aside0.mk Q_HB
              refine value_ (w1 := w') (v := .pointer (some (adl.add i))) (by rfl) rfl ?_ ?_
              · go_simp
                (try simp only [i64_w])
                try rfl
                try assumption
                try (unfold wrap64; omega)
              refine hK.out _ _ ⟨A83, c83, g9, m7_, m8_, (by rw [ha.out]; exact putSel_upk 2 hb_ rfl rfl rfl), Q_HB, fun h0_ => absurd ((hoff 7 (by kernel_rfl)).symm.trans h0_) (by decide), Q_G8, Q_L8, Q_Z8, fun _ h1_ => absurd ((hoff 9 (by kernel_rfl)).symm.trans h1_) (by decide), fun h0_ => absurd ((hoff 7 (by kernel_rfl)).symm.trans h0_) (by decide), Q_X8_⟩
            refine steps_cons ?_ ?_
            · rintro b a w' ⟨A83, c83, g9, m7_, m8_, ha, Q_HB, Q_FX, Q_G8, Q_L8, Q_Z8, Q_N9, Q_X7_, Q_X8_⟩ hb_ hon hoff
              refine ⟨_, rfl, fun K hK => ?_⟩
              have e78 : a.tmps[78]? = some (.pointer (some (adl.add i))) := by rw [ha]; exact putSel_on (e := (2, 78, .pointer (some (adl.add i)))) 2 rfl rfl (hon 2 (by kernel_rfl)) rfl
              replace ha := Aside0.mk ha
              have HB := Aside0.mk Q_HB
              have k0 := pw_cell_below HB.out HCX.out
              refine value_ (w1 := w') (v := .int .i64 x) (by rfl) rfl ?_ ?_
              · go_simp
                (try simp only [i64_w])
                try rfl
                try assumption
                try (unfold wrap64; omega)
              refine hK.out _ _ ⟨A83, c83, g9, m7_, m8_, (by rw [ha.out]; exact putSel_upk 3 hb_ rfl rfl rfl), Q_HB, fun h0_ => absurd ((hoff 7 (by kernel_rfl)).symm.trans h0_) (by decide), Q_G8, Q_L8, Q_Z8, fun _ h1_ => absurd ((hoff 9 (by kernel_rfl)).symm.trans h1_) (by decide), fun h0_ => absurd ((hoff 7 (by kernel_rfl)).symm.trans h0_) (by decide), Q_X8_⟩
            refine steps_cons ?_ ?_
            · rintro b a w' ⟨A83, c83, g9, m7_, m8_, ha, Q_HB, Q_FX, Q_G8, Q_L8, Q_Z8, Q_N9, Q_X7_, Q_X8_⟩ hb_ hon hoff
              refine ⟨_, rfl, fun K hK => ?_⟩
              have e6 : a.tmps[6]? = some (.pointer (some ⟨g6, 0, none⟩)) := by rw [ha]; exact (putSel_off rfl).trans rfl
              replace ha := Aside0.mk ha
              have HB := Aside0.mk Q_HB
              refine value_ (w1 := w') (v := .pointer (some ⟨g6, 5, none⟩)) (by rfl) rfl ?_ ?_
              · go_simp
                (try simp only [i64_w])
                try rfl
                try assumption
                try (unfold wrap64; omega)
              refine hK.out _ _ ⟨A83, c83, g9, m7_, m8_, (by rw [ha.out]; exact putSel_upk 4 hb_ rfl rfl rfl), Q_HB, fun h0_ => absurd ((hoff 7 (by kernel_rfl)).symm.trans h0_) (by decide), Q_G8, Q_L8, Q_Z8, fun _ h1_ => absurd ((hoff 9 (by kernel_rfl)).symm.trans h1_) (by decide), fun h0_ => absurd ((hoff 7 (by kernel_rfl)).symm.trans h0_) (by decide), Q_X8_⟩
            refine steps_cons ?_ ?_
            · rintro b a w' ⟨A83, c83, g9, m7_, m8_, ha, Q_HB, Q_FX, Q_G8, Q_L8, Q_Z8, Q_N9, Q_X7_, Q_X8_⟩ hb_ hon hoff
              refine ⟨_, rfl, fun K hK => ?_⟩
              have e80 : a.tmps[80]? = some (.pointer (some ⟨g6, 5, none⟩)) := by rw [ha]; exact putSel_on (e := (4, 80, .pointer (some ⟨g6, 5, none⟩))) 4 rfl rfl (hon 4 (by kernel_rfl)) rfl
              replace ha := Aside0.mk ha
              have HB := Aside0.mk Q_HB
              have k0 := blk_cell ((HB.out.block _ (blk_lt T6.out)).trans T6.out) 5
              refine value_ (w1 := w') (v := .int .i64 me) (by rfl) rfl ?_ ?_
              · go_simp
                (try simp only [i64_w])
                try rfl
                try assumption
                try (unfold wrap64; omega)
              refine hK.out _ _ ⟨A83, c83, g9, m7_, m8_, (by rw [ha.out]; exact putSel_upk 5 hb_ rfl rfl rfl), Q_HB, fun h0_ => absurd ((hoff 7 (by kernel_rfl)).symm.trans h0_) (by decide), Q_G8, Q_L8, Q_Z8, fun _ h1_ => absurd ((hoff 9 (by kernel_rfl)).symm.trans h1_) (by decide), fun h0_ => absurd ((hoff 7 (by kernel_rfl)).symm.trans h0_) (by decide), Q_X8_⟩
            refine steps_cons ?_ ?_
            · rintro b a w' ⟨A83, c83, g9, m7_, m8_, ha, Q_HB, Q_FX, Q_G8, Q_L8, Q_Z8, Q_N9, Q_X7_, Q_X8_⟩ hb_ hon hoff
              refine ⟨_, rfl, fun K hK => ?_⟩
              have e79 : a.tmps[79]? = some (.int .i64 x) := by rw [ha]; exact putSel_on (e := (3, 79, .int .i64 x)) 3 rfl rfl (hon 3 (by kernel_rfl)) rfl
              have e81 : a.tmps[81]? = some (.int .i64 me) := by rw [ha]; exact putSel_on (e := (5, 81, .int .i64 me)) 5 rfl rfl (hon 5 (by kernel_rfl)) rfl
              replace ha := Aside0.mk ha
              have HB := Aside0.mk Q_HB
              refine value_ (w1 := w') (v := .int .i64 (x - me)) (by rfl) rfl ?_ ?_
              · go_simp
                (try simp only [i64_w])
                try rfl
                try assumption
                try (unfold wrap64; omega)
              refine hK.out _ _ ⟨A83, c83, g9, m7_, m8_, (by rw [ha.out]; exact putSel_upk 6 hb_ rfl rfl rfl), Q_HB, fun h0_ => absurd ((hoff 7 (by kernel_rfl)).symm.trans h0_) (by decide), Q_G8, Q_L8, Q_Z8, fun _ h1_ => absurd ((hoff 9 (by kernel_rfl)).symm.trans h1_) (by decide), fun h0_ => absurd ((hoff 7 (by kernel_rfl)).symm.trans h0_) (by decide), Q_X8_⟩
            refine steps_cons ?_ ?_
            · rintro b a w' ⟨A83, c83, g9, m7_, m8_, ha, Q_HB, Q_FX, Q_G8, Q_L8, Q_Z8, Q_N9, Q_X7_, Q_X8_⟩ hb_ hon hoff
              refine ⟨_, rfl, fun K hK => ?_⟩
              have e82 : a.tmps[82]? = some (.int .i64 (x - me)) := by rw [ha]; exact putSel_on (e := (6, 82, .int .i64 (x - me))) 6 rfl rfl (hon 6 (by kernel_rfl)) rfl
              replace ha := Aside0.mk ha
              have HB := Aside0.mk Q_HB
              refine goes_ Try.func38 (by kernel_rfl) rfl #[.int .i64 (x - me)] (by rfl) rfl rfl (by first | (simp only [List.map_toArray, List.map_cons, List.map_nil, Act.eval, Array.getD_eq_getD_getElem?, Option.getD_some, e82]; done) | (simp only [List.map_toArray, List.map_cons, List.map_nil, Act.eval, Array.getD_eq_getD_getElem?, Option.getD_some, e82]; rfl)) ?_
              with_reducible refine (HID.out _).mono ?_
              rintro e w1 ⟨u1, rfl, ⟨A1_, c1_, rfl, h1⟩, hb⟩
              refine ⟨_, rfl, ?_⟩
              refine hK.out _ _ ⟨A1_, c1_, g9, (.agg #[.bool (decide (x - me < 0)), .slice A1_ (limbs (x - me).natAbs).length c1_]), m8_, (by rw [ha.out]; exact putSel_upk 7 hb_ rfl rfl rfl), hop HB.out hb, fun _ => h1, Q_G8, fun h8 => Nat.lt_of_lt_of_le (Q_L8 h8) hb.size, fun h8 h9 => (hb.block _ (blk_lt (Q_Z8 h8 h9))).trans (Q_Z8 h8 h9), fun _ h1_ => absurd ((hoff 9 (by kernel_rfl)).symm.trans h1_) (by decide), fun _ => rfl, Q_X8_⟩
            refine steps_cons ?_ ?_
            · rintro b a w' ⟨A83, c83, g9, m7_, m8_, ha, Q_HB, Q_FX, Q_G8, Q_L8, Q_Z8, Q_N9, Q_X7_, Q_X8_⟩ hb_ hon hoff
              refine ⟨_, rfl, fun K hK => ?_⟩
              replace ha := Aside0.mk ha
              have HB := Aside0.mk Q_HB
              have hb := (Below.refl w'.heap.size w').alloc (Nat.le_refl _) (.cells #[.bool false, .slice none 0 0] 71 (0, 0))
              refine value_ (w1 := w'.alloc (.cells #[.bool false, .slice none 0 0] 71 (0, 0))) (v := .pointer (some ⟨w'.heap.size, 0, none⟩)) (by rfl) rfl ?_ ?_
              · go_simp
                try rfl
                try assumption
                try (unfold wrap64; omega)
              refine hK.out _ _ ⟨A83, c83, w'.heap.size, m7_, (.pointer (some ⟨w'.heap.size, 0, none⟩)), (by rw [ha.out]; exact putSel_upk 8 hb_ rfl rfl rfl), hop HB.out hb, fun h7 => (Q_FX h7).below hb, fun _ => HB.out.size, fun _ => (by simp), fun _ _ => heap_alloc_new w' _, fun _ h1_ => absurd ((hoff 9 (by kernel_rfl)).symm.trans h1_) (by decide), Q_X7_, fun _ => rfl⟩
            refine steps_cons ?_ ?_
            · rintro b a w' ⟨A83, c83, g9, m7_, m8_, ha, Q_HB, Q_FX, Q_G8, Q_L8, Q_Z8, Q_N9, Q_X7_, Q_X8_⟩ hb_ hon hoff
              refine ⟨_, rfl, fun K hK => ?_⟩
              have e9 : a.tmps[9]? = some (m8_) := by rw [ha]; exact putSel_on (e := (8, 9, m8_)) 8 rfl rfl (hon 8 (by kernel_rfl)) rfl
              rw [Q_X8_ (hon 8 (by kernel_rfl))] at e9
              have e83 : a.tmps[83]? = some (m7_) := by rw [ha]; exact putSel_on (e := (7, 83, m7_)) 7 rfl rfl (hon 7 (by kernel_rfl)) rfl
              rw [Q_X7_ (hon 7 (by kernel_rfl))] at e83
              replace ha := Aside0.mk ha
              have HB := Aside0.mk Q_HB
              have FX := Aside0.mk (Q_FX (hon 7 (by kernel_rfl)))
              have G8 := Aside0.mk (Q_G8 (hon 8 (by kernel_rfl)))
              have L8 := Aside0.mk (Q_L8 (hon 8 (by kernel_rfl)))
              have Z8 := Aside0.mk (Q_Z8 (hon 8 (by kernel_rfl)) hb_)
              have hk : Keep w' ((w'.setCell ⟨g9, 0, none⟩ (.bool (decide (x - me < 0)))).setCell ⟨g9, 1, none⟩ (.slice A83 (limbs (x - me).natAbs).length c83)) (fun k => k = g9) := (((Keep.refl w' (fun k => k = g9)).set ⟨g9, 0, none⟩ (.bool (decide (x - me < 0))) (.inl rfl)).set ⟨g9, 1, none⟩ (.slice A83 (limbs (x - me).natAbs).length c83) (.inl rfl))
              have y0 := blk_cell Z8.out 0
              have y1 := blk_cell Z8.out 1
              have z0 := blk_frozen Z8.out 0
              have z1 := blk_frozen Z8.out 1
              refine skip_ (w1 := ((w'.setCell ⟨g9, 0, none⟩ (.bool (decide (x - me < 0)))).setCell ⟨g9, 1, none⟩ (.slice A83 (limbs (x - me).natAbs).length c83))) (by rfl) rfl ?_ ?_
              · go_simp
                try rfl
                try assumption
                try (unfold wrap64; omega)
              refine hK.out _ _ ⟨A83, c83, g9, m7_, m8_, (by rw [ha.out]; exact putSel_none (v := undef) rfl), HB.out.trans (hk.below HB.out.size (fun k e => by have e2 : k = g9 := e; rw [e2]; exact G8.out)), fun h7 => (Q_FX h7).num Z8.out num_cells hk, Q_G8, fun h8 => Nat.lt_of_lt_of_le (Q_L8 h8) hk.size, fun _ h1_ => absurd ((up_self b 9).symm.trans h1_) (by decide), fun _ _ => (blk_put (blk_put Z8.out 0 (.bool (decide (x - me < 0))) rfl) 1 (.slice A83 (limbs (x - me).natAbs).length c83) rfl), Q_X7_, Q_X8_⟩
            exact steps_nil
          · rintro b a w' hall ⟨A83, c83, g9, m7_, m8_, ha, Q_HB, Q_FX, Q_G8, Q_L8, Q_Z8, Q_N9, Q_X7_, Q_X8_⟩
            clear HB
            have hb0_ := hall 0 (by kernel_rfl)
            have hb1_ := hall 1 (by kernel_rfl)
            have hb2_ := hall 2 (by kernel_rfl)
            have hb3_ := hall 3 (by kernel_rfl)
            have hb4_ := hall 4 (by kernel_rfl)
            have hb5_ := hall 5 (by kernel_rfl)
            have hb6_ := hall 6 (by kernel_rfl)
            have hb7_ := hall 7 (by kernel_rfl)
            have hb8_ := hall 8 (by kernel_rfl)
            have hb9_ := hall 9 (by kernel_rfl)
            subst ha
            obtain rfl := Q_X7_ hb7_
            obtain rfl := Q_X8_ hb8_
            simp only [putSel, hb0_, hb1_, hb2_, hb3_, hb4_, hb5_, hb6_, hb7_, hb8_, hb9_, if_true, Act.put, List.setIfInBounds_toArray, List.set_cons_zero, List.set_cons_succ]
            have HB := Aside0.mk Q_HB
            clear Q_HB
            have FX := Aside0.mk (Q_FX hb7_)
            clear Q_FX
            have G8 := Aside0.mk (Q_G8 hb8_)
            clear Q_G8
            have L8 := Aside0.mk (Q_L8 hb8_)
            clear Q_L8
            clear Q_Z8
            have N9 := Aside0.mk (Q_N9 hb8_ hb9_)
            clear Q_N9
            clear hall hb0_ hb1_ hb2_ hb3_ hb4_ hb5_ hb6_ hb7_ hb8_ hb9_
            have B15 := Aside0.mk HB.out
            obtain ⟨A7, c7, n7, l7⟩ := NA.out
            have N7 := Aside0.mk ((HB.out.block _ (blk_lt n7)).trans n7)
            have L7 := Aside0.mk (l7.below HB.out)
            have T6_ := Aside0.mk ((HB.out.block _ (blk_lt T6.out)).trans T6.out)
            have T2_ := Aside0.mk ((HB.out.block _ (blk_lt T2.out)).trans T2.out)
            have BW_ := Aside0.mk (hop BW.out HB.out)
            have hne9 : g7 < g9 := Nat.lt_of_lt_of_le (blk_lt n7) G8.out
            obtain ⟨d, hd⟩ : ∃ d, d = x - me := ⟨_, rfl⟩
            have N9_ := N9
            have L9 := FX
            rw [← hd] at N9_ L9 HST HVI ⊢
            obtain ⟨A9, hA9⟩ : ∃ a, a = A83 := ⟨_, rfl⟩
            obtain ⟨c9, hc9⟩ : ∃ a, a = c83 := ⟨_, rfl⟩
            rw [← hA9, ← hc9] at N9_ L9 ⊢
            obtain ⟨V, hV⟩ : ∃ V, V = w' := ⟨_, rfl⟩
            rw [← hV] at N7 L7 T6_ T2_ BW_ N9_ L9 ⊢
            have HMU := Aside0.mk (fun (W : World) (u v : Value) (h1 : NumV W u d) (h2 : NumV W v d) => ref_MulN h1 h2 (few_W HVI.out.2.1) (few_W HVI.out.2.1))
            have HAD := Aside0.mk (fun (W : World) (u u2 : Value) (h1 : NumV W u v) (h2 : NumV W u2 (d * d)) => ref_AddN h1 h2 (few_W HVI.out.1) (few_W HVI.out.2.2))
            clear n7 l7 hd hA9 hc9 hV N9 FX G8 HB hd4 hd5
            go_upto_region 16 with (fail)
            have HB := Aside0.mk (show Below V.heap.size V V.drew from (Below.refl _ _).drew)
            have E5 := Aside0.mk (show V.drew.heap[g7]? = some (.cells #[.bool (decide (v < 0)), .slice A7 (limbs v.natAbs).length c7] 71 (0, 0)) from N7.out)
            refine start_ (n := 6) (S := fun w' => True) (ds := []) #[false, false, false, false, false, false] (by kernel_rfl) rfl rfl trivial (fun hHeld => ?_)
            refine with_tabW rof16.tab rof16.bits (fun HT_ HW_ => ?_)
            refine inv_at [0, 1, 2, 3, 4, 5] (fun a0_ b a w' => ∃ (A87 : Option Addr) (c87 : Nat) (A88 : Option Addr) (c88 : Nat) (m3_ : Value) (m4_ : Value), a = putSel a0_ b [(0, 84, .agg #[.bool (decide (v < 0)), .slice A7 (limbs v.natAbs).length c7]), (1, 85, .agg #[.bool (decide (d < 0)), .slice A9 (limbs d.natAbs).length c9]), (2, 86, .agg #[.bool (decide (d < 0)), .slice A9 (limbs d.natAbs).length c9]), (3, 87, m3_), (4, 88, m4_)] ∧ (b 5 = false → Below V.heap.size V w') ∧ (b 5 = false → w'.heap[g7]? = some (.cells #[.bool (decide (v < 0)), .slice A7 (limbs v.natAbs).length c7] 71 (0, 0))) ∧ (b 5 = true → w'.heap[g7]? = some (.cells #[.bool (decide (v + d * d < 0)), .slice A88 (limbs (v + d * d).natAbs).length c88] 71 (0, 0))) ∧ (b 5 = true → Keep V w' (fun k => k = g7)) ∧ (b 3 = true → Lm w' A87 c87 (limbs (d * d).natAbs)) ∧ (b 4 = true → Lm w' A88 c88 (limbs (v + d * d).natAbs)) ∧ (b 3 = true → (m3_ : Value) = .agg #[.bool (decide (d * d < 0)), .slice A87 (limbs (d * d).natAbs).length c87]) ∧ (b 4 = true → (m4_ : Value) = .agg #[.bool (decide (v + d * d < 0)), .slice A88 (limbs (v + d * d).natAbs).length c88])) HT_.out HW_.out (by kernel_rfl) (by kernel_rfl) ?_ ?_ ?_
            · exact ⟨none, 0, none, 0, .bool false, .bool false, by simp only [putSel, Bool.false_eq_true, if_false], fun _ => HB.out, fun _ => E5.out, fun h_ => absurd h_ (by decide), fun h_ => absurd h_ (by decide), fun h_ => absurd h_ (by decide), fun h_ => absurd h_ (by decide), fun h_ => absurd h_ (by decide), fun h_ => absurd h_ (by decide)⟩
            · skip
              clear E5 HB
              refine steps_cons ?_ ?_
              · rintro b a w' ⟨A87, c87, A88, c88, m3_, m4_, ha, Q_HB, Q_E5, Q_N5, Q_K5, Q_FM, Q_FS, Q_X3_, Q_X4_⟩ hb_ hon hoff
                refine ⟨_, rfl, fun K hK => ?_⟩
                have e7 : a.tmps[7]? = some (.pointer (some ⟨g7, 0, none⟩)) := by rw [ha]; exact (putSel_off rfl).trans rfl
                replace ha := Aside0.mk ha
                have HB := Aside0.mk (Q_HB (hoff 5 (by kernel_rfl)))
                have E5 := Aside0.mk (Q_E5 (hoff 5 (by kernel_rfl)))
                have k0 := blk_cell ((HB.out.block _ (blk_lt N7.out)).trans N7.out) 0
                have k1 := blk_cell ((HB.out.block _ (blk_lt N7.out)).trans N7.out) 1
                refine value_ (w1 := w') (v := .agg #[.bool (decide (v < 0)), .slice A7 (limbs v.natAbs).length c7]) (by rfl) rfl ?_ ?_
                · go_simp
                  (try simp only [i64_w])
                  try rfl
                  try assumption
                  try (unfold wrap64; omega)
                refine hK.out _ _ ⟨A87, c87, A88, c88, m3_, m4_, (by rw [ha.out]; exact putSel_upk 0 hb_ rfl rfl rfl), Q_HB, Q_E5, fun h0_ => absurd ((hoff 5 (by kernel_rfl)).symm.trans h0_) (by decide), fun h0_ => absurd ((hoff 5 (by kernel_rfl)).symm.trans h0_) (by decide), Q_FM, fun h0_ => absurd ((hoff 4 (by kernel_rfl)).symm.trans h0_) (by decide), Q_X3_, fun h0_ => absurd ((hoff 4 (by kernel_rfl)).symm.trans h0_) (by decide)⟩
              refine steps_cons ?_ ?_
              · rintro b a w' ⟨A87, c87, A88, c88, m3_, m4_, ha, Q_HB, Q_E5, Q_N5, Q_K5, Q_FM, Q_FS, Q_X3_, Q_X4_⟩ hb_ hon hoff
                refine ⟨_, rfl, fun K hK => ?_⟩
                have e9 : a.tmps[9]? = some (.pointer (some ⟨g9, 0, none⟩)) := by rw [ha]; exact (putSel_off rfl).trans rfl
                replace ha := Aside0.mk ha
                have HB := Aside0.mk (Q_HB (hoff 5 (by kernel_rfl)))
                have E5 := Aside0.mk (Q_E5 (hoff 5 (by kernel_rfl)))
                have k0 := blk_cell ((HB.out.block _ (blk_lt N9_.out)).trans N9_.out) 0
                have k1 := blk_cell ((HB.out.block _ (blk_lt N9_.out)).trans N9_.out) 1
                refine value_ (w1 := w') (v := .agg #[.bool (decide (d < 0)), .slice A9 (limbs d.natAbs).length c9]) (by rfl) rfl ?_ ?_
                · go_simp
                  (try simp only [i64_w])
                  try rfl
                  try assumption
                  try (unfold wrap64; omega)
                refine hK.out _ _ ⟨A87, c87, A88, c88, m3_, m4_, (by rw [ha.out]; exact putSel_upk 1 hb_ rfl rfl rfl), Q_HB, Q_E5, fun h0_ => absurd ((hoff 5 (by kernel_rfl)).symm.trans h0_) (by decide), fun h0_ => absurd ((hoff 5 (by kernel_rfl)).symm.trans h0_) (by decide), fun h0_ => absurd ((hoff 3 (by kernel_rfl)).symm.trans h0_) (by decide), fun h0_ => absurd ((hoff 4 (by kernel_rfl)).symm.trans h0_) (by decide), fun h0_ => absurd ((hoff 3 (by kernel_rfl)).symm.trans h0_) (by decide), fun h0_ => absurd ((hoff 4 (by kernel_rfl)).symm.trans h0_) (by decide)⟩
              refine steps_cons ?_ ?_
              · rintro b a w' ⟨A87, c87, A88, c88, m3_, m4_, ha, Q_HB, Q_E5, Q_N5, Q_K5, Q_FM, Q_FS, Q_X3_, Q_X4_⟩ hb_ hon hoff
                refine ⟨_, rfl, fun K hK => ?_⟩
                have e9 : a.tmps[9]? = some (.pointer (some ⟨g9, 0, none⟩)) := by rw [ha]; exact (putSel_off rfl).trans rfl
                replace ha := Aside0.mk ha
                have HB := Aside0.mk (Q_HB (hoff 5 (by kernel_rfl)))
                have E5 := Aside0.mk (Q_E5 (hoff 5 (by kernel_rfl)))
                have k0 := blk_cell ((HB.out.block _ (blk_lt N9_.out)).trans N9_.out) 0
                have k1 := blk_cell ((HB.out.block _ (blk_lt N9_.out)).trans N9_.out) 1
                refine value_ (w1 := w') (v := .agg #[.bool (decide (d < 0)), .slice A9 (limbs d.natAbs).length c9]) (by rfl) rfl ?_ ?_
                · go_simp
                  (try simp only [i64_w])
                  try rfl
                  try assumption
                  try (unfold wrap64; omega)
                refine hK.out _ _ ⟨A87, c87, A88, c88, m3_, m4_, (by rw [ha.out]; exact putSel_upk 2 hb_ rfl rfl rfl), Q_HB, Q_E5, fun h0_ => absurd ((hoff 5 (by kernel_rfl)).symm.trans h0_) (by decide), fun h0_ => absurd ((hoff 5 (by kernel_rfl)).symm.trans h0_) (by decide), fun h0_ => absurd ((hoff 3 (by kernel_rfl)).symm.trans h0_) (by decide), fun h0_ => absurd ((hoff 4 (by kernel_rfl)).symm.trans h0_) (by decide), fun h0_ => absurd ((hoff 3 (by kernel_rfl)).symm.trans h0_) (by decide), fun h0_ => absurd ((hoff 4 (by kernel_rfl)).symm.trans h0_) (by decide)⟩
              refine steps_cons ?_ ?_
              · rintro b a w' ⟨A87, c87, A88, c88, m3_, m4_, ha, Q_HB, Q_E5, Q_N5, Q_K5, Q_FM, Q_FS, Q_X3_, Q_X4_⟩ hb_ hon hoff
                refine ⟨_, rfl, fun K hK => ?_⟩
                have e85 : a.tmps[85]? = some (.agg #[.bool (decide (d < 0)), .slice A9 (limbs d.natAbs).length c9]) := by rw [ha]; exact putSel_on (e := (1, 85, .agg #[.bool (decide (d < 0)), .slice A9 (limbs d.natAbs).length c9])) 1 rfl rfl (hon 1 (by kernel_rfl)) rfl
                have e86 : a.tmps[86]? = some (.agg #[.bool (decide (d < 0)), .slice A9 (limbs d.natAbs).length c9]) := by rw [ha]; exact putSel_on (e := (2, 86, .agg #[.bool (decide (d < 0)), .slice A9 (limbs d.natAbs).length c9])) 2 rfl rfl (hon 2 (by kernel_rfl)) rfl
                replace ha := Aside0.mk ha
                have HB := Aside0.mk (Q_HB (hoff 5 (by kernel_rfl)))
                have E5 := Aside0.mk (Q_E5 (hoff 5 (by kernel_rfl)))
                refine goes_ Try.func40 (by kernel_rfl) rfl #[.agg #[.bool (decide (d < 0)), .slice A9 (limbs d.natAbs).length c9], .agg #[.bool (decide (d < 0)), .slice A9 (limbs d.natAbs).length c9]] (by rfl) rfl rfl (by first | (simp only [List.map_toArray, List.map_cons, List.map_nil, Act.eval, Array.getD_eq_getD_getElem?, Option.getD_some, e85, e86]; done) | (simp only [List.map_toArray, List.map_cons, List.map_nil, Act.eval, Array.getD_eq_getD_getElem?, Option.getD_some, e85, e86]; rfl)) ?_
                with_reducible refine (HMU.out _ _ _ (NumV.of (L9.out.below HB.out)) (NumV.of (L9.out.below HB.out))).mono ?_
                rintro e w1 ⟨u1, rfl, ⟨A1_, c1_, rfl, h1⟩, hb⟩
                refine ⟨_, rfl, ?_⟩
                refine hK.out _ _ ⟨A1_, c1_, A88, c88, (.agg #[.bool (decide (d * d < 0)), .slice A1_ (limbs (d * d).natAbs).length c1_]), m4_, (by rw [ha.out]; exact putSel_upk 3 hb_ rfl rfl rfl), fun h5 => hop HB.out hb, fun h5 => (hb.block _ (blk_lt (Q_E5 h5))).trans (Q_E5 h5), fun h0_ => absurd ((hoff 5 (by kernel_rfl)).symm.trans h0_) (by decide), fun h0_ => absurd ((hoff 5 (by kernel_rfl)).symm.trans h0_) (by decide), fun _ => h1, fun h0_ => absurd ((hoff 4 (by kernel_rfl)).symm.trans h0_) (by decide), fun _ => rfl, fun h0_ => absurd ((hoff 4 (by kernel_rfl)).symm.trans h0_) (by decide)⟩
              refine steps_cons ?_ ?_
              · rintro b a w' ⟨A87, c87, A88, c88, m3_, m4_, ha, Q_HB, Q_E5, Q_N5, Q_K5, Q_FM, Q_FS, Q_X3_, Q_X4_⟩ hb_ hon hoff
                refine ⟨_, rfl, fun K hK => ?_⟩
                have e84 : a.tmps[84]? = some (.agg #[.bool (decide (v < 0)), .slice A7 (limbs v.natAbs).length c7]) := by rw [ha]; exact putSel_on (e := (0, 84, .agg #[.bool (decide (v < 0)), .slice A7 (limbs v.natAbs).length c7])) 0 rfl rfl (hon 0 (by kernel_rfl)) rfl
                have e87 : a.tmps[87]? = some (m3_) := by rw [ha]; exact putSel_on (e := (3, 87, m3_)) 3 rfl rfl (hon 3 (by kernel_rfl)) rfl
                rw [Q_X3_ (hon 3 (by kernel_rfl))] at e87
                replace ha := Aside0.mk ha
                have HB := Aside0.mk (Q_HB (hoff 5 (by kernel_rfl)))
                have E5 := Aside0.mk (Q_E5 (hoff 5 (by kernel_rfl)))
                have FM := Aside0.mk (Q_FM (hon 3 (by kernel_rfl)))
                refine goes_ Try.func39 (by kernel_rfl) rfl #[.agg #[.bool (decide (v < 0)), .slice A7 (limbs v.natAbs).length c7], .agg #[.bool (decide (d * d < 0)), .slice A87 (limbs (d * d).natAbs).length c87]] (by rfl) rfl rfl (by first | (simp only [List.map_toArray, List.map_cons, List.map_nil, Act.eval, Array.getD_eq_getD_getElem?, Option.getD_some, e84, e87]; done) | (simp only [List.map_toArray, List.map_cons, List.map_nil, Act.eval, Array.getD_eq_getD_getElem?, Option.getD_some, e84, e87]; rfl)) ?_
                with_reducible refine (HAD.out _ _ _ (NumV.of (L7.out.below HB.out)) (NumV.of FM.out)).mono ?_
                rintro e w1 ⟨u1, rfl, ⟨A1_, c1_, rfl, h1⟩, hb⟩
                refine ⟨_, rfl, ?_⟩
                refine hK.out _ _ ⟨A87, c87, A1_, c1_, m3_, (.agg #[.bool (decide (v + d * d < 0)), .slice A1_ (limbs (v + d * d).natAbs).length c1_]), (by rw [ha.out]; exact putSel_upk 4 hb_ rfl rfl rfl), fun h5 => hop HB.out hb, fun h5 => (hb.block _ (blk_lt (Q_E5 h5))).trans (Q_E5 h5), fun h0_ => absurd ((hoff 5 (by kernel_rfl)).symm.trans h0_) (by decide), fun h0_ => absurd ((hoff 5 (by kernel_rfl)).symm.trans h0_) (by decide), fun h3 => (Q_FM h3).below hb, fun _ => h1, Q_X3_, fun _ => rfl⟩
              refine steps_cons ?_ ?_
              · rintro b a w' ⟨A87, c87, A88, c88, m3_, m4_, ha, Q_HB, Q_E5, Q_N5, Q_K5, Q_FM, Q_FS, Q_X3_, Q_X4_⟩ hb_ hon hoff
                refine ⟨_, rfl, fun K hK => ?_⟩
                have e7 : a.tmps[7]? = some (.pointer (some ⟨g7, 0, none⟩)) := by rw [ha]; exact (putSel_off rfl).trans rfl
                have e88 : a.tmps[88]? = some (m4_) := by rw [ha]; exact putSel_on (e := (4, 88, m4_)) 4 rfl rfl (hon 4 (by kernel_rfl)) rfl
                rw [Q_X4_ (hon 4 (by kernel_rfl))] at e88
                replace ha := Aside0.mk ha
                have HB := Aside0.mk (Q_HB hb_)
                have E5 := Aside0.mk (Q_E5 hb_)
                have FM := Aside0.mk (Q_FM (hon 3 (by kernel_rfl)))
                have FS := Aside0.mk (Q_FS (hon 4 (by kernel_rfl)))
                have hk : Keep w' ((w'.setCell ⟨g7, 0, none⟩ (.bool (decide (v + d * d < 0)))).setCell ⟨g7, 1, none⟩ (.slice A88 (limbs (v + d * d).natAbs).length c88)) (fun k => k = g7) := (((Keep.refl w' (fun k => k = g7)).set ⟨g7, 0, none⟩ (.bool (decide (v + d * d < 0))) (.inl rfl)).set ⟨g7, 1, none⟩ (.slice A88 (limbs (v + d * d).natAbs).length c88) (.inl rfl))
                have y0 := blk_cell E5.out 0
                have y1 := blk_cell E5.out 1
                have z0 := blk_frozen E5.out 0
                have z1 := blk_frozen E5.out 1
                refine skip_ (w1 := ((w'.setCell ⟨g7, 0, none⟩ (.bool (decide (v + d * d < 0)))).setCell ⟨g7, 1, none⟩ (.slice A88 (limbs (v + d * d).natAbs).length c88))) (by rfl) rfl ?_ ?_
                · go_simp
                  try rfl
                  try assumption
                  try (unfold wrap64; omega)
                refine hK.out _ _ ⟨A87, c87, A88, c88, m3_, m4_, (by rw [ha.out]; exact putSel_none (v := undef) rfl), fun h0_ => absurd ((up_self b 5).symm.trans h0_) (by decide), fun h0_ => absurd ((up_self b 5).symm.trans h0_) (by decide), fun _ => (blk_put (blk_put E5.out 0 (.bool (decide (v + d * d < 0))) rfl) 1 (.slice A88 (limbs (v + d * d).natAbs).length c88) rfl), fun _ => (Keep.of_below HB.out).trans hk (fun _ _ (q : False) => q.elim) (fun _ _ q => q), fun h3 => (Q_FM h3).num E5.out num_cells hk, fun h4 => (Q_FS h4).num E5.out num_cells hk, Q_X3_, Q_X4_⟩
              exact steps_nil
            · rintro b a w' hall ⟨A87, c87, A88, c88, m3_, m4_, ha, Q_HB, Q_E5, Q_N5, Q_K5, Q_FM, Q_FS, Q_X3_, Q_X4_⟩
              clear E5 HB
              have hb0_ := hall 0 (by kernel_rfl)
              have hb1_ := hall 1 (by kernel_rfl)
              have hb2_ := hall 2 (by kernel_rfl)
              have hb3_ := hall 3 (by kernel_rfl)
              have hb4_ := hall 4 (by kernel_rfl)
              have hb5_ := hall 5 (by kernel_rfl)
              subst ha
              obtain rfl := Q_X3_ hb3_
              obtain rfl := Q_X4_ hb4_
              simp only [putSel, hb0_, hb1_, hb2_, hb3_, hb4_, hb5_, if_true, Act.put, List.setIfInBounds_toArray, List.set_cons_zero, List.set_cons_succ]
              clear Q_HB
              clear Q_E5
              have N5 := Aside0.mk (Q_N5 hb5_)
              clear Q_N5
              have K5 := Aside0.mk (Q_K5 hb5_)
              clear Q_K5
              have FM := Aside0.mk (Q_FM hb3_)
              clear Q_FM
              have FS := Aside0.mk (Q_FS hb4_)
              clear Q_FS
              clear hall hb0_ hb1_ hb2_ hb3_ hb4_ hb5_
              go_wp2_with (fail)
              go_roundg k_
              case rel =>
                refine ⟨i + 1, by first | (rw [HWI1.out]; done) | go_num, by omega, ⟨?_⟩, ⟨(K5.out.block _ (blk_lt T6_.out) (by omega)).trans T6_.out⟩, ⟨(K5.out.block _ (blk_lt T2_.out) (by omega)).trans T2_.out⟩, ⟨BW_.out.trans (K5.out.below BW_.out.size (fun k hk => by omega))⟩⟩
                rw [HST.out]
                exact ⟨A88, c88, N5.out, FS.out⟩
              case measure => omega
end Go.Proofs.Ythnihjfdmkfkiaa.Q

namespace Go.Proofs.Ythnihjfdmkfkiaa.Q
open Go.RowKit Go.Proofs.YthnihjfdmkfkiaaW.PrintWords Go.Proofs.YthnihjfdmkfkiaaW.PrintLast Go.Proofs.YthnihjfdmkfkiaaW.PrintMore Go.Proofs.YthnihjfdmkfkiaaV
set_option linter.unusedVariables false
set_option linter.unusedSimpArgs false

theorem some_not {l : List Int} (h : ¬ ∀ x ∈ l, smp x) : ∃ x, x ∈ l ∧ ¬ decide (smp x) = true := by
  apply Classical.byContradiction
  intro hn
  apply h
  intro x hx
  apply Classical.byContradiction
  intro hx2
  exact hn ⟨x, hx, by simpa using hx2⟩
set_option maxHeartbeats 1600000 in
theorem refOf_not {w : World} {A : Option Addr} {c : Nat} {l : List Int} (h : Kd.C (Kd.int .i64) w A l.length l) (hl : l.length ≤ 1048576) (hs0 : ¬ ∀ x ∈ l, smp x) :
    Calls Try.prog 13 #[.slice A l.length c] w fun e w' => e = .returned (.tuple #[.agg #[.int .i64 0, .int .i64 0, .int .u64 0, .int .i64 0, .int .i64 0, .int .i64 0, .int .i64 0, .int .i64 0], .int .i64 93]) ∧ Below w.heap.size w w' := by
  obtain ⟨W, hW⟩ : ∃ W, W = w.alloc (.cells #[.int .i64 0, .int .i64 0, .int .u64 0, .int .i64 0, .int .i64 0, .int .i64 0, .int .i64 0, .int .i64 0] 27 (0, 0)) := ⟨_, rfl⟩
  have n0 : W.heap[w.heap.size]? = some (.cells #[.int .i64 0, .int .i64 0, .int .u64 0, .int .i64 0, .int .i64 0, .int .i64 0, .int .i64 0, .int .i64 0] 27 (0, 0)) := by rw [hW]; exact heap_alloc_new _ _
  have nb : Below w.heap.size w W := by rw [hW]; exact below_alloc (Below.refl _ _) _
  have HFI := Aside0.mk (ref_fine (c := c) (Kd.C_below h nb) hl false (by rw [eq_comm, List.all_eq_false]; exact some_not hs0))
  have HW := Aside0.mk hW
  have NB := Aside0.mk nb
  have N0 := Aside0.mk n0
  clear hW n0 nb h hl
  go_enter Try.func13, Try.ntmps13
  go_upto_region 1 with (fail)
  rw [← HW.out]
  have z0 := blk_cell N0.out 0
  have y0 := blk_frozen N0.out 0
  have z1 := blk_cell N0.out 1
  have y1 := blk_frozen N0.out 1
  have z2 := blk_cell N0.out 2
  have y2 := blk_frozen N0.out 2
  have z3 := blk_cell N0.out 3
  have y3 := blk_frozen N0.out 3
  have z4 := blk_cell N0.out 4
  have y4 := blk_frozen N0.out 4
  have z5 := blk_cell N0.out 5
  have y5 := blk_frozen N0.out 5
  have z6 := blk_cell N0.out 6
  have y6 := blk_frozen N0.out 6
  have z7 := blk_cell N0.out 7
  have y7 := blk_frozen N0.out 7
  go_wp2_with (first
    | (go_at_call 33; (with_reducible refine (HFI.out).mono ?_); rintro e w1 ⟨rfl, rfl⟩))
  have hf := (blk_put (blk_put (blk_put (blk_put (blk_put (blk_put (blk_put (blk_put N0.out 0 (.int .i64 0) rfl) 1 (.int .i64 0) rfl) 2 (.int .u64 0) rfl) 3 (.int .i64 0) rfl) 4 (.int .i64 0) rfl) 5 (.int .i64 0) rfl) 6 (.int .i64 0) rfl) 7 (.int .i64 0) rfl)
  refine bodyPost_ret (results_ct rfl _ _ w.heap.size 27 _ (0, 0) _ rfl hf Try.underlying27 rfl (by kernel_rfl)) rfl ?_
  exact ⟨rfl, ((((((((NB.out.setCell (Nat.le_refl _) _).setCell (Nat.le_refl _) _).setCell (Nat.le_refl _) _).setCell (Nat.le_refl _) _).setCell (Nat.le_refl _) _).setCell (Nat.le_refl _) _).setCell (Nat.le_refl _) _).setCell (Nat.le_refl _) _)⟩
set_option maxHeartbeats 1600000 in
theorem refOf_nil {w : World} {A : Option Addr} {c : Nat} {l : List Int} (h : Kd.C (Kd.int .i64) w A l.length l) (hl : l.length ≤ 1048576) (hs : ∀ x ∈ l, smp x) (h0 : l.length = 0) :
    Calls Try.prog 13 #[.slice A l.length c] w fun e w' => e = .returned (.tuple #[.agg #[.int .i64 0, .int .i64 0, .int .u64 0, .int .i64 0, .int .i64 0, .int .i64 0, .int .i64 0, .int .i64 0], .int .i64 90]) ∧ Below w.heap.size w w' := by
  obtain ⟨W, hW⟩ : ∃ W, W = w.alloc (.cells #[.int .i64 0, .int .i64 0, .int .u64 0, .int .i64 0, .int .i64 0, .int .i64 0, .int .i64 0, .int .i64 0] 27 (0, 0)) := ⟨_, rfl⟩
  have n0 : W.heap[w.heap.size]? = some (.cells #[.int .i64 0, .int .i64 0, .int .u64 0, .int .i64 0, .int .i64 0, .int .i64 0, .int .i64 0, .int .i64 0] 27 (0, 0)) := by rw [hW]; exact heap_alloc_new _ _
  have nb : Below w.heap.size w W := by rw [hW]; exact below_alloc (Below.refl _ _) _
  have HFI := Aside0.mk (ref_fine (c := c) (Kd.C_below h nb) hl true (by symm; rw [List.all_eq_true]; intro x hx; exact decide_eq_true (hs x hx)))
  have HW := Aside0.mk hW
  have NB := Aside0.mk nb
  have N0 := Aside0.mk n0
  have d0 : ((l.length : Int) == 0) = true := beq_iff_eq.mpr (by omega)
  clear h0
  clear hW n0 nb h hl
  go_enter Try.func13, Try.ntmps13
  go_upto_region 1 with (fail)
  rw [← HW.out]
  have z0 := blk_cell N0.out 0
  have y0 := blk_frozen N0.out 0
  have z1 := blk_cell N0.out 1
  have y1 := blk_frozen N0.out 1
  have z2 := blk_cell N0.out 2
  have y2 := blk_frozen N0.out 2
  have z3 := blk_cell N0.out 3
  have y3 := blk_frozen N0.out 3
  have z4 := blk_cell N0.out 4
  have y4 := blk_frozen N0.out 4
  have z5 := blk_cell N0.out 5
  have y5 := blk_frozen N0.out 5
  have z6 := blk_cell N0.out 6
  have y6 := blk_frozen N0.out 6
  have z7 := blk_cell N0.out 7
  have y7 := blk_frozen N0.out 7
  go_wp2_with (first
    | (go_at_call 33; (with_reducible refine (HFI.out).mono ?_); rintro e w1 ⟨rfl, rfl⟩))
  have hf := (blk_put (blk_put (blk_put (blk_put (blk_put (blk_put (blk_put (blk_put N0.out 0 (.int .i64 0) rfl) 1 (.int .i64 0) rfl) 2 (.int .u64 0) rfl) 3 (.int .i64 0) rfl) 4 (.int .i64 0) rfl) 5 (.int .i64 0) rfl) 6 (.int .i64 0) rfl) 7 (.int .i64 0) rfl)
  refine bodyPost_ret (results_ct rfl _ _ w.heap.size 27 _ (0, 0) _ rfl hf Try.underlying27 rfl (by kernel_rfl)) rfl ?_
  exact ⟨rfl, ((((((((NB.out.setCell (Nat.le_refl _) _).setCell (Nat.le_refl _) _).setCell (Nat.le_refl _) _).setCell (Nat.le_refl _) _).setCell (Nat.le_refl _) _).setCell (Nat.le_refl _) _).setCell (Nat.le_refl _) _).setCell (Nat.le_refl _) _)⟩
end Go.Proofs.Ythnihjfdmkfkiaa.Q
