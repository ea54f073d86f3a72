import Derived.Test.YtadmigijbfdboaaAMay
import Derived.Test.YtadmigijbfdboaaBNegN
import Derived.Test.YtadmigijbfdboaaWInvWords
namespace Go.Proofs.Ytadmigijbfdboaa.Q
open Go.RowKit Go.Proofs.YtadmigijbfdboaaW.PrintWords Go.Proofs.YtadmigijbfdboaaW.PrintLast Go.Proofs.YtadmigijbfdboaaW.PrintMore Go.Proofs.YtadmigijbfdboaaV
set_option linter.unusedVariables false
set_option linter.unusedSimpArgs false


/-- A row of limbs past a store into a block that holds no limbs. -/
theorem Lm.num {w w' : World} {A : Option Addr} {c : Nat} {l : List Int} {g : Nat} {cs0 : Array Value} {t : TypeId} {fr : Nat × Nat} (h : Lm w A c l) (hz : w.heap[g]? = some (.cells cs0 t fr)) (hn : ∀ (j : Nat) (n : Int), cs0[j]? ≠ some (Value.int .u32 n)) (hk : Keep w w' (fun k => k = g)) : Lm w' A c l := by
  refine ⟨?_, h.cap, h.ok⟩
  obtain ⟨e1, e2, h3⟩ := h.row
  refine ⟨e1, e2, fun hp => ?_⟩
  obtain ⟨ad, ha, hc⟩ := h3 hp
  refine ⟨ad, ha, fun i x hx => ?_⟩
  obtain ⟨cs, hs, hK, hj⟩ := hc i x hx
  refine ⟨cs, hs, hK, fun j u hu => ?_⟩
  have hq := hj j u hu
  have hu2 : u = .int .u32 x := by
    have hK2 : cs = [Value.int .u32 x] := hK
    subst hK2
    cases j with
    | zero => simpa using hu.symm
    | succ j => simp at hu
  have hne : ¬ (ad.add (i * (Kd.int .u32).sz + j)).block = g := by
    intro e
    generalize ad.add (i * (Kd.int .u32).sz + j) = a at hq e
    unfold World.cell? at hq
    rw [e, hz] at hq
    subst hu2
    simp only at hq
    split at hq
    · cases hq
    · exact hn _ _ hq
  have hlt := cell_lt hq
  rw [cell_same (hk.block _ hlt hne)]
  exact hq
theorem num_cells {p : Bool} {A : Option Addr} {n c : Nat} (j : Nat) (x : Int) : (#[.bool p, .slice A n c] : Array Value)[j]? ≠ some (Value.int .u32 x) := by
  match j with
  | 0 => simp
  | 1 => simp
  | j + 2 => simp
theorem wide_cells {a b : Int} (j : Nat) (x : Int) : (#[.int .i64 a, .int .u64 b] : Array Value)[j]? ≠ some (Value.int .u32 x) := by
  match j with
  | 0 => simp
  | 1 => simp
  | j + 2 => simp
/-- A number that lies in a block. -/
def NumAt (w : World) (g : Nat) (x : Int) : Prop := ∃ A c, w.heap[g]? = some (.cells #[.bool (decide (x < 0)), .slice A (limbs x.natAbs).length c] 81 (0, 0)) ∧ Lm w A c (limbs x.natAbs)
theorem NumV.of {w : World} {A : Option Addr} {c : Nat} {x : Int} (h : Lm w A c (limbs x.natAbs)) : NumV w (.agg #[.bool (decide (x < 0)), .slice A (limbs x.natAbs).length c]) x := ⟨A, c, rfl, h⟩
theorem few_W {x : Int} (h : inW x) : fewL x := few_of (by
  unfold inW at h
  have e : (340282366920938463463374607431768211456 : Nat) ≤ 65536 ^ 64 := by decide
  omega)
theorem new4 (w : World) (a b c d : Obj) : ((((w.alloc a).alloc b).alloc c).alloc d).heap[w.heap.size]? = some a ∧ ((((w.alloc a).alloc b).alloc c).alloc d).heap[w.heap.size + 1]? = some b ∧ ((((w.alloc a).alloc b).alloc c).alloc d).heap[w.heap.size + 2]? = some c ∧ ((((w.alloc a).alloc b).alloc c).alloc d).heap[w.heap.size + 3]? = some d ∧ Below w.heap.size w ((((w.alloc a).alloc b).alloc c).alloc d) ∧ ((((w.alloc a).alloc b).alloc c).alloc d).heap.size = w.heap.size + 4 := by
  obtain ⟨h0, h1, h2, hb, hs⟩ := new3 w a b c
  refine ⟨blk_alloc h0 _, blk_alloc h1 _, blk_alloc h2 _, ?_, hb.alloc hb.size _, by simp⟩
  have := heap_alloc_new (((w.alloc a).alloc b).alloc c) d
  rw [hs] at this
  exact this
def bey1.T : Bool × List (List Nat × List Nat) := (true, [([], []), ([0], [0]), ([], []), ([2, 1], [2]), ([], []), ([], []), ([4, 1, 3, 0, 1, 4, 5], [1, 4]), ([5, 3, 6, 0, 1, 2, 3, 4, 5, 6], [3, 5])])
def bey1.B : List Nat := [0, 1, 0, 7, 0, 0, 63, 127]
theorem bey1.tab : rtab .any (opsOf Try.f13 1) = bey1.T := by kernel_rfl
theorem bey1.bits : waitsOk bey1.T.2 bey1.B = true := by kernel_rfl
def bey3.T : Bool × List (List Nat × List Nat) := (true, [([], []), ([0], [0]), ([], []), ([], []), ([3, 1], [3]), ([2, 4, 4], [2, 4]), ([1, 5, 5], [1, 5]), ([6], [6]), ([7, 6, 0, 1, 2, 3, 4, 5, 6, 7], [7])])
def bey3.B : List Nat := [0, 1, 0, 0, 11, 31, 63, 127, 255]
theorem bey3.tab : rtab .any (opsOf Try.f13 3) = bey3.T := by kernel_rfl
theorem bey3.bits : waitsOk bey3.T.2 bey3.B = true := by kernel_rfl
def bey4.T : Bool × List (List Nat × List Nat) := (true, [([], []), ([0], [0]), ([], []), ([], []), ([2, 3, 1], [2, 3]), ([1, 4, 4], [1, 4]), ([5], [5]), ([6, 5, 0, 1, 2, 3, 4, 5, 6], [6])])
def bey4.B : List Nat := [0, 1, 0, 0, 15, 31, 63, 127]
theorem bey4.tab : rtab .any (opsOf Try.f13 4) = bey4.T := by kernel_rfl
theorem bey4.bits : waitsOk bey4.T.2 bey4.B = true := by kernel_rfl
set_option maxHeartbeats 6400000 in
set_option maxRecDepth 4000 in
theorem ref_Beyond (w : World) (r : Rul) (v t sl : Int) (hv : inW v) (ht : inW t) (hs : inW sl) :
    Calls Try.prog 13 #[.agg (ruleA r), WV v, WV t, WV sl] w fun e w' => e = .returned (.bool (beyondP r v t sl)) ∧ Below w.heap.size w w' := by
  have HFv := Aside0.mk (fun W => ref_From (x := v) W hv)
  have HFt := Aside0.mk (fun W => ref_From (x := t) W ht)
  have HFs := Aside0.mk (fun W => ref_From (x := sl) W hs)
  have ft := Aside0.mk (few_W ht)
  have fs := Aside0.mk (few_W hs)
  have fn := Aside0.mk (show fewL (-sl) from few_of (by have e : (340282366920938463463374607431768211456 : Nat) ≤ 65536 ^ 64 := by decide
                                                        have := hs; unfold inW at this; omega))
  unfold WV at HFv HFt HFs ⊢
  obtain ⟨va, hva⟩ : ∃ a, a = hiW v := ⟨_, rfl⟩
  obtain ⟨vb, hvb⟩ : ∃ a, a = loW v := ⟨_, rfl⟩
  obtain ⟨ta, hta⟩ : ∃ a, a = hiW t := ⟨_, rfl⟩
  obtain ⟨tb, htb⟩ : ∃ a, a = loW t := ⟨_, rfl⟩
  obtain ⟨sa, hsa⟩ : ∃ a, a = hiW sl := ⟨_, rfl⟩
  obtain ⟨sb, hsb⟩ : ∃ a, a = loW sl := ⟨_, rfl⟩
  rw [← hva, ← hvb] at HFv ⊢
  rw [← hta, ← htb] at HFt ⊢
  rw [← hsa, ← hsb] at HFs ⊢
  clear hva hvb hta htb hsa hsb
  obtain ⟨W, hW⟩ : ∃ W, W = (((w.alloc (.cells (ruleA r) 26 (0, 0))).alloc (.cells #[.int .i64 va, .int .u64 vb] 24 (0, 0))).alloc (.cells #[.int .i64 ta, .int .u64 tb] 24 (0, 0))).alloc (.cells #[.int .i64 sa, .int .u64 sb] 24 (0, 0)) := ⟨_, rfl⟩
  obtain ⟨n0, n1, n2, n3, nb, ns⟩ := new4 w (.cells (ruleA r) 26 (0, 0)) (.cells #[.int .i64 va, .int .u64 vb] 24 (0, 0)) (.cells #[.int .i64 ta, .int .u64 tb] 24 (0, 0)) (.cells #[.int .i64 sa, .int .u64 sb] 24 (0, 0))
  rw [← hW] at n0 n1 n2 n3 nb
  obtain ⟨ab, hab⟩ : ∃ b, b = r.above := ⟨_, rfl⟩
  have HP := Aside0.mk (show beyondP r v t sl = if ab then decide (0 ≤ sgn (v - (t + -sl))) else decide (sgn (v - (t + sl)) ≤ 0) by
    unfold beyondP
    rw [hab]
    split
    · rw [decide_eq_decide, sgn_nonneg]; omega
    · rw [decide_eq_decide, sgn_nonpos]; omega)
  have x1 : W.cell? ⟨w.heap.size, 1, none⟩ = some (.bool ab) := by rw [hab]; exact blk_cell n0 1
  have x2 : W.drew.cell? ⟨w.heap.size + 2, 0, none⟩ = some (.int .i64 ta) := blk_cell n2 0
  have x3 : W.drew.cell? ⟨w.heap.size + 2, 1, none⟩ = some (.int .u64 tb) := blk_cell n2 1
  have x4 : W.drew.cell? ⟨w.heap.size + 3, 0, none⟩ = some (.int .i64 sa) := blk_cell n3 0
  have x5 : W.drew.cell? ⟨w.heap.size + 3, 1, none⟩ = some (.int .u64 sb) := blk_cell n3 1
  have HW := Aside0.mk hW
  have N0 := Aside0.mk n0
  have N1 := Aside0.mk n1
  have N2 := Aside0.mk n2
  have N3 := Aside0.mk n3
  have NB := Aside0.mk nb
  unfold ruleA at HW N0 ⊢
  clear hW n0 n1 n2 n3 nb ns
  go_enter Try.func13, Try.ntmps13
  go_upto_region 1 with (fail)
  rw [← HW.out]
  go_cut [9, 10] from 11 to 15 (fun v9 v10 wx => ∃ g9 g10, v9 = .pointer (some ⟨g9, 0, none⟩) ∧ v10 = .pointer (some ⟨g10, 0, none⟩) ∧ Aside0 (NumAt wx g9 t) ∧ Aside0 (NumAt wx g10 sl) ∧ Aside0 (Below W.heap.size W wx))
  case first =>
    have HB := Aside0.mk (show Below W.heap.size W W.drew from (Below.refl _ _).drew)
    have D4_5 : True := trivial
    refine start_ (n := 8) (S := fun w' => True) (ds := []) #[false, false, false, false, false, false, false, false] (by kernel_rfl) rfl rfl trivial (fun hHeld => ?_)
    refine with_tabW bey1.tab bey1.bits (fun HT_ HW_ => ?_)
    refine inv_at [0, 1, 2, 3, 4, 5, 6, 7] (fun a0_ b a w' => ∃ (A12 : Option Addr) (c12 : Nat) (A14 : Option Addr) (c14 : Nat) (g9 : Nat) (g10 : Nat) (m1_ : Value) (m3_ : Value) (m4_ : Value) (m5_ : Value), a = putSel a0_ b [(0, 11, .agg #[.int .i64 ta, .int .u64 tb]), (1, 12, m1_), (2, 13, .agg #[.int .i64 sa, .int .u64 sb]), (3, 14, m3_), (4, 9, m4_), (5, 10, m5_)] ∧ (Below W.heap.size W w') ∧ (b 1 = true → Lm w' A12 c12 (limbs t.natAbs)) ∧ (b 3 = true → Lm w' A14 c14 (limbs sl.natAbs)) ∧ (b 4 = true → W.heap.size ≤ g9) ∧ (b 4 = true → g9 < w'.heap.size) ∧ (b 4 = true → b 6 = false → w'.heap[g9]? = some (.cells #[.bool false, .slice none 0 0] 81 (0, 0))) ∧ (b 4 = true → b 6 = true → w'.heap[g9]? = some (.cells #[.bool (decide (t < 0)), .slice A12 (limbs t.natAbs).length c12] 81 (0, 0))) ∧ (b 5 = true → W.heap.size ≤ g10) ∧ (b 5 = true → g10 < w'.heap.size) ∧ (b 5 = true → b 7 = false → w'.heap[g10]? = some (.cells #[.bool false, .slice none 0 0] 81 (0, 0))) ∧ (b 5 = true → b 7 = true → w'.heap[g10]? = some (.cells #[.bool (decide (sl < 0)), .slice A14 (limbs sl.natAbs).length c14] 81 (0, 0))) ∧ ((b 4 = true → b 5 = true → g9 ≠ g10)) ∧ (b 1 = true → (m1_ : Value) = .agg #[.bool (decide (t < 0)), .slice A12 (limbs t.natAbs).length c12]) ∧ (b 3 = true → (m3_ : Value) = .agg #[.bool (decide (sl < 0)), .slice A14 (limbs sl.natAbs).length c14]) ∧ (b 4 = true → (m4_ : Value) = .pointer (some ⟨g9, 0, none⟩)) ∧ (b 5 = true → (m5_ : Value) = .pointer (some ⟨g10, 0, none⟩))) HT_.out HW_.out (by kernel_rfl) (by kernel_rfl) ?_ ?_ ?_
    · exact ⟨none, 0, none, 0, 0, 0, .bool false, .bool false, .bool false, .bool false, by simp only [putSel, Bool.false_eq_true, if_false], HB.out, fun h_ => absurd h_ (by decide), fun h_ => absurd h_ (by decide), fun h_ => absurd h_ (by decide), fun h_ => absurd h_ (by decide), fun h_ => absurd h_ (by decide), fun h_ => absurd h_ (by decide), fun h_ => absurd h_ (by decide), fun h_ => absurd h_ (by decide), fun h_ => absurd h_ (by decide), fun h_ => absurd h_ (by decide), fun h_ => absurd h_ (by decide), fun h_ => absurd h_ (by decide), fun h_ => absurd h_ (by decide), fun h_ => absurd h_ (by decide), fun h_ => absurd h_ (by decide)⟩
    · skip
      clear D4_5 HB
      refine steps_cons ?_ ?_
      · rintro b a w' ⟨A12, c12, A14, c14, g9, g10, m1_, m3_, m4_, m5_, ha, Q_HB, Q_FT, Q_FS, Q_G4, Q_L4, Q_Z4, Q_N6, Q_G5, Q_L5, Q_Z5, Q_N7, Q_D4_5, Q_X1_, Q_X3_, Q_X4_, Q_X5_⟩ hb_ hon hoff
        refine ⟨_, rfl, fun K hK => ?_⟩
        have e6 : a.tmps[6]? = some (.pointer (some ⟨w.heap.size + 2, 0, none⟩)) := by rw [ha]; exact (putSel_off rfl).trans rfl
        replace ha := Aside0.mk ha
        have HB := Aside0.mk Q_HB
        have D4_5 := Aside0.mk Q_D4_5
        have k0 := blk_cell ((HB.out.block _ (blk_lt N2.out)).trans N2.out) 0
        have k1 := blk_cell ((HB.out.block _ (blk_lt N2.out)).trans N2.out) 1
        refine value_ (w1 := w') (v := .agg #[.int .i64 ta, .int .u64 tb]) (by rfl) rfl ?_ ?_
        · go_simp
          (try simp only [i64_w])
          try rfl
        refine hK.out _ _ ⟨A12, c12, A14, c14, g9, g10, m1_, m3_, m4_, m5_, (by rw [ha.out]; exact putSel_upk 0 hb_ rfl rfl rfl), Q_HB, fun h0_ => absurd ((hoff 1 (by kernel_rfl)).symm.trans h0_) (by decide), fun h0_ => absurd ((hoff 3 (by kernel_rfl)).symm.trans h0_) (by decide), Q_G4, Q_L4, Q_Z4, fun _ h1_ => absurd ((hoff 6 (by kernel_rfl)).symm.trans h1_) (by decide), Q_G5, Q_L5, Q_Z5, fun _ h1_ => absurd ((hoff 7 (by kernel_rfl)).symm.trans h1_) (by decide), Q_D4_5, fun h0_ => absurd ((hoff 1 (by kernel_rfl)).symm.trans h0_) (by decide), fun h0_ => absurd ((hoff 3 (by kernel_rfl)).symm.trans h0_) (by decide), Q_X4_, Q_X5_⟩
      refine steps_cons ?_ ?_
      · rintro b a w' ⟨A12, c12, A14, c14, g9, g10, m1_, m3_, m4_, m5_, ha, Q_HB, Q_FT, Q_FS, Q_G4, Q_L4, Q_Z4, Q_N6, Q_G5, Q_L5, Q_Z5, Q_N7, Q_D4_5, Q_X1_, Q_X3_, Q_X4_, Q_X5_⟩ hb_ hon hoff
        refine ⟨_, rfl, fun K hK => ?_⟩
        have e11 : a.tmps[11]? = some (.agg #[.int .i64 ta, .int .u64 tb]) := by rw [ha]; exact putSel_on (e := (0, 11, .agg #[.int .i64 ta, .int .u64 tb])) 0 rfl rfl (hon 0 (by kernel_rfl)) rfl
        replace ha := Aside0.mk ha
        have HB := Aside0.mk Q_HB
        have D4_5 := Aside0.mk Q_D4_5
        refine goes_ Try.func28 (by kernel_rfl) rfl #[.agg #[.int .i64 ta, .int .u64 tb]] (by rfl) rfl rfl (by first | (simp only [List.map_toArray, List.map_cons, List.map_nil, Act.eval, Array.getD_eq_getD_getElem?, Option.getD_some, e11]; done) | (simp only [List.map_toArray, List.map_cons, List.map_nil, Act.eval, Array.getD_eq_getD_getElem?, Option.getD_some, e11]; rfl)) ?_
        with_reducible refine (HFt.out _).mono ?_
        rintro e w1 ⟨u1, rfl, ⟨A1, c1, rfl, h1⟩, hb⟩
        refine ⟨_, rfl, ?_⟩
        refine hK.out _ _ ⟨A1, c1, A14, c14, g9, g10, (.agg #[.bool (decide (t < 0)), .slice A1 (limbs t.natAbs).length c1]), m3_, m4_, m5_, (by rw [ha.out]; exact putSel_upk 1 hb_ rfl rfl rfl), hop HB.out hb, fun _ => h1, fun h0_ => absurd ((hoff 3 (by kernel_rfl)).symm.trans h0_) (by decide), Q_G4, fun h4 => Nat.lt_of_lt_of_le (Q_L4 h4) hb.size, fun h4 h6 => (hb.block _ (blk_lt (Q_Z4 h4 h6))).trans (Q_Z4 h4 h6), fun _ h1_ => absurd ((hoff 6 (by kernel_rfl)).symm.trans h1_) (by decide), Q_G5, fun h5 => Nat.lt_of_lt_of_le (Q_L5 h5) hb.size, fun h5 h7 => (hb.block _ (blk_lt (Q_Z5 h5 h7))).trans (Q_Z5 h5 h7), fun _ h1_ => absurd ((hoff 7 (by kernel_rfl)).symm.trans h1_) (by decide), Q_D4_5, fun _ => rfl, fun h0_ => absurd ((hoff 3 (by kernel_rfl)).symm.trans h0_) (by decide), Q_X4_, Q_X5_⟩
      refine steps_cons ?_ ?_
      · rintro b a w' ⟨A12, c12, A14, c14, g9, g10, m1_, m3_, m4_, m5_, ha, Q_HB, Q_FT, Q_FS, Q_G4, Q_L4, Q_Z4, Q_N6, Q_G5, Q_L5, Q_Z5, Q_N7, Q_D4_5, Q_X1_, Q_X3_, Q_X4_, Q_X5_⟩ hb_ hon hoff
        refine ⟨_, rfl, fun K hK => ?_⟩
        have e7 : a.tmps[7]? = some (.pointer (some ⟨w.heap.size + 3, 0, none⟩)) := by rw [ha]; exact (putSel_off rfl).trans rfl
        replace ha := Aside0.mk ha
        have HB := Aside0.mk Q_HB
        have D4_5 := Aside0.mk Q_D4_5
        have k0 := blk_cell ((HB.out.block _ (blk_lt N3.out)).trans N3.out) 0
        have k1 := blk_cell ((HB.out.block _ (blk_lt N3.out)).trans N3.out) 1
        refine value_ (w1 := w') (v := .agg #[.int .i64 sa, .int .u64 sb]) (by rfl) rfl ?_ ?_
        · go_simp
          (try simp only [i64_w])
          try rfl
        refine hK.out _ _ ⟨A12, c12, A14, c14, g9, g10, m1_, m3_, m4_, m5_, (by rw [ha.out]; exact putSel_upk 2 hb_ rfl rfl rfl), Q_HB, Q_FT, fun h0_ => absurd ((hoff 3 (by kernel_rfl)).symm.trans h0_) (by decide), Q_G4, Q_L4, Q_Z4, fun _ h1_ => absurd ((hoff 6 (by kernel_rfl)).symm.trans h1_) (by decide), Q_G5, Q_L5, Q_Z5, fun _ h1_ => absurd ((hoff 7 (by kernel_rfl)).symm.trans h1_) (by decide), Q_D4_5, Q_X1_, fun h0_ => absurd ((hoff 3 (by kernel_rfl)).symm.trans h0_) (by decide), Q_X4_, Q_X5_⟩
      refine steps_cons ?_ ?_
      · rintro b a w' ⟨A12, c12, A14, c14, g9, g10, m1_, m3_, m4_, m5_, ha, Q_HB, Q_FT, Q_FS, Q_G4, Q_L4, Q_Z4, Q_N6, Q_G5, Q_L5, Q_Z5, Q_N7, Q_D4_5, Q_X1_, Q_X3_, Q_X4_, Q_X5_⟩ hb_ hon hoff
        refine ⟨_, rfl, fun K hK => ?_⟩
        have e13 : a.tmps[13]? = some (.agg #[.int .i64 sa, .int .u64 sb]) := by rw [ha]; exact putSel_on (e := (2, 13, .agg #[.int .i64 sa, .int .u64 sb])) 2 rfl rfl (hon 2 (by kernel_rfl)) rfl
        replace ha := Aside0.mk ha
        have HB := Aside0.mk Q_HB
        have FT := Aside0.mk (Q_FT (hon 1 (by kernel_rfl)))
        have D4_5 := Aside0.mk Q_D4_5
        refine goes_ Try.func28 (by kernel_rfl) rfl #[.agg #[.int .i64 sa, .int .u64 sb]] (by rfl) rfl rfl (by first | (simp only [List.map_toArray, List.map_cons, List.map_nil, Act.eval, Array.getD_eq_getD_getElem?, Option.getD_some, e13]; done) | (simp only [List.map_toArray, List.map_cons, List.map_nil, Act.eval, Array.getD_eq_getD_getElem?, Option.getD_some, e13]; rfl)) ?_
        with_reducible refine (HFs.out _).mono ?_
        rintro e w1 ⟨u1, rfl, ⟨A1, c1, rfl, h1⟩, hb⟩
        refine ⟨_, rfl, ?_⟩
        refine hK.out _ _ ⟨A12, c12, A1, c1, g9, g10, m1_, (.agg #[.bool (decide (sl < 0)), .slice A1 (limbs sl.natAbs).length c1]), m4_, m5_, (by rw [ha.out]; exact putSel_upk 3 hb_ rfl rfl rfl), hop HB.out hb, fun h1 => (Q_FT h1).below hb, fun _ => h1, Q_G4, fun h4 => Nat.lt_of_lt_of_le (Q_L4 h4) hb.size, fun h4 h6 => (hb.block _ (blk_lt (Q_Z4 h4 h6))).trans (Q_Z4 h4 h6), fun _ h1_ => absurd ((hoff 6 (by kernel_rfl)).symm.trans h1_) (by decide), Q_G5, fun h5 => Nat.lt_of_lt_of_le (Q_L5 h5) hb.size, fun h5 h7 => (hb.block _ (blk_lt (Q_Z5 h5 h7))).trans (Q_Z5 h5 h7), fun _ h1_ => absurd ((hoff 7 (by kernel_rfl)).symm.trans h1_) (by decide), Q_D4_5, Q_X1_, fun _ => rfl, Q_X4_, Q_X5_⟩
      refine steps_cons ?_ ?_
      · rintro b a w' ⟨A12, c12, A14, c14, g9, g10, m1_, m3_, m4_, m5_, ha, Q_HB, Q_FT, Q_FS, Q_G4, Q_L4, Q_Z4, Q_N6, Q_G5, Q_L5, Q_Z5, Q_N7, Q_D4_5, Q_X1_, Q_X3_, Q_X4_, Q_X5_⟩ hb_ hon hoff
        refine ⟨_, rfl, fun K hK => ?_⟩
        replace ha := Aside0.mk ha
        have HB := Aside0.mk Q_HB
        have D4_5 := Aside0.mk Q_D4_5
        have hb := (Below.refl w'.heap.size w').alloc (Nat.le_refl _) (.cells #[.bool false, .slice none 0 0] 81 (0, 0))
        refine value_ (w1 := w'.alloc (.cells #[.bool false, .slice none 0 0] 81 (0, 0))) (v := .pointer (some ⟨w'.heap.size, 0, none⟩)) (by rfl) rfl ?_ ?_
        · go_simp
          try rfl
        refine hK.out _ _ ⟨A12, c12, A14, c14, w'.heap.size, g10, m1_, m3_, (.pointer (some ⟨w'.heap.size, 0, none⟩)), m5_, (by rw [ha.out]; exact putSel_upk 4 hb_ rfl rfl rfl), hop HB.out hb, fun h1 => (Q_FT h1).below hb, fun h3 => (Q_FS h3).below hb, fun _ => HB.out.size, fun _ => (by simp), fun _ _ => heap_alloc_new w' _, fun _ h1_ => absurd ((hoff 6 (by kernel_rfl)).symm.trans h1_) (by decide), Q_G5, fun h5 => Nat.lt_of_lt_of_le (Q_L5 h5) hb.size, fun h5 h7 => (hb.block _ (blk_lt (Q_Z5 h5 h7))).trans (Q_Z5 h5 h7), fun _ h1_ => absurd ((hoff 7 (by kernel_rfl)).symm.trans h1_) (by decide), fun h1 h2 => (fun e => by have := Q_L5 h2; omega), Q_X1_, Q_X3_, fun _ => rfl, Q_X5_⟩
      refine steps_cons ?_ ?_
      · rintro b a w' ⟨A12, c12, A14, c14, g9, g10, m1_, m3_, m4_, m5_, ha, Q_HB, Q_FT, Q_FS, Q_G4, Q_L4, Q_Z4, Q_N6, Q_G5, Q_L5, Q_Z5, Q_N7, Q_D4_5, Q_X1_, Q_X3_, Q_X4_, Q_X5_⟩ hb_ hon hoff
        refine ⟨_, rfl, fun K hK => ?_⟩
        replace ha := Aside0.mk ha
        have HB := Aside0.mk Q_HB
        have D4_5 := Aside0.mk Q_D4_5
        have hb := (Below.refl w'.heap.size w').alloc (Nat.le_refl _) (.cells #[.bool false, .slice none 0 0] 81 (0, 0))
        refine value_ (w1 := w'.alloc (.cells #[.bool false, .slice none 0 0] 81 (0, 0))) (v := .pointer (some ⟨w'.heap.size, 0, none⟩)) (by rfl) rfl ?_ ?_
        · go_simp
          try rfl
        refine hK.out _ _ ⟨A12, c12, A14, c14, g9, w'.heap.size, m1_, m3_, m4_, (.pointer (some ⟨w'.heap.size, 0, none⟩)), (by rw [ha.out]; exact putSel_upk 5 hb_ rfl rfl rfl), hop HB.out hb, fun h1 => (Q_FT h1).below hb, fun h3 => (Q_FS h3).below hb, Q_G4, fun h4 => Nat.lt_of_lt_of_le (Q_L4 h4) hb.size, fun h4 h6 => (hb.block _ (blk_lt (Q_Z4 h4 h6))).trans (Q_Z4 h4 h6), fun _ h1_ => absurd ((hoff 6 (by kernel_rfl)).symm.trans h1_) (by decide), fun _ => HB.out.size, fun _ => (by simp), fun _ _ => heap_alloc_new w' _, fun _ h1_ => absurd ((hoff 7 (by kernel_rfl)).symm.trans h1_) (by decide), fun h1 h2 => (fun e => by have := Q_L4 h1; omega), Q_X1_, Q_X3_, Q_X4_, fun _ => rfl⟩
      refine steps_cons ?_ ?_
      · rintro b a w' ⟨A12, c12, A14, c14, g9, g10, m1_, m3_, m4_, m5_, ha, Q_HB, Q_FT, Q_FS, Q_G4, Q_L4, Q_Z4, Q_N6, Q_G5, Q_L5, Q_Z5, Q_N7, Q_D4_5, Q_X1_, Q_X3_, Q_X4_, Q_X5_⟩ hb_ hon hoff
        refine ⟨_, rfl, fun K hK => ?_⟩
        have e9 : a.tmps[9]? = some (m4_) := by rw [ha]; exact putSel_on (e := (4, 9, m4_)) 4 rfl rfl (hon 4 (by kernel_rfl)) rfl
        rw [Q_X4_ (hon 4 (by kernel_rfl))] at e9
        have e12 : a.tmps[12]? = some (m1_) := by rw [ha]; exact putSel_on (e := (1, 12, m1_)) 1 rfl rfl (hon 1 (by kernel_rfl)) rfl
        rw [Q_X1_ (hon 1 (by kernel_rfl))] at e12
        replace ha := Aside0.mk ha
        have HB := Aside0.mk Q_HB
        have FT := Aside0.mk (Q_FT (hon 1 (by kernel_rfl)))
        have FS := Aside0.mk (Q_FS (hon 3 (by kernel_rfl)))
        have G4 := Aside0.mk (Q_G4 (hon 4 (by kernel_rfl)))
        have L4 := Aside0.mk (Q_L4 (hon 4 (by kernel_rfl)))
        have Z4 := Aside0.mk (Q_Z4 (hon 4 (by kernel_rfl)) hb_)
        have G5 := Aside0.mk (Q_G5 (hon 5 (by kernel_rfl)))
        have L5 := Aside0.mk (Q_L5 (hon 5 (by kernel_rfl)))
        have Z5 := Aside0.mk (Q_Z5 (hon 5 (by kernel_rfl)) (hoff 7 (by kernel_rfl)))
        have D4_5 := Aside0.mk Q_D4_5
        have hk : Keep w' ((w'.setCell ⟨g9, 0, none⟩ (.bool (decide (t < 0)))).setCell ⟨g9, 1, none⟩ (.slice A12 (limbs t.natAbs).length c12)) (fun k => k = g9) := (((Keep.refl w' (fun k => k = g9)).set ⟨g9, 0, none⟩ (.bool (decide (t < 0))) (.inl rfl)).set ⟨g9, 1, none⟩ (.slice A12 (limbs t.natAbs).length c12) (.inl rfl))
        have y0 := blk_cell Z4.out 0
        have y1 := blk_cell Z4.out 1
        have z0 := blk_frozen Z4.out 0
        have z1 := blk_frozen Z4.out 1
        refine skip_ (w1 := ((w'.setCell ⟨g9, 0, none⟩ (.bool (decide (t < 0)))).setCell ⟨g9, 1, none⟩ (.slice A12 (limbs t.natAbs).length c12))) (by rfl) rfl ?_ ?_
        · go_simp
          try rfl
        refine hK.out _ _ ⟨A12, c12, A14, c14, g9, g10, m1_, m3_, m4_, m5_, (by rw [ha.out]; exact putSel_none (v := undef) rfl), HB.out.trans (hk.below HB.out.size (fun k e => by have e2 : k = g9 := e; rw [e2]; exact G4.out)), fun h1 => (Q_FT h1).num Z4.out num_cells hk, fun h3 => (Q_FS h3).num Z4.out num_cells hk, Q_G4, fun h4 => Nat.lt_of_lt_of_le (Q_L4 h4) hk.size, fun _ h1_ => absurd ((up_self b 6).symm.trans h1_) (by decide), fun _ _ => (blk_put (blk_put Z4.out 0 (.bool (decide (t < 0))) rfl) 1 (.slice A12 (limbs t.natAbs).length c12) rfl), Q_G5, fun h5 => Nat.lt_of_lt_of_le (Q_L5 h5) hk.size, fun h5 h7 => (hk.block _ (blk_lt (Q_Z5 h5 h7)) (fun e => Q_D4_5 (hon 4 (by kernel_rfl)) h5 e.symm)).trans (Q_Z5 h5 h7), fun _ h1_ => absurd ((hoff 7 (by kernel_rfl)).symm.trans h1_) (by decide), Q_D4_5, Q_X1_, Q_X3_, Q_X4_, Q_X5_⟩
      refine steps_cons ?_ ?_
      · rintro b a w' ⟨A12, c12, A14, c14, g9, g10, m1_, m3_, m4_, m5_, ha, Q_HB, Q_FT, Q_FS, Q_G4, Q_L4, Q_Z4, Q_N6, Q_G5, Q_L5, Q_Z5, Q_N7, Q_D4_5, Q_X1_, Q_X3_, Q_X4_, Q_X5_⟩ hb_ hon hoff
        refine ⟨_, rfl, fun K hK => ?_⟩
        have e10 : a.tmps[10]? = some (m5_) := by rw [ha]; exact putSel_on (e := (5, 10, m5_)) 5 rfl rfl (hon 5 (by kernel_rfl)) rfl
        rw [Q_X5_ (hon 5 (by kernel_rfl))] at e10
        have e14 : a.tmps[14]? = some (m3_) := by rw [ha]; exact putSel_on (e := (3, 14, m3_)) 3 rfl rfl (hon 3 (by kernel_rfl)) rfl
        rw [Q_X3_ (hon 3 (by kernel_rfl))] at e14
        replace ha := Aside0.mk ha
        have HB := Aside0.mk Q_HB
        have FT := Aside0.mk (Q_FT (hon 1 (by kernel_rfl)))
        have FS := Aside0.mk (Q_FS (hon 3 (by kernel_rfl)))
        have G4 := Aside0.mk (Q_G4 (hon 4 (by kernel_rfl)))
        have L4 := Aside0.mk (Q_L4 (hon 4 (by kernel_rfl)))
        have N6 := Aside0.mk (Q_N6 (hon 4 (by kernel_rfl)) (hon 6 (by kernel_rfl)))
        have G5 := Aside0.mk (Q_G5 (hon 5 (by kernel_rfl)))
        have L5 := Aside0.mk (Q_L5 (hon 5 (by kernel_rfl)))
        have Z5 := Aside0.mk (Q_Z5 (hon 5 (by kernel_rfl)) hb_)
        have D4_5 := Aside0.mk Q_D4_5
        have hk : Keep w' ((w'.setCell ⟨g10, 0, none⟩ (.bool (decide (sl < 0)))).setCell ⟨g10, 1, none⟩ (.slice A14 (limbs sl.natAbs).length c14)) (fun k => k = g10) := (((Keep.refl w' (fun k => k = g10)).set ⟨g10, 0, none⟩ (.bool (decide (sl < 0))) (.inl rfl)).set ⟨g10, 1, none⟩ (.slice A14 (limbs sl.natAbs).length c14) (.inl rfl))
        have y0 := blk_cell Z5.out 0
        have y1 := blk_cell Z5.out 1
        have z0 := blk_frozen Z5.out 0
        have z1 := blk_frozen Z5.out 1
        refine skip_ (w1 := ((w'.setCell ⟨g10, 0, none⟩ (.bool (decide (sl < 0)))).setCell ⟨g10, 1, none⟩ (.slice A14 (limbs sl.natAbs).length c14))) (by rfl) rfl ?_ ?_
        · go_simp
          try rfl
        refine hK.out _ _ ⟨A12, c12, A14, c14, g9, g10, m1_, m3_, m4_, m5_, (by rw [ha.out]; exact putSel_none (v := undef) rfl), HB.out.trans (hk.below HB.out.size (fun k e => by have e2 : k = g10 := e; rw [e2]; exact G5.out)), fun h1 => (Q_FT h1).num Z5.out num_cells hk, fun h3 => (Q_FS h3).num Z5.out num_cells hk, Q_G4, fun h4 => Nat.lt_of_lt_of_le (Q_L4 h4) hk.size, fun _ h1_ => absurd ((hon 6 (by kernel_rfl)).symm.trans h1_) (by decide), fun h4 h6 => (hk.block _ (blk_lt (Q_N6 h4 h6)) (fun e => Q_D4_5 h4 (hon 5 (by kernel_rfl)) e)).trans (Q_N6 h4 h6), Q_G5, fun h5 => Nat.lt_of_lt_of_le (Q_L5 h5) hk.size, fun _ h1_ => absurd ((up_self b 7).symm.trans h1_) (by decide), fun _ _ => (blk_put (blk_put Z5.out 0 (.bool (decide (sl < 0))) rfl) 1 (.slice A14 (limbs sl.natAbs).length c14) rfl), Q_D4_5, Q_X1_, Q_X3_, Q_X4_, Q_X5_⟩
      exact steps_nil
    · rintro b a w' hall ⟨A12, c12, A14, c14, g9, g10, m1_, m3_, m4_, m5_, ha, Q_HB, Q_FT, Q_FS, Q_G4, Q_L4, Q_Z4, Q_N6, Q_G5, Q_L5, Q_Z5, Q_N7, Q_D4_5, Q_X1_, Q_X3_, Q_X4_, Q_X5_⟩
      clear D4_5 HB
      have hb0_ := hall 0 (by kernel_rfl)
      have hb1_ := hall 1 (by kernel_rfl)
      have hb2_ := hall 2 (by kernel_rfl)
      have hb3_ := hall 3 (by kernel_rfl)
      have hb4_ := hall 4 (by kernel_rfl)
      have hb5_ := hall 5 (by kernel_rfl)
      have hb6_ := hall 6 (by kernel_rfl)
      have hb7_ := hall 7 (by kernel_rfl)
      subst ha
      obtain rfl := Q_X1_ hb1_
      obtain rfl := Q_X3_ hb3_
      obtain rfl := Q_X4_ hb4_
      obtain rfl := Q_X5_ hb5_
      simp only [putSel, hb0_, hb1_, hb2_, hb3_, hb4_, hb5_, hb6_, hb7_, if_true, Act.put, List.setIfInBounds_toArray, List.set_cons_zero, List.set_cons_succ]
      have HB := Aside0.mk Q_HB
      clear Q_HB
      have FT := Aside0.mk (Q_FT hb1_)
      clear Q_FT
      have FS := Aside0.mk (Q_FS hb3_)
      clear Q_FS
      have G4 := Aside0.mk (Q_G4 hb4_)
      clear Q_G4
      have L4 := Aside0.mk (Q_L4 hb4_)
      clear Q_L4
      clear Q_Z4
      have N6 := Aside0.mk (Q_N6 hb4_ hb6_)
      clear Q_N6
      have G5 := Aside0.mk (Q_G5 hb5_)
      clear Q_G5
      have L5 := Aside0.mk (Q_L5 hb5_)
      clear Q_L5
      clear Q_Z5
      have N7 := Aside0.mk (Q_N7 hb5_ hb7_)
      clear Q_N7
      have D4_5 := Aside0.mk Q_D4_5
      clear Q_D4_5
      clear hall hb0_ hb1_ hb2_ hb3_ hb4_ hb5_ hb6_ hb7_
      go_wp2_with (fail)
      go_meet
      exact ⟨g9, g10, rfl, rfl, ⟨A12, c12, N6.out, FT.out⟩, ⟨A14, c14, N7.out, FS.out⟩, HB⟩
  case rest =>
    obtain ⟨g9, g10, rfl, rfl, ⟨A9, c9, ht9, lt9⟩, ⟨A10, c10, hs10, ls10⟩, HBc⟩ := hcut
    have HT := Aside0.mk ht9
    have HS := Aside0.mk hs10
    have LT := Aside0.mk lt9
    have LS := Aside0.mk ls10
    have N1_ := Aside0.mk ((HBc.out.block _ (blk_lt N1.out)).trans N1.out)
    have NB_ := Aside0.mk (hop NB.out HBc.out)
    have x1c := blk_cell ((HBc.out.block _ (blk_lt N0.out)).trans N0.out) 1
    rw [← hab] at x1c
    clear N1 NB HBc N0 N2 N3 x1 x2 x3 x4 x5 hab HW ht9 lt9 hs10 ls10
    have N1 := N1_
    have NB := NB_
    clear N1_ NB_
    cases ab with
    | true =>
      go_upto_region 3 with (fail)
      have HB := Aside0.mk (show Below wc.heap.size wc wc.drew from (Below.refl _ _).drew)
      refine start_ (n := 9) (S := fun w' => True) (ds := []) #[false, false, false, false, false, false, false, false, false] (by kernel_rfl) rfl rfl trivial (fun hHeld => ?_)
      refine with_tabW bey3.tab bey3.bits (fun HT_ HW_ => ?_)
      refine inv_at [0, 1, 2, 3, 4, 5, 6, 7, 8] (fun a0_ b a w' => ∃ (A18 : Option Addr) (c18 : Nat) (A21 : Option Addr) (c21 : Nat) (A22 : Option Addr) (c22 : Nat) (m1_ : Value) (m4_ : Value) (m5_ : Value), a = putSel a0_ b [(0, 17, .agg #[.int .i64 va, .int .u64 vb]), (1, 18, m1_), (2, 19, .agg #[.bool (decide (t < 0)), .slice A9 (limbs t.natAbs).length c9]), (3, 20, .agg #[.bool (decide (sl < 0)), .slice A10 (limbs sl.natAbs).length c10]), (4, 21, m4_), (5, 22, m5_), (6, 23, .int .i64 (sgn (v - (t + -sl)))), (7, 24, .bool (decide (0 ≤ sgn (v - (t + -sl))))), (8, 8, .bool (decide (0 ≤ sgn (v - (t + -sl)))))] ∧ (Below wc.heap.size wc w') ∧ (b 1 = true → Lm w' A18 c18 (limbs v.natAbs)) ∧ (b 4 = true → Lm w' A21 c21 (limbs (-sl).natAbs)) ∧ (b 5 = true → Lm w' A22 c22 (limbs (t + -sl).natAbs)) ∧ (b 1 = true → (m1_ : Value) = .agg #[.bool (decide (v < 0)), .slice A18 (limbs v.natAbs).length c18]) ∧ (b 4 = true → (m4_ : Value) = .agg #[.bool (decide (-sl < 0)), .slice A21 (limbs (-sl).natAbs).length c21]) ∧ (b 5 = true → (m5_ : Value) = .agg #[.bool (decide (t + -sl < 0)), .slice A22 (limbs (t + -sl).natAbs).length c22])) HT_.out HW_.out (by kernel_rfl) (by kernel_rfl) ?_ ?_ ?_
      · exact ⟨none, 0, none, 0, none, 0, .bool false, .bool false, .bool false, by simp only [putSel, Bool.false_eq_true, if_false], HB.out, fun h_ => absurd h_ (by decide), fun h_ => absurd h_ (by decide), fun h_ => absurd h_ (by decide), fun h_ => absurd h_ (by decide), fun h_ => absurd h_ (by decide), fun h_ => absurd h_ (by decide)⟩
      · skip
        clear HB
        refine steps_cons ?_ ?_
        · rintro b a w' ⟨A18, c18, A21, c21, A22, c22, m1_, m4_, m5_, ha, Q_HB, Q_FV, Q_FN, Q_FA, Q_X1_, Q_X4_, Q_X5_⟩ hb_ hon hoff
          refine ⟨_, rfl, fun K hK => ?_⟩
          have e5 : a.tmps[5]? = some (.pointer (some ⟨w.heap.size + 1, 0, none⟩)) := by rw [ha]; exact (putSel_off rfl).trans rfl
          replace ha := Aside0.mk ha
          have HB := Aside0.mk Q_HB
          have k0 := blk_cell ((HB.out.block _ (blk_lt N1.out)).trans N1.out) 0
          have k1 := blk_cell ((HB.out.block _ (blk_lt N1.out)).trans N1.out) 1
          refine value_ (w1 := w') (v := .agg #[.int .i64 va, .int .u64 vb]) (by rfl) rfl ?_ ?_
          · go_simp
            (try simp only [i64_w])
            try rfl
          refine hK.out _ _ ⟨A18, c18, A21, c21, A22, c22, m1_, m4_, m5_, (by rw [ha.out]; exact putSel_upk 0 hb_ rfl rfl rfl), Q_HB, fun h0_ => absurd ((hoff 1 (by kernel_rfl)).symm.trans h0_) (by decide), fun h0_ => absurd ((hoff 4 (by kernel_rfl)).symm.trans h0_) (by decide), fun h0_ => absurd ((hoff 5 (by kernel_rfl)).symm.trans h0_) (by decide), fun h0_ => absurd ((hoff 1 (by kernel_rfl)).symm.trans h0_) (by decide), fun h0_ => absurd ((hoff 4 (by kernel_rfl)).symm.trans h0_) (by decide), fun h0_ => absurd ((hoff 5 (by kernel_rfl)).symm.trans h0_) (by decide)⟩
        refine steps_cons ?_ ?_
        · rintro b a w' ⟨A18, c18, A21, c21, A22, c22, m1_, m4_, m5_, ha, Q_HB, Q_FV, Q_FN, Q_FA, Q_X1_, Q_X4_, Q_X5_⟩ hb_ hon hoff
          refine ⟨_, rfl, fun K hK => ?_⟩
          have e17 : a.tmps[17]? = some (.agg #[.int .i64 va, .int .u64 vb]) := by rw [ha]; exact putSel_on (e := (0, 17, .agg #[.int .i64 va, .int .u64 vb])) 0 rfl rfl (hon 0 (by kernel_rfl)) rfl
          replace ha := Aside0.mk ha
          have HB := Aside0.mk Q_HB
          refine goes_ Try.func28 (by kernel_rfl) rfl #[.agg #[.int .i64 va, .int .u64 vb]] (by rfl) rfl rfl (by first | (simp only [List.map_toArray, List.map_cons, List.map_nil, Act.eval, Array.getD_eq_getD_getElem?, Option.getD_some, e17]; done) | (simp only [List.map_toArray, List.map_cons, List.map_nil, Act.eval, Array.getD_eq_getD_getElem?, Option.getD_some, e17]; rfl)) ?_
          with_reducible refine (HFv.out _).mono ?_
          rintro e w1 ⟨u1, rfl, ⟨A1, c1, rfl, h1⟩, hb⟩
          refine ⟨_, rfl, ?_⟩
          refine hK.out _ _ ⟨A1, c1, A21, c21, A22, c22, (.agg #[.bool (decide (v < 0)), .slice A1 (limbs v.natAbs).length c1]), m4_, m5_, (by rw [ha.out]; exact putSel_upk 1 hb_ rfl rfl rfl), hop HB.out hb, fun _ => h1, fun h0_ => absurd ((hoff 4 (by kernel_rfl)).symm.trans h0_) (by decide), fun h0_ => absurd ((hoff 5 (by kernel_rfl)).symm.trans h0_) (by decide), fun _ => rfl, fun h0_ => absurd ((hoff 4 (by kernel_rfl)).symm.trans h0_) (by decide), fun h0_ => absurd ((hoff 5 (by kernel_rfl)).symm.trans h0_) (by decide)⟩
        refine steps_cons ?_ ?_
        · rintro b a w' ⟨A18, c18, A21, c21, A22, c22, m1_, m4_, m5_, ha, Q_HB, Q_FV, Q_FN, Q_FA, Q_X1_, Q_X4_, Q_X5_⟩ hb_ hon hoff
          refine ⟨_, rfl, fun K hK => ?_⟩
          have e9 : a.tmps[9]? = some (.pointer (some ⟨g9, 0, none⟩)) := by rw [ha]; exact (putSel_off rfl).trans rfl
          replace ha := Aside0.mk ha
          have HB := Aside0.mk Q_HB
          have k0 := blk_cell ((HB.out.block _ (blk_lt HT.out)).trans HT.out) 0
          have k1 := blk_cell ((HB.out.block _ (blk_lt HT.out)).trans HT.out) 1
          refine value_ (w1 := w') (v := .agg #[.bool (decide (t < 0)), .slice A9 (limbs t.natAbs).length c9]) (by rfl) rfl ?_ ?_
          · go_simp
            (try simp only [i64_w])
            try rfl
          refine hK.out _ _ ⟨A18, c18, A21, c21, A22, c22, m1_, m4_, m5_, (by rw [ha.out]; exact putSel_upk 2 hb_ rfl rfl rfl), Q_HB, Q_FV, Q_FN, fun h0_ => absurd ((hoff 5 (by kernel_rfl)).symm.trans h0_) (by decide), Q_X1_, Q_X4_, fun h0_ => absurd ((hoff 5 (by kernel_rfl)).symm.trans h0_) (by decide)⟩
        refine steps_cons ?_ ?_
        · rintro b a w' ⟨A18, c18, A21, c21, A22, c22, m1_, m4_, m5_, ha, Q_HB, Q_FV, Q_FN, Q_FA, Q_X1_, Q_X4_, Q_X5_⟩ hb_ hon hoff
          refine ⟨_, rfl, fun K hK => ?_⟩
          have e10 : a.tmps[10]? = some (.pointer (some ⟨g10, 0, none⟩)) := by rw [ha]; exact (putSel_off rfl).trans rfl
          replace ha := Aside0.mk ha
          have HB := Aside0.mk Q_HB
          have k0 := blk_cell ((HB.out.block _ (blk_lt HS.out)).trans HS.out) 0
          have k1 := blk_cell ((HB.out.block _ (blk_lt HS.out)).trans HS.out) 1
          refine value_ (w1 := w') (v := .agg #[.bool (decide (sl < 0)), .slice A10 (limbs sl.natAbs).length c10]) (by rfl) rfl ?_ ?_
          · go_simp
            (try simp only [i64_w])
            try rfl
          refine hK.out _ _ ⟨A18, c18, A21, c21, A22, c22, m1_, m4_, m5_, (by rw [ha.out]; exact putSel_upk 3 hb_ rfl rfl rfl), Q_HB, Q_FV, fun h0_ => absurd ((hoff 4 (by kernel_rfl)).symm.trans h0_) (by decide), fun h0_ => absurd ((hoff 5 (by kernel_rfl)).symm.trans h0_) (by decide), Q_X1_, fun h0_ => absurd ((hoff 4 (by kernel_rfl)).symm.trans h0_) (by decide), fun h0_ => absurd ((hoff 5 (by kernel_rfl)).symm.trans h0_) (by decide)⟩
        refine steps_cons ?_ ?_
        · rintro b a w' ⟨A18, c18, A21, c21, A22, c22, m1_, m4_, m5_, ha, Q_HB, Q_FV, Q_FN, Q_FA, Q_X1_, Q_X4_, Q_X5_⟩ hb_ hon hoff
          refine ⟨_, rfl, fun K hK => ?_⟩
          have e20 : a.tmps[20]? = some (.agg #[.bool (decide (sl < 0)), .slice A10 (limbs sl.natAbs).length c10]) := by rw [ha]; exact putSel_on (e := (3, 20, .agg #[.bool (decide (sl < 0)), .slice A10 (limbs sl.natAbs).length c10])) 3 rfl rfl (hon 3 (by kernel_rfl)) rfl
          replace ha := Aside0.mk ha
          have HB := Aside0.mk Q_HB
          have FV := Aside0.mk (Q_FV (hon 1 (by kernel_rfl)))
          refine goes_ Try.func31 (by kernel_rfl) rfl #[.agg #[.bool (decide (sl < 0)), .slice A10 (limbs sl.natAbs).length c10]] (by rfl) rfl rfl (by first | (simp only [List.map_toArray, List.map_cons, List.map_nil, Act.eval, Array.getD_eq_getD_getElem?, Option.getD_some, e20]; done) | (simp only [List.map_toArray, List.map_cons, List.map_nil, Act.eval, Array.getD_eq_getD_getElem?, Option.getD_some, e20]; rfl)) ?_
          with_reducible refine (ref_NegN (x := sl) (NumV.of (LS.out.below HB.out))).mono ?_
          rintro e w1 ⟨u1, rfl, ⟨A1, c1, rfl, h1⟩, hb⟩
          refine ⟨_, rfl, ?_⟩
          refine hK.out _ _ ⟨A18, c18, A1, c1, A22, c22, m1_, (.agg #[.bool (decide (-sl < 0)), .slice A1 (limbs (-sl).natAbs).length c1]), m5_, (by rw [ha.out]; exact putSel_upk 4 hb_ rfl rfl rfl), hop HB.out hb, fun h1 => (Q_FV h1).below hb, fun _ => h1, fun h0_ => absurd ((hoff 5 (by kernel_rfl)).symm.trans h0_) (by decide), Q_X1_, fun _ => rfl, fun h0_ => absurd ((hoff 5 (by kernel_rfl)).symm.trans h0_) (by decide)⟩
        refine steps_cons ?_ ?_
        · rintro b a w' ⟨A18, c18, A21, c21, A22, c22, m1_, m4_, m5_, ha, Q_HB, Q_FV, Q_FN, Q_FA, Q_X1_, Q_X4_, Q_X5_⟩ hb_ hon hoff
          refine ⟨_, rfl, fun K hK => ?_⟩
          have e19 : a.tmps[19]? = some (.agg #[.bool (decide (t < 0)), .slice A9 (limbs t.natAbs).length c9]) := by rw [ha]; exact putSel_on (e := (2, 19, .agg #[.bool (decide (t < 0)), .slice A9 (limbs t.natAbs).length c9])) 2 rfl rfl (hon 2 (by kernel_rfl)) rfl
          have e21 : a.tmps[21]? = some (m4_) := by rw [ha]; exact putSel_on (e := (4, 21, m4_)) 4 rfl rfl (hon 4 (by kernel_rfl)) rfl
          rw [Q_X4_ (hon 4 (by kernel_rfl))] at e21
          replace ha := Aside0.mk ha
          have HB := Aside0.mk Q_HB
          have FV := Aside0.mk (Q_FV (hon 1 (by kernel_rfl)))
          have FN := Aside0.mk (Q_FN (hon 4 (by kernel_rfl)))
          refine goes_ Try.func30 (by kernel_rfl) rfl #[.agg #[.bool (decide (t < 0)), .slice A9 (limbs t.natAbs).length c9], .agg #[.bool (decide (-sl < 0)), .slice A21 (limbs (-sl).natAbs).length c21]] (by rfl) rfl rfl (by first | (simp only [List.map_toArray, List.map_cons, List.map_nil, Act.eval, Array.getD_eq_getD_getElem?, Option.getD_some, e19, e21]; done) | (simp only [List.map_toArray, List.map_cons, List.map_nil, Act.eval, Array.getD_eq_getD_getElem?, Option.getD_some, e19, e21]; rfl)) ?_
          with_reducible refine (ref_AddN (x := t) (y := -sl) (NumV.of (LT.out.below HB.out)) (NumV.of FN.out) ft.out fn.out).mono ?_
          rintro e w1 ⟨u1, rfl, ⟨A1, c1, rfl, h1⟩, hb⟩
          refine ⟨_, rfl, ?_⟩
          refine hK.out _ _ ⟨A18, c18, A21, c21, A1, c1, m1_, m4_, (.agg #[.bool (decide (t + -sl < 0)), .slice A1 (limbs (t + -sl).natAbs).length c1]), (by rw [ha.out]; exact putSel_upk 5 hb_ rfl rfl rfl), hop HB.out hb, fun h1 => (Q_FV h1).below hb, fun h4 => (Q_FN h4).below hb, fun _ => h1, Q_X1_, Q_X4_, fun _ => rfl⟩
        refine steps_cons ?_ ?_
        · rintro b a w' ⟨A18, c18, A21, c21, A22, c22, m1_, m4_, m5_, ha, Q_HB, Q_FV, Q_FN, Q_FA, Q_X1_, Q_X4_, Q_X5_⟩ hb_ hon hoff
          refine ⟨_, rfl, fun K hK => ?_⟩
          have e18 : a.tmps[18]? = some (m1_) := by rw [ha]; exact putSel_on (e := (1, 18, m1_)) 1 rfl rfl (hon 1 (by kernel_rfl)) rfl
          rw [Q_X1_ (hon 1 (by kernel_rfl))] at e18
          have e22 : a.tmps[22]? = some (m5_) := by rw [ha]; exact putSel_on (e := (5, 22, m5_)) 5 rfl rfl (hon 5 (by kernel_rfl)) rfl
          rw [Q_X5_ (hon 5 (by kernel_rfl))] at e22
          replace ha := Aside0.mk ha
          have HB := Aside0.mk Q_HB
          have FV := Aside0.mk (Q_FV (hon 1 (by kernel_rfl)))
          have FN := Aside0.mk (Q_FN (hon 4 (by kernel_rfl)))
          have FA := Aside0.mk (Q_FA (hon 5 (by kernel_rfl)))
          refine goes_ Try.func29 (by kernel_rfl) rfl #[.agg #[.bool (decide (v < 0)), .slice A18 (limbs v.natAbs).length c18], .agg #[.bool (decide (t + -sl < 0)), .slice A22 (limbs (t + -sl).natAbs).length c22]] (by rfl) rfl rfl (by first | (simp only [List.map_toArray, List.map_cons, List.map_nil, Act.eval, Array.getD_eq_getD_getElem?, Option.getD_some, e18, e22]; done) | (simp only [List.map_toArray, List.map_cons, List.map_nil, Act.eval, Array.getD_eq_getD_getElem?, Option.getD_some, e18, e22]; rfl)) ?_
          with_reducible refine (ref_CmpN (x := v) (y := t + -sl) (NumV.of FV.out) (NumV.of FA.out)).mono ?_
          rintro e w1 ⟨rfl, hb⟩
          refine ⟨_, rfl, ?_⟩
          refine hK.out _ _ ⟨A18, c18, A21, c21, A22, c22, m1_, m4_, m5_, (by rw [ha.out]; exact putSel_upk 6 hb_ rfl rfl rfl), hop HB.out hb, fun h1 => (Q_FV h1).below hb, fun h4 => (Q_FN h4).below hb, fun h5 => (Q_FA h5).below hb, Q_X1_, Q_X4_, Q_X5_⟩
        refine steps_cons ?_ ?_
        · rintro b a w' ⟨A18, c18, A21, c21, A22, c22, m1_, m4_, m5_, ha, Q_HB, Q_FV, Q_FN, Q_FA, Q_X1_, Q_X4_, Q_X5_⟩ hb_ hon hoff
          refine ⟨_, rfl, fun K hK => ?_⟩
          have e23 : a.tmps[23]? = some (.int .i64 (sgn (v - (t + -sl)))) := by rw [ha]; exact putSel_on (e := (6, 23, .int .i64 (sgn (v - (t + -sl))))) 6 rfl rfl (hon 6 (by kernel_rfl)) rfl
          replace ha := Aside0.mk ha
          have HB := Aside0.mk Q_HB
          have FV := Aside0.mk (Q_FV (hon 1 (by kernel_rfl)))
          have FN := Aside0.mk (Q_FN (hon 4 (by kernel_rfl)))
          have FA := Aside0.mk (Q_FA (hon 5 (by kernel_rfl)))
          refine value_ (w1 := w') (v := .bool (decide (0 ≤ sgn (v - (t + -sl))))) (by rfl) rfl ?_ ?_
          · go_simp
            (try simp only [i64_w])
            try rfl
          refine hK.out _ _ ⟨A18, c18, A21, c21, A22, c22, m1_, m4_, m5_, (by rw [ha.out]; exact putSel_upk 7 hb_ rfl rfl rfl), Q_HB, Q_FV, Q_FN, Q_FA, Q_X1_, Q_X4_, Q_X5_⟩
        refine steps_cons ?_ ?_
        · rintro b a w' ⟨A18, c18, A21, c21, A22, c22, m1_, m4_, m5_, ha, Q_HB, Q_FV, Q_FN, Q_FA, Q_X1_, Q_X4_, Q_X5_⟩ hb_ hon hoff
          refine ⟨_, rfl, fun K hK => ?_⟩
          have e24 : a.tmps[24]? = some (.bool (decide (0 ≤ sgn (v - (t + -sl))))) := by rw [ha]; exact putSel_on (e := (7, 24, .bool (decide (0 ≤ sgn (v - (t + -sl)))))) 7 rfl rfl (hon 7 (by kernel_rfl)) rfl
          replace ha := Aside0.mk ha
          have HB := Aside0.mk Q_HB
          have FV := Aside0.mk (Q_FV (hon 1 (by kernel_rfl)))
          have FN := Aside0.mk (Q_FN (hon 4 (by kernel_rfl)))
          have FA := Aside0.mk (Q_FA (hon 5 (by kernel_rfl)))
          refine value_ (w1 := w') (v := .bool (decide (0 ≤ sgn (v - (t + -sl))))) (by rfl) rfl ?_ ?_
          · go_simp
            (try simp only [i64_w])
            try rfl
          refine hK.out _ _ ⟨A18, c18, A21, c21, A22, c22, m1_, m4_, m5_, (by rw [ha.out]; exact putSel_upk 8 hb_ rfl rfl rfl), Q_HB, Q_FV, Q_FN, Q_FA, Q_X1_, Q_X4_, Q_X5_⟩
        exact steps_nil
      · rintro b a w' hall ⟨A18, c18, A21, c21, A22, c22, m1_, m4_, m5_, ha, Q_HB, Q_FV, Q_FN, Q_FA, Q_X1_, Q_X4_, Q_X5_⟩
        clear HB
        have hb0_ := hall 0 (by kernel_rfl)
        have hb1_ := hall 1 (by kernel_rfl)
        have hb2_ := hall 2 (by kernel_rfl)
        have hb3_ := hall 3 (by kernel_rfl)
        have hb4_ := hall 4 (by kernel_rfl)
        have hb5_ := hall 5 (by kernel_rfl)
        have hb6_ := hall 6 (by kernel_rfl)
        have hb7_ := hall 7 (by kernel_rfl)
        have hb8_ := hall 8 (by kernel_rfl)
        subst ha
        obtain rfl := Q_X1_ hb1_
        obtain rfl := Q_X4_ hb4_
        obtain rfl := Q_X5_ hb5_
        simp only [putSel, hb0_, hb1_, hb2_, hb3_, hb4_, hb5_, hb6_, hb7_, hb8_, if_true, Act.put, List.setIfInBounds_toArray, List.set_cons_zero, List.set_cons_succ]
        have HB := Aside0.mk Q_HB
        clear Q_HB
        have FV := Aside0.mk (Q_FV hb1_)
        clear Q_FV
        have FN := Aside0.mk (Q_FN hb4_)
        clear Q_FN
        have FA := Aside0.mk (Q_FA hb5_)
        clear Q_FA
        clear hall hb0_ hb1_ hb2_ hb3_ hb4_ hb5_ hb6_ hb7_ hb8_
        go_wp2_with (fail)
        go_ret
        rw [HP.out]
        exact ⟨rfl, hop NB.out HB.out⟩
    | false =>
      go_upto_region 4 with (fail)
      have HB := Aside0.mk (show Below wc.heap.size wc wc.drew from (Below.refl _ _).drew)
      refine start_ (n := 8) (S := fun w' => True) (ds := []) #[false, false, false, false, false, false, false, false] (by kernel_rfl) rfl rfl trivial (fun hHeld => ?_)
      refine with_tabW bey4.tab bey4.bits (fun HT_ HW_ => ?_)
      refine inv_at [0, 1, 2, 3, 4, 5, 6, 7] (fun a0_ b a w' => ∃ (A26 : Option Addr) (c26 : Nat) (A29 : Option Addr) (c29 : Nat) (m1_ : Value) (m4_ : Value), a = putSel a0_ b [(0, 25, .agg #[.int .i64 va, .int .u64 vb]), (1, 26, m1_), (2, 27, .agg #[.bool (decide (t < 0)), .slice A9 (limbs t.natAbs).length c9]), (3, 28, .agg #[.bool (decide (sl < 0)), .slice A10 (limbs sl.natAbs).length c10]), (4, 29, m4_), (5, 30, .int .i64 (sgn (v - (t + sl)))), (6, 31, .bool (decide (sgn (v - (t + sl)) ≤ 0))), (7, 8, .bool (decide (sgn (v - (t + sl)) ≤ 0)))] ∧ (Below wc.heap.size wc w') ∧ (b 1 = true → Lm w' A26 c26 (limbs v.natAbs)) ∧ (b 4 = true → Lm w' A29 c29 (limbs (t + sl).natAbs)) ∧ (b 1 = true → (m1_ : Value) = .agg #[.bool (decide (v < 0)), .slice A26 (limbs v.natAbs).length c26]) ∧ (b 4 = true → (m4_ : Value) = .agg #[.bool (decide (t + sl < 0)), .slice A29 (limbs (t + sl).natAbs).length c29])) HT_.out HW_.out (by kernel_rfl) (by kernel_rfl) ?_ ?_ ?_
      · exact ⟨none, 0, none, 0, .bool false, .bool false, by simp only [putSel, Bool.false_eq_true, if_false], HB.out, fun h_ => absurd h_ (by decide), fun h_ => absurd h_ (by decide), fun h_ => absurd h_ (by decide), fun h_ => absurd h_ (by decide)⟩
      · skip
        clear HB
        refine steps_cons ?_ ?_
        · rintro b a w' ⟨A26, c26, A29, c29, m1_, m4_, ha, Q_HB, Q_FV, Q_FA, Q_X1_, Q_X4_⟩ hb_ hon hoff
          refine ⟨_, rfl, fun K hK => ?_⟩
          have e5 : a.tmps[5]? = some (.pointer (some ⟨w.heap.size + 1, 0, none⟩)) := by rw [ha]; exact (putSel_off rfl).trans rfl
          replace ha := Aside0.mk ha
          have HB := Aside0.mk Q_HB
          have k0 := blk_cell ((HB.out.block _ (blk_lt N1.out)).trans N1.out) 0
          have k1 := blk_cell ((HB.out.block _ (blk_lt N1.out)).trans N1.out) 1
          refine value_ (w1 := w') (v := .agg #[.int .i64 va, .int .u64 vb]) (by rfl) rfl ?_ ?_
          · go_simp
            (try simp only [i64_w])
            try rfl
          refine hK.out _ _ ⟨A26, c26, A29, c29, m1_, m4_, (by rw [ha.out]; exact putSel_upk 0 hb_ rfl rfl rfl), Q_HB, fun h0_ => absurd ((hoff 1 (by kernel_rfl)).symm.trans h0_) (by decide), fun h0_ => absurd ((hoff 4 (by kernel_rfl)).symm.trans h0_) (by decide), fun h0_ => absurd ((hoff 1 (by kernel_rfl)).symm.trans h0_) (by decide), fun h0_ => absurd ((hoff 4 (by kernel_rfl)).symm.trans h0_) (by decide)⟩
        refine steps_cons ?_ ?_
        · rintro b a w' ⟨A26, c26, A29, c29, m1_, m4_, ha, Q_HB, Q_FV, Q_FA, Q_X1_, Q_X4_⟩ hb_ hon hoff
          refine ⟨_, rfl, fun K hK => ?_⟩
          have e25 : a.tmps[25]? = some (.agg #[.int .i64 va, .int .u64 vb]) := by rw [ha]; exact putSel_on (e := (0, 25, .agg #[.int .i64 va, .int .u64 vb])) 0 rfl rfl (hon 0 (by kernel_rfl)) rfl
          replace ha := Aside0.mk ha
          have HB := Aside0.mk Q_HB
          refine goes_ Try.func28 (by kernel_rfl) rfl #[.agg #[.int .i64 va, .int .u64 vb]] (by rfl) rfl rfl (by first | (simp only [List.map_toArray, List.map_cons, List.map_nil, Act.eval, Array.getD_eq_getD_getElem?, Option.getD_some, e25]; done) | (simp only [List.map_toArray, List.map_cons, List.map_nil, Act.eval, Array.getD_eq_getD_getElem?, Option.getD_some, e25]; rfl)) ?_
          with_reducible refine (HFv.out _).mono ?_
          rintro e w1 ⟨u1, rfl, ⟨A1, c1, rfl, h1⟩, hb⟩
          refine ⟨_, rfl, ?_⟩
          refine hK.out _ _ ⟨A1, c1, A29, c29, (.agg #[.bool (decide (v < 0)), .slice A1 (limbs v.natAbs).length c1]), m4_, (by rw [ha.out]; exact putSel_upk 1 hb_ rfl rfl rfl), hop HB.out hb, fun _ => h1, fun h0_ => absurd ((hoff 4 (by kernel_rfl)).symm.trans h0_) (by decide), fun _ => rfl, fun h0_ => absurd ((hoff 4 (by kernel_rfl)).symm.trans h0_) (by decide)⟩
        refine steps_cons ?_ ?_
        · rintro b a w' ⟨A26, c26, A29, c29, m1_, m4_, ha, Q_HB, Q_FV, Q_FA, Q_X1_, Q_X4_⟩ hb_ hon hoff
          refine ⟨_, rfl, fun K hK => ?_⟩
          have e9 : a.tmps[9]? = some (.pointer (some ⟨g9, 0, none⟩)) := by rw [ha]; exact (putSel_off rfl).trans rfl
          replace ha := Aside0.mk ha
          have HB := Aside0.mk Q_HB
          have k0 := blk_cell ((HB.out.block _ (blk_lt HT.out)).trans HT.out) 0
          have k1 := blk_cell ((HB.out.block _ (blk_lt HT.out)).trans HT.out) 1
          refine value_ (w1 := w') (v := .agg #[.bool (decide (t < 0)), .slice A9 (limbs t.natAbs).length c9]) (by rfl) rfl ?_ ?_
          · go_simp
            (try simp only [i64_w])
            try rfl
          refine hK.out _ _ ⟨A26, c26, A29, c29, m1_, m4_, (by rw [ha.out]; exact putSel_upk 2 hb_ rfl rfl rfl), Q_HB, Q_FV, fun h0_ => absurd ((hoff 4 (by kernel_rfl)).symm.trans h0_) (by decide), Q_X1_, fun h0_ => absurd ((hoff 4 (by kernel_rfl)).symm.trans h0_) (by decide)⟩
        refine steps_cons ?_ ?_
        · rintro b a w' ⟨A26, c26, A29, c29, m1_, m4_, ha, Q_HB, Q_FV, Q_FA, Q_X1_, Q_X4_⟩ hb_ hon hoff
          refine ⟨_, rfl, fun K hK => ?_⟩
          have e10 : a.tmps[10]? = some (.pointer (some ⟨g10, 0, none⟩)) := by rw [ha]; exact (putSel_off rfl).trans rfl
          replace ha := Aside0.mk ha
          have HB := Aside0.mk Q_HB
          have k0 := blk_cell ((HB.out.block _ (blk_lt HS.out)).trans HS.out) 0
          have k1 := blk_cell ((HB.out.block _ (blk_lt HS.out)).trans HS.out) 1
          refine value_ (w1 := w') (v := .agg #[.bool (decide (sl < 0)), .slice A10 (limbs sl.natAbs).length c10]) (by rfl) rfl ?_ ?_
          · go_simp
            (try simp only [i64_w])
            try rfl
          refine hK.out _ _ ⟨A26, c26, A29, c29, m1_, m4_, (by rw [ha.out]; exact putSel_upk 3 hb_ rfl rfl rfl), Q_HB, Q_FV, fun h0_ => absurd ((hoff 4 (by kernel_rfl)).symm.trans h0_) (by decide), Q_X1_, fun h0_ => absurd ((hoff 4 (by kernel_rfl)).symm.trans h0_) (by decide)⟩
        refine steps_cons ?_ ?_
        · rintro b a w' ⟨A26, c26, A29, c29, m1_, m4_, ha, Q_HB, Q_FV, Q_FA, Q_X1_, Q_X4_⟩ hb_ hon hoff
          refine ⟨_, rfl, fun K hK => ?_⟩
          have e27 : a.tmps[27]? = some (.agg #[.bool (decide (t < 0)), .slice A9 (limbs t.natAbs).length c9]) := by rw [ha]; exact putSel_on (e := (2, 27, .agg #[.bool (decide (t < 0)), .slice A9 (limbs t.natAbs).length c9])) 2 rfl rfl (hon 2 (by kernel_rfl)) rfl
          have e28 : a.tmps[28]? = some (.agg #[.bool (decide (sl < 0)), .slice A10 (limbs sl.natAbs).length c10]) := by rw [ha]; exact putSel_on (e := (3, 28, .agg #[.bool (decide (sl < 0)), .slice A10 (limbs sl.natAbs).length c10])) 3 rfl rfl (hon 3 (by kernel_rfl)) rfl
          replace ha := Aside0.mk ha
          have HB := Aside0.mk Q_HB
          have FV := Aside0.mk (Q_FV (hon 1 (by kernel_rfl)))
          refine goes_ Try.func30 (by kernel_rfl) rfl #[.agg #[.bool (decide (t < 0)), .slice A9 (limbs t.natAbs).length c9], .agg #[.bool (decide (sl < 0)), .slice A10 (limbs sl.natAbs).length c10]] (by rfl) rfl rfl (by first | (simp only [List.map_toArray, List.map_cons, List.map_nil, Act.eval, Array.getD_eq_getD_getElem?, Option.getD_some, e27, e28]; done) | (simp only [List.map_toArray, List.map_cons, List.map_nil, Act.eval, Array.getD_eq_getD_getElem?, Option.getD_some, e27, e28]; rfl)) ?_
          with_reducible refine (ref_AddN (x := t) (y := sl) (NumV.of (LT.out.below HB.out)) (NumV.of (LS.out.below HB.out)) ft.out fs.out).mono ?_
          rintro e w1 ⟨u1, rfl, ⟨A1, c1, rfl, h1⟩, hb⟩
          refine ⟨_, rfl, ?_⟩
          refine hK.out _ _ ⟨A26, c26, A1, c1, m1_, (.agg #[.bool (decide (t + sl < 0)), .slice A1 (limbs (t + sl).natAbs).length c1]), (by rw [ha.out]; exact putSel_upk 4 hb_ rfl rfl rfl), hop HB.out hb, fun h1 => (Q_FV h1).below hb, fun _ => h1, Q_X1_, fun _ => rfl⟩
        refine steps_cons ?_ ?_
        · rintro b a w' ⟨A26, c26, A29, c29, m1_, m4_, ha, Q_HB, Q_FV, Q_FA, Q_X1_, Q_X4_⟩ hb_ hon hoff
          refine ⟨_, rfl, fun K hK => ?_⟩
          have e26 : a.tmps[26]? = some (m1_) := by rw [ha]; exact putSel_on (e := (1, 26, m1_)) 1 rfl rfl (hon 1 (by kernel_rfl)) rfl
          rw [Q_X1_ (hon 1 (by kernel_rfl))] at e26
          have e29 : a.tmps[29]? = some (m4_) := by rw [ha]; exact putSel_on (e := (4, 29, m4_)) 4 rfl rfl (hon 4 (by kernel_rfl)) rfl
          rw [Q_X4_ (hon 4 (by kernel_rfl))] at e29
          replace ha := Aside0.mk ha
          have HB := Aside0.mk Q_HB
          have FV := Aside0.mk (Q_FV (hon 1 (by kernel_rfl)))
          have FA := Aside0.mk (Q_FA (hon 4 (by kernel_rfl)))
          refine goes_ Try.func29 (by kernel_rfl) rfl #[.agg #[.bool (decide (v < 0)), .slice A26 (limbs v.natAbs).length c26], .agg #[.bool (decide (t + sl < 0)), .slice A29 (limbs (t + sl).natAbs).length c29]] (by rfl) rfl rfl (by first | (simp only [List.map_toArray, List.map_cons, List.map_nil, Act.eval, Array.getD_eq_getD_getElem?, Option.getD_some, e26, e29]; done) | (simp only [List.map_toArray, List.map_cons, List.map_nil, Act.eval, Array.getD_eq_getD_getElem?, Option.getD_some, e26, e29]; rfl)) ?_
          with_reducible refine (ref_CmpN (x := v) (y := t + sl) (NumV.of FV.out) (NumV.of FA.out)).mono ?_
          rintro e w1 ⟨rfl, hb⟩
          refine ⟨_, rfl, ?_⟩
          refine hK.out _ _ ⟨A26, c26, A29, c29, m1_, m4_, (by rw [ha.out]; exact putSel_upk 5 hb_ rfl rfl rfl), hop HB.out hb, fun h1 => (Q_FV h1).below hb, fun h4 => (Q_FA h4).below hb, Q_X1_, Q_X4_⟩
        refine steps_cons ?_ ?_
        · rintro b a w' ⟨A26, c26, A29, c29, m1_, m4_, ha, Q_HB, Q_FV, Q_FA, Q_X1_, Q_X4_⟩ hb_ hon hoff
          refine ⟨_, rfl, fun K hK => ?_⟩
          have e30 : a.tmps[30]? = some (.int .i64 (sgn (v - (t + sl)))) := by rw [ha]; exact putSel_on (e := (5, 30, .int .i64 (sgn (v - (t + sl))))) 5 rfl rfl (hon 5 (by kernel_rfl)) rfl
          replace ha := Aside0.mk ha
          have HB := Aside0.mk Q_HB
          have FV := Aside0.mk (Q_FV (hon 1 (by kernel_rfl)))
          have FA := Aside0.mk (Q_FA (hon 4 (by kernel_rfl)))
          refine value_ (w1 := w') (v := .bool (decide (sgn (v - (t + sl)) ≤ 0))) (by rfl) rfl ?_ ?_
          · go_simp
            (try simp only [i64_w])
            try rfl
          refine hK.out _ _ ⟨A26, c26, A29, c29, m1_, m4_, (by rw [ha.out]; exact putSel_upk 6 hb_ rfl rfl rfl), Q_HB, Q_FV, Q_FA, Q_X1_, Q_X4_⟩
        refine steps_cons ?_ ?_
        · rintro b a w' ⟨A26, c26, A29, c29, m1_, m4_, ha, Q_HB, Q_FV, Q_FA, Q_X1_, Q_X4_⟩ hb_ hon hoff
          refine ⟨_, rfl, fun K hK => ?_⟩
          have e31 : a.tmps[31]? = some (.bool (decide (sgn (v - (t + sl)) ≤ 0))) := by rw [ha]; exact putSel_on (e := (6, 31, .bool (decide (sgn (v - (t + sl)) ≤ 0)))) 6 rfl rfl (hon 6 (by kernel_rfl)) rfl
          replace ha := Aside0.mk ha
          have HB := Aside0.mk Q_HB
          have FV := Aside0.mk (Q_FV (hon 1 (by kernel_rfl)))
          have FA := Aside0.mk (Q_FA (hon 4 (by kernel_rfl)))
          refine value_ (w1 := w') (v := .bool (decide (sgn (v - (t + sl)) ≤ 0))) (by rfl) rfl ?_ ?_
          · go_simp
            (try simp only [i64_w])
            try rfl
          refine hK.out _ _ ⟨A26, c26, A29, c29, m1_, m4_, (by rw [ha.out]; exact putSel_upk 7 hb_ rfl rfl rfl), Q_HB, Q_FV, Q_FA, Q_X1_, Q_X4_⟩
        exact steps_nil
      · rintro b a w' hall ⟨A26, c26, A29, c29, m1_, m4_, ha, Q_HB, Q_FV, Q_FA, Q_X1_, Q_X4_⟩
        clear HB
        have hb0_ := hall 0 (by kernel_rfl)
        have hb1_ := hall 1 (by kernel_rfl)
        have hb2_ := hall 2 (by kernel_rfl)
        have hb3_ := hall 3 (by kernel_rfl)
        have hb4_ := hall 4 (by kernel_rfl)
        have hb5_ := hall 5 (by kernel_rfl)
        have hb6_ := hall 6 (by kernel_rfl)
        have hb7_ := hall 7 (by kernel_rfl)
        subst ha
        obtain rfl := Q_X1_ hb1_
        obtain rfl := Q_X4_ hb4_
        simp only [putSel, hb0_, hb1_, hb2_, hb3_, hb4_, hb5_, hb6_, hb7_, if_true, Act.put, List.setIfInBounds_toArray, List.set_cons_zero, List.set_cons_succ]
        have HB := Aside0.mk Q_HB
        clear Q_HB
        have FV := Aside0.mk (Q_FV hb1_)
        clear Q_FV
        have FA := Aside0.mk (Q_FA hb4_)
        clear Q_FA
        clear hall hb0_ hb1_ hb2_ hb3_ hb4_ hb5_ hb6_ hb7_
        go_wp2_with (fail)
        go_ret
        rw [HP.out]
        exact ⟨rfl, hop NB.out HB.out⟩
end Go.Proofs.Ytadmigijbfdboaa.Q
