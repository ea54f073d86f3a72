import Derived.Test.YthnihjfdmkfkiaaTWid
namespace Go.Proofs.Ythnihjfdmkfkiaa.Q
open Go.RowKit Go.Proofs.YthnihjfdmkfkiaaW.PrintWords Go.Proofs.YthnihjfdmkfkiaaW.PrintLast Go.Proofs.YthnihjfdmkfkiaaW.PrintMore Go.Proofs.YthnihjfdmkfkiaaV
set_option linter.unusedVariables false
set_option linter.unusedSimpArgs false

/-- Is it a sample? -/
def smp (x : Int) : Prop := 0 ≤ x ∧ x ≤ 100000000000000
theorem sum_smp {l : List Int} (h : ∀ x ∈ l, smp x) : 0 ≤ l.sum ∧ l.sum ≤ l.length * 100000000000000 := by
  induction l with
  | nil => simp
  | cons x t ih =>
    have h1 := h x (by simp)
    have h2 := ih (fun y hy => h y (by simp [hy]))
    unfold smp at h1
    simp only [List.sum_cons, List.length_cons]
    omega
theorem take_sum {l : List Int} {i : Nat} (h : i < l.length) : (l.take (i + 1)).sum = (l.take i).sum + l[i] := by
  rw [List.take_succ_eq_append_getElem h, List.sum_append]
  simp
def sum7.T : Bool × List (List Nat × List Nat) := (true, [([], []), ([], []), ([1], [1]), ([2], [2]), ([0, 3, 3], [0, 3]), ([4], [4]), ([5], [5]), ([5], [5]), ([5], [5]), ([], []), ([], []), ([9, 6, 4, 0, 1, 2, 3, 4, 5, 6, 9, 10], [6, 9]), ([10, 7, 11, 0, 1, 2, 3, 4, 5, 6, 7, 9, 10, 11], [7, 10]), ([8, 12, 0, 1, 2, 3, 4, 5, 6, 7, 8, 9, 10, 11, 12], [8])])
def sum7.B : List Nat := [0, 0, 2, 6, 15, 31, 63, 63, 63, 0, 0, 1663, 3839, 8191]
theorem sum7.tab : rtab .any (opsOf Try.f30 7) = sum7.T := by kernel_rfl
theorem sum7.bits : waitsOk sum7.T.2 sum7.B = true := by kernel_rfl
set_option maxHeartbeats 3200000 in
set_option maxRecDepth 4000 in
theorem timer_sum {w : World} {A : Option Addr} {c : Nat} {l : List Int} (h : Kd.C (Kd.int .i64) w A l.length l) (h0 : 1 ≤ l.length) (hl : l.length ≤ 1048576) (hs : ∀ x ∈ l, smp x) :
    Calls Try.prog 30 #[.slice A l.length c] w fun q w' => q = .returned (.tuple #[WV l.sum, .int .i64 (l.sum / l.length)]) ∧ Below w.heap.size w w' := by
  obtain ⟨W, hW⟩ : ∃ W, W = (w.alloc (.cells #[.int .i64 0, .int .u64 0] 25 (0, 0))).alloc (.cells #[.int .i64 0, .int .u64 0] 25 (0, 0)) := ⟨_, rfl⟩
  have n0 : W.heap[w.heap.size]? = some (.cells #[.int .i64 0, .int .u64 0] 25 (0, 0)) := by rw [hW]; exact blk_alloc (heap_alloc_new _ _) _
  have n1 : W.heap[w.heap.size + 1]? = some (.cells #[.int .i64 0, .int .u64 0] 25 (0, 0)) := by rw [hW]; exact heap_alloc2_new _ _ _
  have nb : Below w.heap.size w W := by rw [hW]; exact below_alloc (below_alloc (Below.refl _ _) _) _
  have HC := Aside0.mk h
  have NB := Aside0.mk nb
  have HW := Aside0.mk hW
  have N0 := Aside0.mk n0
  have N1 := Aside0.mk n1
  have HS := Aside0.mk hs
  have HL := Aside0.mk (And.intro h0 hl)
  unfold WV
  obtain ⟨ra, hra⟩ : ∃ a, a = hiW l.sum := ⟨_, rfl⟩
  obtain ⟨rb, hrb⟩ : ∃ a, a = loW l.sum := ⟨_, rfl⟩
  obtain ⟨me, hme⟩ : ∃ a, a = l.sum / l.length := ⟨_, rfl⟩
  rw [← hra, ← hrb, ← hme]
  have RES := Aside0.mk (And.intro hra (And.intro hrb hme))
  clear h nb hW n0 n1 hs h0 hra hrb hme
  go_enter Try.func30, Try.ntmps30
  go_upto_region 2 with (fail)
  rw [← HW.out]
  go_wp2_with (fail)
  go_loopg [14] l.length (fun kq v14 w' => ∃ i : Nat, v14 = .int .i64 i ∧ i + kq = l.length ∧ Aside0 (w'.heap[w.heap.size]? = some (.cells #[.int .i64 0, .int .u64 0] 25 (0, 0))) ∧ Aside0 (w'.heap[w.heap.size + 1]? = some (.cells #[.int .i64 (hiW (l.take i).sum), .int .u64 (loW (l.take i).sum)] 25 (0, 0))) ∧ Aside0 (Below w.heap.size w w'))
  case atStart => exact ⟨0, rfl, by omega, N0, N1, NB⟩
  case round =>
    clear N0 N1 NB
    obtain ⟨i, rfl, hik, N0, N1, NB⟩ := hrel
    cases gk with
    | zero =>
      obtain rfl : i = l.length := by omega
      have d1 : decide (l.length < l.length) = false := decide_eq_false (by omega)
      rw [List.take_length] at N1
      have hsr := sum_smp HS.out
      have hn := HL.out
      have HO := Aside0.mk (fun W => wide_Of (z := (l.length : Int)) W (by unfold in64; omega))
      have HQ := Aside0.mk (fun W => wide_Quo (x := l.sum) (y := (l.length : Int)) W (by omega) (by omega))
      have dv : 0 ≤ l.sum / (l.length : Int) ∧ l.sum / (l.length : Int) ≤ 100000000000000 := ⟨Int.ediv_nonneg hsr.1 (by omega), by
        have := Int.ediv_le_ediv (c := (l.length : Int)) (by omega) hsr.2
        rw [Int.mul_comm, Int.mul_ediv_cancel _ (by omega)] at this
        exact this⟩
      have HM := Aside0.mk (fun W => wide_Small (z := l.sum / (l.length : Int)) W (by unfold in64; omega))
      unfold WV at HO HQ HM
      obtain ⟨sa, hsa⟩ : ∃ a, a = hiW l.sum := ⟨_, rfl⟩
      obtain ⟨sb, hsb⟩ : ∃ a, a = loW l.sum := ⟨_, rfl⟩
      obtain ⟨na, hna⟩ : ∃ a, a = hiW (l.length : Int) := ⟨_, rfl⟩
      obtain ⟨nb, hnb⟩ : ∃ a, a = loW (l.length : Int) := ⟨_, rfl⟩
      obtain ⟨qa, hqa⟩ : ∃ a, a = hiW (l.sum / (l.length : Int)) := ⟨_, rfl⟩
      obtain ⟨qb, hqb⟩ : ∃ a, a = loW (l.sum / (l.length : Int)) := ⟨_, rfl⟩
      obtain ⟨ma, hma⟩ : ∃ a, a = hiW (l.sum % (l.length : Int)) := ⟨_, rfl⟩
      obtain ⟨mb, hmb⟩ : ∃ a, a = loW (l.sum % (l.length : Int)) := ⟨_, rfl⟩
      rw [← hsa, ← hsb] at N1
      rw [← hna, ← hnb] at HO
      rw [← hsa, ← hsb, ← hna, ← hnb, ← hqa, ← hqb, ← hma, ← hmb] at HQ
      rw [← hqa, ← hqb] at HM
      have R0 := RES.out
      rw [← hsa, ← hsb] at R0
      have RES := Aside0.mk R0
      have NS := N1
      clear R0 hsr hn dv hsa hsb hna hnb hqa hqb hma hmb hl
      go_upto_region 7 with (fail)
      go_cut [7] from 8 to 34 (fun v7 wx => ∃ g7, v7 = .pointer (some ⟨g7, 0, none⟩) ∧ Aside0 (wx.heap[g7]? = some (.cells #[.int .i64 qa, .int .u64 qb] 25 (0, 0))) ∧ Aside0 (Below wr.heap.size wr wx))
      case first =>
        have HB := Aside0.mk (show Below wr.heap.size wr wr.drew from (Below.refl _ _).drew)
        have D9_10 : True := trivial
        refine start_ (n := 14) (S := fun w' => True) (ds := []) #[false, false, false, false, false, false, false, false, false, false, false, false, false, false] (by kernel_rfl) rfl rfl trivial (fun hHeld => ?_)
        refine with_tabW sum7.tab sum7.bits (fun HT_ HW_ => ?_)
        refine inv_at [0, 1, 2, 3, 4, 5, 6, 7, 8, 9, 10, 11, 12, 13] (fun a0_ b a w' => ∃ (g7 : Nat) (g8 : Nat) (m9_ : Value) (m10_ : Value), a = putSel a0_ b [(0, 27, .agg #[.int .i64 sa, .int .u64 sb]), (1, 28, .slice A l.length c), (2, 29, .int .i64 (l.length : Int)), (3, 30, .agg #[.int .i64 na, .int .u64 nb]), (4, 31, .tuple #[.agg #[.int .i64 qa, .int .u64 qb], .agg #[.int .i64 ma, .int .u64 mb], .int .i64 0]), (5, 26, .tuple #[.agg #[.int .i64 qa, .int .u64 qb], .agg #[.int .i64 ma, .int .u64 mb], .int .i64 0]), (6, 32, .agg #[.int .i64 qa, .int .u64 qb]), (7, 33, .agg #[.int .i64 ma, .int .u64 mb]), (8, 34, .int .i64 0), (9, 7, m9_), (10, 8, m10_), (13, 9, .int .i64 0)] ∧ (Below wr.heap.size wr w') ∧ (b 9 = true → wr.heap.size ≤ g7) ∧ (b 9 = true → g7 < w'.heap.size) ∧ (b 9 = true → b 11 = false → w'.heap[g7]? = some (.cells #[.int .i64 0, .int .u64 0] 25 (0, 0))) ∧ (b 9 = true → b 11 = true → w'.heap[g7]? = some (.cells #[.int .i64 qa, .int .u64 qb] 25 (0, 0))) ∧ (b 10 = true → wr.heap.size ≤ g8) ∧ (b 10 = true → g8 < w'.heap.size) ∧ (b 10 = true → b 12 = false → w'.heap[g8]? = some (.cells #[.int .i64 0, .int .u64 0] 25 (0, 0))) ∧ (b 10 = true → b 12 = true → w'.heap[g8]? = some (.cells #[.int .i64 ma, .int .u64 mb] 25 (0, 0))) ∧ ((b 9 = true → b 10 = true → g7 ≠ g8)) ∧ (b 9 = true → (m9_ : Value) = .pointer (some ⟨g7, 0, none⟩)) ∧ (b 10 = true → (m10_ : Value) = .pointer (some ⟨g8, 0, none⟩))) HT_.out HW_.out (by kernel_rfl) (by kernel_rfl) ?_ ?_ ?_
        · exact ⟨0, 0, .bool false, .bool false, by simp only [putSel, Bool.false_eq_true, if_false], HB.out, fun h_ => absurd h_ (by decide), fun h_ => absurd h_ (by decide), fun h_ => absurd h_ (by decide), fun h_ => absurd h_ (by decide), fun h_ => absurd h_ (by decide), fun h_ => absurd h_ (by decide), fun h_ => absurd h_ (by decide), fun h_ => absurd h_ (by decide), fun h_ => absurd h_ (by decide), fun h_ => absurd h_ (by decide), fun h_ => absurd h_ (by decide)⟩
        · skip
          clear D9_10 HB
          refine steps_cons ?_ ?_
          · rintro b a w' ⟨g7, g8, m9_, m10_, ha, Q_HB, Q_G9, Q_L9, Q_Z9, Q_N11, Q_G10, Q_L10, Q_Z10, Q_N12, Q_D9_10, Q_X9_, Q_X10_⟩ hb_ hon hoff
            refine ⟨_, rfl, fun K hK => ?_⟩
            have e4 : a.tmps[4]? = some (.pointer (some ⟨w.heap.size + 1, 0, none⟩)) := by rw [ha]; exact (putSel_off rfl).trans rfl
            replace ha := Aside0.mk ha
            have HB := Aside0.mk Q_HB
            have D9_10 := Aside0.mk Q_D9_10
            have k0 := blk_cell ((HB.out.block _ (blk_lt NS.out)).trans NS.out) 0
            have k1 := blk_cell ((HB.out.block _ (blk_lt NS.out)).trans NS.out) 1
            refine value_ (w1 := w') (v := .agg #[.int .i64 sa, .int .u64 sb]) (by rfl) rfl ?_ ?_
            · go_simp
              (try simp only [i64_w])
              try rfl
            refine hK.out _ _ ⟨g7, g8, m9_, m10_, (by rw [ha.out]; exact putSel_upk 0 hb_ rfl rfl rfl), Q_HB, Q_G9, Q_L9, Q_Z9, fun _ h1_ => absurd ((hoff 11 (by kernel_rfl)).symm.trans h1_) (by decide), Q_G10, Q_L10, Q_Z10, fun _ h1_ => absurd ((hoff 12 (by kernel_rfl)).symm.trans h1_) (by decide), Q_D9_10, Q_X9_, Q_X10_⟩
          refine steps_cons ?_ ?_
          · rintro b a w' ⟨g7, g8, m9_, m10_, ha, Q_HB, Q_G9, Q_L9, Q_Z9, Q_N11, Q_G10, Q_L10, Q_Z10, Q_N12, Q_D9_10, Q_X9_, Q_X10_⟩ hb_ hon hoff
            refine ⟨_, rfl, fun K hK => ?_⟩
            have e0 : a.tmps[0]? = some (.slice A l.length c) := by rw [ha]; exact (putSel_off rfl).trans rfl
            replace ha := Aside0.mk ha
            have HB := Aside0.mk Q_HB
            have D9_10 := Aside0.mk Q_D9_10
            refine value_ (w1 := w') (v := .slice A l.length c) (by rfl) rfl ?_ ?_
            · go_simp
              (try simp only [i64_w])
              try rfl
            refine hK.out _ _ ⟨g7, g8, m9_, m10_, (by rw [ha.out]; exact putSel_upk 1 hb_ rfl rfl rfl), Q_HB, Q_G9, Q_L9, Q_Z9, fun _ h1_ => absurd ((hoff 11 (by kernel_rfl)).symm.trans h1_) (by decide), Q_G10, Q_L10, Q_Z10, fun _ h1_ => absurd ((hoff 12 (by kernel_rfl)).symm.trans h1_) (by decide), Q_D9_10, Q_X9_, Q_X10_⟩
          refine steps_cons ?_ ?_
          · rintro b a w' ⟨g7, g8, m9_, m10_, ha, Q_HB, Q_G9, Q_L9, Q_Z9, Q_N11, Q_G10, Q_L10, Q_Z10, Q_N12, Q_D9_10, Q_X9_, Q_X10_⟩ hb_ hon hoff
            refine ⟨_, rfl, fun K hK => ?_⟩
            have e28 : a.tmps[28]? = some (.slice A l.length c) := by rw [ha]; exact putSel_on (e := (1, 28, .slice A l.length c)) 1 rfl rfl (hon 1 (by kernel_rfl)) rfl
            replace ha := Aside0.mk ha
            have HB := Aside0.mk Q_HB
            have D9_10 := Aside0.mk Q_D9_10
            refine value_ (w1 := w') (v := .int .i64 (l.length : Int)) (by rfl) rfl ?_ ?_
            · go_simp
              (try simp only [i64_w])
              try rfl
            refine hK.out _ _ ⟨g7, g8, m9_, m10_, (by rw [ha.out]; exact putSel_upk 2 hb_ rfl rfl rfl), Q_HB, Q_G9, Q_L9, Q_Z9, fun _ h1_ => absurd ((hoff 11 (by kernel_rfl)).symm.trans h1_) (by decide), Q_G10, Q_L10, Q_Z10, fun _ h1_ => absurd ((hoff 12 (by kernel_rfl)).symm.trans h1_) (by decide), Q_D9_10, Q_X9_, Q_X10_⟩
          refine steps_cons ?_ ?_
          · rintro b a w' ⟨g7, g8, m9_, m10_, ha, Q_HB, Q_G9, Q_L9, Q_Z9, Q_N11, Q_G10, Q_L10, Q_Z10, Q_N12, Q_D9_10, Q_X9_, Q_X10_⟩ hb_ hon hoff
            refine ⟨_, rfl, fun K hK => ?_⟩
            have e29 : a.tmps[29]? = some (.int .i64 (l.length : Int)) := by rw [ha]; exact putSel_on (e := (2, 29, .int .i64 (l.length : Int))) 2 rfl rfl (hon 2 (by kernel_rfl)) rfl
            replace ha := Aside0.mk ha
            have HB := Aside0.mk Q_HB
            have D9_10 := Aside0.mk Q_D9_10
            refine goes_ Try.func15 (by kernel_rfl) rfl #[.int .i64 (l.length : Int)] (by rfl) rfl rfl (by first | (simp only [List.map_toArray, List.map_cons, List.map_nil, Act.eval, Array.getD_eq_getD_getElem?, Option.getD_some, e29]; done) | (simp only [List.map_toArray, List.map_cons, List.map_nil, Act.eval, Array.getD_eq_getD_getElem?, Option.getD_some, e29]; rfl)) ?_
            with_reducible refine (HO.out _).mono ?_
            rintro e w1 ⟨rfl, hb⟩
            refine ⟨_, rfl, ?_⟩
            refine hK.out _ _ ⟨g7, g8, m9_, m10_, (by rw [ha.out]; exact putSel_upk 3 hb_ rfl rfl rfl), hop HB.out hb, Q_G9, fun h9 => Nat.lt_of_lt_of_le (Q_L9 h9) hb.size, fun h9 h11 => (hb.block _ (blk_lt (Q_Z9 h9 h11))).trans (Q_Z9 h9 h11), fun _ h1_ => absurd ((hoff 11 (by kernel_rfl)).symm.trans h1_) (by decide), Q_G10, fun h10 => Nat.lt_of_lt_of_le (Q_L10 h10) hb.size, fun h10 h12 => (hb.block _ (blk_lt (Q_Z10 h10 h12))).trans (Q_Z10 h10 h12), fun _ h1_ => absurd ((hoff 12 (by kernel_rfl)).symm.trans h1_) (by decide), Q_D9_10, Q_X9_, Q_X10_⟩
          refine steps_cons ?_ ?_
          · rintro b a w' ⟨g7, g8, m9_, m10_, ha, Q_HB, Q_G9, Q_L9, Q_Z9, Q_N11, Q_G10, Q_L10, Q_Z10, Q_N12, Q_D9_10, Q_X9_, Q_X10_⟩ hb_ hon hoff
            refine ⟨_, rfl, fun K hK => ?_⟩
            have e27 : a.tmps[27]? = some (.agg #[.int .i64 sa, .int .u64 sb]) := by rw [ha]; exact putSel_on (e := (0, 27, .agg #[.int .i64 sa, .int .u64 sb])) 0 rfl rfl (hon 0 (by kernel_rfl)) rfl
            have e30 : a.tmps[30]? = some (.agg #[.int .i64 na, .int .u64 nb]) := by rw [ha]; exact putSel_on (e := (3, 30, .agg #[.int .i64 na, .int .u64 nb])) 3 rfl rfl (hon 3 (by kernel_rfl)) rfl
            replace ha := Aside0.mk ha
            have HB := Aside0.mk Q_HB
            have D9_10 := Aside0.mk Q_D9_10
            refine goes_ Try.func17 (by kernel_rfl) rfl #[.agg #[.int .i64 sa, .int .u64 sb], .agg #[.int .i64 na, .int .u64 nb]] (by rfl) rfl rfl (by first | (simp only [List.map_toArray, List.map_cons, List.map_nil, Act.eval, Array.getD_eq_getD_getElem?, Option.getD_some, e27, e30]; done) | (simp only [List.map_toArray, List.map_cons, List.map_nil, Act.eval, Array.getD_eq_getD_getElem?, Option.getD_some, e27, e30]; rfl)) ?_
            with_reducible refine (HQ.out _).mono ?_
            rintro e w1 ⟨rfl, hb⟩
            refine ⟨_, rfl, ?_⟩
            refine hK.out _ _ ⟨g7, g8, m9_, m10_, (by rw [ha.out]; exact putSel_upk 4 hb_ rfl rfl rfl), hop HB.out hb, Q_G9, fun h9 => Nat.lt_of_lt_of_le (Q_L9 h9) hb.size, fun h9 h11 => (hb.block _ (blk_lt (Q_Z9 h9 h11))).trans (Q_Z9 h9 h11), fun _ h1_ => absurd ((hoff 11 (by kernel_rfl)).symm.trans h1_) (by decide), Q_G10, fun h10 => Nat.lt_of_lt_of_le (Q_L10 h10) hb.size, fun h10 h12 => (hb.block _ (blk_lt (Q_Z10 h10 h12))).trans (Q_Z10 h10 h12), fun _ h1_ => absurd ((hoff 12 (by kernel_rfl)).symm.trans h1_) (by decide), Q_D9_10, Q_X9_, Q_X10_⟩
          refine steps_cons ?_ ?_
          · rintro b a w' ⟨g7, g8, m9_, m10_, ha, Q_HB, Q_G9, Q_L9, Q_Z9, Q_N11, Q_G10, Q_L10, Q_Z10, Q_N12, Q_D9_10, Q_X9_, Q_X10_⟩ hb_ hon hoff
            refine ⟨_, rfl, fun K hK => ?_⟩
            have e31 : a.tmps[31]? = some (.tuple #[.agg #[.int .i64 qa, .int .u64 qb], .agg #[.int .i64 ma, .int .u64 mb], .int .i64 0]) := by rw [ha]; exact putSel_on (e := (4, 31, .tuple #[.agg #[.int .i64 qa, .int .u64 qb], .agg #[.int .i64 ma, .int .u64 mb], .int .i64 0])) 4 rfl rfl (hon 4 (by kernel_rfl)) rfl
            replace ha := Aside0.mk ha
            have HB := Aside0.mk Q_HB
            have D9_10 := Aside0.mk Q_D9_10
            refine value_ (w1 := w') (v := .tuple #[.agg #[.int .i64 qa, .int .u64 qb], .agg #[.int .i64 ma, .int .u64 mb], .int .i64 0]) (by rfl) rfl ?_ ?_
            · go_simp
              (try simp only [i64_w])
              try rfl
            refine hK.out _ _ ⟨g7, g8, m9_, m10_, (by rw [ha.out]; exact putSel_upk 5 hb_ rfl rfl rfl), Q_HB, Q_G9, Q_L9, Q_Z9, fun _ h1_ => absurd ((hoff 11 (by kernel_rfl)).symm.trans h1_) (by decide), Q_G10, Q_L10, Q_Z10, fun _ h1_ => absurd ((hoff 12 (by kernel_rfl)).symm.trans h1_) (by decide), Q_D9_10, Q_X9_, Q_X10_⟩
          refine steps_cons ?_ ?_
          · rintro b a w' ⟨g7, g8, m9_, m10_, ha, Q_HB, Q_G9, Q_L9, Q_Z9, Q_N11, Q_G10, Q_L10, Q_Z10, Q_N12, Q_D9_10, Q_X9_, Q_X10_⟩ hb_ hon hoff
            refine ⟨_, rfl, fun K hK => ?_⟩
            have e26 : a.tmps[26]? = some (.tuple #[.agg #[.int .i64 qa, .int .u64 qb], .agg #[.int .i64 ma, .int .u64 mb], .int .i64 0]) := by rw [ha]; exact putSel_on (e := (5, 26, .tuple #[.agg #[.int .i64 qa, .int .u64 qb], .agg #[.int .i64 ma, .int .u64 mb], .int .i64 0])) 5 rfl rfl (hon 5 (by kernel_rfl)) rfl
            replace ha := Aside0.mk ha
            have HB := Aside0.mk Q_HB
            have D9_10 := Aside0.mk Q_D9_10
            refine value_ (w1 := w') (v := .agg #[.int .i64 qa, .int .u64 qb]) (by rfl) rfl ?_ ?_
            · go_simp
              (try simp only [i64_w])
              try rfl
            refine hK.out _ _ ⟨g7, g8, m9_, m10_, (by rw [ha.out]; exact putSel_upk 6 hb_ rfl rfl rfl), Q_HB, Q_G9, Q_L9, Q_Z9, fun _ h1_ => absurd ((hoff 11 (by kernel_rfl)).symm.trans h1_) (by decide), Q_G10, Q_L10, Q_Z10, fun _ h1_ => absurd ((hoff 12 (by kernel_rfl)).symm.trans h1_) (by decide), Q_D9_10, Q_X9_, Q_X10_⟩
          refine steps_cons ?_ ?_
          · rintro b a w' ⟨g7, g8, m9_, m10_, ha, Q_HB, Q_G9, Q_L9, Q_Z9, Q_N11, Q_G10, Q_L10, Q_Z10, Q_N12, Q_D9_10, Q_X9_, Q_X10_⟩ hb_ hon hoff
            refine ⟨_, rfl, fun K hK => ?_⟩
            have e26 : a.tmps[26]? = some (.tuple #[.agg #[.int .i64 qa, .int .u64 qb], .agg #[.int .i64 ma, .int .u64 mb], .int .i64 0]) := by rw [ha]; exact putSel_on (e := (5, 26, .tuple #[.agg #[.int .i64 qa, .int .u64 qb], .agg #[.int .i64 ma, .int .u64 mb], .int .i64 0])) 5 rfl rfl (hon 5 (by kernel_rfl)) rfl
            replace ha := Aside0.mk ha
            have HB := Aside0.mk Q_HB
            have D9_10 := Aside0.mk Q_D9_10
            refine value_ (w1 := w') (v := .agg #[.int .i64 ma, .int .u64 mb]) (by rfl) rfl ?_ ?_
            · go_simp
              (try simp only [i64_w])
              try rfl
            refine hK.out _ _ ⟨g7, g8, m9_, m10_, (by rw [ha.out]; exact putSel_upk 7 hb_ rfl rfl rfl), Q_HB, Q_G9, Q_L9, Q_Z9, Q_N11, Q_G10, Q_L10, Q_Z10, fun _ h1_ => absurd ((hoff 12 (by kernel_rfl)).symm.trans h1_) (by decide), Q_D9_10, Q_X9_, Q_X10_⟩
          refine steps_cons ?_ ?_
          · rintro b a w' ⟨g7, g8, m9_, m10_, ha, Q_HB, Q_G9, Q_L9, Q_Z9, Q_N11, Q_G10, Q_L10, Q_Z10, Q_N12, Q_D9_10, Q_X9_, Q_X10_⟩ hb_ hon hoff
            refine ⟨_, rfl, fun K hK => ?_⟩
            have e26 : a.tmps[26]? = some (.tuple #[.agg #[.int .i64 qa, .int .u64 qb], .agg #[.int .i64 ma, .int .u64 mb], .int .i64 0]) := by rw [ha]; exact putSel_on (e := (5, 26, .tuple #[.agg #[.int .i64 qa, .int .u64 qb], .agg #[.int .i64 ma, .int .u64 mb], .int .i64 0])) 5 rfl rfl (hon 5 (by kernel_rfl)) rfl
            replace ha := Aside0.mk ha
            have HB := Aside0.mk Q_HB
            have D9_10 := Aside0.mk Q_D9_10
            refine value_ (w1 := w') (v := .int .i64 0) (by rfl) rfl ?_ ?_
            · go_simp
              (try simp only [i64_w])
              try rfl
            refine hK.out _ _ ⟨g7, g8, m9_, m10_, (by rw [ha.out]; exact putSel_upk 8 hb_ rfl rfl rfl), Q_HB, Q_G9, Q_L9, Q_Z9, Q_N11, Q_G10, Q_L10, Q_Z10, Q_N12, Q_D9_10, Q_X9_, Q_X10_⟩
          refine steps_cons ?_ ?_
          · rintro b a w' ⟨g7, g8, m9_, m10_, ha, Q_HB, Q_G9, Q_L9, Q_Z9, Q_N11, Q_G10, Q_L10, Q_Z10, Q_N12, Q_D9_10, Q_X9_, Q_X10_⟩ hb_ hon hoff
            refine ⟨_, rfl, fun K hK => ?_⟩
            replace ha := Aside0.mk ha
            have HB := Aside0.mk Q_HB
            have D9_10 := Aside0.mk Q_D9_10
            have hb := (Below.refl w'.heap.size w').alloc (Nat.le_refl _) (.cells #[.int .i64 0, .int .u64 0] 25 (0, 0))
            refine value_ (w1 := w'.alloc (.cells #[.int .i64 0, .int .u64 0] 25 (0, 0))) (v := .pointer (some ⟨w'.heap.size, 0, none⟩)) (by rfl) rfl ?_ ?_
            · go_simp
              try rfl
            refine hK.out _ _ ⟨w'.heap.size, g8, (.pointer (some ⟨w'.heap.size, 0, none⟩)), m10_, (by rw [ha.out]; exact putSel_upk 9 hb_ rfl rfl rfl), hop HB.out hb, fun _ => HB.out.size, fun _ => (by simp), fun _ _ => heap_alloc_new w' _, fun _ h1_ => absurd ((hoff 11 (by kernel_rfl)).symm.trans h1_) (by decide), Q_G10, fun h10 => Nat.lt_of_lt_of_le (Q_L10 h10) hb.size, fun h10 h12 => (hb.block _ (blk_lt (Q_Z10 h10 h12))).trans (Q_Z10 h10 h12), fun _ h1_ => absurd ((hoff 12 (by kernel_rfl)).symm.trans h1_) (by decide), fun h1 h2 => (fun e => by have := Q_L10 h2; omega), fun _ => rfl, Q_X10_⟩
          refine steps_cons ?_ ?_
          · rintro b a w' ⟨g7, g8, m9_, m10_, ha, Q_HB, Q_G9, Q_L9, Q_Z9, Q_N11, Q_G10, Q_L10, Q_Z10, Q_N12, Q_D9_10, Q_X9_, Q_X10_⟩ hb_ hon hoff
            refine ⟨_, rfl, fun K hK => ?_⟩
            replace ha := Aside0.mk ha
            have HB := Aside0.mk Q_HB
            have D9_10 := Aside0.mk Q_D9_10
            have hb := (Below.refl w'.heap.size w').alloc (Nat.le_refl _) (.cells #[.int .i64 0, .int .u64 0] 25 (0, 0))
            refine value_ (w1 := w'.alloc (.cells #[.int .i64 0, .int .u64 0] 25 (0, 0))) (v := .pointer (some ⟨w'.heap.size, 0, none⟩)) (by rfl) rfl ?_ ?_
            · go_simp
              try rfl
            refine hK.out _ _ ⟨g7, w'.heap.size, m9_, (.pointer (some ⟨w'.heap.size, 0, none⟩)), (by rw [ha.out]; exact putSel_upk 10 hb_ rfl rfl rfl), hop HB.out hb, Q_G9, fun h9 => Nat.lt_of_lt_of_le (Q_L9 h9) hb.size, fun h9 h11 => (hb.block _ (blk_lt (Q_Z9 h9 h11))).trans (Q_Z9 h9 h11), fun _ h1_ => absurd ((hoff 11 (by kernel_rfl)).symm.trans h1_) (by decide), fun _ => HB.out.size, fun _ => (by simp), fun _ _ => heap_alloc_new w' _, fun _ h1_ => absurd ((hoff 12 (by kernel_rfl)).symm.trans h1_) (by decide), fun h1 h2 => (fun e => by have := Q_L9 h1; omega), Q_X9_, fun _ => rfl⟩
          refine steps_cons ?_ ?_
          · rintro b a w' ⟨g7, g8, m9_, m10_, ha, Q_HB, Q_G9, Q_L9, Q_Z9, Q_N11, Q_G10, Q_L10, Q_Z10, Q_N12, Q_D9_10, Q_X9_, Q_X10_⟩ hb_ hon hoff
            refine ⟨_, rfl, fun K hK => ?_⟩
            have e7 : a.tmps[7]? = some (m9_) := by rw [ha]; exact putSel_on (e := (9, 7, m9_)) 9 rfl rfl (hon 9 (by kernel_rfl)) rfl
            rw [Q_X9_ (hon 9 (by kernel_rfl))] at e7
            have e32 : a.tmps[32]? = some (.agg #[.int .i64 qa, .int .u64 qb]) := by rw [ha]; exact putSel_on (e := (6, 32, .agg #[.int .i64 qa, .int .u64 qb])) 6 rfl rfl (hon 6 (by kernel_rfl)) rfl
            replace ha := Aside0.mk ha
            have HB := Aside0.mk Q_HB
            have G9 := Aside0.mk (Q_G9 (hon 9 (by kernel_rfl)))
            have L9 := Aside0.mk (Q_L9 (hon 9 (by kernel_rfl)))
            have Z9 := Aside0.mk (Q_Z9 (hon 9 (by kernel_rfl)) hb_)
            have G10 := Aside0.mk (Q_G10 (hon 10 (by kernel_rfl)))
            have L10 := Aside0.mk (Q_L10 (hon 10 (by kernel_rfl)))
            have Z10 := Aside0.mk (Q_Z10 (hon 10 (by kernel_rfl)) (hoff 12 (by kernel_rfl)))
            have D9_10 := Aside0.mk Q_D9_10
            have hk : Keep w' ((w'.setCell ⟨g7, 0, none⟩ (.int .i64 qa)).setCell ⟨g7, 1, none⟩ (.int .u64 qb)) (fun k => k = g7) := (((Keep.refl w' (fun k => k = g7)).set ⟨g7, 0, none⟩ (.int .i64 qa) (.inl rfl)).set ⟨g7, 1, none⟩ (.int .u64 qb) (.inl rfl))
            have y0 := blk_cell Z9.out 0
            have y1 := blk_cell Z9.out 1
            have z0 := blk_frozen Z9.out 0
            have z1 := blk_frozen Z9.out 1
            refine skip_ (w1 := ((w'.setCell ⟨g7, 0, none⟩ (.int .i64 qa)).setCell ⟨g7, 1, none⟩ (.int .u64 qb))) (by rfl) rfl ?_ ?_
            · go_simp
              try rfl
            refine hK.out _ _ ⟨g7, g8, m9_, m10_, (by rw [ha.out]; exact putSel_none (v := undef) rfl), HB.out.trans (hk.below HB.out.size (fun k e => by have e2 : k = g7 := e; rw [e2]; exact G9.out)), Q_G9, fun h9 => Nat.lt_of_lt_of_le (Q_L9 h9) hk.size, fun _ h1_ => absurd ((up_self b 11).symm.trans h1_) (by decide), fun _ _ => (blk_put (blk_put Z9.out 0 (.int .i64 qa) rfl) 1 (.int .u64 qb) rfl), Q_G10, fun h10 => Nat.lt_of_lt_of_le (Q_L10 h10) hk.size, fun h10 h12 => (hk.block _ (blk_lt (Q_Z10 h10 h12)) (fun e => Q_D9_10 (hon 9 (by kernel_rfl)) h10 e.symm)).trans (Q_Z10 h10 h12), fun _ h1_ => absurd ((hoff 12 (by kernel_rfl)).symm.trans h1_) (by decide), Q_D9_10, Q_X9_, Q_X10_⟩
          refine steps_cons ?_ ?_
          · rintro b a w' ⟨g7, g8, m9_, m10_, ha, Q_HB, Q_G9, Q_L9, Q_Z9, Q_N11, Q_G10, Q_L10, Q_Z10, Q_N12, Q_D9_10, Q_X9_, Q_X10_⟩ hb_ hon hoff
            refine ⟨_, rfl, fun K hK => ?_⟩
            have e8 : a.tmps[8]? = some (m10_) := by rw [ha]; exact putSel_on (e := (10, 8, m10_)) 10 rfl rfl (hon 10 (by kernel_rfl)) rfl
            rw [Q_X10_ (hon 10 (by kernel_rfl))] at e8
            have e33 : a.tmps[33]? = some (.agg #[.int .i64 ma, .int .u64 mb]) := by rw [ha]; exact putSel_on (e := (7, 33, .agg #[.int .i64 ma, .int .u64 mb])) 7 rfl rfl (hon 7 (by kernel_rfl)) rfl
            replace ha := Aside0.mk ha
            have HB := Aside0.mk Q_HB
            have G9 := Aside0.mk (Q_G9 (hon 9 (by kernel_rfl)))
            have L9 := Aside0.mk (Q_L9 (hon 9 (by kernel_rfl)))
            have N11 := Aside0.mk (Q_N11 (hon 9 (by kernel_rfl)) (hon 11 (by kernel_rfl)))
            have G10 := Aside0.mk (Q_G10 (hon 10 (by kernel_rfl)))
            have L10 := Aside0.mk (Q_L10 (hon 10 (by kernel_rfl)))
            have Z10 := Aside0.mk (Q_Z10 (hon 10 (by kernel_rfl)) hb_)
            have D9_10 := Aside0.mk Q_D9_10
            have hk : Keep w' ((w'.setCell ⟨g8, 0, none⟩ (.int .i64 ma)).setCell ⟨g8, 1, none⟩ (.int .u64 mb)) (fun k => k = g8) := (((Keep.refl w' (fun k => k = g8)).set ⟨g8, 0, none⟩ (.int .i64 ma) (.inl rfl)).set ⟨g8, 1, none⟩ (.int .u64 mb) (.inl rfl))
            have y0 := blk_cell Z10.out 0
            have y1 := blk_cell Z10.out 1
            have z0 := blk_frozen Z10.out 0
            have z1 := blk_frozen Z10.out 1
            refine skip_ (w1 := ((w'.setCell ⟨g8, 0, none⟩ (.int .i64 ma)).setCell ⟨g8, 1, none⟩ (.int .u64 mb))) (by rfl) rfl ?_ ?_
            · go_simp
              try rfl
            refine hK.out _ _ ⟨g7, g8, m9_, m10_, (by rw [ha.out]; exact putSel_none (v := undef) rfl), HB.out.trans (hk.below HB.out.size (fun k e => by have e2 : k = g8 := e; rw [e2]; exact G10.out)), Q_G9, fun h9 => Nat.lt_of_lt_of_le (Q_L9 h9) hk.size, fun _ h1_ => absurd ((hon 11 (by kernel_rfl)).symm.trans h1_) (by decide), fun h9 h11 => (hk.block _ (blk_lt (Q_N11 h9 h11)) (fun e => Q_D9_10 h9 (hon 10 (by kernel_rfl)) e)).trans (Q_N11 h9 h11), Q_G10, fun h10 => Nat.lt_of_lt_of_le (Q_L10 h10) hk.size, fun _ h1_ => absurd ((up_self b 12).symm.trans h1_) (by decide), fun _ _ => (blk_put (blk_put Z10.out 0 (.int .i64 ma) rfl) 1 (.int .u64 mb) rfl), Q_D9_10, Q_X9_, Q_X10_⟩
          refine steps_cons ?_ ?_
          · rintro b a w' ⟨g7, g8, m9_, m10_, ha, Q_HB, Q_G9, Q_L9, Q_Z9, Q_N11, Q_G10, Q_L10, Q_Z10, Q_N12, Q_D9_10, Q_X9_, Q_X10_⟩ hb_ hon hoff
            refine ⟨_, rfl, fun K hK => ?_⟩
            have e34 : a.tmps[34]? = some (.int .i64 0) := by rw [ha]; exact putSel_on (e := (8, 34, .int .i64 0)) 8 rfl rfl (hon 8 (by kernel_rfl)) rfl
            replace ha := Aside0.mk ha
            have HB := Aside0.mk Q_HB
            have G9 := Aside0.mk (Q_G9 (hon 9 (by kernel_rfl)))
            have L9 := Aside0.mk (Q_L9 (hon 9 (by kernel_rfl)))
            have N11 := Aside0.mk (Q_N11 (hon 9 (by kernel_rfl)) (hon 11 (by kernel_rfl)))
            have G10 := Aside0.mk (Q_G10 (hon 10 (by kernel_rfl)))
            have L10 := Aside0.mk (Q_L10 (hon 10 (by kernel_rfl)))
            have N12 := Aside0.mk (Q_N12 (hon 10 (by kernel_rfl)) (hon 12 (by kernel_rfl)))
            have D9_10 := Aside0.mk Q_D9_10
            refine value_ (w1 := w') (v := .int .i64 0) (by rfl) rfl ?_ ?_
            · go_simp
              (try simp only [i64_w])
              try rfl
            refine hK.out _ _ ⟨g7, g8, m9_, m10_, (by rw [ha.out]; exact putSel_upk 11 hb_ rfl rfl rfl), Q_HB, Q_G9, Q_L9, fun _ h1_ => absurd ((hon 11 (by kernel_rfl)).symm.trans h1_) (by decide), Q_N11, Q_G10, Q_L10, fun _ h1_ => absurd ((hon 12 (by kernel_rfl)).symm.trans h1_) (by decide), Q_N12, Q_D9_10, Q_X9_, Q_X10_⟩
          exact steps_nil
        · rintro b a w' hall ⟨g7, g8, m9_, m10_, ha, Q_HB, Q_G9, Q_L9, Q_Z9, Q_N11, Q_G10, Q_L10, Q_Z10, Q_N12, Q_D9_10, Q_X9_, Q_X10_⟩
          clear D9_10 HB
          have hb0_ := hall 0 (by kernel_rfl)
          have hb1_ := hall 1 (by kernel_rfl)
          have hb2_ := hall 2 (by kernel_rfl)
          have hb3_ := hall 3 (by kernel_rfl)
          have hb4_ := hall 4 (by kernel_rfl)
          have hb5_ := hall 5 (by kernel_rfl)
          have hb6_ := hall 6 (by kernel_rfl)
          have hb7_ := hall 7 (by kernel_rfl)
          have hb8_ := hall 8 (by kernel_rfl)
          have hb9_ := hall 9 (by kernel_rfl)
          have hb10_ := hall 10 (by kernel_rfl)
          have hb11_ := hall 11 (by kernel_rfl)
          have hb12_ := hall 12 (by kernel_rfl)
          have hb13_ := hall 13 (by kernel_rfl)
          subst ha
          obtain rfl := Q_X9_ hb9_
          obtain rfl := Q_X10_ hb10_
          simp only [putSel, hb0_, hb1_, hb2_, hb3_, hb4_, hb5_, hb6_, hb7_, hb8_, hb9_, hb10_, hb11_, hb12_, hb13_, if_true, Act.put, List.setIfInBounds_toArray, List.set_cons_zero, List.set_cons_succ]
          have HB := Aside0.mk Q_HB
          clear Q_HB
          have G9 := Aside0.mk (Q_G9 hb9_)
          clear Q_G9
          have L9 := Aside0.mk (Q_L9 hb9_)
          clear Q_L9
          clear Q_Z9
          have N11 := Aside0.mk (Q_N11 hb9_ hb11_)
          clear Q_N11
          have G10 := Aside0.mk (Q_G10 hb10_)
          clear Q_G10
          have L10 := Aside0.mk (Q_L10 hb10_)
          clear Q_L10
          clear Q_Z10
          have N12 := Aside0.mk (Q_N12 hb10_ hb12_)
          clear Q_N12
          have D9_10 := Aside0.mk Q_D9_10
          clear Q_D9_10
          clear hall hb0_ hb1_ hb2_ hb3_ hb4_ hb5_ hb6_ hb7_ hb8_ hb9_ hb10_ hb11_ hb12_ hb13_
          go_wp2_with (fail)
          go_meet
          exact ⟨g7, rfl, N11, HB⟩
      case rest =>
        obtain ⟨g7, rfl, M7, HBc⟩ := hcut
        have a0 := blk_cell M7.out 0
        have a1 := blk_cell M7.out 1
        go_upto_region 9 with (first
          | (go_at_call 32; (with_reducible refine (HM.out _).mono ?_); rintro e w1 ⟨rfl, hb⟩; have HB1 := Aside0.mk hb; clear hb))
        have hb2 := hop HBc.out HB1.out
        have m0 := (hb2.block _ (blk_lt N0.out)).trans N0.out
        have m1 := (hb2.block _ (blk_lt NS.out)).trans NS.out
        have l0 := blk_cell m1 0
        have l1 := blk_cell m1 1
        have s0 := blk_cell m0 0
        have s1 := blk_cell m0 1
        have t0 := blk_frozen m0 0
        have t1 := blk_frozen m0 1
        have hsz : w.heap.size < w1.heap.size := blk_lt m0
        have HBZ := Aside0.mk (NB.out.trans ⟨hb2.os, hb2.tape, hb2.output, hb2.size, fun k hk => hb2.block k (Nat.lt_of_lt_of_le hk NB.out.size)⟩)
        clear hb2 m0 m1 a0 a1
        go_wp2_with (fail)
        rw [RES.out.1, RES.out.2.1, RES.out.2.2]
        refine bodyPost_ret (v := .tuple #[.agg #[.int .i64 sa, .int .u64 sb], .int .i64 (l.sum / (l.length : Int))]) (by simp [results, Try.results30, go_sem, l0, l1, s0, s1, t0, t1, hsz]) rfl ⟨rfl, ?_⟩
        exact (HBZ.out.setCell (Nat.le_refl _) _).setCell (Nat.le_refl _) _
    | succ k1 =>
      have hlt : i < l.length := by omega
      have hlm : i < 1048576 := by have := HL.out; omega
      have d1 : decide (i < l.length) = true := decide_eq_true hlt
      obtain ⟨x, hx⟩ : ∃ x, x = l[i] := ⟨_, rfl⟩
      have hsx := HS.out x (by rw [hx]; exact List.getElem_mem hlt)
      unfold smp at hsx
      have hst := sum_smp (l := l.take i) (fun y hy => HS.out y (List.mem_of_mem_take hy))
      have hlen : (l.take i).length ≤ 1048576 := by rw [List.length_take]; omega
      have hts := take_sum hlt
      rw [← hx] at hts
      obtain ⟨ad, hA, hc⟩ := Kd.at_int (Kd.C_below HC.out NB.out) (i : Int) (by omega) (by omega)
      rw [show rd l (i : Int) = x by unfold rd; rw [Int.toNat_natCast, hx]; simp [List.getD_eq_getElem?_getD, hlt]] at hc
      rw [Int.toNat_natCast] at hc
      have HO := Aside0.mk (fun W => wide_Of (z := x) W (by unfold in64; omega))
      have HA := Aside0.mk (fun W => wide_Add (x := (l.take i).sum) (y := x) W (by unfold inW; omega) (by unfold inW; omega) _ 0 (.inl ⟨by unfold inW; omega, rfl, rfl⟩))
      rw [← hts] at HA
      unfold WV at HO HA
      obtain ⟨sa, hsa⟩ : ∃ a, a = hiW (l.take i).sum := ⟨_, rfl⟩
      obtain ⟨sb, hsb⟩ : ∃ a, a = loW (l.take i).sum := ⟨_, rfl⟩
      obtain ⟨ta, hta⟩ : ∃ a, a = hiW (l.take (i + 1)).sum := ⟨_, rfl⟩
      obtain ⟨tb, htb⟩ : ∃ a, a = loW (l.take (i + 1)).sum := ⟨_, rfl⟩
      obtain ⟨xa, hxa⟩ : ∃ a, a = hiW x := ⟨_, rfl⟩
      obtain ⟨xb, hxb⟩ : ∃ a, a = loW x := ⟨_, rfl⟩
      rw [← hsa, ← hsb] at N1
      rw [← hxa, ← hxb] at HO
      rw [← hsa, ← hsb, ← hta, ← htb, ← hxa, ← hxb] at HA
      have HT := Aside0.mk (And.intro hta htb)
      subst hA
      have u0 := blk_cell N1.out 0
      have u1 := blk_cell N1.out 1
      clear hsx hst hlen hts hx hsa hsb hta htb hxa hxb hl
      go_upto_region 5 with (fail)
      go_region_with (first
        | (go_at_call 15; (with_reducible refine (HO.out _).mono ?_); rintro e w1 ⟨rfl, hb⟩; have hb' : Below wr.heap.size wr w1 := ⟨hb.os, hb.tape, hb.output, hb.size, hb.block⟩; have HB1 := Aside0.mk hb'; have p1 := (hb'.block _ (blk_lt N1.out)).trans N1.out; have v0 := blk_cell p1 0; have v1 := blk_cell p1 1; clear hb hb' p1)
        | (go_at_call 16; (with_reducible refine (HA.out _).mono ?_); rintro e w2 ⟨rfl, hb⟩; have hb2 := hop HB1.out hb; have HB2 := Aside0.mk hb2; have p1 := (hb2.block _ (blk_lt N1.out)).trans N1.out; have P1 := Aside0.mk p1; have v2 := blk_cell p1 0; have v3 := blk_cell p1 1; have v4 := blk_frozen p1 0; have v5 := blk_frozen p1 1; clear hb hb2 p1))
      all_goals
        go_wp2_with (fail)
        go_roundg k1
        case rel =>
          have hk : Keep w2 ((w2.setCell ⟨w.heap.size + 1, 0, none⟩ (.int .i64 ta)).setCell ⟨w.heap.size + 1, 1, none⟩ (.int .u64 tb)) (fun k => k = w.heap.size + 1) := keep_set2
          have hb1 := HB2.out
          have hb2 := NB.out.trans ⟨hb1.os, hb1.tape, hb1.output, hb1.size, fun k hk => hb1.block k (Nat.lt_of_lt_of_le hk NB.out.size)⟩
          exact ⟨i + 1, by go_num, by omega, ⟨(hk.block _ (blk_lt ((HB2.out.block _ (blk_lt N0.out)).trans N0.out)) (by omega)).trans ((HB2.out.block _ (blk_lt N0.out)).trans N0.out)⟩, ⟨by rw [← HT.out.1, ← HT.out.2]; exact blk_put (blk_put P1.out 0 _ rfl) 1 _ rfl⟩, ⟨hb2.trans (hk.below hb2.size (fun k e => by have e2 : k = w.heap.size + 1 := e; omega))⟩⟩
        case measure => omega
end Go.Proofs.Ythnihjfdmkfkiaa.Q
