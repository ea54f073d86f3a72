import Derived.Test.YthnihjfdmkfkiaaTQuo
import Derived.Test.YthnihjfdmkfkiaaBWadd
namespace Go.Proofs.Ythnihjfdmkfkiaa.Q
open Go.RowKit Go.Proofs.YthnihjfdmkfkiaaW.PrintWords Go.Proofs.YthnihjfdmkfkiaaW.PrintLast Go.Proofs.YthnihjfdmkfkiaaW.PrintMore Go.Proofs.YthnihjfdmkfkiaaV
set_option linter.unusedVariables false
set_option linter.unusedSimpArgs false

theorem wide_Of {z : Int} (w : World) (hz : in64 z) :
    Calls Try.prog 15 #[.int .i64 z] w fun q w' => q = .returned (WV z) ∧ Below w.heap.size w w' := by
  unfold in64 at hz
  unfold WV
  have HA := Aside0.mk (show hiW z = z / 9223372036854775808 by unfold hiW; omega)
  have HL := Aside0.mk (show loW z = IntKind.u64.wrap z by rw [u64w]; rfl)
  clear hz
  go_enter Try.func15, Try.ntmps15
  go_wp2
  rw [HA.out, HL.out]
  refine bodyPost_ret (v := .agg #[.int .i64 (z / 9223372036854775808), .int .u64 (IntKind.u64.wrap z)]) (by simp [results, Try.results15, go_sem]) rfl ⟨rfl, ?_⟩
  exact (Below.refl _ _).alloc (Nat.le_refl _) _
def sml2.T : Bool × List (List Nat × List Nat) := (true, [([], []), ([0], [0]), ([], []), ([1, 2], [1, 2])])
def sml2.B : List Nat := [0, 1, 0, 7]
theorem sml2.tab : rtab .any (opsOf Try.f32 2) = sml2.T := by kernel_rfl
theorem sml2.bits : waitsOk sml2.T.2 sml2.B = true := by kernel_rfl
set_option maxHeartbeats 1600000 in
theorem wide_Small {z : Int} (w : World) (hz : in64 z) :
    Calls Try.prog 32 #[WV z] w fun q w' => q = .returned (.tuple #[.int .i64 z, .bool true]) ∧ Below w.heap.size w w' := by
  have HO := Aside0.mk (fun W => wide_Of W hz)
  unfold WV at HO ⊢
  have hw : wrap64 (loW z) = z := by unfold in64 at hz; unfold loW wrap64; omega
  obtain ⟨za, hza⟩ : ∃ a, a = hiW z := ⟨_, rfl⟩
  obtain ⟨zb, hzb⟩ : ∃ a, a = loW z := ⟨_, rfl⟩
  rw [← hza, ← hzb] at HO ⊢
  rw [← hzb] at hw
  have HO := Aside0.mk (fun W => (show Calls Try.prog 15 #[.int .i64 (wrap64 zb)] W _ by rw [hw]; exact HO.out W))
  have RES := Aside0.mk hw
  clear hw
  obtain ⟨W, hW⟩ : ∃ W, W = w.alloc (.cells #[.int .i64 za, .int .u64 zb] 25 (0, 0)) := ⟨_, rfl⟩
  have n0 : W.heap[w.heap.size]? = some (.cells #[.int .i64 za, .int .u64 zb] 25 (0, 0)) := by rw [hW]; exact heap_alloc_new _ _
  have NB := Aside0.mk (show Below w.heap.size w W by rw [hW]; exact below_alloc (Below.refl _ _) _)
  have HW := Aside0.mk hW
  have N0 := Aside0.mk n0
  have c1 := blk_cell n0 1
  clear hza hzb hW n0 hz
  go_enter Try.func32, Try.ntmps32
  go_upto_region 1 with (fail)
  rw [← HW.out]
  go_upto_region 2 with (fail)
  have HB := Aside0.mk (show Below W.heap.size W W.drew from (Below.refl _ _).drew)
  refine start_ (n := 4) (S := fun w' => True) (ds := []) #[false, false, false, false] (by kernel_rfl) rfl rfl trivial (fun hHeld => ?_)
  refine with_tabW sml2.tab sml2.bits (fun HT_ HW_ => ?_)
  refine inv_at [0, 1, 2, 3] (fun a0_ b a w' => a = putSel a0_ b [(0, 8, .int .i64 (wrap64 zb)), (1, 9, .agg #[.int .i64 za, .int .u64 zb]), (2, 10, .agg #[.int .i64 za, .int .u64 zb]), (3, 11, .bool false)] ∧ (Below W.heap.size W w')) HT_.out HW_.out (by kernel_rfl) (by kernel_rfl) ?_ ?_ ?_
  · exact ⟨by simp only [putSel, Bool.false_eq_true, if_false], HB.out⟩
  · skip
    clear HB
    refine steps_cons ?_ ?_
    · rintro b a w' ⟨ha, Q_HB⟩ hb_ hon hoff
      refine ⟨_, rfl, fun K hK => ?_⟩
      have e4 : a.tmps[4]? = some (.int .i64 (wrap64 zb)) := by rw [ha]; exact (putSel_off rfl).trans rfl
      replace ha := Aside0.mk ha
      have HB := Aside0.mk Q_HB
      refine value_ (w1 := w') (v := .int .i64 (wrap64 zb)) (by rfl) rfl ?_ ?_
      · go_simp
        (try simp only [i64_w])
        try rfl
      refine hK.out _ _ ⟨(by rw [ha.out]; exact putSel_upk 0 hb_ rfl rfl rfl), Q_HB⟩
    refine steps_cons ?_ ?_
    · rintro b a w' ⟨ha, Q_HB⟩ hb_ hon hoff
      refine ⟨_, rfl, fun K hK => ?_⟩
      have e8 : a.tmps[8]? = some (.int .i64 (wrap64 zb)) := by rw [ha]; exact putSel_on (e := (0, 8, .int .i64 (wrap64 zb))) 0 rfl rfl (hon 0 (by kernel_rfl)) rfl
      replace ha := Aside0.mk ha
      have HB := Aside0.mk Q_HB
      refine goes_ Try.func15 (by kernel_rfl) rfl #[.int .i64 (wrap64 zb)] (by rfl) rfl rfl (by first | (simp only [List.map_toArray, List.map_cons, List.map_nil, Act.eval, Array.getD_eq_getD_getElem?, Option.getD_some, e8]; done) | (simp only [List.map_toArray, List.map_cons, List.map_nil, Act.eval, Array.getD_eq_getD_getElem?, Option.getD_some, e8]; rfl)) ?_
      with_reducible refine (HO.out _).mono ?_
      rintro e w1 ⟨rfl, hb⟩
      refine ⟨_, rfl, ?_⟩
      refine hK.out _ _ ⟨(by rw [ha.out]; exact putSel_upk 1 hb_ rfl rfl rfl), hop HB.out hb⟩
    refine steps_cons ?_ ?_
    · rintro b a w' ⟨ha, Q_HB⟩ hb_ hon hoff
      refine ⟨_, rfl, fun K hK => ?_⟩
      have e1 : a.tmps[1]? = some (.pointer (some ⟨w.heap.size, 0, none⟩)) := by rw [ha]; exact (putSel_off rfl).trans rfl
      replace ha := Aside0.mk ha
      have HB := Aside0.mk Q_HB
      have k0 := blk_cell ((HB.out.block _ (blk_lt N0.out)).trans N0.out) 0
      have k1 := blk_cell ((HB.out.block _ (blk_lt N0.out)).trans N0.out) 1
      refine value_ (w1 := w') (v := .agg #[.int .i64 za, .int .u64 zb]) (by rfl) rfl ?_ ?_
      · go_simp
        (try simp only [i64_w])
        try rfl
      refine hK.out _ _ ⟨(by rw [ha.out]; exact putSel_upk 2 hb_ rfl rfl rfl), Q_HB⟩
    refine steps_cons ?_ ?_
    · rintro b a w' ⟨ha, Q_HB⟩ hb_ hon hoff
      refine ⟨_, rfl, fun K hK => ?_⟩
      have e9 : a.tmps[9]? = some (.agg #[.int .i64 za, .int .u64 zb]) := by rw [ha]; exact putSel_on (e := (1, 9, .agg #[.int .i64 za, .int .u64 zb])) 1 rfl rfl (hon 1 (by kernel_rfl)) rfl
      have e10 : a.tmps[10]? = some (.agg #[.int .i64 za, .int .u64 zb]) := by rw [ha]; exact putSel_on (e := (2, 10, .agg #[.int .i64 za, .int .u64 zb])) 2 rfl rfl (hon 2 (by kernel_rfl)) rfl
      replace ha := Aside0.mk ha
      have HB := Aside0.mk Q_HB
      refine value_ (w1 := w') (v := .bool false) (by rfl) rfl ?_ ?_
      · go_simp
        (try simp only [i64_w])
        try rfl
      refine hK.out _ _ ⟨(by rw [ha.out]; exact putSel_upk 3 hb_ rfl rfl rfl), Q_HB⟩
    exact steps_nil
  · rintro b a w' hall ⟨ha, Q_HB⟩
    clear HB
    have hb0_ := hall 0 (by kernel_rfl)
    have hb1_ := hall 1 (by kernel_rfl)
    have hb2_ := hall 2 (by kernel_rfl)
    have hb3_ := hall 3 (by kernel_rfl)
    subst ha
    simp only [putSel, hb0_, hb1_, hb2_, hb3_, if_true, Act.put, List.setIfInBounds_toArray, List.set_cons_zero, List.set_cons_succ]
    have HB := Aside0.mk Q_HB
    clear Q_HB
    clear hall hb0_ hb1_ hb2_ hb3_
    go_wp2_with (fail)
    go_ret2
    exact ⟨by rw [RES.out]; rfl, hop NB.out HB.out⟩
/-- The square root, cut. -/
def isqN : Nat → Nat
  | 0 => 0
  | n + 1 => if (isqN n + 1) * (isqN n + 1) ≤ n + 1 then isqN n + 1 else isqN n
def isq (v : Int) : Int := ((isqN v.toNat : Nat) : Int)
theorem isqN_spec (n : Nat) : isqN n * isqN n ≤ n ∧ n < (isqN n + 1) * (isqN n + 1) := by
  induction n with
  | zero => exact ⟨Nat.le_refl _, by decide⟩
  | succ n ih =>
    unfold isqN
    split
    · rename_i h
      refine ⟨h, ?_⟩
      have : (isqN n + 1) * (isqN n + 1) < (isqN n + 1 + 1) * (isqN n + 1 + 1) := Nat.mul_self_lt_mul_self (by omega)
      omega
    · rename_i h
      exact ⟨by omega, by omega⟩
theorem root_ex {v : Int} (hv : 0 ≤ v) : 0 ≤ isq v ∧ isq v * isq v ≤ v ∧ v < (isq v + 1) * (isq v + 1) := by
  obtain ⟨h1, h2⟩ := isqN_spec v.toNat
  unfold isq
  generalize isqN v.toNat = r at h1 h2
  have e1 : ((r * r : Nat) : Int) = (r : Int) * (r : Int) := by simp
  have e3 : (((r + 1) * (r + 1) : Nat) : Int) = ((r : Int) + 1) * ((r : Int) + 1) := by simp
  exact ⟨Int.natCast_nonneg r, by rw [← e1]; omega, by rw [← e3]; omega⟩
theorem sq_mono {a b : Int} (h0 : 0 ≤ a) (h : a ≤ b) : a * a ≤ b * b := Int.mul_le_mul h h h0 (by omega)
theorem isq_eq {v r : Int} (h0 : 0 ≤ r) (h1 : r * r ≤ v) (h2 : v < (r + 1) * (r + 1)) : isq v = r := by
  obtain ⟨a0, a1, a2⟩ := root_ex (v := v) (by have := Int.mul_nonneg h0 h0; omega)
  generalize isq v = q at a0 a1 a2
  by_cases hlt : q < r
  · have := sq_mono (a := q + 1) (b := r) (by omega) (by omega)
    omega
  · by_cases hgt : r < q
    · have := sq_mono (a := r + 1) (b := q) (by omega) (by omega)
      omega
    · omega
/-- What is known of the root with k bits to go. -/
def RtI (v : Int) (k : Nat) (r : Int) : Prop := 0 ≤ r ∧ r * r ≤ v ∧ v < (r + 2 ^ k) * (r + 2 ^ k) ∧ r % 2 ^ k = 0 ∧ r + 2 ^ k ≤ 18446744073709551616
theorem rt_step {v r : Int} {k : Nat} (h : RtI v (k + 1) r) (hk : k ≤ 63) : bits .or .u64 r (2 ^ k) = r + 2 ^ k ∧ r + 2 ^ k ≤ 18446744073709551615 ∧ ((r + 2 ^ k) * (r + 2 ^ k) ≤ v → RtI v k (r + 2 ^ k)) ∧ (¬ (r + 2 ^ k) * (r + 2 ^ k) ≤ v → RtI v k r) := by
  obtain ⟨a, b, c, d, e⟩ := h
  have hp := pow2_pos k
  have e2 : (2 : Int) ^ (k + 1) = 2 * 2 ^ k := by rw [Int.pow_succ, Int.mul_comm]
  have hr : r < 18446744073709551616 := by have := pow2_pos (k + 1); omega
  have h1 := orp r k a hr d hk
  have hm : r % 2 ^ k = 0 := by
    have : (2 : Int) ^ k ∣ r := Int.dvd_trans ⟨2, by rw [e2, Int.mul_comm]⟩ (Int.dvd_of_emod_eq_zero d)
    exact Int.emod_eq_zero_of_dvd this
  have hm2 : (r + 2 ^ k) % 2 ^ k = 0 := by rw [Int.add_emod_right, hm]
  rw [e2] at c e
  refine ⟨h1, by omega, fun h => ⟨by omega, h, ?_, hm2, by omega⟩, fun h => ⟨a, b, by omega, hm, by omega⟩⟩
  rw [show r + 2 ^ k + 2 ^ k = r + 2 * 2 ^ k by omega]
  exact c
theorem rt_test {x va vb : Int} (h0 : 0 ≤ x) (h1 : 0 ≤ va) (h2 : 0 ≤ vb) (h3 : vb ≤ 18446744073709551615) : x ≤ va * 18446744073709551616 + vb ↔ (x / 18446744073709551616 < va ∨ (x / 18446744073709551616 = va ∧ x % 18446744073709551616 ≤ vb)) := by omega
set_option maxHeartbeats 1600000 in
theorem wide_Root {v : Int} (w : World) (hv : 0 ≤ v ∧ v ≤ 170141183460469231731687303715884105727) :
    Calls Try.prog 31 #[WV v] w fun q w' => q = .returned (.tuple #[WV (isq v), .int .i64 0]) ∧ Below w.heap.size w w' := by
  unfold WV
  obtain ⟨ra, hra⟩ : ∃ a, a = hiW (isq v) := ⟨_, rfl⟩
  obtain ⟨rb, hrb⟩ : ∃ a, a = loW (isq v) := ⟨_, rfl⟩
  rw [← hra, ← hrb]
  have RES := Aside0.mk (And.intro hra hrb)
  obtain ⟨va, hva⟩ : ∃ a, a = hiW v := ⟨_, rfl⟩
  obtain ⟨vb, hvb⟩ : ∃ a, a = loW v := ⟨_, rfl⟩
  rw [← hva, ← hvb]
  have g0 : 0 ≤ va ∧ va ≤ 9223372036854775807 := by rw [hva]; unfold hiW; omega
  have g1 : 0 ≤ vb ∧ vb ≤ 18446744073709551615 := by rw [hvb]; exact lo_rng v
  have EV := Aside0.mk (show v = va * 18446744073709551616 + vb by rw [hva, hvb]; unfold hiW loW; omega)
  have HI := Aside0.mk (show RtI v 64 0 by
    have : (2 : Int) ^ 64 = 18446744073709551616 := by decide
    refine ⟨by omega, by omega, ?_, by simp, by omega⟩
    rw [this]; omega)
  have GV := Aside0.mk (And.intro g0 g1)
  have d0 : decide (va < 0) = false := decide_eq_false (by omega)
  have wv : IntKind.u64.wrap va = va := by rw [u64w]; omega
  obtain ⟨W, hW⟩ : ∃ W, W = (w.alloc (.cells #[.int .i64 va, .int .u64 vb] 25 (0, 0))).alloc (.cells #[.int .i64 0, .int .u64 0] 25 (0, 0)) := ⟨_, rfl⟩
  have n0 : W.heap[w.heap.size]? = some (.cells #[.int .i64 va, .int .u64 vb] 25 (0, 0)) := by rw [hW]; exact blk_alloc (heap_alloc_new _ _) _
  have n1 : W.heap[w.heap.size + 1]? = some (.cells #[.int .i64 0, .int .u64 0] 25 (0, 0)) := by rw [hW]; exact heap_alloc2_new _ _ _
  have NB := Aside0.mk (show Below w.heap.size w W by rw [hW]; exact below_alloc (below_alloc (Below.refl _ _) _) _)
  have HW := Aside0.mk hW
  have c0 := blk_cell n0 0
  have c1 := blk_cell n0 1
  have c2 := blk_cell n1 0
  have c3 := blk_cell n1 1
  have f2 := blk_frozen n1 0
  have f3 := blk_frozen n1 1
  have hsz : w.heap.size + 1 < W.heap.size := blk_lt n1
  clear hra hrb hva hvb hW n0 n1 hv g0 g1
  go_enter Try.func31, Try.ntmps31
  go_upto_region 1 with (fail)
  rw [← HW.out]
  go_wp2_with (fail)
  go_loopg [4, 5] 64 (fun kq v4 v5 w' => ∃ r i : Int, v4 = .int .u64 r ∧ v5 = .int .i64 i ∧ Aside0 (i = kq - 1) ∧ Aside0 (kq ≤ 64) ∧ Aside0 (RtI v kq r) ∧ w' = W)
  case atStart => exact ⟨0, 63, rfl, rfl, ⟨rfl⟩, ⟨by omega⟩, HI, rfl⟩
  case round =>
    clear HI
    obtain ⟨r, i, rfl, rfl, HK, HL, HI, rfl⟩ := hrel
    cases gk with
    | zero =>
      obtain rfl : i = -1 := HK.out
      have hi := HI.out
      obtain ⟨a, b, c, -, d⟩ := hi
      rw [Int.pow_zero] at c d
      have HE := isq_eq a b c
      have E1 := Aside0.mk (show ra = 0 by rw [RES.out.1, HE]; unfold hiW; omega)
      have E2 := Aside0.mk (show rb = r by rw [RES.out.2, HE]; unfold loW; omega)
      clear a b c d HE
      go_wp2_with (fail)
      rw [E1.out, E2.out]
      refine bodyPost_ret (v := .tuple #[.agg #[.int .i64 0, .int .u64 r], .int .i64 0]) (by simp [results, Try.results31, go_sem, c2, c3, f2, f3, hsz]) rfl ⟨rfl, ?_⟩
      exact (NB.out.setCell (Nat.le_add_right _ 1) _).setCell (Nat.le_add_right _ 1) _
    | succ k1 =>
      have hik : i = k1 := by have := HK.out; omega
      have hk1 : k1 ≤ 63 := by have := HL.out; omega
      have hi0 : 0 ≤ i := by omega
      have hi1 : i ≤ 63 := by omega
      obtain ⟨s1, s2, s3, s4⟩ := rt_step HI.out hk1
      have r0 : 0 ≤ r := HI.out.1
      have hp := pow2_pos k1
      have hp63 := pow_63 hk1
      have HIK := Aside0.mk hik
      subst hik
      have e3 : IntKind.u64.wrap (k1 : Int) = (k1 : Int) := by rw [u64w]; omega
      have hmin : min k1 64 = k1 := by omega
      obtain ⟨x, hx⟩ : ∃ x, x = r + 2 ^ k1 := ⟨_, rfl⟩
      rw [← hx] at s1 s2 s3 s4
      have x0 : 0 ≤ x := by omega
      obtain ⟨pj, hpj⟩ : ∃ x, x = (2 : Int) ^ k1 := ⟨_, rfl⟩
      have eshl : IntKind.u64.wrap (2 ^ min k1 64) = pj := by rw [hmin, ← hpj, u64w]; rw [← hpj] at hp hp63; omega
      have eshl2 : IntKind.u64.wrap (2 ^ k1) = pj := by rw [← hpj, u64w]; rw [← hpj] at hp hp63; omega
      rw [← hpj] at s1
      have hM := Aside0.mk (bits_Mul64 x x · x0 (by omega) x0 (by omega))
      obtain ⟨X, hX⟩ : ∃ X, X = x * x := ⟨_, rfl⟩
      rw [← hX] at hM s3 s4
      have X0 : 0 ≤ X := by rw [hX]; exact Int.mul_nonneg x0 x0
      have tst := rt_test (x := X) X0 GV.out.1.1 GV.out.2.1 GV.out.2.2
      rw [← EV.out] at tst
      obtain ⟨xh, hxh⟩ : ∃ a, a = X / 18446744073709551616 := ⟨_, rfl⟩
      obtain ⟨xl, hxl⟩ : ∃ a, a = X % 18446744073709551616 := ⟨_, rfl⟩
      rw [← hxh, ← hxl] at hM tst
      have TST := Aside0.mk tst
      have S3 := Aside0.mk s3
      have S4 := Aside0.mk s4
      clear s2 s3 s4 r0 hp hp63 hx x0 hpj hX X0 tst hxh hxl hmin hk1
      by_cases q1 : xh < va
      · have t1 : decide (xh < va) = true := decide_eq_true q1
        have HG := Aside0.mk (S3.out (TST.out.2 (.inl q1)))
        clear q1
        go_wp2_with (first
          | (go_at_call 52; (with_reducible refine (hM.out _).mono ?_); rintro e w1 ⟨rfl, rfl⟩))
        go_roundg k1
        case rel => exact ⟨x, (k1 : Int) - 1, rfl, rfl, ⟨rfl⟩, ⟨by have := HL.out; omega⟩, HG, rfl⟩
        case measure => omega
      · have t1 : decide (xh < va) = false := decide_eq_false q1
        by_cases q2 : xh = va
        · have t2 : (xh == va) = true := beq_iff_eq.mpr q2
          by_cases q3 : xl ≤ vb
          · have t3 : decide (xl ≤ vb) = true := decide_eq_true q3
            have HG := Aside0.mk (S3.out (TST.out.2 (.inr ⟨q2, q3⟩)))
            clear q1 q2 q3
            go_wp2_with (first
              | (go_at_call 52; (with_reducible refine (hM.out _).mono ?_); rintro e w1 ⟨rfl, rfl⟩))
            go_roundg k1
            case rel => exact ⟨x, (k1 : Int) - 1, rfl, rfl, ⟨rfl⟩, ⟨by have := HL.out; omega⟩, HG, rfl⟩
            case measure => omega
          · have t3 : decide (xl ≤ vb) = false := decide_eq_false q3
            have HG := Aside0.mk (S4.out (fun h => by rcases TST.out.1 h with z | z; exact q1 z; exact q3 z.2))
            clear q1 q2 q3
            go_wp2_with (first
              | (go_at_call 52; (with_reducible refine (hM.out _).mono ?_); rintro e w1 ⟨rfl, rfl⟩))
            go_roundg k1
            case rel => exact ⟨r, (k1 : Int) - 1, rfl, rfl, ⟨rfl⟩, ⟨by have := HL.out; omega⟩, HG, rfl⟩
            case measure => omega
        · have t2 : (xh == va) = false := beq_eq_false_iff_ne.mpr q2
          have HG := Aside0.mk (S4.out (fun h => by rcases TST.out.1 h with z | z; exact q1 z; exact q2 z.1))
          clear q1 q2
          go_wp2_with (first
            | (go_at_call 52; (with_reducible refine (hM.out _).mono ?_); rintro e w1 ⟨rfl, rfl⟩))
          go_roundg k1
          case rel => exact ⟨r, (k1 : Int) - 1, rfl, rfl, ⟨rfl⟩, ⟨by have := HL.out; omega⟩, HG, rfl⟩
          case measure => omega
end Go.Proofs.Ythnihjfdmkfkiaa.Q
