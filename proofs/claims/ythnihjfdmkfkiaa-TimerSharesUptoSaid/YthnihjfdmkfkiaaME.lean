/- Texts of this claim, laid in one: contracts of functions that the claim reaches, and the plain laws that they want; under no condition beyond those that each theorem states. -/
import Derived.Test.YthnihjfdmkfkiaaMB
import Derived.Test.YthnihjfdmkfkiaaMC
import Derived.Test.YthnihjfdmkfkiaaWInvWords
import Derived.Test.YthnihjfdmkfkiaaMD
namespace Go.Proofs.Ythnihjfdmkfkiaa.Q
open Go.RowKit Go.Proofs.YthnihjfdmkfkiaaW.PrintWords Go.Proofs.YthnihjfdmkfkiaaW.PrintLast Go.Proofs.YthnihjfdmkfkiaaW.PrintMore Go.Proofs.YthnihjfdmkfkiaaV
set_option linter.unusedVariables false
set_option linter.unusedSimpArgs false

/-- A row of limbs past a store into a block that holds no limbs. -/
theorem Lm.num {w w' : World} {A : Option Addr} {c : Nat} {l : List Int} {g : Nat} {cs0 : Array Value} {t : TypeId} {fr : Nat × Nat} (h : Lm w A c l) (hz : w.heap[g]? = some (.cells cs0 t fr)) (hn : ∀ (j : Nat) (n : Int), cs0[j]? ≠ some (Value.int .u32 n)) (hk : Keep w w' (fun k => k = g)) : Lm w' A c l := by
  refine ⟨?_, h.cap, h.ok⟩
  obtain ⟨e1, e2, h3⟩ := h.row
  refine ⟨e1, e2, fun hp => ?_⟩
  obtain ⟨ad, ha, hc⟩ := h3 hp
  refine ⟨ad, ha, fun i x hx => ?_⟩
  obtain ⟨cs, hs, hK, hj⟩ := hc i x hx
  refine ⟨cs, hs, hK, fun j u hu => ?_⟩
  have hq := hj j u hu
  have hu2 : u = .int .u32 x := by
    have hK2 : cs = [Value.int .u32 x] := hK
    subst hK2
    cases j with
    | zero => simpa using hu.symm
    | succ j => simp at hu
  have hne : ¬ (ad.add (i * (Kd.int .u32).sz + j)).block = g := by
    intro e
    generalize ad.add (i * (Kd.int .u32).sz + j) = a at hq e
    unfold World.cell? at hq
    rw [e, hz] at hq
    subst hu2
    simp only at hq
    split at hq
    · cases hq
    · exact hn _ _ hq
  have hlt := cell_lt hq
  rw [cell_same (hk.block _ hlt hne)]
  exact hq
theorem num_cells {p : Bool} {A : Option Addr} {n c : Nat} (j : Nat) (x : Int) : (#[.bool p, .slice A n c] : Array Value)[j]? ≠ some (Value.int .u32 x) := by
  match j with
  | 0 => simp
  | 1 => simp
  | j + 2 => simp
theorem wide_cells {a b : Int} (j : Nat) (x : Int) : (#[.int .i64 a, .int .u64 b] : Array Value)[j]? ≠ some (Value.int .u32 x) := by
  match j with
  | 0 => simp
  | 1 => simp
  | j + 2 => simp
/-- A number that lies in a block. -/
def NumAt (w : World) (g : Nat) (x : Int) : Prop := ∃ A c, w.heap[g]? = some (.cells #[.bool (decide (x < 0)), .slice A (limbs x.natAbs).length c] 71 (0, 0)) ∧ Lm w A c (limbs x.natAbs)
theorem NumV.of {w : World} {A : Option Addr} {c : Nat} {x : Int} (h : Lm w A c (limbs x.natAbs)) : NumV w (.agg #[.bool (decide (x < 0)), .slice A (limbs x.natAbs).length c]) x := ⟨A, c, rfl, h⟩
theorem few_W {x : Int} (h : inW x) : fewL x := few_of (by
  unfold inW at h
  have e : (340282366920938463463374607431768211456 : Nat) ≤ 65536 ^ 64 := by decide
  omega)
theorem ref_Of {z : Int} (w : World) (hz : in64 z) :
    Calls Try.prog 57 #[.int .i64 z] w fun e w' => e = .returned (WV z) ∧ Below w.heap.size w w' := by
  unfold in64 at hz
  unfold WV
  by_cases h : z < 0
  · have d1 : decide (z < 0) = true := decide_eq_true h
    have e1 : hiW z = -1 := by unfold hiW; omega
    have e2 : IntKind.u64.wrap z = loW z := by unfold loW; rw [u64w]
    rw [e1, ← e2]
    clear e1 e2
    go_enter Try.func57, Try.ntmps57
    go_wp2
    refine bodyPost_ret (results_cell_row rfl _ _ w.heap.size 25 _ (0, 0) _ rfl (heap_alloc_new _ _) Try.underlying25 rfl (by kernel_rfl)) rfl ?_
    exact ⟨rfl, below_alloc (Below.refl _ _) _⟩
  · have d1 : decide (z < 0) = false := decide_eq_false h
    have e1 : hiW z = 0 := by unfold hiW; omega
    have e2 : loW z = z := by unfold loW; omega
    rw [e1, e2]
    clear e1 e2
    go_enter Try.func57, Try.ntmps57
    go_wp2
    refine bodyPost_ret (results_cell_row rfl _ _ w.heap.size 25 _ (0, 0) _ rfl (heap_alloc_new _ _) Try.underlying25 rfl (by kernel_rfl)) rfl ?_
    exact ⟨rfl, below_alloc (Below.refl _ _) _⟩
theorem in64_inW {z : Int} (h : in64 z) : inW z := by unfold in64 at h; unfold inW; omega
theorem ref_Int {z : Int} (w : World) (hz : in64 z) :
    Calls Try.prog 38 #[.int .i64 z] w fun e w' => ∃ v, e = .returned v ∧ NumV w' v z ∧ Below w.heap.size w w' := by
  have n0 := heap_alloc_new w (.cells #[.bool false, .slice none 0 0] 71 (0, 0))
  have HN := Aside0.mk n0
  have HB := Aside0.mk (below_alloc (Below.refl w.heap.size w) (.cells #[.bool false, .slice none 0 0] 71 (0, 0)))
  have HO := Aside0.mk (fun W => ref_Of W hz)
  have HF := Aside0.mk (fun W => ref_From W (in64_inW hz))
  have NS := Aside0.mk (show (w.alloc (.cells #[.bool false, .slice none 0 0] 71 (0, 0))).heap.size = w.heap.size + 1 by simp)
  clear n0
  go_enter Try.func38, Try.ntmps38
  go_wp2_with (first
    | (go_at_call 57; (with_reducible refine (HO.out _).mono ?_); rintro e w5 ⟨rfl, hb5⟩; have B5 := Aside0.mk ((hb5.block _ (blk_lt HN.out)).trans HN.out); have HB5 := Aside0.mk (hop HB.out hb5); clear hb5)
    | (go_at_call 56; (with_reducible refine (HF.out _).mono ?_); rintro e w6 ⟨v, rfl, ⟨A, c, rfl, h6⟩, hb6⟩; obtain ⟨s, hs⟩ : ∃ s, s = decide (z < 0) := ⟨_, rfl⟩; rw [← hs]; have HS := Aside0.mk hs; have H6 := Aside0.mk h6; have E6 := (hb6.block _ (blk_lt B5.out)).trans B5.out; obtain ⟨f1, f2, f3, f4, f5⟩ := res2 (v0 := .bool s) (v1 := .slice A (limbs z.natAbs).length c) E6; have F5 := Aside0.mk f5; have HE6 := Aside0.mk E6; have HB6 := Aside0.mk (hop HB5.out hb6); clear h6 hb6 hs f5 E6))
  refine bodyPost_ret (results_cell_row rfl _ _ w.heap.size 71 _ (0, 0) _ rfl F5.out Try.underlying71 rfl (by kernel_rfl)) rfl ?_
  exact ⟨_, rfl, ⟨A, c, by rw [← HS.out], H6.out.num HE6.out num_cells keep_set2⟩, HB6.out.trans (keep_set2.below HB6.out.size (fun k hk => by omega))⟩
set_option maxHeartbeats 1600000 in
theorem ref_Small {z : Int} (w : World) (hz : in64 z) :
    Calls Try.prog 55 #[WV z] w fun q w' => q = .returned (.tuple #[.int .i64 z, .bool true]) ∧ Below w.heap.size w w' := by
  have HO := Aside0.mk (fun W => ref_Of W hz)
  unfold WV at HO ⊢
  have hw : wrap64 (loW z) = z := by unfold in64 at hz; unfold loW wrap64; omega
  obtain ⟨za, hza⟩ : ∃ a, a = hiW z := ⟨_, rfl⟩
  obtain ⟨zb, hzb⟩ : ∃ a, a = loW z := ⟨_, rfl⟩
  rw [← hza, ← hzb] at HO ⊢
  rw [← hzb] at hw
  have HO := Aside0.mk (fun W => (show Calls Try.prog 57 #[.int .i64 (wrap64 zb)] W _ by rw [hw]; exact HO.out W))
  have RES := Aside0.mk hw
  clear hw
  obtain ⟨W, hW⟩ : ∃ W, W = w.alloc (.cells #[.int .i64 za, .int .u64 zb] 25 (0, 0)) := ⟨_, rfl⟩
  have n0 : W.heap[w.heap.size]? = some (.cells #[.int .i64 za, .int .u64 zb] 25 (0, 0)) := by rw [hW]; exact heap_alloc_new _ _
  have NB := Aside0.mk (show Below w.heap.size w W by rw [hW]; exact below_alloc (Below.refl _ _) _)
  have HW := Aside0.mk hW
  have N0 := Aside0.mk n0
  have c0 : W.cell? ⟨w.heap.size, 0, none⟩ = some (.int .i64 za) := blk_cell n0 0
  have c1 : W.cell? ⟨w.heap.size, 1, none⟩ = some (.int .u64 zb) := blk_cell n0 1
  clear hza hzb hW n0 hz
  go_enter Try.func55, Try.ntmps55
  go_upto_region 1 with (fail)
  rw [← HW.out]
  go_upto_region 2 with (fail)
  go_region_held3 (fun w' => w'.cell? ⟨w.heap.size, 0, none⟩ = some (.int .i64 za) ∧ w'.cell? ⟨w.heap.size, 1, none⟩ = some (.int .u64 zb)) (go_keep) (first
    | (go_at_call 57; (with_reducible refine (HO.out _).mono ?_); rintro e w5 ⟨rfl, hb5⟩; have hb6 := hop (below_drew NB.out) hb5; have HB5 := Aside0.mk hb6; have k0 := blk_cell ((hb5.block _ (blk_lt N0.out)).trans N0.out) 0; have k1 := blk_cell ((hb5.block _ (blk_lt N0.out)).trans N0.out) 1; clear hb5 hb6))
  all_goals
    go_wp2_with (fail)
    go_ret2
    rw [RES.out]
    exact ⟨rfl, HB5.out⟩
end Go.Proofs.Ythnihjfdmkfkiaa.Q

namespace Go.Proofs.Ythnihjfdmkfkiaa.Q
open Go.RowKit Go.Proofs.YthnihjfdmkfkiaaW.PrintWords Go.Proofs.YthnihjfdmkfkiaaW.PrintLast Go.Proofs.YthnihjfdmkfkiaaW.PrintMore Go.Proofs.YthnihjfdmkfkiaaV
set_option linter.unusedVariables false
set_option linter.unusedSimpArgs false

theorem fewD {x : Int} (h : inW x) : (limbs x.natAbs).length ≤ 65536 := Nat.le_trans (limbs_len 16 _ (by
  unfold inW at h
  have e : (340282366920938463463374607431768211456 : Nat) ≤ 65536 ^ 16 := by decide
  omega)) (by decide)
set_option maxHeartbeats 1600000 in
theorem ref_wideN {w : World} {u : Value} {x : Int} (hu : NumV w u x) (hx : 0 ≤ x ∧ x ≤ 170141183460469231731687303715884105727) :
    Calls Try.prog 36 #[u] w fun e w' => e = .returned (WV x) ∧ Below w.heap.size w w' := by
  obtain ⟨A, c, rfl, hl⟩ := hu
  obtain ⟨b, hb⟩ : ∃ b, b = decide (x < 0) := ⟨_, rfl⟩
  obtain ⟨n, hn⟩ : ∃ n, n = (limbs x.natAbs).length := ⟨_, rfl⟩
  rw [← hb, ← hn]
  obtain ⟨n0, n1, nb, ns⟩ := new2' w (.cells #[.bool b, .slice A n c] 71 (0, 0)) (.cells #[.int .i64 0, .int .u64 0] 25 (0, 0))
  obtain ⟨W, hW⟩ : ∃ W, W = (w.alloc (.cells #[.bool b, .slice A n c] 71 (0, 0))).alloc (.cells #[.int .i64 0, .int .u64 0] 25 (0, 0)) := ⟨_, rfl⟩
  rw [← hW] at n0 n1 nb ns
  have HTO := Aside0.mk (show Calls Try.prog 49 #[.agg #[.bool b, .slice A n c]] W (fun e w' => e = .returned (.tuple #[WV x, .bool true]) ∧ Below W.heap.size W w') by rw [hb, hn]; exact ref_To (NumV.of (hl.below nb)) hx)
  unfold WV at HTO ⊢
  obtain ⟨xa, hxa⟩ : ∃ a, a = hiW x := ⟨_, rfl⟩
  obtain ⟨xb, hxb⟩ : ∃ a, a = loW x := ⟨_, rfl⟩
  rw [← hxa, ← hxb] at HTO ⊢
  have c0 : W.cell? ⟨w.heap.size, 0, none⟩ = some (.bool b) := blk_cell n0 0
  have c1 : W.cell? ⟨w.heap.size, 1, none⟩ = some (.slice A n c) := blk_cell n0 1
  have NB := Aside0.mk nb
  have N1 := Aside0.mk n1
  have HW := Aside0.mk hW
  clear hl nb n0 n1 ns hW hxa hxb hb hn hx
  go_enter Try.func36, Try.ntmps36
  go_upto_region 1 with (fail)
  rw [← HW.out]
  go_wp2_with (first
    | (go_at_call 49; (with_reducible refine (HTO.out).mono ?_); rintro e w5 ⟨rfl, hb5⟩; have HB5 := Aside0.mk (hop NB.out hb5); have m5 := heap_alloc_new w5 (.cells #[.int .i64 xa, .int .u64 xb] 25 (0, 0)); have k0 := blk_cell m5 0; have k1 := blk_cell m5 1; have m1 := blk_alloc ((hb5.block _ (blk_lt N1.out)).trans N1.out) (.cells #[.int .i64 xa, .int .u64 xb] 25 (0, 0)); obtain ⟨f1, f2, f3, f4, f5⟩ := res2 (v0 := .int .i64 xa) (v1 := .int .u64 xb) m1; have F5 := Aside0.mk f5; clear hb5 f5 m5 m1))
  refine bodyPost_ret (results_cell_row rfl _ _ (w.heap.size + 1) 25 _ (0, 0) _ rfl F5.out Try.underlying25 rfl (by kernel_rfl)) rfl ?_
  exact ⟨rfl, (HB5.out.alloc HB5.out.size _).trans (keep_set2.below (HB5.out.alloc HB5.out.size _).size (fun k hk => by omega))⟩
def prt1.T : Bool × List (List Nat × List Nat) := (true, [([], []), ([], []), ([1], [1]), ([0, 2, 2], [0, 2]), ([3], [3]), ([4], [4]), ([4], [4]), ([], []), ([], []), ([7, 5, 3, 0, 1, 2, 3, 4, 5, 7, 8], [5, 7]), ([8, 6, 9, 0, 1, 2, 3, 4, 5, 6, 7, 8, 9], [6, 8])])
def prt1.B : List Nat := [0, 0, 2, 7, 15, 31, 31, 0, 0, 447, 1023]
theorem prt1.tab : rtab .any (opsOf Try.f37 1) = prt1.T := by kernel_rfl
theorem prt1.bits : waitsOk prt1.T.2 prt1.B = true := by kernel_rfl
set_option maxHeartbeats 3200000 in
set_option maxRecDepth 4000 in
theorem ref_part {w : World} {u : Value} {x n : Int} (hu : NumV w u x) (hx : 0 ≤ x ∧ x ≤ 170141183460469231731687303715884105727) (hn : 1 ≤ n ∧ n ≤ 9223372036854775807) (hq : x / n ≤ 9223372036854775807) :
    Calls Try.prog 37 #[u, .int .i64 n] w fun e w' => e = .returned (.int .i64 (x / n)) ∧ Below w.heap.size w w' := by
  obtain ⟨A, c, rfl, hl⟩ := hu
  have hq0 : 0 ≤ x / n := Int.ediv_nonneg hx.1 (by omega)
  have HI := Aside0.mk (fun W => ref_Int (z := n) W (by unfold in64; omega))
  have HQU := Aside0.mk (fun (W : World) (u v : Value) (h1 : NumV W u x) (h2 : NumV W v n) => ref_QuoN h1 h2 hx.1 (by omega) (fewD (by unfold inW; omega)) (fewD (by unfold inW; omega)))
  have HTO := Aside0.mk (fun (W : World) (u : Value) (h : NumV W u (x / n)) => ref_To h (by omega))
  have HSM := Aside0.mk (fun W => ref_Small (z := x / n) W (by unfold in64; omega))
  unfold WV at HTO HSM
  obtain ⟨qa, hqa⟩ : ∃ a, a = hiW (x / n) := ⟨_, rfl⟩
  obtain ⟨qb, hqb⟩ : ∃ a, a = loW (x / n) := ⟨_, rfl⟩
  rw [← hqa, ← hqb] at HTO HSM
  have n0 := heap_alloc_new w (.cells #[.bool (decide (x < 0)), .slice A (limbs x.natAbs).length c] 71 (0, 0))
  have nb := below_alloc (Below.refl w.heap.size w) (.cells #[.bool (decide (x < 0)), .slice A (limbs x.natAbs).length c] 71 (0, 0))
  have hl0 := hl.below nb
  obtain ⟨W, hW⟩ : ∃ W, W = w.alloc (.cells #[.bool (decide (x < 0)), .slice A (limbs x.natAbs).length c] 71 (0, 0)) := ⟨_, rfl⟩
  rw [← hW] at n0 nb hl0
  have N0 := Aside0.mk n0
  have NB := Aside0.mk nb
  have L0 := Aside0.mk hl0
  have HW := Aside0.mk hW
  clear hl n0 nb hl0 hW hqa hqb
  go_enter Try.func37, Try.ntmps37
  go_upto_region 1 with (fail)
  rw [← HW.out]
  have HB := Aside0.mk (show Below W.heap.size W W.drew from (Below.refl _ _).drew)
  have D7_8 : True := trivial
  refine start_ (n := 11) (S := fun w' => True) (ds := []) #[false, false, false, false, false, false, false, false, false, false, false] (by kernel_rfl) rfl rfl trivial (fun hHeld => ?_)
  refine with_tabW prt1.tab prt1.bits (fun HT_ HW_ => ?_)
  refine inv_at [0, 1, 2, 3, 4, 5, 6, 7, 8, 9, 10] (fun a0_ b a w' => ∃ (A14 : Option Addr) (c14 : Nat) (Aq : Option Addr) (cq : Nat) (Ar : Option Addr) (cr : Nat) (g5 : Nat) (g6 : Nat) (m2_ : Value) (m3_ : Value) (m4_ : Value) (m5_ : Value) (m6_ : Value) (m7_ : Value) (m8_ : Value), a = putSel a0_ b [(0, 12, .agg #[.bool (decide (x < 0)), .slice A (limbs x.natAbs).length c]), (1, 13, .int .i64 n), (2, 14, m2_), (3, 15, m3_), (4, 11, m4_), (5, 16, m5_), (6, 17, m6_), (7, 5, m7_), (8, 6, m8_)] ∧ (Below W.heap.size W w') ∧ (b 2 = true → Lm w' A14 c14 (limbs n.natAbs)) ∧ (b 3 = true → Lm w' Aq cq (limbs (x / n).natAbs)) ∧ (b 3 = true → Lm w' Ar cr (limbs (x % n).natAbs)) ∧ (b 7 = true → W.heap.size ≤ g5) ∧ (b 7 = true → g5 < w'.heap.size) ∧ (b 7 = true → b 9 = false → w'.heap[g5]? = some (.cells #[.bool false, .slice none 0 0] 71 (0, 0))) ∧ (b 7 = true → b 9 = true → w'.heap[g5]? = some (.cells #[.bool (decide (x / n < 0)), .slice Aq (limbs (x / n).natAbs).length cq] 71 (0, 0))) ∧ (b 8 = true → W.heap.size ≤ g6) ∧ (b 8 = true → g6 < w'.heap.size) ∧ (b 8 = true → b 10 = false → w'.heap[g6]? = some (.cells #[.bool false, .slice none 0 0] 71 (0, 0))) ∧ (b 8 = true → b 10 = true → w'.heap[g6]? = some (.cells #[.bool (decide (x % n < 0)), .slice Ar (limbs (x % n).natAbs).length cr] 71 (0, 0))) ∧ ((b 7 = true → b 8 = true → g5 ≠ g6)) ∧ (b 2 = true → (m2_ : Value) = .agg #[.bool (decide (n < 0)), .slice A14 (limbs n.natAbs).length c14]) ∧ (b 3 = true → (m3_ : Value) = .tuple #[.agg #[.bool (decide (x / n < 0)), .slice Aq (limbs (x / n).natAbs).length cq], .agg #[.bool (decide (x % n < 0)), .slice Ar (limbs (x % n).natAbs).length cr]]) ∧ (b 4 = true → (m4_ : Value) = .tuple #[.agg #[.bool (decide (x / n < 0)), .slice Aq (limbs (x / n).natAbs).length cq], .agg #[.bool (decide (x % n < 0)), .slice Ar (limbs (x % n).natAbs).length cr]]) ∧ (b 5 = true → (m5_ : Value) = .agg #[.bool (decide (x / n < 0)), .slice Aq (limbs (x / n).natAbs).length cq]) ∧ (b 6 = true → (m6_ : Value) = .agg #[.bool (decide (x % n < 0)), .slice Ar (limbs (x % n).natAbs).length cr]) ∧ (b 7 = true → (m7_ : Value) = .pointer (some ⟨g5, 0, none⟩)) ∧ (b 8 = true → (m8_ : Value) = .pointer (some ⟨g6, 0, none⟩))) HT_.out HW_.out (by kernel_rfl) (by kernel_rfl) ?_ ?_ ?_
  · exact ⟨none, 0, none, 0, none, 0, 0, 0, .bool false, .bool false, .bool false, .bool false, .bool false, .bool false, .bool false, by simp only [putSel, Bool.false_eq_true, if_false], HB.out, fun h_ => absurd h_ (by decide), fun h_ => absurd h_ (by decide), fun h_ => absurd h_ (by decide), fun h_ => absurd h_ (by decide), fun h_ => absurd h_ (by decide), fun h_ => absurd h_ (by decide), fun h_ => absurd h_ (by decide), fun h_ => absurd h_ (by decide), fun h_ => absurd h_ (by decide), fun h_ => absurd h_ (by decide), fun h_ => absurd h_ (by decide), fun h_ => absurd h_ (by decide), fun h_ => absurd h_ (by decide), fun h_ => absurd h_ (by decide), fun h_ => absurd h_ (by decide), fun h_ => absurd h_ (by decide), fun h_ => absurd h_ (by decide), fun h_ => absurd h_ (by decide), fun h_ => absurd h_ (by decide)⟩
  · skip
    clear D7_8 HB
    refine steps_cons ?_ ?_
    · rintro b a w' ⟨A14, c14, Aq, cq, Ar, cr, g5, g6, m2_, m3_, m4_, m5_, m6_, m7_, m8_, ha, Q_HB, Q_FY, Q_FQ, Q_FR, Q_G7, Q_L7, Q_Z7, Q_N9, Q_G8, Q_L8, Q_Z8, Q_N10, Q_D7_8, Q_X2_, Q_X3_, Q_X4_, Q_X5_, Q_X6_, Q_X7_, Q_X8_⟩ hb_ hon hoff
      refine ⟨_, rfl, fun K hK => ?_⟩
      have e2 : a.tmps[2]? = some (.pointer (some ⟨w.heap.size, 0, none⟩)) := by rw [ha]; exact (putSel_off rfl).trans rfl
      replace ha := Aside0.mk ha
      have HB := Aside0.mk Q_HB
      have D7_8 := Aside0.mk Q_D7_8
      have k0 := blk_cell ((HB.out.block _ (blk_lt N0.out)).trans N0.out) 0
      have k1 := blk_cell ((HB.out.block _ (blk_lt N0.out)).trans N0.out) 1
      refine value_ (w1 := w') (v := .agg #[.bool (decide (x < 0)), .slice A (limbs x.natAbs).length c]) (by rfl) rfl ?_ ?_
      · go_simp
        (try simp only [i64_w])
        try rfl
      refine hK.out _ _ ⟨A14, c14, Aq, cq, Ar, cr, g5, g6, m2_, m3_, m4_, m5_, m6_, m7_, m8_, (by rw [ha.out]; exact putSel_upk 0 hb_ rfl rfl rfl), Q_HB, Q_FY, fun h0_ => absurd ((hoff 3 (by kernel_rfl)).symm.trans h0_) (by decide), fun h0_ => absurd ((hoff 3 (by kernel_rfl)).symm.trans h0_) (by decide), Q_G7, Q_L7, Q_Z7, fun _ h1_ => absurd ((hoff 9 (by kernel_rfl)).symm.trans h1_) (by decide), Q_G8, Q_L8, Q_Z8, fun _ h1_ => absurd ((hoff 10 (by kernel_rfl)).symm.trans h1_) (by decide), Q_D7_8, Q_X2_, fun h0_ => absurd ((hoff 3 (by kernel_rfl)).symm.trans h0_) (by decide), fun h0_ => absurd ((hoff 4 (by kernel_rfl)).symm.trans h0_) (by decide), fun h0_ => absurd ((hoff 5 (by kernel_rfl)).symm.trans h0_) (by decide), fun h0_ => absurd ((hoff 6 (by kernel_rfl)).symm.trans h0_) (by decide), Q_X7_, Q_X8_⟩
    refine steps_cons ?_ ?_
    · rintro b a w' ⟨A14, c14, Aq, cq, Ar, cr, g5, g6, m2_, m3_, m4_, m5_, m6_, m7_, m8_, ha, Q_HB, Q_FY, Q_FQ, Q_FR, Q_G7, Q_L7, Q_Z7, Q_N9, Q_G8, Q_L8, Q_Z8, Q_N10, Q_D7_8, Q_X2_, Q_X3_, Q_X4_, Q_X5_, Q_X6_, Q_X7_, Q_X8_⟩ hb_ hon hoff
      refine ⟨_, rfl, fun K hK => ?_⟩
      have e1 : a.tmps[1]? = some (.int .i64 n) := by rw [ha]; exact (putSel_off rfl).trans rfl
      replace ha := Aside0.mk ha
      have HB := Aside0.mk Q_HB
      have D7_8 := Aside0.mk Q_D7_8
      refine value_ (w1 := w') (v := .int .i64 n) (by rfl) rfl ?_ ?_
      · go_simp
        (try simp only [i64_w])
        try rfl
      refine hK.out _ _ ⟨A14, c14, Aq, cq, Ar, cr, g5, g6, m2_, m3_, m4_, m5_, m6_, m7_, m8_, (by rw [ha.out]; exact putSel_upk 1 hb_ rfl rfl rfl), Q_HB, fun h0_ => absurd ((hoff 2 (by kernel_rfl)).symm.trans h0_) (by decide), fun h0_ => absurd ((hoff 3 (by kernel_rfl)).symm.trans h0_) (by decide), fun h0_ => absurd ((hoff 3 (by kernel_rfl)).symm.trans h0_) (by decide), Q_G7, Q_L7, Q_Z7, fun _ h1_ => absurd ((hoff 9 (by kernel_rfl)).symm.trans h1_) (by decide), Q_G8, Q_L8, Q_Z8, fun _ h1_ => absurd ((hoff 10 (by kernel_rfl)).symm.trans h1_) (by decide), Q_D7_8, fun h0_ => absurd ((hoff 2 (by kernel_rfl)).symm.trans h0_) (by decide), fun h0_ => absurd ((hoff 3 (by kernel_rfl)).symm.trans h0_) (by decide), fun h0_ => absurd ((hoff 4 (by kernel_rfl)).symm.trans h0_) (by decide), fun h0_ => absurd ((hoff 5 (by kernel_rfl)).symm.trans h0_) (by decide), fun h0_ => absurd ((hoff 6 (by kernel_rfl)).symm.trans h0_) (by decide), Q_X7_, Q_X8_⟩
    refine steps_cons ?_ ?_
    · rintro b a w' ⟨A14, c14, Aq, cq, Ar, cr, g5, g6, m2_, m3_, m4_, m5_, m6_, m7_, m8_, ha, Q_HB, Q_FY, Q_FQ, Q_FR, Q_G7, Q_L7, Q_Z7, Q_N9, Q_G8, Q_L8, Q_Z8, Q_N10, Q_D7_8, Q_X2_, Q_X3_, Q_X4_, Q_X5_, Q_X6_, Q_X7_, Q_X8_⟩ hb_ hon hoff
      refine ⟨_, rfl, fun K hK => ?_⟩
      have e13 : a.tmps[13]? = some (.int .i64 n) := by rw [ha]; exact putSel_on (e := (1, 13, .int .i64 n)) 1 rfl rfl (hon 1 (by kernel_rfl)) rfl
      replace ha := Aside0.mk ha
      have HB := Aside0.mk Q_HB
      have D7_8 := Aside0.mk Q_D7_8
      refine goes_ Try.func38 (by kernel_rfl) rfl #[.int .i64 n] (by rfl) rfl rfl (by first | (simp only [List.map_toArray, List.map_cons, List.map_nil, Act.eval, Array.getD_eq_getD_getElem?, Option.getD_some, e13]; done) | (simp only [List.map_toArray, List.map_cons, List.map_nil, Act.eval, Array.getD_eq_getD_getElem?, Option.getD_some, e13]; rfl)) ?_
      with_reducible refine (HI.out _).mono ?_
      rintro e w1 ⟨u1, rfl, ⟨A1_, c1_, rfl, h1⟩, hb⟩
      refine ⟨_, rfl, ?_⟩
      refine hK.out _ _ ⟨A1_, c1_, Aq, cq, Ar, cr, g5, g6, (.agg #[.bool (decide (n < 0)), .slice A1_ (limbs n.natAbs).length c1_]), m3_, m4_, m5_, m6_, m7_, m8_, (by rw [ha.out]; exact putSel_upk 2 hb_ rfl rfl rfl), hop HB.out hb, fun _ => h1, fun h0_ => absurd ((hoff 3 (by kernel_rfl)).symm.trans h0_) (by decide), fun h0_ => absurd ((hoff 3 (by kernel_rfl)).symm.trans h0_) (by decide), Q_G7, fun h7 => Nat.lt_of_lt_of_le (Q_L7 h7) hb.size, fun h7 h9 => (hb.block _ (blk_lt (Q_Z7 h7 h9))).trans (Q_Z7 h7 h9), fun _ h1_ => absurd ((hoff 9 (by kernel_rfl)).symm.trans h1_) (by decide), Q_G8, fun h8 => Nat.lt_of_lt_of_le (Q_L8 h8) hb.size, fun h8 h10 => (hb.block _ (blk_lt (Q_Z8 h8 h10))).trans (Q_Z8 h8 h10), fun _ h1_ => absurd ((hoff 10 (by kernel_rfl)).symm.trans h1_) (by decide), Q_D7_8, fun _ => rfl, fun h0_ => absurd ((hoff 3 (by kernel_rfl)).symm.trans h0_) (by decide), fun h0_ => absurd ((hoff 4 (by kernel_rfl)).symm.trans h0_) (by decide), fun h0_ => absurd ((hoff 5 (by kernel_rfl)).symm.trans h0_) (by decide), fun h0_ => absurd ((hoff 6 (by kernel_rfl)).symm.trans h0_) (by decide), Q_X7_, Q_X8_⟩
    refine steps_cons ?_ ?_
    · rintro b a w' ⟨A14, c14, Aq, cq, Ar, cr, g5, g6, m2_, m3_, m4_, m5_, m6_, m7_, m8_, ha, Q_HB, Q_FY, Q_FQ, Q_FR, Q_G7, Q_L7, Q_Z7, Q_N9, Q_G8, Q_L8, Q_Z8, Q_N10, Q_D7_8, Q_X2_, Q_X3_, Q_X4_, Q_X5_, Q_X6_, Q_X7_, Q_X8_⟩ hb_ hon hoff
      refine ⟨_, rfl, fun K hK => ?_⟩
      have e12 : a.tmps[12]? = some (.agg #[.bool (decide (x < 0)), .slice A (limbs x.natAbs).length c]) := by rw [ha]; exact putSel_on (e := (0, 12, .agg #[.bool (decide (x < 0)), .slice A (limbs x.natAbs).length c])) 0 rfl rfl (hon 0 (by kernel_rfl)) rfl
      have e14 : a.tmps[14]? = some (m2_) := by rw [ha]; exact putSel_on (e := (2, 14, m2_)) 2 rfl rfl (hon 2 (by kernel_rfl)) rfl
      rw [Q_X2_ (hon 2 (by kernel_rfl))] at e14
      replace ha := Aside0.mk ha
      have HB := Aside0.mk Q_HB
      have FY := Aside0.mk (Q_FY (hon 2 (by kernel_rfl)))
      have D7_8 := Aside0.mk Q_D7_8
      refine goes_ Try.func41 (by kernel_rfl) rfl #[.agg #[.bool (decide (x < 0)), .slice A (limbs x.natAbs).length c], .agg #[.bool (decide (n < 0)), .slice A14 (limbs n.natAbs).length c14]] (by rfl) rfl rfl (by first | (simp only [List.map_toArray, List.map_cons, List.map_nil, Act.eval, Array.getD_eq_getD_getElem?, Option.getD_some, e12, e14]; done) | (simp only [List.map_toArray, List.map_cons, List.map_nil, Act.eval, Array.getD_eq_getD_getElem?, Option.getD_some, e12, e14]; rfl)) ?_
      with_reducible refine (HQU.out _ _ _ (NumV.of (L0.out.below HB.out)) (NumV.of FY.out)).mono ?_
      rintro e w1 ⟨u1, u2, rfl, ⟨A1_, c1_, rfl, h1⟩, ⟨A2_, c2_, rfl, h2⟩, hb⟩
      refine ⟨_, rfl, ?_⟩
      refine hK.out _ _ ⟨A14, c14, A1_, c1_, A2_, c2_, g5, g6, m2_, (.tuple #[.agg #[.bool (decide (x / n < 0)), .slice A1_ (limbs (x / n).natAbs).length c1_], .agg #[.bool (decide (x % n < 0)), .slice A2_ (limbs (x % n).natAbs).length c2_]]), m4_, m5_, m6_, m7_, m8_, (by rw [ha.out]; exact putSel_upk 3 hb_ rfl rfl rfl), hop HB.out hb, fun h2 => (Q_FY h2).below hb, fun _ => h1, fun _ => h2, Q_G7, fun h7 => Nat.lt_of_lt_of_le (Q_L7 h7) hb.size, fun h7 h9 => (hb.block _ (blk_lt (Q_Z7 h7 h9))).trans (Q_Z7 h7 h9), fun _ h1_ => absurd ((hoff 9 (by kernel_rfl)).symm.trans h1_) (by decide), Q_G8, fun h8 => Nat.lt_of_lt_of_le (Q_L8 h8) hb.size, fun h8 h10 => (hb.block _ (blk_lt (Q_Z8 h8 h10))).trans (Q_Z8 h8 h10), fun _ h1_ => absurd ((hoff 10 (by kernel_rfl)).symm.trans h1_) (by decide), Q_D7_8, Q_X2_, fun _ => rfl, fun h0_ => absurd ((hoff 4 (by kernel_rfl)).symm.trans h0_) (by decide), fun h0_ => absurd ((hoff 5 (by kernel_rfl)).symm.trans h0_) (by decide), fun h0_ => absurd ((hoff 6 (by kernel_rfl)).symm.trans h0_) (by decide), Q_X7_, Q_X8_⟩
    refine steps_cons ?_ ?_
    · rintro b a w' ⟨A14, c14, Aq, cq, Ar, cr, g5, g6, m2_, m3_, m4_, m5_, m6_, m7_, m8_, ha, Q_HB, Q_FY, Q_FQ, Q_FR, Q_G7, Q_L7, Q_Z7, Q_N9, Q_G8, Q_L8, Q_Z8, Q_N10, Q_D7_8, Q_X2_, Q_X3_, Q_X4_, Q_X5_, Q_X6_, Q_X7_, Q_X8_⟩ hb_ hon hoff
      refine ⟨_, rfl, fun K hK => ?_⟩
      have e15 : a.tmps[15]? = some (m3_) := by rw [ha]; exact putSel_on (e := (3, 15, m3_)) 3 rfl rfl (hon 3 (by kernel_rfl)) rfl
      rw [Q_X3_ (hon 3 (by kernel_rfl))] at e15
      replace ha := Aside0.mk ha
      have HB := Aside0.mk Q_HB
      have FY := Aside0.mk (Q_FY (hon 2 (by kernel_rfl)))
      have FQ := Aside0.mk (Q_FQ (hon 3 (by kernel_rfl)))
      have FR := Aside0.mk (Q_FR (hon 3 (by kernel_rfl)))
      have D7_8 := Aside0.mk Q_D7_8
      refine value_ (w1 := w') (v := .tuple #[.agg #[.bool (decide (x / n < 0)), .slice Aq (limbs (x / n).natAbs).length cq], .agg #[.bool (decide (x % n < 0)), .slice Ar (limbs (x % n).natAbs).length cr]]) (by rfl) rfl ?_ ?_
      · go_simp
        (try simp only [i64_w])
        try rfl
      refine hK.out _ _ ⟨A14, c14, Aq, cq, Ar, cr, g5, g6, m2_, m3_, (.tuple #[.agg #[.bool (decide (x / n < 0)), .slice Aq (limbs (x / n).natAbs).length cq], .agg #[.bool (decide (x % n < 0)), .slice Ar (limbs (x % n).natAbs).length cr]]), m5_, m6_, m7_, m8_, (by rw [ha.out]; exact putSel_upk 4 hb_ rfl rfl rfl), Q_HB, Q_FY, Q_FQ, Q_FR, Q_G7, Q_L7, Q_Z7, fun _ h1_ => absurd ((hoff 9 (by kernel_rfl)).symm.trans h1_) (by decide), Q_G8, Q_L8, Q_Z8, fun _ h1_ => absurd ((hoff 10 (by kernel_rfl)).symm.trans h1_) (by decide), Q_D7_8, Q_X2_, Q_X3_, fun _ => rfl, fun h0_ => absurd ((hoff 5 (by kernel_rfl)).symm.trans h0_) (by decide), fun h0_ => absurd ((hoff 6 (by kernel_rfl)).symm.trans h0_) (by decide), Q_X7_, Q_X8_⟩
    refine steps_cons ?_ ?_
    · rintro b a w' ⟨A14, c14, Aq, cq, Ar, cr, g5, g6, m2_, m3_, m4_, m5_, m6_, m7_, m8_, ha, Q_HB, Q_FY, Q_FQ, Q_FR, Q_G7, Q_L7, Q_Z7, Q_N9, Q_G8, Q_L8, Q_Z8, Q_N10, Q_D7_8, Q_X2_, Q_X3_, Q_X4_, Q_X5_, Q_X6_, Q_X7_, Q_X8_⟩ hb_ hon hoff
      refine ⟨_, rfl, fun K hK => ?_⟩
      have e11 : a.tmps[11]? = some (m4_) := by rw [ha]; exact putSel_on (e := (4, 11, m4_)) 4 rfl rfl (hon 4 (by kernel_rfl)) rfl
      rw [Q_X4_ (hon 4 (by kernel_rfl))] at e11
      replace ha := Aside0.mk ha
      have HB := Aside0.mk Q_HB
      have FY := Aside0.mk (Q_FY (hon 2 (by kernel_rfl)))
      have FQ := Aside0.mk (Q_FQ (hon 3 (by kernel_rfl)))
      have FR := Aside0.mk (Q_FR (hon 3 (by kernel_rfl)))
      have D7_8 := Aside0.mk Q_D7_8
      refine value_ (w1 := w') (v := .agg #[.bool (decide (x / n < 0)), .slice Aq (limbs (x / n).natAbs).length cq]) (by rfl) rfl ?_ ?_
      · go_simp
        (try simp only [i64_w])
        try rfl
      refine hK.out _ _ ⟨A14, c14, Aq, cq, Ar, cr, g5, g6, m2_, m3_, m4_, (.agg #[.bool (decide (x / n < 0)), .slice Aq (limbs (x / n).natAbs).length cq]), m6_, m7_, m8_, (by rw [ha.out]; exact putSel_upk 5 hb_ rfl rfl rfl), Q_HB, Q_FY, Q_FQ, Q_FR, Q_G7, Q_L7, Q_Z7, fun _ h1_ => absurd ((hoff 9 (by kernel_rfl)).symm.trans h1_) (by decide), Q_G8, Q_L8, Q_Z8, fun _ h1_ => absurd ((hoff 10 (by kernel_rfl)).symm.trans h1_) (by decide), Q_D7_8, Q_X2_, Q_X3_, Q_X4_, fun _ => rfl, Q_X6_, Q_X7_, Q_X8_⟩
    refine steps_cons ?_ ?_
    · rintro b a w' ⟨A14, c14, Aq, cq, Ar, cr, g5, g6, m2_, m3_, m4_, m5_, m6_, m7_, m8_, ha, Q_HB, Q_FY, Q_FQ, Q_FR, Q_G7, Q_L7, Q_Z7, Q_N9, Q_G8, Q_L8, Q_Z8, Q_N10, Q_D7_8, Q_X2_, Q_X3_, Q_X4_, Q_X5_, Q_X6_, Q_X7_, Q_X8_⟩ hb_ hon hoff
      refine ⟨_, rfl, fun K hK => ?_⟩
      have e11 : a.tmps[11]? = some (m4_) := by rw [ha]; exact putSel_on (e := (4, 11, m4_)) 4 rfl rfl (hon 4 (by kernel_rfl)) rfl
      rw [Q_X4_ (hon 4 (by kernel_rfl))] at e11
      replace ha := Aside0.mk ha
      have HB := Aside0.mk Q_HB
      have FY := Aside0.mk (Q_FY (hon 2 (by kernel_rfl)))
      have FQ := Aside0.mk (Q_FQ (hon 3 (by kernel_rfl)))
      have FR := Aside0.mk (Q_FR (hon 3 (by kernel_rfl)))
      have D7_8 := Aside0.mk Q_D7_8
      refine value_ (w1 := w') (v := .agg #[.bool (decide (x % n < 0)), .slice Ar (limbs (x % n).natAbs).length cr]) (by rfl) rfl ?_ ?_
      · go_simp
        (try simp only [i64_w])
        try rfl
      refine hK.out _ _ ⟨A14, c14, Aq, cq, Ar, cr, g5, g6, m2_, m3_, m4_, m5_, (.agg #[.bool (decide (x % n < 0)), .slice Ar (limbs (x % n).natAbs).length cr]), m7_, m8_, (by rw [ha.out]; exact putSel_upk 6 hb_ rfl rfl rfl), Q_HB, Q_FY, Q_FQ, Q_FR, Q_G7, Q_L7, Q_Z7, Q_N9, Q_G8, Q_L8, Q_Z8, fun _ h1_ => absurd ((hoff 10 (by kernel_rfl)).symm.trans h1_) (by decide), Q_D7_8, Q_X2_, Q_X3_, Q_X4_, Q_X5_, fun _ => rfl, Q_X7_, Q_X8_⟩
    refine steps_cons ?_ ?_
    · rintro b a w' ⟨A14, c14, Aq, cq, Ar, cr, g5, g6, m2_, m3_, m4_, m5_, m6_, m7_, m8_, ha, Q_HB, Q_FY, Q_FQ, Q_FR, Q_G7, Q_L7, Q_Z7, Q_N9, Q_G8, Q_L8, Q_Z8, Q_N10, Q_D7_8, Q_X2_, Q_X3_, Q_X4_, Q_X5_, Q_X6_, Q_X7_, Q_X8_⟩ hb_ hon hoff
      refine ⟨_, rfl, fun K hK => ?_⟩
      replace ha := Aside0.mk ha
      have HB := Aside0.mk Q_HB
      have D7_8 := Aside0.mk Q_D7_8
      have hb := (Below.refl w'.heap.size w').alloc (Nat.le_refl _) (.cells #[.bool false, .slice none 0 0] 71 (0, 0))
      refine value_ (w1 := w'.alloc (.cells #[.bool false, .slice none 0 0] 71 (0, 0))) (v := .pointer (some ⟨w'.heap.size, 0, none⟩)) (by rfl) rfl ?_ ?_
      · go_simp
        try rfl
      refine hK.out _ _ ⟨A14, c14, Aq, cq, Ar, cr, w'.heap.size, g6, m2_, m3_, m4_, m5_, m6_, (.pointer (some ⟨w'.heap.size, 0, none⟩)), m8_, (by rw [ha.out]; exact putSel_upk 7 hb_ rfl rfl rfl), hop HB.out hb, fun h2 => (Q_FY h2).below hb, fun h3 => (Q_FQ h3).below hb, fun h3 => (Q_FR h3).below hb, fun _ => HB.out.size, fun _ => (by simp), fun _ _ => heap_alloc_new w' _, fun _ h1_ => absurd ((hoff 9 (by kernel_rfl)).symm.trans h1_) (by decide), Q_G8, fun h8 => Nat.lt_of_lt_of_le (Q_L8 h8) hb.size, fun h8 h10 => (hb.block _ (blk_lt (Q_Z8 h8 h10))).trans (Q_Z8 h8 h10), fun _ h1_ => absurd ((hoff 10 (by kernel_rfl)).symm.trans h1_) (by decide), fun h1 h2 => (fun e => by have := Q_L8 h2; omega), Q_X2_, Q_X3_, Q_X4_, Q_X5_, Q_X6_, fun _ => rfl, Q_X8_⟩
    refine steps_cons ?_ ?_
    · rintro b a w' ⟨A14, c14, Aq, cq, Ar, cr, g5, g6, m2_, m3_, m4_, m5_, m6_, m7_, m8_, ha, Q_HB, Q_FY, Q_FQ, Q_FR, Q_G7, Q_L7, Q_Z7, Q_N9, Q_G8, Q_L8, Q_Z8, Q_N10, Q_D7_8, Q_X2_, Q_X3_, Q_X4_, Q_X5_, Q_X6_, Q_X7_, Q_X8_⟩ hb_ hon hoff
      refine ⟨_, rfl, fun K hK => ?_⟩
      replace ha := Aside0.mk ha
      have HB := Aside0.mk Q_HB
      have D7_8 := Aside0.mk Q_D7_8
      have hb := (Below.refl w'.heap.size w').alloc (Nat.le_refl _) (.cells #[.bool false, .slice none 0 0] 71 (0, 0))
      refine value_ (w1 := w'.alloc (.cells #[.bool false, .slice none 0 0] 71 (0, 0))) (v := .pointer (some ⟨w'.heap.size, 0, none⟩)) (by rfl) rfl ?_ ?_
      · go_simp
        try rfl
      refine hK.out _ _ ⟨A14, c14, Aq, cq, Ar, cr, g5, w'.heap.size, m2_, m3_, m4_, m5_, m6_, m7_, (.pointer (some ⟨w'.heap.size, 0, none⟩)), (by rw [ha.out]; exact putSel_upk 8 hb_ rfl rfl rfl), hop HB.out hb, fun h2 => (Q_FY h2).below hb, fun h3 => (Q_FQ h3).below hb, fun h3 => (Q_FR h3).below hb, Q_G7, fun h7 => Nat.lt_of_lt_of_le (Q_L7 h7) hb.size, fun h7 h9 => (hb.block _ (blk_lt (Q_Z7 h7 h9))).trans (Q_Z7 h7 h9), fun _ h1_ => absurd ((hoff 9 (by kernel_rfl)).symm.trans h1_) (by decide), fun _ => HB.out.size, fun _ => (by simp), fun _ _ => heap_alloc_new w' _, fun _ h1_ => absurd ((hoff 10 (by kernel_rfl)).symm.trans h1_) (by decide), fun h1 h2 => (fun e => by have := Q_L7 h1; omega), Q_X2_, Q_X3_, Q_X4_, Q_X5_, Q_X6_, Q_X7_, fun _ => rfl⟩
    refine steps_cons ?_ ?_
    · rintro b a w' ⟨A14, c14, Aq, cq, Ar, cr, g5, g6, m2_, m3_, m4_, m5_, m6_, m7_, m8_, ha, Q_HB, Q_FY, Q_FQ, Q_FR, Q_G7, Q_L7, Q_Z7, Q_N9, Q_G8, Q_L8, Q_Z8, Q_N10, Q_D7_8, Q_X2_, Q_X3_, Q_X4_, Q_X5_, Q_X6_, Q_X7_, Q_X8_⟩ hb_ hon hoff
      refine ⟨_, rfl, fun K hK => ?_⟩
      have e5 : a.tmps[5]? = some (m7_) := by rw [ha]; exact putSel_on (e := (7, 5, m7_)) 7 rfl rfl (hon 7 (by kernel_rfl)) rfl
      rw [Q_X7_ (hon 7 (by kernel_rfl))] at e5
      have e16 : a.tmps[16]? = some (m5_) := by rw [ha]; exact putSel_on (e := (5, 16, m5_)) 5 rfl rfl (hon 5 (by kernel_rfl)) rfl
      rw [Q_X5_ (hon 5 (by kernel_rfl))] at e16
      replace ha := Aside0.mk ha
      have HB := Aside0.mk Q_HB
      have FY := Aside0.mk (Q_FY (hon 2 (by kernel_rfl)))
      have FQ := Aside0.mk (Q_FQ (hon 3 (by kernel_rfl)))
      have FR := Aside0.mk (Q_FR (hon 3 (by kernel_rfl)))
      have G7 := Aside0.mk (Q_G7 (hon 7 (by kernel_rfl)))
      have L7 := Aside0.mk (Q_L7 (hon 7 (by kernel_rfl)))
      have Z7 := Aside0.mk (Q_Z7 (hon 7 (by kernel_rfl)) hb_)
      have G8 := Aside0.mk (Q_G8 (hon 8 (by kernel_rfl)))
      have L8 := Aside0.mk (Q_L8 (hon 8 (by kernel_rfl)))
      have Z8 := Aside0.mk (Q_Z8 (hon 8 (by kernel_rfl)) (hoff 10 (by kernel_rfl)))
      have D7_8 := Aside0.mk Q_D7_8
      have hk : Keep w' ((w'.setCell ⟨g5, 0, none⟩ (.bool (decide (x / n < 0)))).setCell ⟨g5, 1, none⟩ (.slice Aq (limbs (x / n).natAbs).length cq)) (fun k => k = g5) := (((Keep.refl w' (fun k => k = g5)).set ⟨g5, 0, none⟩ (.bool (decide (x / n < 0))) (.inl rfl)).set ⟨g5, 1, none⟩ (.slice Aq (limbs (x / n).natAbs).length cq) (.inl rfl))
      have y0 := blk_cell Z7.out 0
      have y1 := blk_cell Z7.out 1
      have z0 := blk_frozen Z7.out 0
      have z1 := blk_frozen Z7.out 1
      refine skip_ (w1 := ((w'.setCell ⟨g5, 0, none⟩ (.bool (decide (x / n < 0)))).setCell ⟨g5, 1, none⟩ (.slice Aq (limbs (x / n).natAbs).length cq))) (by rfl) rfl ?_ ?_
      · go_simp
        try rfl
      refine hK.out _ _ ⟨A14, c14, Aq, cq, Ar, cr, g5, g6, m2_, m3_, m4_, m5_, m6_, m7_, m8_, (by rw [ha.out]; exact putSel_none (v := undef) rfl), HB.out.trans (hk.below HB.out.size (fun k e => by have e2 : k = g5 := e; rw [e2]; exact G7.out)), fun h2 => (Q_FY h2).num Z7.out num_cells hk, fun h3 => (Q_FQ h3).num Z7.out num_cells hk, fun h3 => (Q_FR h3).num Z7.out num_cells hk, Q_G7, fun h7 => Nat.lt_of_lt_of_le (Q_L7 h7) hk.size, fun _ h1_ => absurd ((up_self b 9).symm.trans h1_) (by decide), fun _ _ => (blk_put (blk_put Z7.out 0 (.bool (decide (x / n < 0))) rfl) 1 (.slice Aq (limbs (x / n).natAbs).length cq) rfl), Q_G8, fun h8 => Nat.lt_of_lt_of_le (Q_L8 h8) hk.size, fun h8 h10 => (hk.block _ (blk_lt (Q_Z8 h8 h10)) (fun e => Q_D7_8 (hon 7 (by kernel_rfl)) h8 e.symm)).trans (Q_Z8 h8 h10), fun _ h1_ => absurd ((hoff 10 (by kernel_rfl)).symm.trans h1_) (by decide), Q_D7_8, Q_X2_, Q_X3_, Q_X4_, Q_X5_, Q_X6_, Q_X7_, Q_X8_⟩
    refine steps_cons ?_ ?_
    · rintro b a w' ⟨A14, c14, Aq, cq, Ar, cr, g5, g6, m2_, m3_, m4_, m5_, m6_, m7_, m8_, ha, Q_HB, Q_FY, Q_FQ, Q_FR, Q_G7, Q_L7, Q_Z7, Q_N9, Q_G8, Q_L8, Q_Z8, Q_N10, Q_D7_8, Q_X2_, Q_X3_, Q_X4_, Q_X5_, Q_X6_, Q_X7_, Q_X8_⟩ hb_ hon hoff
      refine ⟨_, rfl, fun K hK => ?_⟩
      have e6 : a.tmps[6]? = some (m8_) := by rw [ha]; exact putSel_on (e := (8, 6, m8_)) 8 rfl rfl (hon 8 (by kernel_rfl)) rfl
      rw [Q_X8_ (hon 8 (by kernel_rfl))] at e6
      have e17 : a.tmps[17]? = some (m6_) := by rw [ha]; exact putSel_on (e := (6, 17, m6_)) 6 rfl rfl (hon 6 (by kernel_rfl)) rfl
      rw [Q_X6_ (hon 6 (by kernel_rfl))] at e17
      replace ha := Aside0.mk ha
      have HB := Aside0.mk Q_HB
      have FY := Aside0.mk (Q_FY (hon 2 (by kernel_rfl)))
      have FQ := Aside0.mk (Q_FQ (hon 3 (by kernel_rfl)))
      have FR := Aside0.mk (Q_FR (hon 3 (by kernel_rfl)))
      have G7 := Aside0.mk (Q_G7 (hon 7 (by kernel_rfl)))
      have L7 := Aside0.mk (Q_L7 (hon 7 (by kernel_rfl)))
      have N9 := Aside0.mk (Q_N9 (hon 7 (by kernel_rfl)) (hon 9 (by kernel_rfl)))
      have G8 := Aside0.mk (Q_G8 (hon 8 (by kernel_rfl)))
      have L8 := Aside0.mk (Q_L8 (hon 8 (by kernel_rfl)))
      have Z8 := Aside0.mk (Q_Z8 (hon 8 (by kernel_rfl)) hb_)
      have D7_8 := Aside0.mk Q_D7_8
      have hk : Keep w' ((w'.setCell ⟨g6, 0, none⟩ (.bool (decide (x % n < 0)))).setCell ⟨g6, 1, none⟩ (.slice Ar (limbs (x % n).natAbs).length cr)) (fun k => k = g6) := (((Keep.refl w' (fun k => k = g6)).set ⟨g6, 0, none⟩ (.bool (decide (x % n < 0))) (.inl rfl)).set ⟨g6, 1, none⟩ (.slice Ar (limbs (x % n).natAbs).length cr) (.inl rfl))
      have y0 := blk_cell Z8.out 0
      have y1 := blk_cell Z8.out 1
      have z0 := blk_frozen Z8.out 0
      have z1 := blk_frozen Z8.out 1
      refine skip_ (w1 := ((w'.setCell ⟨g6, 0, none⟩ (.bool (decide (x % n < 0)))).setCell ⟨g6, 1, none⟩ (.slice Ar (limbs (x % n).natAbs).length cr))) (by rfl) rfl ?_ ?_
      · go_simp
        try rfl
      refine hK.out _ _ ⟨A14, c14, Aq, cq, Ar, cr, g5, g6, m2_, m3_, m4_, m5_, m6_, m7_, m8_, (by rw [ha.out]; exact putSel_none (v := undef) rfl), HB.out.trans (hk.below HB.out.size (fun k e => by have e2 : k = g6 := e; rw [e2]; exact G8.out)), fun h2 => (Q_FY h2).num Z8.out num_cells hk, fun h3 => (Q_FQ h3).num Z8.out num_cells hk, fun h3 => (Q_FR h3).num Z8.out num_cells hk, Q_G7, fun h7 => Nat.lt_of_lt_of_le (Q_L7 h7) hk.size, fun _ h1_ => absurd ((hon 9 (by kernel_rfl)).symm.trans h1_) (by decide), fun h7 h9 => (hk.block _ (blk_lt (Q_N9 h7 h9)) (fun e => Q_D7_8 h7 (hon 8 (by kernel_rfl)) e)).trans (Q_N9 h7 h9), Q_G8, fun h8 => Nat.lt_of_lt_of_le (Q_L8 h8) hk.size, fun _ h1_ => absurd ((up_self b 10).symm.trans h1_) (by decide), fun _ _ => (blk_put (blk_put Z8.out 0 (.bool (decide (x % n < 0))) rfl) 1 (.slice Ar (limbs (x % n).natAbs).length cr) rfl), Q_D7_8, Q_X2_, Q_X3_, Q_X4_, Q_X5_, Q_X6_, Q_X7_, Q_X8_⟩
    exact steps_nil
  · rintro b a w' hall ⟨A14, c14, Aq, cq, Ar, cr, g5, g6, m2_, m3_, m4_, m5_, m6_, m7_, m8_, ha, Q_HB, Q_FY, Q_FQ, Q_FR, Q_G7, Q_L7, Q_Z7, Q_N9, Q_G8, Q_L8, Q_Z8, Q_N10, Q_D7_8, Q_X2_, Q_X3_, Q_X4_, Q_X5_, Q_X6_, Q_X7_, Q_X8_⟩
    clear D7_8 HB
    have hb0_ := hall 0 (by kernel_rfl)
    have hb1_ := hall 1 (by kernel_rfl)
    have hb2_ := hall 2 (by kernel_rfl)
    have hb3_ := hall 3 (by kernel_rfl)
    have hb4_ := hall 4 (by kernel_rfl)
    have hb5_ := hall 5 (by kernel_rfl)
    have hb6_ := hall 6 (by kernel_rfl)
    have hb7_ := hall 7 (by kernel_rfl)
    have hb8_ := hall 8 (by kernel_rfl)
    have hb9_ := hall 9 (by kernel_rfl)
    have hb10_ := hall 10 (by kernel_rfl)
    subst ha
    obtain rfl := Q_X2_ hb2_
    obtain rfl := Q_X3_ hb3_
    obtain rfl := Q_X4_ hb4_
    obtain rfl := Q_X5_ hb5_
    obtain rfl := Q_X6_ hb6_
    obtain rfl := Q_X7_ hb7_
    obtain rfl := Q_X8_ hb8_
    simp only [putSel, hb0_, hb1_, hb2_, hb3_, hb4_, hb5_, hb6_, hb7_, hb8_, hb9_, hb10_, if_true, Act.put, List.setIfInBounds_toArray, List.set_cons_zero, List.set_cons_succ]
    have HB := Aside0.mk Q_HB
    clear Q_HB
    have FY := Aside0.mk (Q_FY hb2_)
    clear Q_FY
    have FQ := Aside0.mk (Q_FQ hb3_)
    clear Q_FQ
    have FR := Aside0.mk (Q_FR hb3_)
    clear Q_FR
    have G7 := Aside0.mk (Q_G7 hb7_)
    clear Q_G7
    have L7 := Aside0.mk (Q_L7 hb7_)
    clear Q_L7
    clear Q_Z7
    have N9 := Aside0.mk (Q_N9 hb7_ hb9_)
    clear Q_N9
    have G8 := Aside0.mk (Q_G8 hb8_)
    clear Q_G8
    have L8 := Aside0.mk (Q_L8 hb8_)
    clear Q_L8
    clear Q_Z8
    have N10 := Aside0.mk (Q_N10 hb8_ hb10_)
    clear Q_N10
    have D7_8 := Aside0.mk Q_D7_8
    clear Q_D7_8
    clear hall hb0_ hb1_ hb2_ hb3_ hb4_ hb5_ hb6_ hb7_ hb8_ hb9_ hb10_
    have k0 := blk_cell N9.out 0
    have k1 := blk_cell N9.out 1
    have HBW := Aside0.mk (hop NB.out HB.out)
    go_wp2_with (first
      | (go_at_call 49; (with_reducible refine (HTO.out _ _ (NumV.of FQ.out)).mono ?_); rintro e w7 ⟨rfl, hb7⟩; have m7 := heap_alloc_new w7 (.cells #[.int .i64 qa, .int .u64 qb] 25 (0, 0)); have j0 := blk_cell m7 0; have j1 := blk_cell m7 1; have HB7 := Aside0.mk (hop HBW.out hb7); clear hb7 m7)
      | (go_at_call 55; (with_reducible refine (HSM.out _).mono ?_); rintro e w8 ⟨rfl, hb8⟩; have HB8 := Aside0.mk (hop (HB7.out.alloc HB7.out.size _) hb8); clear hb8))
    go_ret
    exact ⟨rfl, HB8.out⟩
end Go.Proofs.Ythnihjfdmkfkiaa.Q

namespace Go.Proofs.Ythnihjfdmkfkiaa.Q
open Go.RowKit Go.Proofs.YthnihjfdmkfkiaaW.PrintWords Go.Proofs.YthnihjfdmkfkiaaW.PrintLast Go.Proofs.YthnihjfdmkfkiaaW.PrintMore Go.Proofs.YthnihjfdmkfkiaaV
set_option linter.unusedVariables false
set_option linter.unusedSimpArgs false

def rsm5.T : Bool × List (List Nat × List Nat) := (true, [([], []), ([], []), ([], []), ([1, 2], [1, 2]), ([3], [3]), ([4], [4]), ([0, 5, 5], [0, 5]), ([6, 6, 0, 1, 2, 3, 4, 5, 6], [6])])
def rsm5.B : List Nat := [0, 0, 0, 6, 14, 30, 63, 127]
theorem rsm5.tab : rtab .any (opsOf Try.f35 5) = rsm5.T := by kernel_rfl
theorem rsm5.bits : waitsOk rsm5.T.2 rsm5.B = true := by kernel_rfl
theorem rd_getE {l : List Int} {i : Nat} (h : i < l.length) : l[i] = rd l (i : Nat) := by
  unfold rd
  rw [Int.toNat_natCast, List.getD_eq_getElem?_getD, List.getElem?_eq_getElem h]
  rfl
set_option maxHeartbeats 3200000 in
set_option maxRecDepth 4000 in
theorem ref_sum {w : World} {A : Option Addr} {c : Nat} {l : List Int} (h : Kd.C (Kd.int .i64) w A l.length l) (hl : l.length ≤ 1048576) (hs : ∀ x ∈ l, smp x) :
    Calls Try.prog 35 #[.slice A l.length c] w fun e w' => ∃ v, e = .returned v ∧ NumV w' v l.sum ∧ Below w.heap.size w w' := by
  obtain ⟨W, hW⟩ : ∃ W, W = (w.alloc (.cells #[.bool false, .slice none 0 0] 71 (0, 0))).alloc (.cells #[.bool false, .slice none 0 0] 71 (0, 0)) := ⟨_, rfl⟩
  obtain ⟨n0, n1, nb, ns⟩ := new2' w (.cells #[.bool false, .slice none 0 0] 71 (0, 0)) (.cells #[.bool false, .slice none 0 0] 71 (0, 0))
  rw [← hW] at n0 n1 nb ns
  have HC := Aside0.mk h
  have HW := Aside0.mk hW
  have NB := Aside0.mk nb
  have N0 := Aside0.mk n0
  have N1 := Aside0.mk (show NumAt W (w.heap.size + 1) 0 from ⟨none, 0, n1, Lm_none _⟩)
  have HS := Aside0.mk hs
  clear h nb hW n0 n1 hs ns
  go_enter Try.func35, Try.ntmps35
  go_upto_region 2 with (fail)
  rw [← HW.out]
  go_wp2_with (fail)
  go_loopg [4] l.length (fun kq v4 w' => ∃ i : Nat, v4 = .int .i64 i ∧ i + kq = l.length ∧ Aside0 (NumAt w' (w.heap.size + 1) (l.take i).sum) ∧ Aside0 (w'.heap[w.heap.size]? = some (.cells #[.bool false, .slice none 0 0] 71 (0, 0))) ∧ Aside0 (Below w.heap.size w w'))
  case atStart => exact ⟨0, rfl, by omega, N1, N0, NB⟩
  case round =>
    clear N0 N1 NB
    obtain ⟨i, rfl, hik, N1, N0, NB⟩ := hrel
    cases gk with
    | zero =>
      obtain rfl : i = l.length := by omega
      have d1 : decide (l.length < l.length) = false := decide_eq_false (by omega)
      rw [List.take_length] at N1
      obtain ⟨A1, c1, h1, lm1⟩ := N1.out
      have k0 := blk_cell h1 0
      have k1 := blk_cell h1 1
      obtain ⟨b, hb⟩ : ∃ b, b = decide (l.sum < 0) := ⟨_, rfl⟩
      obtain ⟨n, hn⟩ : ∃ n, n = (limbs l.sum.natAbs).length := ⟨_, rfl⟩
      rw [← hb] at k0
      rw [← hn] at k1
      obtain ⟨f1, f2, f3, f4, f5⟩ := res2 (v0 := .bool b) (v1 := .slice A1 n c1) N0.out
      have F5 := Aside0.mk f5
      have HB_ := Aside0.mk hb
      have HN_ := Aside0.mk hn
      have L1 := Aside0.mk lm1
      clear h1 lm1 f5 hb hn
      go_wp2_with (fail)
      refine bodyPost_ret (results_cell_row rfl _ _ w.heap.size 71 _ (0, 0) _ rfl F5.out Try.underlying71 rfl (by kernel_rfl)) rfl ?_
      exact ⟨_, rfl, ⟨A1, c1, by rw [← HB_.out, ← HN_.out], L1.out.num N0.out num_cells keep_set2⟩, NB.out.trans (keep_set2.below NB.out.size (fun k hk => by omega))⟩
    | succ k1 =>
      have hil : i < l.length := by omega
      have d1 : decide (i < l.length) = true := decide_eq_true hil
      obtain ⟨ad, rfl, hc⟩ := cell_rd (Kd.C_below HC.out NB.out) hil
      obtain ⟨x, hx⟩ : ∃ x, x = rd l (i : Nat) := ⟨_, rfl⟩
      rw [← hx] at hc
      have hxs : smp x := by rw [hx, ← rd_getE hil]; exact HS.out _ (List.getElem_mem _)
      have hst := take_sum hil
      rw [rd_getE hil, ← hx] at hst
      have hsr := sum_smp (l := l.take i) (fun y hy => HS.out y (List.mem_of_mem_take hy))
      have hlen : (l.take i).length = i := by rw [List.length_take]; omega
      rw [hlen] at hsr
      obtain ⟨s, hse⟩ : ∃ s, s = (l.take i).sum := ⟨_, rfl⟩
      rw [← hse] at N1 hst hsr
      unfold smp at hxs
      obtain ⟨A1, c1, h1, lm1⟩ := N1.out
      have HI := Aside0.mk (fun W => ref_Int (z := x) W (by unfold in64; omega))
      have HA := Aside0.mk (fun (W : World) (u v : Value) (h1 : NumV W u s) (h2 : NumV W v x) => ref_AddN h1 h2 (few_W (by unfold inW; omega)) (few_W (by unfold inW; omega)))
      have HST := Aside0.mk hst
      have NN := Aside0.mk h1
      have LL := Aside0.mk lm1
      have k0 := blk_cell h1 0
      have k1_ := blk_cell h1 1
      clear h1 lm1 hx hst hlen hse N1 hsr
      go_upto_region 5 with (fail)
      have HB := Aside0.mk (show Below wr.heap.size wr wr.drew from (Below.refl _ _).drew)
      have E7 := Aside0.mk (show wr.drew.heap[w.heap.size + 1]? = some (.cells #[.bool (decide (s < 0)), .slice A1 (limbs s.natAbs).length c1] 71 (0, 0)) from NN.out)
      refine start_ (n := 8) (S := fun w' => True) (ds := []) #[false, false, false, false, false, false, false, false] (by kernel_rfl) rfl rfl trivial (fun hHeld => ?_)
      refine with_tabW rsm5.tab rsm5.bits (fun HT_ HW_ => ?_)
      refine inv_at [0, 1, 2, 3, 4, 5, 6, 7] (fun a0_ b a w' => ∃ (A17 : Option Addr) (c17 : Nat) (A18 : Option Addr) (c18 : Nat) (m5_ : Value) (m6_ : Value), a = putSel a0_ b [(0, 12, .agg #[.bool (decide (s < 0)), .slice A1 (limbs s.natAbs).length c1]), (1, 13, .slice (some ad) l.length c), (2, 14, .int .i64 (i : Int)), (3, 15, .pointer (some (ad.add i))), (4, 16, .int .i64 x), (5, 17, m5_), (6, 18, m6_)] ∧ (b 7 = false → Below wr.heap.size wr w') ∧ (b 7 = false → w'.heap[w.heap.size + 1]? = some (.cells #[.bool (decide (s < 0)), .slice A1 (limbs s.natAbs).length c1] 71 (0, 0))) ∧ (b 7 = true → w'.heap[w.heap.size + 1]? = some (.cells #[.bool (decide (s + x < 0)), .slice A18 (limbs (s + x).natAbs).length c18] 71 (0, 0))) ∧ (b 7 = true → Keep wr w' (fun k => k = w.heap.size + 1)) ∧ (b 5 = true → Lm w' A17 c17 (limbs x.natAbs)) ∧ (b 6 = true → Lm w' A18 c18 (limbs (s + x).natAbs)) ∧ (b 5 = true → (m5_ : Value) = .agg #[.bool (decide (x < 0)), .slice A17 (limbs x.natAbs).length c17]) ∧ (b 6 = true → (m6_ : Value) = .agg #[.bool (decide (s + x < 0)), .slice A18 (limbs (s + x).natAbs).length c18])) HT_.out HW_.out (by kernel_rfl) (by kernel_rfl) ?_ ?_ ?_
      · exact ⟨none, 0, none, 0, .bool false, .bool false, by simp only [putSel, Bool.false_eq_true, if_false], fun _ => HB.out, fun _ => E7.out, fun h_ => absurd h_ (by decide), fun h_ => absurd h_ (by decide), fun h_ => absurd h_ (by decide), fun h_ => absurd h_ (by decide), fun h_ => absurd h_ (by decide), fun h_ => absurd h_ (by decide)⟩
      · skip
        clear E7 HB
        refine steps_cons ?_ ?_
        · rintro b a w' ⟨A17, c17, A18, c18, m5_, m6_, ha, Q_HB, Q_E7, Q_N7, Q_K7, Q_FX, Q_FS, Q_X5_, Q_X6_⟩ hb_ hon hoff
          refine ⟨_, rfl, fun K hK => ?_⟩
          have e3 : a.tmps[3]? = some (.pointer (some ⟨w.heap.size + 1, 0, none⟩)) := by rw [ha]; exact (putSel_off rfl).trans rfl
          replace ha := Aside0.mk ha
          have HB := Aside0.mk (Q_HB (hoff 7 (by kernel_rfl)))
          have E7 := Aside0.mk (Q_E7 (hoff 7 (by kernel_rfl)))
          have k0 := blk_cell ((HB.out.block _ (blk_lt NN.out)).trans NN.out) 0
          have k1 := blk_cell ((HB.out.block _ (blk_lt NN.out)).trans NN.out) 1
          refine value_ (w1 := w') (v := .agg #[.bool (decide (s < 0)), .slice A1 (limbs s.natAbs).length c1]) (by rfl) rfl ?_ ?_
          · go_simp
            (try simp only [i64_w])
            try rfl
          refine hK.out _ _ ⟨A17, c17, A18, c18, m5_, m6_, (by rw [ha.out]; exact putSel_upk 0 hb_ rfl rfl rfl), Q_HB, Q_E7, fun h0_ => absurd ((hoff 7 (by kernel_rfl)).symm.trans h0_) (by decide), fun h0_ => absurd ((hoff 7 (by kernel_rfl)).symm.trans h0_) (by decide), Q_FX, fun h0_ => absurd ((hoff 6 (by kernel_rfl)).symm.trans h0_) (by decide), Q_X5_, fun h0_ => absurd ((hoff 6 (by kernel_rfl)).symm.trans h0_) (by decide)⟩
        refine steps_cons ?_ ?_
        · rintro b a w' ⟨A17, c17, A18, c18, m5_, m6_, ha, Q_HB, Q_E7, Q_N7, Q_K7, Q_FX, Q_FS, Q_X5_, Q_X6_⟩ hb_ hon hoff
          refine ⟨_, rfl, fun K hK => ?_⟩
          have e0 : a.tmps[0]? = some (.slice (some ad) l.length c) := by rw [ha]; exact (putSel_off rfl).trans rfl
          replace ha := Aside0.mk ha
          have HB := Aside0.mk (Q_HB (hoff 7 (by kernel_rfl)))
          have E7 := Aside0.mk (Q_E7 (hoff 7 (by kernel_rfl)))
          refine value_ (w1 := w') (v := .slice (some ad) l.length c) (by rfl) rfl ?_ ?_
          · go_simp
            (try simp only [i64_w])
            try rfl
          refine hK.out _ _ ⟨A17, c17, A18, c18, m5_, m6_, (by rw [ha.out]; exact putSel_upk 1 hb_ rfl rfl rfl), Q_HB, Q_E7, fun h0_ => absurd ((hoff 7 (by kernel_rfl)).symm.trans h0_) (by decide), fun h0_ => absurd ((hoff 7 (by kernel_rfl)).symm.trans h0_) (by decide), fun h0_ => absurd ((hoff 5 (by kernel_rfl)).symm.trans h0_) (by decide), fun h0_ => absurd ((hoff 6 (by kernel_rfl)).symm.trans h0_) (by decide), fun h0_ => absurd ((hoff 5 (by kernel_rfl)).symm.trans h0_) (by decide), fun h0_ => absurd ((hoff 6 (by kernel_rfl)).symm.trans h0_) (by decide)⟩
        refine steps_cons ?_ ?_
        · rintro b a w' ⟨A17, c17, A18, c18, m5_, m6_, ha, Q_HB, Q_E7, Q_N7, Q_K7, Q_FX, Q_FS, Q_X5_, Q_X6_⟩ hb_ hon hoff
          refine ⟨_, rfl, fun K hK => ?_⟩
          have e4 : a.tmps[4]? = some (.int .i64 (i : Int)) := by rw [ha]; exact (putSel_off rfl).trans rfl
          replace ha := Aside0.mk ha
          have HB := Aside0.mk (Q_HB (hoff 7 (by kernel_rfl)))
          have E7 := Aside0.mk (Q_E7 (hoff 7 (by kernel_rfl)))
          refine value_ (w1 := w') (v := .int .i64 (i : Int)) (by rfl) rfl ?_ ?_
          · go_simp
            (try simp only [i64_w])
            try rfl
          refine hK.out _ _ ⟨A17, c17, A18, c18, m5_, m6_, (by rw [ha.out]; exact putSel_upk 2 hb_ rfl rfl rfl), Q_HB, Q_E7, fun h0_ => absurd ((hoff 7 (by kernel_rfl)).symm.trans h0_) (by decide), fun h0_ => absurd ((hoff 7 (by kernel_rfl)).symm.trans h0_) (by decide), fun h0_ => absurd ((hoff 5 (by kernel_rfl)).symm.trans h0_) (by decide), fun h0_ => absurd ((hoff 6 (by kernel_rfl)).symm.trans h0_) (by decide), fun h0_ => absurd ((hoff 5 (by kernel_rfl)).symm.trans h0_) (by decide), fun h0_ => absurd ((hoff 6 (by kernel_rfl)).symm.trans h0_) (by decide)⟩
        refine steps_cons ?_ ?_
        · rintro b a w' ⟨A17, c17, A18, c18, m5_, m6_, ha, Q_HB, Q_E7, Q_N7, Q_K7, Q_FX, Q_FS, Q_X5_, Q_X6_⟩ hb_ hon hoff
          refine ⟨_, rfl, fun K hK => ?_⟩
          have e13 : a.tmps[13]? = some (.slice (some ad) l.length c) := by rw [ha]; exact putSel_on (e := (1, 13, .slice (some ad) l.length c)) 1 rfl rfl (hon 1 (by kernel_rfl)) rfl
          have e14 : a.tmps[14]? = some (.int .i64 (i : Int)) := by rw [ha]; exact putSel_on (e := (2, 14, .int .i64 (i : Int))) 2 rfl rfl (hon 2 (by kernel_rfl)) rfl
          replace ha := Aside0.mk ha
          have HB := Aside0.mk (Q_HB (hoff 7 (by kernel_rfl)))
          have E7 := Aside0.mk (Q_E7 (hoff 7 (by kernel_rfl)))
          refine value_ (w1 := w') (v := .pointer (some (ad.add i))) (by rfl) rfl ?_ ?_
          · go_simp
            (try simp only [i64_w])
            try rfl
          refine hK.out _ _ ⟨A17, c17, A18, c18, m5_, m6_, (by rw [ha.out]; exact putSel_upk 3 hb_ rfl rfl rfl), Q_HB, Q_E7, fun h0_ => absurd ((hoff 7 (by kernel_rfl)).symm.trans h0_) (by decide), fun h0_ => absurd ((hoff 7 (by kernel_rfl)).symm.trans h0_) (by decide), fun h0_ => absurd ((hoff 5 (by kernel_rfl)).symm.trans h0_) (by decide), fun h0_ => absurd ((hoff 6 (by kernel_rfl)).symm.trans h0_) (by decide), fun h0_ => absurd ((hoff 5 (by kernel_rfl)).symm.trans h0_) (by decide), fun h0_ => absurd ((hoff 6 (by kernel_rfl)).symm.trans h0_) (by decide)⟩
        refine steps_cons ?_ ?_
        · rintro b a w' ⟨A17, c17, A18, c18, m5_, m6_, ha, Q_HB, Q_E7, Q_N7, Q_K7, Q_FX, Q_FS, Q_X5_, Q_X6_⟩ hb_ hon hoff
          refine ⟨_, rfl, fun K hK => ?_⟩
          have e15 : a.tmps[15]? = some (.pointer (some (ad.add i))) := by rw [ha]; exact putSel_on (e := (3, 15, .pointer (some (ad.add i)))) 3 rfl rfl (hon 3 (by kernel_rfl)) rfl
          replace ha := Aside0.mk ha
          have HB := Aside0.mk (Q_HB (hoff 7 (by kernel_rfl)))
          have E7 := Aside0.mk (Q_E7 (hoff 7 (by kernel_rfl)))
          have k0 := pw_cell_below HB.out hc
          refine value_ (w1 := w') (v := .int .i64 x) (by rfl) rfl ?_ ?_
          · go_simp
            (try simp only [i64_w])
            try rfl
          refine hK.out _ _ ⟨A17, c17, A18, c18, m5_, m6_, (by rw [ha.out]; exact putSel_upk 4 hb_ rfl rfl rfl), Q_HB, Q_E7, fun h0_ => absurd ((hoff 7 (by kernel_rfl)).symm.trans h0_) (by decide), fun h0_ => absurd ((hoff 7 (by kernel_rfl)).symm.trans h0_) (by decide), fun h0_ => absurd ((hoff 5 (by kernel_rfl)).symm.trans h0_) (by decide), fun h0_ => absurd ((hoff 6 (by kernel_rfl)).symm.trans h0_) (by decide), fun h0_ => absurd ((hoff 5 (by kernel_rfl)).symm.trans h0_) (by decide), fun h0_ => absurd ((hoff 6 (by kernel_rfl)).symm.trans h0_) (by decide)⟩
        refine steps_cons ?_ ?_
        · rintro b a w' ⟨A17, c17, A18, c18, m5_, m6_, ha, Q_HB, Q_E7, Q_N7, Q_K7, Q_FX, Q_FS, Q_X5_, Q_X6_⟩ hb_ hon hoff
          refine ⟨_, rfl, fun K hK => ?_⟩
          have e16 : a.tmps[16]? = some (.int .i64 x) := by rw [ha]; exact putSel_on (e := (4, 16, .int .i64 x)) 4 rfl rfl (hon 4 (by kernel_rfl)) rfl
          replace ha := Aside0.mk ha
          have HB := Aside0.mk (Q_HB (hoff 7 (by kernel_rfl)))
          have E7 := Aside0.mk (Q_E7 (hoff 7 (by kernel_rfl)))
          refine goes_ Try.func38 (by kernel_rfl) rfl #[.int .i64 x] (by rfl) rfl rfl (by first | (simp only [List.map_toArray, List.map_cons, List.map_nil, Act.eval, Array.getD_eq_getD_getElem?, Option.getD_some, e16]; done) | (simp only [List.map_toArray, List.map_cons, List.map_nil, Act.eval, Array.getD_eq_getD_getElem?, Option.getD_some, e16]; rfl)) ?_
          with_reducible refine (HI.out _).mono ?_
          rintro e w1 ⟨u1, rfl, ⟨A1_, c1_, rfl, h1⟩, hb⟩
          refine ⟨_, rfl, ?_⟩
          refine hK.out _ _ ⟨A1_, c1_, A18, c18, (.agg #[.bool (decide (x < 0)), .slice A1_ (limbs x.natAbs).length c1_]), m6_, (by rw [ha.out]; exact putSel_upk 5 hb_ rfl rfl rfl), fun h7 => hop HB.out hb, fun h7 => (hb.block _ (blk_lt (Q_E7 h7))).trans (Q_E7 h7), fun h0_ => absurd ((hoff 7 (by kernel_rfl)).symm.trans h0_) (by decide), fun h0_ => absurd ((hoff 7 (by kernel_rfl)).symm.trans h0_) (by decide), fun _ => h1, fun h0_ => absurd ((hoff 6 (by kernel_rfl)).symm.trans h0_) (by decide), fun _ => rfl, fun h0_ => absurd ((hoff 6 (by kernel_rfl)).symm.trans h0_) (by decide)⟩
        refine steps_cons ?_ ?_
        · rintro b a w' ⟨A17, c17, A18, c18, m5_, m6_, ha, Q_HB, Q_E7, Q_N7, Q_K7, Q_FX, Q_FS, Q_X5_, Q_X6_⟩ hb_ hon hoff
          refine ⟨_, rfl, fun K hK => ?_⟩
          have e12 : a.tmps[12]? = some (.agg #[.bool (decide (s < 0)), .slice A1 (limbs s.natAbs).length c1]) := by rw [ha]; exact putSel_on (e := (0, 12, .agg #[.bool (decide (s < 0)), .slice A1 (limbs s.natAbs).length c1])) 0 rfl rfl (hon 0 (by kernel_rfl)) rfl
          have e17 : a.tmps[17]? = some (m5_) := by rw [ha]; exact putSel_on (e := (5, 17, m5_)) 5 rfl rfl (hon 5 (by kernel_rfl)) rfl
          rw [Q_X5_ (hon 5 (by kernel_rfl))] at e17
          replace ha := Aside0.mk ha
          have HB := Aside0.mk (Q_HB (hoff 7 (by kernel_rfl)))
          have E7 := Aside0.mk (Q_E7 (hoff 7 (by kernel_rfl)))
          have FX := Aside0.mk (Q_FX (hon 5 (by kernel_rfl)))
          refine goes_ Try.func39 (by kernel_rfl) rfl #[.agg #[.bool (decide (s < 0)), .slice A1 (limbs s.natAbs).length c1], .agg #[.bool (decide (x < 0)), .slice A17 (limbs x.natAbs).length c17]] (by rfl) rfl rfl (by first | (simp only [List.map_toArray, List.map_cons, List.map_nil, Act.eval, Array.getD_eq_getD_getElem?, Option.getD_some, e12, e17]; done) | (simp only [List.map_toArray, List.map_cons, List.map_nil, Act.eval, Array.getD_eq_getD_getElem?, Option.getD_some, e12, e17]; rfl)) ?_
          with_reducible refine (HA.out _ _ _ (NumV.of (LL.out.below HB.out)) (NumV.of FX.out)).mono ?_
          rintro e w1 ⟨u1, rfl, ⟨A1_, c1_, rfl, h1⟩, hb⟩
          refine ⟨_, rfl, ?_⟩
          refine hK.out _ _ ⟨A17, c17, A1_, c1_, m5_, (.agg #[.bool (decide (s + x < 0)), .slice A1_ (limbs (s + x).natAbs).length c1_]), (by rw [ha.out]; exact putSel_upk 6 hb_ rfl rfl rfl), fun h7 => hop HB.out hb, fun h7 => (hb.block _ (blk_lt (Q_E7 h7))).trans (Q_E7 h7), fun h0_ => absurd ((hoff 7 (by kernel_rfl)).symm.trans h0_) (by decide), fun h0_ => absurd ((hoff 7 (by kernel_rfl)).symm.trans h0_) (by decide), fun h5 => (Q_FX h5).below hb, fun _ => h1, Q_X5_, fun _ => rfl⟩
        refine steps_cons ?_ ?_
        · rintro b a w' ⟨A17, c17, A18, c18, m5_, m6_, ha, Q_HB, Q_E7, Q_N7, Q_K7, Q_FX, Q_FS, Q_X5_, Q_X6_⟩ hb_ hon hoff
          refine ⟨_, rfl, fun K hK => ?_⟩
          have e3 : a.tmps[3]? = some (.pointer (some ⟨w.heap.size + 1, 0, none⟩)) := by rw [ha]; exact (putSel_off rfl).trans rfl
          have e18 : a.tmps[18]? = some (m6_) := by rw [ha]; exact putSel_on (e := (6, 18, m6_)) 6 rfl rfl (hon 6 (by kernel_rfl)) rfl
          rw [Q_X6_ (hon 6 (by kernel_rfl))] at e18
          replace ha := Aside0.mk ha
          have HB := Aside0.mk (Q_HB hb_)
          have E7 := Aside0.mk (Q_E7 hb_)
          have FX := Aside0.mk (Q_FX (hon 5 (by kernel_rfl)))
          have FS := Aside0.mk (Q_FS (hon 6 (by kernel_rfl)))
          have hk : Keep w' ((w'.setCell ⟨w.heap.size + 1, 0, none⟩ (.bool (decide (s + x < 0)))).setCell ⟨w.heap.size + 1, 1, none⟩ (.slice A18 (limbs (s + x).natAbs).length c18)) (fun k => k = w.heap.size + 1) := (((Keep.refl w' (fun k => k = w.heap.size + 1)).set ⟨w.heap.size + 1, 0, none⟩ (.bool (decide (s + x < 0))) (.inl rfl)).set ⟨w.heap.size + 1, 1, none⟩ (.slice A18 (limbs (s + x).natAbs).length c18) (.inl rfl))
          have y0 := blk_cell E7.out 0
          have y1 := blk_cell E7.out 1
          have z0 := blk_frozen E7.out 0
          have z1 := blk_frozen E7.out 1
          refine skip_ (w1 := ((w'.setCell ⟨w.heap.size + 1, 0, none⟩ (.bool (decide (s + x < 0)))).setCell ⟨w.heap.size + 1, 1, none⟩ (.slice A18 (limbs (s + x).natAbs).length c18))) (by rfl) rfl ?_ ?_
          · go_simp
            try rfl
          refine hK.out _ _ ⟨A17, c17, A18, c18, m5_, m6_, (by rw [ha.out]; exact putSel_none (v := undef) rfl), fun h0_ => absurd ((up_self b 7).symm.trans h0_) (by decide), fun h0_ => absurd ((up_self b 7).symm.trans h0_) (by decide), fun _ => (blk_put (blk_put E7.out 0 (.bool (decide (s + x < 0))) rfl) 1 (.slice A18 (limbs (s + x).natAbs).length c18) rfl), fun _ => (Keep.of_below HB.out).trans hk (fun _ _ (q : False) => q.elim) (fun _ _ q => q), fun h5 => (Q_FX h5).num E7.out num_cells hk, fun h6 => (Q_FS h6).num E7.out num_cells hk, Q_X5_, Q_X6_⟩
        exact steps_nil
      · rintro b a w' hall ⟨A17, c17, A18, c18, m5_, m6_, ha, Q_HB, Q_E7, Q_N7, Q_K7, Q_FX, Q_FS, Q_X5_, Q_X6_⟩
        clear E7 HB
        have hb0_ := hall 0 (by kernel_rfl)
        have hb1_ := hall 1 (by kernel_rfl)
        have hb2_ := hall 2 (by kernel_rfl)
        have hb3_ := hall 3 (by kernel_rfl)
        have hb4_ := hall 4 (by kernel_rfl)
        have hb5_ := hall 5 (by kernel_rfl)
        have hb6_ := hall 6 (by kernel_rfl)
        have hb7_ := hall 7 (by kernel_rfl)
        subst ha
        obtain rfl := Q_X5_ hb5_
        obtain rfl := Q_X6_ hb6_
        simp only [putSel, hb0_, hb1_, hb2_, hb3_, hb4_, hb5_, hb6_, hb7_, if_true, Act.put, List.setIfInBounds_toArray, List.set_cons_zero, List.set_cons_succ]
        clear Q_HB
        clear Q_E7
        have N7 := Aside0.mk (Q_N7 hb7_)
        clear Q_N7
        have K7 := Aside0.mk (Q_K7 hb7_)
        clear Q_K7
        have FX := Aside0.mk (Q_FX hb5_)
        clear Q_FX
        have FS := Aside0.mk (Q_FS hb6_)
        clear Q_FS
        clear hall hb0_ hb1_ hb2_ hb3_ hb4_ hb5_ hb6_ hb7_
        go_wp2_with (fail)
        go_roundg k1
        case rel =>
          refine ⟨i + 1, by go_num, by omega, ⟨?_⟩, ⟨(K7.out.block _ (blk_lt N0.out) (by omega)).trans N0.out⟩, ⟨NB.out.trans (K7.out.below NB.out.size (fun k hk => by omega))⟩⟩
          rw [HST.out]
          exact ⟨A18, c18, N7.out, FS.out⟩
        case measure => omega
end Go.Proofs.Ythnihjfdmkfkiaa.Q
