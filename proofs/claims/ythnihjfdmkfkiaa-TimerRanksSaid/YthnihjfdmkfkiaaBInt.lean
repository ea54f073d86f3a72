import Derived.Test.YthnihjfdmkfkiaaMB
import Derived.Test.YthnihjfdmkfkiaaMC
namespace Go.Proofs.Ythnihjfdmkfkiaa.Q
open Go.RowKit Go.Proofs.YthnihjfdmkfkiaaW.PrintWords Go.Proofs.YthnihjfdmkfkiaaW.PrintLast Go.Proofs.YthnihjfdmkfkiaaW.PrintMore Go.Proofs.YthnihjfdmkfkiaaV
set_option linter.unusedVariables false
set_option linter.unusedSimpArgs false

/-- A row of limbs past a store into a block that holds no limbs. -/
theorem Lm.num {w w' : World} {A : Option Addr} {c : Nat} {l : List Int} {g : Nat} {cs0 : Array Value} {t : TypeId} {fr : Nat × Nat} (h : Lm w A c l) (hz : w.heap[g]? = some (.cells cs0 t fr)) (hn : ∀ (j : Nat) (n : Int), cs0[j]? ≠ some (Value.int .u32 n)) (hk : Keep w w' (fun k => k = g)) : Lm w' A c l := by
  refine ⟨?_, h.cap, h.ok⟩
  obtain ⟨e1, e2, h3⟩ := h.row
  refine ⟨e1, e2, fun hp => ?_⟩
  obtain ⟨ad, ha, hc⟩ := h3 hp
  refine ⟨ad, ha, fun i x hx => ?_⟩
  obtain ⟨cs, hs, hK, hj⟩ := hc i x hx
  refine ⟨cs, hs, hK, fun j u hu => ?_⟩
  have hq := hj j u hu
  have hu2 : u = .int .u32 x := by
    have hK2 : cs = [Value.int .u32 x] := hK
    subst hK2
    cases j with
    | zero => simpa using hu.symm
    | succ j => simp at hu
  have hne : ¬ (ad.add (i * (Kd.int .u32).sz + j)).block = g := by
    intro e
    generalize ad.add (i * (Kd.int .u32).sz + j) = a at hq e
    unfold World.cell? at hq
    rw [e, hz] at hq
    subst hu2
    simp only at hq
    split at hq
    · cases hq
    · exact hn _ _ hq
  have hlt := cell_lt hq
  rw [cell_same (hk.block _ hlt hne)]
  exact hq
theorem num_cells {p : Bool} {A : Option Addr} {n c : Nat} (j : Nat) (x : Int) : (#[.bool p, .slice A n c] : Array Value)[j]? ≠ some (Value.int .u32 x) := by
  match j with
  | 0 => simp
  | 1 => simp
  | j + 2 => simp
theorem wide_cells {a b : Int} (j : Nat) (x : Int) : (#[.int .i64 a, .int .u64 b] : Array Value)[j]? ≠ some (Value.int .u32 x) := by
  match j with
  | 0 => simp
  | 1 => simp
  | j + 2 => simp
/-- A number that lies in a block. -/
def NumAt (w : World) (g : Nat) (x : Int) : Prop := ∃ A c, w.heap[g]? = some (.cells #[.bool (decide (x < 0)), .slice A (limbs x.natAbs).length c] 71 (0, 0)) ∧ Lm w A c (limbs x.natAbs)
theorem NumV.of {w : World} {A : Option Addr} {c : Nat} {x : Int} (h : Lm w A c (limbs x.natAbs)) : NumV w (.agg #[.bool (decide (x < 0)), .slice A (limbs x.natAbs).length c]) x := ⟨A, c, rfl, h⟩
theorem few_W {x : Int} (h : inW x) : fewL x := few_of (by
  unfold inW at h
  have e : (340282366920938463463374607431768211456 : Nat) ≤ 65536 ^ 64 := by decide
  omega)
theorem ref_Of {z : Int} (w : World) (hz : in64 z) :
    Calls Try.prog 57 #[.int .i64 z] w fun e w' => e = .returned (WV z) ∧ Below w.heap.size w w' := by
  unfold in64 at hz
  unfold WV
  by_cases h : z < 0
  · have d1 : decide (z < 0) = true := decide_eq_true h
    have e1 : hiW z = -1 := by unfold hiW; omega
    have e2 : IntKind.u64.wrap z = loW z := by unfold loW; rw [u64w]
    rw [e1, ← e2]
    clear e1 e2
    go_enter Try.func57, Try.ntmps57
    go_wp2
    refine bodyPost_ret (results_cell_row rfl _ _ w.heap.size 25 _ (0, 0) _ rfl (heap_alloc_new _ _) Try.underlying25 rfl (by kernel_rfl)) rfl ?_
    exact ⟨rfl, below_alloc (Below.refl _ _) _⟩
  · have d1 : decide (z < 0) = false := decide_eq_false h
    have e1 : hiW z = 0 := by unfold hiW; omega
    have e2 : loW z = z := by unfold loW; omega
    rw [e1, e2]
    clear e1 e2
    go_enter Try.func57, Try.ntmps57
    go_wp2
    refine bodyPost_ret (results_cell_row rfl _ _ w.heap.size 25 _ (0, 0) _ rfl (heap_alloc_new _ _) Try.underlying25 rfl (by kernel_rfl)) rfl ?_
    exact ⟨rfl, below_alloc (Below.refl _ _) _⟩
theorem in64_inW {z : Int} (h : in64 z) : inW z := by unfold in64 at h; unfold inW; omega
theorem ref_Int {z : Int} (w : World) (hz : in64 z) :
    Calls Try.prog 38 #[.int .i64 z] w fun e w' => ∃ v, e = .returned v ∧ NumV w' v z ∧ Below w.heap.size w w' := by
  have n0 := heap_alloc_new w (.cells #[.bool false, .slice none 0 0] 71 (0, 0))
  have HN := Aside0.mk n0
  have HB := Aside0.mk (below_alloc (Below.refl w.heap.size w) (.cells #[.bool false, .slice none 0 0] 71 (0, 0)))
  have HO := Aside0.mk (fun W => ref_Of W hz)
  have HF := Aside0.mk (fun W => ref_From W (in64_inW hz))
  have NS := Aside0.mk (show (w.alloc (.cells #[.bool false, .slice none 0 0] 71 (0, 0))).heap.size = w.heap.size + 1 by simp)
  clear n0
  go_enter Try.func38, Try.ntmps38
  go_wp2_with (first
    | (go_at_call 57; (with_reducible refine (HO.out _).mono ?_); rintro e w5 ⟨rfl, hb5⟩; have B5 := Aside0.mk ((hb5.block _ (blk_lt HN.out)).trans HN.out); have HB5 := Aside0.mk (hop HB.out hb5); clear hb5)
    | (go_at_call 56; (with_reducible refine (HF.out _).mono ?_); rintro e w6 ⟨v, rfl, ⟨A, c, rfl, h6⟩, hb6⟩; obtain ⟨s, hs⟩ : ∃ s, s = decide (z < 0) := ⟨_, rfl⟩; rw [← hs]; have HS := Aside0.mk hs; have H6 := Aside0.mk h6; have E6 := (hb6.block _ (blk_lt B5.out)).trans B5.out; obtain ⟨f1, f2, f3, f4, f5⟩ := res2 (v0 := .bool s) (v1 := .slice A (limbs z.natAbs).length c) E6; have F5 := Aside0.mk f5; have HE6 := Aside0.mk E6; have HB6 := Aside0.mk (hop HB5.out hb6); clear h6 hb6 hs f5 E6))
  refine bodyPost_ret (results_cell_row rfl _ _ w.heap.size 71 _ (0, 0) _ rfl F5.out Try.underlying71 rfl (by kernel_rfl)) rfl ?_
  exact ⟨_, rfl, ⟨A, c, by rw [← HS.out], H6.out.num HE6.out num_cells keep_set2⟩, HB6.out.trans (keep_set2.below HB6.out.size (fun k hk => by omega))⟩
set_option maxHeartbeats 1600000 in
theorem ref_Small {z : Int} (w : World) (hz : in64 z) :
    Calls Try.prog 55 #[WV z] w fun q w' => q = .returned (.tuple #[.int .i64 z, .bool true]) ∧ Below w.heap.size w w' := by
  have HO := Aside0.mk (fun W => ref_Of W hz)
  unfold WV at HO ⊢
  have hw : wrap64 (loW z) = z := by unfold in64 at hz; unfold loW wrap64; omega
  obtain ⟨za, hza⟩ : ∃ a, a = hiW z := ⟨_, rfl⟩
  obtain ⟨zb, hzb⟩ : ∃ a, a = loW z := ⟨_, rfl⟩
  rw [← hza, ← hzb] at HO ⊢
  rw [← hzb] at hw
  have HO := Aside0.mk (fun W => (show Calls Try.prog 57 #[.int .i64 (wrap64 zb)] W _ by rw [hw]; exact HO.out W))
  have RES := Aside0.mk hw
  clear hw
  obtain ⟨W, hW⟩ : ∃ W, W = w.alloc (.cells #[.int .i64 za, .int .u64 zb] 25 (0, 0)) := ⟨_, rfl⟩
  have n0 : W.heap[w.heap.size]? = some (.cells #[.int .i64 za, .int .u64 zb] 25 (0, 0)) := by rw [hW]; exact heap_alloc_new _ _
  have NB := Aside0.mk (show Below w.heap.size w W by rw [hW]; exact below_alloc (Below.refl _ _) _)
  have HW := Aside0.mk hW
  have N0 := Aside0.mk n0
  have c0 : W.cell? ⟨w.heap.size, 0, none⟩ = some (.int .i64 za) := blk_cell n0 0
  have c1 : W.cell? ⟨w.heap.size, 1, none⟩ = some (.int .u64 zb) := blk_cell n0 1
  clear hza hzb hW n0 hz
  go_enter Try.func55, Try.ntmps55
  go_upto_region 1 with (fail)
  rw [← HW.out]
  go_upto_region 2 with (fail)
  go_region_held3 (fun w' => w'.cell? ⟨w.heap.size, 0, none⟩ = some (.int .i64 za) ∧ w'.cell? ⟨w.heap.size, 1, none⟩ = some (.int .u64 zb)) (go_keep) (first
    | (go_at_call 57; (with_reducible refine (HO.out _).mono ?_); rintro e w5 ⟨rfl, hb5⟩; have hb6 := hop (below_drew NB.out) hb5; have HB5 := Aside0.mk hb6; have k0 := blk_cell ((hb5.block _ (blk_lt N0.out)).trans N0.out) 0; have k1 := blk_cell ((hb5.block _ (blk_lt N0.out)).trans N0.out) 1; clear hb5 hb6))
  all_goals
    go_wp2_with (fail)
    go_ret2
    rw [RES.out]
    exact ⟨rfl, HB5.out⟩
end Go.Proofs.Ythnihjfdmkfkiaa.Q
