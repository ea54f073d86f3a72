import Derived.Test.YthnihjfdmkfkiaaTWid
namespace Go.Proofs.Ythnihjfdmkfkiaa.Q
open Go.RowKit Go.Proofs.YthnihjfdmkfkiaaW.PrintWords Go.Proofs.YthnihjfdmkfkiaaW.PrintLast Go.Proofs.YthnihjfdmkfkiaaW.PrintMore Go.Proofs.YthnihjfdmkfkiaaV
set_option linter.unusedVariables false
set_option linter.unusedSimpArgs false

theorem sum_last {x y z : Int} (h : 0 ≤ x ∧ 0 ≤ y ∧ 0 ≤ z ∧ x + y + z ≤ 170141183460469231731687303715884105727) : wrap64 (hiW (x + y + z)) = hiW (x + y + z) ∧ hiW (x + y + z) / 9223372036854775808 = 0 ∧ 0 ≤ hiW (x + y + z) ∧ hiW (x + y + z) ≤ 9223372036854775807 := by
  have h2 : 0 ≤ hiW (x + y + z) ∧ hiW (x + y + z) ≤ 9223372036854775807 := by unfold hiW; omega
  generalize hiW (x + y + z) = a at h2
  exact ⟨by unfold wrap64; omega, by omega, h2.1, h2.2⟩
theorem sum_parts {x y z : Int} (h : 0 ≤ x ∧ 0 ≤ y ∧ 0 ≤ z ∧ x + y + z ≤ 170141183460469231731687303715884105727) :
    ((0 : Int) ≤ 0 ∧ 0 ≤ x ∧ 0 + x ≤ 170141183460469231731687303715884105727) ∧ (0 ≤ x ∧ 0 ≤ y ∧ x + y ≤ 170141183460469231731687303715884105727) ∧ (0 ≤ x + y ∧ 0 ≤ z ∧ x + y + z ≤ 170141183460469231731687303715884105727) := by omega
/-- One step of the long sum. -/
theorem sum_step {S v : Int} (hS : 0 ≤ S) (hv : 0 ≤ v) (hT : S + v ≤ 170141183460469231731687303715884105727) :
    (loW S + loW v + 0) % 18446744073709551616 = loW (S + v) ∧ 0 ≤ (loW S + loW v + 0) / 18446744073709551616 ∧ (loW S + loW v + 0) / 18446744073709551616 ≤ 1 ∧
    (hiW S + hiW v + (loW S + loW v + 0) / 18446744073709551616) % 18446744073709551616 = hiW (S + v) ∧ (hiW S + hiW v + (loW S + loW v + 0) / 18446744073709551616) / 18446744073709551616 = 0 ∧
    0 ≤ hiW v ∧ hiW v ≤ 9223372036854775807 ∧ 0 ≤ hiW S ∧ hiW S ≤ 9223372036854775807 ∧ 0 ≤ loW S ∧ 0 ≤ loW v ∧ 0 ≤ hiW (S + v) ∧ hiW (S + v) ≤ 9223372036854775807 ∧ 0 ≤ loW (S + v) ∧ loW (S + v) ≤ 18446744073709551615 := by
  unfold hiW loW
  omega
theorem res3 {w : World} {g : Nat} {t : TypeId} {c0 c1 c2 v0 v1 v2 : Value} (h : w.heap[g]? = some (.cells #[c0, c1, c2] t (0, 0))) :
    (((w.setCell ⟨g, 0, none⟩ v0).setCell ⟨g, 1, none⟩ v1).setCell ⟨g, 2, none⟩ v2).heap[g]? = some (.cells #[v0, v1, v2] t (0, 0)) :=
  blk_put (blk_put (blk_put h 0 v0 rfl) 1 v1 rfl) 2 v2 rfl
set_option maxHeartbeats 3200000 in
set_option maxRecDepth 4000 in
theorem wide_Sum3 {x y z : Int} {w : World} {g : Nat} (hx : 0 ≤ x) (hy : 0 ≤ y) (hz : 0 ≤ z) (ht : x + y + z ≤ 170141183460469231731687303715884105727) (hc : w.heap[g]? = some (.cells #[.int .i64 (hiW x), .int .u64 (loW x), .int .i64 (hiW y), .int .u64 (loW y), .int .i64 (hiW z), .int .u64 (loW z)] 25 (0, 0))) :
    Calls Try.prog 28 #[.slice (some ⟨g, 0, none⟩) 3 3] w fun q w' => q = .returned (.tuple #[WV (x + y + z), .int .i64 0]) ∧ Below w.heap.size w w' := by
  have HC := Aside0.mk hc
  have HX := Aside0.mk (And.intro hx (And.intro hy (And.intro hz ht)))
  obtain ⟨W, hW⟩ : ∃ W, W = (w.alloc (.cells #[.int .i64 0, .int .u64 0] 25 (0, 0))).alloc (.cells #[.int .u64 0, .int .u64 0, .int .u64 0] 96 (0, 0)) := ⟨_, rfl⟩
  have n0 : W.heap[w.heap.size]? = some (.cells #[.int .i64 0, .int .u64 0] 25 (0, 0)) := by rw [hW]; exact blk_alloc (heap_alloc_new _ _) _
  have n1 : W.heap[w.heap.size + 1]? = some (.cells #[.int .u64 0, .int .u64 0, .int .u64 0] 96 (0, 0)) := by rw [hW]; exact heap_alloc2_new _ _ _
  have NB := Aside0.mk (show Below w.heap.size w W by rw [hW]; exact below_alloc (below_alloc (Below.refl _ _) _) _)
  have HW := Aside0.mk hW
  have N0 := Aside0.mk n0
  have N1 := Aside0.mk n1
  clear hc hx hy hz ht hW n0 n1
  go_enter Try.func28, Try.ntmps28
  go_upto_region 2 with (fail)
  rw [← HW.out]
  go_wp2_with (fail)
  go_loopg [10] 3 (fun kq v10 w' => ∃ (i : Nat) (S : Int), v10 = .int .i64 i ∧ i + kq = 3 ∧ Aside0 ((i = 0 ∧ S = 0) ∨ (i = 1 ∧ S = x) ∨ (i = 2 ∧ S = x + y) ∨ (i = 3 ∧ S = x + y + z)) ∧ Aside0 (w'.heap[w.heap.size + 1]? = some (.cells #[.int .u64 (loW S), .int .u64 (hiW S), .int .u64 0] 96 (0, 0))) ∧ Aside0 (w'.heap[w.heap.size]? = some (.cells #[.int .i64 0, .int .u64 0] 25 (0, 0))) ∧ Aside0 (Below w.heap.size w w'))
  case atStart => exact ⟨0, 0, rfl, rfl, ⟨.inl ⟨rfl, rfl⟩⟩, N1, N0, NB⟩
  case round =>
    clear N0 N1 NB
    obtain ⟨i, S, rfl, hik, HS, N1, N0, NB⟩ := hrel
    cases gk with
    | zero =>
      obtain rfl : i = 3 := by omega
      obtain rfl : S = x + y + z := by rcases HS.out with h | h | h | h <;> omega
      have hr := sum_last HX.out
      obtain ⟨a, ha⟩ : ∃ a, a = hiW (x + y + z) := ⟨_, rfl⟩
      obtain ⟨b, hb⟩ : ∃ a, a = loW (x + y + z) := ⟨_, rfl⟩
      have HWV := Aside0.mk (show WV (x + y + z) = .agg #[.int .i64 a, .int .u64 b] by rw [ha, hb]; rfl)
      rw [← ha] at hr N1
      rw [← hb] at N1
      obtain ⟨e1, e2, e3, e4⟩ := hr
      have k0 := blk_cell N1.out 0
      have k1 := blk_cell N1.out 1
      have k2 := blk_cell N1.out 2
      obtain ⟨f1, f2, f3, f4, f5⟩ := res2 (v0 := .int .i64 a) (v1 := .int .u64 b) N0.out
      have F5 := Aside0.mk f5
      clear f5 ha hb hik
      go_wp2_with (fail)
      refine bodyPost_ret (results_ct rfl _ _ w.heap.size 25 _ (0, 0) _ rfl F5.out Try.underlying25 rfl (by kernel_rfl)) rfl ?_
      rw [HWV.out]
      exact ⟨rfl, NB.out.trans (keep_set2.below NB.out.size (fun k hk => by omega))⟩
    | succ k_ =>
      rcases (show i = 0 ∨ i = 1 ∨ i = 2 by omega) with rfl | rfl | rfl
      · have hS1 : S = 0 := by rcases HS.out with h | h | h | h <;> omega
        rw [hS1] at N1
        obtain ⟨z1, z2, z3, z4, z5, z6, z7, z8, z9, z10, z11, z12, z13, z14, z15⟩ := sum_step (S := 0) (v := x) (sum_parts HX.out).1.1 (sum_parts HX.out).1.2.1 (sum_parts HX.out).1.2.2
        have hcv := (NB.out.block _ (blk_lt HC.out)).trans HC.out
        have x0 := blk_cell hcv 0
        have x1 := blk_cell hcv 1
        have k0 := blk_cell N1.out 0
        have k1 := blk_cell N1.out 1
        have k2 := blk_cell N1.out 2
        have g0 := blk_frozen N1.out 0
        have g1 := blk_frozen N1.out 1
        have g2 := blk_frozen N1.out 2
        obtain ⟨a, ha⟩ : ∃ a, a = hiW (0) := ⟨_, rfl⟩
        obtain ⟨b, hb⟩ : ∃ a, a = loW (0) := ⟨_, rfl⟩
        obtain ⟨p, hp⟩ : ∃ a, a = hiW x := ⟨_, rfl⟩
        obtain ⟨q, hq⟩ : ∃ a, a = loW x := ⟨_, rfl⟩
        obtain ⟨c, hcc⟩ : ∃ a, a = hiW (0 + x) := ⟨_, rfl⟩
        obtain ⟨d, hdd⟩ : ∃ a, a = loW (0 + x) := ⟨_, rfl⟩
        have A1 := call_add64 (loW (0)) (loW x) 0 z10 z11 (by omega) (by omega)
        have A2 := call_add64 (hiW (0)) (hiW x) ((loW (0) + loW x + 0) / 18446744073709551616) z8 z6 z2 z3
        rw [z1] at A1
        rw [z4, z5] at A2
        have A3 := call_add64 0 0 0 (by omega) (by omega) (by omega) (by omega)
        obtain ⟨cy, hcy⟩ : ∃ a, a = (loW (0) + loW x + 0) / 18446744073709551616 := ⟨_, rfl⟩
        rw [← hcy] at A1 A2
        rw [← ha] at A2 k1
        rw [← hb] at A1 k0
        rw [← hp] at A2 x0 z6 z7
        rw [← hq] at A1 x1
        rw [← hcc] at A2
        rw [← hdd] at A1
        have e1 : IntKind.u64.wrap p = p := by rw [u64w]; omega
        have e2 : p / 9223372036854775808 = 0 := by omega
        have HCD := Aside0.mk (And.intro hcc hdd)
        have hne : w.heap.size + 1 < wr.heap.size := blk_lt N1.out
        clear z1 z2 z3 z4 z5 z8 z9 z10 z11 z12 z13 z14 z15 hcv ha hb hp hq hcc hdd hcy z6 z7 hS1
        go_wp2_with (fail)
        go_roundg k_
        case rel =>
          have hk3 : Keep wr (((wr.setCell ⟨w.heap.size + 1, 0, none⟩ (.int .u64 d)).setCell ⟨w.heap.size + 1, 1, none⟩ (.int .u64 c)).setCell ⟨w.heap.size + 1, 2, none⟩ (.int .u64 0)) (fun k => k = w.heap.size + 1) := (((Keep.refl wr (fun k => k = w.heap.size + 1)).set ⟨w.heap.size + 1, 0, none⟩ _ (.inl rfl)).set ⟨w.heap.size + 1, 1, none⟩ _ (.inl rfl)).set ⟨w.heap.size + 1, 2, none⟩ _ (.inl rfl)
          have hbk := NB.out.trans (hk3.below NB.out.size (fun k hk => by omega))
          refine ⟨1, 0 + x, rfl, by omega, ⟨by omega⟩, ⟨?_⟩, ⟨blk_alloc ((hk3.block _ (blk_lt N0.out) (by omega)).trans N0.out) _⟩, ⟨hbk.alloc hbk.size _⟩⟩
          have hq3 := res3 (v0 := .int .u64 d) (v1 := .int .u64 c) (v2 := .int .u64 0) N1.out
          rw [HCD.out.1, HCD.out.2] at hq3 ⊢
          exact blk_alloc hq3 _
        case measure => omega
      · have hS1 : S = x := by rcases HS.out with h | h | h | h <;> omega
        rw [hS1] at N1
        obtain ⟨z1, z2, z3, z4, z5, z6, z7, z8, z9, z10, z11, z12, z13, z14, z15⟩ := sum_step (S := x) (v := y) (sum_parts HX.out).2.1.1 (sum_parts HX.out).2.1.2.1 (sum_parts HX.out).2.1.2.2
        have hcv := (NB.out.block _ (blk_lt HC.out)).trans HC.out
        have x0 := blk_cell hcv 2
        have x1 := blk_cell hcv 3
        have k0 := blk_cell N1.out 0
        have k1 := blk_cell N1.out 1
        have k2 := blk_cell N1.out 2
        have g0 := blk_frozen N1.out 0
        have g1 := blk_frozen N1.out 1
        have g2 := blk_frozen N1.out 2
        obtain ⟨a, ha⟩ : ∃ a, a = hiW (x) := ⟨_, rfl⟩
        obtain ⟨b, hb⟩ : ∃ a, a = loW (x) := ⟨_, rfl⟩
        obtain ⟨p, hp⟩ : ∃ a, a = hiW y := ⟨_, rfl⟩
        obtain ⟨q, hq⟩ : ∃ a, a = loW y := ⟨_, rfl⟩
        obtain ⟨c, hcc⟩ : ∃ a, a = hiW (x + y) := ⟨_, rfl⟩
        obtain ⟨d, hdd⟩ : ∃ a, a = loW (x + y) := ⟨_, rfl⟩
        have A1 := call_add64 (loW (x)) (loW y) 0 z10 z11 (by omega) (by omega)
        have A2 := call_add64 (hiW (x)) (hiW y) ((loW (x) + loW y + 0) / 18446744073709551616) z8 z6 z2 z3
        rw [z1] at A1
        rw [z4, z5] at A2
        have A3 := call_add64 0 0 0 (by omega) (by omega) (by omega) (by omega)
        obtain ⟨cy, hcy⟩ : ∃ a, a = (loW (x) + loW y + 0) / 18446744073709551616 := ⟨_, rfl⟩
        rw [← hcy] at A1 A2
        rw [← ha] at A2 k1
        rw [← hb] at A1 k0
        rw [← hp] at A2 x0 z6 z7
        rw [← hq] at A1 x1
        rw [← hcc] at A2
        rw [← hdd] at A1
        have e1 : IntKind.u64.wrap p = p := by rw [u64w]; omega
        have e2 : p / 9223372036854775808 = 0 := by omega
        have HCD := Aside0.mk (And.intro hcc hdd)
        have hne : w.heap.size + 1 < wr.heap.size := blk_lt N1.out
        clear z1 z2 z3 z4 z5 z8 z9 z10 z11 z12 z13 z14 z15 hcv ha hb hp hq hcc hdd hcy z6 z7 hS1
        go_wp2_with (fail)
        go_roundg k_
        case rel =>
          have hk3 : Keep wr (((wr.setCell ⟨w.heap.size + 1, 0, none⟩ (.int .u64 d)).setCell ⟨w.heap.size + 1, 1, none⟩ (.int .u64 c)).setCell ⟨w.heap.size + 1, 2, none⟩ (.int .u64 0)) (fun k => k = w.heap.size + 1) := (((Keep.refl wr (fun k => k = w.heap.size + 1)).set ⟨w.heap.size + 1, 0, none⟩ _ (.inl rfl)).set ⟨w.heap.size + 1, 1, none⟩ _ (.inl rfl)).set ⟨w.heap.size + 1, 2, none⟩ _ (.inl rfl)
          have hbk := NB.out.trans (hk3.below NB.out.size (fun k hk => by omega))
          refine ⟨2, x + y, rfl, by omega, ⟨by omega⟩, ⟨?_⟩, ⟨blk_alloc ((hk3.block _ (blk_lt N0.out) (by omega)).trans N0.out) _⟩, ⟨hbk.alloc hbk.size _⟩⟩
          have hq3 := res3 (v0 := .int .u64 d) (v1 := .int .u64 c) (v2 := .int .u64 0) N1.out
          rw [HCD.out.1, HCD.out.2] at hq3 ⊢
          exact blk_alloc hq3 _
        case measure => omega
      · have hS1 : S = x + y := by rcases HS.out with h | h | h | h <;> omega
        rw [hS1] at N1
        obtain ⟨z1, z2, z3, z4, z5, z6, z7, z8, z9, z10, z11, z12, z13, z14, z15⟩ := sum_step (S := x + y) (v := z) (sum_parts HX.out).2.2.1 (sum_parts HX.out).2.2.2.1 (sum_parts HX.out).2.2.2.2
        have hcv := (NB.out.block _ (blk_lt HC.out)).trans HC.out
        have x0 := blk_cell hcv 4
        have x1 := blk_cell hcv 5
        have k0 := blk_cell N1.out 0
        have k1 := blk_cell N1.out 1
        have k2 := blk_cell N1.out 2
        have g0 := blk_frozen N1.out 0
        have g1 := blk_frozen N1.out 1
        have g2 := blk_frozen N1.out 2
        obtain ⟨a, ha⟩ : ∃ a, a = hiW (x + y) := ⟨_, rfl⟩
        obtain ⟨b, hb⟩ : ∃ a, a = loW (x + y) := ⟨_, rfl⟩
        obtain ⟨p, hp⟩ : ∃ a, a = hiW z := ⟨_, rfl⟩
        obtain ⟨q, hq⟩ : ∃ a, a = loW z := ⟨_, rfl⟩
        obtain ⟨c, hcc⟩ : ∃ a, a = hiW (x + y + z) := ⟨_, rfl⟩
        obtain ⟨d, hdd⟩ : ∃ a, a = loW (x + y + z) := ⟨_, rfl⟩
        have A1 := call_add64 (loW (x + y)) (loW z) 0 z10 z11 (by omega) (by omega)
        have A2 := call_add64 (hiW (x + y)) (hiW z) ((loW (x + y) + loW z + 0) / 18446744073709551616) z8 z6 z2 z3
        rw [z1] at A1
        rw [z4, z5] at A2
        have A3 := call_add64 0 0 0 (by omega) (by omega) (by omega) (by omega)
        obtain ⟨cy, hcy⟩ : ∃ a, a = (loW (x + y) + loW z + 0) / 18446744073709551616 := ⟨_, rfl⟩
        rw [← hcy] at A1 A2
        rw [← ha] at A2 k1
        rw [← hb] at A1 k0
        rw [← hp] at A2 x0 z6 z7
        rw [← hq] at A1 x1
        rw [← hcc] at A2
        rw [← hdd] at A1
        have e1 : IntKind.u64.wrap p = p := by rw [u64w]; omega
        have e2 : p / 9223372036854775808 = 0 := by omega
        have HCD := Aside0.mk (And.intro hcc hdd)
        have hne : w.heap.size + 1 < wr.heap.size := blk_lt N1.out
        clear z1 z2 z3 z4 z5 z8 z9 z10 z11 z12 z13 z14 z15 hcv ha hb hp hq hcc hdd hcy z6 z7 hS1
        go_wp2_with (fail)
        go_roundg k_
        case rel =>
          have hk3 : Keep wr (((wr.setCell ⟨w.heap.size + 1, 0, none⟩ (.int .u64 d)).setCell ⟨w.heap.size + 1, 1, none⟩ (.int .u64 c)).setCell ⟨w.heap.size + 1, 2, none⟩ (.int .u64 0)) (fun k => k = w.heap.size + 1) := (((Keep.refl wr (fun k => k = w.heap.size + 1)).set ⟨w.heap.size + 1, 0, none⟩ _ (.inl rfl)).set ⟨w.heap.size + 1, 1, none⟩ _ (.inl rfl)).set ⟨w.heap.size + 1, 2, none⟩ _ (.inl rfl)
          have hbk := NB.out.trans (hk3.below NB.out.size (fun k hk => by omega))
          refine ⟨3, x + y + z, rfl, by omega, ⟨by omega⟩, ⟨?_⟩, ⟨blk_alloc ((hk3.block _ (blk_lt N0.out) (by omega)).trans N0.out) _⟩, ⟨hbk.alloc hbk.size _⟩⟩
          have hq3 := res3 (v0 := .int .u64 d) (v1 := .int .u64 c) (v2 := .int .u64 0) N1.out
          rw [HCD.out.1, HCD.out.2] at hq3 ⊢
          exact blk_alloc hq3 _
        case measure => omega
end Go.Proofs.Ythnihjfdmkfkiaa.Q
