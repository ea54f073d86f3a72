import Derived.Test.YthnihjfdmkfkiaaTAmt
import Derived.Test.YthnihjfdmkfkiaaTDivP
import Derived.BigQuiet
import Derived.BigRegion
import Derived.StillTailTactics
namespace Go.Proofs.Ythnihjfdmkfkiaa.Q
open Go.RowKit Go.Proofs.YthnihjfdmkfkiaaW.PrintWords Go.Proofs.YthnihjfdmkfkiaaW.PrintLast Go.Proofs.YthnihjfdmkfkiaaW.PrintMore Go.Proofs.YthnihjfdmkfkiaaV
set_option linter.unusedVariables false
set_option linter.unusedSimpArgs false

def l2 (a b : Int) : Obj := .cells #[.int .u64 a, .int .u64 b] 84 (0, 0)
structure DivW (W w' : World) (m0 m1 n0 n1 q0 q1 r0 r1 : Int) : Prop where
  m : w'.heap[W.heap.size]? = some (.cells #[.int .u64 m0, .int .u64 m1] 84 (0, 0))
  n : w'.heap[W.heap.size + 1]? = some (.cells #[.int .u64 n0, .int .u64 n1] 84 (0, 0))
  x : w'.heap[W.heap.size + 2]? = some (.cells #[.int .u64 0, .int .u64 0] 84 (0, 0))
  y : w'.heap[W.heap.size + 3]? = some (.cells #[.int .u64 0, .int .u64 0] 84 (0, 0))
  q : w'.heap[W.heap.size + 4]? = some (.cells #[.int .u64 q0, .int .u64 q1] 84 (0, 0))
  r : w'.heap[W.heap.size + 5]? = some (.cells #[.int .u64 r0, .int .u64 r1] 84 (0, 0))
  bel : Below W.heap.size W w'
theorem DivW.begin_ (w : World) (m0 m1 n0 n1 : Int) : DivW w ((((((w.alloc (l2 m0 m1)).alloc (l2 n0 n1)).alloc (l2 0 0)).alloc (l2 0 0)).alloc (l2 0 0)).alloc (l2 0 0)) m0 m1 n0 n1 0 0 0 0 := by
  have key : ∀ (W : World) (o : Obj) (k : Nat) (h : W.heap.size = k), (W.alloc o).heap[k]? = some o := fun W o k h => by subst h; exact heap_alloc_new _ _
  refine ⟨?_, ?_, ?_, ?_, ?_, ?_, ?_⟩
  · iterate 5 refine blk_alloc ?_ _
    exact key _ _ _ rfl
  · iterate 4 refine blk_alloc ?_ _
    exact key _ _ _ (by simp)
  · iterate 3 refine blk_alloc ?_ _
    exact key _ _ _ (by simp)
  · iterate 2 refine blk_alloc ?_ _
    exact key _ _ _ (by simp)
  · refine blk_alloc ?_ _
    exact key _ _ _ (by simp)
  · exact key _ _ _ (by simp)
  · iterate 6 refine below_alloc ?_ _
    exact Below.refl _ _
theorem DivW.drew {W w : World} {m0 m1 n0 n1 q0 q1 r0 r1 : Int} (h : DivW W w m0 m1 n0 n1 q0 q1 r0 r1) : DivW W w.drew m0 m1 n0 n1 q0 q1 r0 r1 := ⟨h.m, h.n, h.x, h.y, h.q, h.r, below_drew h.bel⟩
theorem DivW.keep {W w w' : World} {m0 m1 n0 n1 q0 q1 r0 r1 : Int} (h : DivW W w m0 m1 n0 n1 q0 q1 r0 r1) {g : Nat} (hk : Keep w w' (fun k => k = g)) (h1 : W.heap.size + 4 ≤ g) : Below W.heap.size W w' ∧ w'.heap[W.heap.size]? = some (.cells #[.int .u64 m0, .int .u64 m1] 84 (0, 0)) ∧ w'.heap[W.heap.size + 1]? = some (.cells #[.int .u64 n0, .int .u64 n1] 84 (0, 0)) ∧ w'.heap[W.heap.size + 2]? = some (.cells #[.int .u64 0, .int .u64 0] 84 (0, 0)) ∧ w'.heap[W.heap.size + 3]? = some (.cells #[.int .u64 0, .int .u64 0] 84 (0, 0)) :=
  ⟨h.bel.trans (hk.below h.bel.size (fun k e => by have e2 : k = g := e; omega)), (hk.block _ (blk_lt h.m) (by omega)).trans h.m, (hk.block _ (blk_lt h.n) (by omega)).trans h.n, (hk.block _ (blk_lt h.x) (by omega)).trans h.x, (hk.block _ (blk_lt h.y) (by omega)).trans h.y⟩
theorem DivW.setr {W w : World} {m0 m1 n0 n1 q0 q1 r0 r1 : Int} (h : DivW W w m0 m1 n0 n1 q0 q1 r0 r1) (a b : Int) : DivW W ((w.setCell ⟨W.heap.size + 5, 0, none⟩ (.int .u64 a)).setCell ⟨W.heap.size + 5, 1, none⟩ (.int .u64 b)) m0 m1 n0 n1 q0 q1 a b := by
  have hk := ((Keep.refl w (fun k => k = W.heap.size + 5)).set ⟨W.heap.size + 5, 0, none⟩ (.int .u64 a) (.inl rfl)).set ⟨W.heap.size + 5, 1, none⟩ (.int .u64 b) (.inl rfl)
  obtain ⟨k1, k2, k3, k4, k5⟩ := h.keep hk (by omega)
  exact ⟨k2, k3, k4, k5, (hk.block _ (blk_lt h.q) (by omega)).trans h.q, blk_put (blk_put h.r 0 _ rfl) 1 _ rfl, k1⟩
theorem DivW.setq0 {W w : World} {m0 m1 n0 n1 q0 q1 r0 r1 : Int} (h : DivW W w m0 m1 n0 n1 q0 q1 r0 r1) (a : Int) : DivW W (w.setCell ⟨W.heap.size + 4, 0, none⟩ (.int .u64 a)) m0 m1 n0 n1 a q1 r0 r1 := by
  have hk := (Keep.refl w (fun k => k = W.heap.size + 4)).set ⟨W.heap.size + 4, 0, none⟩ (.int .u64 a) (.inl rfl)
  obtain ⟨k1, k2, k3, k4, k5⟩ := h.keep hk (by omega)
  exact ⟨k2, k3, k4, k5, blk_put h.q 0 _ rfl, (hk.block _ (blk_lt h.r) (by omega)).trans h.r, k1⟩
theorem DivW.setq1 {W w : World} {m0 m1 n0 n1 q0 q1 r0 r1 : Int} (h : DivW W w m0 m1 n0 n1 q0 q1 r0 r1) (a : Int) : DivW W (w.setCell ⟨W.heap.size + 4, 1, none⟩ (.int .u64 a)) m0 m1 n0 n1 q0 a r0 r1 := by
  have hk := (Keep.refl w (fun k => k = W.heap.size + 4)).set ⟨W.heap.size + 4, 1, none⟩ (.int .u64 a) (.inl rfl)
  obtain ⟨k1, k2, k3, k4, k5⟩ := h.keep hk (by omega)
  exact ⟨k2, k3, k4, k5, blk_put h.q 1 _ rfl, (hk.block _ (blk_lt h.r) (by omega)).trans h.r, k1⟩
set_option maxHeartbeats 6400000 in
set_option maxRecDepth 8000 in
theorem wide_divided {M N : Int} (w : World) (hM : 0 ≤ M ∧ M ≤ 340282366920938463463374607431768211455) (hN : 0 < N ∧ N ≤ 340282366920938463463374607431768211455) :
    Calls Try.prog 44 #[LV M, LV N] w fun e w' => e = .returned (.tuple #[LV (M / N), LV (M % N)]) ∧ Below w.heap.size w w' := by
  unfold LV
  obtain ⟨m1, hm1⟩ : ∃ q, q = hiW M := ⟨_, rfl⟩
  obtain ⟨m0, hm0⟩ : ∃ q, q = loW M := ⟨_, rfl⟩
  obtain ⟨n1, hn1⟩ : ∃ q, q = hiW N := ⟨_, rfl⟩
  obtain ⟨n0, hn0⟩ : ∃ q, q = loW N := ⟨_, rfl⟩
  rw [← hm0, ← hm1, ← hn0, ← hn1]
  have b0 : 0 ≤ m0 ∧ m0 ≤ 18446744073709551615 := by rw [hm0]; exact lo_rng M
  have b1 : 0 ≤ m1 ∧ m1 ≤ 18446744073709551615 := by rw [hm1]; unfold hiW; omega
  have b2 : 0 ≤ n0 ∧ n0 ≤ 18446744073709551615 := by rw [hn0]; exact lo_rng N
  have b3 : 0 ≤ n1 ∧ n1 ≤ 18446744073709551615 := by rw [hn1]; unfold hiW; omega
  have HM := Aside0.mk (show M = m1 * 18446744073709551616 + m0 by rw [hm0, hm1]; unfold hiW loW; omega)
  have HN := Aside0.mk (show N = n1 * 18446744073709551616 + n0 by rw [hn0, hn1]; unfold hiW loW; omega)
  have BM := Aside0.mk hM
  have BN := Aside0.mk hN
  obtain ⟨W, hW⟩ : ∃ W, W = (((((w.alloc (l2 m0 m1)).alloc (l2 n0 n1)).alloc (l2 0 0)).alloc (l2 0 0)).alloc (l2 0 0)).alloc (l2 0 0) := ⟨_, rfl⟩
  have HD := Aside0.mk (show DivW w W m0 m1 n0 n1 0 0 0 0 by rw [hW]; exact DivW.begin_ w m0 m1 n0 n1)
  have HI := Aside0.mk (show DivI M N 128 0 0 0 0 by
    have e : M / 2 ^ 128 = 0 := Int.ediv_eq_zero_of_lt hM.1 (by have : (2 : Int) ^ 128 = 340282366920938463463374607431768211456 := by decide
                                                                omega)
    unfold DivI
    rw [e]
    simp)
  have HW := Aside0.mk hW
  unfold l2 at HW
  clear hm0 hm1 hn0 hn1 hW hM hN
  go_enter Try.func44, Try.ntmps44
  go_wp2
  rw [← HW.out]
  go_loopg [8] 128 (fun kq v8 w' => ∃ i q0 q1 r0 r1 : Int, v8 = .int .i64 i ∧ Aside0 (i = kq - 1) ∧ Aside0 (kq ≤ 128) ∧ Aside0 (DivW w w' m0 m1 n0 n1 q0 q1 r0 r1) ∧ Aside0 (DivI M N kq q0 q1 r0 r1))
  case atStart => exact ⟨127, 0, 0, 0, 0, rfl, ⟨rfl⟩, ⟨by omega⟩, HD, HI⟩
  case round =>
    clear HD HI HW
    obtain ⟨i, q0, q1, r0, r1, rfl, HK, HL, HD, HI⟩ := hrel
    cases gk with
    | zero =>
      obtain rfl : i = -1 := HK.out
      have dq := HD.out.q
      have dr := HD.out.r
      have dx := HD.out.x
      have dy := HD.out.y
      have hi := HI.out
      unfold DivI at hi
      obtain ⟨g0, g1, g2, g3, g4, g5, g6, g7, g8, g9⟩ := hi
      rw [Int.pow_zero, Int.ediv_one] at g8 g9
      rw [Int.mul_one] at g9
      have HE := Aside0.mk (show loW (M / N) = q0 ∧ hiW (M / N) = q1 ∧ loW (M % N) = r0 ∧ hiW (M % N) = r1 by unfold loW hiW; omega)
      clear g0 g1 g2 g3 g4 g5 g6 g7 g8 g9
      have y0 : wr.cell? ⟨w.heap.size + 4, 0, none⟩ = _ := blk_cell dq 0
      have y1 : wr.cell? ⟨w.heap.size + 4, 1, none⟩ = _ := blk_cell dq 1
      have y2 : wr.cell? ⟨w.heap.size + 5, 0, none⟩ = _ := blk_cell dr 0
      have y3 : wr.cell? ⟨w.heap.size + 5, 1, none⟩ = _ := blk_cell dr 1
      have y4 : wr.cell? ⟨w.heap.size + 2, 0, none⟩ = _ := blk_cell dx 0
      have y5 : wr.cell? ⟨w.heap.size + 2, 1, none⟩ = _ := blk_cell dx 1
      have y6 : wr.cell? ⟨w.heap.size + 3, 0, none⟩ = _ := blk_cell dy 0
      have y7 : wr.cell? ⟨w.heap.size + 3, 1, none⟩ = _ := blk_cell dy 1
      have z4 : wr.frozen? ⟨w.heap.size + 2, 0, none⟩ = _ := blk_frozen dx 0
      have z5 : wr.frozen? ⟨w.heap.size + 2, 1, none⟩ = _ := blk_frozen dx 1
      have z6 : wr.frozen? ⟨w.heap.size + 3, 0, none⟩ = _ := blk_frozen dy 0
      have z7 : wr.frozen? ⟨w.heap.size + 3, 1, none⟩ = _ := blk_frozen dy 1
      have hsz : w.heap.size + 3 < wr.heap.size := blk_lt dy
      clear dq dr dx dy
      go_upto_region 12 with (fail)
      go_region
      all_goals
        go_wp2_with (fail)
        rw [HE.out.1, HE.out.2.1, HE.out.2.2.1, HE.out.2.2.2]
        refine bodyPost_ret (v := .tuple #[.agg #[.int .u64 q0, .int .u64 q1], .agg #[.int .u64 r0, .int .u64 r1]]) (by simp [results, Try.results44, go_sem, y4, y5, y6, y7, z4, z5, z6, z7, hsz]) rfl ⟨rfl, ?_⟩
        exact below_drew ((((HD.out.bel.setCell (Nat.le_add_right _ 2) _).setCell (Nat.le_add_right _ 2) _).setCell (Nat.le_add_right _ 3) _).setCell (Nat.le_add_right _ 3) _)
    | succ k1 =>
      have hik : i = k1 := by have := HK.out; omega
      have hk1 : k1 ≤ 127 := by have := HL.out; omega
      have hi0 : 0 ≤ i := by omega
      have hi1 : i ≤ 127 := by omega
      have dm := HD.out.m
      have dn := HD.out.n
      have dr := HD.out.r
      have dq := HD.out.q
      have x0 : wr.cell? ⟨w.heap.size, 0, none⟩ = _ := blk_cell dm 0
      have x1 : wr.cell? ⟨w.heap.size, 1, none⟩ = _ := blk_cell dm 1
      have x2 : wr.cell? ⟨w.heap.size + 1, 0, none⟩ = _ := blk_cell dn 0
      have x3 : wr.cell? ⟨w.heap.size + 1, 1, none⟩ = _ := blk_cell dn 1
      have x4 : wr.cell? ⟨w.heap.size + 5, 0, none⟩ = _ := blk_cell dr 0
      have x5 : wr.cell? ⟨w.heap.size + 5, 1, none⟩ = _ := blk_cell dr 1
      have f4 : wr.frozen? ⟨w.heap.size + 5, 0, none⟩ = _ := blk_frozen dr 0
      have f5 : wr.frozen? ⟨w.heap.size + 5, 1, none⟩ = _ := blk_frozen dr 1
      have x6 : wr.cell? ⟨w.heap.size + 4, 0, none⟩ = _ := blk_cell dq 0
      have x7 : wr.cell? ⟨w.heap.size + 4, 1, none⟩ = _ := blk_cell dq 1
      have f6 : wr.frozen? ⟨w.heap.size + 4, 0, none⟩ = _ := blk_frozen dq 0
      have f7 : wr.frozen? ⟨w.heap.size + 4, 1, none⟩ = _ := blk_frozen dq 1
      clear dm dn dr dq
      obtain ⟨j, hj⟩ : ∃ j : Nat, (j : Int) = i % 64 := ⟨(i % 64).toNat, by omega⟩
      have hj3 : j ≤ 63 := by omega
      have e2 : i.tmod 64 = (j : Int) := by rw [Int.tmod_eq_emod_of_nonneg hi0, ← hj]
      have e3 : IntKind.u64.wrap (j : Int) = (j : Int) := by rw [u64w]; omega
      by_cases hc : i < 64
      · have e1 : i.tdiv 64 = 0 := by rw [Int.tdiv_eq_ediv_of_nonneg hi0, show i / 64 = 0 by omega]
        have e1q : IntKind.i64.wrap (i.tdiv 64) = 0 := by rw [e1]; rfl
        clear e1
        obtain rfl : j = k1 := by omega
        obtain ⟨mj, bt, d0, d1, u0, o, t0, t1, pj, qn, z0, z1, c0, c2, RD⟩ := round_low BM.out.1 BM.out.2 HM.out b0.1 b0.2 BN.out.1 HN.out b2.1 b2.2 b3.1 b3.2 HI.out (by omega)
        obtain ⟨smj, sbt, sd0, sd1, su0, so, st0, st1, spj, sqn, t0g, t1g, c0g, hz0, hc0, hz1, hc2, ways⟩ := RD
        have A1 := call_sub64 t0 n0 0 t0g b2.1 b2.2 (by omega) (by omega)
        rw [← hz0, ← hc0] at A1
        have A2 := call_sub64 t1 n1 c0 t1g b3.1 b3.2 c0g.1 c0g.2
        rw [← hz1, ← hc2] at A2
        have HIK := Aside0.mk hik
        clear hik hc hj hz0 hc0 hz1 hc2 t0g t1g c0g b0 b1 b2 b3 hj3 hk1
        rcases ways with ⟨k1_, HG⟩ | ⟨k1_, k2_, HG⟩ | ⟨k1_, k2_, k3_, k4_, HG⟩ | ⟨k1_, k2_, k3_, k4_, HG⟩ | ⟨k1_, k2_, k3_, HG⟩
        · have HG := Aside0.mk HG
          have HS := Aside0.mk ((((HD.out.setr t0 t1).setr z0 z1).setq0 qn).drew)
          go_wp2_with (fail)
          go_upto_region 6 with (fail)
          go_still_tail 21, (by kernel_rfl)
          change wpList _ _ _ _ _ wr.drew
          go_wp2_with (fail)
          go_roundg j
          case rel => exact ⟨i - 1, qn, q1, z0, z1, rfl, ⟨by have := HIK.out; omega⟩, ⟨by have := HL.out; omega⟩, HS, HG⟩
          case measure => omega
        · have HG := Aside0.mk HG
          have HS := Aside0.mk ((((HD.out.setr t0 t1).setr z0 z1).setq0 qn).drew)
          go_wp2_with (fail)
          go_upto_region 6 with (fail)
          go_still_tail 21, (by kernel_rfl)
          change wpList _ _ _ _ _ wr.drew
          go_wp2_with (fail)
          go_roundg j
          case rel => exact ⟨i - 1, qn, q1, z0, z1, rfl, ⟨by have := HIK.out; omega⟩, ⟨by have := HL.out; omega⟩, HS, HG⟩
          case measure => omega
        · have HG := Aside0.mk HG
          have HS := Aside0.mk ((((HD.out.setr t0 t1).setr z0 z1).setq0 qn).drew)
          go_wp2_with (fail)
          go_upto_region 6 with (fail)
          go_still_tail 21, (by kernel_rfl)
          change wpList _ _ _ _ _ wr.drew
          go_wp2_with (fail)
          go_roundg j
          case rel => exact ⟨i - 1, qn, q1, z0, z1, rfl, ⟨by have := HIK.out; omega⟩, ⟨by have := HL.out; omega⟩, HS, HG⟩
          case measure => omega
        · have HG := Aside0.mk HG
          have HS := Aside0.mk ((HD.out.setr t0 t1).drew)
          go_wp2_with (fail)
          go_upto_region 6 with (fail)
          go_still_tail 21, (by kernel_rfl)
          change wpList _ _ _ _ _ wr.drew
          go_wp2_with (fail)
          go_roundg j
          case rel => exact ⟨i - 1, q0, q1, t0, t1, rfl, ⟨by have := HIK.out; omega⟩, ⟨by have := HL.out; omega⟩, HS, HG⟩
          case measure => omega
        · have HG := Aside0.mk HG
          have HS := Aside0.mk ((HD.out.setr t0 t1).drew)
          go_wp2_with (fail)
          go_upto_region 6 with (fail)
          go_still_tail 21, (by kernel_rfl)
          change wpList _ _ _ _ _ wr.drew
          go_wp2_with (fail)
          go_roundg j
          case rel => exact ⟨i - 1, q0, q1, t0, t1, rfl, ⟨by have := HIK.out; omega⟩, ⟨by have := HL.out; omega⟩, HS, HG⟩
          case measure => omega
      · have e1 : i.tdiv 64 = 1 := by rw [Int.tdiv_eq_ediv_of_nonneg hi0, show i / 64 = 1 by omega]
        have e1q : IntKind.i64.wrap (i.tdiv 64) = 1 := by rw [e1]; rfl
        clear e1
        obtain ⟨mj, bt, d0, d1, u0, o, t0, t1, pj, qn, z0, z1, c0, c2, RD⟩ := round_high BM.out.1 HM.out b0.1 b0.2 b1.1 b1.2 BN.out.1 HN.out b2.1 b2.2 b3.1 b3.2 HI.out (show k1 = 64 + j by omega) hj3
        obtain ⟨smj, sbt, sd0, sd1, su0, so, st0, st1, spj, sqn, t0g, t1g, c0g, hz0, hc0, hz1, hc2, ways⟩ := RD
        have A1 := call_sub64 t0 n0 0 t0g b2.1 b2.2 (by omega) (by omega)
        rw [← hz0, ← hc0] at A1
        have A2 := call_sub64 t1 n1 c0 t1g b3.1 b3.2 c0g.1 c0g.2
        rw [← hz1, ← hc2] at A2
        have HIK := Aside0.mk hik
        clear hik hc hj hz0 hc0 hz1 hc2 t0g t1g c0g b0 b1 b2 b3 hj3 hk1
        rcases ways with ⟨k1_, HG⟩ | ⟨k1_, k2_, HG⟩ | ⟨k1_, k2_, k3_, k4_, HG⟩ | ⟨k1_, k2_, k3_, k4_, HG⟩ | ⟨k1_, k2_, k3_, HG⟩
        · have HG := Aside0.mk HG
          have HS := Aside0.mk ((((HD.out.setr t0 t1).setr z0 z1).setq1 qn).drew)
          go_wp2_with (fail)
          go_upto_region 6 with (fail)
          go_still_tail 21, (by kernel_rfl)
          change wpList _ _ _ _ _ wr.drew
          go_wp2_with (fail)
          go_roundg k1
          case rel => exact ⟨i - 1, q0, qn, z0, z1, rfl, ⟨by have := HIK.out; omega⟩, ⟨by have := HL.out; omega⟩, HS, HG⟩
          case measure => omega
        · have HG := Aside0.mk HG
          have HS := Aside0.mk ((((HD.out.setr t0 t1).setr z0 z1).setq1 qn).drew)
          go_wp2_with (fail)
          go_upto_region 6 with (fail)
          go_still_tail 21, (by kernel_rfl)
          change wpList _ _ _ _ _ wr.drew
          go_wp2_with (fail)
          go_roundg k1
          case rel => exact ⟨i - 1, q0, qn, z0, z1, rfl, ⟨by have := HIK.out; omega⟩, ⟨by have := HL.out; omega⟩, HS, HG⟩
          case measure => omega
        · have HG := Aside0.mk HG
          have HS := Aside0.mk ((((HD.out.setr t0 t1).setr z0 z1).setq1 qn).drew)
          go_wp2_with (fail)
          go_upto_region 6 with (fail)
          go_still_tail 21, (by kernel_rfl)
          change wpList _ _ _ _ _ wr.drew
          go_wp2_with (fail)
          go_roundg k1
          case rel => exact ⟨i - 1, q0, qn, z0, z1, rfl, ⟨by have := HIK.out; omega⟩, ⟨by have := HL.out; omega⟩, HS, HG⟩
          case measure => omega
        · have HG := Aside0.mk HG
          have HS := Aside0.mk ((HD.out.setr t0 t1).drew)
          go_wp2_with (fail)
          go_upto_region 6 with (fail)
          go_still_tail 21, (by kernel_rfl)
          change wpList _ _ _ _ _ wr.drew
          go_wp2_with (fail)
          go_roundg k1
          case rel => exact ⟨i - 1, q0, q1, t0, t1, rfl, ⟨by have := HIK.out; omega⟩, ⟨by have := HL.out; omega⟩, HS, HG⟩
          case measure => omega
        · have HG := Aside0.mk HG
          have HS := Aside0.mk ((HD.out.setr t0 t1).drew)
          go_wp2_with (fail)
          go_upto_region 6 with (fail)
          go_still_tail 21, (by kernel_rfl)
          change wpList _ _ _ _ _ wr.drew
          go_wp2_with (fail)
          go_roundg k1
          case rel => exact ⟨i - 1, q0, q1, t0, t1, rfl, ⟨by have := HIK.out; omega⟩, ⟨by have := HL.out; omega⟩, HS, HG⟩
          case measure => omega
end Go.Proofs.Ythnihjfdmkfkiaa.Q
