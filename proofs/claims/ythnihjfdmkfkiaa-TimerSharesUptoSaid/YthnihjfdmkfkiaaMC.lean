/- Texts of this claim, laid in one: contracts of functions that the claim reaches, and the plain laws that they want; under no condition beyond those that each theorem states. -/
import Derived.Test.YthnihjfdmkfkiaaMA
import Derived.Outline
import Derived.Test.YthnihjfdmkfkiaaMB
import Derived.BigQuiet
import Derived.BigRegion
import Derived.StillTailTactics
import Derived.Test.YthnihjfdmkfkiaaWInvWords
import Derived.Laws.MathBits
import Derived.Deep.DeepCutAuto
namespace Go.Proofs.Ythnihjfdmkfkiaa.Q
open Go.RowKit Go.Proofs.YthnihjfdmkfkiaaW.PrintWords Go.Proofs.YthnihjfdmkfkiaaW.PrintLast Go.Proofs.YthnihjfdmkfkiaaW.PrintMore Go.Proofs.YthnihjfdmkfkiaaV
set_option linter.unusedVariables false
set_option linter.unusedSimpArgs false

/-- Two limbs of an amount. -/
def LV (m : Int) : Value := .agg #[.int .u64 (loW m), .int .u64 (hiW m)]
theorem below2 (w : World) (a b : Obj) : Below w.heap.size w ((w.alloc a).alloc b) := ((Below.refl _ _).alloc (Nat.le_refl _) _).alloc (by simp) _

set_option maxHeartbeats 1600000 in
theorem wide_amount {x : Int} (w : World) (hx : inW x) :
    Calls Try.prog 45 #[WV x] w fun q w' => q = .returned (LV x.natAbs) ∧ Below w.heap.size w w' := by
  have k1 := hi_rng hx
  have k3 := lo_rng x
  have ex : x = hiW x * 18446744073709551616 + loW x := by unfold hiW loW; omega
  obtain ⟨n1, hn1⟩ : ∃ q, q = hiW x.natAbs := ⟨_, rfl⟩
  obtain ⟨n0, hn0⟩ : ∃ q, q = loW x.natAbs := ⟨_, rfl⟩
  unfold WV LV
  obtain ⟨a, ha⟩ : ∃ a, a = hiW x := ⟨_, rfl⟩
  obtain ⟨b, hb⟩ : ∃ b, b = loW x := ⟨_, rfl⟩
  rw [← ha] at k1 ex ⊢
  rw [← hb] at k3 ex ⊢
  rw [← hn1, ← hn0]
  have BEL := Aside0.mk (below2 w)
  obtain ⟨ua, hua⟩ : ∃ s, s = IntKind.u64.wrap a := ⟨_, rfl⟩
  have wa := u64w a
  rw [← hua] at wa
  have hua' := hua.symm
  unfold hiW at hn1
  unfold loW at hn0
  by_cases h0 : a < 0
  · have d1 : decide (0 ≤ a) = false := decide_eq_false (by omega)
    have A1 := call_sub64 0 b 0 (by omega) (by omega) (by omega) (by omega) (by omega)
    obtain ⟨s1, hs1⟩ : ∃ s, s = (0 + 18446744073709551616 - b - 0) % 18446744073709551616 := ⟨_, rfl⟩
    obtain ⟨c1, hc1⟩ : ∃ s : Int, s = (if 0 < b + 0 then 1 else 0) := ⟨_, rfl⟩
    rw [← hs1, ← hc1] at A1
    have hc : 0 ≤ c1 ∧ c1 ≤ 1 ∧ (c1 = 1 ↔ 0 < b) := by rw [hc1]; split <;> omega
    have A2 := call_sub64 0 ua c1 (by omega) (by omega) (by omega) (by omega) (by omega)
    obtain ⟨s2, hs2⟩ : ∃ s, s = (0 + 18446744073709551616 - ua - c1) % 18446744073709551616 := ⟨_, rfl⟩
    obtain ⟨c2, hc2⟩ : ∃ s : Int, s = (if 0 < ua + c1 then 1 else 0) := ⟨_, rfl⟩
    rw [← hs2, ← hc2] at A2
    have E0 := Aside0.mk (show s1 = n0 by omega)
    have E1 := Aside0.mk (show s2 = n1 by omega)
    clear hs1 hc1 hs2 hc2 hc h0 ex hn1 hn0 ha hb hx k1 k3 wa hua
    go_enter Try.func45, Try.ntmps45
    go_wp2
    rw [E0.out, E1.out]
    refine bodyPost_ret (v := .agg #[.int .u64 n0, .int .u64 n1]) (by simp [results, Try.results45, go_sem]) rfl ⟨rfl, ?_⟩
    exact BEL.out _ _
  · have d1 : decide (0 ≤ a) = true := decide_eq_true (by omega)
    have E0 := Aside0.mk (show b = n0 by omega)
    have E1 := Aside0.mk (show ua = n1 by omega)
    clear h0 ex hn1 hn0 ha hb hx k1 k3 wa hua
    go_enter Try.func45, Try.ntmps45
    go_wp2
    rw [E0.out, E1.out]
    refine bodyPost_ret (v := .agg #[.int .u64 n0, .int .u64 n1]) (by simp [results, Try.results45, go_sem]) rfl ⟨rfl, ?_⟩
    exact BEL.out _ _
end Go.Proofs.Ythnihjfdmkfkiaa.Q

namespace Go.Proofs.Ythnihjfdmkfkiaa.Q
open Go.RowKit Go.Proofs.YthnihjfdmkfkiaaW.PrintWords Go.Proofs.YthnihjfdmkfkiaaW.PrintLast Go.Proofs.YthnihjfdmkfkiaaW.PrintMore Go.Proofs.YthnihjfdmkfkiaaV
set_option linter.unusedVariables false
set_option linter.unusedSimpArgs false

def l2 (a b : Int) : Obj := .cells #[.int .u64 a, .int .u64 b] 84 (0, 0)
structure DivW (W w' : World) (m0 m1 n0 n1 q0 q1 r0 r1 : Int) : Prop where
  m : w'.heap[W.heap.size]? = some (.cells #[.int .u64 m0, .int .u64 m1] 84 (0, 0))
  n : w'.heap[W.heap.size + 1]? = some (.cells #[.int .u64 n0, .int .u64 n1] 84 (0, 0))
  x : w'.heap[W.heap.size + 2]? = some (.cells #[.int .u64 0, .int .u64 0] 84 (0, 0))
  y : w'.heap[W.heap.size + 3]? = some (.cells #[.int .u64 0, .int .u64 0] 84 (0, 0))
  q : w'.heap[W.heap.size + 4]? = some (.cells #[.int .u64 q0, .int .u64 q1] 84 (0, 0))
  r : w'.heap[W.heap.size + 5]? = some (.cells #[.int .u64 r0, .int .u64 r1] 84 (0, 0))
  bel : Below W.heap.size W w'
theorem DivW.begin_ (w : World) (m0 m1 n0 n1 : Int) : DivW w ((((((w.alloc (l2 m0 m1)).alloc (l2 n0 n1)).alloc (l2 0 0)).alloc (l2 0 0)).alloc (l2 0 0)).alloc (l2 0 0)) m0 m1 n0 n1 0 0 0 0 := by
  have key : ∀ (W : World) (o : Obj) (k : Nat) (h : W.heap.size = k), (W.alloc o).heap[k]? = some o := fun W o k h => by subst h; exact heap_alloc_new _ _
  refine ⟨?_, ?_, ?_, ?_, ?_, ?_, ?_⟩
  · iterate 5 refine blk_alloc ?_ _
    exact key _ _ _ rfl
  · iterate 4 refine blk_alloc ?_ _
    exact key _ _ _ (by simp)
  · iterate 3 refine blk_alloc ?_ _
    exact key _ _ _ (by simp)
  · iterate 2 refine blk_alloc ?_ _
    exact key _ _ _ (by simp)
  · refine blk_alloc ?_ _
    exact key _ _ _ (by simp)
  · exact key _ _ _ (by simp)
  · iterate 6 refine below_alloc ?_ _
    exact Below.refl _ _
theorem DivW.drew {W w : World} {m0 m1 n0 n1 q0 q1 r0 r1 : Int} (h : DivW W w m0 m1 n0 n1 q0 q1 r0 r1) : DivW W w.drew m0 m1 n0 n1 q0 q1 r0 r1 := ⟨h.m, h.n, h.x, h.y, h.q, h.r, below_drew h.bel⟩
theorem DivW.keep {W w w' : World} {m0 m1 n0 n1 q0 q1 r0 r1 : Int} (h : DivW W w m0 m1 n0 n1 q0 q1 r0 r1) {g : Nat} (hk : Keep w w' (fun k => k = g)) (h1 : W.heap.size + 4 ≤ g) : Below W.heap.size W w' ∧ w'.heap[W.heap.size]? = some (.cells #[.int .u64 m0, .int .u64 m1] 84 (0, 0)) ∧ w'.heap[W.heap.size + 1]? = some (.cells #[.int .u64 n0, .int .u64 n1] 84 (0, 0)) ∧ w'.heap[W.heap.size + 2]? = some (.cells #[.int .u64 0, .int .u64 0] 84 (0, 0)) ∧ w'.heap[W.heap.size + 3]? = some (.cells #[.int .u64 0, .int .u64 0] 84 (0, 0)) :=
  ⟨h.bel.trans (hk.below h.bel.size (fun k e => by have e2 : k = g := e; omega)), (hk.block _ (blk_lt h.m) (by omega)).trans h.m, (hk.block _ (blk_lt h.n) (by omega)).trans h.n, (hk.block _ (blk_lt h.x) (by omega)).trans h.x, (hk.block _ (blk_lt h.y) (by omega)).trans h.y⟩
theorem DivW.setr {W w : World} {m0 m1 n0 n1 q0 q1 r0 r1 : Int} (h : DivW W w m0 m1 n0 n1 q0 q1 r0 r1) (a b : Int) : DivW W ((w.setCell ⟨W.heap.size + 5, 0, none⟩ (.int .u64 a)).setCell ⟨W.heap.size + 5, 1, none⟩ (.int .u64 b)) m0 m1 n0 n1 q0 q1 a b := by
  have hk := ((Keep.refl w (fun k => k = W.heap.size + 5)).set ⟨W.heap.size + 5, 0, none⟩ (.int .u64 a) (.inl rfl)).set ⟨W.heap.size + 5, 1, none⟩ (.int .u64 b) (.inl rfl)
  obtain ⟨k1, k2, k3, k4, k5⟩ := h.keep hk (by omega)
  exact ⟨k2, k3, k4, k5, (hk.block _ (blk_lt h.q) (by omega)).trans h.q, blk_put (blk_put h.r 0 _ rfl) 1 _ rfl, k1⟩
theorem DivW.setq0 {W w : World} {m0 m1 n0 n1 q0 q1 r0 r1 : Int} (h : DivW W w m0 m1 n0 n1 q0 q1 r0 r1) (a : Int) : DivW W (w.setCell ⟨W.heap.size + 4, 0, none⟩ (.int .u64 a)) m0 m1 n0 n1 a q1 r0 r1 := by
  have hk := (Keep.refl w (fun k => k = W.heap.size + 4)).set ⟨W.heap.size + 4, 0, none⟩ (.int .u64 a) (.inl rfl)
  obtain ⟨k1, k2, k3, k4, k5⟩ := h.keep hk (by omega)
  exact ⟨k2, k3, k4, k5, blk_put h.q 0 _ rfl, (hk.block _ (blk_lt h.r) (by omega)).trans h.r, k1⟩
theorem DivW.setq1 {W w : World} {m0 m1 n0 n1 q0 q1 r0 r1 : Int} (h : DivW W w m0 m1 n0 n1 q0 q1 r0 r1) (a : Int) : DivW W (w.setCell ⟨W.heap.size + 4, 1, none⟩ (.int .u64 a)) m0 m1 n0 n1 q0 a r0 r1 := by
  have hk := (Keep.refl w (fun k => k = W.heap.size + 4)).set ⟨W.heap.size + 4, 1, none⟩ (.int .u64 a) (.inl rfl)
  obtain ⟨k1, k2, k3, k4, k5⟩ := h.keep hk (by omega)
  exact ⟨k2, k3, k4, k5, blk_put h.q 1 _ rfl, (hk.block _ (blk_lt h.r) (by omega)).trans h.r, k1⟩
set_option maxHeartbeats 6400000 in
set_option maxRecDepth 8000 in
theorem wide_divided {M N : Int} (w : World) (hM : 0 ≤ M ∧ M ≤ 340282366920938463463374607431768211455) (hN : 0 < N ∧ N ≤ 340282366920938463463374607431768211455) :
    Calls Try.prog 44 #[LV M, LV N] w fun e w' => e = .returned (.tuple #[LV (M / N), LV (M % N)]) ∧ Below w.heap.size w w' := by
  unfold LV
  obtain ⟨m1, hm1⟩ : ∃ q, q = hiW M := ⟨_, rfl⟩
  obtain ⟨m0, hm0⟩ : ∃ q, q = loW M := ⟨_, rfl⟩
  obtain ⟨n1, hn1⟩ : ∃ q, q = hiW N := ⟨_, rfl⟩
  obtain ⟨n0, hn0⟩ : ∃ q, q = loW N := ⟨_, rfl⟩
  rw [← hm0, ← hm1, ← hn0, ← hn1]
  have b0 : 0 ≤ m0 ∧ m0 ≤ 18446744073709551615 := by rw [hm0]; exact lo_rng M
  have b1 : 0 ≤ m1 ∧ m1 ≤ 18446744073709551615 := by rw [hm1]; unfold hiW; omega
  have b2 : 0 ≤ n0 ∧ n0 ≤ 18446744073709551615 := by rw [hn0]; exact lo_rng N
  have b3 : 0 ≤ n1 ∧ n1 ≤ 18446744073709551615 := by rw [hn1]; unfold hiW; omega
  have HM := Aside0.mk (show M = m1 * 18446744073709551616 + m0 by rw [hm0, hm1]; unfold hiW loW; omega)
  have HN := Aside0.mk (show N = n1 * 18446744073709551616 + n0 by rw [hn0, hn1]; unfold hiW loW; omega)
  have BM := Aside0.mk hM
  have BN := Aside0.mk hN
  obtain ⟨W, hW⟩ : ∃ W, W = (((((w.alloc (l2 m0 m1)).alloc (l2 n0 n1)).alloc (l2 0 0)).alloc (l2 0 0)).alloc (l2 0 0)).alloc (l2 0 0) := ⟨_, rfl⟩
  have HD := Aside0.mk (show DivW w W m0 m1 n0 n1 0 0 0 0 by rw [hW]; exact DivW.begin_ w m0 m1 n0 n1)
  have HI := Aside0.mk (show DivI M N 128 0 0 0 0 by
    have e : M / 2 ^ 128 = 0 := Int.ediv_eq_zero_of_lt hM.1 (by have : (2 : Int) ^ 128 = 340282366920938463463374607431768211456 := by decide
                                                                omega)
    unfold DivI
    rw [e]
    simp)
  have HW := Aside0.mk hW
  unfold l2 at HW
  clear hm0 hm1 hn0 hn1 hW hM hN
  go_enter Try.func44, Try.ntmps44
  go_wp2
  rw [← HW.out]
  go_loopg [8] 128 (fun kq v8 w' => ∃ i q0 q1 r0 r1 : Int, v8 = .int .i64 i ∧ Aside0 (i = kq - 1) ∧ Aside0 (kq ≤ 128) ∧ Aside0 (DivW w w' m0 m1 n0 n1 q0 q1 r0 r1) ∧ Aside0 (DivI M N kq q0 q1 r0 r1))
  case atStart => exact ⟨127, 0, 0, 0, 0, rfl, ⟨rfl⟩, ⟨by omega⟩, HD, HI⟩
  case round =>
    clear HD HI HW
    obtain ⟨i, q0, q1, r0, r1, rfl, HK, HL, HD, HI⟩ := hrel
    cases gk with
    | zero =>
      obtain rfl : i = -1 := HK.out
      have dq := HD.out.q
      have dr := HD.out.r
      have dx := HD.out.x
      have dy := HD.out.y
      have hi := HI.out
      unfold DivI at hi
      obtain ⟨g0, g1, g2, g3, g4, g5, g6, g7, g8, g9⟩ := hi
      rw [Int.pow_zero, Int.ediv_one] at g8 g9
      rw [Int.mul_one] at g9
      have HE := Aside0.mk (show loW (M / N) = q0 ∧ hiW (M / N) = q1 ∧ loW (M % N) = r0 ∧ hiW (M % N) = r1 by unfold loW hiW; omega)
      clear g0 g1 g2 g3 g4 g5 g6 g7 g8 g9
      have y0 : wr.cell? ⟨w.heap.size + 4, 0, none⟩ = _ := blk_cell dq 0
      have y1 : wr.cell? ⟨w.heap.size + 4, 1, none⟩ = _ := blk_cell dq 1
      have y2 : wr.cell? ⟨w.heap.size + 5, 0, none⟩ = _ := blk_cell dr 0
      have y3 : wr.cell? ⟨w.heap.size + 5, 1, none⟩ = _ := blk_cell dr 1
      have y4 : wr.cell? ⟨w.heap.size + 2, 0, none⟩ = _ := blk_cell dx 0
      have y5 : wr.cell? ⟨w.heap.size + 2, 1, none⟩ = _ := blk_cell dx 1
      have y6 : wr.cell? ⟨w.heap.size + 3, 0, none⟩ = _ := blk_cell dy 0
      have y7 : wr.cell? ⟨w.heap.size + 3, 1, none⟩ = _ := blk_cell dy 1
      have z4 : wr.frozen? ⟨w.heap.size + 2, 0, none⟩ = _ := blk_frozen dx 0
      have z5 : wr.frozen? ⟨w.heap.size + 2, 1, none⟩ = _ := blk_frozen dx 1
      have z6 : wr.frozen? ⟨w.heap.size + 3, 0, none⟩ = _ := blk_frozen dy 0
      have z7 : wr.frozen? ⟨w.heap.size + 3, 1, none⟩ = _ := blk_frozen dy 1
      have hsz : w.heap.size + 3 < wr.heap.size := blk_lt dy
      clear dq dr dx dy
      go_upto_region 12 with (fail)
      go_region
      all_goals
        go_wp2_with (fail)
        rw [HE.out.1, HE.out.2.1, HE.out.2.2.1, HE.out.2.2.2]
        refine bodyPost_ret (v := .tuple #[.agg #[.int .u64 q0, .int .u64 q1], .agg #[.int .u64 r0, .int .u64 r1]]) (by simp [results, Try.results44, go_sem, y4, y5, y6, y7, z4, z5, z6, z7, hsz]) rfl ⟨rfl, ?_⟩
        exact below_drew ((((HD.out.bel.setCell (Nat.le_add_right _ 2) _).setCell (Nat.le_add_right _ 2) _).setCell (Nat.le_add_right _ 3) _).setCell (Nat.le_add_right _ 3) _)
    | succ k1 =>
      have hik : i = k1 := by have := HK.out; omega
      have hk1 : k1 ≤ 127 := by have := HL.out; omega
      have hi0 : 0 ≤ i := by omega
      have hi1 : i ≤ 127 := by omega
      have dm := HD.out.m
      have dn := HD.out.n
      have dr := HD.out.r
      have dq := HD.out.q
      have x0 : wr.cell? ⟨w.heap.size, 0, none⟩ = _ := blk_cell dm 0
      have x1 : wr.cell? ⟨w.heap.size, 1, none⟩ = _ := blk_cell dm 1
      have x2 : wr.cell? ⟨w.heap.size + 1, 0, none⟩ = _ := blk_cell dn 0
      have x3 : wr.cell? ⟨w.heap.size + 1, 1, none⟩ = _ := blk_cell dn 1
      have x4 : wr.cell? ⟨w.heap.size + 5, 0, none⟩ = _ := blk_cell dr 0
      have x5 : wr.cell? ⟨w.heap.size + 5, 1, none⟩ = _ := blk_cell dr 1
      have f4 : wr.frozen? ⟨w.heap.size + 5, 0, none⟩ = _ := blk_frozen dr 0
      have f5 : wr.frozen? ⟨w.heap.size + 5, 1, none⟩ = _ := blk_frozen dr 1
      have x6 : wr.cell? ⟨w.heap.size + 4, 0, none⟩ = _ := blk_cell dq 0
      have x7 : wr.cell? ⟨w.heap.size + 4, 1, none⟩ = _ := blk_cell dq 1
      have f6 : wr.frozen? ⟨w.heap.size + 4, 0, none⟩ = _ := blk_frozen dq 0
      have f7 : wr.frozen? ⟨w.heap.size + 4, 1, none⟩ = _ := blk_frozen dq 1
      clear dm dn dr dq
      obtain ⟨j, hj⟩ : ∃ j : Nat, (j : Int) = i % 64 := ⟨(i % 64).toNat, by omega⟩
      have hj3 : j ≤ 63 := by omega
      have e2 : i.tmod 64 = (j : Int) := by rw [Int.tmod_eq_emod_of_nonneg hi0, ← hj]
      have e3 : IntKind.u64.wrap (j : Int) = (j : Int) := by rw [u64w]; omega
      by_cases hc : i < 64
      · have e1 : i.tdiv 64 = 0 := by rw [Int.tdiv_eq_ediv_of_nonneg hi0, show i / 64 = 0 by omega]
        have e1q : IntKind.i64.wrap (i.tdiv 64) = 0 := by rw [e1]; rfl
        clear e1
        obtain rfl : j = k1 := by omega
        obtain ⟨mj, bt, d0, d1, u0, o, t0, t1, pj, qn, z0, z1, c0, c2, RD⟩ := round_low BM.out.1 BM.out.2 HM.out b0.1 b0.2 BN.out.1 HN.out b2.1 b2.2 b3.1 b3.2 HI.out (by omega)
        obtain ⟨smj, sbt, sd0, sd1, su0, so, st0, st1, spj, sqn, t0g, t1g, c0g, hz0, hc0, hz1, hc2, ways⟩ := RD
        have A1 := call_sub64 t0 n0 0 t0g b2.1 b2.2 (by omega) (by omega)
        rw [← hz0, ← hc0] at A1
        have A2 := call_sub64 t1 n1 c0 t1g b3.1 b3.2 c0g.1 c0g.2
        rw [← hz1, ← hc2] at A2
        have HIK := Aside0.mk hik
        clear hik hc hj hz0 hc0 hz1 hc2 t0g t1g c0g b0 b1 b2 b3 hj3 hk1
        rcases ways with ⟨k1_, HG⟩ | ⟨k1_, k2_, HG⟩ | ⟨k1_, k2_, k3_, k4_, HG⟩ | ⟨k1_, k2_, k3_, k4_, HG⟩ | ⟨k1_, k2_, k3_, HG⟩
        · have HG := Aside0.mk HG
          have HS := Aside0.mk ((((HD.out.setr t0 t1).setr z0 z1).setq0 qn).drew)
          go_wp2_with (fail)
          go_upto_region 6 with (fail)
          go_still_tail 21, (by kernel_rfl)
          change wpList _ _ _ _ _ wr.drew
          go_wp2_with (fail)
          go_roundg j
          case rel => exact ⟨i - 1, qn, q1, z0, z1, rfl, ⟨by have := HIK.out; omega⟩, ⟨by have := HL.out; omega⟩, HS, HG⟩
          case measure => omega
        · have HG := Aside0.mk HG
          have HS := Aside0.mk ((((HD.out.setr t0 t1).setr z0 z1).setq0 qn).drew)
          go_wp2_with (fail)
          go_upto_region 6 with (fail)
          go_still_tail 21, (by kernel_rfl)
          change wpList _ _ _ _ _ wr.drew
          go_wp2_with (fail)
          go_roundg j
          case rel => exact ⟨i - 1, qn, q1, z0, z1, rfl, ⟨by have := HIK.out; omega⟩, ⟨by have := HL.out; omega⟩, HS, HG⟩
          case measure => omega
        · have HG := Aside0.mk HG
          have HS := Aside0.mk ((((HD.out.setr t0 t1).setr z0 z1).setq0 qn).drew)
          go_wp2_with (fail)
          go_upto_region 6 with (fail)
          go_still_tail 21, (by kernel_rfl)
          change wpList _ _ _ _ _ wr.drew
          go_wp2_with (fail)
          go_roundg j
          case rel => exact ⟨i - 1, qn, q1, z0, z1, rfl, ⟨by have := HIK.out; omega⟩, ⟨by have := HL.out; omega⟩, HS, HG⟩
          case measure => omega
        · have HG := Aside0.mk HG
          have HS := Aside0.mk ((HD.out.setr t0 t1).drew)
          go_wp2_with (fail)
          go_upto_region 6 with (fail)
          go_still_tail 21, (by kernel_rfl)
          change wpList _ _ _ _ _ wr.drew
          go_wp2_with (fail)
          go_roundg j
          case rel => exact ⟨i - 1, q0, q1, t0, t1, rfl, ⟨by have := HIK.out; omega⟩, ⟨by have := HL.out; omega⟩, HS, HG⟩
          case measure => omega
        · have HG := Aside0.mk HG
          have HS := Aside0.mk ((HD.out.setr t0 t1).drew)
          go_wp2_with (fail)
          go_upto_region 6 with (fail)
          go_still_tail 21, (by kernel_rfl)
          change wpList _ _ _ _ _ wr.drew
          go_wp2_with (fail)
          go_roundg j
          case rel => exact ⟨i - 1, q0, q1, t0, t1, rfl, ⟨by have := HIK.out; omega⟩, ⟨by have := HL.out; omega⟩, HS, HG⟩
          case measure => omega
      · have e1 : i.tdiv 64 = 1 := by rw [Int.tdiv_eq_ediv_of_nonneg hi0, show i / 64 = 1 by omega]
        have e1q : IntKind.i64.wrap (i.tdiv 64) = 1 := by rw [e1]; rfl
        clear e1
        obtain ⟨mj, bt, d0, d1, u0, o, t0, t1, pj, qn, z0, z1, c0, c2, RD⟩ := round_high BM.out.1 HM.out b0.1 b0.2 b1.1 b1.2 BN.out.1 HN.out b2.1 b2.2 b3.1 b3.2 HI.out (show k1 = 64 + j by omega) hj3
        obtain ⟨smj, sbt, sd0, sd1, su0, so, st0, st1, spj, sqn, t0g, t1g, c0g, hz0, hc0, hz1, hc2, ways⟩ := RD
        have A1 := call_sub64 t0 n0 0 t0g b2.1 b2.2 (by omega) (by omega)
        rw [← hz0, ← hc0] at A1
        have A2 := call_sub64 t1 n1 c0 t1g b3.1 b3.2 c0g.1 c0g.2
        rw [← hz1, ← hc2] at A2
        have HIK := Aside0.mk hik
        clear hik hc hj hz0 hc0 hz1 hc2 t0g t1g c0g b0 b1 b2 b3 hj3 hk1
        rcases ways with ⟨k1_, HG⟩ | ⟨k1_, k2_, HG⟩ | ⟨k1_, k2_, k3_, k4_, HG⟩ | ⟨k1_, k2_, k3_, k4_, HG⟩ | ⟨k1_, k2_, k3_, HG⟩
        · have HG := Aside0.mk HG
          have HS := Aside0.mk ((((HD.out.setr t0 t1).setr z0 z1).setq1 qn).drew)
          go_wp2_with (fail)
          go_upto_region 6 with (fail)
          go_still_tail 21, (by kernel_rfl)
          change wpList _ _ _ _ _ wr.drew
          go_wp2_with (fail)
          go_roundg k1
          case rel => exact ⟨i - 1, q0, qn, z0, z1, rfl, ⟨by have := HIK.out; omega⟩, ⟨by have := HL.out; omega⟩, HS, HG⟩
          case measure => omega
        · have HG := Aside0.mk HG
          have HS := Aside0.mk ((((HD.out.setr t0 t1).setr z0 z1).setq1 qn).drew)
          go_wp2_with (fail)
          go_upto_region 6 with (fail)
          go_still_tail 21, (by kernel_rfl)
          change wpList _ _ _ _ _ wr.drew
          go_wp2_with (fail)
          go_roundg k1
          case rel => exact ⟨i - 1, q0, qn, z0, z1, rfl, ⟨by have := HIK.out; omega⟩, ⟨by have := HL.out; omega⟩, HS, HG⟩
          case measure => omega
        · have HG := Aside0.mk HG
          have HS := Aside0.mk ((((HD.out.setr t0 t1).setr z0 z1).setq1 qn).drew)
          go_wp2_with (fail)
          go_upto_region 6 with (fail)
          go_still_tail 21, (by kernel_rfl)
          change wpList _ _ _ _ _ wr.drew
          go_wp2_with (fail)
          go_roundg k1
          case rel => exact ⟨i - 1, q0, qn, z0, z1, rfl, ⟨by have := HIK.out; omega⟩, ⟨by have := HL.out; omega⟩, HS, HG⟩
          case measure => omega
        · have HG := Aside0.mk HG
          have HS := Aside0.mk ((HD.out.setr t0 t1).drew)
          go_wp2_with (fail)
          go_upto_region 6 with (fail)
          go_still_tail 21, (by kernel_rfl)
          change wpList _ _ _ _ _ wr.drew
          go_wp2_with (fail)
          go_roundg k1
          case rel => exact ⟨i - 1, q0, q1, t0, t1, rfl, ⟨by have := HIK.out; omega⟩, ⟨by have := HL.out; omega⟩, HS, HG⟩
          case measure => omega
        · have HG := Aside0.mk HG
          have HS := Aside0.mk ((HD.out.setr t0 t1).drew)
          go_wp2_with (fail)
          go_upto_region 6 with (fail)
          go_still_tail 21, (by kernel_rfl)
          change wpList _ _ _ _ _ wr.drew
          go_wp2_with (fail)
          go_roundg k1
          case rel => exact ⟨i - 1, q0, q1, t0, t1, rfl, ⟨by have := HIK.out; omega⟩, ⟨by have := HL.out; omega⟩, HS, HG⟩
          case measure => omega
end Go.Proofs.Ythnihjfdmkfkiaa.Q

namespace Go.Proofs.Ythnihjfdmkfkiaa.Q
open Go.RowKit Go.Proofs.YthnihjfdmkfkiaaW.PrintWords Go.Proofs.YthnihjfdmkfkiaaW.PrintLast Go.Proofs.YthnihjfdmkfkiaaW.PrintMore Go.Proofs.YthnihjfdmkfkiaaV
set_option linter.unusedVariables false
set_option linter.unusedSimpArgs false

set_option maxHeartbeats 1600000 in
theorem wide_signed {m : Int} (b : Bool) (w : World) (h0 : 0 ≤ m) (h1 : m ≤ 170141183460469231731687303715884105727) :
    Calls Try.prog 46 #[LV m, .bool b] w fun q w' => q = .returned (.tuple #[WV (if b then -m else m), .int .i64 0]) ∧ Below w.heap.size w w' := by
  obtain ⟨rh, hrh⟩ : ∃ q, q = hiW (if b then -m else m) := ⟨_, rfl⟩
  obtain ⟨rl, hrl⟩ : ∃ q, q = loW (if b then -m else m) := ⟨_, rfl⟩
  unfold WV LV
  rw [← hrh, ← hrl]
  obtain ⟨m1, hm1⟩ : ∃ q, q = hiW m := ⟨_, rfl⟩
  obtain ⟨m0, hm0⟩ : ∃ q, q = loW m := ⟨_, rfl⟩
  rw [← hm0, ← hm1]
  have b0 : 0 ≤ m0 ∧ m0 ≤ 18446744073709551615 := by rw [hm0]; exact lo_rng m
  have b1 : 0 ≤ m1 ∧ m1 ≤ 9223372036854775807 := by rw [hm1]; unfold hiW; omega
  have e : m = m1 * 18446744073709551616 + m0 := by rw [hm0, hm1]; unfold hiW loW; omega
  have BEL := Aside0.mk (below2 w)
  have k1 : decide (9223372036854775808 < m1) = false := decide_eq_false (by omega)
  have k2 : (m1 == 9223372036854775808) = false := beq_eq_false_iff_ne.mpr (by omega)
  have k3 : decide (9223372036854775808 ≤ m1) = false := decide_eq_false (by omega)
  cases b with
  | true =>
    have A1 := call_sub64 0 m0 0 (by omega) (by omega) (by omega) (by omega) (by omega)
    obtain ⟨s1, hs1⟩ : ∃ s, s = (0 + 18446744073709551616 - m0 - 0) % 18446744073709551616 := ⟨_, rfl⟩
    obtain ⟨c1, hc1⟩ : ∃ s : Int, s = (if 0 < m0 + 0 then 1 else 0) := ⟨_, rfl⟩
    rw [← hs1, ← hc1] at A1
    have hc : 0 ≤ c1 ∧ c1 ≤ 1 ∧ (c1 = 1 ↔ 0 < m0) := by rw [hc1]; split <;> omega
    have A2 := call_sub64 0 m1 c1 (by omega) (by omega) (by omega) (by omega) (by omega)
    obtain ⟨s2, hs2⟩ : ∃ s, s = (0 + 18446744073709551616 - m1 - c1) % 18446744073709551616 := ⟨_, rfl⟩
    obtain ⟨c2, hc2⟩ : ∃ s : Int, s = (if 0 < m1 + c1 then 1 else 0) := ⟨_, rfl⟩
    rw [← hs2, ← hc2] at A2
    obtain ⟨S, hS⟩ : ∃ S, S = wrap64 s2 := ⟨_, rfl⟩
    have hS' := hS.symm
    simp only [if_true] at hrh hrl
    have E0 := Aside0.mk (show s1 = rl by rw [hrl]; unfold loW; omega)
    have E1 := Aside0.mk (show S = rh by rw [hS, hrh]; unfold hiW wrap64; omega)
    clear hs1 hc1 hs2 hc2 hc e hm1 hm0 hrh hrl h0 h1 hS b0 b1
    go_enter Try.func46, Try.ntmps46
    go_wp2
    rw [E0.out, E1.out]
    refine bodyPost_ret (v := .tuple #[.agg #[.int .i64 rh, .int .u64 rl], .int .i64 0]) (by simp [results, Try.results46, go_sem]) rfl ⟨rfl, ?_⟩
    exact BEL.out _ _
  | false =>
    obtain ⟨S, hS⟩ : ∃ S, S = wrap64 m1 := ⟨_, rfl⟩
    have hS' := hS.symm
    simp only [Bool.false_eq_true, if_false] at hrh hrl
    have E0 := Aside0.mk (show m0 = rl by rw [hrl, hm0])
    have E1 := Aside0.mk (show S = rh by rw [hS, hrh, hm1]; unfold hiW wrap64; omega)
    have E2 := Aside0.mk (show m1 = rh by rw [hrh, hm1])
    clear e hm1 hm0 hrh hrl h0 h1 hS
    go_enter Try.func46, Try.ntmps46
    go_wp2
    first
    | (rw [E0.out, E1.out]
       refine bodyPost_ret (v := .tuple #[.agg #[.int .i64 rh, .int .u64 rl], .int .i64 0]) (by simp [results, Try.results46, go_sem]) rfl ⟨rfl, ?_⟩
       exact BEL.out _ _)
    | (rw [E0.out, E2.out]
       refine bodyPost_ret (v := .tuple #[.agg #[.int .i64 rh, .int .u64 rl], .int .i64 0]) (by simp [results, Try.results46, go_sem]) rfl ⟨rfl, ?_⟩
       exact BEL.out _ _)
end Go.Proofs.Ythnihjfdmkfkiaa.Q

namespace Go.Proofs.Ythnihjfdmkfkiaa.Q
open Go.RowKit Go.Proofs.YthnihjfdmkfkiaaW.PrintWords Go.Proofs.YthnihjfdmkfkiaaW.PrintLast Go.Proofs.YthnihjfdmkfkiaaW.PrintMore Go.Proofs.YthnihjfdmkfkiaaV
set_option linter.unusedVariables false
set_option linter.unusedSimpArgs false

theorem and32 (a : Int) (h0 : 0 ≤ a) (h1 : a < 18446744073709551616) : bits .and .u64 a 4294967295 = a % 4294967296 := by
  rw [u64_and a 4294967295 h0 h1 (by omega) (by omega), show (4294967295 : Int).toNat = 4294967295 from rfl]
  have := Nat.and_two_pow_sub_one_eq_mod a.toNat 32
  rw [show (2 : Nat) ^ 32 - 1 = 4294967295 by decide, show (2 : Nat) ^ 32 = 4294967296 by decide] at this
  rw [this]
  omega
set_option maxHeartbeats 800000 in
theorem bits_Mul64 (x y : Int) (w : World) (hx0 : 0 ≤ x) (hx : x < 18446744073709551616) (hy0 : 0 ≤ y) (hy : y < 18446744073709551616) :
    Calls Try.prog 52 #[.int .u64 x, .int .u64 y] w fun e w' => e = .returned (.tuple #[.int .u64 (x * y / 18446744073709551616), .int .u64 (x * y % 18446744073709551616)]) ∧ w = w' := by
  have HE := Aside0.mk (mul64_arith x y hx0 hx hy0 hy)
  have HX := Aside0.mk (And.intro hx0 hx)
  have HY := Aside0.mk (And.intro hy0 hy)
  clear hx0 hx hy0 hy
  go_enter Try.func52, Try.ntmps52
  go_wp2
  have a1 := and32 x HX.out.1 HX.out.2
  have a2 := and32 y HY.out.1 HY.out.2
  have a3 := fun a : Int => and32 (a % 18446744073709551616) (by omega) (by omega)
  simp only [u64w, a1, a2, a3]
  rw [HE.out]
  go_ret2
  exact ⟨rfl, rfl⟩
theorem new2 (w : World) (a b c : Obj) (d : Obj) : ((((w.alloc a).alloc b).alloc c)).heap[w.heap.size]? = some a ∧ (((w.alloc a).alloc b).alloc c).heap[w.heap.size + 1]? = some b ∧ (((w.alloc a).alloc b).alloc c).heap[w.heap.size + 2]? = some c ∧ Below w.heap.size w (((w.alloc a).alloc b).alloc c) := by
  refine ⟨blk_alloc (blk_alloc (heap_alloc_new _ _) _) _, blk_alloc (heap_alloc2_new _ _ _) _, ?_, below_alloc (below_alloc (below_alloc (Below.refl _ _) _) _) _⟩
  have := heap_alloc_new ((w.alloc a).alloc b) c
  simpa using this
/-- Numbers of 64 bits with a sign. -/
def in64 (x : Int) : Prop := -9223372036854775808 ≤ x ∧ x ≤ 9223372036854775807
def mul1.T : Bool × List (List Nat × List Nat) := (true, [([], []), ([0], [0]), ([], []), ([2, 1], [2]), ([], []), ([], []), ([4, 1, 3, 0, 1, 4, 5], [1, 4]), ([5, 3, 6, 0, 1, 2, 3, 4, 5, 6], [3, 5])])
def mul1.B : List Nat := [0, 1, 0, 7, 0, 0, 63, 127]
theorem mul1.tab : rtab .any (opsOf Try.f27 1) = mul1.T := by kernel_rfl
theorem mul1.bits : waitsOk mul1.T.2 mul1.B = true := by kernel_rfl
set_option maxHeartbeats 3200000 in
set_option maxRecDepth 4000 in
theorem wide_Mul {x y : Int} (w : World) (hx : in64 x) (hy : in64 y) :
    Calls Try.prog 27 #[WV x, WV y] w fun q w' => q = .returned (.tuple #[WV (x * y), .int .i64 0]) ∧ Below w.heap.size w w' := by
  have ix : inW x := by unfold in64 at hx; unfold inW; omega
  have iy : inW y := by unfold in64 at hy; unfold inW; omega
  have HAx := Aside0.mk (fun W => wide_amount W ix)
  have HAy := Aside0.mk (fun W => wide_amount W iy)
  unfold in64 at hx hy
  have hp : 0 ≤ (x.natAbs : Int) ∧ (x.natAbs : Int) ≤ 9223372036854775808 := by omega
  have hs : 0 ≤ (y.natAbs : Int) ∧ (y.natAbs : Int) ≤ 9223372036854775808 := by omega
  have hz : (x.natAbs : Int) * (y.natAbs : Int) = ((x * y).natAbs : Int) := by rw [← Int.natCast_mul, Int.natAbs_mul]
  have hm0 := Int.mul_nonneg hp.1 hs.1
  have hm1 : (x.natAbs : Int) * (y.natAbs : Int) ≤ 9223372036854775808 * 9223372036854775808 := Int.mul_le_mul hp.2 hs.2 hs.1 (by omega)
  have hM := Aside0.mk (bits_Mul64 (x.natAbs : Int) (y.natAbs : Int) · hp.1 (by omega) hs.1 (by omega))
  have hM2 := Aside0.mk (bits_Mul64 0 (y.natAbs : Int) · (by omega) (by omega) hs.1 (by omega))
  have HG := Aside0.mk (fun b W => wide_signed (m := (x.natAbs : Int) * (y.natAbs : Int)) b W hm0 (by omega))
  have hsg : (if (decide (hiW x < 0) != decide (hiW y < 0)) then -((x.natAbs : Int) * (y.natAbs : Int)) else (x.natAbs : Int) * (y.natAbs : Int)) = x * y := by
    have nx : hiW x < 0 ↔ x < 0 := by unfold hiW; omega
    have ny : hiW y < 0 ↔ y < 0 := by unfold hiW; omega
    by_cases h1 : x < 0 <;> by_cases h2 : y < 0
    · rw [decide_eq_true (nx.2 h1), decide_eq_true (ny.2 h2)]
      simp only [bne_self_eq_false, Bool.false_eq_true, if_false]
      rw [show (x.natAbs : Int) = -x by omega, show (y.natAbs : Int) = -y by omega, Int.neg_mul_neg]
    · rw [decide_eq_true (nx.2 h1), decide_eq_false (fun h => h2 (ny.1 h))]
      simp only [Bool.true_bne, Bool.not_false, if_true]
      rw [show (x.natAbs : Int) = -x by omega, show (y.natAbs : Int) = y by omega, Int.neg_mul, Int.neg_neg]
    · rw [decide_eq_false (fun h => h1 (nx.1 h)), decide_eq_true (ny.2 h2)]
      simp only [Bool.false_bne, if_true]
      rw [show (x.natAbs : Int) = x by omega, show (y.natAbs : Int) = -y by omega, Int.mul_neg, Int.neg_neg]
    · rw [decide_eq_false (fun h => h1 (nx.1 h)), decide_eq_false (fun h => h2 (ny.1 h))]
      simp only [bne_self_eq_false, Bool.false_eq_true, if_false]
      rw [show (x.natAbs : Int) = x by omega, show (y.natAbs : Int) = y by omega]
  have e1 : loW (x.natAbs : Int) = (x.natAbs : Int) := by unfold loW; omega
  have e2 : hiW (x.natAbs : Int) = 0 := by unfold hiW; omega
  have e3 : loW (y.natAbs : Int) = (y.natAbs : Int) := by unfold loW; omega
  have e4 : hiW (y.natAbs : Int) = 0 := by unfold hiW; omega
  have RES := Aside0.mk hsg
  unfold WV LV at HAx HAy HG
  unfold WV
  rw [e1, e2] at HAx
  rw [e3, e4] at HAy
  have HG_ := HG
  clear HG
  have HG := Aside0.mk (fun b W => (show Calls Try.prog 46 #[.agg #[.int .u64 ((x.natAbs : Int) * (y.natAbs : Int) % 18446744073709551616), .int .u64 ((x.natAbs : Int) * (y.natAbs : Int) / 18446744073709551616)], .bool b] W _ from HG_.out b W))
  clear HG_
  obtain ⟨xa, hxa⟩ : ∃ a, a = hiW x := ⟨_, rfl⟩
  obtain ⟨xb, hxb⟩ : ∃ a, a = loW x := ⟨_, rfl⟩
  obtain ⟨ya, hya⟩ : ∃ a, a = hiW y := ⟨_, rfl⟩
  obtain ⟨yb, hyb⟩ : ∃ a, a = loW y := ⟨_, rfl⟩
  rw [← hxa, ← hxb] at HAx ⊢
  rw [← hya, ← hyb] at HAy ⊢
  rw [← hxa, ← hya] at RES
  obtain ⟨bx, hbx⟩ : ∃ b, b = decide (xa < 0) := ⟨_, rfl⟩
  obtain ⟨by_, hby⟩ : ∃ b, b = decide (ya < 0) := ⟨_, rfl⟩
  have qx := hbx.symm
  have qy := hby.symm
  rw [← hbx, ← hby] at RES
  have HG := Aside0.mk (fun W => HG.out (bx != by_) W)
  have HG_ := HG
  clear HG
  rw [RES.out] at HG_
  have HG := HG_
  clear HG_
  change Aside0 (∀ W, Calls Try.prog 46 #[.agg #[.int .u64 ((x.natAbs : Int) * (y.natAbs : Int) % 18446744073709551616), .int .u64 ((x.natAbs : Int) * (y.natAbs : Int) / 18446744073709551616)], .bool (bx != by_)] W fun q w' => q = .returned (.tuple #[.agg #[.int .i64 (hiW (x * y)), .int .u64 (loW (x * y))], .int .i64 0]) ∧ Below W.heap.size W w') at HG
  obtain ⟨za, hza⟩ : ∃ a, a = hiW (x * y) := ⟨_, rfl⟩
  obtain ⟨zb, hzb⟩ : ∃ a, a = loW (x * y) := ⟨_, rfl⟩
  rw [← hza, ← hzb] at HG ⊢
  obtain ⟨bb, hbb⟩ : ∃ b, b = (bx != by_) := ⟨_, rfl⟩
  have qb : (!(bx == by_)) = bb := by rw [hbb]; rfl
  rw [← hbb] at HG
  clear hza hzb RES hbx hby hbb
  obtain ⟨p0, hp0⟩ : ∃ a, a = (x.natAbs : Int) := ⟨_, rfl⟩
  obtain ⟨s0, hs0⟩ : ∃ a, a = (y.natAbs : Int) := ⟨_, rfl⟩
  rw [← hp0] at HAx hM HG
  rw [← hs0] at HAy hM hM2 HG
  rw [← hp0, ← hs0] at hm0 hm1
  obtain ⟨hi, hhi⟩ : ∃ a, a = p0 * s0 / 18446744073709551616 := ⟨_, rfl⟩
  obtain ⟨lo, hlo⟩ : ∃ a, a = p0 * s0 % 18446744073709551616 := ⟨_, rfl⟩
  rw [← hhi, ← hlo] at hM HG
  rw [show (0 : Int) * s0 / 18446744073709551616 = 0 by rw [Int.zero_mul]; rfl, show (0 : Int) * s0 % 18446744073709551616 = 0 by rw [Int.zero_mul]; rfl] at hM2
  have hir : 0 ≤ hi ∧ hi ≤ 18446744073709551615 := by rw [hhi]; omega
  have A1 := call_add64 hi 0 0 hir.1 (by omega) (by omega) (by omega)
  rw [show (hi + 0 + 0) % 18446744073709551616 = hi by omega, show (hi + 0 + 0) / 18446744073709551616 = 0 by omega] at A1
  obtain ⟨p1, hp1⟩ : ∃ a : Int, a = 0 := ⟨_, rfl⟩
  obtain ⟨s1, hs1⟩ : ∃ a : Int, a = 0 := ⟨_, rfl⟩
  rw [← hp1] at HAx
  rw [← hs1] at HAy
  have HP1 := Aside0.mk hp1
  have HS1 := Aside0.mk hs1
  obtain ⟨W, hW⟩ : ∃ W, W = ((w.alloc (.cells #[.int .i64 xa, .int .u64 xb] 25 (0, 0))).alloc (.cells #[.int .i64 ya, .int .u64 yb] 25 (0, 0))).alloc (.cells #[.int .i64 0, .int .u64 0] 25 (0, 0)) := ⟨_, rfl⟩
  obtain ⟨n0, n1, n2, nb⟩ := new2 w (.cells #[.int .i64 xa, .int .u64 xb] 25 (0, 0)) (.cells #[.int .i64 ya, .int .u64 yb] 25 (0, 0)) (.cells #[.int .i64 0, .int .u64 0] 25 (0, 0)) (.cells #[] 0 (0, 0))
  rw [← hW] at n0 n1 n2 nb
  have HW := Aside0.mk hW
  have N0 := Aside0.mk n0
  have N1 := Aside0.mk n1
  have N2 := Aside0.mk n2
  have NB := Aside0.mk nb
  clear hW n0 n1 n2 nb hxa hxb hya hyb hp0 hs0 hhi hlo hm0 hm1 hz hp hs hsg e1 e2 e3 e4 ix iy hx hy hp1 hs1
  go_enter Try.func27, Try.ntmps27
  go_upto_region 1 with (fail)
  rw [← HW.out]
  go_cut [6, 7] from 8 to 17 (fun v6 v7 wx => ∃ g6 g7, v6 = .pointer (some ⟨g6, 0, none⟩) ∧ v7 = .pointer (some ⟨g7, 0, none⟩) ∧ Aside0 (wx.heap[g6]? = some (.cells #[.int .u64 p0, .int .u64 p1] 84 (0, 0))) ∧ Aside0 (wx.heap[g7]? = some (.cells #[.int .u64 s0, .int .u64 s1] 84 (0, 0))) ∧ Aside0 (Below W.heap.size W wx))
  case first =>
    have HB := Aside0.mk (show Below W.heap.size W W.drew from (Below.refl _ _).drew)
    have D4_5 : True := trivial
    refine start_ (n := 8) (S := fun w' => True) (ds := []) #[false, false, false, false, false, false, false, false] (by kernel_rfl) rfl rfl trivial (fun hHeld => ?_)
    refine with_tabW mul1.tab mul1.bits (fun HT_ HW_ => ?_)
    refine inv_at [0, 1, 2, 3, 4, 5, 6, 7] (fun a0_ b a w' => ∃ (g6 : Nat) (g7 : Nat) (m4_ : Value) (m5_ : Value), a = putSel a0_ b [(0, 14, .agg #[.int .i64 xa, .int .u64 xb]), (1, 15, .agg #[.int .u64 p0, .int .u64 p1]), (2, 16, .agg #[.int .i64 ya, .int .u64 yb]), (3, 17, .agg #[.int .u64 s0, .int .u64 s1]), (4, 6, m4_), (5, 7, m5_)] ∧ (Below W.heap.size W w') ∧ (b 4 = true → W.heap.size ≤ g6) ∧ (b 4 = true → g6 < w'.heap.size) ∧ (b 4 = true → b 6 = false → w'.heap[g6]? = some (.cells #[.int .u64 0, .int .u64 0] 84 (0, 0))) ∧ (b 4 = true → b 6 = true → w'.heap[g6]? = some (.cells #[.int .u64 p0, .int .u64 p1] 84 (0, 0))) ∧ (b 5 = true → W.heap.size ≤ g7) ∧ (b 5 = true → g7 < w'.heap.size) ∧ (b 5 = true → b 7 = false → w'.heap[g7]? = some (.cells #[.int .u64 0, .int .u64 0] 84 (0, 0))) ∧ (b 5 = true → b 7 = true → w'.heap[g7]? = some (.cells #[.int .u64 s0, .int .u64 s1] 84 (0, 0))) ∧ ((b 4 = true → b 5 = true → g6 ≠ g7)) ∧ (b 4 = true → (m4_ : Value) = .pointer (some ⟨g6, 0, none⟩)) ∧ (b 5 = true → (m5_ : Value) = .pointer (some ⟨g7, 0, none⟩))) HT_.out HW_.out (by kernel_rfl) (by kernel_rfl) ?_ ?_ ?_
    · exact ⟨0, 0, .bool false, .bool false, by simp only [putSel, Bool.false_eq_true, if_false], HB.out, fun h_ => absurd h_ (by decide), fun h_ => absurd h_ (by decide), fun h_ => absurd h_ (by decide), fun h_ => absurd h_ (by decide), fun h_ => absurd h_ (by decide), fun h_ => absurd h_ (by decide), fun h_ => absurd h_ (by decide), fun h_ => absurd h_ (by decide), fun h_ => absurd h_ (by decide), fun h_ => absurd h_ (by decide), fun h_ => absurd h_ (by decide)⟩
    · skip
      clear D4_5 HB
      refine steps_cons ?_ ?_
      · rintro b a w' ⟨g6, g7, m4_, m5_, ha, Q_HB, Q_G4, Q_L4, Q_Z4, Q_N6, Q_G5, Q_L5, Q_Z5, Q_N7, Q_D4_5, Q_X4_, Q_X5_⟩ hb_ hon hoff
        refine ⟨_, rfl, fun K hK => ?_⟩
        have e2 : a.tmps[2]? = some (.pointer (some ⟨w.heap.size, 0, none⟩)) := by rw [ha]; exact (putSel_off rfl).trans rfl
        replace ha := Aside0.mk ha
        have HB := Aside0.mk Q_HB
        have D4_5 := Aside0.mk Q_D4_5
        have k0 := blk_cell ((HB.out.block _ (blk_lt N0.out)).trans N0.out) 0
        have k1 := blk_cell ((HB.out.block _ (blk_lt N0.out)).trans N0.out) 1
        refine value_ (w1 := w') (v := .agg #[.int .i64 xa, .int .u64 xb]) (by rfl) rfl ?_ ?_
        · go_simp
          (try simp only [i64_w])
          try rfl
        refine hK.out _ _ ⟨g6, g7, m4_, m5_, (by rw [ha.out]; exact putSel_upk 0 hb_ rfl rfl rfl), Q_HB, Q_G4, Q_L4, Q_Z4, fun _ h1_ => absurd ((hoff 6 (by kernel_rfl)).symm.trans h1_) (by decide), Q_G5, Q_L5, Q_Z5, fun _ h1_ => absurd ((hoff 7 (by kernel_rfl)).symm.trans h1_) (by decide), Q_D4_5, Q_X4_, Q_X5_⟩
      refine steps_cons ?_ ?_
      · rintro b a w' ⟨g6, g7, m4_, m5_, ha, Q_HB, Q_G4, Q_L4, Q_Z4, Q_N6, Q_G5, Q_L5, Q_Z5, Q_N7, Q_D4_5, Q_X4_, Q_X5_⟩ hb_ hon hoff
        refine ⟨_, rfl, fun K hK => ?_⟩
        have e14 : a.tmps[14]? = some (.agg #[.int .i64 xa, .int .u64 xb]) := by rw [ha]; exact putSel_on (e := (0, 14, .agg #[.int .i64 xa, .int .u64 xb])) 0 rfl rfl (hon 0 (by kernel_rfl)) rfl
        replace ha := Aside0.mk ha
        have HB := Aside0.mk Q_HB
        have D4_5 := Aside0.mk Q_D4_5
        refine goes_ Try.func45 (by kernel_rfl) rfl #[.agg #[.int .i64 xa, .int .u64 xb]] (by rfl) rfl rfl (by first | (simp only [List.map_toArray, List.map_cons, List.map_nil, Act.eval, Array.getD_eq_getD_getElem?, Option.getD_some, e14]; done) | (simp only [List.map_toArray, List.map_cons, List.map_nil, Act.eval, Array.getD_eq_getD_getElem?, Option.getD_some, e14]; rfl)) ?_
        with_reducible refine (HAx.out _).mono ?_
        rintro e w1 ⟨rfl, hb⟩
        refine ⟨_, rfl, ?_⟩
        refine hK.out _ _ ⟨g6, g7, m4_, m5_, (by rw [ha.out]; exact putSel_upk 1 hb_ rfl rfl rfl), hop HB.out hb, Q_G4, fun h4 => Nat.lt_of_lt_of_le (Q_L4 h4) hb.size, fun h4 h6 => (hb.block _ (blk_lt (Q_Z4 h4 h6))).trans (Q_Z4 h4 h6), fun _ h1_ => absurd ((hoff 6 (by kernel_rfl)).symm.trans h1_) (by decide), Q_G5, fun h5 => Nat.lt_of_lt_of_le (Q_L5 h5) hb.size, fun h5 h7 => (hb.block _ (blk_lt (Q_Z5 h5 h7))).trans (Q_Z5 h5 h7), fun _ h1_ => absurd ((hoff 7 (by kernel_rfl)).symm.trans h1_) (by decide), Q_D4_5, Q_X4_, Q_X5_⟩
      refine steps_cons ?_ ?_
      · rintro b a w' ⟨g6, g7, m4_, m5_, ha, Q_HB, Q_G4, Q_L4, Q_Z4, Q_N6, Q_G5, Q_L5, Q_Z5, Q_N7, Q_D4_5, Q_X4_, Q_X5_⟩ hb_ hon hoff
        refine ⟨_, rfl, fun K hK => ?_⟩
        have e3 : a.tmps[3]? = some (.pointer (some ⟨w.heap.size + 1, 0, none⟩)) := by rw [ha]; exact (putSel_off rfl).trans rfl
        replace ha := Aside0.mk ha
        have HB := Aside0.mk Q_HB
        have D4_5 := Aside0.mk Q_D4_5
        have k0 := blk_cell ((HB.out.block _ (blk_lt N1.out)).trans N1.out) 0
        have k1 := blk_cell ((HB.out.block _ (blk_lt N1.out)).trans N1.out) 1
        refine value_ (w1 := w') (v := .agg #[.int .i64 ya, .int .u64 yb]) (by rfl) rfl ?_ ?_
        · go_simp
          (try simp only [i64_w])
          try rfl
        refine hK.out _ _ ⟨g6, g7, m4_, m5_, (by rw [ha.out]; exact putSel_upk 2 hb_ rfl rfl rfl), Q_HB, Q_G4, Q_L4, Q_Z4, fun _ h1_ => absurd ((hoff 6 (by kernel_rfl)).symm.trans h1_) (by decide), Q_G5, Q_L5, Q_Z5, fun _ h1_ => absurd ((hoff 7 (by kernel_rfl)).symm.trans h1_) (by decide), Q_D4_5, Q_X4_, Q_X5_⟩
      refine steps_cons ?_ ?_
      · rintro b a w' ⟨g6, g7, m4_, m5_, ha, Q_HB, Q_G4, Q_L4, Q_Z4, Q_N6, Q_G5, Q_L5, Q_Z5, Q_N7, Q_D4_5, Q_X4_, Q_X5_⟩ hb_ hon hoff
        refine ⟨_, rfl, fun K hK => ?_⟩
        have e16 : a.tmps[16]? = some (.agg #[.int .i64 ya, .int .u64 yb]) := by rw [ha]; exact putSel_on (e := (2, 16, .agg #[.int .i64 ya, .int .u64 yb])) 2 rfl rfl (hon 2 (by kernel_rfl)) rfl
        replace ha := Aside0.mk ha
        have HB := Aside0.mk Q_HB
        have D4_5 := Aside0.mk Q_D4_5
        refine goes_ Try.func45 (by kernel_rfl) rfl #[.agg #[.int .i64 ya, .int .u64 yb]] (by rfl) rfl rfl (by first | (simp only [List.map_toArray, List.map_cons, List.map_nil, Act.eval, Array.getD_eq_getD_getElem?, Option.getD_some, e16]; done) | (simp only [List.map_toArray, List.map_cons, List.map_nil, Act.eval, Array.getD_eq_getD_getElem?, Option.getD_some, e16]; rfl)) ?_
        with_reducible refine (HAy.out _).mono ?_
        rintro e w1 ⟨rfl, hb⟩
        refine ⟨_, rfl, ?_⟩
        refine hK.out _ _ ⟨g6, g7, m4_, m5_, (by rw [ha.out]; exact putSel_upk 3 hb_ rfl rfl rfl), hop HB.out hb, Q_G4, fun h4 => Nat.lt_of_lt_of_le (Q_L4 h4) hb.size, fun h4 h6 => (hb.block _ (blk_lt (Q_Z4 h4 h6))).trans (Q_Z4 h4 h6), fun _ h1_ => absurd ((hoff 6 (by kernel_rfl)).symm.trans h1_) (by decide), Q_G5, fun h5 => Nat.lt_of_lt_of_le (Q_L5 h5) hb.size, fun h5 h7 => (hb.block _ (blk_lt (Q_Z5 h5 h7))).trans (Q_Z5 h5 h7), fun _ h1_ => absurd ((hoff 7 (by kernel_rfl)).symm.trans h1_) (by decide), Q_D4_5, Q_X4_, Q_X5_⟩
      refine steps_cons ?_ ?_
      · rintro b a w' ⟨g6, g7, m4_, m5_, ha, Q_HB, Q_G4, Q_L4, Q_Z4, Q_N6, Q_G5, Q_L5, Q_Z5, Q_N7, Q_D4_5, Q_X4_, Q_X5_⟩ hb_ hon hoff
        refine ⟨_, rfl, fun K hK => ?_⟩
        replace ha := Aside0.mk ha
        have HB := Aside0.mk Q_HB
        have D4_5 := Aside0.mk Q_D4_5
        have hb := (Below.refl w'.heap.size w').alloc (Nat.le_refl _) (.cells #[.int .u64 0, .int .u64 0] 84 (0, 0))
        refine value_ (w1 := w'.alloc (.cells #[.int .u64 0, .int .u64 0] 84 (0, 0))) (v := .pointer (some ⟨w'.heap.size, 0, none⟩)) (by rfl) rfl ?_ ?_
        · go_simp
          try rfl
        refine hK.out _ _ ⟨w'.heap.size, g7, (.pointer (some ⟨w'.heap.size, 0, none⟩)), m5_, (by rw [ha.out]; exact putSel_upk 4 hb_ rfl rfl rfl), hop HB.out hb, fun _ => HB.out.size, fun _ => (by simp), fun _ _ => heap_alloc_new w' _, fun _ h1_ => absurd ((hoff 6 (by kernel_rfl)).symm.trans h1_) (by decide), Q_G5, fun h5 => Nat.lt_of_lt_of_le (Q_L5 h5) hb.size, fun h5 h7 => (hb.block _ (blk_lt (Q_Z5 h5 h7))).trans (Q_Z5 h5 h7), fun _ h1_ => absurd ((hoff 7 (by kernel_rfl)).symm.trans h1_) (by decide), fun h1 h2 => (fun e => by have := Q_L5 h2; omega), fun _ => rfl, Q_X5_⟩
      refine steps_cons ?_ ?_
      · rintro b a w' ⟨g6, g7, m4_, m5_, ha, Q_HB, Q_G4, Q_L4, Q_Z4, Q_N6, Q_G5, Q_L5, Q_Z5, Q_N7, Q_D4_5, Q_X4_, Q_X5_⟩ hb_ hon hoff
        refine ⟨_, rfl, fun K hK => ?_⟩
        replace ha := Aside0.mk ha
        have HB := Aside0.mk Q_HB
        have D4_5 := Aside0.mk Q_D4_5
        have hb := (Below.refl w'.heap.size w').alloc (Nat.le_refl _) (.cells #[.int .u64 0, .int .u64 0] 84 (0, 0))
        refine value_ (w1 := w'.alloc (.cells #[.int .u64 0, .int .u64 0] 84 (0, 0))) (v := .pointer (some ⟨w'.heap.size, 0, none⟩)) (by rfl) rfl ?_ ?_
        · go_simp
          try rfl
        refine hK.out _ _ ⟨g6, w'.heap.size, m4_, (.pointer (some ⟨w'.heap.size, 0, none⟩)), (by rw [ha.out]; exact putSel_upk 5 hb_ rfl rfl rfl), hop HB.out hb, Q_G4, fun h4 => Nat.lt_of_lt_of_le (Q_L4 h4) hb.size, fun h4 h6 => (hb.block _ (blk_lt (Q_Z4 h4 h6))).trans (Q_Z4 h4 h6), fun _ h1_ => absurd ((hoff 6 (by kernel_rfl)).symm.trans h1_) (by decide), fun _ => HB.out.size, fun _ => (by simp), fun _ _ => heap_alloc_new w' _, fun _ h1_ => absurd ((hoff 7 (by kernel_rfl)).symm.trans h1_) (by decide), fun h1 h2 => (fun e => by have := Q_L4 h1; omega), Q_X4_, fun _ => rfl⟩
      refine steps_cons ?_ ?_
      · rintro b a w' ⟨g6, g7, m4_, m5_, ha, Q_HB, Q_G4, Q_L4, Q_Z4, Q_N6, Q_G5, Q_L5, Q_Z5, Q_N7, Q_D4_5, Q_X4_, Q_X5_⟩ hb_ hon hoff
        refine ⟨_, rfl, fun K hK => ?_⟩
        have e6 : a.tmps[6]? = some (m4_) := by rw [ha]; exact putSel_on (e := (4, 6, m4_)) 4 rfl rfl (hon 4 (by kernel_rfl)) rfl
        rw [Q_X4_ (hon 4 (by kernel_rfl))] at e6
        have e15 : a.tmps[15]? = some (.agg #[.int .u64 p0, .int .u64 p1]) := by rw [ha]; exact putSel_on (e := (1, 15, .agg #[.int .u64 p0, .int .u64 p1])) 1 rfl rfl (hon 1 (by kernel_rfl)) rfl
        replace ha := Aside0.mk ha
        have HB := Aside0.mk Q_HB
        have G4 := Aside0.mk (Q_G4 (hon 4 (by kernel_rfl)))
        have L4 := Aside0.mk (Q_L4 (hon 4 (by kernel_rfl)))
        have Z4 := Aside0.mk (Q_Z4 (hon 4 (by kernel_rfl)) hb_)
        have G5 := Aside0.mk (Q_G5 (hon 5 (by kernel_rfl)))
        have L5 := Aside0.mk (Q_L5 (hon 5 (by kernel_rfl)))
        have Z5 := Aside0.mk (Q_Z5 (hon 5 (by kernel_rfl)) (hoff 7 (by kernel_rfl)))
        have D4_5 := Aside0.mk Q_D4_5
        have hk : Keep w' ((w'.setCell ⟨g6, 0, none⟩ (.int .u64 p0)).setCell ⟨g6, 1, none⟩ (.int .u64 p1)) (fun k => k = g6) := (((Keep.refl w' (fun k => k = g6)).set ⟨g6, 0, none⟩ (.int .u64 p0) (.inl rfl)).set ⟨g6, 1, none⟩ (.int .u64 p1) (.inl rfl))
        have y0 := blk_cell Z4.out 0
        have y1 := blk_cell Z4.out 1
        have z0 := blk_frozen Z4.out 0
        have z1 := blk_frozen Z4.out 1
        refine skip_ (w1 := ((w'.setCell ⟨g6, 0, none⟩ (.int .u64 p0)).setCell ⟨g6, 1, none⟩ (.int .u64 p1))) (by rfl) rfl ?_ ?_
        · go_simp
          try rfl
        refine hK.out _ _ ⟨g6, g7, m4_, m5_, (by rw [ha.out]; exact putSel_none (v := undef) rfl), HB.out.trans (hk.below HB.out.size (fun k e => by have e2 : k = g6 := e; rw [e2]; exact G4.out)), Q_G4, fun h4 => Nat.lt_of_lt_of_le (Q_L4 h4) hk.size, fun _ h1_ => absurd ((up_self b 6).symm.trans h1_) (by decide), fun _ _ => (blk_put (blk_put Z4.out 0 (.int .u64 p0) rfl) 1 (.int .u64 p1) rfl), Q_G5, fun h5 => Nat.lt_of_lt_of_le (Q_L5 h5) hk.size, fun h5 h7 => (hk.block _ (blk_lt (Q_Z5 h5 h7)) (fun e => Q_D4_5 (hon 4 (by kernel_rfl)) h5 e.symm)).trans (Q_Z5 h5 h7), fun _ h1_ => absurd ((hoff 7 (by kernel_rfl)).symm.trans h1_) (by decide), Q_D4_5, Q_X4_, Q_X5_⟩
      refine steps_cons ?_ ?_
      · rintro b a w' ⟨g6, g7, m4_, m5_, ha, Q_HB, Q_G4, Q_L4, Q_Z4, Q_N6, Q_G5, Q_L5, Q_Z5, Q_N7, Q_D4_5, Q_X4_, Q_X5_⟩ hb_ hon hoff
        refine ⟨_, rfl, fun K hK => ?_⟩
        have e7 : a.tmps[7]? = some (m5_) := by rw [ha]; exact putSel_on (e := (5, 7, m5_)) 5 rfl rfl (hon 5 (by kernel_rfl)) rfl
        rw [Q_X5_ (hon 5 (by kernel_rfl))] at e7
        have e17 : a.tmps[17]? = some (.agg #[.int .u64 s0, .int .u64 s1]) := by rw [ha]; exact putSel_on (e := (3, 17, .agg #[.int .u64 s0, .int .u64 s1])) 3 rfl rfl (hon 3 (by kernel_rfl)) rfl
        replace ha := Aside0.mk ha
        have HB := Aside0.mk Q_HB
        have G4 := Aside0.mk (Q_G4 (hon 4 (by kernel_rfl)))
        have L4 := Aside0.mk (Q_L4 (hon 4 (by kernel_rfl)))
        have N6 := Aside0.mk (Q_N6 (hon 4 (by kernel_rfl)) (hon 6 (by kernel_rfl)))
        have G5 := Aside0.mk (Q_G5 (hon 5 (by kernel_rfl)))
        have L5 := Aside0.mk (Q_L5 (hon 5 (by kernel_rfl)))
        have Z5 := Aside0.mk (Q_Z5 (hon 5 (by kernel_rfl)) hb_)
        have D4_5 := Aside0.mk Q_D4_5
        have hk : Keep w' ((w'.setCell ⟨g7, 0, none⟩ (.int .u64 s0)).setCell ⟨g7, 1, none⟩ (.int .u64 s1)) (fun k => k = g7) := (((Keep.refl w' (fun k => k = g7)).set ⟨g7, 0, none⟩ (.int .u64 s0) (.inl rfl)).set ⟨g7, 1, none⟩ (.int .u64 s1) (.inl rfl))
        have y0 := blk_cell Z5.out 0
        have y1 := blk_cell Z5.out 1
        have z0 := blk_frozen Z5.out 0
        have z1 := blk_frozen Z5.out 1
        refine skip_ (w1 := ((w'.setCell ⟨g7, 0, none⟩ (.int .u64 s0)).setCell ⟨g7, 1, none⟩ (.int .u64 s1))) (by rfl) rfl ?_ ?_
        · go_simp
          try rfl
        refine hK.out _ _ ⟨g6, g7, m4_, m5_, (by rw [ha.out]; exact putSel_none (v := undef) rfl), HB.out.trans (hk.below HB.out.size (fun k e => by have e2 : k = g7 := e; rw [e2]; exact G5.out)), Q_G4, fun h4 => Nat.lt_of_lt_of_le (Q_L4 h4) hk.size, fun _ h1_ => absurd ((hon 6 (by kernel_rfl)).symm.trans h1_) (by decide), fun h4 h6 => (hk.block _ (blk_lt (Q_N6 h4 h6)) (fun e => Q_D4_5 h4 (hon 5 (by kernel_rfl)) e)).trans (Q_N6 h4 h6), Q_G5, fun h5 => Nat.lt_of_lt_of_le (Q_L5 h5) hk.size, fun _ h1_ => absurd ((up_self b 7).symm.trans h1_) (by decide), fun _ _ => (blk_put (blk_put Z5.out 0 (.int .u64 s0) rfl) 1 (.int .u64 s1) rfl), Q_D4_5, Q_X4_, Q_X5_⟩
      exact steps_nil
    · rintro b a w' hall ⟨g6, g7, m4_, m5_, ha, Q_HB, Q_G4, Q_L4, Q_Z4, Q_N6, Q_G5, Q_L5, Q_Z5, Q_N7, Q_D4_5, Q_X4_, Q_X5_⟩
      clear D4_5 HB
      have hb0_ := hall 0 (by kernel_rfl)
      have hb1_ := hall 1 (by kernel_rfl)
      have hb2_ := hall 2 (by kernel_rfl)
      have hb3_ := hall 3 (by kernel_rfl)
      have hb4_ := hall 4 (by kernel_rfl)
      have hb5_ := hall 5 (by kernel_rfl)
      have hb6_ := hall 6 (by kernel_rfl)
      have hb7_ := hall 7 (by kernel_rfl)
      subst ha
      obtain rfl := Q_X4_ hb4_
      obtain rfl := Q_X5_ hb5_
      simp only [putSel, hb0_, hb1_, hb2_, hb3_, hb4_, hb5_, hb6_, hb7_, if_true, Act.put, List.setIfInBounds_toArray, List.set_cons_zero, List.set_cons_succ]
      have HB := Aside0.mk Q_HB
      clear Q_HB
      have G4 := Aside0.mk (Q_G4 hb4_)
      clear Q_G4
      have L4 := Aside0.mk (Q_L4 hb4_)
      clear Q_L4
      clear Q_Z4
      have N6 := Aside0.mk (Q_N6 hb4_ hb6_)
      clear Q_N6
      have G5 := Aside0.mk (Q_G5 hb5_)
      clear Q_G5
      have L5 := Aside0.mk (Q_L5 hb5_)
      clear Q_L5
      clear Q_Z5
      have N7 := Aside0.mk (Q_N7 hb5_ hb7_)
      clear Q_N7
      have D4_5 := Aside0.mk Q_D4_5
      clear Q_D4_5
      clear hall hb0_ hb1_ hb2_ hb3_ hb4_ hb5_ hb6_ hb7_
      go_wp2_with (fail)
      go_meet
      exact ⟨g6, g7, rfl, rfl, N6, N7, HB⟩
  case rest =>
    obtain ⟨g6, g7, rfl, rfl, M6, M7, HBc⟩ := hcut
    obtain rfl := HP1.out
    obtain rfl := HS1.out
    have a0 := blk_cell M6.out 0
    have a1 := blk_cell M6.out 1
    have b0 := blk_cell M7.out 0
    have b1 := blk_cell M7.out 1
    have c0 := blk_cell ((HBc.out.block _ (blk_lt N0.out)).trans N0.out) 0
    have c1 := blk_cell ((HBc.out.block _ (blk_lt N1.out)).trans N1.out) 0
    have z2 := (HBc.out.block _ (blk_lt N2.out)).trans N2.out
    have ZZ := Aside0.mk z2
    clear z2
    go_wp2_with (first
      | (go_at_call 52; (with_reducible refine (hM.out _).mono ?_); rintro e w1 ⟨rfl, rfl⟩; clear hM)
      | (go_at_call 52; (with_reducible refine (hM2.out _).mono ?_); rintro e w1 ⟨rfl, rfl⟩)
      | (go_at_call 46; (with_reducible refine (HG.out _).mono ?_); rintro e w1 ⟨rfl, hb⟩; have HB1 := Aside0.mk (hop HBc.out hb); have zz := (hb.block _ (blk_lt ZZ.out)).trans ZZ.out; obtain ⟨f1, f2, f3, f4, f5⟩ := res2 (v0 := .int .i64 za) (v1 := .int .u64 zb) zz; have HF := Aside0.mk f5; clear hb f5))
    refine bodyPost_ret (results_ct rfl _ _ (w.heap.size + 2) 25 _ (0, 0) _ rfl HF.out Try.underlying25 rfl (by kernel_rfl)) rfl ?_
    exact ⟨rfl, (hop NB.out HB1.out).trans (keep_set2.below (hop NB.out HB1.out).size (fun k hk => by omega))⟩
end Go.Proofs.Ythnihjfdmkfkiaa.Q

namespace Go.Proofs.Ythnihjfdmkfkiaa.Q
open Go.RowKit Go.Proofs.YthnihjfdmkfkiaaW.PrintWords Go.Proofs.YthnihjfdmkfkiaaW.PrintLast Go.Proofs.YthnihjfdmkfkiaaW.PrintMore Go.Proofs.YthnihjfdmkfkiaaV
set_option linter.unusedVariables false
set_option linter.unusedSimpArgs false

theorem new4 (w : World) (a b c d : Obj) : ((((w.alloc a).alloc b).alloc c).alloc d).heap[w.heap.size]? = some a ∧ ((((w.alloc a).alloc b).alloc c).alloc d).heap[w.heap.size + 1]? = some b ∧ ((((w.alloc a).alloc b).alloc c).alloc d).heap[w.heap.size + 2]? = some c ∧ ((((w.alloc a).alloc b).alloc c).alloc d).heap[w.heap.size + 3]? = some d ∧ Below w.heap.size w ((((w.alloc a).alloc b).alloc c).alloc d) := by
  obtain ⟨h0, h1, h2, hb⟩ := new2 w a b c d
  refine ⟨blk_alloc h0 _, blk_alloc h1 _, blk_alloc h2 _, ?_, below_alloc hb _⟩
  have := heap_alloc_new (((w.alloc a).alloc b).alloc c) d
  simpa using this
def quo3.T : Bool × List (List Nat × List Nat) := (true, [([], []), ([0], [0]), ([], []), ([2, 1], [2]), ([1, 3, 3], [1, 3]), ([4], [4]), ([5], [5]), ([5], [5]), ([], []), ([], []), ([8, 6, 4, 0, 1, 2, 3, 4, 5, 6, 8, 9], [6, 8]), ([9, 7, 10, 0, 1, 2, 3, 4, 5, 6, 7, 8, 9, 10], [7, 9])])
def quo3.B : List Nat := [0, 1, 0, 7, 15, 31, 63, 63, 0, 0, 895, 2047]
theorem quo3.tab : rtab .any (opsOf Try.f17 3) = quo3.T := by kernel_rfl
theorem quo3.bits : waitsOk quo3.T.2 quo3.B = true := by kernel_rfl
set_option maxHeartbeats 3200000 in
set_option maxRecDepth 4000 in
theorem wide_Quo {x y : Int} (w : World) (hx : 0 ≤ x ∧ x ≤ 170141183460469231731687303715884105727) (hy : 1 ≤ y ∧ y ≤ 9223372036854775807) :
    Calls Try.prog 17 #[WV x, WV y] w fun q w' => q = .returned (.tuple #[WV (x / y), WV (x % y), .int .i64 0]) ∧ Below w.heap.size w w' := by
  have HAx := Aside0.mk (fun W => wide_amount (x := x) W (by unfold inW; omega))
  have HAy := Aside0.mk (fun W => wide_amount (x := y) W (by unfold inW; omega))
  rw [show (x.natAbs : Int) = x by omega] at HAx
  rw [show (y.natAbs : Int) = y by omega] at HAy
  have HDV := Aside0.mk (fun W => wide_divided (M := x) (N := y) W (by omega) (by omega))
  have d1 : 0 ≤ x / y := Int.ediv_nonneg hx.1 (by omega)
  have d2 : x / y ≤ x := Int.ediv_le_self _ hx.1
  have d3 := Int.emod_nonneg x (show y ≠ 0 by omega)
  have d4 := Int.emod_lt_of_pos x (show 0 < y by omega)
  have HQ := Aside0.mk (fun W => wide_signed (m := x / y) false W d1 (by omega))
  have HR := Aside0.mk (fun W => wide_signed (m := x % y) false W d3 (by omega))
  simp only [Bool.false_eq_true, if_false] at HQ HR
  unfold WV LV at HQ HR
  unfold LV at HDV
  unfold WV LV at HAx HAy
  unfold WV
  have e1 : hiW y = 0 := by unfold hiW; omega
  have e2 : loW y = y := by unfold loW; omega
  rw [e1, e2] at HAy HDV ⊢
  obtain ⟨ya, hya⟩ : ∃ a : Int, a = 0 := ⟨_, rfl⟩
  have e3 : ¬ hiW x < 0 := by unfold hiW; omega
  have k0 : (y == 0) = false := beq_eq_false_iff_ne.mpr (by omega)
  obtain ⟨xa, hxa⟩ : ∃ a, a = hiW x := ⟨_, rfl⟩
  obtain ⟨xb, hxb⟩ : ∃ a, a = loW x := ⟨_, rfl⟩
  obtain ⟨q1, hq1⟩ : ∃ a, a = hiW (x / y) := ⟨_, rfl⟩
  obtain ⟨q0, hq0⟩ : ∃ a, a = loW (x / y) := ⟨_, rfl⟩
  obtain ⟨r1, hr1⟩ : ∃ a, a = hiW (x % y) := ⟨_, rfl⟩
  obtain ⟨r0, hr0⟩ : ∃ a, a = loW (x % y) := ⟨_, rfl⟩
  rw [← hq1, ← hq0, ← hr1, ← hr0] at HDV ⊢
  rw [← hq1, ← hq0] at HQ
  rw [← hr1, ← hr0] at HR
  rw [← hxa, ← hxb] at HAx HDV ⊢
  rw [← hxa] at e3
  have d5 : decide (xa < 0) = false := decide_eq_false e3
  obtain ⟨p1, hp1⟩ : ∃ a, a = xa := ⟨_, rfl⟩
  obtain ⟨p0, hp0⟩ : ∃ a, a = xb := ⟨_, rfl⟩
  obtain ⟨s1, hs1⟩ : ∃ a : Int, a = 0 := ⟨_, rfl⟩
  obtain ⟨s0, hs0⟩ : ∃ a, a = y := ⟨_, rfl⟩
  obtain ⟨yb, hyb⟩ : ∃ a, a = y := ⟨_, rfl⟩
  have HAx : Aside0 (∀ W, Calls Try.prog 45 #[.agg #[.int .i64 xa, .int .u64 xb]] W fun q w' => q = .returned (.agg #[.int .u64 p0, .int .u64 p1]) ∧ Below W.heap.size W w') := by rw [hp0, hp1]; exact HAx
  have HAy : Aside0 (∀ W, Calls Try.prog 45 #[.agg #[.int .i64 ya, .int .u64 yb]] W fun q w' => q = .returned (.agg #[.int .u64 s0, .int .u64 s1]) ∧ Below W.heap.size W w') := by rw [hs0, hs1, hya, hyb]; exact HAy
  have HDV : Aside0 (∀ W, Calls Try.prog 44 #[.agg #[.int .u64 p0, .int .u64 p1], .agg #[.int .u64 s0, .int .u64 s1]] W fun q w' => q = .returned (.tuple #[.agg #[.int .u64 q0, .int .u64 q1], .agg #[.int .u64 r0, .int .u64 r1]]) ∧ Below W.heap.size W w') := by rw [hp0, hp1, hs0, hs1]; exact HDV
  rw [← hya, ← hyb]
  rw [← hyb] at k0
  have HYA := Aside0.mk hya
  have d6 : decide (ya < 0) = false := decide_eq_false (by omega)
  obtain ⟨W, hW⟩ : ∃ W, W = (((w.alloc (.cells #[.int .i64 xa, .int .u64 xb] 25 (0, 0))).alloc (.cells #[.int .i64 ya, .int .u64 yb] 25 (0, 0))).alloc (.cells #[.int .i64 0, .int .u64 0] 25 (0, 0))).alloc (.cells #[.int .i64 0, .int .u64 0] 25 (0, 0)) := ⟨_, rfl⟩
  obtain ⟨n0, n1, n2, n3, nb⟩ := new4 w (.cells #[.int .i64 xa, .int .u64 xb] 25 (0, 0)) (.cells #[.int .i64 ya, .int .u64 yb] 25 (0, 0)) (.cells #[.int .i64 0, .int .u64 0] 25 (0, 0)) (.cells #[.int .i64 0, .int .u64 0] 25 (0, 0))
  rw [← hW] at n0 n1 n2 n3 nb
  have HW := Aside0.mk hW
  have N0 := Aside0.mk n0
  have N1 := Aside0.mk n1
  have N2 := Aside0.mk n2
  have N3 := Aside0.mk n3
  have NB := Aside0.mk nb
  have i0 := blk_cell n1 0
  have i1 := blk_cell n1 1
  clear hW n0 n1 n2 n3 nb hxa hxb hya hyb hq1 hq0 hr1 hr0 hp1 hp0 hs1 hs0 d1 d2 d3 d4 e1 e2 e3 hx hy
  go_enter Try.func17, Try.ntmps17
  go_upto_region 1 with (fail)
  rw [← HW.out]
  go_upto_region 3 with (fail)
  go_cut [7, 8] from 9 to 25 (fun v7 v8 wx => ∃ g7 g8, v7 = .pointer (some ⟨g7, 0, none⟩) ∧ v8 = .pointer (some ⟨g8, 0, none⟩) ∧ Aside0 (wx.heap[g7]? = some (.cells #[.int .u64 q0, .int .u64 q1] 84 (0, 0))) ∧ Aside0 (wx.heap[g8]? = some (.cells #[.int .u64 r0, .int .u64 r1] 84 (0, 0))) ∧ Aside0 (Below W.heap.size W wx))
  case first =>
    have HB := Aside0.mk (show Below W.heap.size W W.drew from (Below.refl _ _).drew)
    have D8_9 : True := trivial
    refine start_ (n := 12) (S := fun w' => True) (ds := []) #[false, false, false, false, false, false, false, false, false, false, false, false] (by kernel_rfl) rfl rfl trivial (fun hHeld => ?_)
    refine with_tabW quo3.tab quo3.bits (fun HT_ HW_ => ?_)
    refine inv_at [0, 1, 2, 3, 4, 5, 6, 7, 8, 9, 10, 11] (fun a0_ b a w' => ∃ (g7 : Nat) (g8 : Nat) (m8_ : Value) (m9_ : Value), a = putSel a0_ b [(0, 19, .agg #[.int .i64 xa, .int .u64 xb]), (1, 20, .agg #[.int .u64 p0, .int .u64 p1]), (2, 21, .agg #[.int .i64 ya, .int .u64 yb]), (3, 22, .agg #[.int .u64 s0, .int .u64 s1]), (4, 23, .tuple #[.agg #[.int .u64 q0, .int .u64 q1], .agg #[.int .u64 r0, .int .u64 r1]]), (5, 18, .tuple #[.agg #[.int .u64 q0, .int .u64 q1], .agg #[.int .u64 r0, .int .u64 r1]]), (6, 24, .agg #[.int .u64 q0, .int .u64 q1]), (7, 25, .agg #[.int .u64 r0, .int .u64 r1]), (8, 7, m8_), (9, 8, m9_)] ∧ (Below W.heap.size W w') ∧ (b 8 = true → W.heap.size ≤ g7) ∧ (b 8 = true → g7 < w'.heap.size) ∧ (b 8 = true → b 10 = false → w'.heap[g7]? = some (.cells #[.int .u64 0, .int .u64 0] 84 (0, 0))) ∧ (b 8 = true → b 10 = true → w'.heap[g7]? = some (.cells #[.int .u64 q0, .int .u64 q1] 84 (0, 0))) ∧ (b 9 = true → W.heap.size ≤ g8) ∧ (b 9 = true → g8 < w'.heap.size) ∧ (b 9 = true → b 11 = false → w'.heap[g8]? = some (.cells #[.int .u64 0, .int .u64 0] 84 (0, 0))) ∧ (b 9 = true → b 11 = true → w'.heap[g8]? = some (.cells #[.int .u64 r0, .int .u64 r1] 84 (0, 0))) ∧ ((b 8 = true → b 9 = true → g7 ≠ g8)) ∧ (b 8 = true → (m8_ : Value) = .pointer (some ⟨g7, 0, none⟩)) ∧ (b 9 = true → (m9_ : Value) = .pointer (some ⟨g8, 0, none⟩))) HT_.out HW_.out (by kernel_rfl) (by kernel_rfl) ?_ ?_ ?_
    · exact ⟨0, 0, .bool false, .bool false, by simp only [putSel, Bool.false_eq_true, if_false], HB.out, fun h_ => absurd h_ (by decide), fun h_ => absurd h_ (by decide), fun h_ => absurd h_ (by decide), fun h_ => absurd h_ (by decide), fun h_ => absurd h_ (by decide), fun h_ => absurd h_ (by decide), fun h_ => absurd h_ (by decide), fun h_ => absurd h_ (by decide), fun h_ => absurd h_ (by decide), fun h_ => absurd h_ (by decide), fun h_ => absurd h_ (by decide)⟩
    · skip
      clear D8_9 HB
      refine steps_cons ?_ ?_
      · rintro b a w' ⟨g7, g8, m8_, m9_, ha, Q_HB, Q_G8, Q_L8, Q_Z8, Q_N10, Q_G9, Q_L9, Q_Z9, Q_N11, Q_D8_9, Q_X8_, Q_X9_⟩ hb_ hon hoff
        refine ⟨_, rfl, fun K hK => ?_⟩
        have e2 : a.tmps[2]? = some (.pointer (some ⟨w.heap.size, 0, none⟩)) := by rw [ha]; exact (putSel_off rfl).trans rfl
        replace ha := Aside0.mk ha
        have HB := Aside0.mk Q_HB
        have D8_9 := Aside0.mk Q_D8_9
        have k0 := blk_cell ((HB.out.block _ (blk_lt N0.out)).trans N0.out) 0
        have k1 := blk_cell ((HB.out.block _ (blk_lt N0.out)).trans N0.out) 1
        refine value_ (w1 := w') (v := .agg #[.int .i64 xa, .int .u64 xb]) (by rfl) rfl ?_ ?_
        · go_simp
          (try simp only [i64_w])
          try rfl
        refine hK.out _ _ ⟨g7, g8, m8_, m9_, (by rw [ha.out]; exact putSel_upk 0 hb_ rfl rfl rfl), Q_HB, Q_G8, Q_L8, Q_Z8, fun _ h1_ => absurd ((hoff 10 (by kernel_rfl)).symm.trans h1_) (by decide), Q_G9, Q_L9, Q_Z9, fun _ h1_ => absurd ((hoff 11 (by kernel_rfl)).symm.trans h1_) (by decide), Q_D8_9, Q_X8_, Q_X9_⟩
      refine steps_cons ?_ ?_
      · rintro b a w' ⟨g7, g8, m8_, m9_, ha, Q_HB, Q_G8, Q_L8, Q_Z8, Q_N10, Q_G9, Q_L9, Q_Z9, Q_N11, Q_D8_9, Q_X8_, Q_X9_⟩ hb_ hon hoff
        refine ⟨_, rfl, fun K hK => ?_⟩
        have e19 : a.tmps[19]? = some (.agg #[.int .i64 xa, .int .u64 xb]) := by rw [ha]; exact putSel_on (e := (0, 19, .agg #[.int .i64 xa, .int .u64 xb])) 0 rfl rfl (hon 0 (by kernel_rfl)) rfl
        replace ha := Aside0.mk ha
        have HB := Aside0.mk Q_HB
        have D8_9 := Aside0.mk Q_D8_9
        refine goes_ Try.func45 (by kernel_rfl) rfl #[.agg #[.int .i64 xa, .int .u64 xb]] (by rfl) rfl rfl (by first | (simp only [List.map_toArray, List.map_cons, List.map_nil, Act.eval, Array.getD_eq_getD_getElem?, Option.getD_some, e19]; done) | (simp only [List.map_toArray, List.map_cons, List.map_nil, Act.eval, Array.getD_eq_getD_getElem?, Option.getD_some, e19]; rfl)) ?_
        with_reducible refine (HAx.out _).mono ?_
        rintro e w1 ⟨rfl, hb⟩
        refine ⟨_, rfl, ?_⟩
        refine hK.out _ _ ⟨g7, g8, m8_, m9_, (by rw [ha.out]; exact putSel_upk 1 hb_ rfl rfl rfl), hop HB.out hb, Q_G8, fun h8 => Nat.lt_of_lt_of_le (Q_L8 h8) hb.size, fun h8 h10 => (hb.block _ (blk_lt (Q_Z8 h8 h10))).trans (Q_Z8 h8 h10), fun _ h1_ => absurd ((hoff 10 (by kernel_rfl)).symm.trans h1_) (by decide), Q_G9, fun h9 => Nat.lt_of_lt_of_le (Q_L9 h9) hb.size, fun h9 h11 => (hb.block _ (blk_lt (Q_Z9 h9 h11))).trans (Q_Z9 h9 h11), fun _ h1_ => absurd ((hoff 11 (by kernel_rfl)).symm.trans h1_) (by decide), Q_D8_9, Q_X8_, Q_X9_⟩
      refine steps_cons ?_ ?_
      · rintro b a w' ⟨g7, g8, m8_, m9_, ha, Q_HB, Q_G8, Q_L8, Q_Z8, Q_N10, Q_G9, Q_L9, Q_Z9, Q_N11, Q_D8_9, Q_X8_, Q_X9_⟩ hb_ hon hoff
        refine ⟨_, rfl, fun K hK => ?_⟩
        have e3 : a.tmps[3]? = some (.pointer (some ⟨w.heap.size + 1, 0, none⟩)) := by rw [ha]; exact (putSel_off rfl).trans rfl
        replace ha := Aside0.mk ha
        have HB := Aside0.mk Q_HB
        have D8_9 := Aside0.mk Q_D8_9
        have k0 := blk_cell ((HB.out.block _ (blk_lt N1.out)).trans N1.out) 0
        have k1 := blk_cell ((HB.out.block _ (blk_lt N1.out)).trans N1.out) 1
        refine value_ (w1 := w') (v := .agg #[.int .i64 ya, .int .u64 yb]) (by rfl) rfl ?_ ?_
        · go_simp
          (try simp only [i64_w])
          try rfl
        refine hK.out _ _ ⟨g7, g8, m8_, m9_, (by rw [ha.out]; exact putSel_upk 2 hb_ rfl rfl rfl), Q_HB, Q_G8, Q_L8, Q_Z8, fun _ h1_ => absurd ((hoff 10 (by kernel_rfl)).symm.trans h1_) (by decide), Q_G9, Q_L9, Q_Z9, fun _ h1_ => absurd ((hoff 11 (by kernel_rfl)).symm.trans h1_) (by decide), Q_D8_9, Q_X8_, Q_X9_⟩
      refine steps_cons ?_ ?_
      · rintro b a w' ⟨g7, g8, m8_, m9_, ha, Q_HB, Q_G8, Q_L8, Q_Z8, Q_N10, Q_G9, Q_L9, Q_Z9, Q_N11, Q_D8_9, Q_X8_, Q_X9_⟩ hb_ hon hoff
        refine ⟨_, rfl, fun K hK => ?_⟩
        have e21 : a.tmps[21]? = some (.agg #[.int .i64 ya, .int .u64 yb]) := by rw [ha]; exact putSel_on (e := (2, 21, .agg #[.int .i64 ya, .int .u64 yb])) 2 rfl rfl (hon 2 (by kernel_rfl)) rfl
        replace ha := Aside0.mk ha
        have HB := Aside0.mk Q_HB
        have D8_9 := Aside0.mk Q_D8_9
        refine goes_ Try.func45 (by kernel_rfl) rfl #[.agg #[.int .i64 ya, .int .u64 yb]] (by rfl) rfl rfl (by first | (simp only [List.map_toArray, List.map_cons, List.map_nil, Act.eval, Array.getD_eq_getD_getElem?, Option.getD_some, e21]; done) | (simp only [List.map_toArray, List.map_cons, List.map_nil, Act.eval, Array.getD_eq_getD_getElem?, Option.getD_some, e21]; rfl)) ?_
        with_reducible refine (HAy.out _).mono ?_
        rintro e w1 ⟨rfl, hb⟩
        refine ⟨_, rfl, ?_⟩
        refine hK.out _ _ ⟨g7, g8, m8_, m9_, (by rw [ha.out]; exact putSel_upk 3 hb_ rfl rfl rfl), hop HB.out hb, Q_G8, fun h8 => Nat.lt_of_lt_of_le (Q_L8 h8) hb.size, fun h8 h10 => (hb.block _ (blk_lt (Q_Z8 h8 h10))).trans (Q_Z8 h8 h10), fun _ h1_ => absurd ((hoff 10 (by kernel_rfl)).symm.trans h1_) (by decide), Q_G9, fun h9 => Nat.lt_of_lt_of_le (Q_L9 h9) hb.size, fun h9 h11 => (hb.block _ (blk_lt (Q_Z9 h9 h11))).trans (Q_Z9 h9 h11), fun _ h1_ => absurd ((hoff 11 (by kernel_rfl)).symm.trans h1_) (by decide), Q_D8_9, Q_X8_, Q_X9_⟩
      refine steps_cons ?_ ?_
      · rintro b a w' ⟨g7, g8, m8_, m9_, ha, Q_HB, Q_G8, Q_L8, Q_Z8, Q_N10, Q_G9, Q_L9, Q_Z9, Q_N11, Q_D8_9, Q_X8_, Q_X9_⟩ hb_ hon hoff
        refine ⟨_, rfl, fun K hK => ?_⟩
        have e20 : a.tmps[20]? = some (.agg #[.int .u64 p0, .int .u64 p1]) := by rw [ha]; exact putSel_on (e := (1, 20, .agg #[.int .u64 p0, .int .u64 p1])) 1 rfl rfl (hon 1 (by kernel_rfl)) rfl
        have e22 : a.tmps[22]? = some (.agg #[.int .u64 s0, .int .u64 s1]) := by rw [ha]; exact putSel_on (e := (3, 22, .agg #[.int .u64 s0, .int .u64 s1])) 3 rfl rfl (hon 3 (by kernel_rfl)) rfl
        replace ha := Aside0.mk ha
        have HB := Aside0.mk Q_HB
        have D8_9 := Aside0.mk Q_D8_9
        refine goes_ Try.func44 (by kernel_rfl) rfl #[.agg #[.int .u64 p0, .int .u64 p1], .agg #[.int .u64 s0, .int .u64 s1]] (by rfl) rfl rfl (by first | (simp only [List.map_toArray, List.map_cons, List.map_nil, Act.eval, Array.getD_eq_getD_getElem?, Option.getD_some, e20, e22]; done) | (simp only [List.map_toArray, List.map_cons, List.map_nil, Act.eval, Array.getD_eq_getD_getElem?, Option.getD_some, e20, e22]; rfl)) ?_
        with_reducible refine (HDV.out _).mono ?_
        rintro e w1 ⟨rfl, hb⟩
        refine ⟨_, rfl, ?_⟩
        refine hK.out _ _ ⟨g7, g8, m8_, m9_, (by rw [ha.out]; exact putSel_upk 4 hb_ rfl rfl rfl), hop HB.out hb, Q_G8, fun h8 => Nat.lt_of_lt_of_le (Q_L8 h8) hb.size, fun h8 h10 => (hb.block _ (blk_lt (Q_Z8 h8 h10))).trans (Q_Z8 h8 h10), fun _ h1_ => absurd ((hoff 10 (by kernel_rfl)).symm.trans h1_) (by decide), Q_G9, fun h9 => Nat.lt_of_lt_of_le (Q_L9 h9) hb.size, fun h9 h11 => (hb.block _ (blk_lt (Q_Z9 h9 h11))).trans (Q_Z9 h9 h11), fun _ h1_ => absurd ((hoff 11 (by kernel_rfl)).symm.trans h1_) (by decide), Q_D8_9, Q_X8_, Q_X9_⟩
      refine steps_cons ?_ ?_
      · rintro b a w' ⟨g7, g8, m8_, m9_, ha, Q_HB, Q_G8, Q_L8, Q_Z8, Q_N10, Q_G9, Q_L9, Q_Z9, Q_N11, Q_D8_9, Q_X8_, Q_X9_⟩ hb_ hon hoff
        refine ⟨_, rfl, fun K hK => ?_⟩
        have e23 : a.tmps[23]? = some (.tuple #[.agg #[.int .u64 q0, .int .u64 q1], .agg #[.int .u64 r0, .int .u64 r1]]) := by rw [ha]; exact putSel_on (e := (4, 23, .tuple #[.agg #[.int .u64 q0, .int .u64 q1], .agg #[.int .u64 r0, .int .u64 r1]])) 4 rfl rfl (hon 4 (by kernel_rfl)) rfl
        replace ha := Aside0.mk ha
        have HB := Aside0.mk Q_HB
        have D8_9 := Aside0.mk Q_D8_9
        refine value_ (w1 := w') (v := .tuple #[.agg #[.int .u64 q0, .int .u64 q1], .agg #[.int .u64 r0, .int .u64 r1]]) (by rfl) rfl ?_ ?_
        · go_simp
          (try simp only [i64_w])
          try rfl
        refine hK.out _ _ ⟨g7, g8, m8_, m9_, (by rw [ha.out]; exact putSel_upk 5 hb_ rfl rfl rfl), Q_HB, Q_G8, Q_L8, Q_Z8, fun _ h1_ => absurd ((hoff 10 (by kernel_rfl)).symm.trans h1_) (by decide), Q_G9, Q_L9, Q_Z9, fun _ h1_ => absurd ((hoff 11 (by kernel_rfl)).symm.trans h1_) (by decide), Q_D8_9, Q_X8_, Q_X9_⟩
      refine steps_cons ?_ ?_
      · rintro b a w' ⟨g7, g8, m8_, m9_, ha, Q_HB, Q_G8, Q_L8, Q_Z8, Q_N10, Q_G9, Q_L9, Q_Z9, Q_N11, Q_D8_9, Q_X8_, Q_X9_⟩ hb_ hon hoff
        refine ⟨_, rfl, fun K hK => ?_⟩
        have e18 : a.tmps[18]? = some (.tuple #[.agg #[.int .u64 q0, .int .u64 q1], .agg #[.int .u64 r0, .int .u64 r1]]) := by rw [ha]; exact putSel_on (e := (5, 18, .tuple #[.agg #[.int .u64 q0, .int .u64 q1], .agg #[.int .u64 r0, .int .u64 r1]])) 5 rfl rfl (hon 5 (by kernel_rfl)) rfl
        replace ha := Aside0.mk ha
        have HB := Aside0.mk Q_HB
        have D8_9 := Aside0.mk Q_D8_9
        refine value_ (w1 := w') (v := .agg #[.int .u64 q0, .int .u64 q1]) (by rfl) rfl ?_ ?_
        · go_simp
          (try simp only [i64_w])
          try rfl
        refine hK.out _ _ ⟨g7, g8, m8_, m9_, (by rw [ha.out]; exact putSel_upk 6 hb_ rfl rfl rfl), Q_HB, Q_G8, Q_L8, Q_Z8, fun _ h1_ => absurd ((hoff 10 (by kernel_rfl)).symm.trans h1_) (by decide), Q_G9, Q_L9, Q_Z9, fun _ h1_ => absurd ((hoff 11 (by kernel_rfl)).symm.trans h1_) (by decide), Q_D8_9, Q_X8_, Q_X9_⟩
      refine steps_cons ?_ ?_
      · rintro b a w' ⟨g7, g8, m8_, m9_, ha, Q_HB, Q_G8, Q_L8, Q_Z8, Q_N10, Q_G9, Q_L9, Q_Z9, Q_N11, Q_D8_9, Q_X8_, Q_X9_⟩ hb_ hon hoff
        refine ⟨_, rfl, fun K hK => ?_⟩
        have e18 : a.tmps[18]? = some (.tuple #[.agg #[.int .u64 q0, .int .u64 q1], .agg #[.int .u64 r0, .int .u64 r1]]) := by rw [ha]; exact putSel_on (e := (5, 18, .tuple #[.agg #[.int .u64 q0, .int .u64 q1], .agg #[.int .u64 r0, .int .u64 r1]])) 5 rfl rfl (hon 5 (by kernel_rfl)) rfl
        replace ha := Aside0.mk ha
        have HB := Aside0.mk Q_HB
        have D8_9 := Aside0.mk Q_D8_9
        refine value_ (w1 := w') (v := .agg #[.int .u64 r0, .int .u64 r1]) (by rfl) rfl ?_ ?_
        · go_simp
          (try simp only [i64_w])
          try rfl
        refine hK.out _ _ ⟨g7, g8, m8_, m9_, (by rw [ha.out]; exact putSel_upk 7 hb_ rfl rfl rfl), Q_HB, Q_G8, Q_L8, Q_Z8, Q_N10, Q_G9, Q_L9, Q_Z9, fun _ h1_ => absurd ((hoff 11 (by kernel_rfl)).symm.trans h1_) (by decide), Q_D8_9, Q_X8_, Q_X9_⟩
      refine steps_cons ?_ ?_
      · rintro b a w' ⟨g7, g8, m8_, m9_, ha, Q_HB, Q_G8, Q_L8, Q_Z8, Q_N10, Q_G9, Q_L9, Q_Z9, Q_N11, Q_D8_9, Q_X8_, Q_X9_⟩ hb_ hon hoff
        refine ⟨_, rfl, fun K hK => ?_⟩
        replace ha := Aside0.mk ha
        have HB := Aside0.mk Q_HB
        have D8_9 := Aside0.mk Q_D8_9
        have hb := (Below.refl w'.heap.size w').alloc (Nat.le_refl _) (.cells #[.int .u64 0, .int .u64 0] 84 (0, 0))
        refine value_ (w1 := w'.alloc (.cells #[.int .u64 0, .int .u64 0] 84 (0, 0))) (v := .pointer (some ⟨w'.heap.size, 0, none⟩)) (by rfl) rfl ?_ ?_
        · go_simp
          try rfl
        refine hK.out _ _ ⟨w'.heap.size, g8, (.pointer (some ⟨w'.heap.size, 0, none⟩)), m9_, (by rw [ha.out]; exact putSel_upk 8 hb_ rfl rfl rfl), hop HB.out hb, fun _ => HB.out.size, fun _ => (by simp), fun _ _ => heap_alloc_new w' _, fun _ h1_ => absurd ((hoff 10 (by kernel_rfl)).symm.trans h1_) (by decide), Q_G9, fun h9 => Nat.lt_of_lt_of_le (Q_L9 h9) hb.size, fun h9 h11 => (hb.block _ (blk_lt (Q_Z9 h9 h11))).trans (Q_Z9 h9 h11), fun _ h1_ => absurd ((hoff 11 (by kernel_rfl)).symm.trans h1_) (by decide), fun h1 h2 => (fun e => by have := Q_L9 h2; omega), fun _ => rfl, Q_X9_⟩
      refine steps_cons ?_ ?_
      · rintro b a w' ⟨g7, g8, m8_, m9_, ha, Q_HB, Q_G8, Q_L8, Q_Z8, Q_N10, Q_G9, Q_L9, Q_Z9, Q_N11, Q_D8_9, Q_X8_, Q_X9_⟩ hb_ hon hoff
        refine ⟨_, rfl, fun K hK => ?_⟩
        replace ha := Aside0.mk ha
        have HB := Aside0.mk Q_HB
        have D8_9 := Aside0.mk Q_D8_9
        have hb := (Below.refl w'.heap.size w').alloc (Nat.le_refl _) (.cells #[.int .u64 0, .int .u64 0] 84 (0, 0))
        refine value_ (w1 := w'.alloc (.cells #[.int .u64 0, .int .u64 0] 84 (0, 0))) (v := .pointer (some ⟨w'.heap.size, 0, none⟩)) (by rfl) rfl ?_ ?_
        · go_simp
          try rfl
        refine hK.out _ _ ⟨g7, w'.heap.size, m8_, (.pointer (some ⟨w'.heap.size, 0, none⟩)), (by rw [ha.out]; exact putSel_upk 9 hb_ rfl rfl rfl), hop HB.out hb, Q_G8, fun h8 => Nat.lt_of_lt_of_le (Q_L8 h8) hb.size, fun h8 h10 => (hb.block _ (blk_lt (Q_Z8 h8 h10))).trans (Q_Z8 h8 h10), fun _ h1_ => absurd ((hoff 10 (by kernel_rfl)).symm.trans h1_) (by decide), fun _ => HB.out.size, fun _ => (by simp), fun _ _ => heap_alloc_new w' _, fun _ h1_ => absurd ((hoff 11 (by kernel_rfl)).symm.trans h1_) (by decide), fun h1 h2 => (fun e => by have := Q_L8 h1; omega), Q_X8_, fun _ => rfl⟩
      refine steps_cons ?_ ?_
      · rintro b a w' ⟨g7, g8, m8_, m9_, ha, Q_HB, Q_G8, Q_L8, Q_Z8, Q_N10, Q_G9, Q_L9, Q_Z9, Q_N11, Q_D8_9, Q_X8_, Q_X9_⟩ hb_ hon hoff
        refine ⟨_, rfl, fun K hK => ?_⟩
        have e7 : a.tmps[7]? = some (m8_) := by rw [ha]; exact putSel_on (e := (8, 7, m8_)) 8 rfl rfl (hon 8 (by kernel_rfl)) rfl
        rw [Q_X8_ (hon 8 (by kernel_rfl))] at e7
        have e24 : a.tmps[24]? = some (.agg #[.int .u64 q0, .int .u64 q1]) := by rw [ha]; exact putSel_on (e := (6, 24, .agg #[.int .u64 q0, .int .u64 q1])) 6 rfl rfl (hon 6 (by kernel_rfl)) rfl
        replace ha := Aside0.mk ha
        have HB := Aside0.mk Q_HB
        have G8 := Aside0.mk (Q_G8 (hon 8 (by kernel_rfl)))
        have L8 := Aside0.mk (Q_L8 (hon 8 (by kernel_rfl)))
        have Z8 := Aside0.mk (Q_Z8 (hon 8 (by kernel_rfl)) hb_)
        have G9 := Aside0.mk (Q_G9 (hon 9 (by kernel_rfl)))
        have L9 := Aside0.mk (Q_L9 (hon 9 (by kernel_rfl)))
        have Z9 := Aside0.mk (Q_Z9 (hon 9 (by kernel_rfl)) (hoff 11 (by kernel_rfl)))
        have D8_9 := Aside0.mk Q_D8_9
        have hk : Keep w' ((w'.setCell ⟨g7, 0, none⟩ (.int .u64 q0)).setCell ⟨g7, 1, none⟩ (.int .u64 q1)) (fun k => k = g7) := (((Keep.refl w' (fun k => k = g7)).set ⟨g7, 0, none⟩ (.int .u64 q0) (.inl rfl)).set ⟨g7, 1, none⟩ (.int .u64 q1) (.inl rfl))
        have y0 := blk_cell Z8.out 0
        have y1 := blk_cell Z8.out 1
        have z0 := blk_frozen Z8.out 0
        have z1 := blk_frozen Z8.out 1
        refine skip_ (w1 := ((w'.setCell ⟨g7, 0, none⟩ (.int .u64 q0)).setCell ⟨g7, 1, none⟩ (.int .u64 q1))) (by rfl) rfl ?_ ?_
        · go_simp
          try rfl
        refine hK.out _ _ ⟨g7, g8, m8_, m9_, (by rw [ha.out]; exact putSel_none (v := undef) rfl), HB.out.trans (hk.below HB.out.size (fun k e => by have e2 : k = g7 := e; rw [e2]; exact G8.out)), Q_G8, fun h8 => Nat.lt_of_lt_of_le (Q_L8 h8) hk.size, fun _ h1_ => absurd ((up_self b 10).symm.trans h1_) (by decide), fun _ _ => (blk_put (blk_put Z8.out 0 (.int .u64 q0) rfl) 1 (.int .u64 q1) rfl), Q_G9, fun h9 => Nat.lt_of_lt_of_le (Q_L9 h9) hk.size, fun h9 h11 => (hk.block _ (blk_lt (Q_Z9 h9 h11)) (fun e => Q_D8_9 (hon 8 (by kernel_rfl)) h9 e.symm)).trans (Q_Z9 h9 h11), fun _ h1_ => absurd ((hoff 11 (by kernel_rfl)).symm.trans h1_) (by decide), Q_D8_9, Q_X8_, Q_X9_⟩
      refine steps_cons ?_ ?_
      · rintro b a w' ⟨g7, g8, m8_, m9_, ha, Q_HB, Q_G8, Q_L8, Q_Z8, Q_N10, Q_G9, Q_L9, Q_Z9, Q_N11, Q_D8_9, Q_X8_, Q_X9_⟩ hb_ hon hoff
        refine ⟨_, rfl, fun K hK => ?_⟩
        have e8 : a.tmps[8]? = some (m9_) := by rw [ha]; exact putSel_on (e := (9, 8, m9_)) 9 rfl rfl (hon 9 (by kernel_rfl)) rfl
        rw [Q_X9_ (hon 9 (by kernel_rfl))] at e8
        have e25 : a.tmps[25]? = some (.agg #[.int .u64 r0, .int .u64 r1]) := by rw [ha]; exact putSel_on (e := (7, 25, .agg #[.int .u64 r0, .int .u64 r1])) 7 rfl rfl (hon 7 (by kernel_rfl)) rfl
        replace ha := Aside0.mk ha
        have HB := Aside0.mk Q_HB
        have G8 := Aside0.mk (Q_G8 (hon 8 (by kernel_rfl)))
        have L8 := Aside0.mk (Q_L8 (hon 8 (by kernel_rfl)))
        have N10 := Aside0.mk (Q_N10 (hon 8 (by kernel_rfl)) (hon 10 (by kernel_rfl)))
        have G9 := Aside0.mk (Q_G9 (hon 9 (by kernel_rfl)))
        have L9 := Aside0.mk (Q_L9 (hon 9 (by kernel_rfl)))
        have Z9 := Aside0.mk (Q_Z9 (hon 9 (by kernel_rfl)) hb_)
        have D8_9 := Aside0.mk Q_D8_9
        have hk : Keep w' ((w'.setCell ⟨g8, 0, none⟩ (.int .u64 r0)).setCell ⟨g8, 1, none⟩ (.int .u64 r1)) (fun k => k = g8) := (((Keep.refl w' (fun k => k = g8)).set ⟨g8, 0, none⟩ (.int .u64 r0) (.inl rfl)).set ⟨g8, 1, none⟩ (.int .u64 r1) (.inl rfl))
        have y0 := blk_cell Z9.out 0
        have y1 := blk_cell Z9.out 1
        have z0 := blk_frozen Z9.out 0
        have z1 := blk_frozen Z9.out 1
        refine skip_ (w1 := ((w'.setCell ⟨g8, 0, none⟩ (.int .u64 r0)).setCell ⟨g8, 1, none⟩ (.int .u64 r1))) (by rfl) rfl ?_ ?_
        · go_simp
          try rfl
        refine hK.out _ _ ⟨g7, g8, m8_, m9_, (by rw [ha.out]; exact putSel_none (v := undef) rfl), HB.out.trans (hk.below HB.out.size (fun k e => by have e2 : k = g8 := e; rw [e2]; exact G9.out)), Q_G8, fun h8 => Nat.lt_of_lt_of_le (Q_L8 h8) hk.size, fun _ h1_ => absurd ((hon 10 (by kernel_rfl)).symm.trans h1_) (by decide), fun h8 h10 => (hk.block _ (blk_lt (Q_N10 h8 h10)) (fun e => Q_D8_9 h8 (hon 9 (by kernel_rfl)) e)).trans (Q_N10 h8 h10), Q_G9, fun h9 => Nat.lt_of_lt_of_le (Q_L9 h9) hk.size, fun _ h1_ => absurd ((up_self b 11).symm.trans h1_) (by decide), fun _ _ => (blk_put (blk_put Z9.out 0 (.int .u64 r0) rfl) 1 (.int .u64 r1) rfl), Q_D8_9, Q_X8_, Q_X9_⟩
      exact steps_nil
    · rintro b a w' hall ⟨g7, g8, m8_, m9_, ha, Q_HB, Q_G8, Q_L8, Q_Z8, Q_N10, Q_G9, Q_L9, Q_Z9, Q_N11, Q_D8_9, Q_X8_, Q_X9_⟩
      clear D8_9 HB
      have hb0_ := hall 0 (by kernel_rfl)
      have hb1_ := hall 1 (by kernel_rfl)
      have hb2_ := hall 2 (by kernel_rfl)
      have hb3_ := hall 3 (by kernel_rfl)
      have hb4_ := hall 4 (by kernel_rfl)
      have hb5_ := hall 5 (by kernel_rfl)
      have hb6_ := hall 6 (by kernel_rfl)
      have hb7_ := hall 7 (by kernel_rfl)
      have hb8_ := hall 8 (by kernel_rfl)
      have hb9_ := hall 9 (by kernel_rfl)
      have hb10_ := hall 10 (by kernel_rfl)
      have hb11_ := hall 11 (by kernel_rfl)
      subst ha
      obtain rfl := Q_X8_ hb8_
      obtain rfl := Q_X9_ hb9_
      simp only [putSel, hb0_, hb1_, hb2_, hb3_, hb4_, hb5_, hb6_, hb7_, hb8_, hb9_, hb10_, hb11_, if_true, Act.put, List.setIfInBounds_toArray, List.set_cons_zero, List.set_cons_succ]
      have HB := Aside0.mk Q_HB
      clear Q_HB
      have G8 := Aside0.mk (Q_G8 hb8_)
      clear Q_G8
      have L8 := Aside0.mk (Q_L8 hb8_)
      clear Q_L8
      clear Q_Z8
      have N10 := Aside0.mk (Q_N10 hb8_ hb10_)
      clear Q_N10
      have G9 := Aside0.mk (Q_G9 hb9_)
      clear Q_G9
      have L9 := Aside0.mk (Q_L9 hb9_)
      clear Q_L9
      clear Q_Z9
      have N11 := Aside0.mk (Q_N11 hb9_ hb11_)
      clear Q_N11
      have D8_9 := Aside0.mk Q_D8_9
      clear Q_D8_9
      clear hall hb0_ hb1_ hb2_ hb3_ hb4_ hb5_ hb6_ hb7_ hb8_ hb9_ hb10_ hb11_
      go_wp2_with (fail)
      go_meet
      exact ⟨g7, g8, rfl, rfl, N10, N11, HB⟩
  case rest =>
    obtain ⟨g7, g8, rfl, rfl, M7, M8, HBc⟩ := hcut
    have a0 := blk_cell M7.out 0
    have a1 := blk_cell M7.out 1
    have b0 := blk_cell M8.out 0
    have b1 := blk_cell M8.out 1
    have c0 := blk_cell ((HBc.out.block _ (blk_lt N0.out)).trans N0.out) 0
    have c1 := blk_cell ((HBc.out.block _ (blk_lt N1.out)).trans N1.out) 0
    clear i0 i1
    go_upto_region 8 with (first
      | (go_at_call 46; (with_reducible refine (HQ.out _).mono ?_); rintro e w1 ⟨rfl, hb⟩; have HB1 := Aside0.mk hb; have z8 := (hb.block _ (blk_lt M8.out)).trans M8.out; have x8 := blk_alloc z8 (.cells #[.int .i64 q1, .int .u64 q0] 25 (0, 0)); have x0 := blk_alloc ((hb.block _ (blk_lt ((HBc.out.block _ (blk_lt N0.out)).trans N0.out))).trans ((HBc.out.block _ (blk_lt N0.out)).trans N0.out)) (.cells #[.int .i64 q1, .int .u64 q0] 25 (0, 0)); have y0 := blk_cell x8 0; have y1 := blk_cell x8 1; have y2 := blk_cell x0 0; clear HQ hb z8 x8 x0)
      | (go_at_call 46; (with_reducible refine (HR.out _).mono ?_); rintro e w2 ⟨rfl, hb⟩; have HB2 := Aside0.mk hb; clear HR hb))
    have hb1 := (HBc.out.trans ⟨HB1.out.os, HB1.out.tape, HB1.out.output, HB1.out.size, fun k hk => HB1.out.block k (Nat.lt_of_lt_of_le hk HBc.out.size)⟩)
    have hb2 := hop (hb1.alloc hb1.size (.cells #[.int .i64 q1, .int .u64 q0] 25 (0, 0))) HB2.out
    have hz1 : w.heap.size + 3 < w1.heap.size := Nat.lt_of_lt_of_le (blk_lt N3.out) hb1.size
    have hz2 : w.heap.size + 3 < w2.heap.size := Nat.lt_of_lt_of_le (blk_lt N3.out) hb2.size
    obtain ⟨W9, h9⟩ : ∃ W9, W9 = w2.alloc (.cells #[.int .i64 r1, .int .u64 r0] 25 (0, 0)) := ⟨_, rfl⟩
    have hb3 := hb2.alloc hb2.size (.cells #[.int .i64 r1, .int .u64 r0] 25 (0, 0))
    have m9 := (blk_alloc ((HB2.out.block _ (by simp)).trans (heap_alloc_new w1 (.cells #[.int .i64 q1, .int .u64 q0] 25 (0, 0)))) (.cells #[.int .i64 r1, .int .u64 r0] 25 (0, 0)))
    have m11 := heap_alloc_new w2 (.cells #[.int .i64 r1, .int .u64 r0] 25 (0, 0))
    rw [← h9] at hb3 m9 m11 ⊢
    have m2 := (hb3.block _ (blk_lt N2.out)).trans N2.out
    have m3 := (hb3.block _ (blk_lt N3.out)).trans N3.out
    have l0 := blk_cell m9 0
    have l1 := blk_cell m9 1
    have l2 := blk_cell m11 0
    have l3 := blk_cell m11 1
    have s0_ := blk_cell m2 0
    have s1_ := blk_cell m2 1
    have s2_ := blk_cell m3 0
    have s3_ := blk_cell m3 1
    have t0_ := blk_frozen m2 0
    have t1_ := blk_frozen m2 1
    have t2_ := blk_frozen m3 0
    have t3_ := blk_frozen m3 1
    have HB3 := Aside0.mk hb3
    have hsz : w.heap.size + 3 < W9.heap.size := blk_lt m3
    clear hb1 hb2 hb3 m9 m11 m2 m3 h9 y0 y1 y2 a0 a1 b0 b1 c0 c1
    go_region
    all_goals
      go_wp2_with (fail)
      rw [HYA.out]
      refine bodyPost_ret (v := .tuple #[.agg #[.int .i64 q1, .int .u64 q0], .agg #[.int .i64 r1, .int .u64 r0], .int .i64 0]) (by simp [results, Try.results17, go_sem, s0_, s1_, s2_, s3_, t0_, t1_, t2_, t3_, hsz]) rfl ⟨rfl, ?_⟩
      exact below_drew (((((hop NB.out HB3.out).setCell (Nat.le_add_right _ 2) _).setCell (Nat.le_add_right _ 2) _).setCell (Nat.le_add_right _ 3) _).setCell (Nat.le_add_right _ 3) _)
end Go.Proofs.Ythnihjfdmkfkiaa.Q

namespace Go.Proofs.Ythnihjfdmkfkiaa.Q
open Go.RowKit Go.Proofs.YthnihjfdmkfkiaaW.PrintWords Go.Proofs.YthnihjfdmkfkiaaW.PrintLast Go.Proofs.YthnihjfdmkfkiaaW.PrintMore Go.Proofs.YthnihjfdmkfkiaaV
set_option linter.unusedVariables false
set_option linter.unusedSimpArgs false

theorem wide_Of {z : Int} (w : World) (hz : in64 z) :
    Calls Try.prog 15 #[.int .i64 z] w fun q w' => q = .returned (WV z) ∧ Below w.heap.size w w' := by
  unfold in64 at hz
  unfold WV
  have HA := Aside0.mk (show hiW z = z / 9223372036854775808 by unfold hiW; omega)
  have HL := Aside0.mk (show loW z = IntKind.u64.wrap z by rw [u64w]; rfl)
  clear hz
  go_enter Try.func15, Try.ntmps15
  go_wp2
  rw [HA.out, HL.out]
  refine bodyPost_ret (v := .agg #[.int .i64 (z / 9223372036854775808), .int .u64 (IntKind.u64.wrap z)]) (by simp [results, Try.results15, go_sem]) rfl ⟨rfl, ?_⟩
  exact (Below.refl _ _).alloc (Nat.le_refl _) _
def sml2.T : Bool × List (List Nat × List Nat) := (true, [([], []), ([0], [0]), ([], []), ([1, 2], [1, 2])])
def sml2.B : List Nat := [0, 1, 0, 7]
theorem sml2.tab : rtab .any (opsOf Try.f32 2) = sml2.T := by kernel_rfl
theorem sml2.bits : waitsOk sml2.T.2 sml2.B = true := by kernel_rfl
set_option maxHeartbeats 1600000 in
theorem wide_Small {z : Int} (w : World) (hz : in64 z) :
    Calls Try.prog 32 #[WV z] w fun q w' => q = .returned (.tuple #[.int .i64 z, .bool true]) ∧ Below w.heap.size w w' := by
  have HO := Aside0.mk (fun W => wide_Of W hz)
  unfold WV at HO ⊢
  have hw : wrap64 (loW z) = z := by unfold in64 at hz; unfold loW wrap64; omega
  obtain ⟨za, hza⟩ : ∃ a, a = hiW z := ⟨_, rfl⟩
  obtain ⟨zb, hzb⟩ : ∃ a, a = loW z := ⟨_, rfl⟩
  rw [← hza, ← hzb] at HO ⊢
  rw [← hzb] at hw
  have HO := Aside0.mk (fun W => (show Calls Try.prog 15 #[.int .i64 (wrap64 zb)] W _ by rw [hw]; exact HO.out W))
  have RES := Aside0.mk hw
  clear hw
  obtain ⟨W, hW⟩ : ∃ W, W = w.alloc (.cells #[.int .i64 za, .int .u64 zb] 25 (0, 0)) := ⟨_, rfl⟩
  have n0 : W.heap[w.heap.size]? = some (.cells #[.int .i64 za, .int .u64 zb] 25 (0, 0)) := by rw [hW]; exact heap_alloc_new _ _
  have NB := Aside0.mk (show Below w.heap.size w W by rw [hW]; exact below_alloc (Below.refl _ _) _)
  have HW := Aside0.mk hW
  have N0 := Aside0.mk n0
  have c1 := blk_cell n0 1
  clear hza hzb hW n0 hz
  go_enter Try.func32, Try.ntmps32
  go_upto_region 1 with (fail)
  rw [← HW.out]
  go_upto_region 2 with (fail)
  have HB := Aside0.mk (show Below W.heap.size W W.drew from (Below.refl _ _).drew)
  refine start_ (n := 4) (S := fun w' => True) (ds := []) #[false, false, false, false] (by kernel_rfl) rfl rfl trivial (fun hHeld => ?_)
  refine with_tabW sml2.tab sml2.bits (fun HT_ HW_ => ?_)
  refine inv_at [0, 1, 2, 3] (fun a0_ b a w' => a = putSel a0_ b [(0, 8, .int .i64 (wrap64 zb)), (1, 9, .agg #[.int .i64 za, .int .u64 zb]), (2, 10, .agg #[.int .i64 za, .int .u64 zb]), (3, 11, .bool false)] ∧ (Below W.heap.size W w')) HT_.out HW_.out (by kernel_rfl) (by kernel_rfl) ?_ ?_ ?_
  · exact ⟨by simp only [putSel, Bool.false_eq_true, if_false], HB.out⟩
  · skip
    clear HB
    refine steps_cons ?_ ?_
    · rintro b a w' ⟨ha, Q_HB⟩ hb_ hon hoff
      refine ⟨_, rfl, fun K hK => ?_⟩
      have e4 : a.tmps[4]? = some (.int .i64 (wrap64 zb)) := by rw [ha]; exact (putSel_off rfl).trans rfl
      replace ha := Aside0.mk ha
      have HB := Aside0.mk Q_HB
      refine value_ (w1 := w') (v := .int .i64 (wrap64 zb)) (by rfl) rfl ?_ ?_
      · go_simp
        (try simp only [i64_w])
        try rfl
      refine hK.out _ _ ⟨(by rw [ha.out]; exact putSel_upk 0 hb_ rfl rfl rfl), Q_HB⟩
    refine steps_cons ?_ ?_
    · rintro b a w' ⟨ha, Q_HB⟩ hb_ hon hoff
      refine ⟨_, rfl, fun K hK => ?_⟩
      have e8 : a.tmps[8]? = some (.int .i64 (wrap64 zb)) := by rw [ha]; exact putSel_on (e := (0, 8, .int .i64 (wrap64 zb))) 0 rfl rfl (hon 0 (by kernel_rfl)) rfl
      replace ha := Aside0.mk ha
      have HB := Aside0.mk Q_HB
      refine goes_ Try.func15 (by kernel_rfl) rfl #[.int .i64 (wrap64 zb)] (by rfl) rfl rfl (by first | (simp only [List.map_toArray, List.map_cons, List.map_nil, Act.eval, Array.getD_eq_getD_getElem?, Option.getD_some, e8]; done) | (simp only [List.map_toArray, List.map_cons, List.map_nil, Act.eval, Array.getD_eq_getD_getElem?, Option.getD_some, e8]; rfl)) ?_
      with_reducible refine (HO.out _).mono ?_
      rintro e w1 ⟨rfl, hb⟩
      refine ⟨_, rfl, ?_⟩
      refine hK.out _ _ ⟨(by rw [ha.out]; exact putSel_upk 1 hb_ rfl rfl rfl), hop HB.out hb⟩
    refine steps_cons ?_ ?_
    · rintro b a w' ⟨ha, Q_HB⟩ hb_ hon hoff
      refine ⟨_, rfl, fun K hK => ?_⟩
      have e1 : a.tmps[1]? = some (.pointer (some ⟨w.heap.size, 0, none⟩)) := by rw [ha]; exact (putSel_off rfl).trans rfl
      replace ha := Aside0.mk ha
      have HB := Aside0.mk Q_HB
      have k0 := blk_cell ((HB.out.block _ (blk_lt N0.out)).trans N0.out) 0
      have k1 := blk_cell ((HB.out.block _ (blk_lt N0.out)).trans N0.out) 1
      refine value_ (w1 := w') (v := .agg #[.int .i64 za, .int .u64 zb]) (by rfl) rfl ?_ ?_
      · go_simp
        (try simp only [i64_w])
        try rfl
      refine hK.out _ _ ⟨(by rw [ha.out]; exact putSel_upk 2 hb_ rfl rfl rfl), Q_HB⟩
    refine steps_cons ?_ ?_
    · rintro b a w' ⟨ha, Q_HB⟩ hb_ hon hoff
      refine ⟨_, rfl, fun K hK => ?_⟩
      have e9 : a.tmps[9]? = some (.agg #[.int .i64 za, .int .u64 zb]) := by rw [ha]; exact putSel_on (e := (1, 9, .agg #[.int .i64 za, .int .u64 zb])) 1 rfl rfl (hon 1 (by kernel_rfl)) rfl
      have e10 : a.tmps[10]? = some (.agg #[.int .i64 za, .int .u64 zb]) := by rw [ha]; exact putSel_on (e := (2, 10, .agg #[.int .i64 za, .int .u64 zb])) 2 rfl rfl (hon 2 (by kernel_rfl)) rfl
      replace ha := Aside0.mk ha
      have HB := Aside0.mk Q_HB
      refine value_ (w1 := w') (v := .bool false) (by rfl) rfl ?_ ?_
      · go_simp
        (try simp only [i64_w])
        try rfl
      refine hK.out _ _ ⟨(by rw [ha.out]; exact putSel_upk 3 hb_ rfl rfl rfl), Q_HB⟩
    exact steps_nil
  · rintro b a w' hall ⟨ha, Q_HB⟩
    clear HB
    have hb0_ := hall 0 (by kernel_rfl)
    have hb1_ := hall 1 (by kernel_rfl)
    have hb2_ := hall 2 (by kernel_rfl)
    have hb3_ := hall 3 (by kernel_rfl)
    subst ha
    simp only [putSel, hb0_, hb1_, hb2_, hb3_, if_true, Act.put, List.setIfInBounds_toArray, List.set_cons_zero, List.set_cons_succ]
    have HB := Aside0.mk Q_HB
    clear Q_HB
    clear hall hb0_ hb1_ hb2_ hb3_
    go_wp2_with (fail)
    go_ret2
    exact ⟨by rw [RES.out]; rfl, hop NB.out HB.out⟩
/-- The square root, cut. -/
def isqN : Nat → Nat
  | 0 => 0
  | n + 1 => if (isqN n + 1) * (isqN n + 1) ≤ n + 1 then isqN n + 1 else isqN n
def isq (v : Int) : Int := ((isqN v.toNat : Nat) : Int)
theorem isqN_spec (n : Nat) : isqN n * isqN n ≤ n ∧ n < (isqN n + 1) * (isqN n + 1) := by
  induction n with
  | zero => exact ⟨Nat.le_refl _, by decide⟩
  | succ n ih =>
    unfold isqN
    split
    · rename_i h
      refine ⟨h, ?_⟩
      have : (isqN n + 1) * (isqN n + 1) < (isqN n + 1 + 1) * (isqN n + 1 + 1) := Nat.mul_self_lt_mul_self (by omega)
      omega
    · rename_i h
      exact ⟨by omega, by omega⟩
theorem root_ex {v : Int} (hv : 0 ≤ v) : 0 ≤ isq v ∧ isq v * isq v ≤ v ∧ v < (isq v + 1) * (isq v + 1) := by
  obtain ⟨h1, h2⟩ := isqN_spec v.toNat
  unfold isq
  generalize isqN v.toNat = r at h1 h2
  have e1 : ((r * r : Nat) : Int) = (r : Int) * (r : Int) := by simp
  have e3 : (((r + 1) * (r + 1) : Nat) : Int) = ((r : Int) + 1) * ((r : Int) + 1) := by simp
  exact ⟨Int.natCast_nonneg r, by rw [← e1]; omega, by rw [← e3]; omega⟩
theorem sq_mono {a b : Int} (h0 : 0 ≤ a) (h : a ≤ b) : a * a ≤ b * b := Int.mul_le_mul h h h0 (by omega)
theorem isq_eq {v r : Int} (h0 : 0 ≤ r) (h1 : r * r ≤ v) (h2 : v < (r + 1) * (r + 1)) : isq v = r := by
  obtain ⟨a0, a1, a2⟩ := root_ex (v := v) (by have := Int.mul_nonneg h0 h0; omega)
  generalize isq v = q at a0 a1 a2
  by_cases hlt : q < r
  · have := sq_mono (a := q + 1) (b := r) (by omega) (by omega)
    omega
  · by_cases hgt : r < q
    · have := sq_mono (a := r + 1) (b := q) (by omega) (by omega)
      omega
    · omega
/-- What is known of the root with k bits to go. -/
def RtI (v : Int) (k : Nat) (r : Int) : Prop := 0 ≤ r ∧ r * r ≤ v ∧ v < (r + 2 ^ k) * (r + 2 ^ k) ∧ r % 2 ^ k = 0 ∧ r + 2 ^ k ≤ 18446744073709551616
theorem rt_step {v r : Int} {k : Nat} (h : RtI v (k + 1) r) (hk : k ≤ 63) : bits .or .u64 r (2 ^ k) = r + 2 ^ k ∧ r + 2 ^ k ≤ 18446744073709551615 ∧ ((r + 2 ^ k) * (r + 2 ^ k) ≤ v → RtI v k (r + 2 ^ k)) ∧ (¬ (r + 2 ^ k) * (r + 2 ^ k) ≤ v → RtI v k r) := by
  obtain ⟨a, b, c, d, e⟩ := h
  have hp := pow2_pos k
  have e2 : (2 : Int) ^ (k + 1) = 2 * 2 ^ k := by rw [Int.pow_succ, Int.mul_comm]
  have hr : r < 18446744073709551616 := by have := pow2_pos (k + 1); omega
  have h1 := orp r k a hr d hk
  have hm : r % 2 ^ k = 0 := by
    have : (2 : Int) ^ k ∣ r := Int.dvd_trans ⟨2, by rw [e2, Int.mul_comm]⟩ (Int.dvd_of_emod_eq_zero d)
    exact Int.emod_eq_zero_of_dvd this
  have hm2 : (r + 2 ^ k) % 2 ^ k = 0 := by rw [Int.add_emod_right, hm]
  rw [e2] at c e
  refine ⟨h1, by omega, fun h => ⟨by omega, h, ?_, hm2, by omega⟩, fun h => ⟨a, b, by omega, hm, by omega⟩⟩
  rw [show r + 2 ^ k + 2 ^ k = r + 2 * 2 ^ k by omega]
  exact c
theorem rt_test {x va vb : Int} (h0 : 0 ≤ x) (h1 : 0 ≤ va) (h2 : 0 ≤ vb) (h3 : vb ≤ 18446744073709551615) : x ≤ va * 18446744073709551616 + vb ↔ (x / 18446744073709551616 < va ∨ (x / 18446744073709551616 = va ∧ x % 18446744073709551616 ≤ vb)) := by omega
set_option maxHeartbeats 1600000 in
theorem wide_Root {v : Int} (w : World) (hv : 0 ≤ v ∧ v ≤ 170141183460469231731687303715884105727) :
    Calls Try.prog 31 #[WV v] w fun q w' => q = .returned (.tuple #[WV (isq v), .int .i64 0]) ∧ Below w.heap.size w w' := by
  unfold WV
  obtain ⟨ra, hra⟩ : ∃ a, a = hiW (isq v) := ⟨_, rfl⟩
  obtain ⟨rb, hrb⟩ : ∃ a, a = loW (isq v) := ⟨_, rfl⟩
  rw [← hra, ← hrb]
  have RES := Aside0.mk (And.intro hra hrb)
  obtain ⟨va, hva⟩ : ∃ a, a = hiW v := ⟨_, rfl⟩
  obtain ⟨vb, hvb⟩ : ∃ a, a = loW v := ⟨_, rfl⟩
  rw [← hva, ← hvb]
  have g0 : 0 ≤ va ∧ va ≤ 9223372036854775807 := by rw [hva]; unfold hiW; omega
  have g1 : 0 ≤ vb ∧ vb ≤ 18446744073709551615 := by rw [hvb]; exact lo_rng v
  have EV := Aside0.mk (show v = va * 18446744073709551616 + vb by rw [hva, hvb]; unfold hiW loW; omega)
  have HI := Aside0.mk (show RtI v 64 0 by
    have : (2 : Int) ^ 64 = 18446744073709551616 := by decide
    refine ⟨by omega, by omega, ?_, by simp, by omega⟩
    rw [this]; omega)
  have GV := Aside0.mk (And.intro g0 g1)
  have d0 : decide (va < 0) = false := decide_eq_false (by omega)
  have wv : IntKind.u64.wrap va = va := by rw [u64w]; omega
  obtain ⟨W, hW⟩ : ∃ W, W = (w.alloc (.cells #[.int .i64 va, .int .u64 vb] 25 (0, 0))).alloc (.cells #[.int .i64 0, .int .u64 0] 25 (0, 0)) := ⟨_, rfl⟩
  have n0 : W.heap[w.heap.size]? = some (.cells #[.int .i64 va, .int .u64 vb] 25 (0, 0)) := by rw [hW]; exact blk_alloc (heap_alloc_new _ _) _
  have n1 : W.heap[w.heap.size + 1]? = some (.cells #[.int .i64 0, .int .u64 0] 25 (0, 0)) := by rw [hW]; exact heap_alloc2_new _ _ _
  have NB := Aside0.mk (show Below w.heap.size w W by rw [hW]; exact below_alloc (below_alloc (Below.refl _ _) _) _)
  have HW := Aside0.mk hW
  have c0 := blk_cell n0 0
  have c1 := blk_cell n0 1
  have c2 := blk_cell n1 0
  have c3 := blk_cell n1 1
  have f2 := blk_frozen n1 0
  have f3 := blk_frozen n1 1
  have hsz : w.heap.size + 1 < W.heap.size := blk_lt n1
  clear hra hrb hva hvb hW n0 n1 hv g0 g1
  go_enter Try.func31, Try.ntmps31
  go_upto_region 1 with (fail)
  rw [← HW.out]
  go_wp2_with (fail)
  go_loopg [4, 5] 64 (fun kq v4 v5 w' => ∃ r i : Int, v4 = .int .u64 r ∧ v5 = .int .i64 i ∧ Aside0 (i = kq - 1) ∧ Aside0 (kq ≤ 64) ∧ Aside0 (RtI v kq r) ∧ w' = W)
  case atStart => exact ⟨0, 63, rfl, rfl, ⟨rfl⟩, ⟨by omega⟩, HI, rfl⟩
  case round =>
    clear HI
    obtain ⟨r, i, rfl, rfl, HK, HL, HI, rfl⟩ := hrel
    cases gk with
    | zero =>
      obtain rfl : i = -1 := HK.out
      have hi := HI.out
      obtain ⟨a, b, c, -, d⟩ := hi
      rw [Int.pow_zero] at c d
      have HE := isq_eq a b c
      have E1 := Aside0.mk (show ra = 0 by rw [RES.out.1, HE]; unfold hiW; omega)
      have E2 := Aside0.mk (show rb = r by rw [RES.out.2, HE]; unfold loW; omega)
      clear a b c d HE
      go_wp2_with (fail)
      rw [E1.out, E2.out]
      refine bodyPost_ret (v := .tuple #[.agg #[.int .i64 0, .int .u64 r], .int .i64 0]) (by simp [results, Try.results31, go_sem, c2, c3, f2, f3, hsz]) rfl ⟨rfl, ?_⟩
      exact (NB.out.setCell (Nat.le_add_right _ 1) _).setCell (Nat.le_add_right _ 1) _
    | succ k1 =>
      have hik : i = k1 := by have := HK.out; omega
      have hk1 : k1 ≤ 63 := by have := HL.out; omega
      have hi0 : 0 ≤ i := by omega
      have hi1 : i ≤ 63 := by omega
      obtain ⟨s1, s2, s3, s4⟩ := rt_step HI.out hk1
      have r0 : 0 ≤ r := HI.out.1
      have hp := pow2_pos k1
      have hp63 := pow_63 hk1
      have HIK := Aside0.mk hik
      subst hik
      have e3 : IntKind.u64.wrap (k1 : Int) = (k1 : Int) := by rw [u64w]; omega
      have hmin : min k1 64 = k1 := by omega
      obtain ⟨x, hx⟩ : ∃ x, x = r + 2 ^ k1 := ⟨_, rfl⟩
      rw [← hx] at s1 s2 s3 s4
      have x0 : 0 ≤ x := by omega
      obtain ⟨pj, hpj⟩ : ∃ x, x = (2 : Int) ^ k1 := ⟨_, rfl⟩
      have eshl : IntKind.u64.wrap (2 ^ min k1 64) = pj := by rw [hmin, ← hpj, u64w]; rw [← hpj] at hp hp63; omega
      have eshl2 : IntKind.u64.wrap (2 ^ k1) = pj := by rw [← hpj, u64w]; rw [← hpj] at hp hp63; omega
      rw [← hpj] at s1
      have hM := Aside0.mk (bits_Mul64 x x · x0 (by omega) x0 (by omega))
      obtain ⟨X, hX⟩ : ∃ X, X = x * x := ⟨_, rfl⟩
      rw [← hX] at hM s3 s4
      have X0 : 0 ≤ X := by rw [hX]; exact Int.mul_nonneg x0 x0
      have tst := rt_test (x := X) X0 GV.out.1.1 GV.out.2.1 GV.out.2.2
      rw [← EV.out] at tst
      obtain ⟨xh, hxh⟩ : ∃ a, a = X / 18446744073709551616 := ⟨_, rfl⟩
      obtain ⟨xl, hxl⟩ : ∃ a, a = X % 18446744073709551616 := ⟨_, rfl⟩
      rw [← hxh, ← hxl] at hM tst
      have TST := Aside0.mk tst
      have S3 := Aside0.mk s3
      have S4 := Aside0.mk s4
      clear s2 s3 s4 r0 hp hp63 hx x0 hpj hX X0 tst hxh hxl hmin hk1
      by_cases q1 : xh < va
      · have t1 : decide (xh < va) = true := decide_eq_true q1
        have HG := Aside0.mk (S3.out (TST.out.2 (.inl q1)))
        clear q1
        go_wp2_with (first
          | (go_at_call 52; (with_reducible refine (hM.out _).mono ?_); rintro e w1 ⟨rfl, rfl⟩))
        go_roundg k1
        case rel => exact ⟨x, (k1 : Int) - 1, rfl, rfl, ⟨rfl⟩, ⟨by have := HL.out; omega⟩, HG, rfl⟩
        case measure => omega
      · have t1 : decide (xh < va) = false := decide_eq_false q1
        by_cases q2 : xh = va
        · have t2 : (xh == va) = true := beq_iff_eq.mpr q2
          by_cases q3 : xl ≤ vb
          · have t3 : decide (xl ≤ vb) = true := decide_eq_true q3
            have HG := Aside0.mk (S3.out (TST.out.2 (.inr ⟨q2, q3⟩)))
            clear q1 q2 q3
            go_wp2_with (first
              | (go_at_call 52; (with_reducible refine (hM.out _).mono ?_); rintro e w1 ⟨rfl, rfl⟩))
            go_roundg k1
            case rel => exact ⟨x, (k1 : Int) - 1, rfl, rfl, ⟨rfl⟩, ⟨by have := HL.out; omega⟩, HG, rfl⟩
            case measure => omega
          · have t3 : decide (xl ≤ vb) = false := decide_eq_false q3
            have HG := Aside0.mk (S4.out (fun h => by rcases TST.out.1 h with z | z; exact q1 z; exact q3 z.2))
            clear q1 q2 q3
            go_wp2_with (first
              | (go_at_call 52; (with_reducible refine (hM.out _).mono ?_); rintro e w1 ⟨rfl, rfl⟩))
            go_roundg k1
            case rel => exact ⟨r, (k1 : Int) - 1, rfl, rfl, ⟨rfl⟩, ⟨by have := HL.out; omega⟩, HG, rfl⟩
            case measure => omega
        · have t2 : (xh == va) = false := beq_eq_false_iff_ne.mpr q2
          have HG := Aside0.mk (S4.out (fun h => by rcases TST.out.1 h with z | z; exact q1 z; exact q2 z.1))
          clear q1 q2
          go_wp2_with (first
            | (go_at_call 52; (with_reducible refine (hM.out _).mono ?_); rintro e w1 ⟨rfl, rfl⟩))
          go_roundg k1
          case rel => exact ⟨r, (k1 : Int) - 1, rfl, rfl, ⟨rfl⟩, ⟨by have := HL.out; omega⟩, HG, rfl⟩
          case measure => omega
end Go.Proofs.Ythnihjfdmkfkiaa.Q
