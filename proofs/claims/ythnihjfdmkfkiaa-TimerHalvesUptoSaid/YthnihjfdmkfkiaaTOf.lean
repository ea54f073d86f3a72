import Derived.Test.YthnihjfdmkfkiaaTBins
import Derived.StillTailTactics
namespace Go.Proofs.Ythnihjfdmkfkiaa.Q
open Go.RowKit Go.Proofs.YthnihjfdmkfkiaaW.PrintWords Go.Proofs.YthnihjfdmkfkiaaW.PrintLast Go.Proofs.YthnihjfdmkfkiaaW.PrintMore Go.Proofs.YthnihjfdmkfkiaaV
set_option linter.unusedVariables false
set_option linter.unusedSimpArgs false

/-- The squares of what is off the mean. -/
def sqP (m : Int) (l : List Int) : Int := (l.map (fun v => (v - m) * (v - m))).sum
def meanP (l : List Int) : Int := l.sum / l.length
def devP (l : List Int) : Int := isq (sqP (meanP l) l / l.length)
def medP (l : List Int) : Int := (rd l ((l.length - 1) / 2 : Nat) + rd l (l.length / 2 : Nat)) / 2
/-- What is told of samples by rising numbers. -/
def statA (s : List Int) : Array Value := #[.int .i64 s.length, .int .i64 (hiW s.sum), .int .u64 (loW s.sum), .int .i64 (rd s 0), .int .i64 (rd s (s.length - 1 : Nat)), .int .i64 (meanP s), .int .i64 (medP s), .int .i64 (devP s)]
theorem mean_rng {l : List Int} (h : ∀ x ∈ l, smp x) (h0 : 1 ≤ l.length) : 0 ≤ meanP l ∧ meanP l ≤ 100000000000000 := by
  have hsr := sum_smp h
  unfold meanP
  exact ⟨Int.ediv_nonneg hsr.1 (by omega), by
    have := Int.ediv_le_ediv (c := (l.length : Int)) (by omega) hsr.2
    rw [Int.mul_comm, Int.mul_ediv_cancel _ (by omega)] at this
    exact this⟩
theorem sq_rng {d : Int} (h0 : -100000000000000 ≤ d) (h1 : d ≤ 100000000000000) : 0 ≤ d * d ∧ d * d ≤ 10000000000000000000000000000 := by
  have h : ((d.natAbs : Int) * (d.natAbs : Int)) = d * d := Int.natAbs_mul_self
  rw [← h]
  refine ⟨Int.mul_nonneg (by omega) (by omega), ?_⟩
  have := Int.mul_le_mul (show (d.natAbs : Int) ≤ 100000000000000 by omega) (show (d.natAbs : Int) ≤ 100000000000000 by omega) (by omega) (by omega)
  omega
theorem sqs_rng {l : List Int} {m : Int} (h : ∀ x ∈ l, smp x) (hm : 0 ≤ m ∧ m ≤ 100000000000000) : 0 ≤ sqP m l ∧ sqP m l ≤ l.length * 10000000000000000000000000000 := by
  unfold sqP
  induction l with
  | nil => simp
  | cons x t ih =>
    have h1 := h x (by simp)
    have h2 := ih (fun y hy => h y (by simp [hy]))
    unfold smp at h1
    have h3 := sq_rng (d := x - m) (by omega) (by omega)
    simp only [List.map_cons, List.sum_cons, List.length_cons]
    omega
theorem sq_snoc {l : List Int} {m : Int} {i : Nat} (h : i < l.length) : sqP m (l.take (i + 1)) = sqP m (l.take i) + (l[i] - m) * (l[i] - m) := by
  unfold sqP
  rw [List.take_succ_eq_append_getElem h, List.map_append, List.sum_append]
  simp
theorem smp_sort {l : List Int} (h : ∀ x ∈ l, smp x) : ∀ x ∈ sortP l, smp x := fun x hx => h x ((sortP_perm l).mem_iff.1 hx)
theorem sort_len (l : List Int) : (sortP l).length = l.length := (sortP_perm l).length_eq
theorem rd_smp {l : List Int} (h : ∀ x ∈ l, smp x) {i : Nat} (hi : i < l.length) : smp (rd l (i : Nat)) := by
  unfold rd
  rw [Int.toNat_natCast, List.getD_eq_getElem?_getD, List.getElem?_eq_getElem hi]
  exact h _ (List.getElem_mem hi)
theorem isq_le {v b : Int} (hv : 0 ≤ v) (hb : 0 ≤ b) (h : v ≤ b * b) : isq v ≤ b := by
  obtain ⟨h0, h1, h2⟩ := root_ex hv
  by_cases hh : isq v ≤ b
  · exact hh
  · have := sq_mono (a := b + 1) (b := isq v) (by omega) (by omega)
    have e : (b + 1) * (b + 1) = b * b + 2 * b + 1 := by grind
    omega
theorem of_not {w : World} {A : Option Addr} {c : Nat} {l : List Int} (h : Kd.C (Kd.int .i64) w A l.length l) (hl : l.length ≤ 1048576) (hs : ¬ ∀ x ∈ l, smp x) :
    Calls Try.prog 12 #[.slice A l.length c] w fun e w' => e = .returned (.tuple #[.agg #[.int .i64 0, .int .i64 0, .int .u64 0, .int .i64 0, .int .i64 0, .int .i64 0, .int .i64 0, .int .i64 0], .int .i64 93]) ∧ Below w.heap.size w w' := by
  obtain ⟨W, hW⟩ : ∃ W, W = w.alloc (.cells #[.int .i64 0, .int .i64 0, .int .u64 0, .int .i64 0, .int .i64 0, .int .i64 0, .int .i64 0, .int .i64 0] 27 (0, 0)) := ⟨_, rfl⟩
  have n0 : W.heap[w.heap.size]? = some (.cells #[.int .i64 0, .int .i64 0, .int .u64 0, .int .i64 0, .int .i64 0, .int .i64 0, .int .i64 0, .int .i64 0] 27 (0, 0)) := by rw [hW]; exact heap_alloc_new _ _
  have nb : Below w.heap.size w W := by rw [hW]; exact below_alloc (Below.refl _ _) _
  have HN := Aside0.mk (sorted_not (c := c) (Kd.C_below h nb) hl hs)
  have HW := Aside0.mk hW
  have NB := Aside0.mk nb
  have N0 := Aside0.mk n0
  have c0 := blk_cell n0 0
  have c1 := blk_cell n0 1
  have c2 := blk_cell n0 2
  have c3 := blk_cell n0 3
  have c4 := blk_cell n0 4
  have c5 := blk_cell n0 5
  have c6 := blk_cell n0 6
  have c7 := blk_cell n0 7
  have f0 := blk_frozen n0 0
  have f1 := blk_frozen n0 1
  have f2 := blk_frozen n0 2
  have f3 := blk_frozen n0 3
  have f4 := blk_frozen n0 4
  have f5 := blk_frozen n0 5
  have f6 := blk_frozen n0 6
  have f7 := blk_frozen n0 7
  clear h hs hW n0 nb
  go_enter Try.func12, Try.ntmps12
  go_upto_region 1 with (fail)
  rw [← HW.out]
  go_wp2_with (first | (go_at_call 29; (with_reducible refine (HN.out).mono ?_); rintro e w1 ⟨rfl, rfl⟩))
  have hf := blk_put (blk_put (blk_put (blk_put (blk_put (blk_put (blk_put (blk_put N0.out 0 (.int .i64 0) rfl) 1 (.int .i64 0) rfl) 2 (.int .u64 0) rfl) 3 (.int .i64 0) rfl) 4 (.int .i64 0) rfl) 5 (.int .i64 0) rfl) 6 (.int .i64 0) rfl) 7 (.int .i64 0) rfl
  refine bodyPost_ret (results_ct rfl _ _ w.heap.size 27 _ (0, 0) _ rfl hf Try.underlying27 rfl (by kernel_rfl)) rfl ?_
  exact ⟨rfl, (((((((NB.out.setCell (Nat.le_refl _) _).setCell (Nat.le_refl _) _).setCell (Nat.le_refl _) _).setCell (Nat.le_refl _) _).setCell (Nat.le_refl _) _).setCell (Nat.le_refl _) _).setCell (Nat.le_refl _) _).setCell (Nat.le_refl _) _⟩
theorem of_nil (HM : MergeOk) {w : World} {A : Option Addr} {c : Nat} (h : Kd.C (Kd.int .i64) w A 0 []) (hc : 0 ≤ c) :
    Calls Try.prog 12 #[.slice A 0 c] w fun e w' => e = .returned (.tuple #[.agg #[.int .i64 0, .int .i64 0, .int .u64 0, .int .i64 0, .int .i64 0, .int .i64 0, .int .i64 0, .int .i64 0], .int .i64 90]) ∧ Below w.heap.size w w' := by
  obtain ⟨W, hW⟩ : ∃ W, W = w.alloc (.cells #[.int .i64 0, .int .i64 0, .int .u64 0, .int .i64 0, .int .i64 0, .int .i64 0, .int .i64 0, .int .i64 0] 27 (0, 0)) := ⟨_, rfl⟩
  have n0 : W.heap[w.heap.size]? = some (.cells #[.int .i64 0, .int .i64 0, .int .u64 0, .int .i64 0, .int .i64 0, .int .i64 0, .int .i64 0, .int .i64 0] 27 (0, 0)) := by rw [hW]; exact heap_alloc_new _ _
  have nb : Below w.heap.size w W := by rw [hW]; exact below_alloc (Below.refl _ _) _
  have HN := Aside0.mk (timer_sorted HM (V_in (l := []) (Kd.C_below h nb) hc) (by simp) (by simp))
  have HW := Aside0.mk hW
  have NB := Aside0.mk nb
  have N0 := Aside0.mk n0
  have c0 := blk_cell n0 0
  have c1 := blk_cell n0 1
  have c2 := blk_cell n0 2
  have c3 := blk_cell n0 3
  have c4 := blk_cell n0 4
  have c5 := blk_cell n0 5
  have c6 := blk_cell n0 6
  have c7 := blk_cell n0 7
  have f0 := blk_frozen n0 0
  have f1 := blk_frozen n0 1
  have f2 := blk_frozen n0 2
  have f3 := blk_frozen n0 3
  have f4 := blk_frozen n0 4
  have f5 := blk_frozen n0 5
  have f6 := blk_frozen n0 6
  have f7 := blk_frozen n0 7
  have es : sortP [] = [] := List.mergeSort_nil
  rw [es, List.length_nil] at HN
  clear h hc hW n0 nb es HM c0 c1 c2 c3 c4 c5 c6 c7 f0 f1 f2 f3 f4 f5 f6 f7
  go_enter Try.func12, Try.ntmps12
  go_upto_region 1 with (fail)
  rw [← HW.out]
  go_wp2_with (first | (go_at_call 29; (with_reducible refine (HN.out).mono ?_); rintro e w1 ⟨v, rfl, hv, hb⟩; obtain ⟨A1, c1, ev⟩ := Kd.V_slice hv; rw [List.length_nil] at ev; subst ev; have n1 := (hb.block _ (blk_lt N0.out)).trans N0.out; have N1 := Aside0.mk n1; have HB1 := Aside0.mk (NB.out.trans ⟨hb.os, hb.tape, hb.output, hb.size, fun k hk => hb.block k (Nat.lt_of_lt_of_le hk NB.out.size)⟩); have c0 := blk_cell n1 0; have c1_ := blk_cell n1 1; have c2 := blk_cell n1 2; have c3 := blk_cell n1 3; have c4 := blk_cell n1 4; have c5 := blk_cell n1 5; have c6 := blk_cell n1 6; have c7 := blk_cell n1 7; have f0 := blk_frozen n1 0; have f1 := blk_frozen n1 1; have f2 := blk_frozen n1 2; have f3 := blk_frozen n1 3; have f4 := blk_frozen n1 4; have f5 := blk_frozen n1 5; have f6 := blk_frozen n1 6; have f7 := blk_frozen n1 7; clear hv hb n1))
  have hf := blk_put (blk_put (blk_put (blk_put (blk_put (blk_put (blk_put (blk_put N1.out 0 (.int .i64 0) rfl) 1 (.int .i64 0) rfl) 2 (.int .u64 0) rfl) 3 (.int .i64 0) rfl) 4 (.int .i64 0) rfl) 5 (.int .i64 0) rfl) 6 (.int .i64 0) rfl) 7 (.int .i64 0) rfl
  refine bodyPost_ret (results_ct rfl _ _ w.heap.size 27 _ (0, 0) _ rfl hf Try.underlying27 rfl (by kernel_rfl)) rfl ?_
  exact ⟨rfl, (((((((HB1.out.setCell (Nat.le_refl _) _).setCell (Nat.le_refl _) _).setCell (Nat.le_refl _) _).setCell (Nat.le_refl _) _).setCell (Nat.le_refl _) _).setCell (Nat.le_refl _) _).setCell (Nat.le_refl _) _).setCell (Nat.le_refl _) _⟩
def of18.T : Bool × List (List Nat × List Nat) := (true, [([], []), ([], []), ([1], [1]), ([0, 2, 2], [0, 2]), ([3], [3]), ([4], [4]), ([4], [4]), ([4], [4]), ([], []), ([], []), ([8, 5, 3, 0, 1, 2, 3, 4, 5, 8, 9], [5, 8]), ([9, 6, 10, 0, 1, 2, 3, 4, 5, 6, 8, 9, 10], [6, 9]), ([7, 11, 0, 1, 2, 3, 4, 5, 6, 7, 8, 9, 10, 11], [7])])
def of18.B : List Nat := [0, 0, 2, 7, 15, 31, 31, 31, 0, 0, 831, 1919, 4095]
theorem of18.tab : rtab .any (opsOf Try.f12 18) = of18.T := by kernel_rfl
theorem of18.bits : waitsOk of18.T.2 of18.B = true := by kernel_rfl
set_option maxHeartbeats 6400000 in
set_option maxRecDepth 8000 in
theorem timer_Of (HM : MergeOk) {w : World} {A : Option Addr} {c : Nat} {l : List Int} (h : Kd.C (Kd.int .i64) w A l.length l) (hc : l.length ≤ c) (h0 : 1 ≤ l.length) (hl : l.length ≤ 1048576) (hs : ∀ x ∈ l, smp x) :
    Calls Try.prog 12 #[.slice A l.length c] w fun e w' => e = .returned (.tuple #[.agg (statA (sortP l)), .int .i64 0]) ∧ Below w.heap.size w w' := by
  obtain ⟨W, hW⟩ : ∃ W, W = w.alloc (.cells #[.int .i64 0, .int .i64 0, .int .u64 0, .int .i64 0, .int .i64 0, .int .i64 0, .int .i64 0, .int .i64 0] 27 (0, 0)) := ⟨_, rfl⟩
  have n0 : W.heap[w.heap.size]? = some (.cells #[.int .i64 0, .int .i64 0, .int .u64 0, .int .i64 0, .int .i64 0, .int .i64 0, .int .i64 0, .int .i64 0] 27 (0, 0)) := by rw [hW]; exact heap_alloc_new _ _
  have nb : Below w.heap.size w W := by rw [hW]; exact below_alloc (Below.refl _ _) _
  have HST := Aside0.mk (timer_sorted HM (V_in (Kd.C_below h nb) hc) hl hs)
  obtain ⟨s, hsdef⟩ : ∃ s, s = sortP l := ⟨_, rfl⟩
  have sl := sort_len l
  have ss := smp_sort hs
  rw [← hsdef] at HST sl ss ⊢
  have HS := Aside0.mk ss
  obtain ⟨N, hN⟩ : ∃ N, N = s.length := ⟨_, rfl⟩
  have hNl : 1 ≤ N ∧ N ≤ 1048576 := by omega
  have SUM := Aside0.mk (fun (W : World) (A : Option Addr) (c : Nat) (h : Kd.C (Kd.int .i64) W A s.length s) => timer_sum (c := c) h (by omega) (by omega) ss)
  have hmr := mean_rng ss (by omega)
  have hsr := sum_smp ss
  have hqr := sqs_rng ss hmr
  obtain ⟨k, hk⟩ : ∃ k, k = N - 1 := ⟨_, rfl⟩
  obtain ⟨x0, hx0⟩ : ∃ x, x = rd s ((0 : Nat) : Int) := ⟨_, rfl⟩
  obtain ⟨xk, hxk⟩ : ∃ x, x = rd s (k : Nat) := ⟨_, rfl⟩
  obtain ⟨k1, hk1⟩ : ∃ q, q = (N - 1) / 2 := ⟨_, rfl⟩
  obtain ⟨k2, hk2⟩ : ∃ q, q = N / 2 := ⟨_, rfl⟩
  obtain ⟨y1, hy1⟩ : ∃ x, x = rd s (k1 : Nat) := ⟨_, rfl⟩
  obtain ⟨y2, hy2⟩ : ∃ x, x = rd s (k2 : Nat) := ⟨_, rfl⟩
  have ry1 : smp y1 := by rw [hy1]; exact rd_smp ss (by omega)
  have ry2 : smp y2 := by rw [hy2]; exact rd_smp ss (by omega)
  unfold smp at ry1 ry2
  obtain ⟨me, hme⟩ : ∃ m, m = meanP s := ⟨_, rfl⟩
  obtain ⟨md, hmd⟩ : ∃ m, m = medP s := ⟨_, rfl⟩
  have HMD := Aside0.mk (show md = (y1 + y2) / 2 by rw [hmd, hy1, hy2, hk1, hk2, hN]; rfl)
  obtain ⟨dv, hdv⟩ : ∃ m, m = devP s := ⟨_, rfl⟩
  obtain ⟨ua, hua⟩ : ∃ m, m = hiW s.sum := ⟨_, rfl⟩
  obtain ⟨ub, hub⟩ : ∃ m, m = loW s.sum := ⟨_, rfl⟩
  have RES := Aside0.mk (show statA s = #[.int .i64 (N : Int), .int .i64 ua, .int .u64 ub, .int .i64 x0, .int .i64 xk, .int .i64 me, .int .i64 md, .int .i64 dv] by unfold statA; rw [hN, hua, hub, hx0, hxk, hme, hmd, hdv, hk, hN]; rfl)
  rw [← hme] at hmr hqr
  unfold WV at SUM
  rw [← hua, ← hub, show s.sum / (s.length : Int) = me by rw [hme]; rfl] at SUM
  rw [← hN] at SUM
  have HDV := Aside0.mk (show dv = isq (sqP me s / N) by rw [hdv, hme, hN]; rfl)
  have HCL := Aside0.mk (fun (W : World) (A : Option Addr) (h : Kd.C (Kd.int .i64) W A s.length s) => show ∃ ad, A = some ad ∧ W.cell? ad = some (.int .i64 x0) ∧ W.cell? (ad.add k) = some (.int .i64 xk) ∧ W.cell? (ad.add k1) = some (.int .i64 y1) ∧ W.cell? (ad.add k2) = some (.int .i64 y2) by
    obtain ⟨ad, hA, c0⟩ := cell_rd h (show 0 < s.length by omega)
    obtain ⟨ad', hA', c1⟩ := cell_rd h (show k < s.length by omega)
    rw [hA] at hA'; injection hA' with hA'; subst hA'
    obtain ⟨ad', hA', c2⟩ := cell_rd h (show k1 < s.length by omega)
    rw [hA] at hA'; injection hA' with hA'; subst hA'
    obtain ⟨ad', hA', c3⟩ := cell_rd h (show k2 < s.length by omega)
    rw [hA] at hA'; injection hA' with hA'; subst hA'
    rw [show ad.add 0 = ad by simp [Addr.add]] at c0
    exact ⟨ad, hA, by rw [hx0]; exact c0, by rw [hxk]; exact c1, by rw [hy1]; exact c2, by rw [hy2]; exact c3⟩)
  have a1 : IntKind.i64.wrap ((N : Int) - 1) = (k : Int) := by rw [show (N : Int) - 1 = (k : Int) by omega]; exact IntWalk.i64_in _ (by omega)
  have HA1 := Aside0.mk a1
  have HA2 := Aside0.mk (show (N : Int) - 1 = (k : Int) by omega)
  have HA3 := Aside0.mk (show (k : Int) / 2 = (k1 : Int) by omega)
  have HA4 := Aside0.mk (show (N : Int) / 2 = (k2 : Int) by omega)
  have HNL := Aside0.mk hNl
  have HKS := Aside0.mk (show k < N ∧ k1 < N ∧ k2 < N by omega)
  have HY := Aside0.mk (And.intro ry1 ry2)
  have HMR := Aside0.mk hmr
  have HQR := Aside0.mk hqr
  have HNS := Aside0.mk hN
  have HW := Aside0.mk hW
  have NB := Aside0.mk nb
  have N0 := Aside0.mk n0
  have d0 : ((N : Int) == 0) = false := beq_eq_false_iff_ne.mpr (by omega)
  clear h hs HM hc hW n0 nb hsdef sl ss hmr hsr hqr hk hx0 hxk hk1 hk2 hy1 hy2 ry1 ry2 hme hmd hdv hua hub a1 hN hNl
  go_enter Try.func12, Try.ntmps12
  go_upto_region 1 with (fail)
  rw [← HW.out]
  go_upto_region 7 with (first
    | (go_at_call 29; (with_reducible refine (HST.out).mono ?_); rintro e w1 ⟨v, rfl, hv, hb⟩; obtain ⟨A1, c1, ev⟩ := Kd.V_slice hv; subst ev; have hcc := (Kd.V_reads' hv).2.2; rw [← HNS.out] at hv hcc ⊢; obtain ⟨ad, hA, p0, p1, p2, p3⟩ := HCL.out w1 A1 (by rw [← HNS.out]; exact hcc); subst hA; have HC1 := Aside0.mk hcc; have HB1 := Aside0.mk hb; clear hv hb hcc))
  have q0 : (0 : Int) ≤ (k : Int) := by omega
  have q1 : (k : Int) < (N : Int) := by have := HKS.out; omega
  have q2 : (0 : Int) < (N : Int) := by omega
  have q2n : 0 < N := by omega
  have q3 := HA1.out
  have q4 : N ≤ 1048576 := HNL.out.2
  have z0 := World.new_ne w1 _ p0
  have z1 := World.new_ne w1 _ p1
  have P2 := Aside0.mk p2
  have P3 := Aside0.mk p3
  clear p2 p3
  have hadl : ad.block < w1.heap.size := cell_lt p0
  go_cut [7] from 32 to 41 (fun v7 wx => ∃ g7, v7 = .pointer (some ⟨g7, 0, none⟩) ∧ Aside0 (g7 = w1.heap.size) ∧ Aside0 (wx.heap[g7]? = some (.cells #[.int .i64 (N : Int), .int .i64 0, .int .u64 0, .int .i64 x0, .int .i64 xk, .int .i64 0, .int .i64 0, .int .i64 0] 27 (0, 0))) ∧ Aside0 (Below w1.heap.size w1 wx))
  case first =>
    go_region_held3 (fun w' => w'.cell? ad = some (.int .i64 x0) ∧ w'.cell? (ad.add k) = some (.int .i64 xk)) (go_keep) (fail)
    all_goals
      go_wp2_with (fail)
      go_meet
      exact ⟨w1.heap.size, rfl, ⟨rfl⟩, ⟨heap_alloc_new _ _⟩, ⟨below_drew (below_alloc (Below.refl _ _) _)⟩⟩
  case rest =>
  obtain ⟨g7, rfl, HG7, M7, HB77⟩ := hcut
  have hb7 := HB77.out
  have hg7 := HG7.out
  obtain ⟨W7, hW7⟩ : ∃ W7, W7 = wc := ⟨_, rfl⟩
  subst hW7
  rw [← hg7] at hadl
  have SUM7 := Aside0.mk (SUM.out W7 (some ad) c1 (Kd.C_below HC1.out hb7))
  have HB7 := Aside0.mk (hop HB1.out (show Below w1.heap.size w1 W7 from hb7))
  have HC7 := Aside0.mk (Kd.C_below HC1.out hb7)
  clear hb7 p0 p1 z0 z1 hg7 q3
  go_upto_region 9 with (first
    | (go_at_call 30; (with_reducible refine (SUM7.out).mono ?_); rintro e w2 ⟨rfl, hb⟩; have HB2 := Aside0.mk hb; have m72 := (hb.block _ (blk_lt M7.out)).trans M7.out; have M72 := Aside0.mk m72; have r1 := blk_cell m72 1; have r2 := blk_cell m72 2; have r5 := blk_cell m72 5; have s1 := blk_frozen m72 1; have s2 := blk_frozen m72 2; have s5 := blk_frozen m72 5; clear hb m72))
  obtain ⟨W8, hW8⟩ : ∃ W8, W8 = (((w2.setCell ⟨g7, 1, none⟩ (.int .i64 ua)).setCell ⟨g7, 2, none⟩ (.int .u64 ub)).setCell ⟨g7, 5, none⟩ (.int .i64 me)) := ⟨_, rfl⟩
  have hk8 : Keep w2 W8 (fun k => k = g7) := by rw [hW8]; exact (((Keep.refl w2 (fun k => k = g7)).set ⟨g7, 1, none⟩ _ (.inl rfl)).set ⟨g7, 2, none⟩ _ (.inl rfl)).set ⟨g7, 5, none⟩ _ (.inl rfl)
  have m8 : W8.heap[g7]? = some (.cells #[.int .i64 (N : Int), .int .i64 ua, .int .u64 ub, .int .i64 x0, .int .i64 xk, .int .i64 me, .int .i64 0, .int .i64 0] 27 (0, 0)) := by rw [hW8]; exact blk_put (blk_put (blk_put M72.out 1 _ rfl) 2 _ rfl) 5 _ rfl
  rw [← hW8]
  have hc8 : Kd.C (Kd.int .i64) W8 (some ad) N s := C_keepS (Kd.C_below HC7.out HB2.out) hk8 (fun a e q => by injection e with e; subst e; have q2 : ad.block = g7 := q; omega)
  obtain ⟨ad', hA', -, -, p2, p3⟩ := HCL.out W8 (some ad) (by rw [← HNS.out]; exact hc8)
  injection hA' with hA'
  subst hA'
  have hb8 : Below W.heap.size W W8 := (hop HB7.out HB2.out).trans (hk8.below (hop HB7.out HB2.out).size (fun k e => by have e2 : k = g7 := e; rw [e2, HG7.out]; exact HB1.out.size))
  have HB8 := Aside0.mk hb8
  have HC8 := Aside0.mk hc8
  have M8 := Aside0.mk m8
  have l6 := blk_cell m8 6
  have g6 := blk_frozen m8 6
  have t1 : IntKind.i64.wrap ((N : Int) - 1) = (k : Int) := HA1.out
  have t3 : IntKind.i64.wrap ((k : Int) / 2) = (k1 : Int) := by rw [HA3.out]; exact IntWalk.i64_in _ (by have := HKS.out; omega)
  have t4 : IntKind.i64.wrap ((N : Int) / 2) = (k2 : Int) := by rw [HA4.out]; exact IntWalk.i64_in _ (by have := HKS.out; omega)
  obtain ⟨sy, hsy⟩ : ∃ q, q = y1 + y2 := ⟨_, rfl⟩
  have t5 : IntKind.i64.wrap (y1 + y2) = sy := by rw [hsy]; exact IntWalk.i64_in _ (by have := HY.out; omega)
  have hsy0 : 0 ≤ sy := by have := HY.out; omega
  have t6 : IntKind.i64.wrap (Int.tdiv sy 2) = md := by rw [Int.tdiv_eq_ediv_of_nonneg hsy0, HMD.out, hsy]; exact IntWalk.i64_in _ (by have := HY.out; omega)
  have v1 : (0 : Int) ≤ (k1 : Int) := by omega
  have v2 : (k1 : Int) < (N : Int) := by have := HKS.out; omega
  have v3 : (0 : Int) ≤ (k2 : Int) := by omega
  have v4 : (k2 : Int) < (N : Int) := by have := HKS.out; omega
  clear hW8 hk8 m8 hc8 hb8 r1 r2 r5 s1 s2 s5 hsy
  go_still_tail 14, (by kernel_rfl)
  change wpList _ _ _ _ _ W8.drew
  clear t1 t3 t4 t5 t6 v1 v2 v3 v4
  go_wp2_with (fail)
  obtain ⟨W9, hW9⟩ : ∃ W9, W9 = ((W8.setCell ⟨g7, 6, none⟩ (.int .i64 md)).alloc (.cells #[.int .i64 0, .int .u64 0] 25 (0, 0))).drew := ⟨_, rfl⟩
  have hk9 : Keep W8 W9 (fun k => k = g7) := by rw [hW9]; exact (((Keep.refl W8 (fun k => k = g7)).set ⟨g7, 6, none⟩ _ (.inl rfl)).alloc _).drew
  have mg : W9.heap[g7]? = some (.cells #[.int .i64 (N : Int), .int .i64 ua, .int .u64 ub, .int .i64 x0, .int .i64 xk, .int .i64 me, .int .i64 md, .int .i64 0] 27 (0, 0)) := by rw [hW9]; exact blk_alloc (blk_put M8.out 6 _ rfl) _
  have mq : W9.heap[W8.heap.size]? = some (.cells #[.int .i64 0, .int .u64 0] 25 (0, 0)) := by
    rw [hW9]
    have := heap_alloc_new (W8.setCell ⟨g7, 6, none⟩ (.int .i64 md)) (.cells #[.int .i64 0, .int .u64 0] 25 (0, 0))
    rw [World.size_setCell] at this
    exact this
  rw [← hW9]
  obtain ⟨g8, hg8⟩ : ∃ g, g = W8.heap.size := ⟨_, rfl⟩
  rw [← hg8] at mq ⊢
  have hc9 := C_keepS HC8.out hk9 (fun a e q => by injection e with e; subst e; have q2 : ad.block = g7 := q; omega)
  have h78 : g7 < g8 := by rw [hg8]; exact blk_lt M8.out
  have had8 : ad.block < g8 := by omega
  have hb9 : Below W.heap.size W W9 := HB8.out.trans (hk9.below HB8.out.size (fun k e => by have e2 : k = g7 := e; rw [e2, HG7.out]; exact HB1.out.size))
  have HB9 := Aside0.mk hb9
  have hz7 : w.heap.size < g7 := by rw [HG7.out]; exact Nat.lt_of_lt_of_le (blk_lt N0.out) HB1.out.size
  have HC9 := Aside0.mk hc9
  have MQ0 := Aside0.mk (show W9.heap[g8]? = some (.cells #[.int .i64 (hiW (sqP me (s.take 0))), .int .u64 (loW (sqP me (s.take 0)))] 25 (0, 0)) from mq)
  have MG0 := Aside0.mk mg
  have HG8 := Aside0.mk hg8
  clear hW9 hk9 mg mq hc9 hb9 p2 p3 l6 g6 hg8
  go_loopg [65] N (fun kq v65 w' => ∃ i : Nat, v65 = .int .i64 i ∧ i + kq = N ∧ Aside0 (w'.heap[g7]? = some (.cells #[.int .i64 (N : Int), .int .i64 ua, .int .u64 ub, .int .i64 x0, .int .i64 xk, .int .i64 me, .int .i64 md, .int .i64 0] 27 (0, 0))) ∧ Aside0 (w'.heap[g8]? = some (.cells #[.int .i64 (hiW (sqP me (s.take i))), .int .u64 (loW (sqP me (s.take i)))] 25 (0, 0))) ∧ Aside0 (Keep W9 w' (fun k => k = g8)))
  case atStart => exact ⟨0, rfl, by omega, MG0, MQ0, ⟨Keep.refl _ _⟩⟩
  case round =>
    clear MG0 MQ0
    obtain ⟨i, rfl, hik, MG, NQ, HK⟩ := hrel
    cases gk with
    | zero =>
      obtain rfl : N = i := by omega
      have d1 : decide (N < N) = false := decide_eq_false (by omega)
      have hq0 := NQ.out
      rw [show s.take N = s by rw [HNS.out]; exact List.take_length] at hq0
      have hqr := HQR.out
      rw [← HNS.out] at hqr
      have hn := HNL.out
      have dvr : 0 ≤ sqP me s / (N : Int) ∧ sqP me s / (N : Int) ≤ 10000000000000000000000000000 := ⟨Int.ediv_nonneg hqr.1 (by omega), by
        have := Int.ediv_le_ediv (c := (N : Int)) (by omega) hqr.2
        rw [Int.mul_comm, Int.mul_ediv_cancel _ (by omega)] at this
        exact this⟩
      have dvb : 0 ≤ dv ∧ dv ≤ 100000000000000 := by
        rw [HDV.out]
        exact ⟨(root_ex dvr.1).1, isq_le dvr.1 (by omega) (by omega)⟩
      have HO := Aside0.mk (fun W => wide_Of (z := (N : Int)) W (by unfold in64; omega))
      have HQ := Aside0.mk (fun W => wide_Quo (x := sqP me s) (y := (N : Int)) W (by omega) (by omega))
      have HR := Aside0.mk (fun W => wide_Root (v := sqP me s / (N : Int)) W (by omega))
      have HM2 := Aside0.mk (fun W => wide_Small (z := dv) W (by unfold in64; omega))
      rw [← HDV.out] at HR
      unfold WV at HO HQ HR HM2
      obtain ⟨sa, hsa⟩ : ∃ a, a = hiW (sqP me s) := ⟨_, rfl⟩
      obtain ⟨sb, hsb⟩ : ∃ a, a = loW (sqP me s) := ⟨_, rfl⟩
      obtain ⟨na, hna⟩ : ∃ a, a = hiW (N : Int) := ⟨_, rfl⟩
      obtain ⟨nb, hnb⟩ : ∃ a, a = loW (N : Int) := ⟨_, rfl⟩
      obtain ⟨qa, hqa⟩ : ∃ a, a = hiW (sqP me s / (N : Int)) := ⟨_, rfl⟩
      obtain ⟨qb, hqb⟩ : ∃ a, a = loW (sqP me s / (N : Int)) := ⟨_, rfl⟩
      obtain ⟨ma, hma⟩ : ∃ a, a = hiW (sqP me s % (N : Int)) := ⟨_, rfl⟩
      obtain ⟨mb, hmb⟩ : ∃ a, a = loW (sqP me s % (N : Int)) := ⟨_, rfl⟩
      obtain ⟨da, hda⟩ : ∃ a, a = hiW dv := ⟨_, rfl⟩
      obtain ⟨db, hdb⟩ : ∃ a, a = loW dv := ⟨_, rfl⟩
      rw [← hsa, ← hsb] at hq0
      rw [← hna, ← hnb] at HO
      rw [← hsa, ← hsb, ← hna, ← hnb, ← hqa, ← hqb, ← hma, ← hmb] at HQ
      rw [← hqa, ← hqb, ← hda, ← hdb] at HR
      rw [← hda, ← hdb] at HM2
      have NQ := Aside0.mk hq0
      clear hq0 hqr hn dvr dvb hsa hsb hna hnb hqa hqb hma hmb hda hdb
      go_upto_region 18 with (fail)
      go_cut [14] from 15 to 94 (fun v14 wx => ∃ g14, v14 = .pointer (some ⟨g14, 0, none⟩) ∧ Aside0 (wx.heap[g14]? = some (.cells #[.int .i64 qa, .int .u64 qb] 25 (0, 0))) ∧ Aside0 (Below wr.heap.size wr wx))
      case first =>
        have HB := Aside0.mk (show Below wr.heap.size wr wr.drew from (Below.refl _ _).drew)
        have D8_9 : True := trivial
        refine start_ (n := 13) (S := fun w' => True) (ds := []) #[false, false, false, false, false, false, false, false, false, false, false, false, false] (by kernel_rfl) rfl rfl trivial (fun hHeld => ?_)
        refine with_tabW of18.tab of18.bits (fun HT_ HW_ => ?_)
        refine inv_at [0, 1, 2, 3, 4, 5, 6, 7, 8, 9, 10, 11, 12] (fun a0_ b a w' => ∃ (g14 : Nat) (g15 : Nat) (m8_ : Value) (m9_ : Value), a = putSel a0_ b [(0, 88, .agg #[.int .i64 sa, .int .u64 sb]), (1, 89, .int .i64 (N : Int)), (2, 90, .agg #[.int .i64 na, .int .u64 nb]), (3, 91, .tuple #[.agg #[.int .i64 qa, .int .u64 qb], .agg #[.int .i64 ma, .int .u64 mb], .int .i64 0]), (4, 87, .tuple #[.agg #[.int .i64 qa, .int .u64 qb], .agg #[.int .i64 ma, .int .u64 mb], .int .i64 0]), (5, 92, .agg #[.int .i64 qa, .int .u64 qb]), (6, 93, .agg #[.int .i64 ma, .int .u64 mb]), (7, 94, .int .i64 0), (8, 14, m8_), (9, 15, m9_), (12, 16, .int .i64 0)] ∧ (Below wr.heap.size wr w') ∧ (b 8 = true → wr.heap.size ≤ g14) ∧ (b 8 = true → g14 < w'.heap.size) ∧ (b 8 = true → b 10 = false → w'.heap[g14]? = some (.cells #[.int .i64 0, .int .u64 0] 25 (0, 0))) ∧ (b 8 = true → b 10 = true → w'.heap[g14]? = some (.cells #[.int .i64 qa, .int .u64 qb] 25 (0, 0))) ∧ (b 9 = true → wr.heap.size ≤ g15) ∧ (b 9 = true → g15 < w'.heap.size) ∧ (b 9 = true → b 11 = false → w'.heap[g15]? = some (.cells #[.int .i64 0, .int .u64 0] 25 (0, 0))) ∧ (b 9 = true → b 11 = true → w'.heap[g15]? = some (.cells #[.int .i64 ma, .int .u64 mb] 25 (0, 0))) ∧ ((b 8 = true → b 9 = true → g14 ≠ g15)) ∧ (b 8 = true → (m8_ : Value) = .pointer (some ⟨g14, 0, none⟩)) ∧ (b 9 = true → (m9_ : Value) = .pointer (some ⟨g15, 0, none⟩))) HT_.out HW_.out (by kernel_rfl) (by kernel_rfl) ?_ ?_ ?_
        · exact ⟨0, 0, .bool false, .bool false, by simp only [putSel, Bool.false_eq_true, if_false], HB.out, fun h_ => absurd h_ (by decide), fun h_ => absurd h_ (by decide), fun h_ => absurd h_ (by decide), fun h_ => absurd h_ (by decide), fun h_ => absurd h_ (by decide), fun h_ => absurd h_ (by decide), fun h_ => absurd h_ (by decide), fun h_ => absurd h_ (by decide), fun h_ => absurd h_ (by decide), fun h_ => absurd h_ (by decide), fun h_ => absurd h_ (by decide)⟩
        · skip
          clear D8_9 HB
          refine steps_cons ?_ ?_
          · rintro b a w' ⟨g14, g15, m8_, m9_, ha, Q_HB, Q_G8, Q_L8, Q_Z8, Q_N10, Q_G9, Q_L9, Q_Z9, Q_N11, Q_D8_9, Q_X8_, Q_X9_⟩ hb_ hon hoff
            refine ⟨_, rfl, fun K hK => ?_⟩
            have e8 : a.tmps[8]? = some (.pointer (some ⟨g8, 0, none⟩)) := by rw [ha]; exact (putSel_off rfl).trans rfl
            replace ha := Aside0.mk ha
            have HB := Aside0.mk Q_HB
            have D8_9 := Aside0.mk Q_D8_9
            have k0 := blk_cell ((HB.out.block _ (blk_lt NQ.out)).trans NQ.out) 0
            have k1 := blk_cell ((HB.out.block _ (blk_lt NQ.out)).trans NQ.out) 1
            refine value_ (w1 := w') (v := .agg #[.int .i64 sa, .int .u64 sb]) (by rfl) rfl ?_ ?_
            · go_simp
              (try simp only [i64_w])
              try rfl
            refine hK.out _ _ ⟨g14, g15, m8_, m9_, (by rw [ha.out]; exact putSel_upk 0 hb_ rfl rfl rfl), Q_HB, Q_G8, Q_L8, Q_Z8, fun _ h1_ => absurd ((hoff 10 (by kernel_rfl)).symm.trans h1_) (by decide), Q_G9, Q_L9, Q_Z9, fun _ h1_ => absurd ((hoff 11 (by kernel_rfl)).symm.trans h1_) (by decide), Q_D8_9, Q_X8_, Q_X9_⟩
          refine steps_cons ?_ ?_
          · rintro b a w' ⟨g14, g15, m8_, m9_, ha, Q_HB, Q_G8, Q_L8, Q_Z8, Q_N10, Q_G9, Q_L9, Q_Z9, Q_N11, Q_D8_9, Q_X8_, Q_X9_⟩ hb_ hon hoff
            refine ⟨_, rfl, fun K hK => ?_⟩
            have e6 : a.tmps[6]? = some (.int .i64 (N : Int)) := by rw [ha]; exact (putSel_off rfl).trans rfl
            replace ha := Aside0.mk ha
            have HB := Aside0.mk Q_HB
            have D8_9 := Aside0.mk Q_D8_9
            refine value_ (w1 := w') (v := .int .i64 (N : Int)) (by rfl) rfl ?_ ?_
            · go_simp
              (try simp only [i64_w])
              try rfl
            refine hK.out _ _ ⟨g14, g15, m8_, m9_, (by rw [ha.out]; exact putSel_upk 1 hb_ rfl rfl rfl), Q_HB, Q_G8, Q_L8, Q_Z8, fun _ h1_ => absurd ((hoff 10 (by kernel_rfl)).symm.trans h1_) (by decide), Q_G9, Q_L9, Q_Z9, fun _ h1_ => absurd ((hoff 11 (by kernel_rfl)).symm.trans h1_) (by decide), Q_D8_9, Q_X8_, Q_X9_⟩
          refine steps_cons ?_ ?_
          · rintro b a w' ⟨g14, g15, m8_, m9_, ha, Q_HB, Q_G8, Q_L8, Q_Z8, Q_N10, Q_G9, Q_L9, Q_Z9, Q_N11, Q_D8_9, Q_X8_, Q_X9_⟩ hb_ hon hoff
            refine ⟨_, rfl, fun K hK => ?_⟩
            have e89 : a.tmps[89]? = some (.int .i64 (N : Int)) := by rw [ha]; exact putSel_on (e := (1, 89, .int .i64 (N : Int))) 1 rfl rfl (hon 1 (by kernel_rfl)) rfl
            replace ha := Aside0.mk ha
            have HB := Aside0.mk Q_HB
            have D8_9 := Aside0.mk Q_D8_9
            refine goes_ Try.func15 (by kernel_rfl) rfl #[.int .i64 (N : Int)] (by rfl) rfl rfl (by first | (simp only [List.map_toArray, List.map_cons, List.map_nil, Act.eval, Array.getD_eq_getD_getElem?, Option.getD_some, e89]; done) | (simp only [List.map_toArray, List.map_cons, List.map_nil, Act.eval, Array.getD_eq_getD_getElem?, Option.getD_some, e89]; rfl)) ?_
            with_reducible refine (HO.out _).mono ?_
            rintro e w1 ⟨rfl, hb⟩
            refine ⟨_, rfl, ?_⟩
            refine hK.out _ _ ⟨g14, g15, m8_, m9_, (by rw [ha.out]; exact putSel_upk 2 hb_ rfl rfl rfl), hop HB.out hb, Q_G8, fun h8 => Nat.lt_of_lt_of_le (Q_L8 h8) hb.size, fun h8 h10 => (hb.block _ (blk_lt (Q_Z8 h8 h10))).trans (Q_Z8 h8 h10), fun _ h1_ => absurd ((hoff 10 (by kernel_rfl)).symm.trans h1_) (by decide), Q_G9, fun h9 => Nat.lt_of_lt_of_le (Q_L9 h9) hb.size, fun h9 h11 => (hb.block _ (blk_lt (Q_Z9 h9 h11))).trans (Q_Z9 h9 h11), fun _ h1_ => absurd ((hoff 11 (by kernel_rfl)).symm.trans h1_) (by decide), Q_D8_9, Q_X8_, Q_X9_⟩
          refine steps_cons ?_ ?_
          · rintro b a w' ⟨g14, g15, m8_, m9_, ha, Q_HB, Q_G8, Q_L8, Q_Z8, Q_N10, Q_G9, Q_L9, Q_Z9, Q_N11, Q_D8_9, Q_X8_, Q_X9_⟩ hb_ hon hoff
            refine ⟨_, rfl, fun K hK => ?_⟩
            have e88 : a.tmps[88]? = some (.agg #[.int .i64 sa, .int .u64 sb]) := by rw [ha]; exact putSel_on (e := (0, 88, .agg #[.int .i64 sa, .int .u64 sb])) 0 rfl rfl (hon 0 (by kernel_rfl)) rfl
            have e90 : a.tmps[90]? = some (.agg #[.int .i64 na, .int .u64 nb]) := by rw [ha]; exact putSel_on (e := (2, 90, .agg #[.int .i64 na, .int .u64 nb])) 2 rfl rfl (hon 2 (by kernel_rfl)) rfl
            replace ha := Aside0.mk ha
            have HB := Aside0.mk Q_HB
            have D8_9 := Aside0.mk Q_D8_9
            refine goes_ Try.func17 (by kernel_rfl) rfl #[.agg #[.int .i64 sa, .int .u64 sb], .agg #[.int .i64 na, .int .u64 nb]] (by rfl) rfl rfl (by first | (simp only [List.map_toArray, List.map_cons, List.map_nil, Act.eval, Array.getD_eq_getD_getElem?, Option.getD_some, e88, e90]; done) | (simp only [List.map_toArray, List.map_cons, List.map_nil, Act.eval, Array.getD_eq_getD_getElem?, Option.getD_some, e88, e90]; rfl)) ?_
            with_reducible refine (HQ.out _).mono ?_
            rintro e w1 ⟨rfl, hb⟩
            refine ⟨_, rfl, ?_⟩
            refine hK.out _ _ ⟨g14, g15, m8_, m9_, (by rw [ha.out]; exact putSel_upk 3 hb_ rfl rfl rfl), hop HB.out hb, Q_G8, fun h8 => Nat.lt_of_lt_of_le (Q_L8 h8) hb.size, fun h8 h10 => (hb.block _ (blk_lt (Q_Z8 h8 h10))).trans (Q_Z8 h8 h10), fun _ h1_ => absurd ((hoff 10 (by kernel_rfl)).symm.trans h1_) (by decide), Q_G9, fun h9 => Nat.lt_of_lt_of_le (Q_L9 h9) hb.size, fun h9 h11 => (hb.block _ (blk_lt (Q_Z9 h9 h11))).trans (Q_Z9 h9 h11), fun _ h1_ => absurd ((hoff 11 (by kernel_rfl)).symm.trans h1_) (by decide), Q_D8_9, Q_X8_, Q_X9_⟩
          refine steps_cons ?_ ?_
          · rintro b a w' ⟨g14, g15, m8_, m9_, ha, Q_HB, Q_G8, Q_L8, Q_Z8, Q_N10, Q_G9, Q_L9, Q_Z9, Q_N11, Q_D8_9, Q_X8_, Q_X9_⟩ hb_ hon hoff
            refine ⟨_, rfl, fun K hK => ?_⟩
            have e91 : a.tmps[91]? = some (.tuple #[.agg #[.int .i64 qa, .int .u64 qb], .agg #[.int .i64 ma, .int .u64 mb], .int .i64 0]) := by rw [ha]; exact putSel_on (e := (3, 91, .tuple #[.agg #[.int .i64 qa, .int .u64 qb], .agg #[.int .i64 ma, .int .u64 mb], .int .i64 0])) 3 rfl rfl (hon 3 (by kernel_rfl)) rfl
            replace ha := Aside0.mk ha
            have HB := Aside0.mk Q_HB
            have D8_9 := Aside0.mk Q_D8_9
            refine value_ (w1 := w') (v := .tuple #[.agg #[.int .i64 qa, .int .u64 qb], .agg #[.int .i64 ma, .int .u64 mb], .int .i64 0]) (by rfl) rfl ?_ ?_
            · go_simp
              (try simp only [i64_w])
              try rfl
            refine hK.out _ _ ⟨g14, g15, m8_, m9_, (by rw [ha.out]; exact putSel_upk 4 hb_ rfl rfl rfl), Q_HB, Q_G8, Q_L8, Q_Z8, fun _ h1_ => absurd ((hoff 10 (by kernel_rfl)).symm.trans h1_) (by decide), Q_G9, Q_L9, Q_Z9, fun _ h1_ => absurd ((hoff 11 (by kernel_rfl)).symm.trans h1_) (by decide), Q_D8_9, Q_X8_, Q_X9_⟩
          refine steps_cons ?_ ?_
          · rintro b a w' ⟨g14, g15, m8_, m9_, ha, Q_HB, Q_G8, Q_L8, Q_Z8, Q_N10, Q_G9, Q_L9, Q_Z9, Q_N11, Q_D8_9, Q_X8_, Q_X9_⟩ hb_ hon hoff
            refine ⟨_, rfl, fun K hK => ?_⟩
            have e87 : a.tmps[87]? = some (.tuple #[.agg #[.int .i64 qa, .int .u64 qb], .agg #[.int .i64 ma, .int .u64 mb], .int .i64 0]) := by rw [ha]; exact putSel_on (e := (4, 87, .tuple #[.agg #[.int .i64 qa, .int .u64 qb], .agg #[.int .i64 ma, .int .u64 mb], .int .i64 0])) 4 rfl rfl (hon 4 (by kernel_rfl)) rfl
            replace ha := Aside0.mk ha
            have HB := Aside0.mk Q_HB
            have D8_9 := Aside0.mk Q_D8_9
            refine value_ (w1 := w') (v := .agg #[.int .i64 qa, .int .u64 qb]) (by rfl) rfl ?_ ?_
            · go_simp
              (try simp only [i64_w])
              try rfl
            refine hK.out _ _ ⟨g14, g15, m8_, m9_, (by rw [ha.out]; exact putSel_upk 5 hb_ rfl rfl rfl), Q_HB, Q_G8, Q_L8, Q_Z8, fun _ h1_ => absurd ((hoff 10 (by kernel_rfl)).symm.trans h1_) (by decide), Q_G9, Q_L9, Q_Z9, fun _ h1_ => absurd ((hoff 11 (by kernel_rfl)).symm.trans h1_) (by decide), Q_D8_9, Q_X8_, Q_X9_⟩
          refine steps_cons ?_ ?_
          · rintro b a w' ⟨g14, g15, m8_, m9_, ha, Q_HB, Q_G8, Q_L8, Q_Z8, Q_N10, Q_G9, Q_L9, Q_Z9, Q_N11, Q_D8_9, Q_X8_, Q_X9_⟩ hb_ hon hoff
            refine ⟨_, rfl, fun K hK => ?_⟩
            have e87 : a.tmps[87]? = some (.tuple #[.agg #[.int .i64 qa, .int .u64 qb], .agg #[.int .i64 ma, .int .u64 mb], .int .i64 0]) := by rw [ha]; exact putSel_on (e := (4, 87, .tuple #[.agg #[.int .i64 qa, .int .u64 qb], .agg #[.int .i64 ma, .int .u64 mb], .int .i64 0])) 4 rfl rfl (hon 4 (by kernel_rfl)) rfl
            replace ha := Aside0.mk ha
            have HB := Aside0.mk Q_HB
            have D8_9 := Aside0.mk Q_D8_9
            refine value_ (w1 := w') (v := .agg #[.int .i64 ma, .int .u64 mb]) (by rfl) rfl ?_ ?_
            · go_simp
              (try simp only [i64_w])
              try rfl
            refine hK.out _ _ ⟨g14, g15, m8_, m9_, (by rw [ha.out]; exact putSel_upk 6 hb_ rfl rfl rfl), Q_HB, Q_G8, Q_L8, Q_Z8, Q_N10, Q_G9, Q_L9, Q_Z9, fun _ h1_ => absurd ((hoff 11 (by kernel_rfl)).symm.trans h1_) (by decide), Q_D8_9, Q_X8_, Q_X9_⟩
          refine steps_cons ?_ ?_
          · rintro b a w' ⟨g14, g15, m8_, m9_, ha, Q_HB, Q_G8, Q_L8, Q_Z8, Q_N10, Q_G9, Q_L9, Q_Z9, Q_N11, Q_D8_9, Q_X8_, Q_X9_⟩ hb_ hon hoff
            refine ⟨_, rfl, fun K hK => ?_⟩
            have e87 : a.tmps[87]? = some (.tuple #[.agg #[.int .i64 qa, .int .u64 qb], .agg #[.int .i64 ma, .int .u64 mb], .int .i64 0]) := by rw [ha]; exact putSel_on (e := (4, 87, .tuple #[.agg #[.int .i64 qa, .int .u64 qb], .agg #[.int .i64 ma, .int .u64 mb], .int .i64 0])) 4 rfl rfl (hon 4 (by kernel_rfl)) rfl
            replace ha := Aside0.mk ha
            have HB := Aside0.mk Q_HB
            have D8_9 := Aside0.mk Q_D8_9
            refine value_ (w1 := w') (v := .int .i64 0) (by rfl) rfl ?_ ?_
            · go_simp
              (try simp only [i64_w])
              try rfl
            refine hK.out _ _ ⟨g14, g15, m8_, m9_, (by rw [ha.out]; exact putSel_upk 7 hb_ rfl rfl rfl), Q_HB, Q_G8, Q_L8, Q_Z8, Q_N10, Q_G9, Q_L9, Q_Z9, Q_N11, Q_D8_9, Q_X8_, Q_X9_⟩
          refine steps_cons ?_ ?_
          · rintro b a w' ⟨g14, g15, m8_, m9_, ha, Q_HB, Q_G8, Q_L8, Q_Z8, Q_N10, Q_G9, Q_L9, Q_Z9, Q_N11, Q_D8_9, Q_X8_, Q_X9_⟩ hb_ hon hoff
            refine ⟨_, rfl, fun K hK => ?_⟩
            replace ha := Aside0.mk ha
            have HB := Aside0.mk Q_HB
            have D8_9 := Aside0.mk Q_D8_9
            have hb := (Below.refl w'.heap.size w').alloc (Nat.le_refl _) (.cells #[.int .i64 0, .int .u64 0] 25 (0, 0))
            refine value_ (w1 := w'.alloc (.cells #[.int .i64 0, .int .u64 0] 25 (0, 0))) (v := .pointer (some ⟨w'.heap.size, 0, none⟩)) (by rfl) rfl ?_ ?_
            · go_simp
              try rfl
            refine hK.out _ _ ⟨w'.heap.size, g15, (.pointer (some ⟨w'.heap.size, 0, none⟩)), m9_, (by rw [ha.out]; exact putSel_upk 8 hb_ rfl rfl rfl), hop HB.out hb, fun _ => HB.out.size, fun _ => (by simp), fun _ _ => heap_alloc_new w' _, fun _ h1_ => absurd ((hoff 10 (by kernel_rfl)).symm.trans h1_) (by decide), Q_G9, fun h9 => Nat.lt_of_lt_of_le (Q_L9 h9) hb.size, fun h9 h11 => (hb.block _ (blk_lt (Q_Z9 h9 h11))).trans (Q_Z9 h9 h11), fun _ h1_ => absurd ((hoff 11 (by kernel_rfl)).symm.trans h1_) (by decide), fun h1 h2 => (fun e => by have := Q_L9 h2; omega), fun _ => rfl, Q_X9_⟩
          refine steps_cons ?_ ?_
          · rintro b a w' ⟨g14, g15, m8_, m9_, ha, Q_HB, Q_G8, Q_L8, Q_Z8, Q_N10, Q_G9, Q_L9, Q_Z9, Q_N11, Q_D8_9, Q_X8_, Q_X9_⟩ hb_ hon hoff
            refine ⟨_, rfl, fun K hK => ?_⟩
            replace ha := Aside0.mk ha
            have HB := Aside0.mk Q_HB
            have D8_9 := Aside0.mk Q_D8_9
            have hb := (Below.refl w'.heap.size w').alloc (Nat.le_refl _) (.cells #[.int .i64 0, .int .u64 0] 25 (0, 0))
            refine value_ (w1 := w'.alloc (.cells #[.int .i64 0, .int .u64 0] 25 (0, 0))) (v := .pointer (some ⟨w'.heap.size, 0, none⟩)) (by rfl) rfl ?_ ?_
            · go_simp
              try rfl
            refine hK.out _ _ ⟨g14, w'.heap.size, m8_, (.pointer (some ⟨w'.heap.size, 0, none⟩)), (by rw [ha.out]; exact putSel_upk 9 hb_ rfl rfl rfl), hop HB.out hb, Q_G8, fun h8 => Nat.lt_of_lt_of_le (Q_L8 h8) hb.size, fun h8 h10 => (hb.block _ (blk_lt (Q_Z8 h8 h10))).trans (Q_Z8 h8 h10), fun _ h1_ => absurd ((hoff 10 (by kernel_rfl)).symm.trans h1_) (by decide), fun _ => HB.out.size, fun _ => (by simp), fun _ _ => heap_alloc_new w' _, fun _ h1_ => absurd ((hoff 11 (by kernel_rfl)).symm.trans h1_) (by decide), fun h1 h2 => (fun e => by have := Q_L8 h1; omega), Q_X8_, fun _ => rfl⟩
          refine steps_cons ?_ ?_
          · rintro b a w' ⟨g14, g15, m8_, m9_, ha, Q_HB, Q_G8, Q_L8, Q_Z8, Q_N10, Q_G9, Q_L9, Q_Z9, Q_N11, Q_D8_9, Q_X8_, Q_X9_⟩ hb_ hon hoff
            refine ⟨_, rfl, fun K hK => ?_⟩
            have e14 : a.tmps[14]? = some (m8_) := by rw [ha]; exact putSel_on (e := (8, 14, m8_)) 8 rfl rfl (hon 8 (by kernel_rfl)) rfl
            rw [Q_X8_ (hon 8 (by kernel_rfl))] at e14
            have e92 : a.tmps[92]? = some (.agg #[.int .i64 qa, .int .u64 qb]) := by rw [ha]; exact putSel_on (e := (5, 92, .agg #[.int .i64 qa, .int .u64 qb])) 5 rfl rfl (hon 5 (by kernel_rfl)) rfl
            replace ha := Aside0.mk ha
            have HB := Aside0.mk Q_HB
            have G8 := Aside0.mk (Q_G8 (hon 8 (by kernel_rfl)))
            have L8 := Aside0.mk (Q_L8 (hon 8 (by kernel_rfl)))
            have Z8 := Aside0.mk (Q_Z8 (hon 8 (by kernel_rfl)) hb_)
            have G9 := Aside0.mk (Q_G9 (hon 9 (by kernel_rfl)))
            have L9 := Aside0.mk (Q_L9 (hon 9 (by kernel_rfl)))
            have Z9 := Aside0.mk (Q_Z9 (hon 9 (by kernel_rfl)) (hoff 11 (by kernel_rfl)))
            have D8_9 := Aside0.mk Q_D8_9
            have hk : Keep w' ((w'.setCell ⟨g14, 0, none⟩ (.int .i64 qa)).setCell ⟨g14, 1, none⟩ (.int .u64 qb)) (fun k => k = g14) := (((Keep.refl w' (fun k => k = g14)).set ⟨g14, 0, none⟩ (.int .i64 qa) (.inl rfl)).set ⟨g14, 1, none⟩ (.int .u64 qb) (.inl rfl))
            have y0 := blk_cell Z8.out 0
            have y1 := blk_cell Z8.out 1
            have z0 := blk_frozen Z8.out 0
            have z1 := blk_frozen Z8.out 1
            refine skip_ (w1 := ((w'.setCell ⟨g14, 0, none⟩ (.int .i64 qa)).setCell ⟨g14, 1, none⟩ (.int .u64 qb))) (by rfl) rfl ?_ ?_
            · go_simp
              try rfl
            refine hK.out _ _ ⟨g14, g15, m8_, m9_, (by rw [ha.out]; exact putSel_none (v := undef) rfl), HB.out.trans (hk.below HB.out.size (fun k e => by have e2 : k = g14 := e; rw [e2]; exact G8.out)), Q_G8, fun h8 => Nat.lt_of_lt_of_le (Q_L8 h8) hk.size, fun _ h1_ => absurd ((up_self b 10).symm.trans h1_) (by decide), fun _ _ => (blk_put (blk_put Z8.out 0 (.int .i64 qa) rfl) 1 (.int .u64 qb) rfl), Q_G9, fun h9 => Nat.lt_of_lt_of_le (Q_L9 h9) hk.size, fun h9 h11 => (hk.block _ (blk_lt (Q_Z9 h9 h11)) (fun e => Q_D8_9 (hon 8 (by kernel_rfl)) h9 e.symm)).trans (Q_Z9 h9 h11), fun _ h1_ => absurd ((hoff 11 (by kernel_rfl)).symm.trans h1_) (by decide), Q_D8_9, Q_X8_, Q_X9_⟩
          refine steps_cons ?_ ?_
          · rintro b a w' ⟨g14, g15, m8_, m9_, ha, Q_HB, Q_G8, Q_L8, Q_Z8, Q_N10, Q_G9, Q_L9, Q_Z9, Q_N11, Q_D8_9, Q_X8_, Q_X9_⟩ hb_ hon hoff
            refine ⟨_, rfl, fun K hK => ?_⟩
            have e15 : a.tmps[15]? = some (m9_) := by rw [ha]; exact putSel_on (e := (9, 15, m9_)) 9 rfl rfl (hon 9 (by kernel_rfl)) rfl
            rw [Q_X9_ (hon 9 (by kernel_rfl))] at e15
            have e93 : a.tmps[93]? = some (.agg #[.int .i64 ma, .int .u64 mb]) := by rw [ha]; exact putSel_on (e := (6, 93, .agg #[.int .i64 ma, .int .u64 mb])) 6 rfl rfl (hon 6 (by kernel_rfl)) rfl
            replace ha := Aside0.mk ha
            have HB := Aside0.mk Q_HB
            have G8 := Aside0.mk (Q_G8 (hon 8 (by kernel_rfl)))
            have L8 := Aside0.mk (Q_L8 (hon 8 (by kernel_rfl)))
            have N10 := Aside0.mk (Q_N10 (hon 8 (by kernel_rfl)) (hon 10 (by kernel_rfl)))
            have G9 := Aside0.mk (Q_G9 (hon 9 (by kernel_rfl)))
            have L9 := Aside0.mk (Q_L9 (hon 9 (by kernel_rfl)))
            have Z9 := Aside0.mk (Q_Z9 (hon 9 (by kernel_rfl)) hb_)
            have D8_9 := Aside0.mk Q_D8_9
            have hk : Keep w' ((w'.setCell ⟨g15, 0, none⟩ (.int .i64 ma)).setCell ⟨g15, 1, none⟩ (.int .u64 mb)) (fun k => k = g15) := (((Keep.refl w' (fun k => k = g15)).set ⟨g15, 0, none⟩ (.int .i64 ma) (.inl rfl)).set ⟨g15, 1, none⟩ (.int .u64 mb) (.inl rfl))
            have y0 := blk_cell Z9.out 0
            have y1 := blk_cell Z9.out 1
            have z0 := blk_frozen Z9.out 0
            have z1 := blk_frozen Z9.out 1
            refine skip_ (w1 := ((w'.setCell ⟨g15, 0, none⟩ (.int .i64 ma)).setCell ⟨g15, 1, none⟩ (.int .u64 mb))) (by rfl) rfl ?_ ?_
            · go_simp
              try rfl
            refine hK.out _ _ ⟨g14, g15, m8_, m9_, (by rw [ha.out]; exact putSel_none (v := undef) rfl), HB.out.trans (hk.below HB.out.size (fun k e => by have e2 : k = g15 := e; rw [e2]; exact G9.out)), Q_G8, fun h8 => Nat.lt_of_lt_of_le (Q_L8 h8) hk.size, fun _ h1_ => absurd ((hon 10 (by kernel_rfl)).symm.trans h1_) (by decide), fun h8 h10 => (hk.block _ (blk_lt (Q_N10 h8 h10)) (fun e => Q_D8_9 h8 (hon 9 (by kernel_rfl)) e)).trans (Q_N10 h8 h10), Q_G9, fun h9 => Nat.lt_of_lt_of_le (Q_L9 h9) hk.size, fun _ h1_ => absurd ((up_self b 11).symm.trans h1_) (by decide), fun _ _ => (blk_put (blk_put Z9.out 0 (.int .i64 ma) rfl) 1 (.int .u64 mb) rfl), Q_D8_9, Q_X8_, Q_X9_⟩
          refine steps_cons ?_ ?_
          · rintro b a w' ⟨g14, g15, m8_, m9_, ha, Q_HB, Q_G8, Q_L8, Q_Z8, Q_N10, Q_G9, Q_L9, Q_Z9, Q_N11, Q_D8_9, Q_X8_, Q_X9_⟩ hb_ hon hoff
            refine ⟨_, rfl, fun K hK => ?_⟩
            have e94 : a.tmps[94]? = some (.int .i64 0) := by rw [ha]; exact putSel_on (e := (7, 94, .int .i64 0)) 7 rfl rfl (hon 7 (by kernel_rfl)) rfl
            replace ha := Aside0.mk ha
            have HB := Aside0.mk Q_HB
            have G8 := Aside0.mk (Q_G8 (hon 8 (by kernel_rfl)))
            have L8 := Aside0.mk (Q_L8 (hon 8 (by kernel_rfl)))
            have N10 := Aside0.mk (Q_N10 (hon 8 (by kernel_rfl)) (hon 10 (by kernel_rfl)))
            have G9 := Aside0.mk (Q_G9 (hon 9 (by kernel_rfl)))
            have L9 := Aside0.mk (Q_L9 (hon 9 (by kernel_rfl)))
            have N11 := Aside0.mk (Q_N11 (hon 9 (by kernel_rfl)) (hon 11 (by kernel_rfl)))
            have D8_9 := Aside0.mk Q_D8_9
            refine value_ (w1 := w') (v := .int .i64 0) (by rfl) rfl ?_ ?_
            · go_simp
              (try simp only [i64_w])
              try rfl
            refine hK.out _ _ ⟨g14, g15, m8_, m9_, (by rw [ha.out]; exact putSel_upk 10 hb_ rfl rfl rfl), Q_HB, Q_G8, Q_L8, fun _ h1_ => absurd ((hon 10 (by kernel_rfl)).symm.trans h1_) (by decide), Q_N10, Q_G9, Q_L9, fun _ h1_ => absurd ((hon 11 (by kernel_rfl)).symm.trans h1_) (by decide), Q_N11, Q_D8_9, Q_X8_, Q_X9_⟩
          exact steps_nil
        · rintro b a w' hall ⟨g14, g15, m8_, m9_, ha, Q_HB, Q_G8, Q_L8, Q_Z8, Q_N10, Q_G9, Q_L9, Q_Z9, Q_N11, Q_D8_9, Q_X8_, Q_X9_⟩
          clear D8_9 HB
          have hb0_ := hall 0 (by kernel_rfl)
          have hb1_ := hall 1 (by kernel_rfl)
          have hb2_ := hall 2 (by kernel_rfl)
          have hb3_ := hall 3 (by kernel_rfl)
          have hb4_ := hall 4 (by kernel_rfl)
          have hb5_ := hall 5 (by kernel_rfl)
          have hb6_ := hall 6 (by kernel_rfl)
          have hb7_ := hall 7 (by kernel_rfl)
          have hb8_ := hall 8 (by kernel_rfl)
          have hb9_ := hall 9 (by kernel_rfl)
          have hb10_ := hall 10 (by kernel_rfl)
          have hb11_ := hall 11 (by kernel_rfl)
          have hb12_ := hall 12 (by kernel_rfl)
          subst ha
          obtain rfl := Q_X8_ hb8_
          obtain rfl := Q_X9_ hb9_
          simp only [putSel, hb0_, hb1_, hb2_, hb3_, hb4_, hb5_, hb6_, hb7_, hb8_, hb9_, hb10_, hb11_, hb12_, if_true, Act.put, List.setIfInBounds_toArray, List.set_cons_zero, List.set_cons_succ]
          have HB := Aside0.mk Q_HB
          clear Q_HB
          have G8 := Aside0.mk (Q_G8 hb8_)
          clear Q_G8
          have L8 := Aside0.mk (Q_L8 hb8_)
          clear Q_L8
          clear Q_Z8
          have N10 := Aside0.mk (Q_N10 hb8_ hb10_)
          clear Q_N10
          have G9 := Aside0.mk (Q_G9 hb9_)
          clear Q_G9
          have L9 := Aside0.mk (Q_L9 hb9_)
          clear Q_L9
          clear Q_Z9
          have N11 := Aside0.mk (Q_N11 hb9_ hb11_)
          clear Q_N11
          have D8_9 := Aside0.mk Q_D8_9
          clear Q_D8_9
          clear hall hb0_ hb1_ hb2_ hb3_ hb4_ hb5_ hb6_ hb7_ hb8_ hb9_ hb10_ hb11_ hb12_
          go_wp2_with (fail)
          go_meet
          exact ⟨g14, rfl, N10, HB⟩
      case rest =>
        obtain ⟨g14, rfl, M14, HBc⟩ := hcut
        have a0 := blk_cell M14.out 0
        have a1 := blk_cell M14.out 1
        go_upto_region 21 with (first
          | (go_at_call 31; (with_reducible refine (HR.out _).mono ?_); rintro e w6 ⟨rfl, hb⟩; have HB6 := Aside0.mk (hop HBc.out hb); clear hb a0 a1)
          | (go_at_call 32; (with_reducible refine (HM2.out _).mono ?_); rintro e w7 ⟨rfl, hb⟩; have hb7 := hop (HB6.out.alloc HB6.out.size (.cells #[.int .i64 da, .int .u64 db] 25 (0, 0))) hb; have HB77 := Aside0.mk hb7; have mg7 := (hb7.block _ (blk_lt MG.out)).trans MG.out; have MG7 := Aside0.mk mg7; have l7 := blk_cell mg7 7; have t7 := blk_frozen mg7 7; clear hb hb7 mg7))
        obtain ⟨WZ, hWZ⟩ : ∃ WZ, WZ = w7.setCell ⟨g7, 7, none⟩ (.int .i64 dv) := ⟨_, rfl⟩
        have hkz : Keep w7 WZ (fun k => k = g7) := by rw [hWZ]; exact (Keep.refl w7 (fun k => k = g7)).set ⟨g7, 7, none⟩ _ (.inl rfl)
        have mgz : WZ.heap[g7]? = some (.cells #[.int .i64 (N : Int), .int .i64 ua, .int .u64 ub, .int .i64 x0, .int .i64 xk, .int .i64 me, .int .i64 md, .int .i64 dv] 27 (0, 0)) := by rw [hWZ]; exact blk_put MG7.out 7 _ rfl
        rw [← hWZ]
        have hbz : Below W.heap.size W WZ := by
          have b1 := HB9.out.trans (HK.out.below HB9.out.size (fun k e => by have e2 : k = g8 := e; have := HB1.out.size; have := HG7.out; omega))
          have hb := HB77.out
          have b2 := b1.trans ⟨hb.os, hb.tape, hb.output, hb.size, fun k hk => hb.block k (Nat.lt_of_lt_of_le hk b1.size)⟩
          exact b2.trans (hkz.below b2.size (fun k e => by have e2 : k = g7 := e; rw [e2, HG7.out]; exact HB1.out.size))
        have mz := (hbz.block _ (blk_lt N0.out)).trans N0.out
        have y0 := blk_cell mgz 0
        have z0 := blk_cell mz 0
        have f0 := blk_frozen mz 0
        have y1 := blk_cell mgz 1
        have z1 := blk_cell mz 1
        have f1 := blk_frozen mz 1
        have y2 := blk_cell mgz 2
        have z2 := blk_cell mz 2
        have f2 := blk_frozen mz 2
        have y3 := blk_cell mgz 3
        have z3 := blk_cell mz 3
        have f3 := blk_frozen mz 3
        have y4 := blk_cell mgz 4
        have z4 := blk_cell mz 4
        have f4 := blk_frozen mz 4
        have y5 := blk_cell mgz 5
        have z5 := blk_cell mz 5
        have f5 := blk_frozen mz 5
        have y6 := blk_cell mgz 6
        have z6 := blk_cell mz 6
        have f6 := blk_frozen mz 6
        have y7 := blk_cell mgz 7
        have z7 := blk_cell mz 7
        have f7 := blk_frozen mz 7
        have MZ := Aside0.mk mz
        have HBZ := Aside0.mk (NB.out.trans ⟨hbz.os, hbz.tape, hbz.output, hbz.size, fun k hk => hbz.block k (Nat.lt_of_lt_of_le hk NB.out.size)⟩)
        have hne : w.heap.size ≠ g7 := by omega
        clear hWZ hkz mgz hbz mz l7 t7 d0 d1
        go_wp2_with (fail)
        have hf := (blk_put (blk_put (blk_put (blk_put (blk_put (blk_put (blk_put (blk_put MZ.out 0 (.int .i64 (N : Int)) rfl) 1 (.int .i64 ua) rfl) 2 (.int .u64 ub) rfl) 3 (.int .i64 x0) rfl) 4 (.int .i64 xk) rfl) 5 (.int .i64 me) rfl) 6 (.int .i64 md) rfl) 7 (.int .i64 dv) rfl)
        rw [RES.out]
        refine bodyPost_ret (results_ct rfl _ _ w.heap.size 27 _ (0, 0) _ rfl hf Try.underlying27 rfl (by kernel_rfl)) rfl ?_
        exact ⟨rfl, (((((((HBZ.out.setCell (Nat.le_refl _) _).setCell (Nat.le_refl _) _).setCell (Nat.le_refl _) _).setCell (Nat.le_refl _) _).setCell (Nat.le_refl _) _).setCell (Nat.le_refl _) _).setCell (Nat.le_refl _) _).setCell (Nat.le_refl _) _⟩
    | succ k_ =>
      have hlt : i < N := by omega
      have hls : i < s.length := by rw [← HNS.out]; exact hlt
      have hlm : i < 1048576 := by have := HNL.out; omega
      have d1 : decide (i < N) = true := decide_eq_true hlt
      obtain ⟨x, hx⟩ : ∃ x, x = s[i] := ⟨_, rfl⟩
      have hsx := HS.out x (by rw [hx]; exact List.getElem_mem hls)
      unfold smp at hsx
      have hmr := HMR.out
      have hC := C_keepS HC9.out HK.out (fun a e q => by injection e with e; subst e; have q2 : ad.block = g8 := q; omega)
      rw [HNS.out] at hC
      obtain ⟨ad', hA', hc⟩ := cell_rd hC hls
      injection hA' with hA'
      subst hA'
      rw [show rd s (i : Int) = x by unfold rd; rw [Int.toNat_natCast, hx]; simp [List.getD_eq_getElem?_getD, hls]] at hc
      have hsn := sq_snoc (m := me) hls
      rw [← hx] at hsn
      have hst := sqs_rng (l := s.take i) (m := me) (fun y hy => HS.out y (List.mem_of_mem_take hy)) hmr
      have hlen : (s.take i).length ≤ 1048576 := by rw [List.length_take]; omega
      have hdr := sq_rng (d := x - me) (by omega) (by omega)
      have HO := Aside0.mk (fun W => wide_Of (z := x - me) W (by unfold in64; omega))
      have HMU := Aside0.mk (fun W => wide_Mul (x := x - me) (y := x - me) W (by unfold in64; omega) (by unfold in64; omega))
      have HA := Aside0.mk (fun W => wide_Add (x := sqP me (s.take i)) (y := (x - me) * (x - me)) W (by unfold inW; omega) (by unfold inW; omega) _ 0 (.inl ⟨by unfold inW; omega, rfl, rfl⟩))
      rw [← hsn] at HA
      unfold WV at HO HMU HA
      obtain ⟨sa, hsa⟩ : ∃ a, a = hiW (sqP me (s.take i)) := ⟨_, rfl⟩
      obtain ⟨sb, hsb⟩ : ∃ a, a = loW (sqP me (s.take i)) := ⟨_, rfl⟩
      obtain ⟨ta, hta⟩ : ∃ a, a = hiW (sqP me (s.take (i + 1))) := ⟨_, rfl⟩
      obtain ⟨tb, htb⟩ : ∃ a, a = loW (sqP me (s.take (i + 1))) := ⟨_, rfl⟩
      obtain ⟨da, hda⟩ : ∃ a, a = hiW (x - me) := ⟨_, rfl⟩
      obtain ⟨db, hdb⟩ : ∃ a, a = loW (x - me) := ⟨_, rfl⟩
      obtain ⟨pa, hpa⟩ : ∃ a, a = hiW ((x - me) * (x - me)) := ⟨_, rfl⟩
      obtain ⟨pb, hpb⟩ : ∃ a, a = loW ((x - me) * (x - me)) := ⟨_, rfl⟩
      rw [← hsa, ← hsb] at NQ
      rw [← hda, ← hdb] at HO
      rw [← hda, ← hdb, ← hpa, ← hpb] at HMU
      rw [← hsa, ← hsb, ← hta, ← htb, ← hpa, ← hpb] at HA
      have HT := Aside0.mk (And.intro hta htb)
      have u5 := blk_cell MG.out 5
      have hw : IntKind.i64.wrap (x - me) = x - me := IntWalk.i64_in _ (by omega)
      clear hx hsn hst hlen hdr hsa hsb hta htb hda hdb hpa hpb hC hls
      go_wp2_with (first
        | (go_at_call 15; (with_reducible refine (HO.out _).mono ?_); rintro e w3 ⟨rfl, hb⟩; have HB3 := Aside0.mk hb; clear hb)
        | (go_at_call 27; (with_reducible refine (HMU.out _).mono ?_); rintro e w4 ⟨rfl, hb⟩; have hb4 := hop (HB3.out.alloc HB3.out.size (.cells #[.int .i64 da, .int .u64 db] 25 (0, 0))) hb; have HB4 := Aside0.mk hb4; have mqx := blk_alloc ((hb4.block _ (blk_lt NQ.out)).trans NQ.out) (.cells #[.int .i64 pa, .int .u64 pb] 25 (0, 0)); have k0 := blk_cell mqx 0; have k1_ := blk_cell mqx 1; clear hb hb4 mqx)
        | (go_at_call 16; (with_reducible refine (HA.out _).mono ?_); rintro e w5 ⟨rfl, hb⟩; have hb5 := hop (HB4.out.alloc HB4.out.size (.cells #[.int .i64 pa, .int .u64 pb] 25 (0, 0))) hb; have HB5 := Aside0.mk hb5; have mq5 := (hb5.block _ (blk_lt NQ.out)).trans NQ.out; have MQ5 := Aside0.mk mq5; have e0 := blk_cell mq5 0; have e1 := blk_cell mq5 1; have f0 := blk_frozen mq5 0; have f1 := blk_frozen mq5 1; clear hb hb5 mq5 k0 k1_))
      go_roundg k_
      case rel =>
        have hks : Keep w5 ((w5.setCell ⟨g8, 0, none⟩ (.int .i64 ta)).setCell ⟨g8, 1, none⟩ (.int .u64 tb)) (fun k => k = g8) := keep_set2
        have hb := HB5.out
        have hk2 : Keep W9 w5 (fun k => k = g8) := HK.out.trans (Keep.of_below hb) (fun _ _ q => q) (fun _ _ (q : False) => q.elim)
        refine ⟨i + 1, by go_num, by omega, ⟨(hks.block _ (blk_lt ((hb.block _ (blk_lt MG.out)).trans MG.out)) (by omega)).trans ((hb.block _ (blk_lt MG.out)).trans MG.out)⟩, ⟨by rw [← HT.out.1, ← HT.out.2]; exact blk_put (blk_put MQ5.out 0 _ rfl) 1 _ rfl⟩, ⟨hk2.trans hks (fun _ _ q => q) (fun _ _ q => q)⟩⟩
      case measure => omega
end Go.Proofs.Ythnihjfdmkfkiaa.Q
