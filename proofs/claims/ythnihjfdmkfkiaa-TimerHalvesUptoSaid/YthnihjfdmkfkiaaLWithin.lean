import Derived.Test.YthnihjfdmkfkiaaPWithin
import Derived.Test.YthnihjfdmkfkiaaTAlive
import Derived.Test.YthnihjfdmkfkiaaWInvWords
namespace Go.Proofs.Ythnihjfdmkfkiaa.Q
open Go.RowKit Go.Proofs.YthnihjfdmkfkiaaW.PrintWords Go.Proofs.YthnihjfdmkfkiaaW.PrintLast Go.Proofs.YthnihjfdmkfkiaaW.PrintMore Go.Proofs.YthnihjfdmkfkiaaV
set_option linter.unusedVariables false
set_option linter.unusedSimpArgs false

def lwi11.T : Bool × List (List Nat × List Nat) := (true, [([], []), ([], []), ([], []), ([1, 2], [1, 2]), ([3], [3]), ([4], [4]), ([0, 5, 5], [0, 5]), ([6], [6]), ([7], [7]), ([7], [7]), ([], []), ([10, 8, 6, 0, 1, 2, 3, 4, 5, 6, 7, 8, 10], [8, 10]), ([9, 11, 0, 1, 2, 3, 4, 5, 6, 7, 8, 9, 10, 11], [9])])
def lwi11.B : List Nat := [0, 0, 0, 6, 14, 30, 63, 127, 255, 255, 0, 1535, 4095]
theorem lwi11.tab : rtab .any (opsOf Try.f4 11) = lwi11.T := by kernel_rfl
theorem lwi11.bits : waitsOk lwi11.T.2 lwi11.B = true := by kernel_rfl
def lwi19.T : Bool × List (List Nat × List Nat) := (true, [([], []), ([], []), ([1], [1]), ([2], [2]), ([0, 3, 3], [0, 3]), ([4], [4]), ([5], [5]), ([5], [5]), ([5], [5]), ([], []), ([], []), ([9, 6, 4, 0, 1, 2, 3, 4, 5, 6, 9, 10], [6, 9]), ([10, 7, 11, 0, 1, 2, 3, 4, 5, 6, 7, 9, 10, 11], [7, 10]), ([8, 12, 0, 1, 2, 3, 4, 5, 6, 7, 8, 9, 10, 11, 12], [8])])
def lwi19.B : List Nat := [0, 0, 2, 6, 15, 31, 63, 63, 63, 0, 0, 1663, 3839, 8191]
theorem lwi19.tab : rtab .any (opsOf Try.f4 19) = lwi19.T := by kernel_rfl
theorem lwi19.bits : waitsOk lwi19.T.2 lwi19.B = true := by kernel_rfl
theorem countP_snoc (p : Int → Bool) {l : List Int} {i : Nat} (h : i < l.length) : (l.take (i + 1)).countP p = (l.take i).countP p + (if p (rd l (i : Nat)) = true then 1 else 0) := by
  rw [rdE h, List.take_succ_eq_append_getElem h, List.countP_append, List.countP_singleton]
theorem perm_sumW {a b : List Int} (h : a.Perm b) : a.sum = b.sum := by
  induction h with
  | nil => rfl
  | cons x _ ih => simp only [List.sum_cons, ih]
  | swap x y l => simp only [List.sum_cons]; omega
  | trans _ _ h1 h2 => exact h1.trans h2
theorem small64 {n : Nat} (h : n ≤ 2097152) : IntKind.i64.wrap (n : Int) = (n : Int) ∧ wrap64 (n : Int) = (n : Int) := by
  have h2 : wrap64 (n : Int) = (n : Int) := by unfold wrap64; omega
  exact ⟨(i64_w _).trans h2, h2⟩
theorem next64 {i N : Nat} (h : i < N) (h2 : N ≤ 1048576) : wrap64 ((i : Int) + 1) = ((i + 1 : Nat) : Int) := by
  have := (small64 (n := i + 1) (by omega)).2
  rw [← this]
  rfl
theorem twice64 {n : Nat} (h : n ≤ 1048576) : IntKind.i64.wrap (2 * (n : Int)) = 2 * (n : Int) ∧ wrap64 (2 * (n : Int)) = 2 * (n : Int) := by
  have h2 : wrap64 (2 * (n : Int)) = 2 * (n : Int) := by unfold wrap64; omega
  exact ⟨(i64_w _).trans h2, h2⟩
theorem diff64 {a b : Int} (ha : smp a) (hb : smp b) : IntKind.i64.wrap (a - b) = a - b ∧ wrap64 (a - b) = a - b := by
  unfold smp at ha hb
  have h2 : wrap64 (a - b) = a - b := by unfold wrap64; omega
  exact ⟨(i64_w _).trans h2, h2⟩
theorem sum_inW {l : List Int} (hs : ∀ x ∈ l, smp x) (hl : l.length ≤ 1048576) (i : Nat) : inW (l.take i).sum ∧ 0 ≤ (l.take i).sum ∧ (l.take i).sum ≤ 170141183460469231731687303715884105727 := by
  have h := sum_smp (l := l.take i) (fun y hy => hs y (List.mem_of_mem_take hy))
  have h2 : (l.take i).length ≤ 1048576 := by rw [List.length_take]; omega
  unfold inW
  generalize (l.take i).length = n at h h2
  omega
theorem smp_W {x : Int} (h : smp x) : inW x ∧ in64 x := by
  unfold smp at h
  unfold inW in64
  omega
theorem n_in64 {n : Nat} (h : n ≤ 1048576) : in64 (n : Int) := by unfold in64; omega
theorem n_pos {n : Nat} (h0 : 1 ≤ n) (h : n ≤ 1048576) : 1 ≤ (n : Int) ∧ (n : Int) ≤ 9223372036854775807 := by omega
theorem me_in64 {m : Int} (h : 0 ≤ m ∧ m ≤ 100000000000000) : in64 m := by unfold in64; omega
set_option maxHeartbeats 6400000 in
set_option maxRecDepth 8000 in
theorem within_ok (HM : MergeOk) {w : World} {A : Option Addr} {c : Nat} {l : List Int} (h : Kd.C (Kd.int .i64) w A l.length l) (h0 : 1 ≤ l.length) (hc : l.length ≤ c) (hl : l.length ≤ 1048576) (hs : ∀ x ∈ l, smp x) :
    Calls Try.prog 4 #[.slice A l.length c] w fun e w' => e = .returned (.bool true) ∧ Below w.heap.size w w' := by
  have HWI := Aside0.mk (within_of h0)
  obtain ⟨s, hsdef⟩ : ∃ s, s = sortP l := ⟨_, rfl⟩
  have sl : s.length = l.length := by rw [hsdef]; exact (sortP_perm l).length_eq
  have ss : ∀ x ∈ s, smp x := fun x hx => hs x ((sortP_perm l).mem_iff.1 (by rw [← hsdef]; exact hx))
  have hsum : s.sum = l.sum := by rw [hsdef]; exact perm_sumW (sortP_perm l)
  have HOF := Aside0.mk (timer_Of HM h hc h0 hl hs)
  rw [← hsdef] at HOF
  obtain ⟨N, hN⟩ : ∃ n, n = l.length := ⟨_, rfl⟩
  have hNs : s.length = N := sl.trans hN.symm
  obtain ⟨x0, hx0⟩ : ∃ x, x = rd s 0 := ⟨_, rfl⟩
  obtain ⟨xk, hxk⟩ : ∃ x, x = rd s (s.length - 1 : Nat) := ⟨_, rfl⟩
  obtain ⟨me, hme⟩ : ∃ m, m = meanP s := ⟨_, rfl⟩
  obtain ⟨md, hmd⟩ : ∃ m, m = medP s := ⟨_, rfl⟩
  obtain ⟨dv, hdv⟩ : ∃ m, m = devP s := ⟨_, rfl⟩
  obtain ⟨ua, hua⟩ : ∃ m, m = hiW s.sum := ⟨_, rfl⟩
  obtain ⟨ub, hub⟩ : ∃ m, m = loW s.sum := ⟨_, rfl⟩
  have hst : statA s = #[.int .i64 (N : Int), .int .i64 ua, .int .u64 ub, .int .i64 x0, .int .i64 xk, .int .i64 me, .int .i64 md, .int .i64 dv] := by unfold statA; rw [hNs, hua, hub, hx0, hxk, hme, hmd, hdv, hNs]
  rw [hst] at HOF
  have rx0 : smp x0 := by
    have := rd_smp ss (i := 0) (by omega)
    rw [hx0]
    exact this
  have rxk : smp xk := by rw [hxk]; exact rd_smp ss (by omega)
  have hmr := mean_rng ss (by omega)
  have W1 := Aside0.mk (show ∀ x ∈ l, x0 ≤ x ∧ x ≤ xk from fun x hx => ⟨by rw [hx0]; have := HWI.out.low x hx; rwa [← hsdef] at this, by rw [hxk]; have := HWI.out.high x hx; rwa [← hsdef] at this⟩)
  have b1 := HWI.out.mean
  have b2 := HWI.out.med
  have b3 := HWI.out.dev
  have b4 := HWI.out.cl
  have b5 := HWI.out.ch
  rw [← hsdef] at b1 b2 b3 b4 b5
  rw [← hx0, ← hxk, ← hme] at b1
  rw [← hx0, ← hxk, ← hmd] at b2
  rw [← hx0, ← hxk, ← hdv] at b3
  rw [← hmd] at b4 b5
  rw [← hme] at hmr
  have HCT := Aside0.mk (And.intro b4 b5)
  have HME := Aside0.mk (show l.sum / (N : Int) = me by rw [hme, ← hsum, ← hNs]; rfl)
  rw [hsum] at hua hub
  have HUA := Aside0.mk (And.intro hua hub)
  have d1 : decide (me < x0) = false := decide_eq_false (by omega)
  have d2 : decide (xk < me) = false := decide_eq_false (by omega)
  have d3 : decide (md < x0) = false := decide_eq_false (by omega)
  have d4 : decide (xk < md) = false := decide_eq_false (by omega)
  have d5 : decide (dv < 0) = false := decide_eq_false (by omega)
  have d6 : decide (xk - x0 < dv) = false := decide_eq_false (by omega)
  have hd := diff64 rxk rx0
  have e1 := hd.1
  have e2 := hd.2
  have d0 : ((N : Int) == 0) = false := beq_eq_false_iff_ne.mpr (by omega)
  have HO0 := Aside0.mk (fun W => (show Calls Try.prog 15 #[.int .i64 0] W (fun e w' => e = .returned (.agg #[.int .i64 0, .int .u64 0]) ∧ Below W.heap.size W w') from wide_Of W (by unfold in64; omega)))
  have HAL := Aside0.mk (fun W => law_alive HM W)
  have HMR := Aside0.mk hmr
  rw [← hN] at HOF h hl hc h0 ⊢
  have HCA := Aside0.mk h
  have HLS := Aside0.mk hs
  have HNL := Aside0.mk hN
  have HLL := Aside0.mk hl
  have HNP := Aside0.mk h0
  clear h hs hN hNs hsdef sl ss hsum hx0 hxk hme hmd hdv hua hub hst rx0 rxk hmr b1 b2 b3 b4 b5 hd hl h0 HWI HM
  go_enter Try.func4, Try.ntmps4
  go_upto_region 4 with (first
    | (go_at_call 12; (with_reducible refine (HOF.out).mono ?_); rintro e w1 ⟨rfl, hb⟩; have HB1 := Aside0.mk hb; clear hb))
  have m3 := heap_alloc_new w1 (.cells #[.int .i64 (N : Int), .int .i64 ua, .int .u64 ub, .int .i64 x0, .int .i64 xk, .int .i64 me, .int .i64 md, .int .i64 dv] 27 (0, 0))
  have bb := HB1.out.alloc HB1.out.size (.cells #[.int .i64 (N : Int), .int .i64 ua, .int .u64 ub, .int .i64 x0, .int .i64 xk, .int .i64 me, .int .i64 md, .int .i64 dv] 27 (0, 0))
  obtain ⟨W3, hW3⟩ : ∃ W, W = w1.alloc (.cells #[.int .i64 (N : Int), .int .i64 ua, .int .u64 ub, .int .i64 x0, .int .i64 xk, .int .i64 me, .int .i64 md, .int .i64 dv] 27 (0, 0)) := ⟨_, rfl⟩
  rw [← hW3] at m3 bb ⊢
  obtain ⟨g3, hg3⟩ : ∃ g, g = w1.heap.size := ⟨_, rfl⟩
  rw [← hg3] at m3 ⊢
  have k0 := blk_cell m3 0
  have k3 := blk_cell m3 3
  have k4 := blk_cell m3 4
  have k5 := blk_cell m3 5
  have k6 := blk_cell m3 6
  have k7 := blk_cell m3 7
  have T3_ := Aside0.mk m3
  have BW_ := Aside0.mk bb
  have hb0 : w.heap.size ≤ g3 := by rw [hg3]; exact HB1.out.size
  clear m3 bb hW3 hg3 HB1
  go_upto_region 8 with (first
    | (go_at_call 15; (with_reducible refine (HO0.out _).mono ?_); rintro e w2 ⟨rfl, hb⟩; have HB2 := Aside0.mk (hop BW_.out hb); have T3__ := Aside0.mk ((hb.block _ (blk_lt T3_.out)).trans T3_.out); clear hb))
  have m5 := heap_alloc_new w2 (.cells #[.int .i64 0, .int .u64 0] 25 (0, 0))
  have bb := HB2.out.alloc HB2.out.size (.cells #[.int .i64 0, .int .u64 0] 25 (0, 0))
  have m3 := blk_alloc T3__.out (.cells #[.int .i64 0, .int .u64 0] 25 (0, 0))
  have hg35 : g3 < w2.heap.size := blk_lt T3__.out
  obtain ⟨W5, hW5⟩ : ∃ W, W = w2.alloc (.cells #[.int .i64 0, .int .u64 0] 25 (0, 0)) := ⟨_, rfl⟩
  rw [← hW5] at m5 bb m3 ⊢
  obtain ⟨g5, hg5⟩ : ∃ g, g = w2.heap.size := ⟨_, rfl⟩
  rw [← hg5] at m5 hg35 ⊢
  have T5S := Aside0.mk m5
  have T3S := Aside0.mk m3
  have BWS := Aside0.mk bb
  clear m5 bb m3 hW5 hg5 HB2 T3__ T3_ BW_ k0 k3 k4 k5 k6 k7 d1 d2 d3 d4 d5 d6 e1 e2 d0
  go_wp2_with (fail)
  go_loopg [6, 7, 8] N (fun kq v6 v7 v8 w' => ∃ i : Nat, v6 = .int .i64 (((l.take i).countP (leM md) : Nat) : Int) ∧ v7 = .int .i64 (((l.take i).countP (geM md) : Nat) : Int) ∧ v8 = .int .i64 i ∧ i + kq = N ∧ Aside0 (w'.heap[g5]? = some (.cells #[.int .i64 (hiW (l.take i).sum), .int .u64 (loW (l.take i).sum)] 25 (0, 0))) ∧ Aside0 (w'.heap[g3]? = some (.cells #[.int .i64 (N : Int), .int .i64 ua, .int .u64 ub, .int .i64 x0, .int .i64 xk, .int .i64 me, .int .i64 md, .int .i64 dv] 27 (0, 0))) ∧ Aside0 (Below w.heap.size w w'))
  case atStart => exact ⟨0, rfl, rfl, rfl, by omega, T5S, T3S, BWS⟩
  case round =>
    clear T5S T3S BWS
    obtain ⟨i, rfl, rfl, rfl, hik, T5, T3, BW⟩ := hrel
    cases gk with
    | zero =>
      obtain rfl : N = i := by omega
      have d1 : decide (N < N) = false := decide_eq_false (by omega)
      have htk : l.take N = l := by rw [HNL.out, List.take_length]
      rw [htk] at T5 ⊢
      have hsj := sum_inW HLS.out (by rw [← HNL.out]; exact HLL.out) N
      rw [htk] at hsj
      obtain ⟨lo, hlo⟩ : ∃ n, n = l.countP (leM md) := ⟨_, rfl⟩
      obtain ⟨hi, hhi⟩ : ∃ n, n = l.countP (geM md) := ⟨_, rfl⟩
      have hct := HCT.out
      rw [← hlo, ← hhi, ← HNL.out] at hct
      have hlo2 : lo ≤ N := by rw [hlo, HNL.out]; exact List.countP_le_length
      have hhi2 : hi ≤ N := by rw [hhi, HNL.out]; exact List.countP_le_length
      rw [← hlo, ← hhi]
      have HON := Aside0.mk (fun W => wide_Of (z := (N : Int)) W (n_in64 HLL.out))
      have HQ := Aside0.mk (fun W => wide_Quo (x := l.sum) (y := (N : Int)) W hsj.2 (n_pos HNP.out HLL.out))
      have HOM := Aside0.mk (fun W => wide_Of (z := me) W (me_in64 HMR.out))
      rw [HME.out] at HQ
      unfold WV at HON HQ HOM
      rw [← HUA.out.1, ← HUA.out.2] at T5 HQ
      obtain ⟨na, hna⟩ : ∃ a, a = hiW (N : Int) := ⟨_, rfl⟩
      obtain ⟨nb, hnb⟩ : ∃ a, a = loW (N : Int) := ⟨_, rfl⟩
      obtain ⟨ma, hma⟩ : ∃ a, a = hiW me := ⟨_, rfl⟩
      obtain ⟨mb, hmb⟩ : ∃ a, a = loW me := ⟨_, rfl⟩
      obtain ⟨ra, hra⟩ : ∃ a, a = hiW (l.sum % (N : Int)) := ⟨_, rfl⟩
      obtain ⟨rb, hrb⟩ : ∃ a, a = loW (l.sum % (N : Int)) := ⟨_, rfl⟩
      rw [← hna, ← hnb] at HON
      rw [← hna, ← hnb, ← hma, ← hmb, ← hra, ← hrb] at HQ
      rw [← hma, ← hmb] at HOM
      have w1 := (twice64 (n := lo) (Nat.le_trans hlo2 HLL.out)).1
      have w2 := (twice64 (n := lo) (Nat.le_trans hlo2 HLL.out)).2
      have w3 := (twice64 (n := hi) (Nat.le_trans hhi2 HLL.out)).1
      have w4 := (twice64 (n := hi) (Nat.le_trans hhi2 HLL.out)).2
      have c1 : decide ((N : Int) ≤ 2 * (lo : Int)) = true := decide_eq_true (by omega)
      have c2 : decide ((N : Int) ≤ 2 * (hi : Int)) = true := decide_eq_true (by omega)
      clear hna hnb hma hmb hra hrb hct hlo2 hhi2 hlo hhi hsj htk
      go_upto_region 19 with (fail)
      have HB := Aside0.mk (show Below wr.heap.size wr wr.drew from (Below.refl _ _).drew)
      have D9_10 : True := trivial
      refine start_ (n := 14) (S := fun w' => True) (ds := []) #[false, false, false, false, false, false, false, false, false, false, false, false, false, false] (by kernel_rfl) rfl rfl trivial (fun hHeld => ?_)
      refine with_tabW lwi19.tab lwi19.bits (fun HT_ HW_ => ?_)
      refine inv_at [0, 1, 2, 3, 4, 5, 6, 7, 8, 9, 10, 11, 12, 13] (fun a0_ b a w' => ∃ (g11 : Nat) (g12 : Nat) (m9_ : Value) (m10_ : Value), a = putSel a0_ b [(0, 155, .agg #[.int .i64 ua, .int .u64 ub]), (1, 156, .slice A N c), (2, 157, .int .i64 (N : Int)), (3, 158, .agg #[.int .i64 na, .int .u64 nb]), (4, 159, .tuple #[.agg #[.int .i64 ma, .int .u64 mb], .agg #[.int .i64 ra, .int .u64 rb], .int .i64 0]), (5, 154, .tuple #[.agg #[.int .i64 ma, .int .u64 mb], .agg #[.int .i64 ra, .int .u64 rb], .int .i64 0]), (6, 160, .agg #[.int .i64 ma, .int .u64 mb]), (7, 161, .agg #[.int .i64 ra, .int .u64 rb]), (8, 162, .int .i64 0), (9, 11, m9_), (10, 12, m10_), (13, 13, .int .i64 0)] ∧ (Below wr.heap.size wr w') ∧ (b 9 = true → wr.heap.size ≤ g11) ∧ (b 9 = true → g11 < w'.heap.size) ∧ (b 9 = true → b 11 = false → w'.heap[g11]? = some (.cells #[.int .i64 0, .int .u64 0] 25 (0, 0))) ∧ (b 9 = true → b 11 = true → w'.heap[g11]? = some (.cells #[.int .i64 ma, .int .u64 mb] 25 (0, 0))) ∧ (b 10 = true → wr.heap.size ≤ g12) ∧ (b 10 = true → g12 < w'.heap.size) ∧ (b 10 = true → b 12 = false → w'.heap[g12]? = some (.cells #[.int .i64 0, .int .u64 0] 25 (0, 0))) ∧ (b 10 = true → b 12 = true → w'.heap[g12]? = some (.cells #[.int .i64 ra, .int .u64 rb] 25 (0, 0))) ∧ ((b 9 = true → b 10 = true → g11 ≠ g12)) ∧ (b 9 = true → (m9_ : Value) = .pointer (some ⟨g11, 0, none⟩)) ∧ (b 10 = true → (m10_ : Value) = .pointer (some ⟨g12, 0, none⟩))) HT_.out HW_.out (by kernel_rfl) (by kernel_rfl) ?_ ?_ ?_
      · exact ⟨0, 0, .bool false, .bool false, by simp only [putSel, Bool.false_eq_true, if_false], HB.out, fun h_ => absurd h_ (by decide), fun h_ => absurd h_ (by decide), fun h_ => absurd h_ (by decide), fun h_ => absurd h_ (by decide), fun h_ => absurd h_ (by decide), fun h_ => absurd h_ (by decide), fun h_ => absurd h_ (by decide), fun h_ => absurd h_ (by decide), fun h_ => absurd h_ (by decide), fun h_ => absurd h_ (by decide), fun h_ => absurd h_ (by decide)⟩
      · skip
        clear D9_10 HB
        refine steps_cons ?_ ?_
        · rintro b a w' ⟨g11, g12, m9_, m10_, ha, Q_HB, Q_G9, Q_L9, Q_Z9, Q_N11, Q_G10, Q_L10, Q_Z10, Q_N12, Q_D9_10, Q_X9_, Q_X10_⟩ hb_ hon hoff
          refine ⟨_, rfl, fun K hK => ?_⟩
          have e5 : a.tmps[5]? = some (.pointer (some ⟨g5, 0, none⟩)) := by rw [ha]; exact (putSel_off rfl).trans rfl
          replace ha := Aside0.mk ha
          have HB := Aside0.mk Q_HB
          have D9_10 := Aside0.mk Q_D9_10
          have k0 := blk_cell ((HB.out.block _ (blk_lt T5.out)).trans T5.out) 0
          have k1 := blk_cell ((HB.out.block _ (blk_lt T5.out)).trans T5.out) 1
          refine value_ (w1 := w') (v := .agg #[.int .i64 ua, .int .u64 ub]) (by rfl) rfl ?_ ?_
          · go_simp
            (try simp only [i64_w])
            try rfl
            try assumption
            try (unfold wrap64; omega)
          refine hK.out _ _ ⟨g11, g12, m9_, m10_, (by rw [ha.out]; exact putSel_upk 0 hb_ rfl rfl rfl), Q_HB, Q_G9, Q_L9, Q_Z9, fun _ h1_ => absurd ((hoff 11 (by kernel_rfl)).symm.trans h1_) (by decide), Q_G10, Q_L10, Q_Z10, fun _ h1_ => absurd ((hoff 12 (by kernel_rfl)).symm.trans h1_) (by decide), Q_D9_10, Q_X9_, Q_X10_⟩
        refine steps_cons ?_ ?_
        · rintro b a w' ⟨g11, g12, m9_, m10_, ha, Q_HB, Q_G9, Q_L9, Q_Z9, Q_N11, Q_G10, Q_L10, Q_Z10, Q_N12, Q_D9_10, Q_X9_, Q_X10_⟩ hb_ hon hoff
          refine ⟨_, rfl, fun K hK => ?_⟩
          have e0 : a.tmps[0]? = some (.slice A N c) := by rw [ha]; exact (putSel_off rfl).trans rfl
          replace ha := Aside0.mk ha
          have HB := Aside0.mk Q_HB
          have D9_10 := Aside0.mk Q_D9_10
          refine value_ (w1 := w') (v := .slice A N c) (by rfl) rfl ?_ ?_
          · go_simp
            (try simp only [i64_w])
            try rfl
            try assumption
            try (unfold wrap64; omega)
          refine hK.out _ _ ⟨g11, g12, m9_, m10_, (by rw [ha.out]; exact putSel_upk 1 hb_ rfl rfl rfl), Q_HB, Q_G9, Q_L9, Q_Z9, fun _ h1_ => absurd ((hoff 11 (by kernel_rfl)).symm.trans h1_) (by decide), Q_G10, Q_L10, Q_Z10, fun _ h1_ => absurd ((hoff 12 (by kernel_rfl)).symm.trans h1_) (by decide), Q_D9_10, Q_X9_, Q_X10_⟩
        refine steps_cons ?_ ?_
        · rintro b a w' ⟨g11, g12, m9_, m10_, ha, Q_HB, Q_G9, Q_L9, Q_Z9, Q_N11, Q_G10, Q_L10, Q_Z10, Q_N12, Q_D9_10, Q_X9_, Q_X10_⟩ hb_ hon hoff
          refine ⟨_, rfl, fun K hK => ?_⟩
          have e156 : a.tmps[156]? = some (.slice A N c) := by rw [ha]; exact putSel_on (e := (1, 156, .slice A N c)) 1 rfl rfl (hon 1 (by kernel_rfl)) rfl
          replace ha := Aside0.mk ha
          have HB := Aside0.mk Q_HB
          have D9_10 := Aside0.mk Q_D9_10
          refine value_ (w1 := w') (v := .int .i64 (N : Int)) (by rfl) rfl ?_ ?_
          · go_simp
            (try simp only [i64_w])
            try rfl
            try assumption
            try (unfold wrap64; omega)
          refine hK.out _ _ ⟨g11, g12, m9_, m10_, (by rw [ha.out]; exact putSel_upk 2 hb_ rfl rfl rfl), Q_HB, Q_G9, Q_L9, Q_Z9, fun _ h1_ => absurd ((hoff 11 (by kernel_rfl)).symm.trans h1_) (by decide), Q_G10, Q_L10, Q_Z10, fun _ h1_ => absurd ((hoff 12 (by kernel_rfl)).symm.trans h1_) (by decide), Q_D9_10, Q_X9_, Q_X10_⟩
        refine steps_cons ?_ ?_
        · rintro b a w' ⟨g11, g12, m9_, m10_, ha, Q_HB, Q_G9, Q_L9, Q_Z9, Q_N11, Q_G10, Q_L10, Q_Z10, Q_N12, Q_D9_10, Q_X9_, Q_X10_⟩ hb_ hon hoff
          refine ⟨_, rfl, fun K hK => ?_⟩
          have e157 : a.tmps[157]? = some (.int .i64 (N : Int)) := by rw [ha]; exact putSel_on (e := (2, 157, .int .i64 (N : Int))) 2 rfl rfl (hon 2 (by kernel_rfl)) rfl
          replace ha := Aside0.mk ha
          have HB := Aside0.mk Q_HB
          have D9_10 := Aside0.mk Q_D9_10
          refine goes_ Try.func15 (by kernel_rfl) rfl #[.int .i64 (N : Int)] (by rfl) rfl rfl (by first | (simp only [List.map_toArray, List.map_cons, List.map_nil, Act.eval, Array.getD_eq_getD_getElem?, Option.getD_some, e157]; done) | (simp only [List.map_toArray, List.map_cons, List.map_nil, Act.eval, Array.getD_eq_getD_getElem?, Option.getD_some, e157]; rfl)) ?_
          with_reducible refine (HON.out _).mono ?_
          rintro e w1 ⟨rfl, hb⟩
          refine ⟨_, rfl, ?_⟩
          refine hK.out _ _ ⟨g11, g12, m9_, m10_, (by rw [ha.out]; exact putSel_upk 3 hb_ rfl rfl rfl), hop HB.out hb, Q_G9, fun h9 => Nat.lt_of_lt_of_le (Q_L9 h9) hb.size, fun h9 h11 => (hb.block _ (blk_lt (Q_Z9 h9 h11))).trans (Q_Z9 h9 h11), fun _ h1_ => absurd ((hoff 11 (by kernel_rfl)).symm.trans h1_) (by decide), Q_G10, fun h10 => Nat.lt_of_lt_of_le (Q_L10 h10) hb.size, fun h10 h12 => (hb.block _ (blk_lt (Q_Z10 h10 h12))).trans (Q_Z10 h10 h12), fun _ h1_ => absurd ((hoff 12 (by kernel_rfl)).symm.trans h1_) (by decide), Q_D9_10, Q_X9_, Q_X10_⟩
        refine steps_cons ?_ ?_
        · rintro b a w' ⟨g11, g12, m9_, m10_, ha, Q_HB, Q_G9, Q_L9, Q_Z9, Q_N11, Q_G10, Q_L10, Q_Z10, Q_N12, Q_D9_10, Q_X9_, Q_X10_⟩ hb_ hon hoff
          refine ⟨_, rfl, fun K hK => ?_⟩
          have e155 : a.tmps[155]? = some (.agg #[.int .i64 ua, .int .u64 ub]) := by rw [ha]; exact putSel_on (e := (0, 155, .agg #[.int .i64 ua, .int .u64 ub])) 0 rfl rfl (hon 0 (by kernel_rfl)) rfl
          have e158 : a.tmps[158]? = some (.agg #[.int .i64 na, .int .u64 nb]) := by rw [ha]; exact putSel_on (e := (3, 158, .agg #[.int .i64 na, .int .u64 nb])) 3 rfl rfl (hon 3 (by kernel_rfl)) rfl
          replace ha := Aside0.mk ha
          have HB := Aside0.mk Q_HB
          have D9_10 := Aside0.mk Q_D9_10
          refine goes_ Try.func17 (by kernel_rfl) rfl #[.agg #[.int .i64 ua, .int .u64 ub], .agg #[.int .i64 na, .int .u64 nb]] (by rfl) rfl rfl (by first | (simp only [List.map_toArray, List.map_cons, List.map_nil, Act.eval, Array.getD_eq_getD_getElem?, Option.getD_some, e155, e158]; done) | (simp only [List.map_toArray, List.map_cons, List.map_nil, Act.eval, Array.getD_eq_getD_getElem?, Option.getD_some, e155, e158]; rfl)) ?_
          with_reducible refine (HQ.out _).mono ?_
          rintro e w1 ⟨rfl, hb⟩
          refine ⟨_, rfl, ?_⟩
          refine hK.out _ _ ⟨g11, g12, m9_, m10_, (by rw [ha.out]; exact putSel_upk 4 hb_ rfl rfl rfl), hop HB.out hb, Q_G9, fun h9 => Nat.lt_of_lt_of_le (Q_L9 h9) hb.size, fun h9 h11 => (hb.block _ (blk_lt (Q_Z9 h9 h11))).trans (Q_Z9 h9 h11), fun _ h1_ => absurd ((hoff 11 (by kernel_rfl)).symm.trans h1_) (by decide), Q_G10, fun h10 => Nat.lt_of_lt_of_le (Q_L10 h10) hb.size, fun h10 h12 => (hb.block _ (blk_lt (Q_Z10 h10 h12))).trans (Q_Z10 h10 h12), fun _ h1_ => absurd ((hoff 12 (by kernel_rfl)).symm.trans h1_) (by decide), Q_D9_10, Q_X9_, Q_X10_⟩
        refine steps_cons ?_ ?_
        · rintro b a w' ⟨g11, g12, m9_, m10_, ha, Q_HB, Q_G9, Q_L9, Q_Z9, Q_N11, Q_G10, Q_L10, Q_Z10, Q_N12, Q_D9_10, Q_X9_, Q_X10_⟩ hb_ hon hoff
          refine ⟨_, rfl, fun K hK => ?_⟩
          have e159 : a.tmps[159]? = some (.tuple #[.agg #[.int .i64 ma, .int .u64 mb], .agg #[.int .i64 ra, .int .u64 rb], .int .i64 0]) := by rw [ha]; exact putSel_on (e := (4, 159, .tuple #[.agg #[.int .i64 ma, .int .u64 mb], .agg #[.int .i64 ra, .int .u64 rb], .int .i64 0])) 4 rfl rfl (hon 4 (by kernel_rfl)) rfl
          replace ha := Aside0.mk ha
          have HB := Aside0.mk Q_HB
          have D9_10 := Aside0.mk Q_D9_10
          refine value_ (w1 := w') (v := .tuple #[.agg #[.int .i64 ma, .int .u64 mb], .agg #[.int .i64 ra, .int .u64 rb], .int .i64 0]) (by rfl) rfl ?_ ?_
          · go_simp
            (try simp only [i64_w])
            try rfl
            try assumption
            try (unfold wrap64; omega)
          refine hK.out _ _ ⟨g11, g12, m9_, m10_, (by rw [ha.out]; exact putSel_upk 5 hb_ rfl rfl rfl), Q_HB, Q_G9, Q_L9, Q_Z9, fun _ h1_ => absurd ((hoff 11 (by kernel_rfl)).symm.trans h1_) (by decide), Q_G10, Q_L10, Q_Z10, fun _ h1_ => absurd ((hoff 12 (by kernel_rfl)).symm.trans h1_) (by decide), Q_D9_10, Q_X9_, Q_X10_⟩
        refine steps_cons ?_ ?_
        · rintro b a w' ⟨g11, g12, m9_, m10_, ha, Q_HB, Q_G9, Q_L9, Q_Z9, Q_N11, Q_G10, Q_L10, Q_Z10, Q_N12, Q_D9_10, Q_X9_, Q_X10_⟩ hb_ hon hoff
          refine ⟨_, rfl, fun K hK => ?_⟩
          have e154 : a.tmps[154]? = some (.tuple #[.agg #[.int .i64 ma, .int .u64 mb], .agg #[.int .i64 ra, .int .u64 rb], .int .i64 0]) := by rw [ha]; exact putSel_on (e := (5, 154, .tuple #[.agg #[.int .i64 ma, .int .u64 mb], .agg #[.int .i64 ra, .int .u64 rb], .int .i64 0])) 5 rfl rfl (hon 5 (by kernel_rfl)) rfl
          replace ha := Aside0.mk ha
          have HB := Aside0.mk Q_HB
          have D9_10 := Aside0.mk Q_D9_10
          refine value_ (w1 := w') (v := .agg #[.int .i64 ma, .int .u64 mb]) (by rfl) rfl ?_ ?_
          · go_simp
            (try simp only [i64_w])
            try rfl
            try assumption
            try (unfold wrap64; omega)
          refine hK.out _ _ ⟨g11, g12, m9_, m10_, (by rw [ha.out]; exact putSel_upk 6 hb_ rfl rfl rfl), Q_HB, Q_G9, Q_L9, Q_Z9, fun _ h1_ => absurd ((hoff 11 (by kernel_rfl)).symm.trans h1_) (by decide), Q_G10, Q_L10, Q_Z10, fun _ h1_ => absurd ((hoff 12 (by kernel_rfl)).symm.trans h1_) (by decide), Q_D9_10, Q_X9_, Q_X10_⟩
        refine steps_cons ?_ ?_
        · rintro b a w' ⟨g11, g12, m9_, m10_, ha, Q_HB, Q_G9, Q_L9, Q_Z9, Q_N11, Q_G10, Q_L10, Q_Z10, Q_N12, Q_D9_10, Q_X9_, Q_X10_⟩ hb_ hon hoff
          refine ⟨_, rfl, fun K hK => ?_⟩
          have e154 : a.tmps[154]? = some (.tuple #[.agg #[.int .i64 ma, .int .u64 mb], .agg #[.int .i64 ra, .int .u64 rb], .int .i64 0]) := by rw [ha]; exact putSel_on (e := (5, 154, .tuple #[.agg #[.int .i64 ma, .int .u64 mb], .agg #[.int .i64 ra, .int .u64 rb], .int .i64 0])) 5 rfl rfl (hon 5 (by kernel_rfl)) rfl
          replace ha := Aside0.mk ha
          have HB := Aside0.mk Q_HB
          have D9_10 := Aside0.mk Q_D9_10
          refine value_ (w1 := w') (v := .agg #[.int .i64 ra, .int .u64 rb]) (by rfl) rfl ?_ ?_
          · go_simp
            (try simp only [i64_w])
            try rfl
            try assumption
            try (unfold wrap64; omega)
          refine hK.out _ _ ⟨g11, g12, m9_, m10_, (by rw [ha.out]; exact putSel_upk 7 hb_ rfl rfl rfl), Q_HB, Q_G9, Q_L9, Q_Z9, Q_N11, Q_G10, Q_L10, Q_Z10, fun _ h1_ => absurd ((hoff 12 (by kernel_rfl)).symm.trans h1_) (by decide), Q_D9_10, Q_X9_, Q_X10_⟩
        refine steps_cons ?_ ?_
        · rintro b a w' ⟨g11, g12, m9_, m10_, ha, Q_HB, Q_G9, Q_L9, Q_Z9, Q_N11, Q_G10, Q_L10, Q_Z10, Q_N12, Q_D9_10, Q_X9_, Q_X10_⟩ hb_ hon hoff
          refine ⟨_, rfl, fun K hK => ?_⟩
          have e154 : a.tmps[154]? = some (.tuple #[.agg #[.int .i64 ma, .int .u64 mb], .agg #[.int .i64 ra, .int .u64 rb], .int .i64 0]) := by rw [ha]; exact putSel_on (e := (5, 154, .tuple #[.agg #[.int .i64 ma, .int .u64 mb], .agg #[.int .i64 ra, .int .u64 rb], .int .i64 0])) 5 rfl rfl (hon 5 (by kernel_rfl)) rfl
          replace ha := Aside0.mk ha
          have HB := Aside0.mk Q_HB
          have D9_10 := Aside0.mk Q_D9_10
          refine value_ (w1 := w') (v := .int .i64 0) (by rfl) rfl ?_ ?_
          · go_simp
            (try simp only [i64_w])
            try rfl
            try assumption
            try (unfold wrap64; omega)
          refine hK.out _ _ ⟨g11, g12, m9_, m10_, (by rw [ha.out]; exact putSel_upk 8 hb_ rfl rfl rfl), Q_HB, Q_G9, Q_L9, Q_Z9, Q_N11, Q_G10, Q_L10, Q_Z10, Q_N12, Q_D9_10, Q_X9_, Q_X10_⟩
        refine steps_cons ?_ ?_
        · rintro b a w' ⟨g11, g12, m9_, m10_, ha, Q_HB, Q_G9, Q_L9, Q_Z9, Q_N11, Q_G10, Q_L10, Q_Z10, Q_N12, Q_D9_10, Q_X9_, Q_X10_⟩ hb_ hon hoff
          refine ⟨_, rfl, fun K hK => ?_⟩
          replace ha := Aside0.mk ha
          have HB := Aside0.mk Q_HB
          have D9_10 := Aside0.mk Q_D9_10
          have hb := (Below.refl w'.heap.size w').alloc (Nat.le_refl _) (.cells #[.int .i64 0, .int .u64 0] 25 (0, 0))
          refine value_ (w1 := w'.alloc (.cells #[.int .i64 0, .int .u64 0] 25 (0, 0))) (v := .pointer (some ⟨w'.heap.size, 0, none⟩)) (by rfl) rfl ?_ ?_
          · go_simp
            try rfl
            try assumption
            try (unfold wrap64; omega)
          refine hK.out _ _ ⟨w'.heap.size, g12, (.pointer (some ⟨w'.heap.size, 0, none⟩)), m10_, (by rw [ha.out]; exact putSel_upk 9 hb_ rfl rfl rfl), hop HB.out hb, fun _ => HB.out.size, fun _ => (by simp), fun _ _ => heap_alloc_new w' _, fun _ h1_ => absurd ((hoff 11 (by kernel_rfl)).symm.trans h1_) (by decide), Q_G10, fun h10 => Nat.lt_of_lt_of_le (Q_L10 h10) hb.size, fun h10 h12 => (hb.block _ (blk_lt (Q_Z10 h10 h12))).trans (Q_Z10 h10 h12), fun _ h1_ => absurd ((hoff 12 (by kernel_rfl)).symm.trans h1_) (by decide), fun h1 h2 => (fun e => by have := Q_L10 h2; omega), fun _ => rfl, Q_X10_⟩
        refine steps_cons ?_ ?_
        · rintro b a w' ⟨g11, g12, m9_, m10_, ha, Q_HB, Q_G9, Q_L9, Q_Z9, Q_N11, Q_G10, Q_L10, Q_Z10, Q_N12, Q_D9_10, Q_X9_, Q_X10_⟩ hb_ hon hoff
          refine ⟨_, rfl, fun K hK => ?_⟩
          replace ha := Aside0.mk ha
          have HB := Aside0.mk Q_HB
          have D9_10 := Aside0.mk Q_D9_10
          have hb := (Below.refl w'.heap.size w').alloc (Nat.le_refl _) (.cells #[.int .i64 0, .int .u64 0] 25 (0, 0))
          refine value_ (w1 := w'.alloc (.cells #[.int .i64 0, .int .u64 0] 25 (0, 0))) (v := .pointer (some ⟨w'.heap.size, 0, none⟩)) (by rfl) rfl ?_ ?_
          · go_simp
            try rfl
            try assumption
            try (unfold wrap64; omega)
          refine hK.out _ _ ⟨g11, w'.heap.size, m9_, (.pointer (some ⟨w'.heap.size, 0, none⟩)), (by rw [ha.out]; exact putSel_upk 10 hb_ rfl rfl rfl), hop HB.out hb, Q_G9, fun h9 => Nat.lt_of_lt_of_le (Q_L9 h9) hb.size, fun h9 h11 => (hb.block _ (blk_lt (Q_Z9 h9 h11))).trans (Q_Z9 h9 h11), fun _ h1_ => absurd ((hoff 11 (by kernel_rfl)).symm.trans h1_) (by decide), fun _ => HB.out.size, fun _ => (by simp), fun _ _ => heap_alloc_new w' _, fun _ h1_ => absurd ((hoff 12 (by kernel_rfl)).symm.trans h1_) (by decide), fun h1 h2 => (fun e => by have := Q_L9 h1; omega), Q_X9_, fun _ => rfl⟩
        refine steps_cons ?_ ?_
        · rintro b a w' ⟨g11, g12, m9_, m10_, ha, Q_HB, Q_G9, Q_L9, Q_Z9, Q_N11, Q_G10, Q_L10, Q_Z10, Q_N12, Q_D9_10, Q_X9_, Q_X10_⟩ hb_ hon hoff
          refine ⟨_, rfl, fun K hK => ?_⟩
          have e11 : a.tmps[11]? = some (m9_) := by rw [ha]; exact putSel_on (e := (9, 11, m9_)) 9 rfl rfl (hon 9 (by kernel_rfl)) rfl
          rw [Q_X9_ (hon 9 (by kernel_rfl))] at e11
          have e160 : a.tmps[160]? = some (.agg #[.int .i64 ma, .int .u64 mb]) := by rw [ha]; exact putSel_on (e := (6, 160, .agg #[.int .i64 ma, .int .u64 mb])) 6 rfl rfl (hon 6 (by kernel_rfl)) rfl
          replace ha := Aside0.mk ha
          have HB := Aside0.mk Q_HB
          have G9 := Aside0.mk (Q_G9 (hon 9 (by kernel_rfl)))
          have L9 := Aside0.mk (Q_L9 (hon 9 (by kernel_rfl)))
          have Z9 := Aside0.mk (Q_Z9 (hon 9 (by kernel_rfl)) hb_)
          have G10 := Aside0.mk (Q_G10 (hon 10 (by kernel_rfl)))
          have L10 := Aside0.mk (Q_L10 (hon 10 (by kernel_rfl)))
          have Z10 := Aside0.mk (Q_Z10 (hon 10 (by kernel_rfl)) (hoff 12 (by kernel_rfl)))
          have D9_10 := Aside0.mk Q_D9_10
          have hk : Keep w' ((w'.setCell ⟨g11, 0, none⟩ (.int .i64 ma)).setCell ⟨g11, 1, none⟩ (.int .u64 mb)) (fun k => k = g11) := (((Keep.refl w' (fun k => k = g11)).set ⟨g11, 0, none⟩ (.int .i64 ma) (.inl rfl)).set ⟨g11, 1, none⟩ (.int .u64 mb) (.inl rfl))
          have y0 := blk_cell Z9.out 0
          have y1 := blk_cell Z9.out 1
          have z0 := blk_frozen Z9.out 0
          have z1 := blk_frozen Z9.out 1
          refine skip_ (w1 := ((w'.setCell ⟨g11, 0, none⟩ (.int .i64 ma)).setCell ⟨g11, 1, none⟩ (.int .u64 mb))) (by rfl) rfl ?_ ?_
          · go_simp
            try rfl
            try assumption
            try (unfold wrap64; omega)
          refine hK.out _ _ ⟨g11, g12, m9_, m10_, (by rw [ha.out]; exact putSel_none (v := undef) rfl), HB.out.trans (hk.below HB.out.size (fun k e => by have e2 : k = g11 := e; rw [e2]; exact G9.out)), Q_G9, fun h9 => Nat.lt_of_lt_of_le (Q_L9 h9) hk.size, fun _ h1_ => absurd ((up_self b 11).symm.trans h1_) (by decide), fun _ _ => (blk_put (blk_put Z9.out 0 (.int .i64 ma) rfl) 1 (.int .u64 mb) rfl), Q_G10, fun h10 => Nat.lt_of_lt_of_le (Q_L10 h10) hk.size, fun h10 h12 => (hk.block _ (blk_lt (Q_Z10 h10 h12)) (fun e => Q_D9_10 (hon 9 (by kernel_rfl)) h10 e.symm)).trans (Q_Z10 h10 h12), fun _ h1_ => absurd ((hoff 12 (by kernel_rfl)).symm.trans h1_) (by decide), Q_D9_10, Q_X9_, Q_X10_⟩
        refine steps_cons ?_ ?_
        · rintro b a w' ⟨g11, g12, m9_, m10_, ha, Q_HB, Q_G9, Q_L9, Q_Z9, Q_N11, Q_G10, Q_L10, Q_Z10, Q_N12, Q_D9_10, Q_X9_, Q_X10_⟩ hb_ hon hoff
          refine ⟨_, rfl, fun K hK => ?_⟩
          have e12 : a.tmps[12]? = some (m10_) := by rw [ha]; exact putSel_on (e := (10, 12, m10_)) 10 rfl rfl (hon 10 (by kernel_rfl)) rfl
          rw [Q_X10_ (hon 10 (by kernel_rfl))] at e12
          have e161 : a.tmps[161]? = some (.agg #[.int .i64 ra, .int .u64 rb]) := by rw [ha]; exact putSel_on (e := (7, 161, .agg #[.int .i64 ra, .int .u64 rb])) 7 rfl rfl (hon 7 (by kernel_rfl)) rfl
          replace ha := Aside0.mk ha
          have HB := Aside0.mk Q_HB
          have G9 := Aside0.mk (Q_G9 (hon 9 (by kernel_rfl)))
          have L9 := Aside0.mk (Q_L9 (hon 9 (by kernel_rfl)))
          have N11 := Aside0.mk (Q_N11 (hon 9 (by kernel_rfl)) (hon 11 (by kernel_rfl)))
          have G10 := Aside0.mk (Q_G10 (hon 10 (by kernel_rfl)))
          have L10 := Aside0.mk (Q_L10 (hon 10 (by kernel_rfl)))
          have Z10 := Aside0.mk (Q_Z10 (hon 10 (by kernel_rfl)) hb_)
          have D9_10 := Aside0.mk Q_D9_10
          have hk : Keep w' ((w'.setCell ⟨g12, 0, none⟩ (.int .i64 ra)).setCell ⟨g12, 1, none⟩ (.int .u64 rb)) (fun k => k = g12) := (((Keep.refl w' (fun k => k = g12)).set ⟨g12, 0, none⟩ (.int .i64 ra) (.inl rfl)).set ⟨g12, 1, none⟩ (.int .u64 rb) (.inl rfl))
          have y0 := blk_cell Z10.out 0
          have y1 := blk_cell Z10.out 1
          have z0 := blk_frozen Z10.out 0
          have z1 := blk_frozen Z10.out 1
          refine skip_ (w1 := ((w'.setCell ⟨g12, 0, none⟩ (.int .i64 ra)).setCell ⟨g12, 1, none⟩ (.int .u64 rb))) (by rfl) rfl ?_ ?_
          · go_simp
            try rfl
            try assumption
            try (unfold wrap64; omega)
          refine hK.out _ _ ⟨g11, g12, m9_, m10_, (by rw [ha.out]; exact putSel_none (v := undef) rfl), HB.out.trans (hk.below HB.out.size (fun k e => by have e2 : k = g12 := e; rw [e2]; exact G10.out)), Q_G9, fun h9 => Nat.lt_of_lt_of_le (Q_L9 h9) hk.size, fun _ h1_ => absurd ((hon 11 (by kernel_rfl)).symm.trans h1_) (by decide), fun h9 h11 => (hk.block _ (blk_lt (Q_N11 h9 h11)) (fun e => Q_D9_10 h9 (hon 10 (by kernel_rfl)) e)).trans (Q_N11 h9 h11), Q_G10, fun h10 => Nat.lt_of_lt_of_le (Q_L10 h10) hk.size, fun _ h1_ => absurd ((up_self b 12).symm.trans h1_) (by decide), fun _ _ => (blk_put (blk_put Z10.out 0 (.int .i64 ra) rfl) 1 (.int .u64 rb) rfl), Q_D9_10, Q_X9_, Q_X10_⟩
        refine steps_cons ?_ ?_
        · rintro b a w' ⟨g11, g12, m9_, m10_, ha, Q_HB, Q_G9, Q_L9, Q_Z9, Q_N11, Q_G10, Q_L10, Q_Z10, Q_N12, Q_D9_10, Q_X9_, Q_X10_⟩ hb_ hon hoff
          refine ⟨_, rfl, fun K hK => ?_⟩
          have e162 : a.tmps[162]? = some (.int .i64 0) := by rw [ha]; exact putSel_on (e := (8, 162, .int .i64 0)) 8 rfl rfl (hon 8 (by kernel_rfl)) rfl
          replace ha := Aside0.mk ha
          have HB := Aside0.mk Q_HB
          have G9 := Aside0.mk (Q_G9 (hon 9 (by kernel_rfl)))
          have L9 := Aside0.mk (Q_L9 (hon 9 (by kernel_rfl)))
          have N11 := Aside0.mk (Q_N11 (hon 9 (by kernel_rfl)) (hon 11 (by kernel_rfl)))
          have G10 := Aside0.mk (Q_G10 (hon 10 (by kernel_rfl)))
          have L10 := Aside0.mk (Q_L10 (hon 10 (by kernel_rfl)))
          have N12 := Aside0.mk (Q_N12 (hon 10 (by kernel_rfl)) (hon 12 (by kernel_rfl)))
          have D9_10 := Aside0.mk Q_D9_10
          refine value_ (w1 := w') (v := .int .i64 0) (by rfl) rfl ?_ ?_
          · go_simp
            (try simp only [i64_w])
            try rfl
            try assumption
            try (unfold wrap64; omega)
          refine hK.out _ _ ⟨g11, g12, m9_, m10_, (by rw [ha.out]; exact putSel_upk 11 hb_ rfl rfl rfl), Q_HB, Q_G9, Q_L9, fun _ h1_ => absurd ((hon 11 (by kernel_rfl)).symm.trans h1_) (by decide), Q_N11, Q_G10, Q_L10, fun _ h1_ => absurd ((hon 12 (by kernel_rfl)).symm.trans h1_) (by decide), Q_N12, Q_D9_10, Q_X9_, Q_X10_⟩
        exact steps_nil
      · rintro b a w' hall ⟨g11, g12, m9_, m10_, ha, Q_HB, Q_G9, Q_L9, Q_Z9, Q_N11, Q_G10, Q_L10, Q_Z10, Q_N12, Q_D9_10, Q_X9_, Q_X10_⟩
        clear D9_10 HB
        have hb0_ := hall 0 (by kernel_rfl)
        have hb1_ := hall 1 (by kernel_rfl)
        have hb2_ := hall 2 (by kernel_rfl)
        have hb3_ := hall 3 (by kernel_rfl)
        have hb4_ := hall 4 (by kernel_rfl)
        have hb5_ := hall 5 (by kernel_rfl)
        have hb6_ := hall 6 (by kernel_rfl)
        have hb7_ := hall 7 (by kernel_rfl)
        have hb8_ := hall 8 (by kernel_rfl)
        have hb9_ := hall 9 (by kernel_rfl)
        have hb10_ := hall 10 (by kernel_rfl)
        have hb11_ := hall 11 (by kernel_rfl)
        have hb12_ := hall 12 (by kernel_rfl)
        have hb13_ := hall 13 (by kernel_rfl)
        subst ha
        obtain rfl := Q_X9_ hb9_
        obtain rfl := Q_X10_ hb10_
        simp only [putSel, hb0_, hb1_, hb2_, hb3_, hb4_, hb5_, hb6_, hb7_, hb8_, hb9_, hb10_, hb11_, hb12_, hb13_, if_true, Act.put, List.setIfInBounds_toArray, List.set_cons_zero, List.set_cons_succ]
        have HB := Aside0.mk Q_HB
        clear Q_HB
        have G9 := Aside0.mk (Q_G9 hb9_)
        clear Q_G9
        have L9 := Aside0.mk (Q_L9 hb9_)
        clear Q_L9
        clear Q_Z9
        have N11 := Aside0.mk (Q_N11 hb9_ hb11_)
        clear Q_N11
        have G10 := Aside0.mk (Q_G10 hb10_)
        clear Q_G10
        have L10 := Aside0.mk (Q_L10 hb10_)
        clear Q_L10
        clear Q_Z10
        have N12 := Aside0.mk (Q_N12 hb10_ hb12_)
        clear Q_N12
        have D9_10 := Aside0.mk Q_D9_10
        clear Q_D9_10
        clear hall hb0_ hb1_ hb2_ hb3_ hb4_ hb5_ hb6_ hb7_ hb8_ hb9_ hb10_ hb11_ hb12_ hb13_
        have t3 := (HB.out.block _ (blk_lt T3.out)).trans T3.out
        have t5 := (HB.out.block _ (blk_lt T5.out)).trans T5.out
        have n11 := N11.out
        have BV := Aside0.mk (hop BW.out HB.out)
        obtain ⟨V, hV⟩ : ∃ V, V = w' := ⟨_, rfl⟩
        rw [← hV] at t3 t5 n11 BV ⊢
        clear hV HB N11 N12 G9 G10 T3 T5 BW
        go_upto_region 20 with (fail)
        have k1 : V.cell? ⟨g3, 1, none⟩ = some (.int .i64 ua) := blk_cell t3 1
        have k2 : V.cell? ⟨g3, 2, none⟩ = some (.int .u64 ub) := blk_cell t3 2
        have k5 : V.cell? ⟨g3, 5, none⟩ = some (.int .i64 me) := blk_cell t3 5
        have j0 : V.cell? ⟨g5, 0, none⟩ = some (.int .i64 ua) := blk_cell t5 0
        have j1 : V.cell? ⟨g5, 1, none⟩ = some (.int .u64 ub) := blk_cell t5 1
        have m0 : V.cell? ⟨g11, 0, none⟩ = some (.int .i64 ma) := blk_cell n11 0
        have m1 : V.cell? ⟨g11, 1, none⟩ = some (.int .u64 mb) := blk_cell n11 1
        have T3 := Aside0.mk t3
        have T5 := Aside0.mk t5
        have TM := Aside0.mk n11
        clear t3 t5 n11
        go_region_held3 (fun w' => w'.cell? ⟨g3, 1, none⟩ = some (.int .i64 ua) ∧ w'.cell? ⟨g3, 2, none⟩ = some (.int .u64 ub) ∧ w'.cell? ⟨g3, 5, none⟩ = some (.int .i64 me) ∧ w'.cell? ⟨g5, 0, none⟩ = some (.int .i64 ua) ∧ w'.cell? ⟨g5, 1, none⟩ = some (.int .u64 ub) ∧ w'.cell? ⟨g11, 0, none⟩ = some (.int .i64 ma) ∧ w'.cell? ⟨g11, 1, none⟩ = some (.int .u64 mb)) (go_keep) (first
          | (go_at_call 15; (with_reducible refine (HOM.out _).mono ?_); rintro e w7 ⟨rfl, hb⟩; have T37 := Aside0.mk ((hb.block _ (blk_lt T3.out)).trans T3.out); have T57 := Aside0.mk ((hb.block _ (blk_lt T5.out)).trans T5.out); have TM7 := Aside0.mk ((hb.block _ (blk_lt TM.out)).trans TM.out); have k1 := blk_cell T37.out 1; have k2 := blk_cell T37.out 2; have k5 := blk_cell T37.out 5; have j0 := blk_cell T57.out 0; have j1 := blk_cell T57.out 1; have m0 := blk_cell TM7.out 0; have m1 := blk_cell TM7.out 1; have B7 := Aside0.mk (hop (below_drew BV.out) hb); clear hb)
          | (go_at_call 14; (with_reducible refine (HAL.out _).mono ?_); rintro e w8 ⟨rfl, hb⟩; have k1 := blk_cell ((hb.block _ (blk_lt T37.out)).trans T37.out) 1; have k2 := blk_cell ((hb.block _ (blk_lt T37.out)).trans T37.out) 2; have k5 := blk_cell ((hb.block _ (blk_lt T37.out)).trans T37.out) 5; have j0 := blk_cell ((hb.block _ (blk_lt T57.out)).trans T57.out) 0; have j1 := blk_cell ((hb.block _ (blk_lt T57.out)).trans T57.out) 1; have m0 := blk_cell ((hb.block _ (blk_lt TM7.out)).trans TM7.out) 0; have m1 := blk_cell ((hb.block _ (blk_lt TM7.out)).trans TM7.out) 1; have B8 := Aside0.mk (hop B7.out hb); clear hb))
        all_goals
          go_wp2_with (fail)
          go_ret
          exact ⟨rfl, B8.out⟩
    | succ k_ =>
      have hlt : i < N := by omega
      have hil : i < l.length := by rw [← HNL.out]; exact hlt
      have d1 : decide (i < N) = true := decide_eq_true hlt
      obtain ⟨ad, rfl, hcx⟩ := cell_rd (w := wr) (l := l) (by rw [← HNL.out]; exact Kd.C_below HCA.out BW.out) hil
      have c1 := countP_snoc (leM md) hil
      have c2 := countP_snoc (geM md) hil
      obtain ⟨x, hx⟩ : ∃ x, x = rd l (i : Nat) := ⟨_, rfl⟩
      have hxl : x ∈ l := by rw [hx, rdE hil]; exact List.getElem_mem _
      have hst := take_sum hil
      rw [← rdE hil, ← hx] at hst
      rw [← hx] at hcx c1 c2
      have hxs := smp_W (HLS.out x hxl)
      have hsi := sum_inW HLS.out (by rw [← HNL.out]; exact HLL.out) i
      have hsj := sum_inW HLS.out (by rw [← HNL.out]; exact HLL.out) (i + 1)
      rw [hst] at hsj
      have hbx := W1.out x hxl
      have HO := Aside0.mk (fun W => wide_Of (z := x) W hxs.2)
      have HA := Aside0.mk (fun W => wide_Add (x := (l.take i).sum) (y := x) W hsi.1 hxs.1 _ 0 (.inl ⟨hsj.1, rfl, rfl⟩))
      unfold WV at HO HA
      obtain ⟨pa, hpa⟩ : ∃ a, a = hiW (l.take i).sum := ⟨_, rfl⟩
      obtain ⟨pb, hpb⟩ : ∃ a, a = loW (l.take i).sum := ⟨_, rfl⟩
      obtain ⟨qa, hqa⟩ : ∃ a, a = hiW ((l.take i).sum + x) := ⟨_, rfl⟩
      obtain ⟨qb, hqb⟩ : ∃ a, a = loW ((l.take i).sum + x) := ⟨_, rfl⟩
      obtain ⟨xa, hxa⟩ : ∃ a, a = hiW x := ⟨_, rfl⟩
      obtain ⟨xb, hxb⟩ : ∃ a, a = loW x := ⟨_, rfl⟩
      rw [← hpa, ← hpb, ← hqa, ← hqb, ← hxa, ← hxb] at HA
      rw [← hxa, ← hxb] at HO
      rw [← hpa, ← hpb] at T5
      have HQQ := Aside0.mk (show qa = hiW (l.take (i + 1)).sum ∧ qb = loW (l.take (i + 1)).sum by rw [hst]; exact ⟨hqa, hqb⟩)
      have HCX := Aside0.mk hcx
      have x1 := hcx
      have l1 : decide (x < x0) = false := decide_eq_false (by omega)
      have l2 : decide (xk < x) = false := decide_eq_false (by omega)
      obtain ⟨lo, hlo⟩ : ∃ n, n = (l.take i).countP (leM md) := ⟨_, rfl⟩
      obtain ⟨hi, hhi⟩ : ∃ n, n = (l.take i).countP (geM md) := ⟨_, rfl⟩
      have hlo2 : lo ≤ i := by rw [hlo]; have h1 := List.countP_le_length (p := leM md) (l := l.take i); have h2 : (l.take i).length ≤ i := by rw [List.length_take]; omega
                               omega
      have hhi2 : hi ≤ i := by rw [hhi]; have h1 := List.countP_le_length (p := geM md) (l := l.take i); have h2 : (l.take i).length ≤ i := by rw [List.length_take]; omega
                               omega
      have HN1 := Aside0.mk (next64 hlt HLL.out)
      have n2 := next64 (i := lo) (N := N) (by omega) HLL.out
      have n3 := next64 (i := hi) (N := N) (by omega) HLL.out
      rw [← hlo] at c1 ⊢
      rw [← hhi] at c2 ⊢
      obtain ⟨bl, hbl⟩ : ∃ b, decide (x ≤ md) = b := ⟨_, rfl⟩
      obtain ⟨bh, hbh⟩ : ∃ b, decide (md ≤ x) = b := ⟨_, rfl⟩
      rw [show leM md x = bl from hbl] at c1
      rw [show geM md x = bh from hbh] at c2
      have HXE := Aside0.mk hx
      have HC1 := Aside0.mk c1
      have HC2 := Aside0.mk c2
      have HN2 := Aside0.mk n2
      have HN3 := Aside0.mk n3
      clear c1 c2 hx hxl hst hxs hsi hsj hbx hpa hpb hqa hqb hxa hxb hlo hhi hlo2 hhi2 hcx n2 n3
      go_upto_region 11 with (fail)
      have HB := Aside0.mk (show Below wr.heap.size wr wr.drew from (Below.refl _ _).drew)
      refine start_ (n := 13) (S := fun w' => True) (ds := []) #[false, false, false, false, false, false, false, false, false, false, false, false, false] (by kernel_rfl) rfl rfl trivial (fun hHeld => ?_)
      refine with_tabW lwi11.tab lwi11.bits (fun HT_ HW_ => ?_)
      refine inv_at [0, 1, 2, 3, 4, 5, 6, 7, 8, 9, 10, 11, 12] (fun a0_ b a w' => ∃ (g9 : Nat) (m10_ : Value), a = putSel a0_ b [(0, 106, .agg #[.int .i64 pa, .int .u64 pb]), (1, 107, .slice (some ad) N c), (2, 108, .int .i64 (i : Int)), (3, 109, .pointer (some (ad.add i))), (4, 110, .int .i64 x), (5, 111, .agg #[.int .i64 xa, .int .u64 xb]), (6, 112, .tuple #[.agg #[.int .i64 qa, .int .u64 qb], .int .i64 0]), (7, 105, .tuple #[.agg #[.int .i64 qa, .int .u64 qb], .int .i64 0]), (8, 113, .agg #[.int .i64 qa, .int .u64 qb]), (9, 114, .int .i64 0), (10, 9, m10_), (12, 10, .int .i64 0)] ∧ (Below wr.heap.size wr w') ∧ (b 10 = true → wr.heap.size ≤ g9) ∧ (b 10 = true → g9 < w'.heap.size) ∧ (b 10 = true → b 11 = false → w'.heap[g9]? = some (.cells #[.int .i64 0, .int .u64 0] 25 (0, 0))) ∧ (b 10 = true → b 11 = true → w'.heap[g9]? = some (.cells #[.int .i64 qa, .int .u64 qb] 25 (0, 0))) ∧ (b 10 = true → (m10_ : Value) = .pointer (some ⟨g9, 0, none⟩))) HT_.out HW_.out (by kernel_rfl) (by kernel_rfl) ?_ ?_ ?_
      · exact ⟨0, .bool false, by simp only [putSel, Bool.false_eq_true, if_false], HB.out, fun h_ => absurd h_ (by decide), fun h_ => absurd h_ (by decide), fun h_ => absurd h_ (by decide), fun h_ => absurd h_ (by decide), fun h_ => absurd h_ (by decide)⟩
      · skip
        clear HB
        refine steps_cons ?_ ?_
        · rintro b a w' ⟨g9, m10_, ha, Q_HB, Q_G10, Q_L10, Q_Z10, Q_N11, Q_X10_⟩ hb_ hon hoff
          refine ⟨_, rfl, fun K hK => ?_⟩
          have e5 : a.tmps[5]? = some (.pointer (some ⟨g5, 0, none⟩)) := by rw [ha]; exact (putSel_off rfl).trans rfl
          replace ha := Aside0.mk ha
          have HB := Aside0.mk Q_HB
          have k0 := blk_cell ((HB.out.block _ (blk_lt T5.out)).trans T5.out) 0
          have k1 := blk_cell ((HB.out.block _ (blk_lt T5.out)).trans T5.out) 1
          refine value_ (w1 := w') (v := .agg #[.int .i64 pa, .int .u64 pb]) (by rfl) rfl ?_ ?_
          · go_simp
            (try simp only [i64_w])
            try rfl
            try assumption
            try (unfold wrap64; omega)
          refine hK.out _ _ ⟨g9, m10_, (by rw [ha.out]; exact putSel_upk 0 hb_ rfl rfl rfl), Q_HB, Q_G10, Q_L10, Q_Z10, fun _ h1_ => absurd ((hoff 11 (by kernel_rfl)).symm.trans h1_) (by decide), Q_X10_⟩
        refine steps_cons ?_ ?_
        · rintro b a w' ⟨g9, m10_, ha, Q_HB, Q_G10, Q_L10, Q_Z10, Q_N11, Q_X10_⟩ hb_ hon hoff
          refine ⟨_, rfl, fun K hK => ?_⟩
          have e0 : a.tmps[0]? = some (.slice (some ad) N c) := by rw [ha]; exact (putSel_off rfl).trans rfl
          replace ha := Aside0.mk ha
          have HB := Aside0.mk Q_HB
          refine value_ (w1 := w') (v := .slice (some ad) N c) (by rfl) rfl ?_ ?_
          · go_simp
            (try simp only [i64_w])
            try rfl
            try assumption
            try (unfold wrap64; omega)
          refine hK.out _ _ ⟨g9, m10_, (by rw [ha.out]; exact putSel_upk 1 hb_ rfl rfl rfl), Q_HB, Q_G10, Q_L10, Q_Z10, fun _ h1_ => absurd ((hoff 11 (by kernel_rfl)).symm.trans h1_) (by decide), Q_X10_⟩
        refine steps_cons ?_ ?_
        · rintro b a w' ⟨g9, m10_, ha, Q_HB, Q_G10, Q_L10, Q_Z10, Q_N11, Q_X10_⟩ hb_ hon hoff
          refine ⟨_, rfl, fun K hK => ?_⟩
          have e8 : a.tmps[8]? = some (.int .i64 (i : Int)) := by rw [ha]; exact (putSel_off rfl).trans rfl
          replace ha := Aside0.mk ha
          have HB := Aside0.mk Q_HB
          refine value_ (w1 := w') (v := .int .i64 (i : Int)) (by rfl) rfl ?_ ?_
          · go_simp
            (try simp only [i64_w])
            try rfl
            try assumption
            try (unfold wrap64; omega)
          refine hK.out _ _ ⟨g9, m10_, (by rw [ha.out]; exact putSel_upk 2 hb_ rfl rfl rfl), Q_HB, Q_G10, Q_L10, Q_Z10, fun _ h1_ => absurd ((hoff 11 (by kernel_rfl)).symm.trans h1_) (by decide), Q_X10_⟩
        refine steps_cons ?_ ?_
        · rintro b a w' ⟨g9, m10_, ha, Q_HB, Q_G10, Q_L10, Q_Z10, Q_N11, Q_X10_⟩ hb_ hon hoff
          refine ⟨_, rfl, fun K hK => ?_⟩
          have e107 : a.tmps[107]? = some (.slice (some ad) N c) := by rw [ha]; exact putSel_on (e := (1, 107, .slice (some ad) N c)) 1 rfl rfl (hon 1 (by kernel_rfl)) rfl
          have e108 : a.tmps[108]? = some (.int .i64 (i : Int)) := by rw [ha]; exact putSel_on (e := (2, 108, .int .i64 (i : Int))) 2 rfl rfl (hon 2 (by kernel_rfl)) rfl
          replace ha := Aside0.mk ha
          have HB := Aside0.mk Q_HB
          refine value_ (w1 := w') (v := .pointer (some (ad.add i))) (by rfl) rfl ?_ ?_
          · go_simp
            (try simp only [i64_w])
            try rfl
            try assumption
            try (unfold wrap64; omega)
          refine hK.out _ _ ⟨g9, m10_, (by rw [ha.out]; exact putSel_upk 3 hb_ rfl rfl rfl), Q_HB, Q_G10, Q_L10, Q_Z10, fun _ h1_ => absurd ((hoff 11 (by kernel_rfl)).symm.trans h1_) (by decide), Q_X10_⟩
        refine steps_cons ?_ ?_
        · rintro b a w' ⟨g9, m10_, ha, Q_HB, Q_G10, Q_L10, Q_Z10, Q_N11, Q_X10_⟩ hb_ hon hoff
          refine ⟨_, rfl, fun K hK => ?_⟩
          have e109 : a.tmps[109]? = some (.pointer (some (ad.add i))) := by rw [ha]; exact putSel_on (e := (3, 109, .pointer (some (ad.add i)))) 3 rfl rfl (hon 3 (by kernel_rfl)) rfl
          replace ha := Aside0.mk ha
          have HB := Aside0.mk Q_HB
          have k0 := pw_cell_below HB.out HCX.out
          refine value_ (w1 := w') (v := .int .i64 x) (by rfl) rfl ?_ ?_
          · go_simp
            (try simp only [i64_w])
            try rfl
            try assumption
            try (unfold wrap64; omega)
          refine hK.out _ _ ⟨g9, m10_, (by rw [ha.out]; exact putSel_upk 4 hb_ rfl rfl rfl), Q_HB, Q_G10, Q_L10, Q_Z10, fun _ h1_ => absurd ((hoff 11 (by kernel_rfl)).symm.trans h1_) (by decide), Q_X10_⟩
        refine steps_cons ?_ ?_
        · rintro b a w' ⟨g9, m10_, ha, Q_HB, Q_G10, Q_L10, Q_Z10, Q_N11, Q_X10_⟩ hb_ hon hoff
          refine ⟨_, rfl, fun K hK => ?_⟩
          have e110 : a.tmps[110]? = some (.int .i64 x) := by rw [ha]; exact putSel_on (e := (4, 110, .int .i64 x)) 4 rfl rfl (hon 4 (by kernel_rfl)) rfl
          replace ha := Aside0.mk ha
          have HB := Aside0.mk Q_HB
          refine goes_ Try.func15 (by kernel_rfl) rfl #[.int .i64 x] (by rfl) rfl rfl (by first | (simp only [List.map_toArray, List.map_cons, List.map_nil, Act.eval, Array.getD_eq_getD_getElem?, Option.getD_some, e110]; done) | (simp only [List.map_toArray, List.map_cons, List.map_nil, Act.eval, Array.getD_eq_getD_getElem?, Option.getD_some, e110]; rfl)) ?_
          with_reducible refine (HO.out _).mono ?_
          rintro e w1 ⟨rfl, hb⟩
          refine ⟨_, rfl, ?_⟩
          refine hK.out _ _ ⟨g9, m10_, (by rw [ha.out]; exact putSel_upk 5 hb_ rfl rfl rfl), hop HB.out hb, Q_G10, fun h10 => Nat.lt_of_lt_of_le (Q_L10 h10) hb.size, fun h10 h11 => (hb.block _ (blk_lt (Q_Z10 h10 h11))).trans (Q_Z10 h10 h11), fun _ h1_ => absurd ((hoff 11 (by kernel_rfl)).symm.trans h1_) (by decide), Q_X10_⟩
        refine steps_cons ?_ ?_
        · rintro b a w' ⟨g9, m10_, ha, Q_HB, Q_G10, Q_L10, Q_Z10, Q_N11, Q_X10_⟩ hb_ hon hoff
          refine ⟨_, rfl, fun K hK => ?_⟩
          have e106 : a.tmps[106]? = some (.agg #[.int .i64 pa, .int .u64 pb]) := by rw [ha]; exact putSel_on (e := (0, 106, .agg #[.int .i64 pa, .int .u64 pb])) 0 rfl rfl (hon 0 (by kernel_rfl)) rfl
          have e111 : a.tmps[111]? = some (.agg #[.int .i64 xa, .int .u64 xb]) := by rw [ha]; exact putSel_on (e := (5, 111, .agg #[.int .i64 xa, .int .u64 xb])) 5 rfl rfl (hon 5 (by kernel_rfl)) rfl
          replace ha := Aside0.mk ha
          have HB := Aside0.mk Q_HB
          refine goes_ Try.func16 (by kernel_rfl) rfl #[.agg #[.int .i64 pa, .int .u64 pb], .agg #[.int .i64 xa, .int .u64 xb]] (by rfl) rfl rfl (by first | (simp only [List.map_toArray, List.map_cons, List.map_nil, Act.eval, Array.getD_eq_getD_getElem?, Option.getD_some, e106, e111]; done) | (simp only [List.map_toArray, List.map_cons, List.map_nil, Act.eval, Array.getD_eq_getD_getElem?, Option.getD_some, e106, e111]; rfl)) ?_
          with_reducible refine (HA.out _).mono ?_
          rintro e w1 ⟨rfl, hb⟩
          refine ⟨_, rfl, ?_⟩
          refine hK.out _ _ ⟨g9, m10_, (by rw [ha.out]; exact putSel_upk 6 hb_ rfl rfl rfl), hop HB.out hb, Q_G10, fun h10 => Nat.lt_of_lt_of_le (Q_L10 h10) hb.size, fun h10 h11 => (hb.block _ (blk_lt (Q_Z10 h10 h11))).trans (Q_Z10 h10 h11), fun _ h1_ => absurd ((hoff 11 (by kernel_rfl)).symm.trans h1_) (by decide), Q_X10_⟩
        refine steps_cons ?_ ?_
        · rintro b a w' ⟨g9, m10_, ha, Q_HB, Q_G10, Q_L10, Q_Z10, Q_N11, Q_X10_⟩ hb_ hon hoff
          refine ⟨_, rfl, fun K hK => ?_⟩
          have e112 : a.tmps[112]? = some (.tuple #[.agg #[.int .i64 qa, .int .u64 qb], .int .i64 0]) := by rw [ha]; exact putSel_on (e := (6, 112, .tuple #[.agg #[.int .i64 qa, .int .u64 qb], .int .i64 0])) 6 rfl rfl (hon 6 (by kernel_rfl)) rfl
          replace ha := Aside0.mk ha
          have HB := Aside0.mk Q_HB
          refine value_ (w1 := w') (v := .tuple #[.agg #[.int .i64 qa, .int .u64 qb], .int .i64 0]) (by rfl) rfl ?_ ?_
          · go_simp
            (try simp only [i64_w])
            try rfl
            try assumption
            try (unfold wrap64; omega)
          refine hK.out _ _ ⟨g9, m10_, (by rw [ha.out]; exact putSel_upk 7 hb_ rfl rfl rfl), Q_HB, Q_G10, Q_L10, Q_Z10, fun _ h1_ => absurd ((hoff 11 (by kernel_rfl)).symm.trans h1_) (by decide), Q_X10_⟩
        refine steps_cons ?_ ?_
        · rintro b a w' ⟨g9, m10_, ha, Q_HB, Q_G10, Q_L10, Q_Z10, Q_N11, Q_X10_⟩ hb_ hon hoff
          refine ⟨_, rfl, fun K hK => ?_⟩
          have e105 : a.tmps[105]? = some (.tuple #[.agg #[.int .i64 qa, .int .u64 qb], .int .i64 0]) := by rw [ha]; exact putSel_on (e := (7, 105, .tuple #[.agg #[.int .i64 qa, .int .u64 qb], .int .i64 0])) 7 rfl rfl (hon 7 (by kernel_rfl)) rfl
          replace ha := Aside0.mk ha
          have HB := Aside0.mk Q_HB
          refine value_ (w1 := w') (v := .agg #[.int .i64 qa, .int .u64 qb]) (by rfl) rfl ?_ ?_
          · go_simp
            (try simp only [i64_w])
            try rfl
            try assumption
            try (unfold wrap64; omega)
          refine hK.out _ _ ⟨g9, m10_, (by rw [ha.out]; exact putSel_upk 8 hb_ rfl rfl rfl), Q_HB, Q_G10, Q_L10, Q_Z10, fun _ h1_ => absurd ((hoff 11 (by kernel_rfl)).symm.trans h1_) (by decide), Q_X10_⟩
        refine steps_cons ?_ ?_
        · rintro b a w' ⟨g9, m10_, ha, Q_HB, Q_G10, Q_L10, Q_Z10, Q_N11, Q_X10_⟩ hb_ hon hoff
          refine ⟨_, rfl, fun K hK => ?_⟩
          have e105 : a.tmps[105]? = some (.tuple #[.agg #[.int .i64 qa, .int .u64 qb], .int .i64 0]) := by rw [ha]; exact putSel_on (e := (7, 105, .tuple #[.agg #[.int .i64 qa, .int .u64 qb], .int .i64 0])) 7 rfl rfl (hon 7 (by kernel_rfl)) rfl
          replace ha := Aside0.mk ha
          have HB := Aside0.mk Q_HB
          refine value_ (w1 := w') (v := .int .i64 0) (by rfl) rfl ?_ ?_
          · go_simp
            (try simp only [i64_w])
            try rfl
            try assumption
            try (unfold wrap64; omega)
          refine hK.out _ _ ⟨g9, m10_, (by rw [ha.out]; exact putSel_upk 9 hb_ rfl rfl rfl), Q_HB, Q_G10, Q_L10, Q_Z10, Q_N11, Q_X10_⟩
        refine steps_cons ?_ ?_
        · rintro b a w' ⟨g9, m10_, ha, Q_HB, Q_G10, Q_L10, Q_Z10, Q_N11, Q_X10_⟩ hb_ hon hoff
          refine ⟨_, rfl, fun K hK => ?_⟩
          replace ha := Aside0.mk ha
          have HB := Aside0.mk Q_HB
          have hb := (Below.refl w'.heap.size w').alloc (Nat.le_refl _) (.cells #[.int .i64 0, .int .u64 0] 25 (0, 0))
          refine value_ (w1 := w'.alloc (.cells #[.int .i64 0, .int .u64 0] 25 (0, 0))) (v := .pointer (some ⟨w'.heap.size, 0, none⟩)) (by rfl) rfl ?_ ?_
          · go_simp
            try rfl
            try assumption
            try (unfold wrap64; omega)
          refine hK.out _ _ ⟨w'.heap.size, (.pointer (some ⟨w'.heap.size, 0, none⟩)), (by rw [ha.out]; exact putSel_upk 10 hb_ rfl rfl rfl), hop HB.out hb, fun _ => HB.out.size, fun _ => (by simp), fun _ _ => heap_alloc_new w' _, fun _ h1_ => absurd ((hoff 11 (by kernel_rfl)).symm.trans h1_) (by decide), fun _ => rfl⟩
        refine steps_cons ?_ ?_
        · rintro b a w' ⟨g9, m10_, ha, Q_HB, Q_G10, Q_L10, Q_Z10, Q_N11, Q_X10_⟩ hb_ hon hoff
          refine ⟨_, rfl, fun K hK => ?_⟩
          have e9 : a.tmps[9]? = some (m10_) := by rw [ha]; exact putSel_on (e := (10, 9, m10_)) 10 rfl rfl (hon 10 (by kernel_rfl)) rfl
          rw [Q_X10_ (hon 10 (by kernel_rfl))] at e9
          have e113 : a.tmps[113]? = some (.agg #[.int .i64 qa, .int .u64 qb]) := by rw [ha]; exact putSel_on (e := (8, 113, .agg #[.int .i64 qa, .int .u64 qb])) 8 rfl rfl (hon 8 (by kernel_rfl)) rfl
          replace ha := Aside0.mk ha
          have HB := Aside0.mk Q_HB
          have G10 := Aside0.mk (Q_G10 (hon 10 (by kernel_rfl)))
          have L10 := Aside0.mk (Q_L10 (hon 10 (by kernel_rfl)))
          have Z10 := Aside0.mk (Q_Z10 (hon 10 (by kernel_rfl)) hb_)
          have hk : Keep w' ((w'.setCell ⟨g9, 0, none⟩ (.int .i64 qa)).setCell ⟨g9, 1, none⟩ (.int .u64 qb)) (fun k => k = g9) := (((Keep.refl w' (fun k => k = g9)).set ⟨g9, 0, none⟩ (.int .i64 qa) (.inl rfl)).set ⟨g9, 1, none⟩ (.int .u64 qb) (.inl rfl))
          have y0 := blk_cell Z10.out 0
          have y1 := blk_cell Z10.out 1
          have z0 := blk_frozen Z10.out 0
          have z1 := blk_frozen Z10.out 1
          refine skip_ (w1 := ((w'.setCell ⟨g9, 0, none⟩ (.int .i64 qa)).setCell ⟨g9, 1, none⟩ (.int .u64 qb))) (by rfl) rfl ?_ ?_
          · go_simp
            try rfl
            try assumption
            try (unfold wrap64; omega)
          refine hK.out _ _ ⟨g9, m10_, (by rw [ha.out]; exact putSel_none (v := undef) rfl), HB.out.trans (hk.below HB.out.size (fun k e => by have e2 : k = g9 := e; rw [e2]; exact G10.out)), Q_G10, fun h10 => Nat.lt_of_lt_of_le (Q_L10 h10) hk.size, fun _ h1_ => absurd ((up_self b 11).symm.trans h1_) (by decide), fun _ _ => (blk_put (blk_put Z10.out 0 (.int .i64 qa) rfl) 1 (.int .u64 qb) rfl), Q_X10_⟩
        refine steps_cons ?_ ?_
        · rintro b a w' ⟨g9, m10_, ha, Q_HB, Q_G10, Q_L10, Q_Z10, Q_N11, Q_X10_⟩ hb_ hon hoff
          refine ⟨_, rfl, fun K hK => ?_⟩
          have e114 : a.tmps[114]? = some (.int .i64 0) := by rw [ha]; exact putSel_on (e := (9, 114, .int .i64 0)) 9 rfl rfl (hon 9 (by kernel_rfl)) rfl
          replace ha := Aside0.mk ha
          have HB := Aside0.mk Q_HB
          have G10 := Aside0.mk (Q_G10 (hon 10 (by kernel_rfl)))
          have L10 := Aside0.mk (Q_L10 (hon 10 (by kernel_rfl)))
          have N11 := Aside0.mk (Q_N11 (hon 10 (by kernel_rfl)) (hon 11 (by kernel_rfl)))
          refine value_ (w1 := w') (v := .int .i64 0) (by rfl) rfl ?_ ?_
          · go_simp
            (try simp only [i64_w])
            try rfl
            try assumption
            try (unfold wrap64; omega)
          refine hK.out _ _ ⟨g9, m10_, (by rw [ha.out]; exact putSel_upk 11 hb_ rfl rfl rfl), Q_HB, Q_G10, Q_L10, fun _ h1_ => absurd ((hon 11 (by kernel_rfl)).symm.trans h1_) (by decide), Q_N11, Q_X10_⟩
        exact steps_nil
      · rintro b a w' hall ⟨g9, m10_, ha, Q_HB, Q_G10, Q_L10, Q_Z10, Q_N11, Q_X10_⟩
        clear HB
        have hb0_ := hall 0 (by kernel_rfl)
        have hb1_ := hall 1 (by kernel_rfl)
        have hb2_ := hall 2 (by kernel_rfl)
        have hb3_ := hall 3 (by kernel_rfl)
        have hb4_ := hall 4 (by kernel_rfl)
        have hb5_ := hall 5 (by kernel_rfl)
        have hb6_ := hall 6 (by kernel_rfl)
        have hb7_ := hall 7 (by kernel_rfl)
        have hb8_ := hall 8 (by kernel_rfl)
        have hb9_ := hall 9 (by kernel_rfl)
        have hb10_ := hall 10 (by kernel_rfl)
        have hb11_ := hall 11 (by kernel_rfl)
        have hb12_ := hall 12 (by kernel_rfl)
        subst ha
        obtain rfl := Q_X10_ hb10_
        simp only [putSel, hb0_, hb1_, hb2_, hb3_, hb4_, hb5_, hb6_, hb7_, hb8_, hb9_, hb10_, hb11_, hb12_, if_true, Act.put, List.setIfInBounds_toArray, List.set_cons_zero, List.set_cons_succ]
        have HB := Aside0.mk Q_HB
        clear Q_HB
        have G10 := Aside0.mk (Q_G10 hb10_)
        clear Q_G10
        have L10 := Aside0.mk (Q_L10 hb10_)
        clear Q_L10
        clear Q_Z10
        have N11 := Aside0.mk (Q_N11 hb10_ hb11_)
        clear Q_N11
        clear hall hb0_ hb1_ hb2_ hb3_ hb4_ hb5_ hb6_ hb7_ hb8_ hb9_ hb10_ hb11_ hb12_
        go_upto_region 12 with (fail)
        have t3 := (HB.out.block _ (blk_lt T3.out)).trans T3.out
        have t5 := (HB.out.block _ (blk_lt T5.out)).trans T5.out
        have BV := Aside0.mk (hop BW.out HB.out)
        have k3 := blk_cell t3 3
        have k4 := blk_cell t3 4
        have x2 := pw_cell_below HB.out HCX.out
        have hg9 : wr.heap.size ≤ g9 := G10.out
        have hg5w : g5 < wr.heap.size := blk_lt T5.out
        go_quiet (fail)
        have BV2 := Aside0.mk (pw_below_drewN BV.out nq)
        have TV3 := Aside0.mk (blk_drewN t3 nq)
        have TV5 := Aside0.mk (blk_drewN t5 nq)
        have NV9 := Aside0.mk (blk_drewN N11.out nq)
        obtain ⟨V, hV⟩ : ∃ V, V = w'.drewN nq := ⟨_, rfl⟩
        rw [← hV] at BV2 TV3 TV5 NV9 ⊢
        clear hV t3 t5 BV k3 k4 x2 x1 HB N11 HCX l1 l2
        have y0 := blk_cell NV9.out 0
        have y1 := blk_cell NV9.out 1
        obtain ⟨f1, f2, f3, f4, f5⟩ := res2 (v0 := .int .i64 qa) (v1 := .int .u64 qb) TV5.out
        have F5 := Aside0.mk f5
        clear f5
        go_upto_region 15 with (fail)
        have S14_ := F5.out
        have t14 := ((keep_set2 (w := V) (g := g5) (v0 := .int .i64 qa) (v1 := .int .u64 qb)).block _ (blk_lt TV3.out) (show ¬ g3 = g5 by omega)).trans TV3.out
        have b14 : Below w.heap.size w ((V.setCell ⟨g5, 0, none⟩ (.int .i64 qa)).setCell ⟨g5, 1, none⟩ (.int .u64 qb)) := BV2.out.trans (keep_set2.below BV2.out.size (fun k hk => by omega))
        obtain ⟨W14, hW14⟩ : ∃ W, W = (V.setCell ⟨g5, 0, none⟩ (.int .i64 qa)).setCell ⟨g5, 1, none⟩ (.int .u64 qb) := ⟨_, rfl⟩
        rw [← hW14] at S14_ t14 b14 ⊢
        have S14 := Aside0.mk S14_
        have T14 := Aside0.mk t14
        have B14 := Aside0.mk b14
        obtain ⟨ad2, ha2, x3⟩ := cell_rd (w := W14) (l := l) (by rw [← HNL.out]; exact Kd.C_below HCA.out b14) (i := i) (by rw [← HNL.out]; exact hlt)
        injection ha2 with ha2
        subst ha2
        rw [← HXE.out] at x3
        have k6 := blk_cell t14 6
        clear S14_ t14 b14 hW14 F5 TV3 TV5 NV9 BV2 f1 f2 f3 f4 y0 y1
        go_quiet (fail)
        cases bl with
        | true =>
          go_upto_region 17 with (fail)
          go_quiet (fail)
          cases bh with
          | true =>
            go_wp2_with (fail)
            go_roundg k_
            case rel =>
              refine ⟨i + 1, by first | rfl | (rw [HC1.out]; first | rfl | exact congrArg (Value.int IntKind.i64) HN2.out | (rw [if_neg (by decide), Nat.add_zero]; done)), by first | rfl | (rw [HC2.out]; first | rfl | exact congrArg (Value.int IntKind.i64) HN3.out | (rw [if_neg (by decide), Nat.add_zero]; done)), by first | (rw [HN1.out]; done) | go_num, by omega, ⟨?_⟩, ⟨T14.out⟩, ⟨pw_below_drewN B14.out _⟩⟩
              rw [← HQQ.out.1, ← HQQ.out.2]
              exact S14.out
            case measure => omega
          | false =>
            go_wp2_with (fail)
            go_roundg k_
            case rel =>
              refine ⟨i + 1, by first | rfl | (rw [HC1.out]; first | rfl | exact congrArg (Value.int IntKind.i64) HN2.out | (rw [if_neg (by decide), Nat.add_zero]; done)), by first | rfl | (rw [HC2.out]; first | rfl | exact congrArg (Value.int IntKind.i64) HN3.out | (rw [if_neg (by decide), Nat.add_zero]; done)), by first | (rw [HN1.out]; done) | go_num, by omega, ⟨?_⟩, ⟨T14.out⟩, ⟨pw_below_drewN B14.out _⟩⟩
              rw [← HQQ.out.1, ← HQQ.out.2]
              exact S14.out
            case measure => omega
        | false =>
          go_upto_region 17 with (fail)
          go_quiet (fail)
          cases bh with
          | true =>
            go_wp2_with (fail)
            go_roundg k_
            case rel =>
              refine ⟨i + 1, by first | rfl | (rw [HC1.out]; first | rfl | exact congrArg (Value.int IntKind.i64) HN2.out | (rw [if_neg (by decide), Nat.add_zero]; done)), by first | rfl | (rw [HC2.out]; first | rfl | exact congrArg (Value.int IntKind.i64) HN3.out | (rw [if_neg (by decide), Nat.add_zero]; done)), by first | (rw [HN1.out]; done) | go_num, by omega, ⟨?_⟩, ⟨T14.out⟩, ⟨pw_below_drewN B14.out _⟩⟩
              rw [← HQQ.out.1, ← HQQ.out.2]
              exact S14.out
            case measure => omega
          | false =>
            go_wp2_with (fail)
            go_roundg k_
            case rel =>
              refine ⟨i + 1, by first | rfl | (rw [HC1.out]; first | rfl | exact congrArg (Value.int IntKind.i64) HN2.out | (rw [if_neg (by decide), Nat.add_zero]; done)), by first | rfl | (rw [HC2.out]; first | rfl | exact congrArg (Value.int IntKind.i64) HN3.out | (rw [if_neg (by decide), Nat.add_zero]; done)), by first | (rw [HN1.out]; done) | go_num, by omega, ⟨?_⟩, ⟨T14.out⟩, ⟨pw_below_drewN B14.out _⟩⟩
              rw [← HQQ.out.1, ← HQQ.out.2]
              exact S14.out
            case measure => omega
end Go.Proofs.Ythnihjfdmkfkiaa.Q
