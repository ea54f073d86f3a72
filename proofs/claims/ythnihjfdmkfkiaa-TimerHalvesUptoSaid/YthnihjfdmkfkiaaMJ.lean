/- Texts of this claim, laid in one: contracts of functions that the claim reaches, and the plain laws that they want; under no condition beyond those that each theorem states. -/
import Derived.Test.YthnihjfdmkfkiaaPWithin
import Derived.Test.YthnihjfdmkfkiaaTShr
import Derived.Test.YthnihjfdmkfkiaaTSum3
import Derived.Test.YthnihjfdmkfkiaaLWithin
namespace Go.Proofs.Ythnihjfdmkfkiaa.Q
open Go.RowKit Go.Proofs.YthnihjfdmkfkiaaW.PrintWords Go.Proofs.YthnihjfdmkfkiaaW.PrintLast Go.Proofs.YthnihjfdmkfkiaaW.PrintMore Go.Proofs.YthnihjfdmkfkiaaV
set_option linter.unusedVariables false
set_option linter.unusedSimpArgs false

/-! Plain facts on the lowest samples and the others. -/
def ltM (m x : Int) : Bool := decide (x < m)
def gtP (m : Int) (l : List Int) : Int := (l.filter (fun x => !leM m x)).sum
theorem rise_cons {x : Int} {t : List Int} (h : Rise (x :: t)) : (∀ y ∈ t, x ≤ y) ∧ Rise t := by
  have h2 := List.pairwise_cons.1 h
  exact ⟨fun y hy => by have := h2.1 y hy; simpa [leB] using this, h2.2⟩
theorem filter_take (m : Int) : ∀ {s : List Int}, Rise s → s.filter (leM m) = s.take (s.countP (leM m)) ∧ s.filter (fun x => !leM m x) = s.drop (s.countP (leM m))
  | [], _ => by simp
  | x :: t, h => by
    obtain ⟨h1, h2⟩ := rise_cons h
    by_cases c : x ≤ m
    · have e : leM m x = true := decide_eq_true c
      obtain ⟨i1, i2⟩ := filter_take m h2
      rw [List.countP_cons_of_pos e, List.filter_cons_of_pos e, List.filter_cons_of_neg (by simp [e])]
      exact ⟨by rw [i1, List.take_succ_cons], by rw [i2, List.drop_succ_cons]⟩
    · have hall : ∀ y ∈ x :: t, leM m y = false := fun y hy => by
        rcases List.mem_cons.1 hy with rfl | hy
        · exact decide_eq_false c
        · have := h1 y hy
          exact decide_eq_false (by omega)
      have e0 : (x :: t).countP (leM m) = 0 := List.countP_eq_zero.2 (fun y hy => by simp [hall y hy])
      rw [e0, List.take_zero, List.drop_zero]
      exact ⟨List.filter_eq_nil_iff.2 (fun y hy => by simp [hall y hy]), List.filter_eq_self.2 (fun y hy => by simp [hall y hy])⟩
theorem perm_sumH {a b : List Int} (h : a.Perm b) : a.sum = b.sum := by
  induction h with
  | nil => rfl
  | cons x _ ih => simp only [List.sum_cons, ih]
  | swap x y l => simp only [List.sum_cons]; omega
  | trans _ _ h1 h2 => exact h1.trans h2
theorem const_sum : ∀ {l : List Int} {a : Int}, (∀ x ∈ l, x = a) → l.sum = a * l.length
  | [], a, _ => by simp
  | x :: t, a, h => by
    rw [List.sum_cons, const_sum (l := t) (fun y hy => h y (by simp [hy])), h x (by simp), List.length_cons, Int.natCast_add, Int.mul_add]
    omega
theorem half_sorted {s : List Int} (hs : Rise s) {r : Nat} (h1 : 1 ≤ r) (h2 : r ≤ s.length) :
    s.countP (ltM (rd s (r - 1 : Nat))) < r ∧ r ≤ s.countP (leM (rd s (r - 1 : Nat))) ∧
    (s.take r).sum + gtP (rd s (r - 1 : Nat)) s + rd s (r - 1 : Nat) * ((s.countP (leM (rd s (r - 1 : Nat))) : Int) - r) = s.sum := by
  obtain ⟨m, hm⟩ : ∃ m, m = rd s (r - 1 : Nat) := ⟨_, rfl⟩
  have hup : r ≤ s.countP (leM m) := by
    have e : (s.take r).countP (leM m) = r := by
      rw [List.countP_eq_length.2 ?_, List.length_take]
      · omega
      · intro x hx
        obtain ⟨i, hi, rfl⟩ := List.getElem_of_mem hx
        rw [List.length_take] at hi
        rw [List.getElem_take]
        have := rise_rd hs (i := i) (j := r - 1) (by omega) (by omega)
        rw [rdE (i := i) (by omega), ← hm] at this
        exact decide_eq_true this
    have := (List.take_sublist r s).countP_le (p := leM m)
    omega
  have hlo : s.countP (ltM m) < r := by
    have e : s.countP (ltM m) = (s.take (r - 1)).countP (ltM m) + (s.drop (r - 1)).countP (ltM m) := by
      rw [← List.countP_append, List.take_append_drop]
    have e0 : (s.drop (r - 1)).countP (ltM m) = 0 := List.countP_eq_zero.2 (fun x hx => by
      obtain ⟨i, hi, rfl⟩ := List.getElem_of_mem hx
      rw [List.length_drop] at hi
      rw [List.getElem_drop]
      have := rise_rd hs (i := r - 1) (j := r - 1 + i) (by omega) (by omega)
      rw [rdE (i := r - 1 + i) (by omega), ← hm] at this
      simp [ltM]
      omega)
    have := List.countP_le_length (p := ltM m) (l := s.take (r - 1))
    rw [List.length_take] at this
    omega
  rw [← hm]
  refine ⟨hlo, hup, ?_⟩
  obtain ⟨u, hu⟩ : ∃ u, u = s.countP (leM m) := ⟨_, rfl⟩
  have hul : u ≤ s.length := by rw [hu]; exact List.countP_le_length
  obtain ⟨f1, f2⟩ := filter_take m hs
  rw [← hu] at f1 f2 hup ⊢
  unfold gtP
  rw [f2]
  have hsplit : (s.take u).sum + (s.drop u).sum = s.sum := by rw [← List.sum_append, List.take_append_drop]
  have hsp2 : ((s.take u).take r).sum + ((s.take u).drop r).sum = (s.take u).sum := by rw [← List.sum_append, List.take_append_drop]
  rw [List.take_take, Nat.min_eq_left hup] at hsp2
  have hc : ((s.take u).drop r).sum = m * ((s.take u).drop r).length := const_sum (fun x hx => by
    have hx1 : x ∈ s.filter (leM m) := by rw [f1]; exact List.mem_of_mem_drop hx
    have hx2 : x ≤ m := of_decide_eq_true (List.mem_filter.1 hx1).2
    obtain ⟨i, hi, rfl⟩ := List.getElem_of_mem hx
    rw [List.length_drop, List.length_take] at hi
    rw [List.getElem_drop, List.getElem_take] at hx2 ⊢
    have := rise_rd hs (i := r - 1) (j := r + i) (by omega) (by omega)
    rw [rdE (i := r + i) (by omega), ← hm] at this
    omega)
  rw [List.length_drop, List.length_take, Nat.min_eq_left hul, show ((u - r : Nat) : Int) = (u : Int) - r by omega] at hc
  omega
/-- All that is said of the lowest and the others. -/
theorem half_of {l : List Int} {r : Nat} (h1 : 1 ≤ r) (h2 : r ≤ l.length) :
    l.countP (ltM (rd (sortP l) (r - 1 : Nat))) < r ∧ r ≤ l.countP (leM (rd (sortP l) (r - 1 : Nat))) ∧
    ((sortP l).take r).sum + gtP (rd (sortP l) (r - 1 : Nat)) l + rd (sortP l) (r - 1 : Nat) * ((l.countP (leM (rd (sortP l) (r - 1 : Nat))) : Int) - r) = l.sum := by
  have hp := sortP_perm l
  have h := half_sorted (sortP_rise l) h1 (by rw [hp.length_eq]; exact h2)
  have e : gtP (rd (sortP l) (r - 1 : Nat)) (sortP l) = gtP (rd (sortP l) (r - 1 : Nat)) l := perm_sumH (hp.filter _)
  rw [hp.countP_eq, hp.countP_eq, e, perm_sumH hp] at h
  exact h
end Go.Proofs.Ythnihjfdmkfkiaa.Q

namespace Go.Proofs.Ythnihjfdmkfkiaa.Q
open Go.RowKit Go.Proofs.YthnihjfdmkfkiaaW.PrintWords Go.Proofs.YthnihjfdmkfkiaaW.PrintLast Go.Proofs.YthnihjfdmkfkiaaW.PrintMore Go.Proofs.YthnihjfdmkfkiaaV
set_option linter.unusedVariables false
set_option linter.unusedSimpArgs false

def lha17.T : Bool × List (List Nat × List Nat) := (true, [([], []), ([], []), ([], []), ([1, 2], [1, 2]), ([3], [3]), ([4], [4]), ([0, 5, 5], [0, 5]), ([6], [6]), ([7], [7]), ([7], [7]), ([], []), ([10, 8, 6, 0, 1, 2, 3, 4, 5, 6, 7, 8, 10], [8, 10]), ([9, 11, 0, 1, 2, 3, 4, 5, 6, 7, 8, 9, 10, 11], [9])])
def lha17.B : List Nat := [0, 0, 0, 6, 14, 30, 63, 127, 255, 255, 0, 1535, 4095]
theorem lha17.tab : rtab .any (opsOf Try.f10 17) = lha17.T := by kernel_rfl
theorem lha17.bits : waitsOk lha17.T.2 lha17.B = true := by kernel_rfl
/-- What is asked of the program's Upto. -/
structure UptoOk : Prop where
  ok : ∀ {w : World} {A : Option Addr} {c : Nat} {l : List Int} {p : Int}, Kd.C (Kd.int .i64) w A l.length l → 1 ≤ l.length → l.length ≤ c → l.length ≤ 1048576 → (∀ x ∈ l, smp x) → p ≠ 0 ∧ p ≤ 100000000 ∧ -100000000 ≤ p →
    Calls Try.prog 25 #[.slice A l.length c, .int .i64 p] w fun e w' => e = .returned (.tuple #[.agg (shareA (sortP l) p), .int .i64 0]) ∧ Below w.heap.size w w'
  bad : ∀ {l : List Int} {p : Int}, l.length ≤ 1048576 → ((¬ ∀ x ∈ l, smp x) ∨ ¬ (p ≠ 0 ∧ p ≤ 100000000 ∧ -100000000 ≤ p) ∨ l.length = 0) →
    ∃ f : Int, f ≠ 0 ∧ ∀ {w : World} {A : Option Addr} {c : Nat}, Kd.C (Kd.int .i64) w A l.length l → l.length ≤ c →
      Calls Try.prog 25 #[.slice A l.length c, .int .i64 p] w fun e w' => e = .returned (.tuple #[.agg #[.int .i64 0, .int .i64 0, .int .u64 0, .int .i64 0, .int .i64 0], .int .i64 f]) ∧ Below w.heap.size w w'
theorem gtP_snoc (m : Int) {l : List Int} {i : Nat} (h : i < l.length) : gtP m (l.take (i + 1)) = gtP m (l.take i) + (if leM m (rd l (i : Nat)) = true then 0 else rd l (i : Nat)) := by
  unfold gtP
  rw [rdE h, List.take_succ_eq_append_getElem h, List.filter_append, List.sum_append]
  by_cases c : leM m l[i] = true
  · rw [if_pos c, List.filter_cons_of_neg (by simp [c])]
    simp
  · rw [if_neg c, List.filter_cons_of_pos (by simpa using c)]
    simp
theorem gtP_rng {l : List Int} (m : Int) (hs : ∀ x ∈ l, smp x) (hl : l.length ≤ 1048576) (i : Nat) : 0 ≤ gtP m (l.take i) ∧ gtP m (l.take i) ≤ 104857600000000000000 := by
  have h := sum_smp (l := (l.take i).filter (fun x => !leM m x)) (fun y hy => hs y (List.mem_of_mem_take (List.mem_filter.1 hy).1))
  have h2 := List.length_filter_le (fun x => !leM m x) (l.take i)
  have h3 : (l.take i).length ≤ 1048576 := by rw [List.length_take]; omega
  unfold gtP
  generalize ((l.take i).filter (fun x => !leM m x)).length = n at h h2
  omega
theorem add_inW {S x : Int} (h : 0 ≤ S ∧ S ≤ 104857600000000000000) (hx : smp x) : inW S ∧ inW x ∧ inW (S + x) ∧ in64 x := by
  unfold smp at hx
  unfold inW in64
  omega
theorem rankE {n : Nat} {q : Int} (n0 : 1 ≤ n) (hq : 1 ≤ q ∧ q ≤ 100000000) : rankP n q = ((rankP n q).toNat : Int) ∧ 1 ≤ (rankP n q).toNat ∧ (rankP n q).toNat ≤ n := by
  have h := rank_rng (n := (n : Int)) (by omega) hq
  generalize rankP (n : Int) q = z at h ⊢
  omega
theorem half_num {ed : Int} {hi r : Nat} (he : smp ed) (h1 : r ≤ hi) (h2 : hi ≤ 1048576) :
    in64 ed ∧ in64 ((hi : Int) - (r : Int)) ∧ 0 ≤ ed * ((hi : Int) - (r : Int)) ∧ IntKind.i64.wrap ((hi : Int) - (r : Int)) = (hi : Int) - (r : Int) ∧ wrap64 ((hi : Int) - (r : Int)) = (hi : Int) - (r : Int) ∧ True ∧ True ∧ True := by
  unfold smp at he
  have w : wrap64 ((hi : Int) - (r : Int)) = (hi : Int) - (r : Int) := by unfold wrap64; omega
  exact ⟨by unfold in64; omega, by unfold in64; omega, Int.mul_nonneg he.1 (by omega), (i64_w _).trans w, w, trivial, trivial, trivial⟩
set_option maxHeartbeats 6400000 in
set_option maxRecDepth 8000 in
theorem halves_ok (HM : MergeOk) (HU : UptoOk) {w : World} {A : Option Addr} {c : Nat} {l : List Int} {p : Int} (h : Kd.C (Kd.int .i64) w A l.length l) (h0 : 1 ≤ l.length) (hc : l.length ≤ c) (hl : l.length ≤ 1048576) (hs : ∀ x ∈ l, smp x) (hp : 1 ≤ p ∧ p ≤ 100000000) :
    Calls Try.prog 10 #[.slice A l.length c, .int .i64 p] w fun e w' => e = .returned (.bool true) ∧ Below w.heap.size w w' := by
  obtain ⟨hr0, hr1, hr2⟩ := rankE h0 hp
  have HHF := Aside0.mk (half_of hr1 hr2)
  obtain ⟨r, hr⟩ : ∃ r, r = (rankP l.length p).toNat := ⟨_, rfl⟩
  rw [← hr] at hr0 hr1 hr2 HHF
  obtain ⟨s, hsdef⟩ : ∃ s, s = sortP l := ⟨_, rfl⟩
  have sl : s.length = l.length := by rw [hsdef]; exact (sortP_perm l).length_eq
  have ss : ∀ x ∈ s, smp x := fun x hx => hs x ((sortP_perm l).mem_iff.1 (by rw [← hsdef]; exact hx))
  have hsum : s.sum = l.sum := by rw [hsdef]; exact perm_sumW (sortP_perm l)
  have HOF := Aside0.mk (timer_Of HM h hc h0 hl hs)
  have HUP := Aside0.mk (fun (W : World) (hb : Below w.heap.size w W) => HU.ok (p := p) (Kd.C_below h hb) h0 hc hl hs (by omega))
  rw [← hsdef] at HOF HUP HHF
  obtain ⟨N, hN⟩ : ∃ n, n = l.length := ⟨_, rfl⟩
  have hNs : s.length = N := sl.trans hN.symm
  have hsn : shareN s.length p = r := by unfold shareN; rw [if_pos (by omega), sl]; exact hr.symm
  have hsl : shareL s p = s.take r := by unfold shareL; rw [if_pos (by omega), hsn]
  have hse : edgeP s p = rd s (r - 1 : Nat) := by unfold edgeP; rw [if_pos (by omega), hsn]
  obtain ⟨ed, hed⟩ : ∃ x, x = rd s (r - 1 : Nat) := ⟨_, rfl⟩
  rw [← hed] at hse HHF
  have red : smp ed := by rw [hed]; exact rd_smp ss (by omega)
  obtain ⟨x0, hx0⟩ : ∃ x, x = rd s 0 := ⟨_, rfl⟩
  obtain ⟨xk, hxk⟩ : ∃ x, x = rd s (s.length - 1 : Nat) := ⟨_, rfl⟩
  obtain ⟨me, hme⟩ : ∃ m, m = meanP s := ⟨_, rfl⟩
  obtain ⟨md, hmd⟩ : ∃ m, m = medP s := ⟨_, rfl⟩
  obtain ⟨dv, hdv⟩ : ∃ m, m = devP s := ⟨_, rfl⟩
  obtain ⟨ua, hua⟩ : ∃ m, m = hiW l.sum := ⟨_, rfl⟩
  obtain ⟨ub, hub⟩ : ∃ m, m = loW l.sum := ⟨_, rfl⟩
  have hst : statA s = #[.int .i64 (N : Int), .int .i64 ua, .int .u64 ub, .int .i64 x0, .int .i64 xk, .int .i64 me, .int .i64 md, .int .i64 dv] := by unfold statA; rw [hNs, hsum, hua, hub, hx0, hxk, hme, hmd, hdv, hNs]
  obtain ⟨pa, hpa⟩ : ∃ m, m = hiW (s.take r).sum := ⟨_, rfl⟩
  obtain ⟨pb, hpb⟩ : ∃ m, m = loW (s.take r).sum := ⟨_, rfl⟩
  obtain ⟨pm, hpm⟩ : ∃ m, m = meanP (s.take r) := ⟨_, rfl⟩
  have hsh : shareA s p = #[.int .i64 (r : Int), .int .i64 pa, .int .u64 pb, .int .i64 pm, .int .i64 ed] := by unfold shareA; rw [hsn, hsl, hse, hpa, hpb, hpm]
  rw [hst] at HOF
  rw [hsh] at HUP
  have htk := sum_smp (l := s.take r) (fun y hy => ss y (List.mem_of_mem_take hy))
  have HPS := Aside0.mk (And.intro htk.1 (And.intro hpa hpb))
  have HUA := Aside0.mk (And.intro hua hub)
  have HRK := Aside0.mk (fun W => (show Calls Try.prog 21 #[.int .i64 (l.length : Int), .int .i64 p] W (fun e w' => e = .returned (.tuple #[.int .i64 (r : Int), .int .i64 0]) ∧ w' = W) by
    have h3 := timer_Rank (n := (l.length : Int)) (p := p) W (by omega)
    rw [if_neg (by omega), if_neg (by omega), hr0] at h3
    exact h3))
  have d2 : decide ((r : Int) < 1) = false := decide_eq_false (by omega)
  have d3 : decide ((l.length : Int) < (r : Int)) = false := decide_eq_false (by omega)
  have d4 : decide (l.length < r) = false := decide_eq_false (by omega)
  have HO0 := Aside0.mk (fun W => (show Calls Try.prog 15 #[.int .i64 0] W (fun e w' => e = .returned (.agg #[.int .i64 0, .int .u64 0]) ∧ Below W.heap.size W w') from wide_Of W (by unfold in64; omega)))
  have HAL := Aside0.mk (fun W => law_alive HM W)
  have HNB := Aside0.mk (below_alloc (Below.refl w.heap.size w))
  rw [← hN] at HOF HUP HRK h hl hc h0 d3 d4 hr2 ⊢
  have HCA := Aside0.mk h
  have HLS := Aside0.mk hs
  have HNL := Aside0.mk hN
  have HLL := Aside0.mk hl
  have HRD := Aside0.mk red
  have HRR := Aside0.mk (And.intro hr1 hr2)
  clear h hs hN hNs hsdef sl ss hsum hx0 hxk hme hmd hdv hua hub hst hpa hpb hpm hsh hsn hsl hse hed red hr hr0 hl h0 HM HU hp htk HNB hr1 hr2
  go_enter Try.func10, Try.ntmps10
  go_upto_region 10 with (first
    | (go_at_call 12; (with_reducible refine (HOF.out).mono ?_); rintro e w1 ⟨rfl, hb⟩; have T1 := Aside0.mk (heap_alloc_new w1 (.cells #[.int .i64 (N : Int), .int .i64 ua, .int .u64 ub, .int .i64 x0, .int .i64 xk, .int .i64 me, .int .i64 md, .int .i64 dv] 27 (0, 0))); have HB1 := Aside0.mk (hb.alloc hb.size (.cells #[.int .i64 (N : Int), .int .i64 ua, .int .u64 ub, .int .i64 x0, .int .i64 xk, .int .i64 me, .int .i64 md, .int .i64 dv] 27 (0, 0))); have HUP1 := Aside0.mk (HUP.out _ HB1.out); have HOS := Aside0.mk hb.size; clear hb)
    | (go_at_call 25; (with_reducible refine (HUP1.out).mono ?_); rintro e w2 ⟨rfl, hb⟩; have T5 := Aside0.mk (blk_alloc ((hb.block _ (blk_lt T1.out)).trans T1.out) (.cells #[.int .i64 (r : Int), .int .i64 pa, .int .u64 pb, .int .i64 pm, .int .i64 ed] 53 (0, 0))); have T7 := Aside0.mk (heap_alloc_new w2 (.cells #[.int .i64 (r : Int), .int .i64 pa, .int .u64 pb, .int .i64 pm, .int .i64 ed] 53 (0, 0))); have hb2 := hop HB1.out hb; have HB2 := Aside0.mk (hb2.alloc hb2.size (.cells #[.int .i64 (r : Int), .int .i64 pa, .int .u64 pb, .int .i64 pm, .int .i64 ed] 53 (0, 0))); have k0 := blk_cell T7.out 0; have hs12 : w1.heap.size < w2.heap.size := (by have := blk_lt ((hb.block _ (blk_lt T1.out)).trans T1.out); exact this); clear hb hb2)
    | (go_at_call 21; (with_reducible refine (HRK.out _).mono ?_); rintro e w3 ⟨rfl, rfl⟩)
    | (go_at_call 15; (with_reducible refine (HO0.out _).mono ?_); rintro e w4 ⟨rfl, hb⟩; have T54 := Aside0.mk ((hb.block _ (blk_lt T5.out)).trans T5.out); have T74 := Aside0.mk ((hb.block _ (blk_lt T7.out)).trans T7.out); have HB4 := Aside0.mk (hop HB2.out hb); clear hb))
  have t5 := blk_alloc T54.out (.cells #[.int .i64 0, .int .u64 0] 25 (0, 0))
  have t7 := blk_alloc T74.out (.cells #[.int .i64 0, .int .u64 0] 25 (0, 0))
  have t13 := heap_alloc_new w4 (.cells #[.int .i64 0, .int .u64 0] 25 (0, 0))
  have bw := HB4.out.alloc HB4.out.size (.cells #[.int .i64 0, .int .u64 0] 25 (0, 0))
  have g1 : w.heap.size ≤ w1.heap.size := HOS.out
  have g2 : w1.heap.size < w2.heap.size := hs12
  have g3 : w2.heap.size < w4.heap.size := blk_lt T74.out
  obtain ⟨W4, hW4⟩ : ∃ W, W = w4.alloc (.cells #[.int .i64 0, .int .u64 0] 25 (0, 0)) := ⟨_, rfl⟩
  rw [← hW4] at t5 t7 t13 bw ⊢
  obtain ⟨g5, hg5⟩ : ∃ g, g = w1.heap.size := ⟨_, rfl⟩
  obtain ⟨g7, hg7⟩ : ∃ g, g = w2.heap.size := ⟨_, rfl⟩
  obtain ⟨g13, hg13⟩ : ∃ g, g = w4.heap.size := ⟨_, rfl⟩
  rw [← hg5] at t5 g1 g2 ⊢
  rw [← hg7] at t7 g2 g3 ⊢
  rw [← hg13] at t13 g3 ⊢
  have T5S := Aside0.mk t5
  have T7S := Aside0.mk t7
  have T13S := Aside0.mk t13
  have BWS := Aside0.mk bw
  clear t5 t7 t13 bw hW4 hg5 hg7 hg13 T54 T74 HB4 HB2 HB1 T1 T5 T7 HUP1 k0 hs12 d2 d3 d4 HUP HOF HRK
  go_wp2_with (fail)
  go_loopg [11, 12, 14] N (fun kq v11 v12 v14 w' => ∃ i : Nat, v11 = .int .i64 (((l.take i).countP (ltM ed) : Nat) : Int) ∧ v12 = .int .i64 (((l.take i).countP (leM ed) : Nat) : Int) ∧ v14 = .int .i64 i ∧ i + kq = N ∧ Aside0 (w'.heap[g13]? = some (.cells #[.int .i64 (hiW (gtP ed (l.take i))), .int .u64 (loW (gtP ed (l.take i)))] 25 (0, 0))) ∧ Aside0 (w'.heap[g7]? = some (.cells #[.int .i64 (r : Int), .int .i64 pa, .int .u64 pb, .int .i64 pm, .int .i64 ed] 53 (0, 0))) ∧ Aside0 (w'.heap[g5]? = some (.cells #[.int .i64 (N : Int), .int .i64 ua, .int .u64 ub, .int .i64 x0, .int .i64 xk, .int .i64 me, .int .i64 md, .int .i64 dv] 27 (0, 0))) ∧ Aside0 (Below w.heap.size w w'))
  case atStart => exact ⟨0, rfl, rfl, rfl, by omega, T13S, T7S, T5S, BWS⟩
  case round =>
    clear T13S T7S T5S BWS
    obtain ⟨i, rfl, rfl, rfl, hik, T13, T7, T5, BW⟩ := hrel
    cases gk with
    | zero =>
      obtain rfl : N = i := by omega
      have d1 : decide (N < N) = false := decide_eq_false (by omega)
      have htk : l.take N = l := by rw [HNL.out, List.take_length]
      rw [htk] at T13 ⊢
      have hgr := gtP_rng ed HLS.out (by rw [← HNL.out]; exact HLL.out) N
      rw [htk] at hgr
      obtain ⟨G, hG⟩ : ∃ S, S = gtP ed l := ⟨_, rfl⟩
      obtain ⟨lo, hlo⟩ : ∃ n, n = l.countP (ltM ed) := ⟨_, rfl⟩
      obtain ⟨hi, hhi⟩ : ∃ n, n = l.countP (leM ed) := ⟨_, rfl⟩
      have hhi2 : hi ≤ N := by rw [hhi, HNL.out]; exact List.countP_le_length
      have hhf := HHF.out
      rw [← hlo, ← hhi, ← hG] at hhf
      rw [← hlo, ← hhi]
      rw [← hG] at T13 hgr
      have hsm := sum_inW HLS.out (by rw [← HNL.out]; exact HLL.out) N
      rw [htk] at hsm
      obtain ⟨z1, z2, z3, z4, z5, z6, z7, z8⟩ := half_num HRD.out hhf.2.1 (Nat.le_trans hhi2 HLL.out)
      have HOE := Aside0.mk (fun W => wide_Of (z := ed) W z1)
      have HOU := Aside0.mk (fun W => wide_Of (z := (hi : Int) - (r : Int)) W z2)
      have HML := Aside0.mk (fun W => wide_Mul (x := ed) (y := (hi : Int) - (r : Int)) W z1 z2)
      have HSM := Aside0.mk (fun (W : World) (g : Nat) (hc : W.heap[g]? = some _) => wide_Sum3 (x := (s.take r).sum) (y := G) (z := ed * ((hi : Int) - (r : Int))) (w := W) (g := g) HPS.out.1 hgr.1 z3 (by rw [hhf.2.2]; exact hsm.2.2) hc)
      rw [hhf.2.2] at HSM
      unfold WV at HOE HOU HML HSM
      rw [← HUA.out.1, ← HUA.out.2, ← HPS.out.2.1, ← HPS.out.2.2] at HSM
      obtain ⟨ea, hea⟩ : ∃ a, a = hiW ed := ⟨_, rfl⟩
      obtain ⟨eb, heb⟩ : ∃ a, a = loW ed := ⟨_, rfl⟩
      obtain ⟨fa, hfa⟩ : ∃ a, a = hiW ((hi : Int) - (r : Int)) := ⟨_, rfl⟩
      obtain ⟨fb, hfb⟩ : ∃ a, a = loW ((hi : Int) - (r : Int)) := ⟨_, rfl⟩
      obtain ⟨ma, hma⟩ : ∃ a, a = hiW (ed * ((hi : Int) - (r : Int))) := ⟨_, rfl⟩
      obtain ⟨mb, hmb⟩ : ∃ a, a = loW (ed * ((hi : Int) - (r : Int))) := ⟨_, rfl⟩
      obtain ⟨ga, hga⟩ : ∃ a, a = hiW G := ⟨_, rfl⟩
      obtain ⟨gb, hgb⟩ : ∃ a, a = loW G := ⟨_, rfl⟩
      rw [← hea, ← heb] at HOE HML
      rw [← hfa, ← hfb] at HOU HML
      rw [← hma, ← hmb] at HML HSM
      rw [← hga, ← hgb] at HSM T13
      have n4 := blk_cell T7.out 4
      have c1 : decide (lo < r) = true := decide_eq_true hhf.1
      have c1i : decide ((lo : Int) < (r : Int)) = true := decide_eq_true (by have := hhf.1; omega)
      have c2 : decide (r ≤ hi) = true := decide_eq_true hhf.2.1
      have c2i : decide ((r : Int) ≤ (hi : Int)) = true := decide_eq_true (by have := hhf.2.1; omega)
      clear hea heb hfa hfb hma hmb hga hgb hG hlo hhi hhf hsm hgr htk hhi2 z1 z2 z3 z6 z7 z8
      go_wp2_with (first
        | (go_at_call 15; (with_reducible refine (HOE.out _).mono ?_); rintro e w5 ⟨rfl, hb⟩; have A7 := Aside0.mk ((hb.block _ (blk_lt T7.out)).trans T7.out); have A13 := Aside0.mk ((hb.block _ (blk_lt T13.out)).trans T13.out); have A5 := Aside0.mk ((hb.block _ (blk_lt T5.out)).trans T5.out); have BA := Aside0.mk (hop BW.out hb); clear hb)
        | (go_at_call 15; (with_reducible refine (HOU.out _).mono ?_); rintro e w6 ⟨rfl, hb⟩; have B7 := Aside0.mk ((hb.block _ (blk_lt A7.out)).trans A7.out); have B13 := Aside0.mk ((hb.block _ (blk_lt A13.out)).trans A13.out); have B5 := Aside0.mk ((hb.block _ (blk_lt A5.out)).trans A5.out); have BB := Aside0.mk (hop BA.out hb); clear hb)
        | (go_at_call 27; (with_reducible refine (HML.out _).mono ?_); rintro e w7 ⟨rfl, hb⟩; have q7 := blk_alloc ((hb.block _ (blk_lt B7.out)).trans B7.out) (.cells #[.int .i64 ma, .int .u64 mb] 25 (0, 0)); have q13 := blk_alloc ((hb.block _ (blk_lt B13.out)).trans B13.out) (.cells #[.int .i64 ma, .int .u64 mb] 25 (0, 0)); have q5 := blk_alloc ((hb.block _ (blk_lt B5.out)).trans B5.out) (.cells #[.int .i64 ma, .int .u64 mb] 25 (0, 0)); have q17 := heap_alloc_new w7 (.cells #[.int .i64 ma, .int .u64 mb] 25 (0, 0)); have n1 := blk_cell q7 1; have n2 := blk_cell q7 2; have n3 := blk_cell q13 0; have n5 := blk_cell q13 1; have n6 := blk_cell q17 0; have n7 := blk_cell q17 1; have Q5 := Aside0.mk (blk_alloc q5 (.cells #[.int .i64 pa, .int .u64 pb, .int .i64 ga, .int .u64 gb, .int .i64 ma, .int .u64 mb] 25 (0, 0))); have bc := (hop BB.out hb).alloc (hop BB.out hb).size (.cells #[.int .i64 ma, .int .u64 mb] 25 (0, 0)); have BC := Aside0.mk (bc.alloc bc.size (.cells #[.int .i64 pa, .int .u64 pb, .int .i64 ga, .int .u64 gb, .int .i64 ma, .int .u64 mb] 25 (0, 0))); clear hb q7 q13 q5 q17 bc)
        | (go_at_call 28; (with_reducible refine (HSM.out _ _ (heap_alloc2_new w7 (.cells #[.int .i64 ma, .int .u64 mb] 25 (0, 0)) (.cells #[.int .i64 pa, .int .u64 pb, .int .i64 ga, .int .u64 gb, .int .i64 ma, .int .u64 mb] 25 (0, 0)))).mono ?_); rintro e w8 ⟨rfl, hb⟩; have r5 := blk_alloc ((hb.block _ (blk_lt Q5.out)).trans Q5.out) (.cells #[.int .i64 ua, .int .u64 ub] 25 (0, 0)); have r19 := heap_alloc_new w8 (.cells #[.int .i64 ua, .int .u64 ub] 25 (0, 0)); have o1 := blk_cell r5 1; have o2 := blk_cell r5 2; have o3 := blk_cell r19 0; have o4 := blk_cell r19 1; have BD := Aside0.mk ((hop BC.out hb).alloc (hop BC.out hb).size (.cells #[.int .i64 ua, .int .u64 ub] 25 (0, 0))); clear hb r5 r19)
        | (go_at_call 14; (with_reducible refine (HAL.out _).mono ?_); rintro e w9 ⟨rfl, hb⟩; have BE := Aside0.mk (hop BD.out hb); clear hb))
      go_ret
      exact ⟨rfl, BE.out⟩
    | succ k_ =>
      have hlt : i < N := by omega
      have hil : i < l.length := by rw [← HNL.out]; exact hlt
      have d1 : decide (i < N) = true := decide_eq_true hlt
      obtain ⟨ad, rfl, hcx⟩ := cell_rd (w := wr) (l := l) (by rw [← HNL.out]; exact Kd.C_below HCA.out BW.out) hil
      have c1 := countP_snoc (ltM ed) hil
      have c2 := countP_snoc (leM ed) hil
      have c3 := gtP_snoc ed hil
      obtain ⟨x, hx⟩ : ∃ x, x = rd l (i : Nat) := ⟨_, rfl⟩
      have hxl : x ∈ l := by rw [hx, rdE hil]; exact List.getElem_mem _
      rw [← hx] at hcx c1 c2 c3
      have hsx := HLS.out x hxl
      have hgr := gtP_rng ed HLS.out (by rw [← HNL.out]; exact HLL.out) i
      obtain ⟨S, hS⟩ : ∃ S, S = gtP ed (l.take i) := ⟨_, rfl⟩
      rw [← hS] at hgr c3 T13
      have hin := add_inW hgr hsx
      have HO := Aside0.mk (fun W => wide_Of (z := x) W hin.2.2.2)
      have HA := Aside0.mk (fun W => wide_Add (x := S) (y := x) W hin.1 hin.2.1 _ 0 (.inl ⟨hin.2.2.1, rfl, rfl⟩))
      unfold WV at HO HA
      obtain ⟨sa, hsa⟩ : ∃ a, a = hiW S := ⟨_, rfl⟩
      obtain ⟨sb, hsb⟩ : ∃ a, a = loW S := ⟨_, rfl⟩
      obtain ⟨qa, hqa⟩ : ∃ a, a = hiW (S + x) := ⟨_, rfl⟩
      obtain ⟨qb, hqb⟩ : ∃ a, a = loW (S + x) := ⟨_, rfl⟩
      obtain ⟨xa, hxa⟩ : ∃ a, a = hiW x := ⟨_, rfl⟩
      obtain ⟨xb, hxb⟩ : ∃ a, a = loW x := ⟨_, rfl⟩
      rw [← hsa, ← hsb, ← hqa, ← hqb, ← hxa, ← hxb] at HA
      rw [← hxa, ← hxb] at HO
      rw [← hsa, ← hsb] at T13
      have HQQ := Aside0.mk (And.intro hqa hqb)
      have HSA := Aside0.mk (And.intro hsa hsb)
      have HXE := Aside0.mk hx
      have x1 := hcx
      have k4 := blk_cell T7.out 4
      obtain ⟨lo, hlo⟩ : ∃ n, n = (l.take i).countP (ltM ed) := ⟨_, rfl⟩
      obtain ⟨hi, hhi⟩ : ∃ n, n = (l.take i).countP (leM ed) := ⟨_, rfl⟩
      have hlen : (l.take i).length ≤ i := by rw [List.length_take]; omega
      have hlo2 : lo ≤ i := by rw [hlo]; exact Nat.le_trans List.countP_le_length hlen
      have hhi2 : hi ≤ i := by rw [hhi]; exact Nat.le_trans List.countP_le_length hlen
      have HN1 := Aside0.mk (next64 hlt HLL.out)
      have HN2 := Aside0.mk (next64 (i := lo) (N := N) (by omega) HLL.out)
      have HN3 := Aside0.mk (next64 (i := hi) (N := N) (by omega) HLL.out)
      rw [← hlo] at c1 ⊢
      rw [← hhi] at c2 ⊢
      obtain ⟨bl, hbl⟩ : ∃ b, decide (x < ed) = b := ⟨_, rfl⟩
      obtain ⟨bu, hbu⟩ : ∃ b, decide (x ≤ ed) = b := ⟨_, rfl⟩
      rw [show ltM ed x = bl from hbl] at c1
      rw [show leM ed x = bu from hbu] at c2 c3
      have HC1 := Aside0.mk c1
      have HC2 := Aside0.mk c2
      have HG := Aside0.mk c3
      have HCX0 := Aside0.mk hcx
      have HBB := Aside0.mk (show bl = true → bu = true from fun e => by rw [e] at hbl; rw [← hbu]; exact decide_eq_true (by have := of_decide_eq_true hbl; omega))
      clear c1 c2 c3 hx hxl hsx hgr hin hsa hsb hqa hqb hxa hxb hlo hhi hlo2 hhi2 hlen hcx hS
      go_upto_region 13 with (fail)
      go_quiet (fail)
      cases bl with
      | true =>
        have e := HBB.out rfl
        subst e
        go_upto_region 15 with (fail)
        go_quiet (fail)
        go_wp2_with (fail)
        go_roundg k_
        case rel =>
          refine ⟨i + 1, by first | rfl | (rw [HC1.out]; first | rfl | exact congrArg (Value.int IntKind.i64) HN2.out | (rw [if_neg (by decide), Nat.add_zero]; done)), by first | rfl | (rw [HC2.out]; first | rfl | exact congrArg (Value.int IntKind.i64) HN3.out | (rw [if_neg (by decide), Nat.add_zero]; done)), by first | (rw [HN1.out]; done) | go_num, by omega, ⟨?_⟩, ⟨T7.out⟩, ⟨T5.out⟩, ⟨pw_below_drewN BW.out _⟩⟩
          rw [HG.out]
          first | rw [if_pos trivial] | rw [if_pos rfl]
          rw [Int.add_zero]
          exact by rw [HSA.out.1, HSA.out.2] at T13; exact T13.out
        case measure => omega
      | false =>
        go_upto_region 15 with (fail)
        go_quiet (fail)
        cases bu with
        | true =>
          go_wp2_with (fail)
          go_roundg k_
          case rel =>
            refine ⟨i + 1, by first | rfl | (rw [HC1.out]; first | rfl | exact congrArg (Value.int IntKind.i64) HN2.out | (rw [if_neg (by decide), Nat.add_zero]; done)), by first | rfl | (rw [HC2.out]; first | rfl | exact congrArg (Value.int IntKind.i64) HN3.out | (rw [if_neg (by decide), Nat.add_zero]; done)), by first | (rw [HN1.out]; done) | go_num, by omega, ⟨?_⟩, ⟨T7.out⟩, ⟨T5.out⟩, ⟨pw_below_drewN BW.out _⟩⟩
            rw [HG.out]
            first | rw [if_pos trivial] | rw [if_pos rfl]
            rw [Int.add_zero]
            exact by rw [HSA.out.1, HSA.out.2] at T13; exact T13.out
          case measure => omega
        | false =>
          go_upto_region 17 with (fail)
          generalize hV : (wr.drewN _).drewN _ = V
          have TV13 := Aside0.mk (show V.heap[g13]? = some (.cells #[.int .i64 sa, .int .u64 sb] 25 (0, 0)) by rw [← hV]; exact T13.out)
          have TV7 := Aside0.mk (show V.heap[g7]? = some (.cells #[.int .i64 (r : Int), .int .i64 pa, .int .u64 pb, .int .i64 pm, .int .i64 ed] 53 (0, 0)) by rw [← hV]; exact T7.out)
          have TV5 := Aside0.mk (show V.heap[g5]? = some (.cells #[.int .i64 (N : Int), .int .i64 ua, .int .u64 ub, .int .i64 x0, .int .i64 xk, .int .i64 me, .int .i64 md, .int .i64 dv] 27 (0, 0)) by rw [← hV]; exact T5.out)
          have BV := Aside0.mk (show Below w.heap.size w V by rw [← hV]; exact pw_below_drewN (pw_below_drewN BW.out _) _)
          have HCX := Aside0.mk (show V.cell? (ad.add i) = some (.int .i64 x) by rw [← hV]; exact HCX0.out)
          clear hV T13 T7 T5 BW HCX0 k4 x1
          have HB := Aside0.mk (show Below V.heap.size V V.drew from (Below.refl _ _).drew)
          refine start_ (n := 13) (S := fun w' => True) (ds := []) #[false, false, false, false, false, false, false, false, false, false, false, false, false] (by kernel_rfl) rfl rfl trivial (fun hHeld => ?_)
          refine with_tabW lha17.tab lha17.bits (fun HT_ HW_ => ?_)
          refine inv_at [0, 1, 2, 3, 4, 5, 6, 7, 8, 9, 10, 11, 12] (fun a0_ b a w' => ∃ (g15 : Nat) (m10_ : Value), a = putSel a0_ b [(0, 98, .agg #[.int .i64 sa, .int .u64 sb]), (1, 99, .slice (some ad) N c), (2, 100, .int .i64 (i : Int)), (3, 101, .pointer (some (ad.add i))), (4, 102, .int .i64 x), (5, 103, .agg #[.int .i64 xa, .int .u64 xb]), (6, 104, .tuple #[.agg #[.int .i64 qa, .int .u64 qb], .int .i64 0]), (7, 97, .tuple #[.agg #[.int .i64 qa, .int .u64 qb], .int .i64 0]), (8, 105, .agg #[.int .i64 qa, .int .u64 qb]), (9, 106, .int .i64 0), (10, 15, m10_), (12, 16, .int .i64 0)] ∧ (Below V.heap.size V w') ∧ (b 10 = true → V.heap.size ≤ g15) ∧ (b 10 = true → g15 < w'.heap.size) ∧ (b 10 = true → b 11 = false → w'.heap[g15]? = some (.cells #[.int .i64 0, .int .u64 0] 25 (0, 0))) ∧ (b 10 = true → b 11 = true → w'.heap[g15]? = some (.cells #[.int .i64 qa, .int .u64 qb] 25 (0, 0))) ∧ (b 10 = true → (m10_ : Value) = .pointer (some ⟨g15, 0, none⟩))) HT_.out HW_.out (by kernel_rfl) (by kernel_rfl) ?_ ?_ ?_
          · exact ⟨0, .bool false, by simp only [putSel, Bool.false_eq_true, if_false], HB.out, fun h_ => absurd h_ (by decide), fun h_ => absurd h_ (by decide), fun h_ => absurd h_ (by decide), fun h_ => absurd h_ (by decide), fun h_ => absurd h_ (by decide)⟩
          · skip
            clear HB
            refine steps_cons ?_ ?_
            · rintro b a w' ⟨g15, m10_, ha, Q_HB, Q_G10, Q_L10, Q_Z10, Q_N11, Q_X10_⟩ hb_ hon hoff
              refine ⟨_, rfl, fun K hK => ?_⟩
              have e13 : a.tmps[13]? = some (.pointer (some ⟨g13, 0, none⟩)) := by rw [ha]; exact (putSel_off rfl).trans rfl
              replace ha := Aside0.mk ha
              have HB := Aside0.mk Q_HB
              have k0 := blk_cell ((HB.out.block _ (blk_lt TV13.out)).trans TV13.out) 0
              have k1 := blk_cell ((HB.out.block _ (blk_lt TV13.out)).trans TV13.out) 1
              refine value_ (w1 := w') (v := .agg #[.int .i64 sa, .int .u64 sb]) (by rfl) rfl ?_ ?_
              · go_simp
                (try simp only [i64_w])
                try rfl
                try assumption
                try (unfold wrap64; omega)
              refine hK.out _ _ ⟨g15, m10_, (by rw [ha.out]; exact putSel_upk 0 hb_ rfl rfl rfl), Q_HB, Q_G10, Q_L10, Q_Z10, fun _ h1_ => absurd ((hoff 11 (by kernel_rfl)).symm.trans h1_) (by decide), Q_X10_⟩
            refine steps_cons ?_ ?_
            · rintro b a w' ⟨g15, m10_, ha, Q_HB, Q_G10, Q_L10, Q_Z10, Q_N11, Q_X10_⟩ hb_ hon hoff
              refine ⟨_, rfl, fun K hK => ?_⟩
              have e0 : a.tmps[0]? = some (.slice (some ad) N c) := by rw [ha]; exact (putSel_off rfl).trans rfl
              replace ha := Aside0.mk ha
              have HB := Aside0.mk Q_HB
              refine value_ (w1 := w') (v := .slice (some ad) N c) (by rfl) rfl ?_ ?_
              · go_simp
                (try simp only [i64_w])
                try rfl
                try assumption
                try (unfold wrap64; omega)
              refine hK.out _ _ ⟨g15, m10_, (by rw [ha.out]; exact putSel_upk 1 hb_ rfl rfl rfl), Q_HB, Q_G10, Q_L10, Q_Z10, fun _ h1_ => absurd ((hoff 11 (by kernel_rfl)).symm.trans h1_) (by decide), Q_X10_⟩
            refine steps_cons ?_ ?_
            · rintro b a w' ⟨g15, m10_, ha, Q_HB, Q_G10, Q_L10, Q_Z10, Q_N11, Q_X10_⟩ hb_ hon hoff
              refine ⟨_, rfl, fun K hK => ?_⟩
              have e14 : a.tmps[14]? = some (.int .i64 (i : Int)) := by rw [ha]; exact (putSel_off rfl).trans rfl
              replace ha := Aside0.mk ha
              have HB := Aside0.mk Q_HB
              refine value_ (w1 := w') (v := .int .i64 (i : Int)) (by rfl) rfl ?_ ?_
              · go_simp
                (try simp only [i64_w])
                try rfl
                try assumption
                try (unfold wrap64; omega)
              refine hK.out _ _ ⟨g15, m10_, (by rw [ha.out]; exact putSel_upk 2 hb_ rfl rfl rfl), Q_HB, Q_G10, Q_L10, Q_Z10, fun _ h1_ => absurd ((hoff 11 (by kernel_rfl)).symm.trans h1_) (by decide), Q_X10_⟩
            refine steps_cons ?_ ?_
            · rintro b a w' ⟨g15, m10_, ha, Q_HB, Q_G10, Q_L10, Q_Z10, Q_N11, Q_X10_⟩ hb_ hon hoff
              refine ⟨_, rfl, fun K hK => ?_⟩
              have e99 : a.tmps[99]? = some (.slice (some ad) N c) := by rw [ha]; exact putSel_on (e := (1, 99, .slice (some ad) N c)) 1 rfl rfl (hon 1 (by kernel_rfl)) rfl
              have e100 : a.tmps[100]? = some (.int .i64 (i : Int)) := by rw [ha]; exact putSel_on (e := (2, 100, .int .i64 (i : Int))) 2 rfl rfl (hon 2 (by kernel_rfl)) rfl
              replace ha := Aside0.mk ha
              have HB := Aside0.mk Q_HB
              refine value_ (w1 := w') (v := .pointer (some (ad.add i))) (by rfl) rfl ?_ ?_
              · go_simp
                (try simp only [i64_w])
                try rfl
                try assumption
                try (unfold wrap64; omega)
              refine hK.out _ _ ⟨g15, m10_, (by rw [ha.out]; exact putSel_upk 3 hb_ rfl rfl rfl), Q_HB, Q_G10, Q_L10, Q_Z10, fun _ h1_ => absurd ((hoff 11 (by kernel_rfl)).symm.trans h1_) (by decide), Q_X10_⟩
            refine steps_cons ?_ ?_
            · rintro b a w' ⟨g15, m10_, ha, Q_HB, Q_G10, Q_L10, Q_Z10, Q_N11, Q_X10_⟩ hb_ hon hoff
              refine ⟨_, rfl, fun K hK => ?_⟩
              have e101 : a.tmps[101]? = some (.pointer (some (ad.add i))) := by rw [ha]; exact putSel_on (e := (3, 101, .pointer (some (ad.add i)))) 3 rfl rfl (hon 3 (by kernel_rfl)) rfl
              replace ha := Aside0.mk ha
              have HB := Aside0.mk Q_HB
              have k0 := pw_cell_below HB.out HCX.out
              refine value_ (w1 := w') (v := .int .i64 x) (by rfl) rfl ?_ ?_
              · go_simp
                (try simp only [i64_w])
                try rfl
                try assumption
                try (unfold wrap64; omega)
              refine hK.out _ _ ⟨g15, m10_, (by rw [ha.out]; exact putSel_upk 4 hb_ rfl rfl rfl), Q_HB, Q_G10, Q_L10, Q_Z10, fun _ h1_ => absurd ((hoff 11 (by kernel_rfl)).symm.trans h1_) (by decide), Q_X10_⟩
            refine steps_cons ?_ ?_
            · rintro b a w' ⟨g15, m10_, ha, Q_HB, Q_G10, Q_L10, Q_Z10, Q_N11, Q_X10_⟩ hb_ hon hoff
              refine ⟨_, rfl, fun K hK => ?_⟩
              have e102 : a.tmps[102]? = some (.int .i64 x) := by rw [ha]; exact putSel_on (e := (4, 102, .int .i64 x)) 4 rfl rfl (hon 4 (by kernel_rfl)) rfl
              replace ha := Aside0.mk ha
              have HB := Aside0.mk Q_HB
              refine goes_ Try.func15 (by kernel_rfl) rfl #[.int .i64 x] (by rfl) rfl rfl (by first | (simp only [List.map_toArray, List.map_cons, List.map_nil, Act.eval, Array.getD_eq_getD_getElem?, Option.getD_some, e102]; done) | (simp only [List.map_toArray, List.map_cons, List.map_nil, Act.eval, Array.getD_eq_getD_getElem?, Option.getD_some, e102]; rfl)) ?_
              with_reducible refine (HO.out _).mono ?_
              rintro e w1 ⟨rfl, hb⟩
              refine ⟨_, rfl, ?_⟩
              refine hK.out _ _ ⟨g15, m10_, (by rw [ha.out]; exact putSel_upk 5 hb_ rfl rfl rfl), hop HB.out hb, Q_G10, fun h10 => Nat.lt_of_lt_of_le (Q_L10 h10) hb.size, fun h10 h11 => (hb.block _ (blk_lt (Q_Z10 h10 h11))).trans (Q_Z10 h10 h11), fun _ h1_ => absurd ((hoff 11 (by kernel_rfl)).symm.trans h1_) (by decide), Q_X10_⟩
            refine steps_cons ?_ ?_
            · rintro b a w' ⟨g15, m10_, ha, Q_HB, Q_G10, Q_L10, Q_Z10, Q_N11, Q_X10_⟩ hb_ hon hoff
              refine ⟨_, rfl, fun K hK => ?_⟩
              have e98 : a.tmps[98]? = some (.agg #[.int .i64 sa, .int .u64 sb]) := by rw [ha]; exact putSel_on (e := (0, 98, .agg #[.int .i64 sa, .int .u64 sb])) 0 rfl rfl (hon 0 (by kernel_rfl)) rfl
              have e103 : a.tmps[103]? = some (.agg #[.int .i64 xa, .int .u64 xb]) := by rw [ha]; exact putSel_on (e := (5, 103, .agg #[.int .i64 xa, .int .u64 xb])) 5 rfl rfl (hon 5 (by kernel_rfl)) rfl
              replace ha := Aside0.mk ha
              have HB := Aside0.mk Q_HB
              refine goes_ Try.func16 (by kernel_rfl) rfl #[.agg #[.int .i64 sa, .int .u64 sb], .agg #[.int .i64 xa, .int .u64 xb]] (by rfl) rfl rfl (by first | (simp only [List.map_toArray, List.map_cons, List.map_nil, Act.eval, Array.getD_eq_getD_getElem?, Option.getD_some, e98, e103]; done) | (simp only [List.map_toArray, List.map_cons, List.map_nil, Act.eval, Array.getD_eq_getD_getElem?, Option.getD_some, e98, e103]; rfl)) ?_
              with_reducible refine (HA.out _).mono ?_
              rintro e w1 ⟨rfl, hb⟩
              refine ⟨_, rfl, ?_⟩
              refine hK.out _ _ ⟨g15, m10_, (by rw [ha.out]; exact putSel_upk 6 hb_ rfl rfl rfl), hop HB.out hb, Q_G10, fun h10 => Nat.lt_of_lt_of_le (Q_L10 h10) hb.size, fun h10 h11 => (hb.block _ (blk_lt (Q_Z10 h10 h11))).trans (Q_Z10 h10 h11), fun _ h1_ => absurd ((hoff 11 (by kernel_rfl)).symm.trans h1_) (by decide), Q_X10_⟩
            refine steps_cons ?_ ?_
            · rintro b a w' ⟨g15, m10_, ha, Q_HB, Q_G10, Q_L10, Q_Z10, Q_N11, Q_X10_⟩ hb_ hon hoff
              refine ⟨_, rfl, fun K hK => ?_⟩
              have e104 : a.tmps[104]? = some (.tuple #[.agg #[.int .i64 qa, .int .u64 qb], .int .i64 0]) := by rw [ha]; exact putSel_on (e := (6, 104, .tuple #[.agg #[.int .i64 qa, .int .u64 qb], .int .i64 0])) 6 rfl rfl (hon 6 (by kernel_rfl)) rfl
              replace ha := Aside0.mk ha
              have HB := Aside0.mk Q_HB
              refine value_ (w1 := w') (v := .tuple #[.agg #[.int .i64 qa, .int .u64 qb], .int .i64 0]) (by rfl) rfl ?_ ?_
              · go_simp
                (try simp only [i64_w])
                try rfl
                try assumption
                try (unfold wrap64; omega)
              refine hK.out _ _ ⟨g15, m10_, (by rw [ha.out]; exact putSel_upk 7 hb_ rfl rfl rfl), Q_HB, Q_G10, Q_L10, Q_Z10, fun _ h1_ => absurd ((hoff 11 (by kernel_rfl)).symm.trans h1_) (by decide), Q_X10_⟩
            refine steps_cons ?_ ?_
            · rintro b a w' ⟨g15, m10_, ha, Q_HB, Q_G10, Q_L10, Q_Z10, Q_N11, Q_X10_⟩ hb_ hon hoff
              refine ⟨_, rfl, fun K hK => ?_⟩
              have e97 : a.tmps[97]? = some (.tuple #[.agg #[.int .i64 qa, .int .u64 qb], .int .i64 0]) := by rw [ha]; exact putSel_on (e := (7, 97, .tuple #[.agg #[.int .i64 qa, .int .u64 qb], .int .i64 0])) 7 rfl rfl (hon 7 (by kernel_rfl)) rfl
              replace ha := Aside0.mk ha
              have HB := Aside0.mk Q_HB
              refine value_ (w1 := w') (v := .agg #[.int .i64 qa, .int .u64 qb]) (by rfl) rfl ?_ ?_
              · go_simp
                (try simp only [i64_w])
                try rfl
                try assumption
                try (unfold wrap64; omega)
              refine hK.out _ _ ⟨g15, m10_, (by rw [ha.out]; exact putSel_upk 8 hb_ rfl rfl rfl), Q_HB, Q_G10, Q_L10, Q_Z10, fun _ h1_ => absurd ((hoff 11 (by kernel_rfl)).symm.trans h1_) (by decide), Q_X10_⟩
            refine steps_cons ?_ ?_
            · rintro b a w' ⟨g15, m10_, ha, Q_HB, Q_G10, Q_L10, Q_Z10, Q_N11, Q_X10_⟩ hb_ hon hoff
              refine ⟨_, rfl, fun K hK => ?_⟩
              have e97 : a.tmps[97]? = some (.tuple #[.agg #[.int .i64 qa, .int .u64 qb], .int .i64 0]) := by rw [ha]; exact putSel_on (e := (7, 97, .tuple #[.agg #[.int .i64 qa, .int .u64 qb], .int .i64 0])) 7 rfl rfl (hon 7 (by kernel_rfl)) rfl
              replace ha := Aside0.mk ha
              have HB := Aside0.mk Q_HB
              refine value_ (w1 := w') (v := .int .i64 0) (by rfl) rfl ?_ ?_
              · go_simp
                (try simp only [i64_w])
                try rfl
                try assumption
                try (unfold wrap64; omega)
              refine hK.out _ _ ⟨g15, m10_, (by rw [ha.out]; exact putSel_upk 9 hb_ rfl rfl rfl), Q_HB, Q_G10, Q_L10, Q_Z10, Q_N11, Q_X10_⟩
            refine steps_cons ?_ ?_
            · rintro b a w' ⟨g15, m10_, ha, Q_HB, Q_G10, Q_L10, Q_Z10, Q_N11, Q_X10_⟩ hb_ hon hoff
              refine ⟨_, rfl, fun K hK => ?_⟩
              replace ha := Aside0.mk ha
              have HB := Aside0.mk Q_HB
              have hb := (Below.refl w'.heap.size w').alloc (Nat.le_refl _) (.cells #[.int .i64 0, .int .u64 0] 25 (0, 0))
              refine value_ (w1 := w'.alloc (.cells #[.int .i64 0, .int .u64 0] 25 (0, 0))) (v := .pointer (some ⟨w'.heap.size, 0, none⟩)) (by rfl) rfl ?_ ?_
              · go_simp
                try rfl
                try assumption
                try (unfold wrap64; omega)
              refine hK.out _ _ ⟨w'.heap.size, (.pointer (some ⟨w'.heap.size, 0, none⟩)), (by rw [ha.out]; exact putSel_upk 10 hb_ rfl rfl rfl), hop HB.out hb, fun _ => HB.out.size, fun _ => (by simp), fun _ _ => heap_alloc_new w' _, fun _ h1_ => absurd ((hoff 11 (by kernel_rfl)).symm.trans h1_) (by decide), fun _ => rfl⟩
            refine steps_cons ?_ ?_
            · rintro b a w' ⟨g15, m10_, ha, Q_HB, Q_G10, Q_L10, Q_Z10, Q_N11, Q_X10_⟩ hb_ hon hoff
              refine ⟨_, rfl, fun K hK => ?_⟩
              have e15 : a.tmps[15]? = some (m10_) := by rw [ha]; exact putSel_on (e := (10, 15, m10_)) 10 rfl rfl (hon 10 (by kernel_rfl)) rfl
              rw [Q_X10_ (hon 10 (by kernel_rfl))] at e15
              have e105 : a.tmps[105]? = some (.agg #[.int .i64 qa, .int .u64 qb]) := by rw [ha]; exact putSel_on (e := (8, 105, .agg #[.int .i64 qa, .int .u64 qb])) 8 rfl rfl (hon 8 (by kernel_rfl)) rfl
              replace ha := Aside0.mk ha
              have HB := Aside0.mk Q_HB
              have G10 := Aside0.mk (Q_G10 (hon 10 (by kernel_rfl)))
              have L10 := Aside0.mk (Q_L10 (hon 10 (by kernel_rfl)))
              have Z10 := Aside0.mk (Q_Z10 (hon 10 (by kernel_rfl)) hb_)
              have hk : Keep w' ((w'.setCell ⟨g15, 0, none⟩ (.int .i64 qa)).setCell ⟨g15, 1, none⟩ (.int .u64 qb)) (fun k => k = g15) := (((Keep.refl w' (fun k => k = g15)).set ⟨g15, 0, none⟩ (.int .i64 qa) (.inl rfl)).set ⟨g15, 1, none⟩ (.int .u64 qb) (.inl rfl))
              have y0 := blk_cell Z10.out 0
              have y1 := blk_cell Z10.out 1
              have z0 := blk_frozen Z10.out 0
              have z1 := blk_frozen Z10.out 1
              refine skip_ (w1 := ((w'.setCell ⟨g15, 0, none⟩ (.int .i64 qa)).setCell ⟨g15, 1, none⟩ (.int .u64 qb))) (by rfl) rfl ?_ ?_
              · go_simp
                try rfl
                try assumption
                try (unfold wrap64; omega)
              refine hK.out _ _ ⟨g15, m10_, (by rw [ha.out]; exact putSel_none (v := undef) rfl), HB.out.trans (hk.below HB.out.size (fun k e => by have e2 : k = g15 := e; rw [e2]; exact G10.out)), Q_G10, fun h10 => Nat.lt_of_lt_of_le (Q_L10 h10) hk.size, fun _ h1_ => absurd ((up_self b 11).symm.trans h1_) (by decide), fun _ _ => (blk_put (blk_put Z10.out 0 (.int .i64 qa) rfl) 1 (.int .u64 qb) rfl), Q_X10_⟩
            refine steps_cons ?_ ?_
            · rintro b a w' ⟨g15, m10_, ha, Q_HB, Q_G10, Q_L10, Q_Z10, Q_N11, Q_X10_⟩ hb_ hon hoff
              refine ⟨_, rfl, fun K hK => ?_⟩
              have e106 : a.tmps[106]? = some (.int .i64 0) := by rw [ha]; exact putSel_on (e := (9, 106, .int .i64 0)) 9 rfl rfl (hon 9 (by kernel_rfl)) rfl
              replace ha := Aside0.mk ha
              have HB := Aside0.mk Q_HB
              have G10 := Aside0.mk (Q_G10 (hon 10 (by kernel_rfl)))
              have L10 := Aside0.mk (Q_L10 (hon 10 (by kernel_rfl)))
              have N11 := Aside0.mk (Q_N11 (hon 10 (by kernel_rfl)) (hon 11 (by kernel_rfl)))
              refine value_ (w1 := w') (v := .int .i64 0) (by rfl) rfl ?_ ?_
              · go_simp
                (try simp only [i64_w])
                try rfl
                try assumption
                try (unfold wrap64; omega)
              refine hK.out _ _ ⟨g15, m10_, (by rw [ha.out]; exact putSel_upk 11 hb_ rfl rfl rfl), Q_HB, Q_G10, Q_L10, fun _ h1_ => absurd ((hon 11 (by kernel_rfl)).symm.trans h1_) (by decide), Q_N11, Q_X10_⟩
            exact steps_nil
          · rintro b a w' hall ⟨g15, m10_, ha, Q_HB, Q_G10, Q_L10, Q_Z10, Q_N11, Q_X10_⟩
            clear HB
            have hb0_ := hall 0 (by kernel_rfl)
            have hb1_ := hall 1 (by kernel_rfl)
            have hb2_ := hall 2 (by kernel_rfl)
            have hb3_ := hall 3 (by kernel_rfl)
            have hb4_ := hall 4 (by kernel_rfl)
            have hb5_ := hall 5 (by kernel_rfl)
            have hb6_ := hall 6 (by kernel_rfl)
            have hb7_ := hall 7 (by kernel_rfl)
            have hb8_ := hall 8 (by kernel_rfl)
            have hb9_ := hall 9 (by kernel_rfl)
            have hb10_ := hall 10 (by kernel_rfl)
            have hb11_ := hall 11 (by kernel_rfl)
            have hb12_ := hall 12 (by kernel_rfl)
            subst ha
            obtain rfl := Q_X10_ hb10_
            simp only [putSel, hb0_, hb1_, hb2_, hb3_, hb4_, hb5_, hb6_, hb7_, hb8_, hb9_, hb10_, hb11_, hb12_, if_true, Act.put, List.setIfInBounds_toArray, List.set_cons_zero, List.set_cons_succ]
            have HB := Aside0.mk Q_HB
            clear Q_HB
            have G10 := Aside0.mk (Q_G10 hb10_)
            clear Q_G10
            have L10 := Aside0.mk (Q_L10 hb10_)
            clear Q_L10
            clear Q_Z10
            have N11 := Aside0.mk (Q_N11 hb10_ hb11_)
            clear Q_N11
            clear hall hb0_ hb1_ hb2_ hb3_ hb4_ hb5_ hb6_ hb7_ hb8_ hb9_ hb10_ hb11_ hb12_
            have W13 := (HB.out.block _ (blk_lt TV13.out)).trans TV13.out
            have W7 := Aside0.mk ((HB.out.block _ (blk_lt TV7.out)).trans TV7.out)
            have W5 := Aside0.mk ((HB.out.block _ (blk_lt TV5.out)).trans TV5.out)
            have BWV := Aside0.mk (hop BV.out HB.out)
            have y0 := blk_cell N11.out 0
            have y1 := blk_cell N11.out 1
            obtain ⟨f1, f2, f3, f4, f5⟩ := res2 (v0 := .int .i64 qa) (v1 := .int .u64 qb) W13
            have F5 := Aside0.mk f5
            clear f5 W13 HB N11 TV13 TV7 TV5 BV HCX
            go_wp2_with (fail)
            go_roundg k_
            case rel =>
              refine ⟨i + 1, by first | rfl | (rw [HC1.out]; first | rfl | exact congrArg (Value.int IntKind.i64) HN2.out | (rw [if_neg (by decide), Nat.add_zero]; done)), by first | rfl | (rw [HC2.out]; first | rfl | exact congrArg (Value.int IntKind.i64) HN3.out | (rw [if_neg (by decide), Nat.add_zero]; done)), by first | (rw [HN1.out]; done) | go_num, by omega, ⟨?_⟩, ⟨(keep_set2.block _ (blk_lt W7.out) (by omega)).trans W7.out⟩, ⟨(keep_set2.block _ (blk_lt W5.out) (by omega)).trans W5.out⟩, ⟨BWV.out.trans (keep_set2.below BWV.out.size (fun k hk => by omega))⟩⟩
              rw [HG.out]
              first | rw [if_neg (fun h => h)] | rw [if_neg (by decide)]
              rw [← HQQ.out.1, ← HQQ.out.2]; exact F5.out
            case measure => omega
end Go.Proofs.Ythnihjfdmkfkiaa.Q

namespace Go.Proofs.Ythnihjfdmkfkiaa.Q
open Go.RowKit Go.Proofs.YthnihjfdmkfkiaaW.PrintWords Go.Proofs.YthnihjfdmkfkiaaW.PrintLast Go.Proofs.YthnihjfdmkfkiaaW.PrintMore Go.Proofs.YthnihjfdmkfkiaaV
set_option linter.unusedVariables false
set_option linter.unusedSimpArgs false

set_option maxHeartbeats 3200000 in
set_option maxRecDepth 8000 in
theorem halves_err (HM : MergeOk) {w : World} {A : Option Addr} {c N : Nat} {p a0 a1 a2 a3 a4 a5 a6 a7 e0 b0 b1 b2 b3 b4 f r0 g : Int}
    (HOF : Calls Try.prog 12 #[.slice A N c] w fun e w' => e = .returned (.tuple #[.agg #[.int .i64 a0, .int .i64 a1, .int .u64 a2, .int .i64 a3, .int .i64 a4, .int .i64 a5, .int .i64 a6, .int .i64 a7], .int .i64 e0]) ∧ Below w.heap.size w w')
    (HUP : ∀ W, Below w.heap.size w W → Calls Try.prog 25 #[.slice A N c, .int .i64 p] W fun e w' => e = .returned (.tuple #[.agg #[.int .i64 b0, .int .i64 b1, .int .u64 b2, .int .i64 b3, .int .i64 b4], .int .i64 f]) ∧ Below W.heap.size W w')
    (HRK : ∀ W, Calls Try.prog 21 #[.int .i64 (N : Int), .int .i64 p] W fun e w' => e = .returned (.tuple #[.int .i64 r0, .int .i64 g]) ∧ w' = W)
    (h1 : e0 ≠ 0 ∨ g ≠ 0) (h2 : f ≠ 0 ∨ p < 0) :
    Calls Try.prog 10 #[.slice A N c, .int .i64 p] w fun e w' => e = .returned (.bool true) ∧ Below w.heap.size w w' := by
  have HOF := Aside0.mk HOF
  have HUP := Aside0.mk HUP
  have HRK := Aside0.mk HRK
  have HAL := Aside0.mk (fun W => law_alive HM W)
  obtain ⟨x, hx⟩ : ∃ b, (e0 == 0) = b := ⟨_, rfl⟩
  obtain ⟨y, hy⟩ : ∃ b, (g == 0) = b := ⟨_, rfl⟩
  obtain ⟨z, hz⟩ : ∃ b, (f == 0) = b := ⟨_, rfl⟩
  obtain ⟨t, ht⟩ : ∃ b, decide (p < 0) = b := ⟨_, rfl⟩
  have k1 : x = false ∨ y = false := by
    rcases h1 with h | h
    · exact .inl (by rw [← hx]; exact beq_eq_false_iff_ne.mpr h)
    · exact .inr (by rw [← hy]; exact beq_eq_false_iff_ne.mpr h)
  have k2 : z = false ∨ t = true := by
    rcases h2 with h | h
    · exact .inl (by rw [← hz]; exact beq_eq_false_iff_ne.mpr h)
    · exact .inr (by rw [← ht]; exact decide_eq_true h)
  clear h1 h2
  cases x <;> cases y <;> cases z <;> cases t <;> first
    | (exfalso; rcases k1 with k | k <;> cases k; done)
    | (exfalso; rcases k2 with k | k <;> cases k; done)
    | (clear k1 k2
       (try have ht2 : p < 0 := of_decide_eq_true ht)
       (try have ht3 : ¬ p < 0 := of_decide_eq_false ht)
       (try have hx2 : ¬ e0 = 0 := beq_eq_false_iff_ne.mp hx)
       (try have hx3 : e0 = 0 := beq_iff_eq.mp hx)
       (try have hx4 : (e0 != 0) = true := bne_iff_ne.mpr (beq_eq_false_iff_ne.mp hx))
       (try have hx5 : (e0 != 0) = false := by rw [beq_iff_eq.mp hx]; rfl)
       (try have hy2 : ¬ g = 0 := beq_eq_false_iff_ne.mp hy)
       (try have hy3 : g = 0 := beq_iff_eq.mp hy)
       (try have hy4 : (g != 0) = true := bne_iff_ne.mpr (beq_eq_false_iff_ne.mp hy))
       (try have hy5 : (g != 0) = false := by rw [beq_iff_eq.mp hy]; rfl)
       (try have hz2 : ¬ f = 0 := beq_eq_false_iff_ne.mp hz)
       (try have hz3 : f = 0 := beq_iff_eq.mp hz)
       (try have hz4 : (f != 0) = true := bne_iff_ne.mpr (beq_eq_false_iff_ne.mp hz))
       (try have hz5 : (f != 0) = false := by rw [beq_iff_eq.mp hz]; rfl)
       go_enter Try.func10, Try.ntmps10
       go_wp2_with (first
         | (go_at_call 12; (with_reducible refine (HOF.out).mono ?_); rintro e w1 ⟨rfl, hb⟩; have HB1 := Aside0.mk (hb.alloc hb.size (.cells #[.int .i64 a0, .int .i64 a1, .int .u64 a2, .int .i64 a3, .int .i64 a4, .int .i64 a5, .int .i64 a6, .int .i64 a7] 27 (0, 0))); clear hb)
         | (go_at_call 25; (with_reducible refine (HUP.out _ HB1.out).mono ?_); rintro e w2 ⟨rfl, hb⟩; have HB2 := Aside0.mk ((hop HB1.out hb).alloc (hop HB1.out hb).size (.cells #[.int .i64 b0, .int .i64 b1, .int .u64 b2, .int .i64 b3, .int .i64 b4] 53 (0, 0))); clear hb)
         | (go_at_call 21; (with_reducible refine (HRK.out _).mono ?_); rintro e w3 ⟨rfl, rfl⟩)
         | (go_at_call 14; (with_reducible refine (HAL.out _).mono ?_); rintro e w8 ⟨rfl, hb⟩; have B8 := Aside0.mk (hop HB2.out hb); clear hb))
       go_ret
       exact ⟨rfl, B8.out⟩)
theorem law_TimerHalves (HM : MergeOk) (HU : UptoOk) {w : World} {A : Option Addr} {c : Nat} {l : List Int} {p : Int} (h : Kd.C (Kd.int .i64) w A l.length l) (hc : l.length ≤ c) (hl : l.length ≤ 1048576) :
    Calls Try.prog 10 #[.slice A l.length c, .int .i64 p] w fun e w' => e = .returned (.bool true) ∧ Below w.heap.size w w' := by
  have HRK : ∃ r0 g : Int, (∀ W, Calls Try.prog 21 #[.int .i64 (l.length : Int), .int .i64 p] W fun e w' => e = .returned (.tuple #[.int .i64 r0, .int .i64 g]) ∧ w' = W) ∧ (¬ (1 ≤ p ∧ p ≤ 100000000) → g ≠ 0) := by
    by_cases h1 : p < 1 ∨ 100000000 < p
    · refine ⟨0, 91, fun W => ?_, fun _ => by omega⟩
      have h3 := timer_Rank (n := (l.length : Int)) (p := p) W (by omega)
      rw [if_pos h1] at h3
      exact h3
    · by_cases h2 : (l.length : Int) < 1
      · refine ⟨0, 90, fun W => ?_, fun _ => by omega⟩
        have h3 := timer_Rank (n := (l.length : Int)) (p := p) W (by omega)
        rw [if_neg h1, if_pos h2] at h3
        exact h3
      · refine ⟨rankP (l.length : Int) p, 0, fun W => ?_, fun h => absurd (show 1 ≤ p ∧ p ≤ 100000000 by omega) h⟩
        have h3 := timer_Rank (n := (l.length : Int)) (p := p) W (by omega)
        rw [if_neg h1, if_neg h2] at h3
        exact h3
  obtain ⟨r0, g, hrk, hg⟩ := HRK
  by_cases hs : ∀ x ∈ l, smp x
  · by_cases h0 : l.length = 0
    · obtain rfl : l = [] := List.eq_nil_of_length_eq_zero h0
      obtain ⟨f, hf, hcl⟩ := HU.bad (l := []) (p := p) hl (.inr (.inr h0))
      exact halves_err HM (of_nil HM h (Nat.zero_le _)) (fun W hb => hcl (Kd.C_below h hb) hc) hrk (.inl (by omega)) (.inl hf)
    · by_cases hp : 1 ≤ p ∧ p ≤ 100000000
      · exact halves_ok HM HU h (by omega) hc hl hs hp
      · by_cases hp2 : p ≠ 0 ∧ p ≤ 100000000 ∧ -100000000 ≤ p
        · exact halves_err HM (timer_Of HM h hc (by omega) hl hs) (fun W hb => HU.ok (p := p) (Kd.C_below h hb) (by omega) hc hl hs hp2) hrk (.inr (hg hp)) (.inr (by omega))
        · obtain ⟨f, hf, hcl⟩ := HU.bad (l := l) (p := p) hl (.inr (.inl hp2))
          exact halves_err HM (timer_Of HM h hc (by omega) hl hs) (fun W hb => hcl (Kd.C_below h hb) hc) hrk (.inr (hg hp)) (.inl hf)
  · obtain ⟨f, hf, hcl⟩ := HU.bad (l := l) (p := p) hl (.inl hs)
    exact halves_err HM (of_not h hl hs) (fun W hb => hcl (Kd.C_below h hb) hc) hrk (.inl (by omega)) (.inl hf)
end Go.Proofs.Ythnihjfdmkfkiaa.Q
