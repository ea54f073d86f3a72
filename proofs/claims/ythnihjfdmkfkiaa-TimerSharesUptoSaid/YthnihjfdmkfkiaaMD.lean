/- Texts of this claim, laid in one: contracts of functions that the claim reaches, and the plain laws that they want; under no condition beyond those that each theorem states. -/
import Derived.WalkKit
import Derived.Test.YthnihjfdmkfkiaaMC
import Derived.Outline
import Derived.Test.YthnihjfdmkfkiaaWMore
import Derived.Test.YthnihjfdmkfkiaaWNEv
import Derived.Test.YthnihjfdmkfkiaaVMake
import Derived.Deep.RegionHeld3
import Derived.StillTailTactics
namespace Go.Proofs.Ythnihjfdmkfkiaa.Q
set_option linter.unusedVariables false
set_option linter.unusedSimpArgs false

def leB (a b : Int) : Bool := decide (a ≤ b)
/-- Two lists put together. -/
def mergeP (a b : List Int) : List Int := List.merge a b leB
/-- By rising numbers. -/
def sortP (l : List Int) : List Int := l.mergeSort leB
theorem leB_trans (a b c : Int) (h : leB a b = true) (k : leB b c = true) : leB a c = true := by simp [leB] at *; omega
theorem leB_total (a b : Int) : (leB a b || leB b a) = true := by simp [leB]; omega
def Rise (l : List Int) : Prop := l.Pairwise (fun a b => leB a b = true)
theorem mergeP_rise {a b : List Int} (ha : Rise a) (hb : Rise b) : Rise (mergeP a b) := List.pairwise_merge leB_trans leB_total a b ha hb
theorem mergeP_perm (a b : List Int) : (mergeP a b).Perm (a ++ b) := List.merge_perm_append leB
theorem sortP_rise (l : List Int) : Rise (sortP l) := List.pairwise_mergeSort leB_trans leB_total l
theorem sortP_perm (l : List Int) : (sortP l).Perm l := List.mergeSort_perm l leB
theorem rise_eq {a b : List Int} (ha : Rise a) (hb : Rise b) (h : a.Perm b) : a = b :=
  List.Perm.eq_of_pairwise (fun x y _ _ h1 h2 => by simp [leB] at h1 h2; omega) ha hb h
theorem sortP_of {a l : List Int} (ha : Rise a) (h : a.Perm l) : a = sortP l := rise_eq ha (sortP_rise l) (h.trans (sortP_perm l).symm)
/-- Neighbours put together. -/
def pairUp : List (List Int) → List (List Int)
  | [] => []
  | [x] => [x]
  | x :: y :: t => mergeP x y :: pairUp t
theorem pairUp_len : ∀ l : List (List Int), (pairUp l).length = (l.length + 1) / 2
  | [] => rfl
  | [x] => by simp [pairUp]
  | x :: y :: t => by simp only [pairUp, List.length_cons, pairUp_len t]; omega
theorem pairUp_rise : ∀ l : List (List Int), (∀ x ∈ l, Rise x) → ∀ x ∈ pairUp l, Rise x
  | [], _ => fun x hx => by simp [pairUp] at hx
  | [x], h => h
  | x :: y :: t, h => fun z hz => by
    simp only [pairUp, List.mem_cons] at hz
    rcases hz with rfl | hz
    · exact mergeP_rise (h x (by simp)) (h y (by simp))
    · exact pairUp_rise t (fun u hu => h u (by simp [hu])) z hz
theorem pairUp_perm : ∀ l : List (List Int), (pairUp l).flatten.Perm l.flatten
  | [] => List.Perm.refl _
  | [x] => List.Perm.refl _
  | x :: y :: t => by
    simp only [pairUp, List.flatten_cons]
    refine ((mergeP_perm x y).append (pairUp_perm t)).trans ?_
    rw [List.append_assoc]
theorem pairUp_two : ∀ (l : List (List Int)) (x y : List Int), l.length % 2 = 0 → pairUp (l ++ [x, y]) = pairUp l ++ [mergeP x y]
  | [], x, y, _ => rfl
  | [a], x, y, h => by simp at h
  | a :: b :: t, x, y, h => by
    simp only [List.cons_append, pairUp]
    rw [pairUp_two t x y (by simp only [List.length_cons] at h; omega)]
theorem pairUp_one : ∀ (l : List (List Int)) (x : List Int), l.length % 2 = 0 → pairUp (l ++ [x]) = pairUp l ++ [x]
  | [], x, _ => rfl
  | [a], x, h => by simp at h
  | a :: b :: t, x, h => by
    simp only [List.cons_append, pairUp]
    rw [pairUp_one t x (by simp only [List.length_cons] at h; omega)]
/-- What holds of the parts, pass by pass. -/
structure Parts (l : List Int) (ps : List (List Int)) : Prop where
  rise : ∀ x ∈ ps, Rise x
  perm : ps.flatten.Perm l
theorem Parts.up {l : List Int} {ps : List (List Int)} (h : Parts l ps) : Parts l (pairUp ps) := ⟨pairUp_rise ps h.rise, (pairUp_perm ps).trans h.perm⟩
theorem Parts.ones (l : List Int) : Parts l (l.map (fun x => [x])) := by
  refine ⟨fun x hx => ?_, ?_⟩
  · obtain ⟨a, -, rfl⟩ := List.mem_map.1 hx
    exact List.pairwise_singleton _ _
  · have : (l.map (fun x => [x])).flatten = l := by induction l with
      | nil => rfl
      | cons a t ih => simp [ih]
    rw [this]
theorem Parts.one {l x : List Int} (h : Parts l [x]) : x = sortP l := by
  refine sortP_of (h.rise x (by simp)) ?_
  have := h.perm
  simpa using this
theorem Parts.none {l : List Int} (h : Parts l []) : l = [] := by
  have := h.perm
  simpa using this
theorem Parts.none' {l : List Int} {ps : List (List Int)} (h : Parts l ps) (e : ps = []) : l = [] := by
  subst e
  exact h.none
theorem Parts.one' {l : List Int} {ps : List (List Int)} (h : Parts l ps) (e : ps.length = 1) (h0 : 0 < ps.length) : ps[0] = sortP l := by
  match ps, e with
  | [x], _ => exact h.one
theorem Parts.mem_len {l x : List Int} {ps : List (List Int)} (h : Parts l ps) (hx : x ∈ ps) : x.length ≤ l.length := by
  rw [← h.perm.length_eq]
  exact (List.sublist_flatten_of_mem hx).length_le
theorem Parts.two_len {l : List Int} {ps : List (List Int)} (h : Parts l ps) {i : Nat} (hi : i + 1 < ps.length) : (ps[i]'(by omega)).length + ps[i + 1].length ≤ l.length := by
  rw [← h.perm.length_eq]
  have e : ps = ps.take i ++ (ps[i]'(by omega) :: ps[i + 1] :: ps.drop (i + 2)) := by
    conv => lhs; rw [← List.take_append_drop i ps]
    rw [List.drop_eq_getElem_cons (by omega), List.drop_eq_getElem_cons (i := i + 1) hi]
  have e2 := congrArg (fun q => q.flatten.length) e
  simp only [List.flatten_append, List.flatten_cons, List.length_append] at e2
  omega
theorem take_two {ps : List (List Int)} {i : Nat} (hi : i + 1 < ps.length) : ps.take (i + 2) = ps.take i ++ [ps[i]'(by omega), ps[i + 1]] := by
  rw [show i + 2 = i + 1 + 1 from rfl, List.take_succ_eq_append_getElem hi, List.take_succ_eq_append_getElem (i := i) (by omega), List.append_assoc]
  rfl
theorem mergeP_len (a b : List Int) : (mergeP a b).length = a.length + b.length := by rw [(mergeP_perm a b).length_eq, List.length_append]
end Go.Proofs.Ythnihjfdmkfkiaa.Q

namespace Go.Proofs.Ythnihjfdmkfkiaa.Q
open Go.RowKit Go.Proofs.YthnihjfdmkfkiaaW.PrintWords Go.Proofs.YthnihjfdmkfkiaaW.PrintLast Go.Proofs.YthnihjfdmkfkiaaW.PrintMore Go.Proofs.YthnihjfdmkfkiaaV
set_option linter.unusedVariables false
set_option linter.unusedSimpArgs false

/-- Is it a sample? -/
def smp (x : Int) : Prop := 0 ≤ x ∧ x ≤ 100000000000000
theorem sum_smp {l : List Int} (h : ∀ x ∈ l, smp x) : 0 ≤ l.sum ∧ l.sum ≤ l.length * 100000000000000 := by
  induction l with
  | nil => simp
  | cons x t ih =>
    have h1 := h x (by simp)
    have h2 := ih (fun y hy => h y (by simp [hy]))
    unfold smp at h1
    simp only [List.sum_cons, List.length_cons]
    omega
theorem take_sum {l : List Int} {i : Nat} (h : i < l.length) : (l.take (i + 1)).sum = (l.take i).sum + l[i] := by
  rw [List.take_succ_eq_append_getElem h, List.sum_append]
  simp
def sum7.T : Bool × List (List Nat × List Nat) := (true, [([], []), ([], []), ([1], [1]), ([2], [2]), ([0, 3, 3], [0, 3]), ([4], [4]), ([5], [5]), ([5], [5]), ([5], [5]), ([], []), ([], []), ([9, 6, 4, 0, 1, 2, 3, 4, 5, 6, 9, 10], [6, 9]), ([10, 7, 11, 0, 1, 2, 3, 4, 5, 6, 7, 9, 10, 11], [7, 10]), ([8, 12, 0, 1, 2, 3, 4, 5, 6, 7, 8, 9, 10, 11, 12], [8])])
def sum7.B : List Nat := [0, 0, 2, 6, 15, 31, 63, 63, 63, 0, 0, 1663, 3839, 8191]
theorem sum7.tab : rtab .any (opsOf Try.f30 7) = sum7.T := by kernel_rfl
theorem sum7.bits : waitsOk sum7.T.2 sum7.B = true := by kernel_rfl
set_option maxHeartbeats 3200000 in
set_option maxRecDepth 4000 in
theorem timer_sum {w : World} {A : Option Addr} {c : Nat} {l : List Int} (h : Kd.C (Kd.int .i64) w A l.length l) (h0 : 1 ≤ l.length) (hl : l.length ≤ 1048576) (hs : ∀ x ∈ l, smp x) :
    Calls Try.prog 30 #[.slice A l.length c] w fun q w' => q = .returned (.tuple #[WV l.sum, .int .i64 (l.sum / l.length)]) ∧ Below w.heap.size w w' := by
  obtain ⟨W, hW⟩ : ∃ W, W = (w.alloc (.cells #[.int .i64 0, .int .u64 0] 25 (0, 0))).alloc (.cells #[.int .i64 0, .int .u64 0] 25 (0, 0)) := ⟨_, rfl⟩
  have n0 : W.heap[w.heap.size]? = some (.cells #[.int .i64 0, .int .u64 0] 25 (0, 0)) := by rw [hW]; exact blk_alloc (heap_alloc_new _ _) _
  have n1 : W.heap[w.heap.size + 1]? = some (.cells #[.int .i64 0, .int .u64 0] 25 (0, 0)) := by rw [hW]; exact heap_alloc2_new _ _ _
  have nb : Below w.heap.size w W := by rw [hW]; exact below_alloc (below_alloc (Below.refl _ _) _) _
  have HC := Aside0.mk h
  have NB := Aside0.mk nb
  have HW := Aside0.mk hW
  have N0 := Aside0.mk n0
  have N1 := Aside0.mk n1
  have HS := Aside0.mk hs
  have HL := Aside0.mk (And.intro h0 hl)
  unfold WV
  obtain ⟨ra, hra⟩ : ∃ a, a = hiW l.sum := ⟨_, rfl⟩
  obtain ⟨rb, hrb⟩ : ∃ a, a = loW l.sum := ⟨_, rfl⟩
  obtain ⟨me, hme⟩ : ∃ a, a = l.sum / l.length := ⟨_, rfl⟩
  rw [← hra, ← hrb, ← hme]
  have RES := Aside0.mk (And.intro hra (And.intro hrb hme))
  clear h nb hW n0 n1 hs h0 hra hrb hme
  go_enter Try.func30, Try.ntmps30
  go_upto_region 2 with (fail)
  rw [← HW.out]
  go_wp2_with (fail)
  go_loopg [14] l.length (fun kq v14 w' => ∃ i : Nat, v14 = .int .i64 i ∧ i + kq = l.length ∧ Aside0 (w'.heap[w.heap.size]? = some (.cells #[.int .i64 0, .int .u64 0] 25 (0, 0))) ∧ Aside0 (w'.heap[w.heap.size + 1]? = some (.cells #[.int .i64 (hiW (l.take i).sum), .int .u64 (loW (l.take i).sum)] 25 (0, 0))) ∧ Aside0 (Below w.heap.size w w'))
  case atStart => exact ⟨0, rfl, by omega, N0, N1, NB⟩
  case round =>
    clear N0 N1 NB
    obtain ⟨i, rfl, hik, N0, N1, NB⟩ := hrel
    cases gk with
    | zero =>
      obtain rfl : i = l.length := by omega
      have d1 : decide (l.length < l.length) = false := decide_eq_false (by omega)
      rw [List.take_length] at N1
      have hsr := sum_smp HS.out
      have hn := HL.out
      have HO := Aside0.mk (fun W => wide_Of (z := (l.length : Int)) W (by unfold in64; omega))
      have HQ := Aside0.mk (fun W => wide_Quo (x := l.sum) (y := (l.length : Int)) W (by omega) (by omega))
      have dv : 0 ≤ l.sum / (l.length : Int) ∧ l.sum / (l.length : Int) ≤ 100000000000000 := ⟨Int.ediv_nonneg hsr.1 (by omega), by
        have := Int.ediv_le_ediv (c := (l.length : Int)) (by omega) hsr.2
        rw [Int.mul_comm, Int.mul_ediv_cancel _ (by omega)] at this
        exact this⟩
      have HM := Aside0.mk (fun W => wide_Small (z := l.sum / (l.length : Int)) W (by unfold in64; omega))
      unfold WV at HO HQ HM
      obtain ⟨sa, hsa⟩ : ∃ a, a = hiW l.sum := ⟨_, rfl⟩
      obtain ⟨sb, hsb⟩ : ∃ a, a = loW l.sum := ⟨_, rfl⟩
      obtain ⟨na, hna⟩ : ∃ a, a = hiW (l.length : Int) := ⟨_, rfl⟩
      obtain ⟨nb, hnb⟩ : ∃ a, a = loW (l.length : Int) := ⟨_, rfl⟩
      obtain ⟨qa, hqa⟩ : ∃ a, a = hiW (l.sum / (l.length : Int)) := ⟨_, rfl⟩
      obtain ⟨qb, hqb⟩ : ∃ a, a = loW (l.sum / (l.length : Int)) := ⟨_, rfl⟩
      obtain ⟨ma, hma⟩ : ∃ a, a = hiW (l.sum % (l.length : Int)) := ⟨_, rfl⟩
      obtain ⟨mb, hmb⟩ : ∃ a, a = loW (l.sum % (l.length : Int)) := ⟨_, rfl⟩
      rw [← hsa, ← hsb] at N1
      rw [← hna, ← hnb] at HO
      rw [← hsa, ← hsb, ← hna, ← hnb, ← hqa, ← hqb, ← hma, ← hmb] at HQ
      rw [← hqa, ← hqb] at HM
      have R0 := RES.out
      rw [← hsa, ← hsb] at R0
      have RES := Aside0.mk R0
      have NS := N1
      clear R0 hsr hn dv hsa hsb hna hnb hqa hqb hma hmb hl
      go_upto_region 7 with (fail)
      go_cut [7] from 8 to 34 (fun v7 wx => ∃ g7, v7 = .pointer (some ⟨g7, 0, none⟩) ∧ Aside0 (wx.heap[g7]? = some (.cells #[.int .i64 qa, .int .u64 qb] 25 (0, 0))) ∧ Aside0 (Below wr.heap.size wr wx))
      case first =>
        have HB := Aside0.mk (show Below wr.heap.size wr wr.drew from (Below.refl _ _).drew)
        have D9_10 : True := trivial
        refine start_ (n := 14) (S := fun w' => True) (ds := []) #[false, false, false, false, false, false, false, false, false, false, false, false, false, false] (by kernel_rfl) rfl rfl trivial (fun hHeld => ?_)
        refine with_tabW sum7.tab sum7.bits (fun HT_ HW_ => ?_)
        refine inv_at [0, 1, 2, 3, 4, 5, 6, 7, 8, 9, 10, 11, 12, 13] (fun a0_ b a w' => ∃ (g7 : Nat) (g8 : Nat) (m9_ : Value) (m10_ : Value), a = putSel a0_ b [(0, 27, .agg #[.int .i64 sa, .int .u64 sb]), (1, 28, .slice A l.length c), (2, 29, .int .i64 (l.length : Int)), (3, 30, .agg #[.int .i64 na, .int .u64 nb]), (4, 31, .tuple #[.agg #[.int .i64 qa, .int .u64 qb], .agg #[.int .i64 ma, .int .u64 mb], .int .i64 0]), (5, 26, .tuple #[.agg #[.int .i64 qa, .int .u64 qb], .agg #[.int .i64 ma, .int .u64 mb], .int .i64 0]), (6, 32, .agg #[.int .i64 qa, .int .u64 qb]), (7, 33, .agg #[.int .i64 ma, .int .u64 mb]), (8, 34, .int .i64 0), (9, 7, m9_), (10, 8, m10_), (13, 9, .int .i64 0)] ∧ (Below wr.heap.size wr w') ∧ (b 9 = true → wr.heap.size ≤ g7) ∧ (b 9 = true → g7 < w'.heap.size) ∧ (b 9 = true → b 11 = false → w'.heap[g7]? = some (.cells #[.int .i64 0, .int .u64 0] 25 (0, 0))) ∧ (b 9 = true → b 11 = true → w'.heap[g7]? = some (.cells #[.int .i64 qa, .int .u64 qb] 25 (0, 0))) ∧ (b 10 = true → wr.heap.size ≤ g8) ∧ (b 10 = true → g8 < w'.heap.size) ∧ (b 10 = true → b 12 = false → w'.heap[g8]? = some (.cells #[.int .i64 0, .int .u64 0] 25 (0, 0))) ∧ (b 10 = true → b 12 = true → w'.heap[g8]? = some (.cells #[.int .i64 ma, .int .u64 mb] 25 (0, 0))) ∧ ((b 9 = true → b 10 = true → g7 ≠ g8)) ∧ (b 9 = true → (m9_ : Value) = .pointer (some ⟨g7, 0, none⟩)) ∧ (b 10 = true → (m10_ : Value) = .pointer (some ⟨g8, 0, none⟩))) HT_.out HW_.out (by kernel_rfl) (by kernel_rfl) ?_ ?_ ?_
        · exact ⟨0, 0, .bool false, .bool false, by simp only [putSel, Bool.false_eq_true, if_false], HB.out, fun h_ => absurd h_ (by decide), fun h_ => absurd h_ (by decide), fun h_ => absurd h_ (by decide), fun h_ => absurd h_ (by decide), fun h_ => absurd h_ (by decide), fun h_ => absurd h_ (by decide), fun h_ => absurd h_ (by decide), fun h_ => absurd h_ (by decide), fun h_ => absurd h_ (by decide), fun h_ => absurd h_ (by decide), fun h_ => absurd h_ (by decide)⟩
        · skip
          clear D9_10 HB
          refine steps_cons ?_ ?_
          · rintro b a w' ⟨g7, g8, m9_, m10_, ha, Q_HB, Q_G9, Q_L9, Q_Z9, Q_N11, Q_G10, Q_L10, Q_Z10, Q_N12, Q_D9_10, Q_X9_, Q_X10_⟩ hb_ hon hoff
            refine ⟨_, rfl, fun K hK => ?_⟩
            have e4 : a.tmps[4]? = some (.pointer (some ⟨w.heap.size + 1, 0, none⟩)) := by rw [ha]; exact (putSel_off rfl).trans rfl
            replace ha := Aside0.mk ha
            have HB := Aside0.mk Q_HB
            have D9_10 := Aside0.mk Q_D9_10
            have k0 := blk_cell ((HB.out.block _ (blk_lt NS.out)).trans NS.out) 0
            have k1 := blk_cell ((HB.out.block _ (blk_lt NS.out)).trans NS.out) 1
            refine value_ (w1 := w') (v := .agg #[.int .i64 sa, .int .u64 sb]) (by rfl) rfl ?_ ?_
            · go_simp
              (try simp only [i64_w])
              try rfl
            refine hK.out _ _ ⟨g7, g8, m9_, m10_, (by rw [ha.out]; exact putSel_upk 0 hb_ rfl rfl rfl), Q_HB, Q_G9, Q_L9, Q_Z9, fun _ h1_ => absurd ((hoff 11 (by kernel_rfl)).symm.trans h1_) (by decide), Q_G10, Q_L10, Q_Z10, fun _ h1_ => absurd ((hoff 12 (by kernel_rfl)).symm.trans h1_) (by decide), Q_D9_10, Q_X9_, Q_X10_⟩
          refine steps_cons ?_ ?_
          · rintro b a w' ⟨g7, g8, m9_, m10_, ha, Q_HB, Q_G9, Q_L9, Q_Z9, Q_N11, Q_G10, Q_L10, Q_Z10, Q_N12, Q_D9_10, Q_X9_, Q_X10_⟩ hb_ hon hoff
            refine ⟨_, rfl, fun K hK => ?_⟩
            have e0 : a.tmps[0]? = some (.slice A l.length c) := by rw [ha]; exact (putSel_off rfl).trans rfl
            replace ha := Aside0.mk ha
            have HB := Aside0.mk Q_HB
            have D9_10 := Aside0.mk Q_D9_10
            refine value_ (w1 := w') (v := .slice A l.length c) (by rfl) rfl ?_ ?_
            · go_simp
              (try simp only [i64_w])
              try rfl
            refine hK.out _ _ ⟨g7, g8, m9_, m10_, (by rw [ha.out]; exact putSel_upk 1 hb_ rfl rfl rfl), Q_HB, Q_G9, Q_L9, Q_Z9, fun _ h1_ => absurd ((hoff 11 (by kernel_rfl)).symm.trans h1_) (by decide), Q_G10, Q_L10, Q_Z10, fun _ h1_ => absurd ((hoff 12 (by kernel_rfl)).symm.trans h1_) (by decide), Q_D9_10, Q_X9_, Q_X10_⟩
          refine steps_cons ?_ ?_
          · rintro b a w' ⟨g7, g8, m9_, m10_, ha, Q_HB, Q_G9, Q_L9, Q_Z9, Q_N11, Q_G10, Q_L10, Q_Z10, Q_N12, Q_D9_10, Q_X9_, Q_X10_⟩ hb_ hon hoff
            refine ⟨_, rfl, fun K hK => ?_⟩
            have e28 : a.tmps[28]? = some (.slice A l.length c) := by rw [ha]; exact putSel_on (e := (1, 28, .slice A l.length c)) 1 rfl rfl (hon 1 (by kernel_rfl)) rfl
            replace ha := Aside0.mk ha
            have HB := Aside0.mk Q_HB
            have D9_10 := Aside0.mk Q_D9_10
            refine value_ (w1 := w') (v := .int .i64 (l.length : Int)) (by rfl) rfl ?_ ?_
            · go_simp
              (try simp only [i64_w])
              try rfl
            refine hK.out _ _ ⟨g7, g8, m9_, m10_, (by rw [ha.out]; exact putSel_upk 2 hb_ rfl rfl rfl), Q_HB, Q_G9, Q_L9, Q_Z9, fun _ h1_ => absurd ((hoff 11 (by kernel_rfl)).symm.trans h1_) (by decide), Q_G10, Q_L10, Q_Z10, fun _ h1_ => absurd ((hoff 12 (by kernel_rfl)).symm.trans h1_) (by decide), Q_D9_10, Q_X9_, Q_X10_⟩
          refine steps_cons ?_ ?_
          · rintro b a w' ⟨g7, g8, m9_, m10_, ha, Q_HB, Q_G9, Q_L9, Q_Z9, Q_N11, Q_G10, Q_L10, Q_Z10, Q_N12, Q_D9_10, Q_X9_, Q_X10_⟩ hb_ hon hoff
            refine ⟨_, rfl, fun K hK => ?_⟩
            have e29 : a.tmps[29]? = some (.int .i64 (l.length : Int)) := by rw [ha]; exact putSel_on (e := (2, 29, .int .i64 (l.length : Int))) 2 rfl rfl (hon 2 (by kernel_rfl)) rfl
            replace ha := Aside0.mk ha
            have HB := Aside0.mk Q_HB
            have D9_10 := Aside0.mk Q_D9_10
            refine goes_ Try.func15 (by kernel_rfl) rfl #[.int .i64 (l.length : Int)] (by rfl) rfl rfl (by first | (simp only [List.map_toArray, List.map_cons, List.map_nil, Act.eval, Array.getD_eq_getD_getElem?, Option.getD_some, e29]; done) | (simp only [List.map_toArray, List.map_cons, List.map_nil, Act.eval, Array.getD_eq_getD_getElem?, Option.getD_some, e29]; rfl)) ?_
            with_reducible refine (HO.out _).mono ?_
            rintro e w1 ⟨rfl, hb⟩
            refine ⟨_, rfl, ?_⟩
            refine hK.out _ _ ⟨g7, g8, m9_, m10_, (by rw [ha.out]; exact putSel_upk 3 hb_ rfl rfl rfl), hop HB.out hb, Q_G9, fun h9 => Nat.lt_of_lt_of_le (Q_L9 h9) hb.size, fun h9 h11 => (hb.block _ (blk_lt (Q_Z9 h9 h11))).trans (Q_Z9 h9 h11), fun _ h1_ => absurd ((hoff 11 (by kernel_rfl)).symm.trans h1_) (by decide), Q_G10, fun h10 => Nat.lt_of_lt_of_le (Q_L10 h10) hb.size, fun h10 h12 => (hb.block _ (blk_lt (Q_Z10 h10 h12))).trans (Q_Z10 h10 h12), fun _ h1_ => absurd ((hoff 12 (by kernel_rfl)).symm.trans h1_) (by decide), Q_D9_10, Q_X9_, Q_X10_⟩
          refine steps_cons ?_ ?_
          · rintro b a w' ⟨g7, g8, m9_, m10_, ha, Q_HB, Q_G9, Q_L9, Q_Z9, Q_N11, Q_G10, Q_L10, Q_Z10, Q_N12, Q_D9_10, Q_X9_, Q_X10_⟩ hb_ hon hoff
            refine ⟨_, rfl, fun K hK => ?_⟩
            have e27 : a.tmps[27]? = some (.agg #[.int .i64 sa, .int .u64 sb]) := by rw [ha]; exact putSel_on (e := (0, 27, .agg #[.int .i64 sa, .int .u64 sb])) 0 rfl rfl (hon 0 (by kernel_rfl)) rfl
            have e30 : a.tmps[30]? = some (.agg #[.int .i64 na, .int .u64 nb]) := by rw [ha]; exact putSel_on (e := (3, 30, .agg #[.int .i64 na, .int .u64 nb])) 3 rfl rfl (hon 3 (by kernel_rfl)) rfl
            replace ha := Aside0.mk ha
            have HB := Aside0.mk Q_HB
            have D9_10 := Aside0.mk Q_D9_10
            refine goes_ Try.func17 (by kernel_rfl) rfl #[.agg #[.int .i64 sa, .int .u64 sb], .agg #[.int .i64 na, .int .u64 nb]] (by rfl) rfl rfl (by first | (simp only [List.map_toArray, List.map_cons, List.map_nil, Act.eval, Array.getD_eq_getD_getElem?, Option.getD_some, e27, e30]; done) | (simp only [List.map_toArray, List.map_cons, List.map_nil, Act.eval, Array.getD_eq_getD_getElem?, Option.getD_some, e27, e30]; rfl)) ?_
            with_reducible refine (HQ.out _).mono ?_
            rintro e w1 ⟨rfl, hb⟩
            refine ⟨_, rfl, ?_⟩
            refine hK.out _ _ ⟨g7, g8, m9_, m10_, (by rw [ha.out]; exact putSel_upk 4 hb_ rfl rfl rfl), hop HB.out hb, Q_G9, fun h9 => Nat.lt_of_lt_of_le (Q_L9 h9) hb.size, fun h9 h11 => (hb.block _ (blk_lt (Q_Z9 h9 h11))).trans (Q_Z9 h9 h11), fun _ h1_ => absurd ((hoff 11 (by kernel_rfl)).symm.trans h1_) (by decide), Q_G10, fun h10 => Nat.lt_of_lt_of_le (Q_L10 h10) hb.size, fun h10 h12 => (hb.block _ (blk_lt (Q_Z10 h10 h12))).trans (Q_Z10 h10 h12), fun _ h1_ => absurd ((hoff 12 (by kernel_rfl)).symm.trans h1_) (by decide), Q_D9_10, Q_X9_, Q_X10_⟩
          refine steps_cons ?_ ?_
          · rintro b a w' ⟨g7, g8, m9_, m10_, ha, Q_HB, Q_G9, Q_L9, Q_Z9, Q_N11, Q_G10, Q_L10, Q_Z10, Q_N12, Q_D9_10, Q_X9_, Q_X10_⟩ hb_ hon hoff
            refine ⟨_, rfl, fun K hK => ?_⟩
            have e31 : a.tmps[31]? = some (.tuple #[.agg #[.int .i64 qa, .int .u64 qb], .agg #[.int .i64 ma, .int .u64 mb], .int .i64 0]) := by rw [ha]; exact putSel_on (e := (4, 31, .tuple #[.agg #[.int .i64 qa, .int .u64 qb], .agg #[.int .i64 ma, .int .u64 mb], .int .i64 0])) 4 rfl rfl (hon 4 (by kernel_rfl)) rfl
            replace ha := Aside0.mk ha
            have HB := Aside0.mk Q_HB
            have D9_10 := Aside0.mk Q_D9_10
            refine value_ (w1 := w') (v := .tuple #[.agg #[.int .i64 qa, .int .u64 qb], .agg #[.int .i64 ma, .int .u64 mb], .int .i64 0]) (by rfl) rfl ?_ ?_
            · go_simp
              (try simp only [i64_w])
              try rfl
            refine hK.out _ _ ⟨g7, g8, m9_, m10_, (by rw [ha.out]; exact putSel_upk 5 hb_ rfl rfl rfl), Q_HB, Q_G9, Q_L9, Q_Z9, fun _ h1_ => absurd ((hoff 11 (by kernel_rfl)).symm.trans h1_) (by decide), Q_G10, Q_L10, Q_Z10, fun _ h1_ => absurd ((hoff 12 (by kernel_rfl)).symm.trans h1_) (by decide), Q_D9_10, Q_X9_, Q_X10_⟩
          refine steps_cons ?_ ?_
          · rintro b a w' ⟨g7, g8, m9_, m10_, ha, Q_HB, Q_G9, Q_L9, Q_Z9, Q_N11, Q_G10, Q_L10, Q_Z10, Q_N12, Q_D9_10, Q_X9_, Q_X10_⟩ hb_ hon hoff
            refine ⟨_, rfl, fun K hK => ?_⟩
            have e26 : a.tmps[26]? = some (.tuple #[.agg #[.int .i64 qa, .int .u64 qb], .agg #[.int .i64 ma, .int .u64 mb], .int .i64 0]) := by rw [ha]; exact putSel_on (e := (5, 26, .tuple #[.agg #[.int .i64 qa, .int .u64 qb], .agg #[.int .i64 ma, .int .u64 mb], .int .i64 0])) 5 rfl rfl (hon 5 (by kernel_rfl)) rfl
            replace ha := Aside0.mk ha
            have HB := Aside0.mk Q_HB
            have D9_10 := Aside0.mk Q_D9_10
            refine value_ (w1 := w') (v := .agg #[.int .i64 qa, .int .u64 qb]) (by rfl) rfl ?_ ?_
            · go_simp
              (try simp only [i64_w])
              try rfl
            refine hK.out _ _ ⟨g7, g8, m9_, m10_, (by rw [ha.out]; exact putSel_upk 6 hb_ rfl rfl rfl), Q_HB, Q_G9, Q_L9, Q_Z9, fun _ h1_ => absurd ((hoff 11 (by kernel_rfl)).symm.trans h1_) (by decide), Q_G10, Q_L10, Q_Z10, fun _ h1_ => absurd ((hoff 12 (by kernel_rfl)).symm.trans h1_) (by decide), Q_D9_10, Q_X9_, Q_X10_⟩
          refine steps_cons ?_ ?_
          · rintro b a w' ⟨g7, g8, m9_, m10_, ha, Q_HB, Q_G9, Q_L9, Q_Z9, Q_N11, Q_G10, Q_L10, Q_Z10, Q_N12, Q_D9_10, Q_X9_, Q_X10_⟩ hb_ hon hoff
            refine ⟨_, rfl, fun K hK => ?_⟩
            have e26 : a.tmps[26]? = some (.tuple #[.agg #[.int .i64 qa, .int .u64 qb], .agg #[.int .i64 ma, .int .u64 mb], .int .i64 0]) := by rw [ha]; exact putSel_on (e := (5, 26, .tuple #[.agg #[.int .i64 qa, .int .u64 qb], .agg #[.int .i64 ma, .int .u64 mb], .int .i64 0])) 5 rfl rfl (hon 5 (by kernel_rfl)) rfl
            replace ha := Aside0.mk ha
            have HB := Aside0.mk Q_HB
            have D9_10 := Aside0.mk Q_D9_10
            refine value_ (w1 := w') (v := .agg #[.int .i64 ma, .int .u64 mb]) (by rfl) rfl ?_ ?_
            · go_simp
              (try simp only [i64_w])
              try rfl
            refine hK.out _ _ ⟨g7, g8, m9_, m10_, (by rw [ha.out]; exact putSel_upk 7 hb_ rfl rfl rfl), Q_HB, Q_G9, Q_L9, Q_Z9, Q_N11, Q_G10, Q_L10, Q_Z10, fun _ h1_ => absurd ((hoff 12 (by kernel_rfl)).symm.trans h1_) (by decide), Q_D9_10, Q_X9_, Q_X10_⟩
          refine steps_cons ?_ ?_
          · rintro b a w' ⟨g7, g8, m9_, m10_, ha, Q_HB, Q_G9, Q_L9, Q_Z9, Q_N11, Q_G10, Q_L10, Q_Z10, Q_N12, Q_D9_10, Q_X9_, Q_X10_⟩ hb_ hon hoff
            refine ⟨_, rfl, fun K hK => ?_⟩
            have e26 : a.tmps[26]? = some (.tuple #[.agg #[.int .i64 qa, .int .u64 qb], .agg #[.int .i64 ma, .int .u64 mb], .int .i64 0]) := by rw [ha]; exact putSel_on (e := (5, 26, .tuple #[.agg #[.int .i64 qa, .int .u64 qb], .agg #[.int .i64 ma, .int .u64 mb], .int .i64 0])) 5 rfl rfl (hon 5 (by kernel_rfl)) rfl
            replace ha := Aside0.mk ha
            have HB := Aside0.mk Q_HB
            have D9_10 := Aside0.mk Q_D9_10
            refine value_ (w1 := w') (v := .int .i64 0) (by rfl) rfl ?_ ?_
            · go_simp
              (try simp only [i64_w])
              try rfl
            refine hK.out _ _ ⟨g7, g8, m9_, m10_, (by rw [ha.out]; exact putSel_upk 8 hb_ rfl rfl rfl), Q_HB, Q_G9, Q_L9, Q_Z9, Q_N11, Q_G10, Q_L10, Q_Z10, Q_N12, Q_D9_10, Q_X9_, Q_X10_⟩
          refine steps_cons ?_ ?_
          · rintro b a w' ⟨g7, g8, m9_, m10_, ha, Q_HB, Q_G9, Q_L9, Q_Z9, Q_N11, Q_G10, Q_L10, Q_Z10, Q_N12, Q_D9_10, Q_X9_, Q_X10_⟩ hb_ hon hoff
            refine ⟨_, rfl, fun K hK => ?_⟩
            replace ha := Aside0.mk ha
            have HB := Aside0.mk Q_HB
            have D9_10 := Aside0.mk Q_D9_10
            have hb := (Below.refl w'.heap.size w').alloc (Nat.le_refl _) (.cells #[.int .i64 0, .int .u64 0] 25 (0, 0))
            refine value_ (w1 := w'.alloc (.cells #[.int .i64 0, .int .u64 0] 25 (0, 0))) (v := .pointer (some ⟨w'.heap.size, 0, none⟩)) (by rfl) rfl ?_ ?_
            · go_simp
              try rfl
            refine hK.out _ _ ⟨w'.heap.size, g8, (.pointer (some ⟨w'.heap.size, 0, none⟩)), m10_, (by rw [ha.out]; exact putSel_upk 9 hb_ rfl rfl rfl), hop HB.out hb, fun _ => HB.out.size, fun _ => (by simp), fun _ _ => heap_alloc_new w' _, fun _ h1_ => absurd ((hoff 11 (by kernel_rfl)).symm.trans h1_) (by decide), Q_G10, fun h10 => Nat.lt_of_lt_of_le (Q_L10 h10) hb.size, fun h10 h12 => (hb.block _ (blk_lt (Q_Z10 h10 h12))).trans (Q_Z10 h10 h12), fun _ h1_ => absurd ((hoff 12 (by kernel_rfl)).symm.trans h1_) (by decide), fun h1 h2 => (fun e => by have := Q_L10 h2; omega), fun _ => rfl, Q_X10_⟩
          refine steps_cons ?_ ?_
          · rintro b a w' ⟨g7, g8, m9_, m10_, ha, Q_HB, Q_G9, Q_L9, Q_Z9, Q_N11, Q_G10, Q_L10, Q_Z10, Q_N12, Q_D9_10, Q_X9_, Q_X10_⟩ hb_ hon hoff
            refine ⟨_, rfl, fun K hK => ?_⟩
            replace ha := Aside0.mk ha
            have HB := Aside0.mk Q_HB
            have D9_10 := Aside0.mk Q_D9_10
            have hb := (Below.refl w'.heap.size w').alloc (Nat.le_refl _) (.cells #[.int .i64 0, .int .u64 0] 25 (0, 0))
            refine value_ (w1 := w'.alloc (.cells #[.int .i64 0, .int .u64 0] 25 (0, 0))) (v := .pointer (some ⟨w'.heap.size, 0, none⟩)) (by rfl) rfl ?_ ?_
            · go_simp
              try rfl
            refine hK.out _ _ ⟨g7, w'.heap.size, m9_, (.pointer (some ⟨w'.heap.size, 0, none⟩)), (by rw [ha.out]; exact putSel_upk 10 hb_ rfl rfl rfl), hop HB.out hb, Q_G9, fun h9 => Nat.lt_of_lt_of_le (Q_L9 h9) hb.size, fun h9 h11 => (hb.block _ (blk_lt (Q_Z9 h9 h11))).trans (Q_Z9 h9 h11), fun _ h1_ => absurd ((hoff 11 (by kernel_rfl)).symm.trans h1_) (by decide), fun _ => HB.out.size, fun _ => (by simp), fun _ _ => heap_alloc_new w' _, fun _ h1_ => absurd ((hoff 12 (by kernel_rfl)).symm.trans h1_) (by decide), fun h1 h2 => (fun e => by have := Q_L9 h1; omega), Q_X9_, fun _ => rfl⟩
          refine steps_cons ?_ ?_
          · rintro b a w' ⟨g7, g8, m9_, m10_, ha, Q_HB, Q_G9, Q_L9, Q_Z9, Q_N11, Q_G10, Q_L10, Q_Z10, Q_N12, Q_D9_10, Q_X9_, Q_X10_⟩ hb_ hon hoff
            refine ⟨_, rfl, fun K hK => ?_⟩
            have e7 : a.tmps[7]? = some (m9_) := by rw [ha]; exact putSel_on (e := (9, 7, m9_)) 9 rfl rfl (hon 9 (by kernel_rfl)) rfl
            rw [Q_X9_ (hon 9 (by kernel_rfl))] at e7
            have e32 : a.tmps[32]? = some (.agg #[.int .i64 qa, .int .u64 qb]) := by rw [ha]; exact putSel_on (e := (6, 32, .agg #[.int .i64 qa, .int .u64 qb])) 6 rfl rfl (hon 6 (by kernel_rfl)) rfl
            replace ha := Aside0.mk ha
            have HB := Aside0.mk Q_HB
            have G9 := Aside0.mk (Q_G9 (hon 9 (by kernel_rfl)))
            have L9 := Aside0.mk (Q_L9 (hon 9 (by kernel_rfl)))
            have Z9 := Aside0.mk (Q_Z9 (hon 9 (by kernel_rfl)) hb_)
            have G10 := Aside0.mk (Q_G10 (hon 10 (by kernel_rfl)))
            have L10 := Aside0.mk (Q_L10 (hon 10 (by kernel_rfl)))
            have Z10 := Aside0.mk (Q_Z10 (hon 10 (by kernel_rfl)) (hoff 12 (by kernel_rfl)))
            have D9_10 := Aside0.mk Q_D9_10
            have hk : Keep w' ((w'.setCell ⟨g7, 0, none⟩ (.int .i64 qa)).setCell ⟨g7, 1, none⟩ (.int .u64 qb)) (fun k => k = g7) := (((Keep.refl w' (fun k => k = g7)).set ⟨g7, 0, none⟩ (.int .i64 qa) (.inl rfl)).set ⟨g7, 1, none⟩ (.int .u64 qb) (.inl rfl))
            have y0 := blk_cell Z9.out 0
            have y1 := blk_cell Z9.out 1
            have z0 := blk_frozen Z9.out 0
            have z1 := blk_frozen Z9.out 1
            refine skip_ (w1 := ((w'.setCell ⟨g7, 0, none⟩ (.int .i64 qa)).setCell ⟨g7, 1, none⟩ (.int .u64 qb))) (by rfl) rfl ?_ ?_
            · go_simp
              try rfl
            refine hK.out _ _ ⟨g7, g8, m9_, m10_, (by rw [ha.out]; exact putSel_none (v := undef) rfl), HB.out.trans (hk.below HB.out.size (fun k e => by have e2 : k = g7 := e; rw [e2]; exact G9.out)), Q_G9, fun h9 => Nat.lt_of_lt_of_le (Q_L9 h9) hk.size, fun _ h1_ => absurd ((up_self b 11).symm.trans h1_) (by decide), fun _ _ => (blk_put (blk_put Z9.out 0 (.int .i64 qa) rfl) 1 (.int .u64 qb) rfl), Q_G10, fun h10 => Nat.lt_of_lt_of_le (Q_L10 h10) hk.size, fun h10 h12 => (hk.block _ (blk_lt (Q_Z10 h10 h12)) (fun e => Q_D9_10 (hon 9 (by kernel_rfl)) h10 e.symm)).trans (Q_Z10 h10 h12), fun _ h1_ => absurd ((hoff 12 (by kernel_rfl)).symm.trans h1_) (by decide), Q_D9_10, Q_X9_, Q_X10_⟩
          refine steps_cons ?_ ?_
          · rintro b a w' ⟨g7, g8, m9_, m10_, ha, Q_HB, Q_G9, Q_L9, Q_Z9, Q_N11, Q_G10, Q_L10, Q_Z10, Q_N12, Q_D9_10, Q_X9_, Q_X10_⟩ hb_ hon hoff
            refine ⟨_, rfl, fun K hK => ?_⟩
            have e8 : a.tmps[8]? = some (m10_) := by rw [ha]; exact putSel_on (e := (10, 8, m10_)) 10 rfl rfl (hon 10 (by kernel_rfl)) rfl
            rw [Q_X10_ (hon 10 (by kernel_rfl))] at e8
            have e33 : a.tmps[33]? = some (.agg #[.int .i64 ma, .int .u64 mb]) := by rw [ha]; exact putSel_on (e := (7, 33, .agg #[.int .i64 ma, .int .u64 mb])) 7 rfl rfl (hon 7 (by kernel_rfl)) rfl
            replace ha := Aside0.mk ha
            have HB := Aside0.mk Q_HB
            have G9 := Aside0.mk (Q_G9 (hon 9 (by kernel_rfl)))
            have L9 := Aside0.mk (Q_L9 (hon 9 (by kernel_rfl)))
            have N11 := Aside0.mk (Q_N11 (hon 9 (by kernel_rfl)) (hon 11 (by kernel_rfl)))
            have G10 := Aside0.mk (Q_G10 (hon 10 (by kernel_rfl)))
            have L10 := Aside0.mk (Q_L10 (hon 10 (by kernel_rfl)))
            have Z10 := Aside0.mk (Q_Z10 (hon 10 (by kernel_rfl)) hb_)
            have D9_10 := Aside0.mk Q_D9_10
            have hk : Keep w' ((w'.setCell ⟨g8, 0, none⟩ (.int .i64 ma)).setCell ⟨g8, 1, none⟩ (.int .u64 mb)) (fun k => k = g8) := (((Keep.refl w' (fun k => k = g8)).set ⟨g8, 0, none⟩ (.int .i64 ma) (.inl rfl)).set ⟨g8, 1, none⟩ (.int .u64 mb) (.inl rfl))
            have y0 := blk_cell Z10.out 0
            have y1 := blk_cell Z10.out 1
            have z0 := blk_frozen Z10.out 0
            have z1 := blk_frozen Z10.out 1
            refine skip_ (w1 := ((w'.setCell ⟨g8, 0, none⟩ (.int .i64 ma)).setCell ⟨g8, 1, none⟩ (.int .u64 mb))) (by rfl) rfl ?_ ?_
            · go_simp
              try rfl
            refine hK.out _ _ ⟨g7, g8, m9_, m10_, (by rw [ha.out]; exact putSel_none (v := undef) rfl), HB.out.trans (hk.below HB.out.size (fun k e => by have e2 : k = g8 := e; rw [e2]; exact G10.out)), Q_G9, fun h9 => Nat.lt_of_lt_of_le (Q_L9 h9) hk.size, fun _ h1_ => absurd ((hon 11 (by kernel_rfl)).symm.trans h1_) (by decide), fun h9 h11 => (hk.block _ (blk_lt (Q_N11 h9 h11)) (fun e => Q_D9_10 h9 (hon 10 (by kernel_rfl)) e)).trans (Q_N11 h9 h11), Q_G10, fun h10 => Nat.lt_of_lt_of_le (Q_L10 h10) hk.size, fun _ h1_ => absurd ((up_self b 12).symm.trans h1_) (by decide), fun _ _ => (blk_put (blk_put Z10.out 0 (.int .i64 ma) rfl) 1 (.int .u64 mb) rfl), Q_D9_10, Q_X9_, Q_X10_⟩
          refine steps_cons ?_ ?_
          · rintro b a w' ⟨g7, g8, m9_, m10_, ha, Q_HB, Q_G9, Q_L9, Q_Z9, Q_N11, Q_G10, Q_L10, Q_Z10, Q_N12, Q_D9_10, Q_X9_, Q_X10_⟩ hb_ hon hoff
            refine ⟨_, rfl, fun K hK => ?_⟩
            have e34 : a.tmps[34]? = some (.int .i64 0) := by rw [ha]; exact putSel_on (e := (8, 34, .int .i64 0)) 8 rfl rfl (hon 8 (by kernel_rfl)) rfl
            replace ha := Aside0.mk ha
            have HB := Aside0.mk Q_HB
            have G9 := Aside0.mk (Q_G9 (hon 9 (by kernel_rfl)))
            have L9 := Aside0.mk (Q_L9 (hon 9 (by kernel_rfl)))
            have N11 := Aside0.mk (Q_N11 (hon 9 (by kernel_rfl)) (hon 11 (by kernel_rfl)))
            have G10 := Aside0.mk (Q_G10 (hon 10 (by kernel_rfl)))
            have L10 := Aside0.mk (Q_L10 (hon 10 (by kernel_rfl)))
            have N12 := Aside0.mk (Q_N12 (hon 10 (by kernel_rfl)) (hon 12 (by kernel_rfl)))
            have D9_10 := Aside0.mk Q_D9_10
            refine value_ (w1 := w') (v := .int .i64 0) (by rfl) rfl ?_ ?_
            · go_simp
              (try simp only [i64_w])
              try rfl
            refine hK.out _ _ ⟨g7, g8, m9_, m10_, (by rw [ha.out]; exact putSel_upk 11 hb_ rfl rfl rfl), Q_HB, Q_G9, Q_L9, fun _ h1_ => absurd ((hon 11 (by kernel_rfl)).symm.trans h1_) (by decide), Q_N11, Q_G10, Q_L10, fun _ h1_ => absurd ((hon 12 (by kernel_rfl)).symm.trans h1_) (by decide), Q_N12, Q_D9_10, Q_X9_, Q_X10_⟩
          exact steps_nil
        · rintro b a w' hall ⟨g7, g8, m9_, m10_, ha, Q_HB, Q_G9, Q_L9, Q_Z9, Q_N11, Q_G10, Q_L10, Q_Z10, Q_N12, Q_D9_10, Q_X9_, Q_X10_⟩
          clear D9_10 HB
          have hb0_ := hall 0 (by kernel_rfl)
          have hb1_ := hall 1 (by kernel_rfl)
          have hb2_ := hall 2 (by kernel_rfl)
          have hb3_ := hall 3 (by kernel_rfl)
          have hb4_ := hall 4 (by kernel_rfl)
          have hb5_ := hall 5 (by kernel_rfl)
          have hb6_ := hall 6 (by kernel_rfl)
          have hb7_ := hall 7 (by kernel_rfl)
          have hb8_ := hall 8 (by kernel_rfl)
          have hb9_ := hall 9 (by kernel_rfl)
          have hb10_ := hall 10 (by kernel_rfl)
          have hb11_ := hall 11 (by kernel_rfl)
          have hb12_ := hall 12 (by kernel_rfl)
          have hb13_ := hall 13 (by kernel_rfl)
          subst ha
          obtain rfl := Q_X9_ hb9_
          obtain rfl := Q_X10_ hb10_
          simp only [putSel, hb0_, hb1_, hb2_, hb3_, hb4_, hb5_, hb6_, hb7_, hb8_, hb9_, hb10_, hb11_, hb12_, hb13_, if_true, Act.put, List.setIfInBounds_toArray, List.set_cons_zero, List.set_cons_succ]
          have HB := Aside0.mk Q_HB
          clear Q_HB
          have G9 := Aside0.mk (Q_G9 hb9_)
          clear Q_G9
          have L9 := Aside0.mk (Q_L9 hb9_)
          clear Q_L9
          clear Q_Z9
          have N11 := Aside0.mk (Q_N11 hb9_ hb11_)
          clear Q_N11
          have G10 := Aside0.mk (Q_G10 hb10_)
          clear Q_G10
          have L10 := Aside0.mk (Q_L10 hb10_)
          clear Q_L10
          clear Q_Z10
          have N12 := Aside0.mk (Q_N12 hb10_ hb12_)
          clear Q_N12
          have D9_10 := Aside0.mk Q_D9_10
          clear Q_D9_10
          clear hall hb0_ hb1_ hb2_ hb3_ hb4_ hb5_ hb6_ hb7_ hb8_ hb9_ hb10_ hb11_ hb12_ hb13_
          go_wp2_with (fail)
          go_meet
          exact ⟨g7, rfl, N11, HB⟩
      case rest =>
        obtain ⟨g7, rfl, M7, HBc⟩ := hcut
        have a0 := blk_cell M7.out 0
        have a1 := blk_cell M7.out 1
        go_upto_region 9 with (first
          | (go_at_call 32; (with_reducible refine (HM.out _).mono ?_); rintro e w1 ⟨rfl, hb⟩; have HB1 := Aside0.mk hb; clear hb))
        have hb2 := hop HBc.out HB1.out
        have m0 := (hb2.block _ (blk_lt N0.out)).trans N0.out
        have m1 := (hb2.block _ (blk_lt NS.out)).trans NS.out
        have l0 := blk_cell m1 0
        have l1 := blk_cell m1 1
        have s0 := blk_cell m0 0
        have s1 := blk_cell m0 1
        have t0 := blk_frozen m0 0
        have t1 := blk_frozen m0 1
        have hsz : w.heap.size < w1.heap.size := blk_lt m0
        have HBZ := Aside0.mk (NB.out.trans ⟨hb2.os, hb2.tape, hb2.output, hb2.size, fun k hk => hb2.block k (Nat.lt_of_lt_of_le hk NB.out.size)⟩)
        clear hb2 m0 m1 a0 a1
        go_wp2_with (fail)
        rw [RES.out.1, RES.out.2.1, RES.out.2.2]
        refine bodyPost_ret (v := .tuple #[.agg #[.int .i64 sa, .int .u64 sb], .int .i64 (l.sum / (l.length : Int))]) (by simp [results, Try.results30, go_sem, l0, l1, s0, s1, t0, t1, hsz]) rfl ⟨rfl, ?_⟩
        exact (HBZ.out.setCell (Nat.le_refl _) _).setCell (Nat.le_refl _) _
    | succ k1 =>
      have hlt : i < l.length := by omega
      have hlm : i < 1048576 := by have := HL.out; omega
      have d1 : decide (i < l.length) = true := decide_eq_true hlt
      obtain ⟨x, hx⟩ : ∃ x, x = l[i] := ⟨_, rfl⟩
      have hsx := HS.out x (by rw [hx]; exact List.getElem_mem hlt)
      unfold smp at hsx
      have hst := sum_smp (l := l.take i) (fun y hy => HS.out y (List.mem_of_mem_take hy))
      have hlen : (l.take i).length ≤ 1048576 := by rw [List.length_take]; omega
      have hts := take_sum hlt
      rw [← hx] at hts
      obtain ⟨ad, hA, hc⟩ := Kd.at_int (Kd.C_below HC.out NB.out) (i : Int) (by omega) (by omega)
      rw [show rd l (i : Int) = x by unfold rd; rw [Int.toNat_natCast, hx]; simp [List.getD_eq_getElem?_getD, hlt]] at hc
      rw [Int.toNat_natCast] at hc
      have HO := Aside0.mk (fun W => wide_Of (z := x) W (by unfold in64; omega))
      have HA := Aside0.mk (fun W => wide_Add (x := (l.take i).sum) (y := x) W (by unfold inW; omega) (by unfold inW; omega) _ 0 (.inl ⟨by unfold inW; omega, rfl, rfl⟩))
      rw [← hts] at HA
      unfold WV at HO HA
      obtain ⟨sa, hsa⟩ : ∃ a, a = hiW (l.take i).sum := ⟨_, rfl⟩
      obtain ⟨sb, hsb⟩ : ∃ a, a = loW (l.take i).sum := ⟨_, rfl⟩
      obtain ⟨ta, hta⟩ : ∃ a, a = hiW (l.take (i + 1)).sum := ⟨_, rfl⟩
      obtain ⟨tb, htb⟩ : ∃ a, a = loW (l.take (i + 1)).sum := ⟨_, rfl⟩
      obtain ⟨xa, hxa⟩ : ∃ a, a = hiW x := ⟨_, rfl⟩
      obtain ⟨xb, hxb⟩ : ∃ a, a = loW x := ⟨_, rfl⟩
      rw [← hsa, ← hsb] at N1
      rw [← hxa, ← hxb] at HO
      rw [← hsa, ← hsb, ← hta, ← htb, ← hxa, ← hxb] at HA
      have HT := Aside0.mk (And.intro hta htb)
      subst hA
      have u0 := blk_cell N1.out 0
      have u1 := blk_cell N1.out 1
      clear hsx hst hlen hts hx hsa hsb hta htb hxa hxb hl
      go_upto_region 5 with (fail)
      go_region_with (first
        | (go_at_call 15; (with_reducible refine (HO.out _).mono ?_); rintro e w1 ⟨rfl, hb⟩; have hb' : Below wr.heap.size wr w1 := ⟨hb.os, hb.tape, hb.output, hb.size, hb.block⟩; have HB1 := Aside0.mk hb'; have p1 := (hb'.block _ (blk_lt N1.out)).trans N1.out; have v0 := blk_cell p1 0; have v1 := blk_cell p1 1; clear hb hb' p1)
        | (go_at_call 16; (with_reducible refine (HA.out _).mono ?_); rintro e w2 ⟨rfl, hb⟩; have hb2 := hop HB1.out hb; have HB2 := Aside0.mk hb2; have p1 := (hb2.block _ (blk_lt N1.out)).trans N1.out; have P1 := Aside0.mk p1; have v2 := blk_cell p1 0; have v3 := blk_cell p1 1; have v4 := blk_frozen p1 0; have v5 := blk_frozen p1 1; clear hb hb2 p1))
      all_goals
        go_wp2_with (fail)
        go_roundg k1
        case rel =>
          have hk : Keep w2 ((w2.setCell ⟨w.heap.size + 1, 0, none⟩ (.int .i64 ta)).setCell ⟨w.heap.size + 1, 1, none⟩ (.int .u64 tb)) (fun k => k = w.heap.size + 1) := keep_set2
          have hb1 := HB2.out
          have hb2 := NB.out.trans ⟨hb1.os, hb1.tape, hb1.output, hb1.size, fun k hk => hb1.block k (Nat.lt_of_lt_of_le hk NB.out.size)⟩
          exact ⟨i + 1, by go_num, by omega, ⟨(hk.block _ (blk_lt ((HB2.out.block _ (blk_lt N0.out)).trans N0.out)) (by omega)).trans ((HB2.out.block _ (blk_lt N0.out)).trans N0.out)⟩, ⟨by rw [← HT.out.1, ← HT.out.2]; exact blk_put (blk_put P1.out 0 _ rfl) 1 _ rfl⟩, ⟨hb2.trans (hk.below hb2.size (fun k e => by have e2 : k = w.heap.size + 1 := e; omega))⟩⟩
        case measure => omega
end Go.Proofs.Ythnihjfdmkfkiaa.Q

namespace Go.Proofs.Ythnihjfdmkfkiaa.Q
open Go.RowKit Go.Proofs.YthnihjfdmkfkiaaW.PrintWords Go.Proofs.YthnihjfdmkfkiaaW.PrintLast Go.Proofs.YthnihjfdmkfkiaaW.PrintMore Go.Proofs.YthnihjfdmkfkiaaV
set_option linter.unusedVariables false
set_option linter.unusedSimpArgs false
instance (x : Int) : Decidable (smp x) := by unfold smp; infer_instance
/-- Is it none? -/
def badB (v : Int) : Bool := decide (¬ smp v)
set_option maxHeartbeats 800000 in
theorem sorted1 (v : Int) (w : World) : Calls Try.prog 54 #[.int .i64 v] w fun e w' => e = .returned (.bool (badB v)) ∧ w = w' := by
  obtain ⟨b, hb⟩ : ∃ b, b = badB v := ⟨_, rfl⟩
  rw [← hb]
  unfold badB smp at hb
  by_cases h1 : v < 0
  · have d1 : decide (v < 0) = true := decide_eq_true h1
    have e : b = true := by rw [hb]; simp; omega
    subst e
    clear hb h1
    go_enter Try.func54, Try.ntmps54
    go_wp2
    go_ret
    exact ⟨rfl, rfl⟩
  · have d1 : decide (v < 0) = false := decide_eq_false h1
    by_cases h2 : 100000000000000 < v
    · have d2 : decide (100000000000000 < v) = true := decide_eq_true h2
      have e : b = true := by rw [hb]; simp; omega
      subst e
      clear hb h1 h2
      go_enter Try.func54, Try.ntmps54
      go_wp2
      go_ret
      exact ⟨rfl, rfl⟩
    · have d2 : decide (100000000000000 < v) = false := decide_eq_false h2
      have e : b = false := by rw [hb]; simp; omega
      subst e
      clear hb h1 h2
      go_enter Try.func54, Try.ntmps54
      go_wp2
      go_ret
      exact ⟨rfl, rfl⟩
/-- Where the first is, or -1. -/
def idxF (p : Int → Bool) (l : List Int) : Int := match l.findIdx? p with | none => -1 | some i => (i : Int)
theorem idxF_none {p : Int → Bool} {l : List Int} (h : ∀ (j : Nat) x, l[j]? = some x → p x = false) : idxF p l = -1 := by
  unfold idxF
  rw [List.findIdx?_eq_none_iff.2 (fun x hx => by
    obtain ⟨j, hj⟩ := List.mem_iff_getElem?.1 hx
    exact h j x hj)]
theorem idxF_some {p : Int → Bool} {l : List Int} {i : Nat} {x : Int} (hx : l[i]? = some x) (hp : p x = true) (h : ∀ j : Nat, j < i → ∀ y, l[j]? = some y → p y = false) : idxF p l = (i : Int) := by
  unfold idxF
  obtain ⟨hl, hx2⟩ := List.getElem?_eq_some_iff.1 hx
  rw [List.findIdx?_eq_some_iff_getElem.2 ⟨hl, by rw [hx2]; exact hp, fun j hj => by
    have := h j hj _ (List.getElem?_eq_getElem (by omega))
    simp [this]⟩]
set_option maxHeartbeats 1600000 in
theorem index_bad {w : World} {A : Option Addr} {c : Nat} {l : List Int} (h : Kd.C (Kd.int .i64) w A l.length l) (hl : l.length ≤ 1048576) :
    Calls Try.prog 50 #[.slice A l.length c, .func (.func 54) #[] #[]] w fun e w' => e = .returned (.int .i64 (idxF badB l)) ∧ w = w' := by
  obtain ⟨r, hr⟩ : ∃ r, r = idxF badB l := ⟨_, rfl⟩
  rw [← hr]
  have HR := Aside0.mk hr
  have HC := Aside0.mk h
  clear h hr
  go_enter Try.func50, Try.ntmps50
  go_wp2_with (fail)
  go_loopg [8] l.length (fun kq v8 w' => ∃ i : Nat, v8 = .int .i64 i ∧ i + kq = l.length ∧ Aside0 (∀ j : Nat, j < i → ∀ y, l[j]? = some y → badB y = false) ∧ w' = w)
  case atStart => exact ⟨0, rfl, by omega, ⟨fun j hj => by omega⟩, rfl⟩
  case round =>
    obtain ⟨i, rfl, hik, HN, rfl⟩ := hrel
    cases gk with
    | zero =>
      obtain rfl : i = l.length := by omega
      have d1 : decide (l.length < l.length) = false := decide_eq_false (by omega)
      have E := Aside0.mk (show r = -1 by rw [HR.out]; exact idxF_none (fun j x hx => HN.out j (List.getElem?_eq_some_iff.1 hx).1 x hx))
      go_wp2_with (fail)
      go_ret
      rw [E.out]
      exact ⟨rfl, rfl⟩
    | succ k1 =>
      have hlt : i < l.length := by omega
      have d1 : decide (i < l.length) = true := decide_eq_true hlt
      obtain ⟨ad, hA, hc⟩ := Kd.at_int HC.out (i : Int) (by omega) (by omega)
      obtain ⟨x, hx⟩ : ∃ x, x = l[i] := ⟨_, rfl⟩
      have hx2 : l[i]? = some x := by rw [hx]; exact List.getElem?_eq_getElem hlt
      rw [show rd l (i : Int) = x by unfold rd; rw [Int.toNat_natCast, hx]; simp [List.getD_eq_getElem?_getD, hlt]] at hc
      rw [Int.toNat_natCast] at hc
      subst hA
      obtain ⟨b, hb⟩ : ∃ b, b = badB x := ⟨_, rfl⟩
      have HS := Aside0.mk (sorted1 x wr)
      rw [← hb] at HS
      cases b with
      | true =>
        have E := Aside0.mk (show r = (i : Int) by rw [HR.out]; exact idxF_some hx2 hb.symm HN.out)
        clear hx hx2 hb
        go_wp2_with (first | (go_at_call 54; (with_reducible refine (HS.out).mono ?_); rintro e w1 ⟨rfl, rfl⟩))
        go_ret
        rw [E.out]
        exact ⟨rfl, rfl⟩
      | false =>
        have HN2 := Aside0.mk (show ∀ j, j < i + 1 → ∀ y, l[j]? = some y → badB y = false from fun j hj y hy => by
          by_cases e : j = i
          · subst e; rw [hx2] at hy; injection hy with hy; subst hy; exact hb.symm
          · exact HN.out j (by omega) y hy)
        clear hx hx2 hb HN
        go_wp2_with (first | (go_at_call 54; (with_reducible refine (HS.out).mono ?_); rintro e w1 ⟨rfl, rfl⟩))
        go_roundg k1
        case rel => exact ⟨i + 1, by go_num, by omega, HN2, rfl⟩
        case measure => omega
theorem contains_bad {w : World} {A : Option Addr} {c : Nat} {l : List Int} (h : Kd.C (Kd.int .i64) w A l.length l) (hl : l.length ≤ 1048576) (b : Bool) (hb : b = l.any badB) :
    Calls Try.prog 53 #[.slice A l.length c, .func (.func 54) #[] #[]] w fun e w' => e = .returned (.bool b) ∧ w = w' := by
  have HI := Aside0.mk (index_bad (c := c) h hl)
  obtain ⟨r, hr⟩ : ∃ r, r = idxF badB l := ⟨_, rfl⟩
  rw [← hr] at HI
  have d : decide (0 ≤ r) = b := by
    rw [hr, hb]
    unfold idxF
    cases hf : l.findIdx? badB with
    | none =>
      have := List.findIdx?_eq_none_iff.1 hf
      rw [List.any_eq_false.2 (fun x hx => by rw [this x hx]; simp)]
      rfl
    | some i =>
      obtain ⟨hl2, hp, -⟩ := List.findIdx?_eq_some_iff_getElem.1 hf
      rw [List.any_eq_true.2 ⟨_, List.getElem_mem hl2, hp⟩]
      simp
  clear hr hb h hl
  go_enter Try.func53, Try.ntmps53
  go_wp2_with (first | (go_at_call 50; (with_reducible refine (HI.out).mono ?_); rintro e w1 ⟨rfl, rfl⟩))
  go_ret
  exact ⟨rfl, rfl⟩
end Go.Proofs.Ythnihjfdmkfkiaa.Q

namespace Go.Proofs.Ythnihjfdmkfkiaa.Q
open Go.RowKit Go.Proofs.YthnihjfdmkfkiaaW.PrintWords Go.Proofs.YthnihjfdmkfkiaaW.PrintLast Go.Proofs.YthnihjfdmkfkiaaW.PrintMore Go.Proofs.YthnihjfdmkfkiaaV
set_option linter.unusedVariables false
set_option linter.unusedSimpArgs false

theorem infoRow : (Try.prog.info? 22).map (fun i => (i.zero, i.size, i.bytes)) = some (some (.slice none 0 0), 1, 24) := by kernel_rfl
def kS : Kd (List Int) := Kd.slice 2 (Kd.int .i64)
/-- What a call of merge comes to (the print proves it). -/
def MergeOk : Prop := ∀ (P0_ P1_ : Nat → Prop) (A0 : Option Addr) (c0 : Nat) (l0 : List Int) (A1 : Option Addr) (c1 : Nat) (l1 : List Int) (w : World),
  Kd.V (Kd.int .i64) 2 w w.heap.size P0_ (.slice A0 l0.length c0) l0 → Kd.V (Kd.int .i64) 2 w w.heap.size P1_ (.slice A1 l1.length c1) l1 → l0.length + l1.length ≤ 1048576 →
  Calls Try.prog 47 #[.slice A0 l0.length c0, .slice A1 l1.length c1] w fun e w' => ∃ v, e = .returned v ∧ Kd.R (Kd.int .i64) 2 w' w.heap.size (fun k => w.heap.size ≤ k) v (mergeP l0 l1) ∧ Below w.heap.size w w'
def okP (P0 : Nat → Prop) (B k : Nat) : Prop := (P0 k ∧ k < B) ∨ B ≤ k
theorem run_one {P : Program} (t e : TypeId) (i : TypeInfo) (ht : P.underlying t = some (.slice e)) (hi : P.info? e = some i) (hsz : i.size = 1) (ad : Addr) (n c j : Nat) (hj : j < n) (hc : n ≤ c) :
    ∀ W : World, (Instr.slice t (.slice (some ad) n c) (some (.int .i64 j)) (some (.int .i64 ((j : Int) + 1))) (some (.int .i64 ((j : Int) + 1)))).run P W = .ok (.slice (some (ad.add j)) 1 1) W := by
  intro W
  have hel : P.elem t = e := by simp [Program.elem, ht]
  have hu : P.underlying t = some (.slice (P.elem t)) := by rw [hel]; exact ht
  rw [run_slice_lhm W t (some ad) n c hu .i64 .i64 .i64 j ((j : Int) + 1) ((j : Int) + 1) (by omega) (by omega) (by omega) (by omega), hel]
  have e1 : ((j : Int) + 1).toNat = j + 1 := by omega
  simp [sizeOf, typeInfo, hi, hsz, sliced, Result.andThen, e1]
theorem drop_one {l : List Int} {i : Nat} (h : i < l.length) : (l.take (i + 1)).drop i = [l[i]] := by
  rw [List.take_succ_eq_append_getElem h, List.drop_append_of_le_length (by rw [List.length_take]; omega)]
  rw [List.drop_eq_nil_of_le (by rw [List.length_take]; omega)]
  rfl
theorem map_succ {l : List Int} {i : Nat} (h : i < l.length) : (l.take (i + 1)).map (fun x => [x]) = (l.take i).map (fun x => [x]) ++ [[l[i]]] := by
  rw [List.take_succ_eq_append_getElem h, List.map_append]
  rfl
/-- One part: where it lies, and that it can be read. -/
theorem part_at {w : World} {B : Nat} {ok : Nat → Prop} {A : Option Addr} {n c : Nat} {ps : List (List Int)} (h : Kd.N kS 22 w B ok (.slice A n c) ps) (i : Nat) (hi : i < ps.length) :
    ∃ g Ai ci, A = some ⟨g, 0, none⟩ ∧ B ≤ g ∧ w.cell? ⟨g, i, none⟩ = some (.slice Ai ps[i].length ci) ∧ Kd.V (Kd.int .i64) 2 w w.heap.size (fun k => ok k ∧ k < w.heap.size) (.slice Ai ps[i].length ci) ps[i] := by
  have hn := (Kd.N_reads' h).1
  obtain ⟨g, cap, e, hB, hlt, -⟩ := Kd.N_form h (by omega)
  injection e with e1 e2 e3
  subst e1
  subst e3
  obtain ⟨cs, hcl, hfk, hcc, -⟩ := Kd.N_elem h [] (i : Int) (by omega) (by omega)
  have e4 : ps.getD (i : Int).toNat [] = ps[i] := by rw [Int.toNat_natCast]; simp [List.getD_eq_getElem?_getD, hi]
  rw [e4] at hfk
  obtain ⟨Ai, ci, rfl, hle, hF⟩ := Kd.FK_slice_open hfk
  refine ⟨g, Ai, ci, rfl, hB, ?_, Kd.V_mk hle (Kd.F_mono (Kd.F_bound hF) (fun k hk => ⟨hk.1.1, hk.2⟩))⟩
  have := hcc 0 _ rfl
  rw [Int.toNat_natCast, show i * kS.sz + 0 = i by show i * 1 + 0 = i; omega] at this
  exact this
theorem sorted_not {w : World} {A : Option Addr} {c : Nat} {l : List Int} (h : Kd.C (Kd.int .i64) w A l.length l) (hl : l.length ≤ 1048576) (hs : ¬ ∀ x ∈ l, smp x) :
    Calls Try.prog 29 #[.slice A l.length c] w fun e w' => e = .returned (.tuple #[.slice none 0 0, .bool false]) ∧ w = w' := by
  have HCt := Aside0.mk (contains_bad (c := c) h hl true (by
    symm
    rw [List.any_eq_true]
    have : ∃ x ∈ l, ¬ smp x := Classical.byContradiction (fun hn => hs (fun x hx => Classical.byContradiction (fun hk => hn ⟨x, hx, hk⟩)))
    obtain ⟨x, hx, hk⟩ := this
    exact ⟨x, hx, decide_eq_true hk⟩))
  clear h hs
  go_enter Try.func29, Try.ntmps29
  go_wp2_with (first | (go_at_call 53; (with_reducible refine (HCt.out).mono ?_); rintro e w1 ⟨rfl, rfl⟩))
  go_ret2
  exact ⟨rfl, rfl⟩
set_option maxHeartbeats 6400000 in
set_option maxRecDepth 8000 in
theorem timer_sorted (HM : MergeOk) {w : World} {P0 : Nat → Prop} {A : Option Addr} {c : Nat} {l : List Int} (h : Kd.V (Kd.int .i64) 2 w w.heap.size P0 (.slice A l.length c) l) (hl : l.length ≤ 1048576) (hs : ∀ x ∈ l, smp x) :
    Calls Try.prog 29 #[.slice A l.length c] w fun e w' => ∃ v, e = .returned (.tuple #[v, .bool true]) ∧ Kd.V (Kd.int .i64) 2 w' w.heap.size (fun k => P0 k ∨ w.heap.size ≤ k) v (sortP l) ∧ Below w.heap.size w w' := by
  have hC := (Kd.V_reads' h).2.2
  have hcap := (Kd.V_reads' h).2.1
  have HV := Aside0.mk (Kd.V_bound h)
  have HCt := Aside0.mk (contains_bad (c := c) hC hl false (by
    symm
    rw [List.any_eq_false]
    intro x hx
    simp [badB, hs x hx]))
  have HMM := Aside0.mk HM
  obtain ⟨i22, hi22, hz22⟩ := Option.map_eq_some_iff.1 (show (Try.prog.info? 2).map (fun i => (i.zero, i.size, i.bytes)) = some (some (.int .i64 0), 1, 8) by kernel_rfl)
  simp only [Prod.mk.injEq] at hz22
  have HI := Aside0.mk (And.intro hi22 hz22.2.1)
  have HCAP := Aside0.mk hcap
  have HL := Aside0.mk hl
  clear h hC hs HM hi22 hz22 hcap
  go_enter Try.func29, Try.ntmps29
  go_upto_region 3 with (first | (go_at_call 53; (with_reducible refine (HCt.out).mono ?_); rintro e w1 ⟨rfl, rfl⟩))
  go_wp2_with (first
    | ((with_reducible refine gate_dst (N := 12) rfl ?_); refine R_make0 kS (w0 := w) w.heap.size 22 rfl (N := 12) rfl 98 _ _ rfl (l.length : Int) rfl rfl Try.underlying98 (.slice none 0 0) 24 infoRow rfl (by decide) (by omega) (ok := okP P0 w.heap.size) (.inr (Nat.le_refl _)) (by omega) (by rw [Int.toNat_natCast]; omega) (Below.refl _ _) (Nat.le_refl _) ?_; intro v1 w1 hr hb hg hat; obtain ⟨A1, c1, e1⟩ := Kd.R_slice hr; subst e1; have HN := Aside0.mk (Kd.R_N hr); have HB1 := Aside0.mk hb; clear hr hb hg hat))
  go_loopg [4, 15] l.length (fun kq v4 v15 w' => ∃ (i : Nat) (A4 : Option Addr) (c4 : Nat), v4 = .slice A4 i c4 ∧ v15 = .int .i64 i ∧ i + kq = l.length ∧ Aside0 (Kd.N kS 22 w' w.heap.size (okP P0 w.heap.size) (.slice A4 i c4) ((l.take i).map (fun x => [x]))) ∧ Aside0 (Below w.heap.size w w'))
  case atStart => exact ⟨0, A1, c1, rfl, rfl, by omega, HN, HB1⟩
  case round =>
    clear HN HB1
    obtain ⟨i, A4, c4, rfl, rfl, hik, HN, NB⟩ := hrel
    cases gk with
    | zero =>
      obtain rfl : i = l.length := by omega
      have d1 : decide (l.length < l.length) = false := decide_eq_false (by omega)
      have HN0 := HN.out
      rw [List.take_length] at HN0
      have HN := Aside0.mk HN0
      clear HN0
      obtain ⟨A40, hA40⟩ : ∃ a, a = A4 := ⟨_, rfl⟩
      obtain ⟨c40, hc40⟩ : ∃ a, a = c4 := ⟨_, rfl⟩
      obtain ⟨wo, hwo⟩ : ∃ a, a = wr := ⟨_, rfl⟩
      subst hwo hA40 hc40
      go_wp2_with (fail)
      go_loopg [4] l.length (fun kq v4 w' => ∃ (ps : List (List Int)) (A4 : Option Addr) (c4 : Nat), v4 = .slice A4 ps.length c4 ∧ ps.length = kq ∧ kq ≤ l.length ∧ Aside0 (Parts l ps) ∧ Aside0 (Kd.N kS 22 w' w.heap.size (okP P0 w.heap.size) (.slice A4 ps.length c4) ps) ∧ Aside0 (Below w.heap.size w w'))
      case atStart => exact ⟨l.map (fun x => [x]), A40, c40, by rw [List.length_map], by rw [List.length_map], Nat.le_refl _, ⟨Parts.ones l⟩, by rw [List.length_map]; exact HN, NB⟩
      case round =>
        clear HN NB
        obtain ⟨ps, A5, c5, rfl, hpk, hkl, HP, HN, NB⟩ := hrel
        have HPK := Aside0.mk hpk
        clear hpk
        by_cases hgt : 1 < ps.length
        · have d2 : decide ((1 : Int) < (ps.length : Int)) = true := decide_eq_true (by omega)
          have hpl : ps.length ≤ 1048576 := by have := HPK.out; omega
          obtain ⟨wi, hwi⟩ : ∃ a, a = wr := ⟨_, rfl⟩
          subst hwi
          obtain ⟨A50, hA50⟩ : ∃ a, a = A5 := ⟨_, rfl⟩
          obtain ⟨c50, hc50⟩ : ∃ a, a = c5 := ⟨_, rfl⟩
          subst hA50 hc50
          go_wp2_with (fail)
          go_loopg [6, 7] (ps.length + 2) (fun kq v6 v7 w' => ∃ (i : Nat) (A6 : Option Addr) (c6 : Nat), v6 = .slice A6 (pairUp (ps.take i)).length c6 ∧ v7 = .int .i64 i ∧ i + kq = ps.length + 2 ∧ Aside0 (i % 2 = 0) ∧ i ≤ ps.length + 1 ∧ Aside0 (Kd.N kS 22 w' wi.heap.size (okP P0 w.heap.size) (.slice A6 (pairUp (ps.take i)).length c6) (pairUp (ps.take i))) ∧ Aside0 (Below wi.heap.size wi w'))
          case atStart => exact ⟨0, none, 0, rfl, rfl, by omega, ⟨rfl⟩, by omega, ⟨Kd.N_nil _ _ _ _ _⟩, ⟨Below.refl _ _⟩⟩
          case round =>
            obtain ⟨i, A6, c6, rfl, rfl, hik, HE, hil, HN6, NB6⟩ := hrel
            obtain ⟨q6, hq6⟩ : ∃ q, q = (pairUp (ps.take i)).length := ⟨_, rfl⟩
            by_cases hlt : i < ps.length
            · have d3 : decide (i < ps.length) = true := decide_eq_true hlt
              have hq6l : q6 ≤ 1048576 := by rw [hq6, pairUp_len, List.length_take]; omega
              have htl : (ps.take i).length % 2 = 0 := by rw [List.length_take, Nat.min_eq_left (by omega)]; exact HE.out
              obtain ⟨g, Ai, ci, hA, hBg, hcell, hV⟩ := part_at HN.out i hlt
              subst hA
              have hV6 := Kd.V_below hV NB6.out
              have hci := pw_cell_below NB6.out hcell
              by_cases h2 : i + 1 < ps.length
              · have d4 : decide ((i : Int) + 1 < (ps.length : Int)) = true := decide_eq_true (by omega)
                have d5 : decide (i + 1 < ps.length) = true := decide_eq_true (by omega)
                obtain ⟨g', Aj, cj, hA, hBg', hcellj, hVj⟩ := part_at HN.out (i + 1) h2
                injection hA with hA
                injection hA with hA
                subst hA
                have hV6j := Kd.V_below hVj NB6.out
                have hcj := pw_cell_below NB6.out hcellj
                have htw := take_two h2
                have hml := mergeP_len (ps[i]'hlt) ps[i + 1]
                have hmb := HP.out.two_len h2
                obtain ⟨xi, hxi⟩ : ∃ x, x = ps[i]'hlt := ⟨_, rfl⟩
                obtain ⟨xj, hxj⟩ : ∃ x, x = ps[i + 1] := ⟨_, rfl⟩
                rw [← hxi] at hV6 hci htw hml hmb hcell
                rw [← hxj] at hV6j hcj htw hml hmb hcellj
                have HTW := Aside0.mk (show pairUp (ps.take (i + 2)) = pairUp (ps.take i) ++ [mergeP xi xj] by rw [htw]; exact pairUp_two _ _ _ htl)
                obtain ⟨XS, hXS⟩ : ∃ X, X = pairUp (ps.take i) := ⟨_, rfl⟩
                rw [← hXS] at HTW HN6 hq6 ⊢
                rw [← hq6] at HN6 ⊢
                have HQ6 := Aside0.mk hq6
                have HMc := Aside0.mk (HMM.out _ _ Ai ci xi Aj cj xj _ (Kd.V_drew hV6) (Kd.V_drew hV6j) (by have := HL.out; omega))
                have HCELL := Aside0.mk (fun w' (hb : Below wi.heap.size wi w') => And.intro (pw_cell_below hb hcell) (pw_cell_below hb hcellj))
                have i0 : (0 : Int) ≤ (i : Int) := by omega
                have i1 : (i : Int) < (ps.length : Int) := by omega
                have i2 : (0 : Int) ≤ (i : Int) + 1 := by omega
                have i3 : (i : Int) + 1 < (ps.length : Int) := by omega
                have i4 : IntKind.i64.wrap ((i : Int) + 1) = (i : Int) + 1 := IntWalk.i64_in _ (by omega)
                have i5 : ((i : Int) + 1).toNat = i + 1 := by omega
                have h6l := Kd.N_lt HN6.out
                have HN6L := Aside0.mk h6l
                clear hV hV6 hVj hV6j htw hml hmb hxi hxj hXS hq6 htl hcell hcellj h6l
                go_upto_region 15 with (fail)
                go_region_held3 (fun w' => w'.cell? ⟨g, i, none⟩ = some (.slice Ai xi.length ci) ∧ w'.cell? ⟨g, i + 1, none⟩ = some (.slice Aj xj.length cj))
                  (first
                    | go_keep
                    | exact HCELL.out _ HB3.out
                    | exact HCELL.out _ (below_alloc HB3.out _)
                    | exact HCELL.out _ HB5.out)
                  (first
                    | (go_at_call 47; (with_reducible refine (HMc.out).mono ?_); rintro e w3 ⟨v3, rfl, hr3, hb3⟩; have HB3 := Aside0.mk (NB6.out.trans ⟨hb3.os, hb3.tape, hb3.output, hb3.size, fun k hk => hb3.block k (Nat.lt_of_lt_of_le hk NB6.out.size)⟩); obtain ⟨A3, c3, e3⟩ := Kd.R_slice hr3; subst e3; have HR3 := Aside0.mk hr3; have HN63 := Aside0.mk (Kd.N_below (Kd.N_drew HN6.out) hb3); clear hr3 hb3)
                    | (refine Kd.N_append_step kS (w0 := wi) wi.heap.size (by rfl) (.tmp 43) (.tmp 54) 98 22 (.slice none 0 0) 24 (by rfl) Try.underlying98 infoRow rfl (by decide) (by omega) (.slice A6 q6 c6) XS (mergeP xi xj) [.slice A3 (mergeP xi xj).length c3] (okP P0 w.heap.size) (fun k => wr.heap.size ≤ k) (by rfl) (by rfl) (Kd.FK_slice_mk (Kd.R_reads' HR3.out).2.1 (Kd.R_F HR3.out)) (fun k hk => ⟨.inr (Nat.le_trans NB.out.size (Nat.le_trans NB6.out.size hk)), fun e => by have := HN6L.out k e.symm; omega⟩) (fun k hk => .inr (Nat.le_trans NB.out.size (Nat.le_trans HB3.out.size hk))) HN63.out HB3.out HB3.out.size (by rw [← HQ6.out]; omega) ?_; intro v5 w5 hn5 hb5 hg5 hat5; have HN5 := Aside0.mk hn5; have HB5 := Aside0.mk hb5; clear hn5 hb5 hg5 hat5))
                go_wp2_with (fail)
                obtain ⟨A7, c7, e7⟩ := Kd.N_slice HN5.out
                obtain ⟨r7, hr7⟩ : ∃ r, r = (XS ++ [mergeP xi xj]).length := ⟨_, rfl⟩
                go_roundg (ps.length - i)
                case rel => exact ⟨i + 2, A7, c7, by rw [e7, HTW.out], by go_num, by omega, ⟨by have := HE.out; omega⟩, by omega, ⟨by rw [HTW.out, ← e7]; exact HN5.out⟩, HB5⟩
                case measure => omega
              · have d4 : decide ((i : Int) + 1 < (ps.length : Int)) = false := decide_eq_false (by omega)
                have d5 : decide (i + 1 < ps.length) = false := decide_eq_false (by omega)
                obtain ⟨xi, hxi⟩ : ∃ x, x = ps[i]'hlt := ⟨_, rfl⟩
                rw [← hxi] at hV6 hci
                have HTW := Aside0.mk (show pairUp (ps.take (i + 2)) = pairUp (ps.take i) ++ [xi] by
                  rw [List.take_of_length_le (by omega), hxi, ← pairUp_one _ _ htl, ← List.take_succ_eq_append_getElem hlt, List.take_of_length_le (by omega)])
                have HVi := Aside0.mk (Kd.V_below hV NB6.out)
                rw [← hxi] at HVi
                obtain ⟨XS, hXS⟩ : ∃ X, X = pairUp (ps.take i) := ⟨_, rfl⟩
                rw [← hXS] at HTW HN6 hq6 ⊢
                rw [← hq6] at HN6 ⊢
                have HQ6 := Aside0.mk hq6
                have h6b := Kd.N_base HN6.out
                have H6B := Aside0.mk h6b
                clear hV hV6 hxi hXS hq6 htl hcell h6b
                go_wp2_with (first
                  | ((with_reducible refine gate_builtin (b := .append) (xs := #[.tmp 56, .tmp 61]) rfl ?_); at_builtin; refine Kd.N_append kS (w0 := wi) wi.heap.size rfl (.tmp 56) (.tmp 61) 98 22 (.slice none 0 0) 24 rfl Try.underlying98 infoRow rfl (by decide) (by omega) (.slice A6 q6 c6) XS xi [.slice Ai xi.length ci] (okP P0 w.heap.size) (fun k => okP P0 w.heap.size k ∧ k < wi.heap.size) rfl rfl ?aP ?aK ?aF ?aO ?aB ?aS ?aL ?_; (case aP => exact Kd.FK_slice_mk (Kd.V_at HVi.out).2.1 (Kd.V_at HVi.out).2.2); (case aK => exact fun k hk => ⟨hk.1, fun e => by have := H6B.out k e.symm; omega⟩); (case aF => exact fun k hk => .inr (Nat.le_trans NB.out.size (Nat.le_trans NB6.out.size hk))); (case aO => exact HN6.out); (case aB => exact NB6.out); (case aS => exact NB6.out.size); (case aL => rw [← HQ6.out]; omega); intro v5 w5 hn5 hb5 hg5 hat5; have HN5 := Aside0.mk hn5; have HB5 := Aside0.mk hb5; clear hn5 hb5 hg5 hat5))
                obtain ⟨A7, c7, e7⟩ := Kd.N_slice HN5.out
                go_roundg (ps.length - i)
                case rel => exact ⟨i + 2, A7, c7, by rw [e7, HTW.out], by go_num, by omega, ⟨by have := HE.out; omega⟩, by omega, ⟨by rw [HTW.out, ← e7]; exact HN5.out⟩, HB5⟩
                case measure => omega
            · have d3 : decide (i < ps.length) = false := decide_eq_false hlt
              have HT := Aside0.mk (show pairUp (ps.take i) = pairUp ps by rw [List.take_of_length_le (by omega)])
              rw [HT.out] at HN6 ⊢
              have HBB := Aside0.mk (NB.out.trans ⟨NB6.out.os, NB6.out.tape, NB6.out.output, NB6.out.size, fun k hk => NB6.out.block k (Nat.lt_of_lt_of_le hk NB.out.size)⟩)
              have HPU := Aside0.mk (pairUp_len ps)
              go_wp2_with (fail)
              go_roundg (pairUp ps).length
              case rel => exact ⟨pairUp ps, A6, c6, rfl, rfl, by have := HPU.out; have := HPK.out; omega, ⟨HP.out.up⟩, ⟨Kd.N_lower HN6.out NB.out.size⟩, HBB⟩
              case measure => have := HPU.out; have := HPK.out; omega
        · have d2 : decide ((1 : Int) < (ps.length : Int)) = false := decide_eq_false (by omega)
          by_cases h0 : ps.length = 0
          · have d3 : ((ps.length : Int) == 0) = true := beq_iff_eq.mpr (by omega)
            have hp0 : ps = [] := List.eq_nil_of_length_eq_zero h0
            have HS := Aside0.mk (show sortP l = [] by rw [(HP.out.none' hp0)]; unfold sortP; exact List.mergeSort_nil)
            clear h0 hp0
            go_wp2_with (fail)
            go_ret2
            exact ⟨.slice none 0 0, rfl, by rw [HS.out]; exact Kd.V_nil _ _ _ _ _, NB.out⟩
          · have d3 : ((ps.length : Int) == 0) = false := beq_eq_false_iff_ne.mpr (by omega)
            have h01 : 0 < ps.length := by omega
            obtain ⟨g, Ai, ci, hA, hBg, hcell, hV⟩ := part_at HN.out 0 h01
            have HS := Aside0.mk (show ps[0] = sortP l from (HP.out.one' (by omega) h01))
            rw [HS.out] at hV hcell
            have HVV := Aside0.mk hV
            subst hA
            obtain ⟨sl, hsl⟩ : ∃ x, x = (sortP l).length := ⟨_, rfl⟩
            rw [← hsl] at hcell
            have HSL := Aside0.mk hsl
            clear h0 hV hsl
            go_wp2_with (fail)
            go_ret2
            exact ⟨_, rfl, by rw [HSL.out]; exact Kd.V_mono HVV.out (fun k hk => by rcases hk.1 with q | q; exact .inl q.1; exact .inr q), NB.out⟩
    | succ k1 =>
      have hlt : i < l.length := by omega
      have d1 : decide (i < l.length) = true := decide_eq_true hlt
      have hCw := (Kd.V_reads' (Kd.V_below HV.out NB.out)).2.2
      obtain ⟨ad, hA, -⟩ := Kd.at_int hCw (i : Int) (by omega) (by omega)
      obtain ⟨x, hx⟩ : ∃ x, x = l[i] := ⟨_, rfl⟩
      have hF := Kd.F_mid (lo := i) (hi := i + 1) (Kd.V_at (Kd.V_below HV.out NB.out)).2.2 (by omega) (by omega) HCAP.out
      rw [drop_one hlt, ← hx, if_neg (by have := HCAP.out; omega), hA, show (Option.map (fun a => Addr.add a (i * (Kd.int .i64).sz)) (some ad)) = some (ad.add i) by show some (ad.add (i * 1)) = _; rw [Nat.mul_one]] at hF
      have HFK := Aside0.mk (Kd.FK_slice_mk (e := 2) (c := 1) (Nat.le_refl _) hF)
      have hms := map_succ hlt
      rw [← hx] at hms
      obtain ⟨XS, hXS⟩ : ∃ q, q = (l.take i).map (fun x => [x]) := ⟨_, rfl⟩
      have hXL : XS.length = i := by rw [hXS, List.length_map, List.length_take]; omega
      rw [← hXS] at hms HN
      have HMS := Aside0.mk hms
      have HXL := Aside0.mk hXL
      subst hA
      have hsl := run_one (P := Try.prog) 22 2 i22 Try.underlying22 HI.out.1 HI.out.2 ad l.length c i hlt HCAP.out
      clear hCw hx hF hms hXS hXL
      go_wp2_with (first
        | ((with_reducible refine gate_builtin (b := .append) (xs := #[.tmp 18, .tmp 26]) rfl ?_); at_builtin; refine Kd.N_append kS (w0 := w) w.heap.size rfl (.tmp 18) (.tmp 26) 98 22 (.slice none 0 0) 24 rfl Try.underlying98 infoRow rfl (by decide) (by omega) (.slice A4 i c4) XS [x] [.slice (some (ad.add i)) 1 1] (okP P0 w.heap.size) (fun k => P0 k ∧ k < w.heap.size) rfl rfl ?aP ?aK ?aF ?aO ?aB ?aS ?aL ?_; (case aP => exact HFK.out); (case aK => exact fun k hk => ⟨.inl hk, fun e => by have := Kd.N_base HN.out k e.symm; omega⟩); (case aF => exact fun k hk => .inr (Nat.le_trans NB.out.size hk)); (case aO => exact HN.out); (case aB => exact NB.out); (case aS => exact NB.out.size); (case aL => rw [HXL.out]; omega); intro v5 w5 hn5 hb5 hg5 hat5; obtain ⟨A5, c5, e5⟩ := Kd.N_slice hn5; rw [List.length_append, HXL.out, List.length_singleton] at e5; subst e5; rw [← HMS.out] at hn5; have HN5 := Aside0.mk hn5; have HB5 := Aside0.mk hb5; clear hn5 hb5 hg5 hat5))
      go_roundg k1
      case rel => exact ⟨i + 1, A5, c5, rfl, by go_num, by omega, HN5, HB5⟩
      case measure => omega
end Go.Proofs.Ythnihjfdmkfkiaa.Q

namespace Go.Proofs.Ythnihjfdmkfkiaa.Q
open Go.RowKit Go.Proofs.YthnihjfdmkfkiaaW.PrintWords Go.Proofs.YthnihjfdmkfkiaaW.PrintLast Go.Proofs.YthnihjfdmkfkiaaW.PrintMore Go.Proofs.YthnihjfdmkfkiaaV
set_option linter.unusedVariables false
set_option linter.unusedSimpArgs false

theorem infoInt : (Try.prog.info? 3).map (fun i => (i.zero, i.size, i.bytes)) = some (some (.int .i64 0), 1, 8) := by kernel_rfl
def ltB (v b : Int) : Bool := decide (v < b)
theorem bins1 (v b : Int) (g : Nat) (w : World) (hc : w.cell? ⟨g, 0, none⟩ = some (.int .i64 v)) : Calls Try.prog 51 #[.int .i64 b, .pointer (some ⟨g, 0, none⟩)] w fun e w' => e = .returned (.bool (ltB v b)) ∧ w = w' := by
  unfold ltB
  go_enter Try.func51, Try.ntmps51
  go_wp2
  go_ret
  exact ⟨rfl, rfl⟩
set_option maxHeartbeats 1600000 in
theorem index_lt {w : World} {A : Option Addr} {c : Nat} {l : List Int} {v : Int} {g : Nat} (h : Kd.C (Kd.int .i64) w A l.length l) (hl : l.length ≤ 1048576) (hg : w.cell? ⟨g, 0, none⟩ = some (.int .i64 v)) :
    Calls Try.prog 50 #[.slice A l.length c, .func (.func 51) #[] #[.pointer (some ⟨g, 0, none⟩)]] w fun e w' => e = .returned (.int .i64 (idxF (ltB v) l)) ∧ w = w' := by
  obtain ⟨r, hr⟩ : ∃ r, r = idxF (ltB v) l := ⟨_, rfl⟩
  rw [← hr]
  have HR := Aside0.mk hr
  have HC := Aside0.mk h
  have HG := Aside0.mk hg
  clear h hr hg
  go_enter Try.func50, Try.ntmps50
  go_wp2_with (fail)
  go_loopg [8] l.length (fun kq v8 w' => ∃ i : Nat, v8 = .int .i64 i ∧ i + kq = l.length ∧ Aside0 (∀ j : Nat, j < i → ∀ y, l[j]? = some y → ltB v y = false) ∧ w' = w)
  case atStart => exact ⟨0, rfl, by omega, ⟨fun j hj => by omega⟩, rfl⟩
  case round =>
    obtain ⟨i, rfl, hik, HN, rfl⟩ := hrel
    cases gk with
    | zero =>
      obtain rfl : i = l.length := by omega
      have d1 : decide (l.length < l.length) = false := decide_eq_false (by omega)
      have E := Aside0.mk (show r = -1 by rw [HR.out]; exact idxF_none (fun j x hx => HN.out j (List.getElem?_eq_some_iff.1 hx).1 x hx))
      go_wp2_with (fail)
      go_ret
      rw [E.out]
      exact ⟨rfl, rfl⟩
    | succ k1 =>
      have hlt : i < l.length := by omega
      have d1 : decide (i < l.length) = true := decide_eq_true hlt
      obtain ⟨ad, hA, hc⟩ := Kd.at_int HC.out (i : Int) (by omega) (by omega)
      obtain ⟨x, hx⟩ : ∃ x, x = l[i] := ⟨_, rfl⟩
      have hx2 : l[i]? = some x := by rw [hx]; exact List.getElem?_eq_getElem hlt
      rw [show rd l (i : Int) = x by unfold rd; rw [Int.toNat_natCast, hx]; simp [List.getD_eq_getElem?_getD, hlt]] at hc
      rw [Int.toNat_natCast] at hc
      subst hA
      obtain ⟨b, hb⟩ : ∃ b, b = ltB v x := ⟨_, rfl⟩
      have HS := Aside0.mk (bins1 v x g wr HG.out)
      rw [← hb] at HS
      cases b with
      | true =>
        have E := Aside0.mk (show r = (i : Int) by rw [HR.out]; exact idxF_some hx2 hb.symm HN.out)
        clear hx hx2 hb
        go_wp2_with (first | (go_at_call 51; (with_reducible refine (HS.out).mono ?_); rintro e w1 ⟨rfl, rfl⟩))
        go_ret
        rw [E.out]
        exact ⟨rfl, rfl⟩
      | false =>
        have HN2 := Aside0.mk (show ∀ j : Nat, j < i + 1 → ∀ y, l[j]? = some y → ltB v y = false from fun j hj y hy => by
          by_cases e : j = i
          · subst e; rw [hx2] at hy; injection hy with hy; subst hy; exact hb.symm
          · exact HN.out j (by omega) y hy)
        clear hx hx2 hb HN
        go_wp2_with (first | (go_at_call 51; (with_reducible refine (HS.out).mono ?_); rintro e w1 ⟨rfl, rfl⟩))
        go_roundg k1
        case rel => exact ⟨i + 1, by go_num, by omega, HN2, rfl⟩
        case measure => omega
/-- The bin of a sample: the first bound above it, or the last bin. -/
def binOf (bs : List Int) (v : Int) : Nat := (bs.findIdx? (ltB v)).getD bs.length
theorem binOf_le (bs : List Int) (v : Int) : binOf bs v ≤ bs.length := by
  unfold binOf
  cases h : bs.findIdx? (ltB v) with
  | none => exact Nat.le_refl _
  | some i => have := (List.findIdx?_eq_some_iff_getElem.1 h).1; exact Nat.le_of_lt this
/-- How many in each bin. -/
def counts (bs l : List Int) : List Int := (List.range (bs.length + 1)).map (fun k => ((l.countP (fun v => binOf bs v == k) : Nat) : Int))
theorem counts_len (bs l : List Int) : (counts bs l).length = bs.length + 1 := by simp [counts]
theorem counts_nil (bs : List Int) : counts bs [] = List.replicate (bs.length + 1) 0 := by
  apply List.ext_getElem?
  intro j
  simp only [counts, List.getElem?_map, List.getElem?_replicate, List.countP_nil]
  by_cases h : j < bs.length + 1
  · simp [h]
  · simp [h]
theorem counts_get (bs l : List Int) (k : Nat) (hk : k ≤ bs.length) : (counts bs l)[k]? = some ((l.countP (fun v => binOf bs v == k) : Nat) : Int) := by
  simp [counts, List.getElem?_range (show k < bs.length + 1 by omega)]
theorem counts_snoc (bs l : List Int) (v : Int) : counts bs (l ++ [v]) = (counts bs l).set (binOf bs v) (rd (counts bs l) (binOf bs v) + 1) := by
  apply List.ext_getElem?
  intro j
  by_cases h : j ≤ bs.length
  · rw [counts_get _ _ j h, List.getElem?_set]
    have hb := binOf_le bs v
    by_cases e : binOf bs v = j
    · subst e
      rw [if_pos rfl, if_pos (by rw [counts_len]; omega), List.countP_append]
      have := counts_get bs l (binOf bs v) hb
      unfold rd
      rw [Int.toNat_natCast, List.getD_eq_getElem?_getD, this]
      simp
    · rw [if_neg e, counts_get _ _ j h, List.countP_append]
      simp [List.countP_cons, e]
  · rw [List.getElem?_eq_none (by rw [counts_len]; omega), List.getElem?_eq_none (by rw [List.length_set, counts_len]; omega)]
theorem counts_le (bs l : List Int) (k : Nat) (hk : k ≤ bs.length) : 0 ≤ rd (counts bs l) k ∧ rd (counts bs l) k ≤ l.length := by
  unfold rd
  rw [Int.toNat_natCast, List.getD_eq_getElem?_getD, counts_get bs l k hk]
  have := List.countP_le_length (p := fun v => binOf bs v == k) (l := l)
  simp only [Option.getD_some]
  omega
def riseB (bs : List Int) : Prop := 1 ≤ bs.length ∧ bs.length ≤ 32 ∧ 0 ≤ rd bs 0 ∧ ∀ j : Nat, j + 1 < bs.length → rd bs j < rd bs (j + 1 : Nat)
theorem V_in {w : World} {A : Option Addr} {c : Nat} {l : List Int} (h : Kd.C (Kd.int .i64) w A l.length l) (hc : l.length ≤ c) : Kd.V (Kd.int .i64) 2 w w.heap.size (fun k => k < w.heap.size) (.slice A l.length c) l := Kd.V_mk hc (Kd.C_F (Kd.heap_int _) h)
theorem cell_rd {w : World} {A : Option Addr} {l : List Int} (h : Kd.C (Kd.int .i64) w A l.length l) {i : Nat} (hi : i < l.length) : ∃ ad, A = some ad ∧ w.cell? (ad.add i) = some (.int .i64 (rd l (i : Nat))) := by
  obtain ⟨ad, hA, hc⟩ := Kd.at_int h (i : Int) (by omega) (by omega)
  rw [Int.toNat_natCast] at hc
  exact ⟨ad, hA, hc⟩
theorem blk_lt_of {w : World} {B g n c : Nat} {e : Nat} {ok : Nat → Prop} {xs : List Int} (h : Kd.R (Kd.int .i64) e w B ok (.slice (some ⟨g, 0, none⟩) n c) xs) : g < w.heap.size := Kd.R_lt h g (by simp [Value.ownBlock])
/-- The bounds' test. -/
def bnd (bs : List Int) : Prop := riseB bs
theorem bins_not {w : World} {A : Option Addr} {c : Nat} {l : List Int} {A1 : Option Addr} {c1 : Nat} {bs : List Int} (h : Kd.C (Kd.int .i64) w A l.length l) (hl : l.length ≤ 1048576) (hs : ¬ ∀ x ∈ l, smp x) :
    Calls Try.prog 23 #[.slice A l.length c, .slice A1 bs.length c1] w fun e w' => e = .returned (.tuple #[.slice none 0 0, .int .i64 93]) ∧ w = w' := by
  have HN := Aside0.mk (sorted_not (c := c) h hl hs)
  clear h hs
  go_enter Try.func23, Try.ntmps23
  go_wp2_with (first | (go_at_call 29; (with_reducible refine (HN.out).mono ?_); rintro e w1 ⟨rfl, rfl⟩))
  go_ret2
  exact ⟨rfl, rfl⟩
set_option maxHeartbeats 6400000 in
set_option maxRecDepth 8000 in
theorem timer_Bins (HM : MergeOk) {w : World} {A : Option Addr} {c : Nat} {l : List Int} {A1 : Option Addr} {c1 : Nat} {bs : List Int} (h : Kd.C (Kd.int .i64) w A l.length l) (hc : l.length ≤ c) (hl : l.length ≤ 1048576) (hs : ∀ x ∈ l, smp x)
    (h1 : Kd.C (Kd.int .i64) w A1 bs.length bs) (hl1 : bs.length ≤ 1048576) (R : List Int) (E : Int) (hr : (riseB bs ∧ R = counts bs l ∧ E = 0) ∨ (¬ riseB bs ∧ R = [] ∧ E = 92)) :
    Calls Try.prog 23 #[.slice A l.length c, .slice A1 bs.length c1] w fun e w' => ∃ v, e = .returned (.tuple #[v, .int .i64 E]) ∧ Kd.R (Kd.int .i64) 3 w' w.heap.size (fun k => w.heap.size ≤ k) v R ∧ Below w.heap.size w w' := by
  have HST := Aside0.mk (timer_sorted HM (V_in h hc) hl hs)
  have HC0 := Aside0.mk h
  have HC1 := Aside0.mk h1
  have BAD : ¬ riseB bs → R = [] ∧ E = 92 := fun hn => by
    rcases hr with q | q
    · exact (hn q.1).elim
    · exact q.2
  have HBAD := Aside0.mk BAD
  have HR := Aside0.mk hr
  clear h h1 hs HM hc BAD hr
  by_cases g0 : bs.length = 0
  · have d0 : ((bs.length : Int) == 0) = true := beq_iff_eq.mpr (by omega)
    obtain ⟨rfl, rfl⟩ := HBAD.out (fun q => by have := q.1; omega)
    clear g0
    go_enter Try.func23, Try.ntmps23
    go_wp2_with (first | (go_at_call 29; (with_reducible refine (HST.out).mono ?_); rintro e w1 ⟨v, rfl, -, hb⟩; have HB1 := Aside0.mk hb; clear hb))
    go_ret2
    exact ⟨_, rfl, Kd.R_nil _ _ _ _ _, HB1.out⟩
  have d0 : ((bs.length : Int) == 0) = false := beq_eq_false_iff_ne.mpr (by omega)
  by_cases g1 : 32 < bs.length
  · have d1 : decide ((32 : Int) < (bs.length : Int)) = true := decide_eq_true (by omega)
    obtain ⟨rfl, rfl⟩ := HBAD.out (fun q => by have := q.2.1; omega)
    clear g0 g1
    go_enter Try.func23, Try.ntmps23
    go_wp2_with (first | (go_at_call 29; (with_reducible refine (HST.out).mono ?_); rintro e w1 ⟨v, rfl, -, hb⟩; have HB1 := Aside0.mk hb; clear hb))
    go_ret2
    exact ⟨_, rfl, Kd.R_nil _ _ _ _ _, HB1.out⟩
  have d1 : decide ((32 : Int) < (bs.length : Int)) = false := decide_eq_false (by omega)
  have hpos : 0 < bs.length := by omega
  have hb32 : bs.length ≤ 32 := by omega
  obtain ⟨ad, hA, c0⟩ := cell_rd HC1.out hpos
  subst hA
  obtain ⟨f0, hf0⟩ : ∃ x, x = rd bs ((0 : Nat) : Int) := ⟨_, rfl⟩
  rw [← hf0] at c0
  have c0' : w.cell? ad = some (.int .i64 f0) := by have := c0; rwa [show ad.add 0 = ad by simp [Addr.add]] at this
  have C0 := Aside0.mk c0
  have HF0 := Aside0.mk hf0
  clear c0 c0' hf0 g0 g1
  by_cases g2 : f0 < 0
  · have d2 : decide (f0 < 0) = true := decide_eq_true g2
    obtain ⟨rfl, rfl⟩ := HBAD.out (fun q => by have := q.2.2.1; have e := HF0.out; rw [Int.natCast_zero] at e; omega)
    clear g2
    go_enter Try.func23, Try.ntmps23
    go_wp2_with (first | (go_at_call 29; (with_reducible refine (HST.out).mono ?_); rintro e w1 ⟨v, rfl, -, hb⟩; have HB1 := Aside0.mk hb; have k0 := pw_cell_below hb C0.out; have k1 : w1.cell? ad = some (.int .i64 f0) := (by rw [show ad.add 0 = ad by simp [Addr.add]] at k0; exact k0); clear hb))
    go_ret2
    exact ⟨_, rfl, Kd.R_nil _ _ _ _ _, HB1.out⟩
  have d2 : decide (f0 < 0) = false := decide_eq_false g2
  go_enter Try.func23, Try.ntmps23
  go_wp2_with (first | (go_at_call 29; (with_reducible refine (HST.out).mono ?_); rintro e w1 ⟨v, rfl, -, hb⟩; have HB1 := Aside0.mk hb; have k0 := pw_cell_below hb C0.out; have k1 : w1.cell? ad = some (.int .i64 f0) := (by rw [show ad.add 0 = ad by simp [Addr.add]] at k0; exact k0); clear hb))
  go_loopg [37] bs.length (fun kq v37 w' => ∃ i : Nat, v37 = .int .i64 i ∧ i + kq = bs.length ∧ 0 < kq ∧ Aside0 (∀ j : Nat, j < i → rd bs j < rd bs (j + 1 : Nat)) ∧ Aside0 (Below w.heap.size w w'))
  case atStart => exact ⟨0, rfl, by omega, hpos, ⟨fun j hj => by omega⟩, HB1⟩
  case round =>
    clear HB1 k0 k1
    obtain ⟨i, rfl, hik, hk0, HJ, NB⟩ := hrel
    by_cases hlt : i + 1 < bs.length
    · have e1 : decide ((i : Int) < (bs.length : Int) - 1) = true := decide_eq_true (by omega)
      obtain ⟨ad', hA, ci⟩ := cell_rd (Kd.C_below HC1.out NB.out) (show i < bs.length by omega)
      injection hA with hA
      subst hA
      obtain ⟨ad', hA, cj⟩ := cell_rd (Kd.C_below HC1.out NB.out) hlt
      injection hA with hA
      subst hA
      obtain ⟨bi, hbi⟩ : ∃ x, x = rd bs (i : Nat) := ⟨_, rfl⟩
      obtain ⟨bj, hbj⟩ : ∃ x, x = rd bs (i + 1 : Nat) := ⟨_, rfl⟩
      rw [← hbi] at ci
      rw [← hbj] at cj
      rw [show ad.add (i + 1) = ⟨ad.block, ad.off + (i + 1), none⟩ by unfold Addr.add; simp] at cj
      have i0 : (0 : Int) ≤ (i : Int) := by omega
      have i1 : (i : Int) < (bs.length : Int) := by omega
      have i2 : (0 : Int) ≤ (i : Int) + 1 := by omega
      have i3 : (i : Int) + 1 < (bs.length : Int) := by omega
      have i4 : IntKind.i64.wrap ((i : Int) + 1) = (i : Int) + 1 := IntWalk.i64_in _ (by omega)
      have i5 : ((i : Int) + 1).toNat = i + 1 := by omega
      have HBI := Aside0.mk (And.intro hbi hbj)
      clear hbi hbj
      by_cases hbb : bj ≤ bi
      · have e2 : decide (bj ≤ bi) = true := decide_eq_true hbb
        obtain ⟨rfl, rfl⟩ := HBAD.out (fun q => by
          have := q.2.2.2 i hlt
          rw [← HBI.out.1, ← HBI.out.2] at this
          omega)
        clear hbb
        go_upto_region 9 with (fail)
        go_quiet (fail)
        go_wp2_with (fail)
        go_ret2
        exact ⟨_, rfl, Kd.R_nil _ _ _ _ _, pw_below_drewN NB.out _⟩
      · have e2 : decide (bj ≤ bi) = false := decide_eq_false hbb
        have HJ2 := Aside0.mk (show ∀ j : Nat, j < i + 1 → rd bs j < rd bs (j + 1 : Nat) from fun j hj => by
          by_cases e : j = i
          · subst e
            rw [← HBI.out.1, ← HBI.out.2]
            omega
          · exact HJ.out j (by omega))
        clear hbb
        go_upto_region 9 with (fail)
        go_quiet (fail)
        go_wp2_with (fail)
        go_roundg (gk - 1)
        case rel => exact ⟨i + 1, by go_num, by omega, by omega, HJ2, ⟨pw_below_drewN NB.out _⟩⟩
        case measure => omega
    · have e1 : decide ((i : Int) < (bs.length : Int) - 1) = false := decide_eq_false (by omega)
      have RISE : riseB bs := ⟨hpos, hb32, by have e := HF0.out; rw [Int.natCast_zero] at e; omega, fun j hj => HJ.out j (by omega)⟩
      obtain ⟨rfl, rfl⟩ : R = counts bs l ∧ E = 0 := by
        rcases HR.out with q | q
        · exact q.2
        · exact (q.1 RISE).elim
      clear RISE
      obtain ⟨wo, hwo⟩ : ∃ a, a = wr := ⟨_, rfl⟩
      subst hwo
      go_wp2_with (first
        | ((with_reducible refine gate_dst (N := 54) rfl ?_); refine Kd.R_make (Kd.int .i64) (w0 := w) w.heap.size 3 rfl (N := 54) rfl 47 _ _ rfl ((bs.length : Int) + 1) rfl rfl Try.underlying47 (.int .i64 0) 8 infoInt rfl (by decide) (by omega) (0 : Int) (ok := fun k => w.heap.size ≤ k) (okp := fun _ => False) rfl (fun _ hk => hk.elim) NB.out.size (by omega) (by omega) NB.out NB.out.size ?_; intro v1 w2 hr hb hg hat; obtain ⟨A2, c2, e2⟩ := Kd.R_slice hr; rw [List.length_replicate, show ((bs.length : Int) + 1).toNat = bs.length + 1 by omega] at e2; subst e2; rw [show ((bs.length : Int) + 1).toNat = bs.length + 1 by omega, ← counts_nil] at hr; have HR2 := Aside0.mk hr; have HB2 := Aside0.mk hb; clear hr hb hg hat))
      obtain ⟨go_, cap, e, hgB, hgl, -⟩ := Kd.R_form HR2.out (by rw [counts_len]; omega)
      rw [counts_len] at e
      injection e with e e' e''
      subst e
      subst e''
      go_loopg [57] l.length (fun kq v57 w' => ∃ i : Nat, v57 = .int .i64 i ∧ i + kq = l.length ∧ Aside0 (Kd.R (Kd.int .i64) 3 w' w.heap.size (fun k => w.heap.size ≤ k) (.slice (some ⟨go_, 0, none⟩) (bs.length + 1) c2) (counts bs (l.take i))) ∧ Aside0 (Below w.heap.size w w'))
      case atStart => exact ⟨0, rfl, by omega, HR2, HB2⟩
      case round =>
        clear HR2 HB2
        obtain ⟨i, rfl, hik, HR, NB⟩ := hrel
        cases gk with
        | zero =>
          obtain rfl : i = l.length := by omega
          have d4 : decide (l.length < l.length) = false := decide_eq_false (by omega)
          have HR0 := HR.out
          rw [List.take_length] at HR0
          have HRR := Aside0.mk HR0
          clear HR0
          go_wp2_with (fail)
          go_ret2
          exact ⟨_, rfl, HRR.out, NB.out⟩
        | succ k1 =>
          have hlt : i < l.length := by omega
          have d4 : decide (i < l.length) = true := decide_eq_true hlt
          obtain ⟨ad2, hA2, hc⟩ := cell_rd (Kd.C_below HC0.out NB.out) hlt
          subst hA2
          obtain ⟨x, hx⟩ : ∃ x, x = l[i] := ⟨_, rfl⟩
          rw [show rd l (i : Int) = x by unfold rd; rw [Int.toNat_natCast, hx]; simp [List.getD_eq_getElem?_getD, hlt]] at hc
          have HNX := Aside0.mk (show counts bs (l.take (i + 1)) = (counts bs (l.take i)).set (binOf bs x) (rd (counts bs (l.take i)) (binOf bs x) + 1) by rw [List.take_succ_eq_append_getElem hlt, ← hx, counts_snoc])
          have hbl := binOf_le bs x
          have hcr := counts_le bs (l.take i) (binOf bs x) hbl
          have hti : (l.take i).length ≤ 1048576 := by rw [List.length_take]; omega
          obtain ⟨at_, hat⟩ : ∃ a, a = binOf bs x := ⟨_, rfl⟩
          obtain ⟨cv, hcv⟩ : ∃ a, a = rd (counts bs (l.take i)) (binOf bs x) := ⟨_, rfl⟩
          rw [← hcv, ← hat] at HNX
          rw [← hcv] at hcr
          rw [← hat] at hbl
          have hce := Kd.R_celln 0 HR.out (at_ : Int) (by omega) (by omega)
          rw [Int.toNat_natCast, show rdOf (0 : Int) (counts bs (l.take i)) (at_ : Int) = cv by rw [hcv, hat]; rfl] at hce
          have hlen : go_ < wr.heap.size := blk_lt_of HR.out
          have hrp := Kd.R_putn HR.out (at_ : Int) (cv + 1)
          rw [Int.toNat_natCast] at hrp
          have HRP := Aside0.mk (fun (o : Obj) => Kd.R_alloc hrp o)
          have HBP := Aside0.mk (fun (o : Obj) => (NB.out.setCell (p := ⟨go_, at_, none⟩) hgB (.int .i64 (cv + 1))).alloc (by simp; exact NB.out.size) o)
          clear hrp
          have HIX := Aside0.mk (index_lt (c := c1) (v := x) (g := wr.heap.size) (Kd.C_alloc (Kd.C_below HC1.out NB.out) (.cells #[.int .i64 x] 2 (0, 0))) hl1 (by rw [blk_cell (heap_alloc_new wr _)]; rfl))
          have ce1 : (wr.alloc (.cells #[.int .i64 x] 2 (0, 0))).cell? ⟨go_, at_, none⟩ = some (.int .i64 cv) := by rw [cell_same (Below.heap_alloc _ _ _ hlen)]; exact hce.1
          have ce2 : (wr.alloc (.cells #[.int .i64 x] 2 (0, 0))).frozen? ⟨go_, at_, none⟩ = false := by
            have := hce.2
            unfold World.frozen? at this ⊢
            rw [show (wr.alloc (.cells #[.int .i64 x] 2 (0, 0))).heap[({ block := go_, off := at_, spot := none } : Addr).block]? = wr.heap[({ block := go_, off := at_, spot := none } : Addr).block]? from Below.heap_alloc _ _ _ hlen]
            exact this
          have hcr1 : (0 : Int) ≤ cv := hcr.1
          have hcr2 : cv ≤ 1048576 := by omega
          have i0 : (0 : Int) ≤ (at_ : Int) := by omega
          have i1 : (at_ : Int) < (bs.length : Int) + 1 := by omega
          have i6 : (at_ : Int) < ((bs.length + 1 : Nat) : Int) := by omega
          have HIF := Aside0.mk (show (idxF (ltB x) bs = -1 ∧ at_ = bs.length) ∨ idxF (ltB x) bs = (at_ : Int) by
            rw [hat]
            unfold idxF binOf
            cases bs.findIdx? (ltB x) with
            | none => exact .inl ⟨rfl, rfl⟩
            | some q => exact .inr rfl)
          obtain ⟨ix, hix⟩ : ∃ q, q = idxF (ltB x) bs := ⟨_, rfl⟩
          rw [← hix] at HIX HIF
          have hw : i < 1048576 := by omega
          clear hx hat hcv hce hcr hti hix hbl hl
          rcases HIF.out with ⟨e1, e2⟩ | e1
          · subst e1
            subst e2
            go_wp2_with (first | (go_at_call 50; (with_reducible refine (HIX.out).mono ?_); rintro e w3 ⟨rfl, rfl⟩))
            go_roundg k1
            case rel => exact ⟨i + 1, by go_num, by omega, ⟨by rw [HNX.out]; exact HRP.out _⟩, ⟨HBP.out _⟩⟩
            case measure => omega
          · subst e1
            have d6 : decide ((at_ : Int) < 0) = false := decide_eq_false (by omega)
            go_wp2_with (first | (go_at_call 50; (with_reducible refine (HIX.out).mono ?_); rintro e w3 ⟨rfl, rfl⟩))
            go_roundg k1
            case rel => exact ⟨i + 1, by go_num, by omega, ⟨by rw [HNX.out]; exact HRP.out _⟩, ⟨HBP.out _⟩⟩
            case measure => omega
end Go.Proofs.Ythnihjfdmkfkiaa.Q

namespace Go.Proofs.Ythnihjfdmkfkiaa.Q
open Go.RowKit Go.Proofs.YthnihjfdmkfkiaaW.PrintWords Go.Proofs.YthnihjfdmkfkiaaW.PrintLast Go.Proofs.YthnihjfdmkfkiaaW.PrintMore Go.Proofs.YthnihjfdmkfkiaaV
set_option linter.unusedVariables false
set_option linter.unusedSimpArgs false

/-- The squares of what is off the mean. -/
def sqP (m : Int) (l : List Int) : Int := (l.map (fun v => (v - m) * (v - m))).sum
def meanP (l : List Int) : Int := l.sum / l.length
def devP (l : List Int) : Int := isq (sqP (meanP l) l / l.length)
def medP (l : List Int) : Int := (rd l ((l.length - 1) / 2 : Nat) + rd l (l.length / 2 : Nat)) / 2
/-- What is told of samples by rising numbers. -/
def statA (s : List Int) : Array Value := #[.int .i64 s.length, .int .i64 (hiW s.sum), .int .u64 (loW s.sum), .int .i64 (rd s 0), .int .i64 (rd s (s.length - 1 : Nat)), .int .i64 (meanP s), .int .i64 (medP s), .int .i64 (devP s)]
theorem mean_rng {l : List Int} (h : ∀ x ∈ l, smp x) (h0 : 1 ≤ l.length) : 0 ≤ meanP l ∧ meanP l ≤ 100000000000000 := by
  have hsr := sum_smp h
  unfold meanP
  exact ⟨Int.ediv_nonneg hsr.1 (by omega), by
    have := Int.ediv_le_ediv (c := (l.length : Int)) (by omega) hsr.2
    rw [Int.mul_comm, Int.mul_ediv_cancel _ (by omega)] at this
    exact this⟩
theorem sq_rng {d : Int} (h0 : -100000000000000 ≤ d) (h1 : d ≤ 100000000000000) : 0 ≤ d * d ∧ d * d ≤ 10000000000000000000000000000 := by
  have h : ((d.natAbs : Int) * (d.natAbs : Int)) = d * d := Int.natAbs_mul_self
  rw [← h]
  refine ⟨Int.mul_nonneg (by omega) (by omega), ?_⟩
  have := Int.mul_le_mul (show (d.natAbs : Int) ≤ 100000000000000 by omega) (show (d.natAbs : Int) ≤ 100000000000000 by omega) (by omega) (by omega)
  omega
theorem sqs_rng {l : List Int} {m : Int} (h : ∀ x ∈ l, smp x) (hm : 0 ≤ m ∧ m ≤ 100000000000000) : 0 ≤ sqP m l ∧ sqP m l ≤ l.length * 10000000000000000000000000000 := by
  unfold sqP
  induction l with
  | nil => simp
  | cons x t ih =>
    have h1 := h x (by simp)
    have h2 := ih (fun y hy => h y (by simp [hy]))
    unfold smp at h1
    have h3 := sq_rng (d := x - m) (by omega) (by omega)
    simp only [List.map_cons, List.sum_cons, List.length_cons]
    omega
theorem sq_snoc {l : List Int} {m : Int} {i : Nat} (h : i < l.length) : sqP m (l.take (i + 1)) = sqP m (l.take i) + (l[i] - m) * (l[i] - m) := by
  unfold sqP
  rw [List.take_succ_eq_append_getElem h, List.map_append, List.sum_append]
  simp
theorem smp_sort {l : List Int} (h : ∀ x ∈ l, smp x) : ∀ x ∈ sortP l, smp x := fun x hx => h x ((sortP_perm l).mem_iff.1 hx)
theorem sort_len (l : List Int) : (sortP l).length = l.length := (sortP_perm l).length_eq
theorem rd_smp {l : List Int} (h : ∀ x ∈ l, smp x) {i : Nat} (hi : i < l.length) : smp (rd l (i : Nat)) := by
  unfold rd
  rw [Int.toNat_natCast, List.getD_eq_getElem?_getD, List.getElem?_eq_getElem hi]
  exact h _ (List.getElem_mem hi)
theorem isq_le {v b : Int} (hv : 0 ≤ v) (hb : 0 ≤ b) (h : v ≤ b * b) : isq v ≤ b := by
  obtain ⟨h0, h1, h2⟩ := root_ex hv
  by_cases hh : isq v ≤ b
  · exact hh
  · have := sq_mono (a := b + 1) (b := isq v) (by omega) (by omega)
    have e : (b + 1) * (b + 1) = b * b + 2 * b + 1 := by grind
    omega
theorem of_not {w : World} {A : Option Addr} {c : Nat} {l : List Int} (h : Kd.C (Kd.int .i64) w A l.length l) (hl : l.length ≤ 1048576) (hs : ¬ ∀ x ∈ l, smp x) :
    Calls Try.prog 12 #[.slice A l.length c] w fun e w' => e = .returned (.tuple #[.agg #[.int .i64 0, .int .i64 0, .int .u64 0, .int .i64 0, .int .i64 0, .int .i64 0, .int .i64 0, .int .i64 0], .int .i64 93]) ∧ Below w.heap.size w w' := by
  obtain ⟨W, hW⟩ : ∃ W, W = w.alloc (.cells #[.int .i64 0, .int .i64 0, .int .u64 0, .int .i64 0, .int .i64 0, .int .i64 0, .int .i64 0, .int .i64 0] 27 (0, 0)) := ⟨_, rfl⟩
  have n0 : W.heap[w.heap.size]? = some (.cells #[.int .i64 0, .int .i64 0, .int .u64 0, .int .i64 0, .int .i64 0, .int .i64 0, .int .i64 0, .int .i64 0] 27 (0, 0)) := by rw [hW]; exact heap_alloc_new _ _
  have nb : Below w.heap.size w W := by rw [hW]; exact below_alloc (Below.refl _ _) _
  have HN := Aside0.mk (sorted_not (c := c) (Kd.C_below h nb) hl hs)
  have HW := Aside0.mk hW
  have NB := Aside0.mk nb
  have N0 := Aside0.mk n0
  have c0 := blk_cell n0 0
  have c1 := blk_cell n0 1
  have c2 := blk_cell n0 2
  have c3 := blk_cell n0 3
  have c4 := blk_cell n0 4
  have c5 := blk_cell n0 5
  have c6 := blk_cell n0 6
  have c7 := blk_cell n0 7
  have f0 := blk_frozen n0 0
  have f1 := blk_frozen n0 1
  have f2 := blk_frozen n0 2
  have f3 := blk_frozen n0 3
  have f4 := blk_frozen n0 4
  have f5 := blk_frozen n0 5
  have f6 := blk_frozen n0 6
  have f7 := blk_frozen n0 7
  clear h hs hW n0 nb
  go_enter Try.func12, Try.ntmps12
  go_upto_region 1 with (fail)
  rw [← HW.out]
  go_wp2_with (first | (go_at_call 29; (with_reducible refine (HN.out).mono ?_); rintro e w1 ⟨rfl, rfl⟩))
  have hf := blk_put (blk_put (blk_put (blk_put (blk_put (blk_put (blk_put (blk_put N0.out 0 (.int .i64 0) rfl) 1 (.int .i64 0) rfl) 2 (.int .u64 0) rfl) 3 (.int .i64 0) rfl) 4 (.int .i64 0) rfl) 5 (.int .i64 0) rfl) 6 (.int .i64 0) rfl) 7 (.int .i64 0) rfl
  refine bodyPost_ret (results_ct rfl _ _ w.heap.size 27 _ (0, 0) _ rfl hf Try.underlying27 rfl (by kernel_rfl)) rfl ?_
  exact ⟨rfl, (((((((NB.out.setCell (Nat.le_refl _) _).setCell (Nat.le_refl _) _).setCell (Nat.le_refl _) _).setCell (Nat.le_refl _) _).setCell (Nat.le_refl _) _).setCell (Nat.le_refl _) _).setCell (Nat.le_refl _) _).setCell (Nat.le_refl _) _⟩
theorem of_nil (HM : MergeOk) {w : World} {A : Option Addr} {c : Nat} (h : Kd.C (Kd.int .i64) w A 0 []) (hc : 0 ≤ c) :
    Calls Try.prog 12 #[.slice A 0 c] w fun e w' => e = .returned (.tuple #[.agg #[.int .i64 0, .int .i64 0, .int .u64 0, .int .i64 0, .int .i64 0, .int .i64 0, .int .i64 0, .int .i64 0], .int .i64 90]) ∧ Below w.heap.size w w' := by
  obtain ⟨W, hW⟩ : ∃ W, W = w.alloc (.cells #[.int .i64 0, .int .i64 0, .int .u64 0, .int .i64 0, .int .i64 0, .int .i64 0, .int .i64 0, .int .i64 0] 27 (0, 0)) := ⟨_, rfl⟩
  have n0 : W.heap[w.heap.size]? = some (.cells #[.int .i64 0, .int .i64 0, .int .u64 0, .int .i64 0, .int .i64 0, .int .i64 0, .int .i64 0, .int .i64 0] 27 (0, 0)) := by rw [hW]; exact heap_alloc_new _ _
  have nb : Below w.heap.size w W := by rw [hW]; exact below_alloc (Below.refl _ _) _
  have HN := Aside0.mk (timer_sorted HM (V_in (l := []) (Kd.C_below h nb) hc) (by simp) (by simp))
  have HW := Aside0.mk hW
  have NB := Aside0.mk nb
  have N0 := Aside0.mk n0
  have c0 := blk_cell n0 0
  have c1 := blk_cell n0 1
  have c2 := blk_cell n0 2
  have c3 := blk_cell n0 3
  have c4 := blk_cell n0 4
  have c5 := blk_cell n0 5
  have c6 := blk_cell n0 6
  have c7 := blk_cell n0 7
  have f0 := blk_frozen n0 0
  have f1 := blk_frozen n0 1
  have f2 := blk_frozen n0 2
  have f3 := blk_frozen n0 3
  have f4 := blk_frozen n0 4
  have f5 := blk_frozen n0 5
  have f6 := blk_frozen n0 6
  have f7 := blk_frozen n0 7
  have es : sortP [] = [] := List.mergeSort_nil
  rw [es, List.length_nil] at HN
  clear h hc hW n0 nb es HM c0 c1 c2 c3 c4 c5 c6 c7 f0 f1 f2 f3 f4 f5 f6 f7
  go_enter Try.func12, Try.ntmps12
  go_upto_region 1 with (fail)
  rw [← HW.out]
  go_wp2_with (first | (go_at_call 29; (with_reducible refine (HN.out).mono ?_); rintro e w1 ⟨v, rfl, hv, hb⟩; obtain ⟨A1, c1, ev⟩ := Kd.V_slice hv; rw [List.length_nil] at ev; subst ev; have n1 := (hb.block _ (blk_lt N0.out)).trans N0.out; have N1 := Aside0.mk n1; have HB1 := Aside0.mk (NB.out.trans ⟨hb.os, hb.tape, hb.output, hb.size, fun k hk => hb.block k (Nat.lt_of_lt_of_le hk NB.out.size)⟩); have c0 := blk_cell n1 0; have c1_ := blk_cell n1 1; have c2 := blk_cell n1 2; have c3 := blk_cell n1 3; have c4 := blk_cell n1 4; have c5 := blk_cell n1 5; have c6 := blk_cell n1 6; have c7 := blk_cell n1 7; have f0 := blk_frozen n1 0; have f1 := blk_frozen n1 1; have f2 := blk_frozen n1 2; have f3 := blk_frozen n1 3; have f4 := blk_frozen n1 4; have f5 := blk_frozen n1 5; have f6 := blk_frozen n1 6; have f7 := blk_frozen n1 7; clear hv hb n1))
  have hf := blk_put (blk_put (blk_put (blk_put (blk_put (blk_put (blk_put (blk_put N1.out 0 (.int .i64 0) rfl) 1 (.int .i64 0) rfl) 2 (.int .u64 0) rfl) 3 (.int .i64 0) rfl) 4 (.int .i64 0) rfl) 5 (.int .i64 0) rfl) 6 (.int .i64 0) rfl) 7 (.int .i64 0) rfl
  refine bodyPost_ret (results_ct rfl _ _ w.heap.size 27 _ (0, 0) _ rfl hf Try.underlying27 rfl (by kernel_rfl)) rfl ?_
  exact ⟨rfl, (((((((HB1.out.setCell (Nat.le_refl _) _).setCell (Nat.le_refl _) _).setCell (Nat.le_refl _) _).setCell (Nat.le_refl _) _).setCell (Nat.le_refl _) _).setCell (Nat.le_refl _) _).setCell (Nat.le_refl _) _).setCell (Nat.le_refl _) _⟩
def of18.T : Bool × List (List Nat × List Nat) := (true, [([], []), ([], []), ([1], [1]), ([0, 2, 2], [0, 2]), ([3], [3]), ([4], [4]), ([4], [4]), ([4], [4]), ([], []), ([], []), ([8, 5, 3, 0, 1, 2, 3, 4, 5, 8, 9], [5, 8]), ([9, 6, 10, 0, 1, 2, 3, 4, 5, 6, 8, 9, 10], [6, 9]), ([7, 11, 0, 1, 2, 3, 4, 5, 6, 7, 8, 9, 10, 11], [7])])
def of18.B : List Nat := [0, 0, 2, 7, 15, 31, 31, 31, 0, 0, 831, 1919, 4095]
theorem of18.tab : rtab .any (opsOf Try.f12 18) = of18.T := by kernel_rfl
theorem of18.bits : waitsOk of18.T.2 of18.B = true := by kernel_rfl
set_option maxHeartbeats 6400000 in
set_option maxRecDepth 8000 in
theorem timer_Of (HM : MergeOk) {w : World} {A : Option Addr} {c : Nat} {l : List Int} (h : Kd.C (Kd.int .i64) w A l.length l) (hc : l.length ≤ c) (h0 : 1 ≤ l.length) (hl : l.length ≤ 1048576) (hs : ∀ x ∈ l, smp x) :
    Calls Try.prog 12 #[.slice A l.length c] w fun e w' => e = .returned (.tuple #[.agg (statA (sortP l)), .int .i64 0]) ∧ Below w.heap.size w w' := by
  obtain ⟨W, hW⟩ : ∃ W, W = w.alloc (.cells #[.int .i64 0, .int .i64 0, .int .u64 0, .int .i64 0, .int .i64 0, .int .i64 0, .int .i64 0, .int .i64 0] 27 (0, 0)) := ⟨_, rfl⟩
  have n0 : W.heap[w.heap.size]? = some (.cells #[.int .i64 0, .int .i64 0, .int .u64 0, .int .i64 0, .int .i64 0, .int .i64 0, .int .i64 0, .int .i64 0] 27 (0, 0)) := by rw [hW]; exact heap_alloc_new _ _
  have nb : Below w.heap.size w W := by rw [hW]; exact below_alloc (Below.refl _ _) _
  have HST := Aside0.mk (timer_sorted HM (V_in (Kd.C_below h nb) hc) hl hs)
  obtain ⟨s, hsdef⟩ : ∃ s, s = sortP l := ⟨_, rfl⟩
  have sl := sort_len l
  have ss := smp_sort hs
  rw [← hsdef] at HST sl ss ⊢
  have HS := Aside0.mk ss
  obtain ⟨N, hN⟩ : ∃ N, N = s.length := ⟨_, rfl⟩
  have hNl : 1 ≤ N ∧ N ≤ 1048576 := by omega
  have SUM := Aside0.mk (fun (W : World) (A : Option Addr) (c : Nat) (h : Kd.C (Kd.int .i64) W A s.length s) => timer_sum (c := c) h (by omega) (by omega) ss)
  have hmr := mean_rng ss (by omega)
  have hsr := sum_smp ss
  have hqr := sqs_rng ss hmr
  obtain ⟨k, hk⟩ : ∃ k, k = N - 1 := ⟨_, rfl⟩
  obtain ⟨x0, hx0⟩ : ∃ x, x = rd s ((0 : Nat) : Int) := ⟨_, rfl⟩
  obtain ⟨xk, hxk⟩ : ∃ x, x = rd s (k : Nat) := ⟨_, rfl⟩
  obtain ⟨k1, hk1⟩ : ∃ q, q = (N - 1) / 2 := ⟨_, rfl⟩
  obtain ⟨k2, hk2⟩ : ∃ q, q = N / 2 := ⟨_, rfl⟩
  obtain ⟨y1, hy1⟩ : ∃ x, x = rd s (k1 : Nat) := ⟨_, rfl⟩
  obtain ⟨y2, hy2⟩ : ∃ x, x = rd s (k2 : Nat) := ⟨_, rfl⟩
  have ry1 : smp y1 := by rw [hy1]; exact rd_smp ss (by omega)
  have ry2 : smp y2 := by rw [hy2]; exact rd_smp ss (by omega)
  unfold smp at ry1 ry2
  obtain ⟨me, hme⟩ : ∃ m, m = meanP s := ⟨_, rfl⟩
  obtain ⟨md, hmd⟩ : ∃ m, m = medP s := ⟨_, rfl⟩
  have HMD := Aside0.mk (show md = (y1 + y2) / 2 by rw [hmd, hy1, hy2, hk1, hk2, hN]; rfl)
  obtain ⟨dv, hdv⟩ : ∃ m, m = devP s := ⟨_, rfl⟩
  obtain ⟨ua, hua⟩ : ∃ m, m = hiW s.sum := ⟨_, rfl⟩
  obtain ⟨ub, hub⟩ : ∃ m, m = loW s.sum := ⟨_, rfl⟩
  have RES := Aside0.mk (show statA s = #[.int .i64 (N : Int), .int .i64 ua, .int .u64 ub, .int .i64 x0, .int .i64 xk, .int .i64 me, .int .i64 md, .int .i64 dv] by unfold statA; rw [hN, hua, hub, hx0, hxk, hme, hmd, hdv, hk, hN]; rfl)
  rw [← hme] at hmr hqr
  unfold WV at SUM
  rw [← hua, ← hub, show s.sum / (s.length : Int) = me by rw [hme]; rfl] at SUM
  rw [← hN] at SUM
  have HDV := Aside0.mk (show dv = isq (sqP me s / N) by rw [hdv, hme, hN]; rfl)
  have HCL := Aside0.mk (fun (W : World) (A : Option Addr) (h : Kd.C (Kd.int .i64) W A s.length s) => show ∃ ad, A = some ad ∧ W.cell? ad = some (.int .i64 x0) ∧ W.cell? (ad.add k) = some (.int .i64 xk) ∧ W.cell? (ad.add k1) = some (.int .i64 y1) ∧ W.cell? (ad.add k2) = some (.int .i64 y2) by
    obtain ⟨ad, hA, c0⟩ := cell_rd h (show 0 < s.length by omega)
    obtain ⟨ad', hA', c1⟩ := cell_rd h (show k < s.length by omega)
    rw [hA] at hA'; injection hA' with hA'; subst hA'
    obtain ⟨ad', hA', c2⟩ := cell_rd h (show k1 < s.length by omega)
    rw [hA] at hA'; injection hA' with hA'; subst hA'
    obtain ⟨ad', hA', c3⟩ := cell_rd h (show k2 < s.length by omega)
    rw [hA] at hA'; injection hA' with hA'; subst hA'
    rw [show ad.add 0 = ad by simp [Addr.add]] at c0
    exact ⟨ad, hA, by rw [hx0]; exact c0, by rw [hxk]; exact c1, by rw [hy1]; exact c2, by rw [hy2]; exact c3⟩)
  have a1 : IntKind.i64.wrap ((N : Int) - 1) = (k : Int) := by rw [show (N : Int) - 1 = (k : Int) by omega]; exact IntWalk.i64_in _ (by omega)
  have HA1 := Aside0.mk a1
  have HA2 := Aside0.mk (show (N : Int) - 1 = (k : Int) by omega)
  have HA3 := Aside0.mk (show (k : Int) / 2 = (k1 : Int) by omega)
  have HA4 := Aside0.mk (show (N : Int) / 2 = (k2 : Int) by omega)
  have HNL := Aside0.mk hNl
  have HKS := Aside0.mk (show k < N ∧ k1 < N ∧ k2 < N by omega)
  have HY := Aside0.mk (And.intro ry1 ry2)
  have HMR := Aside0.mk hmr
  have HQR := Aside0.mk hqr
  have HNS := Aside0.mk hN
  have HW := Aside0.mk hW
  have NB := Aside0.mk nb
  have N0 := Aside0.mk n0
  have d0 : ((N : Int) == 0) = false := beq_eq_false_iff_ne.mpr (by omega)
  clear h hs HM hc hW n0 nb hsdef sl ss hmr hsr hqr hk hx0 hxk hk1 hk2 hy1 hy2 ry1 ry2 hme hmd hdv hua hub a1 hN hNl
  go_enter Try.func12, Try.ntmps12
  go_upto_region 1 with (fail)
  rw [← HW.out]
  go_upto_region 7 with (first
    | (go_at_call 29; (with_reducible refine (HST.out).mono ?_); rintro e w1 ⟨v, rfl, hv, hb⟩; obtain ⟨A1, c1, ev⟩ := Kd.V_slice hv; subst ev; have hcc := (Kd.V_reads' hv).2.2; rw [← HNS.out] at hv hcc ⊢; obtain ⟨ad, hA, p0, p1, p2, p3⟩ := HCL.out w1 A1 (by rw [← HNS.out]; exact hcc); subst hA; have HC1 := Aside0.mk hcc; have HB1 := Aside0.mk hb; clear hv hb hcc))
  have q0 : (0 : Int) ≤ (k : Int) := by omega
  have q1 : (k : Int) < (N : Int) := by have := HKS.out; omega
  have q2 : (0 : Int) < (N : Int) := by omega
  have q2n : 0 < N := by omega
  have q3 := HA1.out
  have q4 : N ≤ 1048576 := HNL.out.2
  have z0 := World.new_ne w1 _ p0
  have z1 := World.new_ne w1 _ p1
  have P2 := Aside0.mk p2
  have P3 := Aside0.mk p3
  clear p2 p3
  have hadl : ad.block < w1.heap.size := cell_lt p0
  go_cut [7] from 32 to 41 (fun v7 wx => ∃ g7, v7 = .pointer (some ⟨g7, 0, none⟩) ∧ Aside0 (g7 = w1.heap.size) ∧ Aside0 (wx.heap[g7]? = some (.cells #[.int .i64 (N : Int), .int .i64 0, .int .u64 0, .int .i64 x0, .int .i64 xk, .int .i64 0, .int .i64 0, .int .i64 0] 27 (0, 0))) ∧ Aside0 (Below w1.heap.size w1 wx))
  case first =>
    go_region_held3 (fun w' => w'.cell? ad = some (.int .i64 x0) ∧ w'.cell? (ad.add k) = some (.int .i64 xk)) (go_keep) (fail)
    all_goals
      go_wp2_with (fail)
      go_meet
      exact ⟨w1.heap.size, rfl, ⟨rfl⟩, ⟨heap_alloc_new _ _⟩, ⟨below_drew (below_alloc (Below.refl _ _) _)⟩⟩
  case rest =>
  obtain ⟨g7, rfl, HG7, M7, HB77⟩ := hcut
  have hb7 := HB77.out
  have hg7 := HG7.out
  obtain ⟨W7, hW7⟩ : ∃ W7, W7 = wc := ⟨_, rfl⟩
  subst hW7
  rw [← hg7] at hadl
  have SUM7 := Aside0.mk (SUM.out W7 (some ad) c1 (Kd.C_below HC1.out hb7))
  have HB7 := Aside0.mk (hop HB1.out (show Below w1.heap.size w1 W7 from hb7))
  have HC7 := Aside0.mk (Kd.C_below HC1.out hb7)
  clear hb7 p0 p1 z0 z1 hg7 q3
  go_upto_region 9 with (first
    | (go_at_call 30; (with_reducible refine (SUM7.out).mono ?_); rintro e w2 ⟨rfl, hb⟩; have HB2 := Aside0.mk hb; have m72 := (hb.block _ (blk_lt M7.out)).trans M7.out; have M72 := Aside0.mk m72; have r1 := blk_cell m72 1; have r2 := blk_cell m72 2; have r5 := blk_cell m72 5; have s1 := blk_frozen m72 1; have s2 := blk_frozen m72 2; have s5 := blk_frozen m72 5; clear hb m72))
  obtain ⟨W8, hW8⟩ : ∃ W8, W8 = (((w2.setCell ⟨g7, 1, none⟩ (.int .i64 ua)).setCell ⟨g7, 2, none⟩ (.int .u64 ub)).setCell ⟨g7, 5, none⟩ (.int .i64 me)) := ⟨_, rfl⟩
  have hk8 : Keep w2 W8 (fun k => k = g7) := by rw [hW8]; exact (((Keep.refl w2 (fun k => k = g7)).set ⟨g7, 1, none⟩ _ (.inl rfl)).set ⟨g7, 2, none⟩ _ (.inl rfl)).set ⟨g7, 5, none⟩ _ (.inl rfl)
  have m8 : W8.heap[g7]? = some (.cells #[.int .i64 (N : Int), .int .i64 ua, .int .u64 ub, .int .i64 x0, .int .i64 xk, .int .i64 me, .int .i64 0, .int .i64 0] 27 (0, 0)) := by rw [hW8]; exact blk_put (blk_put (blk_put M72.out 1 _ rfl) 2 _ rfl) 5 _ rfl
  rw [← hW8]
  have hc8 : Kd.C (Kd.int .i64) W8 (some ad) N s := C_keepS (Kd.C_below HC7.out HB2.out) hk8 (fun a e q => by injection e with e; subst e; have q2 : ad.block = g7 := q; omega)
  obtain ⟨ad', hA', -, -, p2, p3⟩ := HCL.out W8 (some ad) (by rw [← HNS.out]; exact hc8)
  injection hA' with hA'
  subst hA'
  have hb8 : Below W.heap.size W W8 := (hop HB7.out HB2.out).trans (hk8.below (hop HB7.out HB2.out).size (fun k e => by have e2 : k = g7 := e; rw [e2, HG7.out]; exact HB1.out.size))
  have HB8 := Aside0.mk hb8
  have HC8 := Aside0.mk hc8
  have M8 := Aside0.mk m8
  have l6 := blk_cell m8 6
  have g6 := blk_frozen m8 6
  have t1 : IntKind.i64.wrap ((N : Int) - 1) = (k : Int) := HA1.out
  have t3 : IntKind.i64.wrap ((k : Int) / 2) = (k1 : Int) := by rw [HA3.out]; exact IntWalk.i64_in _ (by have := HKS.out; omega)
  have t4 : IntKind.i64.wrap ((N : Int) / 2) = (k2 : Int) := by rw [HA4.out]; exact IntWalk.i64_in _ (by have := HKS.out; omega)
  obtain ⟨sy, hsy⟩ : ∃ q, q = y1 + y2 := ⟨_, rfl⟩
  have t5 : IntKind.i64.wrap (y1 + y2) = sy := by rw [hsy]; exact IntWalk.i64_in _ (by have := HY.out; omega)
  have hsy0 : 0 ≤ sy := by have := HY.out; omega
  have t6 : IntKind.i64.wrap (Int.tdiv sy 2) = md := by rw [Int.tdiv_eq_ediv_of_nonneg hsy0, HMD.out, hsy]; exact IntWalk.i64_in _ (by have := HY.out; omega)
  have v1 : (0 : Int) ≤ (k1 : Int) := by omega
  have v2 : (k1 : Int) < (N : Int) := by have := HKS.out; omega
  have v3 : (0 : Int) ≤ (k2 : Int) := by omega
  have v4 : (k2 : Int) < (N : Int) := by have := HKS.out; omega
  clear hW8 hk8 m8 hc8 hb8 r1 r2 r5 s1 s2 s5 hsy
  go_still_tail 14, (by kernel_rfl)
  change wpList _ _ _ _ _ W8.drew
  clear t1 t3 t4 t5 t6 v1 v2 v3 v4
  go_wp2_with (fail)
  obtain ⟨W9, hW9⟩ : ∃ W9, W9 = ((W8.setCell ⟨g7, 6, none⟩ (.int .i64 md)).alloc (.cells #[.int .i64 0, .int .u64 0] 25 (0, 0))).drew := ⟨_, rfl⟩
  have hk9 : Keep W8 W9 (fun k => k = g7) := by rw [hW9]; exact (((Keep.refl W8 (fun k => k = g7)).set ⟨g7, 6, none⟩ _ (.inl rfl)).alloc _).drew
  have mg : W9.heap[g7]? = some (.cells #[.int .i64 (N : Int), .int .i64 ua, .int .u64 ub, .int .i64 x0, .int .i64 xk, .int .i64 me, .int .i64 md, .int .i64 0] 27 (0, 0)) := by rw [hW9]; exact blk_alloc (blk_put M8.out 6 _ rfl) _
  have mq : W9.heap[W8.heap.size]? = some (.cells #[.int .i64 0, .int .u64 0] 25 (0, 0)) := by
    rw [hW9]
    have := heap_alloc_new (W8.setCell ⟨g7, 6, none⟩ (.int .i64 md)) (.cells #[.int .i64 0, .int .u64 0] 25 (0, 0))
    rw [World.size_setCell] at this
    exact this
  rw [← hW9]
  obtain ⟨g8, hg8⟩ : ∃ g, g = W8.heap.size := ⟨_, rfl⟩
  rw [← hg8] at mq ⊢
  have hc9 := C_keepS HC8.out hk9 (fun a e q => by injection e with e; subst e; have q2 : ad.block = g7 := q; omega)
  have h78 : g7 < g8 := by rw [hg8]; exact blk_lt M8.out
  have had8 : ad.block < g8 := by omega
  have hb9 : Below W.heap.size W W9 := HB8.out.trans (hk9.below HB8.out.size (fun k e => by have e2 : k = g7 := e; rw [e2, HG7.out]; exact HB1.out.size))
  have HB9 := Aside0.mk hb9
  have hz7 : w.heap.size < g7 := by rw [HG7.out]; exact Nat.lt_of_lt_of_le (blk_lt N0.out) HB1.out.size
  have HC9 := Aside0.mk hc9
  have MQ0 := Aside0.mk (show W9.heap[g8]? = some (.cells #[.int .i64 (hiW (sqP me (s.take 0))), .int .u64 (loW (sqP me (s.take 0)))] 25 (0, 0)) from mq)
  have MG0 := Aside0.mk mg
  have HG8 := Aside0.mk hg8
  clear hW9 hk9 mg mq hc9 hb9 p2 p3 l6 g6 hg8
  go_loopg [65] N (fun kq v65 w' => ∃ i : Nat, v65 = .int .i64 i ∧ i + kq = N ∧ Aside0 (w'.heap[g7]? = some (.cells #[.int .i64 (N : Int), .int .i64 ua, .int .u64 ub, .int .i64 x0, .int .i64 xk, .int .i64 me, .int .i64 md, .int .i64 0] 27 (0, 0))) ∧ Aside0 (w'.heap[g8]? = some (.cells #[.int .i64 (hiW (sqP me (s.take i))), .int .u64 (loW (sqP me (s.take i)))] 25 (0, 0))) ∧ Aside0 (Keep W9 w' (fun k => k = g8)))
  case atStart => exact ⟨0, rfl, by omega, MG0, MQ0, ⟨Keep.refl _ _⟩⟩
  case round =>
    clear MG0 MQ0
    obtain ⟨i, rfl, hik, MG, NQ, HK⟩ := hrel
    cases gk with
    | zero =>
      obtain rfl : N = i := by omega
      have d1 : decide (N < N) = false := decide_eq_false (by omega)
      have hq0 := NQ.out
      rw [show s.take N = s by rw [HNS.out]; exact List.take_length] at hq0
      have hqr := HQR.out
      rw [← HNS.out] at hqr
      have hn := HNL.out
      have dvr : 0 ≤ sqP me s / (N : Int) ∧ sqP me s / (N : Int) ≤ 10000000000000000000000000000 := ⟨Int.ediv_nonneg hqr.1 (by omega), by
        have := Int.ediv_le_ediv (c := (N : Int)) (by omega) hqr.2
        rw [Int.mul_comm, Int.mul_ediv_cancel _ (by omega)] at this
        exact this⟩
      have dvb : 0 ≤ dv ∧ dv ≤ 100000000000000 := by
        rw [HDV.out]
        exact ⟨(root_ex dvr.1).1, isq_le dvr.1 (by omega) (by omega)⟩
      have HO := Aside0.mk (fun W => wide_Of (z := (N : Int)) W (by unfold in64; omega))
      have HQ := Aside0.mk (fun W => wide_Quo (x := sqP me s) (y := (N : Int)) W (by omega) (by omega))
      have HR := Aside0.mk (fun W => wide_Root (v := sqP me s / (N : Int)) W (by omega))
      have HM2 := Aside0.mk (fun W => wide_Small (z := dv) W (by unfold in64; omega))
      rw [← HDV.out] at HR
      unfold WV at HO HQ HR HM2
      obtain ⟨sa, hsa⟩ : ∃ a, a = hiW (sqP me s) := ⟨_, rfl⟩
      obtain ⟨sb, hsb⟩ : ∃ a, a = loW (sqP me s) := ⟨_, rfl⟩
      obtain ⟨na, hna⟩ : ∃ a, a = hiW (N : Int) := ⟨_, rfl⟩
      obtain ⟨nb, hnb⟩ : ∃ a, a = loW (N : Int) := ⟨_, rfl⟩
      obtain ⟨qa, hqa⟩ : ∃ a, a = hiW (sqP me s / (N : Int)) := ⟨_, rfl⟩
      obtain ⟨qb, hqb⟩ : ∃ a, a = loW (sqP me s / (N : Int)) := ⟨_, rfl⟩
      obtain ⟨ma, hma⟩ : ∃ a, a = hiW (sqP me s % (N : Int)) := ⟨_, rfl⟩
      obtain ⟨mb, hmb⟩ : ∃ a, a = loW (sqP me s % (N : Int)) := ⟨_, rfl⟩
      obtain ⟨da, hda⟩ : ∃ a, a = hiW dv := ⟨_, rfl⟩
      obtain ⟨db, hdb⟩ : ∃ a, a = loW dv := ⟨_, rfl⟩
      rw [← hsa, ← hsb] at hq0
      rw [← hna, ← hnb] at HO
      rw [← hsa, ← hsb, ← hna, ← hnb, ← hqa, ← hqb, ← hma, ← hmb] at HQ
      rw [← hqa, ← hqb, ← hda, ← hdb] at HR
      rw [← hda, ← hdb] at HM2
      have NQ := Aside0.mk hq0
      clear hq0 hqr hn dvr dvb hsa hsb hna hnb hqa hqb hma hmb hda hdb
      go_upto_region 18 with (fail)
      go_cut [14] from 15 to 94 (fun v14 wx => ∃ g14, v14 = .pointer (some ⟨g14, 0, none⟩) ∧ Aside0 (wx.heap[g14]? = some (.cells #[.int .i64 qa, .int .u64 qb] 25 (0, 0))) ∧ Aside0 (Below wr.heap.size wr wx))
      case first =>
        have HB := Aside0.mk (show Below wr.heap.size wr wr.drew from (Below.refl _ _).drew)
        have D8_9 : True := trivial
        refine start_ (n := 13) (S := fun w' => True) (ds := []) #[false, false, false, false, false, false, false, false, false, false, false, false, false] (by kernel_rfl) rfl rfl trivial (fun hHeld => ?_)
        refine with_tabW of18.tab of18.bits (fun HT_ HW_ => ?_)
        refine inv_at [0, 1, 2, 3, 4, 5, 6, 7, 8, 9, 10, 11, 12] (fun a0_ b a w' => ∃ (g14 : Nat) (g15 : Nat) (m8_ : Value) (m9_ : Value), a = putSel a0_ b [(0, 88, .agg #[.int .i64 sa, .int .u64 sb]), (1, 89, .int .i64 (N : Int)), (2, 90, .agg #[.int .i64 na, .int .u64 nb]), (3, 91, .tuple #[.agg #[.int .i64 qa, .int .u64 qb], .agg #[.int .i64 ma, .int .u64 mb], .int .i64 0]), (4, 87, .tuple #[.agg #[.int .i64 qa, .int .u64 qb], .agg #[.int .i64 ma, .int .u64 mb], .int .i64 0]), (5, 92, .agg #[.int .i64 qa, .int .u64 qb]), (6, 93, .agg #[.int .i64 ma, .int .u64 mb]), (7, 94, .int .i64 0), (8, 14, m8_), (9, 15, m9_), (12, 16, .int .i64 0)] ∧ (Below wr.heap.size wr w') ∧ (b 8 = true → wr.heap.size ≤ g14) ∧ (b 8 = true → g14 < w'.heap.size) ∧ (b 8 = true → b 10 = false → w'.heap[g14]? = some (.cells #[.int .i64 0, .int .u64 0] 25 (0, 0))) ∧ (b 8 = true → b 10 = true → w'.heap[g14]? = some (.cells #[.int .i64 qa, .int .u64 qb] 25 (0, 0))) ∧ (b 9 = true → wr.heap.size ≤ g15) ∧ (b 9 = true → g15 < w'.heap.size) ∧ (b 9 = true → b 11 = false → w'.heap[g15]? = some (.cells #[.int .i64 0, .int .u64 0] 25 (0, 0))) ∧ (b 9 = true → b 11 = true → w'.heap[g15]? = some (.cells #[.int .i64 ma, .int .u64 mb] 25 (0, 0))) ∧ ((b 8 = true → b 9 = true → g14 ≠ g15)) ∧ (b 8 = true → (m8_ : Value) = .pointer (some ⟨g14, 0, none⟩)) ∧ (b 9 = true → (m9_ : Value) = .pointer (some ⟨g15, 0, none⟩))) HT_.out HW_.out (by kernel_rfl) (by kernel_rfl) ?_ ?_ ?_
        · exact ⟨0, 0, .bool false, .bool false, by simp only [putSel, Bool.false_eq_true, if_false], HB.out, fun h_ => absurd h_ (by decide), fun h_ => absurd h_ (by decide), fun h_ => absurd h_ (by decide), fun h_ => absurd h_ (by decide), fun h_ => absurd h_ (by decide), fun h_ => absurd h_ (by decide), fun h_ => absurd h_ (by decide), fun h_ => absurd h_ (by decide), fun h_ => absurd h_ (by decide), fun h_ => absurd h_ (by decide), fun h_ => absurd h_ (by decide)⟩
        · skip
          clear D8_9 HB
          refine steps_cons ?_ ?_
          · rintro b a w' ⟨g14, g15, m8_, m9_, ha, Q_HB, Q_G8, Q_L8, Q_Z8, Q_N10, Q_G9, Q_L9, Q_Z9, Q_N11, Q_D8_9, Q_X8_, Q_X9_⟩ hb_ hon hoff
            refine ⟨_, rfl, fun K hK => ?_⟩
            have e8 : a.tmps[8]? = some (.pointer (some ⟨g8, 0, none⟩)) := by rw [ha]; exact (putSel_off rfl).trans rfl
            replace ha := Aside0.mk ha
            have HB := Aside0.mk Q_HB
            have D8_9 := Aside0.mk Q_D8_9
            have k0 := blk_cell ((HB.out.block _ (blk_lt NQ.out)).trans NQ.out) 0
            have k1 := blk_cell ((HB.out.block _ (blk_lt NQ.out)).trans NQ.out) 1
            refine value_ (w1 := w') (v := .agg #[.int .i64 sa, .int .u64 sb]) (by rfl) rfl ?_ ?_
            · go_simp
              (try simp only [i64_w])
              try rfl
            refine hK.out _ _ ⟨g14, g15, m8_, m9_, (by rw [ha.out]; exact putSel_upk 0 hb_ rfl rfl rfl), Q_HB, Q_G8, Q_L8, Q_Z8, fun _ h1_ => absurd ((hoff 10 (by kernel_rfl)).symm.trans h1_) (by decide), Q_G9, Q_L9, Q_Z9, fun _ h1_ => absurd ((hoff 11 (by kernel_rfl)).symm.trans h1_) (by decide), Q_D8_9, Q_X8_, Q_X9_⟩
          refine steps_cons ?_ ?_
          · rintro b a w' ⟨g14, g15, m8_, m9_, ha, Q_HB, Q_G8, Q_L8, Q_Z8, Q_N10, Q_G9, Q_L9, Q_Z9, Q_N11, Q_D8_9, Q_X8_, Q_X9_⟩ hb_ hon hoff
            refine ⟨_, rfl, fun K hK => ?_⟩
            have e6 : a.tmps[6]? = some (.int .i64 (N : Int)) := by rw [ha]; exact (putSel_off rfl).trans rfl
            replace ha := Aside0.mk ha
            have HB := Aside0.mk Q_HB
            have D8_9 := Aside0.mk Q_D8_9
            refine value_ (w1 := w') (v := .int .i64 (N : Int)) (by rfl) rfl ?_ ?_
            · go_simp
              (try simp only [i64_w])
              try rfl
            refine hK.out _ _ ⟨g14, g15, m8_, m9_, (by rw [ha.out]; exact putSel_upk 1 hb_ rfl rfl rfl), Q_HB, Q_G8, Q_L8, Q_Z8, fun _ h1_ => absurd ((hoff 10 (by kernel_rfl)).symm.trans h1_) (by decide), Q_G9, Q_L9, Q_Z9, fun _ h1_ => absurd ((hoff 11 (by kernel_rfl)).symm.trans h1_) (by decide), Q_D8_9, Q_X8_, Q_X9_⟩
          refine steps_cons ?_ ?_
          · rintro b a w' ⟨g14, g15, m8_, m9_, ha, Q_HB, Q_G8, Q_L8, Q_Z8, Q_N10, Q_G9, Q_L9, Q_Z9, Q_N11, Q_D8_9, Q_X8_, Q_X9_⟩ hb_ hon hoff
            refine ⟨_, rfl, fun K hK => ?_⟩
            have e89 : a.tmps[89]? = some (.int .i64 (N : Int)) := by rw [ha]; exact putSel_on (e := (1, 89, .int .i64 (N : Int))) 1 rfl rfl (hon 1 (by kernel_rfl)) rfl
            replace ha := Aside0.mk ha
            have HB := Aside0.mk Q_HB
            have D8_9 := Aside0.mk Q_D8_9
            refine goes_ Try.func15 (by kernel_rfl) rfl #[.int .i64 (N : Int)] (by rfl) rfl rfl (by first | (simp only [List.map_toArray, List.map_cons, List.map_nil, Act.eval, Array.getD_eq_getD_getElem?, Option.getD_some, e89]; done) | (simp only [List.map_toArray, List.map_cons, List.map_nil, Act.eval, Array.getD_eq_getD_getElem?, Option.getD_some, e89]; rfl)) ?_
            with_reducible refine (HO.out _).mono ?_
            rintro e w1 ⟨rfl, hb⟩
            refine ⟨_, rfl, ?_⟩
            refine hK.out _ _ ⟨g14, g15, m8_, m9_, (by rw [ha.out]; exact putSel_upk 2 hb_ rfl rfl rfl), hop HB.out hb, Q_G8, fun h8 => Nat.lt_of_lt_of_le (Q_L8 h8) hb.size, fun h8 h10 => (hb.block _ (blk_lt (Q_Z8 h8 h10))).trans (Q_Z8 h8 h10), fun _ h1_ => absurd ((hoff 10 (by kernel_rfl)).symm.trans h1_) (by decide), Q_G9, fun h9 => Nat.lt_of_lt_of_le (Q_L9 h9) hb.size, fun h9 h11 => (hb.block _ (blk_lt (Q_Z9 h9 h11))).trans (Q_Z9 h9 h11), fun _ h1_ => absurd ((hoff 11 (by kernel_rfl)).symm.trans h1_) (by decide), Q_D8_9, Q_X8_, Q_X9_⟩
          refine steps_cons ?_ ?_
          · rintro b a w' ⟨g14, g15, m8_, m9_, ha, Q_HB, Q_G8, Q_L8, Q_Z8, Q_N10, Q_G9, Q_L9, Q_Z9, Q_N11, Q_D8_9, Q_X8_, Q_X9_⟩ hb_ hon hoff
            refine ⟨_, rfl, fun K hK => ?_⟩
            have e88 : a.tmps[88]? = some (.agg #[.int .i64 sa, .int .u64 sb]) := by rw [ha]; exact putSel_on (e := (0, 88, .agg #[.int .i64 sa, .int .u64 sb])) 0 rfl rfl (hon 0 (by kernel_rfl)) rfl
            have e90 : a.tmps[90]? = some (.agg #[.int .i64 na, .int .u64 nb]) := by rw [ha]; exact putSel_on (e := (2, 90, .agg #[.int .i64 na, .int .u64 nb])) 2 rfl rfl (hon 2 (by kernel_rfl)) rfl
            replace ha := Aside0.mk ha
            have HB := Aside0.mk Q_HB
            have D8_9 := Aside0.mk Q_D8_9
            refine goes_ Try.func17 (by kernel_rfl) rfl #[.agg #[.int .i64 sa, .int .u64 sb], .agg #[.int .i64 na, .int .u64 nb]] (by rfl) rfl rfl (by first | (simp only [List.map_toArray, List.map_cons, List.map_nil, Act.eval, Array.getD_eq_getD_getElem?, Option.getD_some, e88, e90]; done) | (simp only [List.map_toArray, List.map_cons, List.map_nil, Act.eval, Array.getD_eq_getD_getElem?, Option.getD_some, e88, e90]; rfl)) ?_
            with_reducible refine (HQ.out _).mono ?_
            rintro e w1 ⟨rfl, hb⟩
            refine ⟨_, rfl, ?_⟩
            refine hK.out _ _ ⟨g14, g15, m8_, m9_, (by rw [ha.out]; exact putSel_upk 3 hb_ rfl rfl rfl), hop HB.out hb, Q_G8, fun h8 => Nat.lt_of_lt_of_le (Q_L8 h8) hb.size, fun h8 h10 => (hb.block _ (blk_lt (Q_Z8 h8 h10))).trans (Q_Z8 h8 h10), fun _ h1_ => absurd ((hoff 10 (by kernel_rfl)).symm.trans h1_) (by decide), Q_G9, fun h9 => Nat.lt_of_lt_of_le (Q_L9 h9) hb.size, fun h9 h11 => (hb.block _ (blk_lt (Q_Z9 h9 h11))).trans (Q_Z9 h9 h11), fun _ h1_ => absurd ((hoff 11 (by kernel_rfl)).symm.trans h1_) (by decide), Q_D8_9, Q_X8_, Q_X9_⟩
          refine steps_cons ?_ ?_
          · rintro b a w' ⟨g14, g15, m8_, m9_, ha, Q_HB, Q_G8, Q_L8, Q_Z8, Q_N10, Q_G9, Q_L9, Q_Z9, Q_N11, Q_D8_9, Q_X8_, Q_X9_⟩ hb_ hon hoff
            refine ⟨_, rfl, fun K hK => ?_⟩
            have e91 : a.tmps[91]? = some (.tuple #[.agg #[.int .i64 qa, .int .u64 qb], .agg #[.int .i64 ma, .int .u64 mb], .int .i64 0]) := by rw [ha]; exact putSel_on (e := (3, 91, .tuple #[.agg #[.int .i64 qa, .int .u64 qb], .agg #[.int .i64 ma, .int .u64 mb], .int .i64 0])) 3 rfl rfl (hon 3 (by kernel_rfl)) rfl
            replace ha := Aside0.mk ha
            have HB := Aside0.mk Q_HB
            have D8_9 := Aside0.mk Q_D8_9
            refine value_ (w1 := w') (v := .tuple #[.agg #[.int .i64 qa, .int .u64 qb], .agg #[.int .i64 ma, .int .u64 mb], .int .i64 0]) (by rfl) rfl ?_ ?_
            · go_simp
              (try simp only [i64_w])
              try rfl
            refine hK.out _ _ ⟨g14, g15, m8_, m9_, (by rw [ha.out]; exact putSel_upk 4 hb_ rfl rfl rfl), Q_HB, Q_G8, Q_L8, Q_Z8, fun _ h1_ => absurd ((hoff 10 (by kernel_rfl)).symm.trans h1_) (by decide), Q_G9, Q_L9, Q_Z9, fun _ h1_ => absurd ((hoff 11 (by kernel_rfl)).symm.trans h1_) (by decide), Q_D8_9, Q_X8_, Q_X9_⟩
          refine steps_cons ?_ ?_
          · rintro b a w' ⟨g14, g15, m8_, m9_, ha, Q_HB, Q_G8, Q_L8, Q_Z8, Q_N10, Q_G9, Q_L9, Q_Z9, Q_N11, Q_D8_9, Q_X8_, Q_X9_⟩ hb_ hon hoff
            refine ⟨_, rfl, fun K hK => ?_⟩
            have e87 : a.tmps[87]? = some (.tuple #[.agg #[.int .i64 qa, .int .u64 qb], .agg #[.int .i64 ma, .int .u64 mb], .int .i64 0]) := by rw [ha]; exact putSel_on (e := (4, 87, .tuple #[.agg #[.int .i64 qa, .int .u64 qb], .agg #[.int .i64 ma, .int .u64 mb], .int .i64 0])) 4 rfl rfl (hon 4 (by kernel_rfl)) rfl
            replace ha := Aside0.mk ha
            have HB := Aside0.mk Q_HB
            have D8_9 := Aside0.mk Q_D8_9
            refine value_ (w1 := w') (v := .agg #[.int .i64 qa, .int .u64 qb]) (by rfl) rfl ?_ ?_
            · go_simp
              (try simp only [i64_w])
              try rfl
            refine hK.out _ _ ⟨g14, g15, m8_, m9_, (by rw [ha.out]; exact putSel_upk 5 hb_ rfl rfl rfl), Q_HB, Q_G8, Q_L8, Q_Z8, fun _ h1_ => absurd ((hoff 10 (by kernel_rfl)).symm.trans h1_) (by decide), Q_G9, Q_L9, Q_Z9, fun _ h1_ => absurd ((hoff 11 (by kernel_rfl)).symm.trans h1_) (by decide), Q_D8_9, Q_X8_, Q_X9_⟩
          refine steps_cons ?_ ?_
          · rintro b a w' ⟨g14, g15, m8_, m9_, ha, Q_HB, Q_G8, Q_L8, Q_Z8, Q_N10, Q_G9, Q_L9, Q_Z9, Q_N11, Q_D8_9, Q_X8_, Q_X9_⟩ hb_ hon hoff
            refine ⟨_, rfl, fun K hK => ?_⟩
            have e87 : a.tmps[87]? = some (.tuple #[.agg #[.int .i64 qa, .int .u64 qb], .agg #[.int .i64 ma, .int .u64 mb], .int .i64 0]) := by rw [ha]; exact putSel_on (e := (4, 87, .tuple #[.agg #[.int .i64 qa, .int .u64 qb], .agg #[.int .i64 ma, .int .u64 mb], .int .i64 0])) 4 rfl rfl (hon 4 (by kernel_rfl)) rfl
            replace ha := Aside0.mk ha
            have HB := Aside0.mk Q_HB
            have D8_9 := Aside0.mk Q_D8_9
            refine value_ (w1 := w') (v := .agg #[.int .i64 ma, .int .u64 mb]) (by rfl) rfl ?_ ?_
            · go_simp
              (try simp only [i64_w])
              try rfl
            refine hK.out _ _ ⟨g14, g15, m8_, m9_, (by rw [ha.out]; exact putSel_upk 6 hb_ rfl rfl rfl), Q_HB, Q_G8, Q_L8, Q_Z8, Q_N10, Q_G9, Q_L9, Q_Z9, fun _ h1_ => absurd ((hoff 11 (by kernel_rfl)).symm.trans h1_) (by decide), Q_D8_9, Q_X8_, Q_X9_⟩
          refine steps_cons ?_ ?_
          · rintro b a w' ⟨g14, g15, m8_, m9_, ha, Q_HB, Q_G8, Q_L8, Q_Z8, Q_N10, Q_G9, Q_L9, Q_Z9, Q_N11, Q_D8_9, Q_X8_, Q_X9_⟩ hb_ hon hoff
            refine ⟨_, rfl, fun K hK => ?_⟩
            have e87 : a.tmps[87]? = some (.tuple #[.agg #[.int .i64 qa, .int .u64 qb], .agg #[.int .i64 ma, .int .u64 mb], .int .i64 0]) := by rw [ha]; exact putSel_on (e := (4, 87, .tuple #[.agg #[.int .i64 qa, .int .u64 qb], .agg #[.int .i64 ma, .int .u64 mb], .int .i64 0])) 4 rfl rfl (hon 4 (by kernel_rfl)) rfl
            replace ha := Aside0.mk ha
            have HB := Aside0.mk Q_HB
            have D8_9 := Aside0.mk Q_D8_9
            refine value_ (w1 := w') (v := .int .i64 0) (by rfl) rfl ?_ ?_
            · go_simp
              (try simp only [i64_w])
              try rfl
            refine hK.out _ _ ⟨g14, g15, m8_, m9_, (by rw [ha.out]; exact putSel_upk 7 hb_ rfl rfl rfl), Q_HB, Q_G8, Q_L8, Q_Z8, Q_N10, Q_G9, Q_L9, Q_Z9, Q_N11, Q_D8_9, Q_X8_, Q_X9_⟩
          refine steps_cons ?_ ?_
          · rintro b a w' ⟨g14, g15, m8_, m9_, ha, Q_HB, Q_G8, Q_L8, Q_Z8, Q_N10, Q_G9, Q_L9, Q_Z9, Q_N11, Q_D8_9, Q_X8_, Q_X9_⟩ hb_ hon hoff
            refine ⟨_, rfl, fun K hK => ?_⟩
            replace ha := Aside0.mk ha
            have HB := Aside0.mk Q_HB
            have D8_9 := Aside0.mk Q_D8_9
            have hb := (Below.refl w'.heap.size w').alloc (Nat.le_refl _) (.cells #[.int .i64 0, .int .u64 0] 25 (0, 0))
            refine value_ (w1 := w'.alloc (.cells #[.int .i64 0, .int .u64 0] 25 (0, 0))) (v := .pointer (some ⟨w'.heap.size, 0, none⟩)) (by rfl) rfl ?_ ?_
            · go_simp
              try rfl
            refine hK.out _ _ ⟨w'.heap.size, g15, (.pointer (some ⟨w'.heap.size, 0, none⟩)), m9_, (by rw [ha.out]; exact putSel_upk 8 hb_ rfl rfl rfl), hop HB.out hb, fun _ => HB.out.size, fun _ => (by simp), fun _ _ => heap_alloc_new w' _, fun _ h1_ => absurd ((hoff 10 (by kernel_rfl)).symm.trans h1_) (by decide), Q_G9, fun h9 => Nat.lt_of_lt_of_le (Q_L9 h9) hb.size, fun h9 h11 => (hb.block _ (blk_lt (Q_Z9 h9 h11))).trans (Q_Z9 h9 h11), fun _ h1_ => absurd ((hoff 11 (by kernel_rfl)).symm.trans h1_) (by decide), fun h1 h2 => (fun e => by have := Q_L9 h2; omega), fun _ => rfl, Q_X9_⟩
          refine steps_cons ?_ ?_
          · rintro b a w' ⟨g14, g15, m8_, m9_, ha, Q_HB, Q_G8, Q_L8, Q_Z8, Q_N10, Q_G9, Q_L9, Q_Z9, Q_N11, Q_D8_9, Q_X8_, Q_X9_⟩ hb_ hon hoff
            refine ⟨_, rfl, fun K hK => ?_⟩
            replace ha := Aside0.mk ha
            have HB := Aside0.mk Q_HB
            have D8_9 := Aside0.mk Q_D8_9
            have hb := (Below.refl w'.heap.size w').alloc (Nat.le_refl _) (.cells #[.int .i64 0, .int .u64 0] 25 (0, 0))
            refine value_ (w1 := w'.alloc (.cells #[.int .i64 0, .int .u64 0] 25 (0, 0))) (v := .pointer (some ⟨w'.heap.size, 0, none⟩)) (by rfl) rfl ?_ ?_
            · go_simp
              try rfl
            refine hK.out _ _ ⟨g14, w'.heap.size, m8_, (.pointer (some ⟨w'.heap.size, 0, none⟩)), (by rw [ha.out]; exact putSel_upk 9 hb_ rfl rfl rfl), hop HB.out hb, Q_G8, fun h8 => Nat.lt_of_lt_of_le (Q_L8 h8) hb.size, fun h8 h10 => (hb.block _ (blk_lt (Q_Z8 h8 h10))).trans (Q_Z8 h8 h10), fun _ h1_ => absurd ((hoff 10 (by kernel_rfl)).symm.trans h1_) (by decide), fun _ => HB.out.size, fun _ => (by simp), fun _ _ => heap_alloc_new w' _, fun _ h1_ => absurd ((hoff 11 (by kernel_rfl)).symm.trans h1_) (by decide), fun h1 h2 => (fun e => by have := Q_L8 h1; omega), Q_X8_, fun _ => rfl⟩
          refine steps_cons ?_ ?_
          · rintro b a w' ⟨g14, g15, m8_, m9_, ha, Q_HB, Q_G8, Q_L8, Q_Z8, Q_N10, Q_G9, Q_L9, Q_Z9, Q_N11, Q_D8_9, Q_X8_, Q_X9_⟩ hb_ hon hoff
            refine ⟨_, rfl, fun K hK => ?_⟩
            have e14 : a.tmps[14]? = some (m8_) := by rw [ha]; exact putSel_on (e := (8, 14, m8_)) 8 rfl rfl (hon 8 (by kernel_rfl)) rfl
            rw [Q_X8_ (hon 8 (by kernel_rfl))] at e14
            have e92 : a.tmps[92]? = some (.agg #[.int .i64 qa, .int .u64 qb]) := by rw [ha]; exact putSel_on (e := (5, 92, .agg #[.int .i64 qa, .int .u64 qb])) 5 rfl rfl (hon 5 (by kernel_rfl)) rfl
            replace ha := Aside0.mk ha
            have HB := Aside0.mk Q_HB
            have G8 := Aside0.mk (Q_G8 (hon 8 (by kernel_rfl)))
            have L8 := Aside0.mk (Q_L8 (hon 8 (by kernel_rfl)))
            have Z8 := Aside0.mk (Q_Z8 (hon 8 (by kernel_rfl)) hb_)
            have G9 := Aside0.mk (Q_G9 (hon 9 (by kernel_rfl)))
            have L9 := Aside0.mk (Q_L9 (hon 9 (by kernel_rfl)))
            have Z9 := Aside0.mk (Q_Z9 (hon 9 (by kernel_rfl)) (hoff 11 (by kernel_rfl)))
            have D8_9 := Aside0.mk Q_D8_9
            have hk : Keep w' ((w'.setCell ⟨g14, 0, none⟩ (.int .i64 qa)).setCell ⟨g14, 1, none⟩ (.int .u64 qb)) (fun k => k = g14) := (((Keep.refl w' (fun k => k = g14)).set ⟨g14, 0, none⟩ (.int .i64 qa) (.inl rfl)).set ⟨g14, 1, none⟩ (.int .u64 qb) (.inl rfl))
            have y0 := blk_cell Z8.out 0
            have y1 := blk_cell Z8.out 1
            have z0 := blk_frozen Z8.out 0
            have z1 := blk_frozen Z8.out 1
            refine skip_ (w1 := ((w'.setCell ⟨g14, 0, none⟩ (.int .i64 qa)).setCell ⟨g14, 1, none⟩ (.int .u64 qb))) (by rfl) rfl ?_ ?_
            · go_simp
              try rfl
            refine hK.out _ _ ⟨g14, g15, m8_, m9_, (by rw [ha.out]; exact putSel_none (v := undef) rfl), HB.out.trans (hk.below HB.out.size (fun k e => by have e2 : k = g14 := e; rw [e2]; exact G8.out)), Q_G8, fun h8 => Nat.lt_of_lt_of_le (Q_L8 h8) hk.size, fun _ h1_ => absurd ((up_self b 10).symm.trans h1_) (by decide), fun _ _ => (blk_put (blk_put Z8.out 0 (.int .i64 qa) rfl) 1 (.int .u64 qb) rfl), Q_G9, fun h9 => Nat.lt_of_lt_of_le (Q_L9 h9) hk.size, fun h9 h11 => (hk.block _ (blk_lt (Q_Z9 h9 h11)) (fun e => Q_D8_9 (hon 8 (by kernel_rfl)) h9 e.symm)).trans (Q_Z9 h9 h11), fun _ h1_ => absurd ((hoff 11 (by kernel_rfl)).symm.trans h1_) (by decide), Q_D8_9, Q_X8_, Q_X9_⟩
          refine steps_cons ?_ ?_
          · rintro b a w' ⟨g14, g15, m8_, m9_, ha, Q_HB, Q_G8, Q_L8, Q_Z8, Q_N10, Q_G9, Q_L9, Q_Z9, Q_N11, Q_D8_9, Q_X8_, Q_X9_⟩ hb_ hon hoff
            refine ⟨_, rfl, fun K hK => ?_⟩
            have e15 : a.tmps[15]? = some (m9_) := by rw [ha]; exact putSel_on (e := (9, 15, m9_)) 9 rfl rfl (hon 9 (by kernel_rfl)) rfl
            rw [Q_X9_ (hon 9 (by kernel_rfl))] at e15
            have e93 : a.tmps[93]? = some (.agg #[.int .i64 ma, .int .u64 mb]) := by rw [ha]; exact putSel_on (e := (6, 93, .agg #[.int .i64 ma, .int .u64 mb])) 6 rfl rfl (hon 6 (by kernel_rfl)) rfl
            replace ha := Aside0.mk ha
            have HB := Aside0.mk Q_HB
            have G8 := Aside0.mk (Q_G8 (hon 8 (by kernel_rfl)))
            have L8 := Aside0.mk (Q_L8 (hon 8 (by kernel_rfl)))
            have N10 := Aside0.mk (Q_N10 (hon 8 (by kernel_rfl)) (hon 10 (by kernel_rfl)))
            have G9 := Aside0.mk (Q_G9 (hon 9 (by kernel_rfl)))
            have L9 := Aside0.mk (Q_L9 (hon 9 (by kernel_rfl)))
            have Z9 := Aside0.mk (Q_Z9 (hon 9 (by kernel_rfl)) hb_)
            have D8_9 := Aside0.mk Q_D8_9
            have hk : Keep w' ((w'.setCell ⟨g15, 0, none⟩ (.int .i64 ma)).setCell ⟨g15, 1, none⟩ (.int .u64 mb)) (fun k => k = g15) := (((Keep.refl w' (fun k => k = g15)).set ⟨g15, 0, none⟩ (.int .i64 ma) (.inl rfl)).set ⟨g15, 1, none⟩ (.int .u64 mb) (.inl rfl))
            have y0 := blk_cell Z9.out 0
            have y1 := blk_cell Z9.out 1
            have z0 := blk_frozen Z9.out 0
            have z1 := blk_frozen Z9.out 1
            refine skip_ (w1 := ((w'.setCell ⟨g15, 0, none⟩ (.int .i64 ma)).setCell ⟨g15, 1, none⟩ (.int .u64 mb))) (by rfl) rfl ?_ ?_
            · go_simp
              try rfl
            refine hK.out _ _ ⟨g14, g15, m8_, m9_, (by rw [ha.out]; exact putSel_none (v := undef) rfl), HB.out.trans (hk.below HB.out.size (fun k e => by have e2 : k = g15 := e; rw [e2]; exact G9.out)), Q_G8, fun h8 => Nat.lt_of_lt_of_le (Q_L8 h8) hk.size, fun _ h1_ => absurd ((hon 10 (by kernel_rfl)).symm.trans h1_) (by decide), fun h8 h10 => (hk.block _ (blk_lt (Q_N10 h8 h10)) (fun e => Q_D8_9 h8 (hon 9 (by kernel_rfl)) e)).trans (Q_N10 h8 h10), Q_G9, fun h9 => Nat.lt_of_lt_of_le (Q_L9 h9) hk.size, fun _ h1_ => absurd ((up_self b 11).symm.trans h1_) (by decide), fun _ _ => (blk_put (blk_put Z9.out 0 (.int .i64 ma) rfl) 1 (.int .u64 mb) rfl), Q_D8_9, Q_X8_, Q_X9_⟩
          refine steps_cons ?_ ?_
          · rintro b a w' ⟨g14, g15, m8_, m9_, ha, Q_HB, Q_G8, Q_L8, Q_Z8, Q_N10, Q_G9, Q_L9, Q_Z9, Q_N11, Q_D8_9, Q_X8_, Q_X9_⟩ hb_ hon hoff
            refine ⟨_, rfl, fun K hK => ?_⟩
            have e94 : a.tmps[94]? = some (.int .i64 0) := by rw [ha]; exact putSel_on (e := (7, 94, .int .i64 0)) 7 rfl rfl (hon 7 (by kernel_rfl)) rfl
            replace ha := Aside0.mk ha
            have HB := Aside0.mk Q_HB
            have G8 := Aside0.mk (Q_G8 (hon 8 (by kernel_rfl)))
            have L8 := Aside0.mk (Q_L8 (hon 8 (by kernel_rfl)))
            have N10 := Aside0.mk (Q_N10 (hon 8 (by kernel_rfl)) (hon 10 (by kernel_rfl)))
            have G9 := Aside0.mk (Q_G9 (hon 9 (by kernel_rfl)))
            have L9 := Aside0.mk (Q_L9 (hon 9 (by kernel_rfl)))
            have N11 := Aside0.mk (Q_N11 (hon 9 (by kernel_rfl)) (hon 11 (by kernel_rfl)))
            have D8_9 := Aside0.mk Q_D8_9
            refine value_ (w1 := w') (v := .int .i64 0) (by rfl) rfl ?_ ?_
            · go_simp
              (try simp only [i64_w])
              try rfl
            refine hK.out _ _ ⟨g14, g15, m8_, m9_, (by rw [ha.out]; exact putSel_upk 10 hb_ rfl rfl rfl), Q_HB, Q_G8, Q_L8, fun _ h1_ => absurd ((hon 10 (by kernel_rfl)).symm.trans h1_) (by decide), Q_N10, Q_G9, Q_L9, fun _ h1_ => absurd ((hon 11 (by kernel_rfl)).symm.trans h1_) (by decide), Q_N11, Q_D8_9, Q_X8_, Q_X9_⟩
          exact steps_nil
        · rintro b a w' hall ⟨g14, g15, m8_, m9_, ha, Q_HB, Q_G8, Q_L8, Q_Z8, Q_N10, Q_G9, Q_L9, Q_Z9, Q_N11, Q_D8_9, Q_X8_, Q_X9_⟩
          clear D8_9 HB
          have hb0_ := hall 0 (by kernel_rfl)
          have hb1_ := hall 1 (by kernel_rfl)
          have hb2_ := hall 2 (by kernel_rfl)
          have hb3_ := hall 3 (by kernel_rfl)
          have hb4_ := hall 4 (by kernel_rfl)
          have hb5_ := hall 5 (by kernel_rfl)
          have hb6_ := hall 6 (by kernel_rfl)
          have hb7_ := hall 7 (by kernel_rfl)
          have hb8_ := hall 8 (by kernel_rfl)
          have hb9_ := hall 9 (by kernel_rfl)
          have hb10_ := hall 10 (by kernel_rfl)
          have hb11_ := hall 11 (by kernel_rfl)
          have hb12_ := hall 12 (by kernel_rfl)
          subst ha
          obtain rfl := Q_X8_ hb8_
          obtain rfl := Q_X9_ hb9_
          simp only [putSel, hb0_, hb1_, hb2_, hb3_, hb4_, hb5_, hb6_, hb7_, hb8_, hb9_, hb10_, hb11_, hb12_, if_true, Act.put, List.setIfInBounds_toArray, List.set_cons_zero, List.set_cons_succ]
          have HB := Aside0.mk Q_HB
          clear Q_HB
          have G8 := Aside0.mk (Q_G8 hb8_)
          clear Q_G8
          have L8 := Aside0.mk (Q_L8 hb8_)
          clear Q_L8
          clear Q_Z8
          have N10 := Aside0.mk (Q_N10 hb8_ hb10_)
          clear Q_N10
          have G9 := Aside0.mk (Q_G9 hb9_)
          clear Q_G9
          have L9 := Aside0.mk (Q_L9 hb9_)
          clear Q_L9
          clear Q_Z9
          have N11 := Aside0.mk (Q_N11 hb9_ hb11_)
          clear Q_N11
          have D8_9 := Aside0.mk Q_D8_9
          clear Q_D8_9
          clear hall hb0_ hb1_ hb2_ hb3_ hb4_ hb5_ hb6_ hb7_ hb8_ hb9_ hb10_ hb11_ hb12_
          go_wp2_with (fail)
          go_meet
          exact ⟨g14, rfl, N10, HB⟩
      case rest =>
        obtain ⟨g14, rfl, M14, HBc⟩ := hcut
        have a0 := blk_cell M14.out 0
        have a1 := blk_cell M14.out 1
        go_upto_region 21 with (first
          | (go_at_call 31; (with_reducible refine (HR.out _).mono ?_); rintro e w6 ⟨rfl, hb⟩; have HB6 := Aside0.mk (hop HBc.out hb); clear hb a0 a1)
          | (go_at_call 32; (with_reducible refine (HM2.out _).mono ?_); rintro e w7 ⟨rfl, hb⟩; have hb7 := hop (HB6.out.alloc HB6.out.size (.cells #[.int .i64 da, .int .u64 db] 25 (0, 0))) hb; have HB77 := Aside0.mk hb7; have mg7 := (hb7.block _ (blk_lt MG.out)).trans MG.out; have MG7 := Aside0.mk mg7; have l7 := blk_cell mg7 7; have t7 := blk_frozen mg7 7; clear hb hb7 mg7))
        obtain ⟨WZ, hWZ⟩ : ∃ WZ, WZ = w7.setCell ⟨g7, 7, none⟩ (.int .i64 dv) := ⟨_, rfl⟩
        have hkz : Keep w7 WZ (fun k => k = g7) := by rw [hWZ]; exact (Keep.refl w7 (fun k => k = g7)).set ⟨g7, 7, none⟩ _ (.inl rfl)
        have mgz : WZ.heap[g7]? = some (.cells #[.int .i64 (N : Int), .int .i64 ua, .int .u64 ub, .int .i64 x0, .int .i64 xk, .int .i64 me, .int .i64 md, .int .i64 dv] 27 (0, 0)) := by rw [hWZ]; exact blk_put MG7.out 7 _ rfl
        rw [← hWZ]
        have hbz : Below W.heap.size W WZ := by
          have b1 := HB9.out.trans (HK.out.below HB9.out.size (fun k e => by have e2 : k = g8 := e; have := HB1.out.size; have := HG7.out; omega))
          have hb := HB77.out
          have b2 := b1.trans ⟨hb.os, hb.tape, hb.output, hb.size, fun k hk => hb.block k (Nat.lt_of_lt_of_le hk b1.size)⟩
          exact b2.trans (hkz.below b2.size (fun k e => by have e2 : k = g7 := e; rw [e2, HG7.out]; exact HB1.out.size))
        have mz := (hbz.block _ (blk_lt N0.out)).trans N0.out
        have y0 := blk_cell mgz 0
        have z0 := blk_cell mz 0
        have f0 := blk_frozen mz 0
        have y1 := blk_cell mgz 1
        have z1 := blk_cell mz 1
        have f1 := blk_frozen mz 1
        have y2 := blk_cell mgz 2
        have z2 := blk_cell mz 2
        have f2 := blk_frozen mz 2
        have y3 := blk_cell mgz 3
        have z3 := blk_cell mz 3
        have f3 := blk_frozen mz 3
        have y4 := blk_cell mgz 4
        have z4 := blk_cell mz 4
        have f4 := blk_frozen mz 4
        have y5 := blk_cell mgz 5
        have z5 := blk_cell mz 5
        have f5 := blk_frozen mz 5
        have y6 := blk_cell mgz 6
        have z6 := blk_cell mz 6
        have f6 := blk_frozen mz 6
        have y7 := blk_cell mgz 7
        have z7 := blk_cell mz 7
        have f7 := blk_frozen mz 7
        have MZ := Aside0.mk mz
        have HBZ := Aside0.mk (NB.out.trans ⟨hbz.os, hbz.tape, hbz.output, hbz.size, fun k hk => hbz.block k (Nat.lt_of_lt_of_le hk NB.out.size)⟩)
        have hne : w.heap.size ≠ g7 := by omega
        clear hWZ hkz mgz hbz mz l7 t7 d0 d1
        go_wp2_with (fail)
        have hf := (blk_put (blk_put (blk_put (blk_put (blk_put (blk_put (blk_put (blk_put MZ.out 0 (.int .i64 (N : Int)) rfl) 1 (.int .i64 ua) rfl) 2 (.int .u64 ub) rfl) 3 (.int .i64 x0) rfl) 4 (.int .i64 xk) rfl) 5 (.int .i64 me) rfl) 6 (.int .i64 md) rfl) 7 (.int .i64 dv) rfl)
        rw [RES.out]
        refine bodyPost_ret (results_ct rfl _ _ w.heap.size 27 _ (0, 0) _ rfl hf Try.underlying27 rfl (by kernel_rfl)) rfl ?_
        exact ⟨rfl, (((((((HBZ.out.setCell (Nat.le_refl _) _).setCell (Nat.le_refl _) _).setCell (Nat.le_refl _) _).setCell (Nat.le_refl _) _).setCell (Nat.le_refl _) _).setCell (Nat.le_refl _) _).setCell (Nat.le_refl _) _).setCell (Nat.le_refl _) _⟩
    | succ k_ =>
      have hlt : i < N := by omega
      have hls : i < s.length := by rw [← HNS.out]; exact hlt
      have hlm : i < 1048576 := by have := HNL.out; omega
      have d1 : decide (i < N) = true := decide_eq_true hlt
      obtain ⟨x, hx⟩ : ∃ x, x = s[i] := ⟨_, rfl⟩
      have hsx := HS.out x (by rw [hx]; exact List.getElem_mem hls)
      unfold smp at hsx
      have hmr := HMR.out
      have hC := C_keepS HC9.out HK.out (fun a e q => by injection e with e; subst e; have q2 : ad.block = g8 := q; omega)
      rw [HNS.out] at hC
      obtain ⟨ad', hA', hc⟩ := cell_rd hC hls
      injection hA' with hA'
      subst hA'
      rw [show rd s (i : Int) = x by unfold rd; rw [Int.toNat_natCast, hx]; simp [List.getD_eq_getElem?_getD, hls]] at hc
      have hsn := sq_snoc (m := me) hls
      rw [← hx] at hsn
      have hst := sqs_rng (l := s.take i) (m := me) (fun y hy => HS.out y (List.mem_of_mem_take hy)) hmr
      have hlen : (s.take i).length ≤ 1048576 := by rw [List.length_take]; omega
      have hdr := sq_rng (d := x - me) (by omega) (by omega)
      have HO := Aside0.mk (fun W => wide_Of (z := x - me) W (by unfold in64; omega))
      have HMU := Aside0.mk (fun W => wide_Mul (x := x - me) (y := x - me) W (by unfold in64; omega) (by unfold in64; omega))
      have HA := Aside0.mk (fun W => wide_Add (x := sqP me (s.take i)) (y := (x - me) * (x - me)) W (by unfold inW; omega) (by unfold inW; omega) _ 0 (.inl ⟨by unfold inW; omega, rfl, rfl⟩))
      rw [← hsn] at HA
      unfold WV at HO HMU HA
      obtain ⟨sa, hsa⟩ : ∃ a, a = hiW (sqP me (s.take i)) := ⟨_, rfl⟩
      obtain ⟨sb, hsb⟩ : ∃ a, a = loW (sqP me (s.take i)) := ⟨_, rfl⟩
      obtain ⟨ta, hta⟩ : ∃ a, a = hiW (sqP me (s.take (i + 1))) := ⟨_, rfl⟩
      obtain ⟨tb, htb⟩ : ∃ a, a = loW (sqP me (s.take (i + 1))) := ⟨_, rfl⟩
      obtain ⟨da, hda⟩ : ∃ a, a = hiW (x - me) := ⟨_, rfl⟩
      obtain ⟨db, hdb⟩ : ∃ a, a = loW (x - me) := ⟨_, rfl⟩
      obtain ⟨pa, hpa⟩ : ∃ a, a = hiW ((x - me) * (x - me)) := ⟨_, rfl⟩
      obtain ⟨pb, hpb⟩ : ∃ a, a = loW ((x - me) * (x - me)) := ⟨_, rfl⟩
      rw [← hsa, ← hsb] at NQ
      rw [← hda, ← hdb] at HO
      rw [← hda, ← hdb, ← hpa, ← hpb] at HMU
      rw [← hsa, ← hsb, ← hta, ← htb, ← hpa, ← hpb] at HA
      have HT := Aside0.mk (And.intro hta htb)
      have u5 := blk_cell MG.out 5
      have hw : IntKind.i64.wrap (x - me) = x - me := IntWalk.i64_in _ (by omega)
      clear hx hsn hst hlen hdr hsa hsb hta htb hda hdb hpa hpb hC hls
      go_wp2_with (first
        | (go_at_call 15; (with_reducible refine (HO.out _).mono ?_); rintro e w3 ⟨rfl, hb⟩; have HB3 := Aside0.mk hb; clear hb)
        | (go_at_call 27; (with_reducible refine (HMU.out _).mono ?_); rintro e w4 ⟨rfl, hb⟩; have hb4 := hop (HB3.out.alloc HB3.out.size (.cells #[.int .i64 da, .int .u64 db] 25 (0, 0))) hb; have HB4 := Aside0.mk hb4; have mqx := blk_alloc ((hb4.block _ (blk_lt NQ.out)).trans NQ.out) (.cells #[.int .i64 pa, .int .u64 pb] 25 (0, 0)); have k0 := blk_cell mqx 0; have k1_ := blk_cell mqx 1; clear hb hb4 mqx)
        | (go_at_call 16; (with_reducible refine (HA.out _).mono ?_); rintro e w5 ⟨rfl, hb⟩; have hb5 := hop (HB4.out.alloc HB4.out.size (.cells #[.int .i64 pa, .int .u64 pb] 25 (0, 0))) hb; have HB5 := Aside0.mk hb5; have mq5 := (hb5.block _ (blk_lt NQ.out)).trans NQ.out; have MQ5 := Aside0.mk mq5; have e0 := blk_cell mq5 0; have e1 := blk_cell mq5 1; have f0 := blk_frozen mq5 0; have f1 := blk_frozen mq5 1; clear hb hb5 mq5 k0 k1_))
      go_roundg k_
      case rel =>
        have hks : Keep w5 ((w5.setCell ⟨g8, 0, none⟩ (.int .i64 ta)).setCell ⟨g8, 1, none⟩ (.int .u64 tb)) (fun k => k = g8) := keep_set2
        have hb := HB5.out
        have hk2 : Keep W9 w5 (fun k => k = g8) := HK.out.trans (Keep.of_below hb) (fun _ _ q => q) (fun _ _ (q : False) => q.elim)
        refine ⟨i + 1, by go_num, by omega, ⟨(hks.block _ (blk_lt ((hb.block _ (blk_lt MG.out)).trans MG.out)) (by omega)).trans ((hb.block _ (blk_lt MG.out)).trans MG.out)⟩, ⟨by rw [← HT.out.1, ← HT.out.2]; exact blk_put (blk_put MQ5.out 0 _ rfl) 1 _ rfl⟩, ⟨hk2.trans hks (fun _ _ q => q) (fun _ _ q => q)⟩⟩
      case measure => omega
end Go.Proofs.Ythnihjfdmkfkiaa.Q

namespace Go.Proofs.Ythnihjfdmkfkiaa.Q
open Go.RowKit Go.Proofs.YthnihjfdmkfkiaaW.PrintWords Go.Proofs.YthnihjfdmkfkiaaW.PrintLast Go.Proofs.YthnihjfdmkfkiaaW.PrintMore Go.Proofs.YthnihjfdmkfkiaaV
set_option linter.unusedVariables false
set_option linter.unusedSimpArgs false

theorem sort514' : sortP [5, 1, 4] = [1, 4, 5] := by
  refine (sortP_of ?_ ?_).symm
  · unfold Rise
    decide
  · decide
theorem stat514 : statA (sortP [5, 1, 4]) = #[.int .i64 3, .int .i64 0, .int .u64 10, .int .i64 1, .int .i64 5, .int .i64 3, .int .i64 4, .int .i64 1] := by
  rw [sort514']
  have h : devP [1, 4, 5] = 1 := by
    unfold devP
    exact isq_eq (by omega) (by decide) (by decide)
  unfold statA
  rw [h]
  rfl
theorem C_three {W : World} {g : Nat} {a b c : Int} {t : TypeId} (h : W.heap[g]? = some (.cells #[.int .i64 a, .int .i64 b, .int .i64 c] t (0, 0))) : Kd.C (Kd.int .i64) W (some ⟨g, 0, none⟩) 3 [a, b, c] := by
  refine Kd.C_of_reads (d := (0 : Int)) (h1 := fun _ => rfl) ⟨rfl, by simp, fun _ => ⟨_, rfl, fun j hj => ?_⟩⟩
  rcases (show j = 0 ∨ j = 1 ∨ j = 2 by have h3 : j < 3 := hj; omega) with rfl | rfl | rfl
  · exact blk_cell h 0
  · exact blk_cell h 1
  · exact blk_cell h 2
set_option maxHeartbeats 3200000 in
set_option maxRecDepth 4000 in
theorem law_alive (HM : MergeOk) (w : World) :
    Calls Try.prog 14 #[] w fun e w' => e = .returned (.bool true) ∧ Below w.heap.size w w' := by
  have n0 := heap_alloc_new w (.cells #[.int .i64 5, .int .i64 1, .int .i64 4] 2 (0, 0))
  have HOF := timer_Of HM (C_three n0) (c := 3) (by decide) (by decide) (by decide) (fun x hx => by unfold smp; simp at hx; omega)
  rw [stat514] at HOF
  have HOF := Aside0.mk (show Calls Try.prog 12 #[.slice (some ⟨w.heap.size, 0, none⟩) 3 3] (w.alloc (.cells #[.int .i64 5, .int .i64 1, .int .i64 4] 2 (0, 0))) _ from HOF)
  have NB := Aside0.mk (below_alloc (Below.refl w.heap.size w) (.cells #[.int .i64 5, .int .i64 1, .int .i64 4] 2 (0, 0)))
  have HW := Aside0.mk (fun W => (show Calls Try.prog 15 #[.int .i64 10] W (fun e w' => e = .returned (.agg #[.int .i64 0, .int .u64 10]) ∧ Below W.heap.size W w') from wide_Of W (by unfold in64; omega)))
  clear n0
  go_enter Try.func14, Try.ntmps14
  go_upto_region 2 with (first
    | (go_at_call 12; (with_reducible refine (HOF.out).mono ?_); rintro e w5 ⟨rfl, hb5⟩; have HB5 := Aside0.mk (hop NB.out hb5); clear hb5))
  have m6 := heap_alloc_new w5 (.cells #[.int .i64 3, .int .i64 0, .int .u64 10, .int .i64 1, .int .i64 5, .int .i64 3, .int .i64 4, .int .i64 1] 27 (0, 0))
  have hb6 : Below w.heap.size w (w5.alloc (.cells #[.int .i64 3, .int .i64 0, .int .u64 10, .int .i64 1, .int .i64 5, .int .i64 3, .int .i64 4, .int .i64 1] 27 (0, 0))) := HB5.out.alloc HB5.out.size _
  obtain ⟨W, hW⟩ : ∃ W, W = w5.alloc (.cells #[.int .i64 3, .int .i64 0, .int .u64 10, .int .i64 1, .int .i64 5, .int .i64 3, .int .i64 4, .int .i64 1] 27 (0, 0)) := ⟨_, rfl⟩
  rw [← hW] at m6 hb6 ⊢
  clear hW
  obtain ⟨g, hg⟩ : ∃ g, g = w5.heap.size := ⟨_, rfl⟩
  rw [← hg] at m6 ⊢
  clear hg
  have c0 : W.cell? ⟨g, 0, none⟩ = some (.int .i64 3) := blk_cell m6 0
  have c1 : W.cell? ⟨g, 1, none⟩ = some (.int .i64 0) := blk_cell m6 1
  have c2 : W.cell? ⟨g, 2, none⟩ = some (.int .u64 10) := blk_cell m6 2
  have c5 : W.cell? ⟨g, 6, none⟩ = some (.int .i64 4) := blk_cell m6 6
  have c6 : W.cell? ⟨g, 7, none⟩ = some (.int .i64 1) := blk_cell m6 7
  have M6 := Aside0.mk m6
  have HB6 := Aside0.mk hb6
  clear m6 hb6
  go_region_held3 (fun w' => w'.cell? ⟨g, 0, none⟩ = some (.int .i64 3) ∧ w'.cell? ⟨g, 1, none⟩ = some (.int .i64 0) ∧ w'.cell? ⟨g, 2, none⟩ = some (.int .u64 10) ∧ w'.cell? ⟨g, 6, none⟩ = some (.int .i64 4) ∧ w'.cell? ⟨g, 7, none⟩ = some (.int .i64 1)) (go_keep) (first
    | (go_at_call 15; (with_reducible refine (HW.out _).mono ?_); rintro e w7 ⟨rfl, hb7⟩; have m7 := (hb7.block _ (blk_lt M6.out)).trans M6.out; have k0 := blk_cell m7 0; have k1 := blk_cell m7 1; have k2 := blk_cell m7 2; have k5 := blk_cell m7 6; have k6 := blk_cell m7 7; have HB7 := Aside0.mk (hop (below_drew HB6.out) hb7); clear hb7 m7))
  all_goals
    go_wp2_with (fail)
    go_ret
    exact ⟨rfl, HB7.out⟩
end Go.Proofs.Ythnihjfdmkfkiaa.Q
