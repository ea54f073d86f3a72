import Derived.Test.YtadmigijbfdboaaBNum
namespace Go.Proofs.Ytadmigijbfdboaa.Q
open Go.RowKit Go.Proofs.YtadmigijbfdboaaW.PrintWords Go.Proofs.YtadmigijbfdboaaW.PrintLast Go.Proofs.YtadmigijbfdboaaW.PrintMore Go.Proofs.YtadmigijbfdboaaV
set_option linter.unusedVariables false
set_option linter.unusedSimpArgs false

/-- Three new blocks. -/
theorem new3 (w : World) (a b c : Obj) : (((w.alloc a).alloc b).alloc c).heap[w.heap.size]? = some a ∧ (((w.alloc a).alloc b).alloc c).heap[w.heap.size + 1]? = some b ∧ (((w.alloc a).alloc b).alloc c).heap[w.heap.size + 2]? = some c ∧ Below w.heap.size w (((w.alloc a).alloc b).alloc c) ∧ (((w.alloc a).alloc b).alloc c).heap.size = w.heap.size + 3 := by
  have s1 : (w.alloc a).heap.size = w.heap.size + 1 := by simp
  have s2 : ((w.alloc a).alloc b).heap.size = w.heap.size + 2 := by simp
  refine ⟨?_, ?_, ?_, ?_, by simp⟩
  · exact blk_alloc (blk_alloc (heap_alloc_new w a) b) c
  · exact blk_alloc (by have := heap_alloc_new (w.alloc a) b; rwa [s1] at this) c
  · have := heap_alloc_new ((w.alloc a).alloc b) c; rwa [s2] at this
  · exact (((Below.refl w.heap.size w).alloc (Nat.le_refl _) a).alloc (by omega) b).alloc (by omega) c

set_option maxHeartbeats 3200000 in
set_option maxRecDepth 4000 in
theorem AddN_same {w : World} {A B : Option Addr} {c d : Nat} {lx ly lz : List Int} (p q : Bool) (z : Int) (hl : Lm w A c lx) (hm : Lm w B d ly) (fx : lx.length ≤ 1048576) (fy : ly.length ≤ 1048576) (hlz : lz = limbs z.natAbs) (en : (valL lx + valL ly).toNat = z.natAbs) (hpq : p = q) (hxx : z = if p then - valL lz else valL lz) :
    Calls Try.prog 30 #[.agg #[.bool p, .slice A lx.length c], .agg #[.bool q, .slice B ly.length d]] w fun e w' => ∃ v, e = .returned v ∧ NumV w' v z ∧ Below w.heap.size w w' := by
  obtain ⟨n0, n1, n2, nb, ns⟩ := new3 w (.cells #[.bool p, .slice A lx.length c] 81 (0, 0)) (.cells #[.bool q, .slice B ly.length d] 81 (0, 0)) (.cells #[.bool false, .slice none 0 0] 81 (0, 0))
  have HL := Aside0.mk (show ∀ W, Below w.heap.size w W → Lm W A c lx from fun W hb => hl.below hb)
  have HM := Aside0.mk (show ∀ W, Below w.heap.size w W → Lm W B d ly from fun W hb => hm.below hb)
  have HXX := Aside0.mk hxx
  have HE := Aside0.mk en
  have HLZ := Aside0.mk hlz
  have N0 := Aside0.mk n0
  have N1 := Aside0.mk n1
  have N2 := Aside0.mk n2
  have NA := Aside0.mk nb
  have NS := Aside0.mk ns
  have NB := Aside0.mk nb.drew
  subst hpq
  clear hl hm en hxx hlz n0 n1 n2 nb ns
  go_enter Try.func30, Try.ntmps30
  go_upto_region 2 with (fail)
  go_region_with (first
    | (go_at_call 45; (with_reducible refine (ref_addL (HL.out _ NB.out) (HM.out _ NB.out) fx fy).mono ?_); rintro e w5 ⟨A5, c5, rfl, h5, hf5, hb5⟩; rw [HE.out, ← HLZ.out] at h5 ⊢; have H5 := Aside0.mk h5; have HF5 := Aside0.mk (show ∀ ad, A5 = some ad → w.heap.size + 3 ≤ ad.block from fun ad e => Nat.le_trans (Nat.le_of_eq NS.out.symm) (hf5 ad e)); have B0 := Aside0.mk ((hb5.block _ (blk_lt N0.out)).trans N0.out); have B1 := Aside0.mk ((hb5.block _ (blk_lt N1.out)).trans N1.out); have B2 := Aside0.mk ((hb5.block _ (blk_lt N2.out)).trans N2.out); have k0 := blk_cell B0.out 0; have k1 := blk_cell B1.out 0; have HB5 := Aside0.mk (NB.out.trans ⟨hb5.os, hb5.tape, hb5.output, hb5.size, fun k hk => hb5.block k (Nat.lt_of_lt_of_le hk NB.out.size)⟩); clear h5 hf5 hb5)
    | (go_at_call 43; (with_reducible refine (ref_make2 p H5.out z HXX.out).mono ?_); rintro e w6 ⟨rfl, h6, hb6⟩; obtain ⟨s, hs⟩ : ∃ s, s = decide (z < 0) := ⟨_, rfl⟩; rw [← hs, ← HLZ.out]; have HS := Aside0.mk hs; rw [← HLZ.out] at h6; obtain ⟨f1, f2, f3, f4, f5⟩ := res2 (v0 := .bool s) (v1 := .slice A5 lz.length c5) ((hb6.block _ (blk_lt B2.out)).trans B2.out); have H6 := Aside0.mk h6; have F5 := Aside0.mk f5; have HB6 := Aside0.mk (HB5.out.trans ⟨hb6.os, hb6.tape, hb6.output, hb6.size, fun k hk => hb6.block k (Nat.lt_of_lt_of_le hk HB5.out.size)⟩); clear h6 hb6 hs f5))
  all_goals
    go_wp2_with (fail)
    refine bodyPost_ret (results_cell_row rfl _ _ (w.heap.size + 2) 81 _ (0, 0) _ rfl F5.out Try.underlying81 rfl (by kernel_rfl)) rfl ?_
    exact ⟨_, rfl, ⟨A5, c5, by rw [← HS.out, ← HLZ.out], by rw [← HLZ.out]; exact H6.out.keep keep_set2 (fun ad e => by have := HF5.out ad e; omega)⟩, HB6.out.trans (keep_set2.below HB6.out.size (fun k hk => by omega))⟩
set_option maxHeartbeats 3200000 in
set_option maxRecDepth 4000 in
theorem AddN_ge {w : World} {A B : Option Addr} {c d : Nat} {lx ly lz : List Int} (p q : Bool) (z : Int) (hl : Lm w A c lx) (hm : Lm w B d ly) (fx : lx.length ≤ 1048576) (fy : ly.length ≤ 1048576) (hlz : lz = limbs z.natAbs) (en : (valL lx - valL ly).toNat = z.natAbs) (hle : valL ly ≤ valL lx) (hpq : (p == q) = false) (hxx : z = if p then - valL lz else valL lz) :
    Calls Try.prog 30 #[.agg #[.bool p, .slice A lx.length c], .agg #[.bool q, .slice B ly.length d]] w fun e w' => ∃ v, e = .returned v ∧ NumV w' v z ∧ Below w.heap.size w w' := by
  obtain ⟨n0, n1, n2, nb, ns⟩ := new3 w (.cells #[.bool p, .slice A lx.length c] 81 (0, 0)) (.cells #[.bool q, .slice B ly.length d] 81 (0, 0)) (.cells #[.bool false, .slice none 0 0] 81 (0, 0))
  have HL := Aside0.mk (show ∀ W, Below w.heap.size w W → Lm W A c lx from fun W hb => hl.below hb)
  have HM := Aside0.mk (show ∀ W, Below w.heap.size w W → Lm W B d ly from fun W hb => hm.below hb)
  have HXX := Aside0.mk hxx
  have HE := Aside0.mk en
  have HLZ := Aside0.mk hlz
  have N0 := Aside0.mk n0
  have N1 := Aside0.mk n1
  have N2 := Aside0.mk n2
  have NA := Aside0.mk nb
  have NS := Aside0.mk ns
  have HC := Aside0.mk (ref_cmpL (hl.below nb) (hm.below nb))
  have HLE := Aside0.mk hle
  obtain ⟨g, hg, hg0⟩ : ∃ g, sgn (valL lx - valL ly) = g ∧ 0 ≤ g := ⟨_, rfl, by unfold sgn; split <;> (try split) <;> omega⟩
  have hg1 : decide (0 ≤ g) = true := decide_eq_true hg0
  have HSG := Aside0.mk hg
  clear hle hg
  clear hl hm en hxx hlz n0 n1 n2 nb ns
  go_enter Try.func30, Try.ntmps30
  go_upto_region 4 with (first | (go_at_call 44; (with_reducible refine (HC.out).mono ?_); rintro e w4 ⟨rfl, ⟨m, rfl⟩⟩; rw [HSG.out]; have NB := Aside0.mk (show Below w.heap.size w ((((w.alloc (.cells #[.bool p, .slice A lx.length c] 81 (0, 0))).alloc (.cells #[.bool q, .slice B ly.length d] 81 (0, 0))).alloc (.cells #[.bool false, .slice none 0 0] 81 (0, 0))).drewN (m + 1)) from pw_below_drewN NA.out (m + 1))))
  go_region_with (first
    | (go_at_call 46; (with_reducible refine (ref_subL (HL.out _ NB.out) (HM.out _ NB.out) fx HLE.out).mono ?_); rintro e w5 ⟨A5, c5, rfl, h5, hf5, hb5⟩; rw [HE.out, ← HLZ.out] at h5 ⊢; have H5 := Aside0.mk h5; have HF5 := Aside0.mk (show ∀ ad, A5 = some ad → w.heap.size + 3 ≤ ad.block from fun ad e => Nat.le_trans (Nat.le_of_eq NS.out.symm) (hf5 ad e)); have B0 := Aside0.mk ((hb5.block _ (blk_lt N0.out)).trans N0.out); have B1 := Aside0.mk ((hb5.block _ (blk_lt N1.out)).trans N1.out); have B2 := Aside0.mk ((hb5.block _ (blk_lt N2.out)).trans N2.out); have k0 := blk_cell B0.out 0; have k1 := blk_cell B1.out 0; have HB5 := Aside0.mk (NB.out.trans ⟨hb5.os, hb5.tape, hb5.output, hb5.size, fun k hk => hb5.block k (Nat.lt_of_lt_of_le hk NB.out.size)⟩); clear h5 hf5 hb5)
    | (go_at_call 43; (with_reducible refine (ref_make2 p H5.out z HXX.out).mono ?_); rintro e w6 ⟨rfl, h6, hb6⟩; obtain ⟨s, hs⟩ : ∃ s, s = decide (z < 0) := ⟨_, rfl⟩; rw [← hs, ← HLZ.out]; have HS := Aside0.mk hs; rw [← HLZ.out] at h6; obtain ⟨f1, f2, f3, f4, f5⟩ := res2 (v0 := .bool s) (v1 := .slice A5 lz.length c5) ((hb6.block _ (blk_lt B2.out)).trans B2.out); have H6 := Aside0.mk h6; have F5 := Aside0.mk f5; have HB6 := Aside0.mk (HB5.out.trans ⟨hb6.os, hb6.tape, hb6.output, hb6.size, fun k hk => hb6.block k (Nat.lt_of_lt_of_le hk HB5.out.size)⟩); clear h6 hb6 hs f5))
  all_goals
    go_wp2_with (fail)
    refine bodyPost_ret (results_cell_row rfl _ _ (w.heap.size + 2) 81 _ (0, 0) _ rfl F5.out Try.underlying81 rfl (by kernel_rfl)) rfl ?_
    exact ⟨_, rfl, ⟨A5, c5, by rw [← HS.out, ← HLZ.out], by rw [← HLZ.out]; exact H6.out.keep keep_set2 (fun ad e => by have := HF5.out ad e; omega)⟩, HB6.out.trans (keep_set2.below HB6.out.size (fun k hk => by omega))⟩
set_option maxHeartbeats 3200000 in
set_option maxRecDepth 4000 in
theorem AddN_lt {w : World} {A B : Option Addr} {c d : Nat} {lx ly lz : List Int} (p q : Bool) (z : Int) (hl : Lm w A c lx) (hm : Lm w B d ly) (fx : lx.length ≤ 1048576) (fy : ly.length ≤ 1048576) (hlz : lz = limbs z.natAbs) (en : (valL ly - valL lx).toNat = z.natAbs) (hle : valL lx < valL ly) (hpq : (p == q) = false) (hxx : z = if q then - valL lz else valL lz) :
    Calls Try.prog 30 #[.agg #[.bool p, .slice A lx.length c], .agg #[.bool q, .slice B ly.length d]] w fun e w' => ∃ v, e = .returned v ∧ NumV w' v z ∧ Below w.heap.size w w' := by
  obtain ⟨n0, n1, n2, nb, ns⟩ := new3 w (.cells #[.bool p, .slice A lx.length c] 81 (0, 0)) (.cells #[.bool q, .slice B ly.length d] 81 (0, 0)) (.cells #[.bool false, .slice none 0 0] 81 (0, 0))
  have HL := Aside0.mk (show ∀ W, Below w.heap.size w W → Lm W A c lx from fun W hb => hl.below hb)
  have HM := Aside0.mk (show ∀ W, Below w.heap.size w W → Lm W B d ly from fun W hb => hm.below hb)
  have HXX := Aside0.mk hxx
  have HE := Aside0.mk en
  have HLZ := Aside0.mk hlz
  have N0 := Aside0.mk n0
  have N1 := Aside0.mk n1
  have N2 := Aside0.mk n2
  have NA := Aside0.mk nb
  have NS := Aside0.mk ns
  have HC := Aside0.mk (ref_cmpL (hl.below nb) (hm.below nb))
  have HLE := Aside0.mk (Int.le_of_lt hle)
  have HSG := Aside0.mk (show sgn (valL lx - valL ly) = -1 from sgn_neg (by omega))
  clear hle
  clear hl hm en hxx hlz n0 n1 n2 nb ns
  go_enter Try.func30, Try.ntmps30
  go_upto_region 5 with (first | (go_at_call 44; (with_reducible refine (HC.out).mono ?_); rintro e w4 ⟨rfl, ⟨m, rfl⟩⟩; rw [HSG.out]; have NB := Aside0.mk (show Below w.heap.size w ((((w.alloc (.cells #[.bool p, .slice A lx.length c] 81 (0, 0))).alloc (.cells #[.bool q, .slice B ly.length d] 81 (0, 0))).alloc (.cells #[.bool false, .slice none 0 0] 81 (0, 0))).drewN (m + 1)) from pw_below_drewN NA.out (m + 1))))
  go_region_with (first
    | (go_at_call 46; (with_reducible refine (ref_subL (HM.out _ NB.out) (HL.out _ NB.out) fy HLE.out).mono ?_); rintro e w5 ⟨A5, c5, rfl, h5, hf5, hb5⟩; rw [HE.out, ← HLZ.out] at h5 ⊢; have H5 := Aside0.mk h5; have HF5 := Aside0.mk (show ∀ ad, A5 = some ad → w.heap.size + 3 ≤ ad.block from fun ad e => Nat.le_trans (Nat.le_of_eq NS.out.symm) (hf5 ad e)); have B0 := Aside0.mk ((hb5.block _ (blk_lt N0.out)).trans N0.out); have B1 := Aside0.mk ((hb5.block _ (blk_lt N1.out)).trans N1.out); have B2 := Aside0.mk ((hb5.block _ (blk_lt N2.out)).trans N2.out); have k0 := blk_cell B0.out 0; have k1 := blk_cell B1.out 0; have HB5 := Aside0.mk (NB.out.trans ⟨hb5.os, hb5.tape, hb5.output, hb5.size, fun k hk => hb5.block k (Nat.lt_of_lt_of_le hk NB.out.size)⟩); clear h5 hf5 hb5)
    | (go_at_call 43; (with_reducible refine (ref_make2 q H5.out z HXX.out).mono ?_); rintro e w6 ⟨rfl, h6, hb6⟩; obtain ⟨s, hs⟩ : ∃ s, s = decide (z < 0) := ⟨_, rfl⟩; rw [← hs, ← HLZ.out]; have HS := Aside0.mk hs; rw [← HLZ.out] at h6; obtain ⟨f1, f2, f3, f4, f5⟩ := res2 (v0 := .bool s) (v1 := .slice A5 lz.length c5) ((hb6.block _ (blk_lt B2.out)).trans B2.out); have H6 := Aside0.mk h6; have F5 := Aside0.mk f5; have HB6 := Aside0.mk (HB5.out.trans ⟨hb6.os, hb6.tape, hb6.output, hb6.size, fun k hk => hb6.block k (Nat.lt_of_lt_of_le hk HB5.out.size)⟩); clear h6 hb6 hs f5))
  all_goals
    go_wp2_with (fail)
    refine bodyPost_ret (results_cell_row rfl _ _ (w.heap.size + 2) 81 _ (0, 0) _ rfl F5.out Try.underlying81 rfl (by kernel_rfl)) rfl ?_
    exact ⟨_, rfl, ⟨A5, c5, by rw [← HS.out, ← HLZ.out], by rw [← HLZ.out]; exact H6.out.keep keep_set2 (fun ad e => by have := HF5.out ad e; omega)⟩, HB6.out.trans (keep_set2.below HB6.out.size (fun k hk => by omega))⟩
theorem ref_AddN {w : World} {u v : Value} {x y : Int} (hx : NumV w u x) (hy : NumV w v y) (fx : fewL x) (fy : fewL y) :
    Calls Try.prog 30 #[u, v] w fun e w' => ∃ v, e = .returned v ∧ NumV w' v (x + y) ∧ Below w.heap.size w w' := by
  obtain ⟨A, c, rfl, hl⟩ := hx
  obtain ⟨B, d, rfl, hm⟩ := hy
  have vx := limbs_val x.natAbs
  have vy := limbs_val y.natAbs
  have vz := limbs_val (x + y).natAbs
  by_cases hx0 : x < 0
  · rw [decide_eq_true hx0]
    by_cases hy0 : y < 0
    · rw [decide_eq_true hy0]
      exact AddN_same true true (x + y) hl hm fx fy rfl (by omega) rfl (by rw [vz]; simp only [if_true]; omega)
    · rw [decide_eq_false hy0]
      by_cases hle : (y.natAbs : Int) ≤ x.natAbs
      · exact AddN_ge true false (x + y) hl hm fx fy rfl (by omega) (by omega) rfl (by rw [vz]; simp only [if_true]; omega)
      · exact AddN_lt true false (x + y) hl hm fx fy rfl (by omega) (by omega) rfl (by rw [vz]; simp only [Bool.false_eq_true, if_false]; omega)
  · rw [decide_eq_false hx0]
    by_cases hy0 : y < 0
    · rw [decide_eq_true hy0]
      by_cases hle : (y.natAbs : Int) ≤ x.natAbs
      · exact AddN_ge false true (x + y) hl hm fx fy rfl (by omega) (by omega) rfl (by rw [vz]; simp only [Bool.false_eq_true, if_false]; omega)
      · exact AddN_lt false true (x + y) hl hm fx fy rfl (by omega) (by omega) rfl (by rw [vz]; simp only [if_true]; omega)
    · rw [decide_eq_false hy0]
      exact AddN_same false false (x + y) hl hm fx fy rfl (by omega) rfl (by rw [vz]; simp only [Bool.false_eq_true, if_false]; omega)
end Go.Proofs.Ytadmigijbfdboaa.Q
