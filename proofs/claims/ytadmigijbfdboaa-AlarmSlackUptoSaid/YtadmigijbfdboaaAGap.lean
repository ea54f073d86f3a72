import Derived.Test.YtadmigijbfdboaaAFeed
namespace Go.Proofs.Ytadmigijbfdboaa.Q
open Go.RowKit Go.Proofs.YtadmigijbfdboaaW.PrintWords Go.Proofs.YtadmigijbfdboaaW.PrintLast Go.Proofs.YtadmigijbfdboaaW.PrintMore Go.Proofs.YtadmigijbfdboaaV
set_option linter.unusedVariables false
set_option linter.unusedSimpArgs false

set_option maxHeartbeats 6400000 in
set_option maxRecDepth 4000 in
theorem book_Feed_gap {w : World} {B gb : Nat} {A : Option Addr} {c : Nat} {L : List Ent} (h : BookAt w B gb A c L) (hB : B ≤ w.heap.size) (name : ByteArray) (at_ val : Int) (hL : L.length ≤ 1000000) {i : Nat} {g : Nat} {r : Rul} {s : Stt} (hi : idxP L name = some i) (hx : L[i]? = some (g, r, s)) (ok : RulOk r) (sok : SttOk s) (hat : inT at_) (hpast : (s.any && decide (at_ ≤ s.last)) = false) :
    Calls Try.prog 11 #[.pointer (some ⟨gb, 0, none⟩), .string name, .int .i64 at_, .agg #[.bool false, .int .i64 (hiW val), .int .u64 (loW val)]] w fun e w' => ∃ A' c', e = .returned (.tuple #[.slice A' (alertsP r (stepP r s at_ false val) at_ false 0).length c', .int .i64 0]) ∧ AlrsAt w' A' (alertsP r (stepP r s at_ false val) at_ false 0) ∧ (∀ ad, A' = some ad → w.heap.size ≤ ad.block) ∧ BookAt w' B gb A c (L.set i (g, r, saidP r (stepP r s at_ false val) at_)) ∧ Keep w w' (fun k => ∃ x ∈ L, k = x.1) := by
  obtain ⟨va, hva⟩ : ∃ a, a = hiW val := ⟨_, rfl⟩
  obtain ⟨vb, hvb⟩ : ∃ a, a = loW val := ⟨_, rfl⟩
  rw [← hva, ← hvb]
  clear hva hvb
  obtain ⟨W, hW⟩ : ∃ W, W = w.alloc (.cells #[.bool false, .int .i64 va, .int .u64 vb] 37 (0, 0)) := ⟨_, rfl⟩
  have n0 : W.heap[w.heap.size]? = some (.cells #[.bool false, .int .i64 va, .int .u64 vb] 37 (0, 0)) := by rw [hW]; exact heap_alloc_new _ _
  have hb : Below w.heap.size w W := by rw [hW]; exact (Below.refl _ _).alloc (Nat.le_refl _) _
  have hBW := h.quiet (below_keep hb)
  have HF := Aside0.mk (book_find hBW name hL)
  obtain ⟨x', hx', hn, hvv⟩ := idxP_lt hi
  rw [hx] at hx'
  injection hx' with hx'
  subst hx'
  rw [hvv] at HF
  have hxm : (g, r, s) ∈ L := List.mem_of_getElem? hx
  have hR : RuleAt W g r s (respV g s.state) := (hBW.rules _ hxm).1
  have hge : B ≤ g := (h.rules _ hxm).2
  have hgl : g < w.heap.size := blk_lt (h.rules _ hxm).1
  have hne : g ≠ w.heap.size := by omega
  have hne' : w.heap.size ≠ g := by omega
  have hR2 : W.heap[g]? = some (.cells (ruleCells r s (respV g s.state)) 76 (0, 0)) := hR
  have c1 : W.cell? ⟨gb, 1, none⟩ = some (.bool true) := blk_cell hBW.blk 1
  have q1 : W.cell? ⟨g, 18, none⟩ = some (.bool s.any) := blk_cell hR2 18
  have q2 : W.cell? ⟨g, 17, none⟩ = some (.int .i64 s.last) := blk_cell hR2 17
  have f1 := blk_frozen hR2 18
  unfold ruleCells at hR2
  have h2 := blk_put hR2 18 (.bool true) rfl
  have q3 := blk_cell h2 17
  have f3 := blk_frozen h2 17
  have h3 := blk_put h2 17 (.int .i64 at_) rfl
  have m1 := set_aside (i := 18) n0 hne' (.bool true)
  have m2 := set_aside (i := 17) m1 hne' (.int .i64 at_)
  have b0 := blk_cell m2 0
  have g0 := blk_frozen m2 0
  have m3 := blk_put m2 0 (.bool false) rfl
  have b1 := blk_cell m3 1
  have g1 := blk_frozen m3 1
  have m4 := blk_put m3 1 (.int .i64 0) rfl
  have b2 := blk_cell m4 2
  have g2 := blk_frozen m4 2
  have m5 := blk_put m4 2 (.int .u64 0) rfl
  have h4 := set_aside (i := 2) (set_aside (i := 1) (set_aside (i := 0) h3 hne (.bool false)) hne (.int .i64 0)) hne (.int .u64 0)
  obtain ⟨U, hU⟩ : ∃ U, U = ((((W.setCell ⟨g, 18, none⟩ (.bool true)).setCell ⟨g, 17, none⟩ (.int .i64 at_)).setCell ⟨w.heap.size, 0, none⟩ (.bool false)).setCell ⟨w.heap.size, 1, none⟩ (.int .i64 0)).setCell ⟨w.heap.size, 2, none⟩ (.int .u64 0) := ⟨_, rfl⟩
  rw [← hU] at h4 m5
  have q4 : U.cell? ⟨g, 16, none⟩ = some (.int .i64 s.gaps) := blk_cell h4 16
  have f4 := blk_frozen h4 16
  have h5 := blk_put h4 16 (.int .i64 (s.gaps + 1)) rfl
  have q5 := blk_cell h5 14
  have f5 := blk_frozen h5 14
  have h6 := blk_put h5 14 (.int .i64 0) rfl
  have q6 := blk_cell h6 15
  have f6 := blk_frozen h6 15
  have h7 := blk_put h6 15 (.int .i64 0) rfl
  have m6 := set_aside (i := 15) (set_aside (i := 14) (set_aside (i := 16) m5 hne' (.int .i64 (s.gaps + 1))) hne' (.int .i64 0)) hne' (.int .i64 0)
  obtain ⟨V, hV⟩ : ∃ V, V = ((U.setCell ⟨g, 16, none⟩ (.int .i64 (s.gaps + 1))).setCell ⟨g, 14, none⟩ (.int .i64 0)).setCell ⟨g, 15, none⟩ (.int .i64 0) := ⟨_, rfl⟩
  rw [← hV] at h7 m6
  have HRV := Aside0.mk (show RuleS V g r { s with any := true, last := at_, gaps := s.gaps + 1, next := 0, points := 0 } from h7)
  have HKU : Keep w U (fun k => k = g) := by
    rw [hU]
    exact ((((((Keep.of_below (S := fun k => k = g) hb).set ⟨g, 18, none⟩ _ (.inl rfl)).set ⟨g, 17, none⟩ _ (.inl rfl)).set ⟨w.heap.size, 0, none⟩ _ (.inr (Nat.le_refl _))).set ⟨w.heap.size, 1, none⟩ _ (.inr (Nat.le_refl _))).set ⟨w.heap.size, 2, none⟩ _ (.inr (Nat.le_refl _)))
  have HKV := Aside0.mk (show Keep w V (fun k => k = g) by
    rw [hV]
    exact ((HKU.set ⟨g, 16, none⟩ _ (.inl rfl)).set ⟨g, 14, none⟩ _ (.inl rfl)).set ⟨g, 15, none⟩ _ (.inl rfl))
  have y1 : V.cell? ⟨g, 9, none⟩ = some (.int .i64 r.absent) := blk_cell h7 9
  have y2 : V.cell? ⟨g, 16, none⟩ = some (.int .i64 (s.gaps + 1)) := blk_cell h7 16
  have d1 : decide (at_ < 0) = false := decide_eq_false (by have := hat.1; omega)
  have d2 : decide (1099511627775 < at_) = false := decide_eq_false (by have := hat.2; omega)
  have hgaps := sok.gaps
  have HM := Aside0.mk m6
  have HU := Aside0.mk hU
  have HV := Aside0.mk hV
  have HW := Aside0.mk hW
  have HB := Aside0.mk h
  have HX := Aside0.mk hx
  obtain ⟨t, ht⟩ : ∃ t, t = stepP r s at_ false val := ⟨_, rfl⟩
  have hts : t.saidAt = s.saidAt := by rw [ht]; exact stepP_saidAt r s at_ false val
  have HT := Aside0.mk ht
  have HSAY := Aside0.mk (fun W' (hh : RuleS W' g r t) => rule_say W' g r t hh at_ false 0 hat (by rw [hts]; exact sok.saidAt))
  rw [← ht]
  rw [show hiW 0 = 0 from rfl, show loW 0 = 0 from rfl] at HSAY
  have dp : s.any = false ∨ (s.any = true ∧ decide (at_ ≤ s.last) = false) := by
    cases ha : s.any with
    | false => exact .inl rfl
    | true => rw [ha] at hpast; exact .inr ⟨rfl, by simpa using hpast⟩
  have dg : (t = enterS { s with any := true, last := at_, gaps := s.gaps + 1, next := 0, points := 0 } 4 ∧ 0 < r.absent ∧ r.absent ≤ s.gaps + 1) ∨ (t = { s with any := true, last := at_, gaps := s.gaps + 1, next := 0, points := 0 } ∧ ((0 < r.absent ∧ ¬ r.absent ≤ s.gaps + 1) ∨ ¬ 0 < r.absent)) := by
    rw [ht]
    unfold stepP
    rw [if_neg (by decide)]
    by_cases hq : 0 < r.absent ∧ r.absent ≤ s.gaps + 1
    · rw [if_pos hq]; exact .inl ⟨rfl, hq⟩
    · rw [if_neg hq]; exact .inr ⟨rfl, by omega⟩
  clear h hW n0 hb hBW hn hvv hR hR2 h2 h3 h4 h5 h6 h7 m1 m2 m3 m4 m5 m6 hU hV ht hpast hx hi hat HKU hts
  rcases dg with ⟨rfl, dg1, dg2⟩ | ⟨rfl, ⟨dg1, dg2⟩ | dg1⟩
  · have e1 : decide (0 < r.absent) = true := decide_eq_true dg1
    have e2 : decide (r.absent ≤ s.gaps + 1) = true := decide_eq_true dg2
    have HRd := Aside0.mk (fun m => show RuleAt (V.drewN m) g r { s with any := true, last := at_, gaps := s.gaps + 1, next := 0, points := 0 } (respV g s.state) from HRV.out)
    have HSs := Aside0.mk (fun W' (hh : RuleAt W' g r (enterS { s with any := true, last := at_, gaps := s.gaps + 1, next := 0, points := 0 } 4) (respV g 4)) => show RuleS W' g r (enterS { s with any := true, last := at_, gaps := s.gaps + 1, next := 0, points := 0 } 4) from hh)
    clear dg1 dg2
    rcases dp with dp | ⟨dp, dp2⟩
    all_goals
      rw [dp] at q1
      go_enter Try.func11, Try.ntmps11
      go_upto_region 1 with (fail)
      rw [← HW.out]
      go_upto_region 15 with (first | (go_at_call 25; (with_reducible refine (HF.out).mono ?_); rintro e w1 ⟨rfl, rfl⟩))
      rw [← HU.out]
      go_upto_region 17 with (fail)
      rw [← HV.out]
      go_quiet (fail)
      go_wp2_with (first
        | (go_at_call 26; (with_reducible refine (rule_enter _ g r _ _ (HRd.out nq) 4).mono ?_); rintro e w2 ⟨rfl, h2, hk2⟩; have HS2 := Aside0.mk h2; have HK2 := Aside0.mk ((HKV.out.drewN nq).trans hk2 (fun k _ h => h) (fun k _ h => h)); have hbx := (hk2.block w.heap.size (blk_lt HM.out) hne').trans HM.out; have z0 := blk_cell hbx 0; have z1 := blk_cell hbx 1; have z2 := blk_cell hbx 2; clear h2 hk2 hbx)
        | (go_at_call 27; (with_reducible refine (HSAY.out _ (HSs.out _ HS2.out)).mono ?_); rintro e w3 ⟨A', c', rfl, h3, hf3, hr3, hk3⟩; have HA3 := Aside0.mk h3; have HF3 := Aside0.mk hf3; have HS3 := Aside0.mk hr3; have HK3 := Aside0.mk (HK2.out.trans hk3 (fun k _ h => h) (fun k _ h => h)); have hz := HK2.out.size; clear h3 hf3 hr3 hk3))
      go_ret2
      refine ⟨A', c', rfl, HA3.out, fun ad e => Nat.le_trans hz (HF3.out ad e), HB.out.set HX.out HK3.out HS3.out, HK3.out.mono (fun k _ e => ⟨_, List.mem_of_getElem? HX.out, e⟩)⟩
  · have e1 : decide (0 < r.absent) = true := decide_eq_true dg1
    have e2 : decide (r.absent ≤ s.gaps + 1) = false := decide_eq_false dg2
    have HRs := Aside0.mk (fun m => show RuleS (V.drewN m) g r { s with any := true, last := at_, gaps := s.gaps + 1, next := 0, points := 0 } from HRV.out)
    have z0 := blk_cell HM.out 0
    have z1 := blk_cell HM.out 1
    have z2 := blk_cell HM.out 2
    clear dg1 dg2
    rcases dp with dp | ⟨dp, dp2⟩
    all_goals
      rw [dp] at q1
      go_enter Try.func11, Try.ntmps11
      go_upto_region 1 with (fail)
      rw [← HW.out]
      go_upto_region 15 with (first | (go_at_call 25; (with_reducible refine (HF.out).mono ?_); rintro e w1 ⟨rfl, rfl⟩))
      rw [← HU.out]
      go_upto_region 17 with (fail)
      rw [← HV.out]
      go_quiet (fail)
      go_wp2_with (first
        | (go_at_call 27; (with_reducible refine (HSAY.out _ (HRs.out nq)).mono ?_); rintro e w3 ⟨A', c', rfl, h3, hf3, hr3, hk3⟩; have HA3 := Aside0.mk h3; have HF3 := Aside0.mk hf3; have HS3 := Aside0.mk hr3; have HK3 := Aside0.mk ((HKV.out.drewN nq).trans hk3 (fun k _ h => h) (fun k _ h => h)); have hz := HKV.out.size; clear h3 hf3 hr3 hk3))
      go_ret2
      refine ⟨A', c', rfl, HA3.out, fun ad e => Nat.le_trans hz (HF3.out ad e), HB.out.set HX.out HK3.out HS3.out, HK3.out.mono (fun k _ e => ⟨_, List.mem_of_getElem? HX.out, e⟩)⟩
  · have e1 : decide (0 < r.absent) = false := decide_eq_false dg1
    have HRs := Aside0.mk (fun m => show RuleS (V.drewN m) g r { s with any := true, last := at_, gaps := s.gaps + 1, next := 0, points := 0 } from HRV.out)
    have z0 := blk_cell HM.out 0
    have z1 := blk_cell HM.out 1
    have z2 := blk_cell HM.out 2
    clear dg1
    rcases dp with dp | ⟨dp, dp2⟩
    all_goals
      rw [dp] at q1
      go_enter Try.func11, Try.ntmps11
      go_upto_region 1 with (fail)
      rw [← HW.out]
      go_upto_region 15 with (first | (go_at_call 25; (with_reducible refine (HF.out).mono ?_); rintro e w1 ⟨rfl, rfl⟩))
      rw [← HU.out]
      go_upto_region 17 with (fail)
      rw [← HV.out]
      go_quiet (fail)
      go_wp2_with (first
        | (go_at_call 27; (with_reducible refine (HSAY.out _ (HRs.out nq)).mono ?_); rintro e w3 ⟨A', c', rfl, h3, hf3, hr3, hk3⟩; have HA3 := Aside0.mk h3; have HF3 := Aside0.mk hf3; have HS3 := Aside0.mk hr3; have HK3 := Aside0.mk ((HKV.out.drewN nq).trans hk3 (fun k _ h => h) (fun k _ h => h)); have hz := HKV.out.size; clear h3 hf3 hr3 hk3))
      go_ret2
      refine ⟨A', c', rfl, HA3.out, fun ad e => Nat.le_trans hz (HF3.out ad e), HB.out.set HX.out HK3.out HS3.out, HK3.out.mono (fun k _ e => ⟨_, List.mem_of_getElem? HX.out, e⟩)⟩
end Go.Proofs.Ytadmigijbfdboaa.Q
