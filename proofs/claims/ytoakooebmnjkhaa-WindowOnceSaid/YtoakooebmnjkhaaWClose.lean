import Derived.Test.YtoakooebmnjkhaaWOpen
namespace Go.Proofs.Ytoakooebmnjkhaa.Q
open Go.RowKit Go.Proofs.YtoakooebmnjkhaaW.PrintWords Go.Proofs.YtoakooebmnjkhaaW.PrintLast Go.Proofs.YtoakooebmnjkhaaW.PrintMore Go.Proofs.YtoakooebmnjkhaaV
set_option linter.unusedVariables false
set_option linter.unusedSimpArgs false

set_option maxHeartbeats 12800000 in
set_option maxRecDepth 4000 in
theorem book_Close {w : World} {gb gm : Nat} {b : BkS} (h : BkAt w gb gm b) (m : Int) (hm : in64 m) {l0 : List Int} {b' : BkS} (hc : closeP b m = (l0, b')) :
    Calls Try.prog 26 #[.pointer (some ⟨gb, 0, none⟩), .int .i64 m] w fun e w' => ∃ A c, e = .returned (.slice A l0.length c) ∧ Kd.R (Kd.int .i64) 2 w' w.heap.size (fun _ => True) (.slice A l0.length c) l0 ∧ BkAt w' gb gm b' ∧ Keep w w' (fun k => k = gb ∨ k = gm) := by
  have HM := Aside0.mk (book_made h)
  have HK := Aside0.mk h
  have c0 := blk_cell h.blk 0
  have c1 := blk_cell h.blk 1
  have c2 := blk_cell h.blk 2
  have hd := div_in64 hm h.ok.wd.1
  have hok := closeP_ok h.ok hm
  rw [hc] at hok
  have HOK := Aside0.mk hok
  have hthr := fun {a e : Int} => @win_Through m b.wd w hm h.ok.wd a e
  unfold closeP at hc
  obtain ⟨q, hq⟩ : ∃ q, q = m / b.wd := ⟨_, rfl⟩
  rw [← hq] at hc hthr hd
  by_cases h1 : q = -9223372036854775808
  · rw [if_pos h1] at hc
    obtain ⟨rfl, rfl⟩ := Prod.mk.inj hc
    have HT := Aside0.mk (hthr (by rw [if_pos h1]))
    clear h hc hq hd hok h1 hthr
    go_enter Try.func26, Try.ntmps26
    go_wp2_with (first
      | (go_at_call 38; (with_reducible refine (HM.out).mono ?_); rintro e w' ⟨rfl, rfl⟩)
      | (go_at_call 15; (with_reducible refine (HT.out).mono ?_); rintro e w' ⟨rfl, rfl⟩))
    go_ret
    exact ⟨none, 0, rfl, Kd.R_nil _ _ _ _ _, HK.out, Keep.refl _ _⟩
  · rw [if_neg h1] at hc
    have HT := Aside0.mk (hthr (by rw [if_neg h1]))
    obtain ⟨id, hid⟩ : ∃ id, id = q - 1 := ⟨_, rfl⟩
    rw [← hid] at hc HT
    by_cases h2 : id ≤ b.bound
    · rw [if_pos h2] at hc
      obtain ⟨rfl, rfl⟩ := Prod.mk.inj hc
      have d2 : decide (id ≤ b.bound) = true := decide_eq_true h2
      clear h hc hq hd hok h1 h2 hthr hid
      go_enter Try.func26, Try.ntmps26
      go_wp2_with (first
        | (go_at_call 38; (with_reducible refine (HM.out).mono ?_); rintro e w' ⟨rfl, rfl⟩)
        | (go_at_call 15; (with_reducible refine (HT.out).mono ?_); rintro e w' ⟨rfl, rfl⟩))
      go_ret
      exact ⟨none, 0, rfl, Kd.R_nil _ _ _ _ _, HK.out, Keep.refl _ _⟩
    · rw [if_neg h2] at hc
      obtain ⟨hl0, hb'⟩ := Prod.mk.inj hc
      have HL0 := Aside0.mk hl0
      have HB' := Aside0.mk hb'
      have d2 : decide (id ≤ b.bound) = false := decide_eq_false h2
      have f2 := blk_frozen h.blk 2
      have HRI := Aside0.mk h.ok.rise
      have hll := h.ok.len
      obtain ⟨W1, hW1⟩ : ∃ W1, W1 = w.setCell ⟨gb, 2, none⟩ (.int .i64 id) := ⟨_, rfl⟩
      have hblk : W1.heap[gb]? = some (.cells #[.int .i64 b.wd, .map (some gm), .int .i64 id] 39 (0, 0)) := by rw [hW1]; exact blk_put h.blk 2 _ rfl
      have hk1 : Keep w W1 (fun k => k = gb) := by rw [hW1]; exact (Keep.refl _ _).set _ _ (.inl rfl)
      have HBL := Aside0.mk hblk
      have HK1 := Aside0.mk hk1
      obtain ⟨D, hown, hS⟩ := h.map
      have HI0 := Aside0.mk (CloseI.start hS id)
      have HSZ := Aside0.mk hS.size
      have HOWN := Aside0.mk (show W1.ownsMap Try.prog 2 unitElem gm b.L.length D by rw [hW1]; exact hown.setCell h.ne.symm _)
      have HSZ1 := Aside0.mk (show W1.heap.size = w.heap.size by rw [hW1]; simp)
      have hgl : gb < w.heap.size ∧ gm < w.heap.size := ⟨blk_lt h.blk, h.map.lt⟩
      obtain ⟨hgl1, hgl2⟩ := hgl
      have hne := h.ne
      have k1 := blk_cell hblk 1
      have HW1 := Aside0.mk hW1
      clear h hc hq hd hok h1 h2 hthr hid hown hS hblk hk1 hW1 hl0 hb'
      go_enter Try.func26, Try.ntmps26
      go_upto_region 8 with (first
        | (go_at_call 38; (with_reducible refine (HM.out).mono ?_); rintro e w' ⟨rfl, rfl⟩)
        | (go_at_call 15; (with_reducible refine (HT.out).mono ?_); rintro e w' ⟨rfl, rfl⟩))
      rw [← HW1.out]
      go_wp2_with (first
        | (at_range; refine wpList_range_own _ rfl _ 37 rfl 2 60 k64 Try.underlying37 unitElem gm b.L.length D rfl HOWN.out ?_; intro w2 hrg hg2 hs2; rw [HSZ.out] at hrg; have HRG := Aside0.mk hrg; have HBL2 := Aside0.mk ((hg2.block gb (blk_lt HBL.out) (by simp)).trans HBL.out); have HKP2 := Aside0.mk (show Keep W1 w2 (fun k => k = gm) from (grown_k hg2).mono (fun k _ q => (by cases q))); clear hrg hg2 hs2))
      go_frame
      obtain ⟨r, hr⟩ : ∃ r, r = W1.heap.size := ⟨_, rfl⟩
      rw [← hr] at HRG ⊢
      have HR0 := Aside0.mk hr
      clear hr
      clear c0 c1 c2 k1 f2 HOWN d2 HBL HW1
      go_loopg [7] b.L.length (fun kq v7 w' => ∃ (l : List Int) (A : Option Addr) (c : Nat) (left : Lit → Bool) (D : DataW Unit), v7 = .slice A l.length c ∧ l.length + kq ≤ b.L.length ∧ Aside0 (w'.ranges Try.prog 2 unitElem gm r b.L.length D left kq) ∧ Aside0 (CloseI b.L id left l D) ∧ Aside0 (Kd.R (Kd.int .i64) 2 w' w.heap.size (fun _ => True) (.slice A l.length c) l) ∧ Aside0 (Keep W1 w' (fun k => k = gm)) ∧ Aside0 (w'.heap[gb]? = some (.cells #[.int .i64 b.wd, .map (some gm), .int .i64 id] 39 (0, 0))))
      case atStart => exact ⟨[], none, 0, _, D, rfl, by simp, HRG, HI0, ⟨Kd.R_nil _ _ _ _ _⟩, HKP2, HBL2⟩
      case round =>
        clear HRG HKP2 HBL2 HI0 HSZ
        obtain ⟨l, A, c, left, D, rfl, hle, HRG, HI, HR, HKP, HBL⟩ := hrel
        have k1 := blk_cell HBL.out 1
        go_wp2_with (first
          | (at_next; refine wpList_next_ranges (α := Int) (β := Unit) _ rfl _ rfl 2 k64 unitElem (Value.int .i64) (fun _ => Value.agg #[]) inv_key inv_unit gm r b.L.length D left gk rfl HRG.out ?_ ?_))
        · intro hc0 hl0
          obtain ⟨hd1, hd2⟩ := HI.out.done HRI.out hl0
          have HL := Aside0.mk (show l.length = l0.length by rw [← HL0.out, ← hd1, List.length_mergeSort])
          have HD := Aside0.mk (hd1.trans HL0.out)
          have HM2 := Aside0.mk (MapIs.tight HRG.out.owns hd2)
          have hl6 : l.length ≤ 1000000 := by omega
          clear hl0 hd1 hd2 k1
          go_wp2_with (first
            | (go_at_call 39; (with_reducible refine (win_sort HR.out hl6).mono ?_); rintro e w3 ⟨rfl, hr3, hk3⟩; have HR3 := Aside0.mk hr3; have HK3 := Aside0.mk hk3; clear hr3 hk3))
          go_ret
          have h3 := HR3.out
          rw [HD.out] at h3
          rw [← HL.out]
          have hlow : ∀ k, (Value.slice A l.length c).ownBlock = some k → w.heap.size ≤ k := fun k e => own_base (Kd.own_of_R HR.out) k e
          refine ⟨A, c, rfl, by rw [HL.out] at h3 ⊢; exact h3, ⟨?_, ?_, HOK.out⟩, ?_⟩
          · rw [← HB'.out]
            exact (HK3.out.block gb (blk_lt HBL.out) (fun e => by have := hlow _ e; omega)).trans HBL.out
          · rw [← HB'.out]
            exact HM2.out.keep HK3.out (fun e => by have := hlow _ e; omega)
          · refine (HK1.out.mono (fun k _ q => .inl q)).trans (HKP.out.mono (fun k _ q => .inr q)) (fun _ _ q => q) (fun _ _ q => q) |>.trans HK3.out (fun _ _ q => q) (fun k hk e => ?_)
            have := hlow k e
            omega
        · intro x cu kl y w3 cnt3 hkx hlx hvx hat hrg3 hlt3 hg3 hs3 hen
          obtain ⟨rfl, hx64⟩ := key_is hkx
          have hap := row_apart HRG.out HR.out
          have HRG3 := Aside0.mk hrg3
          have HR3 := Aside0.mk (R_keep HR.out (grown_k hg3) (fun k e q => hap.2 (by rw [← q]; exact e.symm)))
          have HKP3 := Aside0.mk (HKP.out.trans (grown_k hg3) (fun _ _ q => q) (fun k hk q => by injection q with q; have := HR0.out; omega))
          have HBL3 := Aside0.mk ((hg3.block gb (blk_lt HBL.out) (fun q => by injection q with q; have := HR0.out; have := HSZ1.out; omega)).trans HBL.out)
          have HAP := Aside0.mk (row_apart hrg3 HR3.out)
          by_cases hxi : x ≤ id
          · have d3 : decide (x ≤ id) = true := decide_eq_true hxi
            have HI3 := Aside0.mk (HI.out.take HRI.out hlx hxi)
            clear hkx hlx hvx hat hrg3 hg3 hs3 hap hxi k1
            have k3 := blk_cell HBL3.out 1
            have hkey := key64 hx64
            go_wp2_with (first
              | ((with_reducible refine gate_builtin (b := .append) (xs := #[.tmp 47, .tmp 49]) rfl ?_); at_builtin; refine Kd.R_append (Kd.int .i64) (w0 := w3) w.heap.size rfl (.tmp 47) (.tmp 49) 30 2 (.int .i64 0) 8 rfl Try.underlying30 info64 rfl (by decide) (by omega) (.slice A l.length c) l x [.int .i64 x] (fun _ => True) (fun _ => False) rfl rfl ?aP (fun _ hk => hk.elim) ?aF ?aO ?aB ?aS ?aL ?_; (case aP => exact rfl); (case aB => exact ⟨rfl, rfl, rfl, Nat.le_refl _, fun _ _ => rfl⟩); (case aF => exact (fun _ _ => trivial)); (case aO => exact HR3.out); (case aS => have := HKP3.out.size; have := HSZ1.out; omega); (case aL => omega); intro v5 w5 ho5 hb5 hg5 hat5; obtain ⟨A5, c5, ev5⟩ := Kd.R_slice ho5; subst ev5; have HO5 := Aside0.mk ho5; have HRG5 := Aside0.mk (HRG3.out.kept hg5 HAP.out.1 HAP.out.2); have hlow5 : ∀ k, (Value.slice A l.length c).ownBlock = some k → w.heap.size ≤ k := (fun k e => own_base (Kd.own_of_R HR3.out) k e); have HKP5 := Aside0.mk (HKP3.out.trans (grown_k hg5) (fun _ _ q => q) (fun k hk q => (by have := hlow5 k q.symm; have := HSZ1.out; omega))); have HBL5 := Aside0.mk ((hg5.block gb (blk_lt HBL3.out) (fun q => (by have := hlow5 _ q.symm; omega))).trans HBL3.out); have HAP5 := Aside0.mk (row_apart HRG5.out ho5); have k5 := blk_cell HBL5.out 1; clear ho5 hb5 hg5 hat5 hlow5)
              | (at_delete; refine wpList_delete_ranges _ rfl _ _ 37 2 rfl 60 k64 Try.underlying37 unitElem gm r b.L.length D _ cnt3 rfl HRG5.out (.int .i64 x) (kI x) rfl hkey ?_; intro w6 cnt6 hrg6 hle6 hturn6; rw [Maps.strike_twice] at hrg6; have HRG6 := Aside0.mk hrg6; have hk6 := turned_keep hturn6; have HO6 := Aside0.mk (R_keep HO5.out hk6 (fun k e q => HAP5.out.1 (by rw [← q]; exact e.symm))); have HKP6 := Aside0.mk (HKP5.out.trans hk6 (fun _ _ q => q) (fun _ _ q => q)); have HBL6 := Aside0.mk ((hk6.block gb (blk_lt HBL5.out) hne).trans HBL5.out); clear hrg6 hturn6 hk6))
            go_roundg cnt6
            case rel => exact ⟨l ++ [x], A5, c5, _, _, by rw [List.length_append, List.length_singleton], by rw [List.length_append, List.length_singleton]; omega, HRG6, HI3, HO6, HKP6, HBL6⟩
            case measure => omega
          · have d3 : decide (x ≤ id) = false := decide_eq_false hxi
            have HI3 := Aside0.mk (HI.out.keep hlx hxi)
            clear hkx hlx hvx hat hrg3 hg3 hs3 hap hxi k1 hx64
            go_wp2_with (fail)
            go_roundg cnt3
            case rel => exact ⟨l, A, c, _, D, rfl, by omega, HRG3, HI3, HR3, HKP3, HBL3⟩
            case measure => omega
end Go.Proofs.Ytoakooebmnjkhaa.Q
