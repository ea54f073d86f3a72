/- The reference's Same: two patterns. -/
import Derived.Test.YtecfmmalbehcnaaDoorNRef1
namespace Go.Proofs.YtecfmmalbehcnaaDoor.Q
open Go.Shelf Go.RowKit Go.Proofs Go.Proofs.YtecfmmalbehcnaaDoorW.PrintWords Go.Proofs.YtecfmmalbehcnaaDoorW.PrintLast Go.Proofs.YtecfmmalbehcnaaDoorW.PrintMore Go.Proofs.YtecfmmalbehcnaaDoorV
set_option linter.unusedVariables false
set_option linter.unusedSimpArgs false

theorem eq_glob {g h : Gl} : g = h ↔ g.kind = h.kind ∧ g.text = h.text ∧ g.alts = h.alts := by
  constructor
  · rintro rfl; exact ⟨rfl, rfl, rfl⟩
  · cases g; cases h
    rintro ⟨h1, h2, h3⟩
    simp only at h1 h2 h3
    subst h1; subst h2; subst h3
    rfl
set_option maxHeartbeats 6400000 in
set_option maxRecDepth 100000 in
theorem ref_Same {w : World} {A B : Option Addr} {c d : Nat} {p q' : List (List Gl)} (hp : kNode.C w A p.length p) (hc : p.length ≤ c) (hq : kNode.C w B q'.length q') (hd : q'.length ≤ d) (hb : bulkP p ≤ 1048576) (hb2 : bulkP q' ≤ 1048576) :
    Calls Tryd.prog 18 #[.agg #[.slice A p.length c], .agg #[.slice B q'.length d]] w fun e w' => e = .returned (.bool (decide (p = q'))) ∧ Below w.heap.size w w' := by
  have hpl := bulkP_len p
  have hql := bulkP_len q'
  have HP := Aside0.mk hp
  have HQ := Aside0.mk hq
  have HB1 := Aside0.mk (below_alloc (Below.refl w.heap.size w) (.cells #[.slice A p.length c] 24))
  have HB := Aside0.mk (below_alloc HB1.out (.cells #[.slice B q'.length d] 24))
  have HX := Aside0.mk (blk_alloc (heap_alloc_new w (.cells #[.slice A p.length c] 24 (0, 0))) (.cells #[.slice B q'.length d] 24))
  have HY0 := heap_alloc_new (w.alloc (.cells #[.slice A p.length c] 24)) (.cells #[.slice B q'.length d] 24 (0, 0))
  have HY := Aside0.mk (show ((w.alloc (.cells #[.slice A p.length c] 24)).alloc (.cells #[.slice B q'.length d] 24)).heap[w.heap.size + 1]? = some (.cells #[.slice B q'.length d] 24 (0, 0)) by
    have e : (w.alloc (.cells #[.slice A p.length c] 24)).heap.size = w.heap.size + 1 := Array.size_push ..
    rwa [e] at HY0)
  have HBP := Aside0.mk hb
  have hpl2 : p.length ≤ 1048576 := by omega
  have hql2 : q'.length ≤ 1048576 := by omega
  clear hp hq HY0 hpl hql
  obtain ⟨w2, hw2⟩ : ∃ w2, w2 = (w.alloc (.cells #[.slice A p.length c] 24 (0, 0))).alloc (.cells #[.slice B q'.length d] 24 (0, 0)) := ⟨_, rfl⟩
  by_cases hl : p.length = q'.length
  · have HL := Aside0.mk hl
    rw [← hl] at HQ HB HX HY hd hw2 ⊢
    rw [← hw2] at HB HX HY
    have HW2 := Aside0.mk hw2
    clear hl hql2 hb2 hw2 HB1
    go_enter Tryd.func18, Tryd.ntmps18
    go_upto_region 1 with (fail)
    rw [← HW2.out]
    clear HW2
    have x0 : w2.cell? ⟨w.heap.size, 0, none⟩ = some (.slice A p.length c) := blk_cell HX.out 0
    have x1 : w2.cell? ⟨w.heap.size + 1, 0, none⟩ = some (.slice B p.length d) := blk_cell HY.out 0
    have d1 : (p.length != p.length) = false := by simp
    have d1' : ((p.length : Int) != (p.length : Int)) = false := by simp
    go_wp2
    go_loopg [5] p.length (fun kq v5 w' => ∃ k : Nat, v5 = .int .i64 (k : Int) ∧ k + kq = p.length ∧ Aside0 (p.take k = q'.take k) ∧ Aside0 (Below w.heap.size w w') ∧ Aside0 (w'.heap[w.heap.size]? = some (.cells #[.slice A p.length c] 24 (0, 0))) ∧ Aside0 (w'.heap[w.heap.size + 1]? = some (.cells #[.slice B p.length d] 24 (0, 0))))
    case atStart => exact ⟨0, rfl, by omega, ⟨rfl⟩, HB, HX, HY⟩
    case round =>
      obtain ⟨k, rfl, hkq, HT, HW, HX', HY'⟩ := hrel
      clear HB HX HY d1 d1'
      have x0 : wr.cell? ⟨w.heap.size, 0, none⟩ = some (.slice A p.length c) := blk_cell HX'.out 0
      have x1 : wr.cell? ⟨w.heap.size + 1, 0, none⟩ = some (.slice B p.length d) := blk_cell HY'.out 0
      cases gk with
      | succ k1 =>
        have hk : k < p.length := by omega
        have E9 := Aside0.mk (show k + 1 + k1 = p.length by omega)
        have d1 : decide ((k : Int) < (p.length : Int)) = true := decide_eq_true (by omega)
        obtain ⟨m, hm⟩ : ∃ m, p[k]? = some m := ⟨_, List.getElem?_eq_getElem (by omega)⟩
        obtain ⟨n, hn⟩ : ∃ n, q'[k]? = some n := ⟨_, List.getElem?_eq_getElem (by have := HL.out; omega)⟩
        obtain ⟨ad, Am, cm, rfl, q0, hcm, hCm⟩ := at_node (Kd.C_below HP.out HW.out) hm
        obtain ⟨bd, An, cn, rfl, r0, hcn, hCn⟩ := at_node (Kd.C_below HQ.out HW.out) hn
        have p0 : (0 ≤ (k : Int)) = True := eq_true (by omega)
        have p1 : ((k : Int) < (p.length : Int)) = True := eq_true (by omega)
        have hml : m.length ≤ 1048576 := by have h1 := bulkP_mem (List.mem_of_getElem? hm); have h2 := bulkN_len m; have := HBP.out; omega
        have HM := Aside0.mk hm
        have HN := Aside0.mk hn
        have HCM := Aside0.mk hCm
        have HCN := Aside0.mk hCn
        clear hm hn hCm hCn hkq
        by_cases hl2 : m.length = n.length
        · have HL2 := Aside0.mk hl2
          rw [← hl2] at r0 hcn HCN
          have d2 : (m.length != m.length) = false := by simp
          have d2' : ((m.length : Int) != (m.length : Int)) = false := by simp
          clear hl2
          go_upto_region 6 with (fail)
          go_quiet (fail)
          go_wp2
          have HWo := Aside0.mk (show Below w.heap.size w (wr.drewN nq) from pw_below_drewN HW.out _)
          have HXo := Aside0.mk (show (wr.drewN nq).heap[w.heap.size]? = some (.cells #[.slice (some ad) p.length c] 24 (0, 0)) from HX'.out)
          have HYo := Aside0.mk (show (wr.drewN nq).heap[w.heap.size + 1]? = some (.cells #[.slice (some bd) p.length d] 24 (0, 0)) from HY'.out)
          clear x0 x1 q0 r0 HCM HCN HX' HY' HW
          generalize wr.drewN nq = wo at HWo HXo HYo ⊢
          go_loopg [6] m.length (fun kq v6 w' => ∃ j : Nat, v6 = .int .i64 (j : Int) ∧ j + kq = m.length ∧ Aside0 (m.take j = n.take j) ∧ Aside0 (Below wo.heap.size wo w'))
          case atStart => exact ⟨0, rfl, by omega, ⟨rfl⟩, ⟨Below.refl _ _⟩⟩
          case round =>
            obtain ⟨j, rfl, hjq, HTj, HWj⟩ := hrel
            have HW := Aside0.mk (HWo.out.trans (HWj.out.mono HWo.out.size))
            have HX' := Aside0.mk (blk_below HXo.out HWj.out)
            have HY' := Aside0.mk (blk_below HYo.out HWj.out)
            have x0 : wr.cell? ⟨w.heap.size, 0, none⟩ = some (.slice (some ad) p.length c) := blk_cell HX'.out 0
            have x1 : wr.cell? ⟨w.heap.size + 1, 0, none⟩ = some (.slice (some bd) p.length d) := blk_cell HY'.out 0
            obtain ⟨ad2, Am2, cm2, ea, q0, hcm2, hCm⟩ := at_node (Kd.C_below HP.out HW.out) HM.out
            obtain ⟨bd2, An2, cn2, eb, r0, hcn2, hCn⟩ := at_node (Kd.C_below HQ.out HW.out) HN.out
            injection ea with ea
            injection eb with eb
            subst ea
            subst eb
            rw [← HL2.out] at r0 hcn2 hCn
            have HCM := Aside0.mk hCm
            have HCN := Aside0.mk hCn
            clear hCm hCn
            cases gk with
            | succ j1 =>
              have hj : j < m.length := by omega
              have E8 := Aside0.mk (show j + 1 + j1 = m.length by omega)
              have d3 : decide ((j : Int) < (m.length : Int)) = true := decide_eq_true (by omega)
              obtain ⟨g, hg⟩ : ∃ g, m[j]? = some g := ⟨_, List.getElem?_eq_getElem (by omega)⟩
              obtain ⟨h, hh⟩ : ∃ h, n[j]? = some h := ⟨_, List.getElem?_eq_getElem (by have := HL2.out; omega)⟩
              obtain ⟨gd, G2, gc, rfl, s0, s1, s2, hKg⟩ := at_glob HCM.out hg
              obtain ⟨hd', H2, hc', rfl, t0, t1, t2, hKh⟩ := at_glob HCN.out hh
              have p0 : (0 ≤ (k : Int)) = True := eq_true (by omega)
              have p1 : ((k : Int) < (p.length : Int)) = True := eq_true (by omega)
              have p2 : (0 ≤ (j : Int)) = True := eq_true (by omega)
              have p3 : ((j : Int) < (m.length : Int)) = True := eq_true (by omega)
              obtain ⟨na, hna⟩ : ∃ na, na = g.alts.length := ⟨_, rfl⟩
              obtain ⟨nb', hnb⟩ : ∃ nb', nb' = h.alts.length := ⟨_, rfl⟩
              rw [List.length_map, ← hna] at s2
              rw [List.length_map, ← hnb] at t2
              obtain ⟨kg, hkg⟩ : ∃ kg, kg = g.kind := ⟨_, rfl⟩
              obtain ⟨kh, hkh⟩ : ∃ kh, kh = h.kind := ⟨_, rfl⟩
              rw [← hkg] at s0
              rw [← hkh] at t0
              obtain ⟨xg, hxg⟩ : ∃ xg, xg = strB g.text := ⟨_, rfl⟩
              obtain ⟨xh, hxh⟩ : ∃ xh, xh = strB h.text := ⟨_, rfl⟩
              rw [← hxg] at s1
              rw [← hxh] at t1
              have NK := Aside0.mk (And.intro hkg hkh)
              have NX := Aside0.mk (And.intro hxg hxh)
              have NA := Aside0.mk (And.intro hna hnb)
              have HG := Aside0.mk hg
              have HH := Aside0.mk hh
              have HKG := Aside0.mk hKg
              have HKH := Aside0.mk hKh
              clear hjq hg hh hKg hKh hna hnb hkg hkh hxg hxh
              go_upto_region 11 with (fail)
              have n0 := World.new_ne wr _ x0
              have n1 := World.new_ne wr _ x1
              have n2 := World.new_ne wr _ q0
              have n3 := World.new_ne wr _ r0
              have n4 := World.new_ne wr _ s0
              have n5 := World.new_ne wr _ s1
              have n6 := World.new_ne wr _ s2
              have n7 := World.new_ne wr _ t0
              have n8 := World.new_ne wr _ t1
              have n9 := World.new_ne wr _ t2
              go_region_held3 (fun w' => w'.cell? ⟨w.heap.size, 0, none⟩ = some (.slice (some ad) p.length c) ∧ w'.cell? ⟨w.heap.size + 1, 0, none⟩ = some (.slice (some bd) p.length d) ∧ w'.cell? (ad.add k) = some (.slice (some gd) m.length cm2) ∧ w'.cell? (bd.add k) = some (.slice (some hd') m.length cn2) ∧ w'.cell? (gd.add (j * 3)) = some (.int .i64 kg) ∧ w'.cell? ⟨(gd.add (j * 3)).block, (gd.add (j * 3)).off + 1, none⟩ = some (.string xg) ∧ w'.cell? ⟨(gd.add (j * 3)).block, (gd.add (j * 3)).off + 2, none⟩ = some (.slice G2 na gc) ∧ w'.cell? (hd'.add (j * 3)) = some (.int .i64 kh) ∧ w'.cell? ⟨(hd'.add (j * 3)).block, (hd'.add (j * 3)).off + 1, none⟩ = some (.string xh) ∧ w'.cell? ⟨(hd'.add (j * 3)).block, (hd'.add (j * 3)).off + 2, none⟩ = some (.slice H2 nb' hc')) (go_keep) (fail)
              · have HA2 : ((wr.alloc (.cells #[.int .i64 kg, .string xg, .slice G2 na gc] 43 (0, 0))).alloc (.cells #[.int .i64 kh, .string xh, .slice H2 nb' hc'] 43 (0, 0))).heap[wr.heap.size + 1]? = some (.cells #[.int .i64 kh, .string xh, .slice H2 nb' hc'] 43 (0, 0)) := by
                  have q1 := heap_alloc_new (wr.alloc (.cells #[.int .i64 kg, .string xg, .slice G2 na gc] 43 (0, 0))) (.cells #[.int .i64 kh, .string xh, .slice H2 nb' hc'] 43 (0, 0))
                  have e : (wr.alloc (.cells #[.int .i64 kg, .string xg, .slice G2 na gc] 43 (0, 0))).heap.size = wr.heap.size + 1 := Array.size_push ..
                  rwa [e] at q1
                have HA1 := blk_alloc (heap_alloc_new wr (.cells #[.int .i64 kg, .string xg, .slice G2 na gc] 43 (0, 0))) (.cells #[.int .i64 kh, .string xh, .slice H2 nb' hc'] 43 (0, 0))
                have HD := below_drew (below_alloc (below_alloc (Below.refl wr.heap.size wr) (.cells #[.int .i64 kg, .string xg, .slice G2 na gc] 43 (0, 0))) (.cells #[.int .i64 kh, .string xh, .slice H2 nb' hc'] 43 (0, 0)))
                have FG := Aside0.mk (show ((wr.alloc (.cells #[.int .i64 kg, .string xg, .slice G2 na gc] 43 (0, 0))).alloc (.cells #[.int .i64 kh, .string xh, .slice H2 nb' hc'] 43 (0, 0))).drew.heap[wr.heap.size]? = some (.cells #[.int .i64 kg, .string xg, .slice G2 na gc] 43 (0, 0)) from HA1)
                have FH := Aside0.mk (show ((wr.alloc (.cells #[.int .i64 kg, .string xg, .slice G2 na gc] 43 (0, 0))).alloc (.cells #[.int .i64 kh, .string xh, .slice H2 nb' hc'] 43 (0, 0))).drew.heap[wr.heap.size + 1]? = some (.cells #[.int .i64 kh, .string xh, .slice H2 nb' hc'] 43 (0, 0)) from HA2)
                have HDD := Aside0.mk HD
                obtain ⟨a7, ha7⟩ : ∃ a7, a7 = wr.heap.size := ⟨_, rfl⟩
                obtain ⟨a8, ha8⟩ : ∃ a8, a8 = wr.heap.size + 1 := ⟨_, rfl⟩
                rw [← ha7] at FG
                rw [← ha8] at FH
                simp only [← ha8]
                simp only [← ha7]
                clear HA1 HA2 HD n0 n1 n2 n3 n4 n5 n6 n7 n8 n9 ha7 ha8 x0 x1 q0 r0 s0 s1 s2 t0 t1 t2
                generalize ((wr.alloc (.cells #[.int .i64 kg, .string xg, .slice G2 na gc] 43 (0, 0))).alloc (.cells #[.int .i64 kh, .string xh, .slice H2 nb' hc'] 43 (0, 0))).drew = wd at FG FH HDD ⊢
                have y0 : wd.cell? ⟨a7, 0, none⟩ = some (.int .i64 kg) := blk_cell FG.out 0
                have y1 : wd.cell? ⟨a7, 1, none⟩ = some (.string xg) := blk_cell FG.out 1
                have y2 : wd.cell? ⟨a7, 2, none⟩ = some (.slice G2 na gc) := blk_cell FG.out 2
                have z0 : wd.cell? ⟨a8, 0, none⟩ = some (.int .i64 kh) := blk_cell FH.out 0
                have z1 : wd.cell? ⟨a8, 1, none⟩ = some (.string xh) := blk_cell FH.out 1
                have z2 : wd.cell? ⟨a8, 2, none⟩ = some (.slice H2 nb' hc') := blk_cell FH.out 2
                have HWW := Aside0.mk (HW.out.trans (HDD.out.mono HW.out.size))
                have HNe := Aside0.mk (fun (q : g ≠ h) => show decide (p = q') = false from decide_eq_false (by
                  rintro rfl
                  have e := HN.out.symm.trans HM.out
                  injection e with e
                  subst e
                  have e := HH.out.symm.trans HG.out
                  injection e with e
                  exact q e.symm))
                by_cases k1h : kg = kh
                · have b1 : (kg != kh) = false := by rw [k1h]; simp
                  have b1' : (kg == kh) = true := by rw [k1h]; simp
                  by_cases x1h : xg = xh
                  · have b2 : (xg.toList != xh.toList) = false := by rw [x1h]; simp
                    have b2' : (xg.toList == xh.toList) = true := by rw [x1h]; simp
                    obtain ⟨G3, gc3, eg, lg, CG⟩ := kGl_open HKG.out
                    obtain ⟨H3, hc3, eh, lh, CH⟩ := kGl_open HKH.out
                    injection eg with _ eg
                    injection eg with _ eg
                    injection eg with eg _
                    injection eg with eg1 eg2 eg3
                    injection eh with _ eh
                    injection eh with _ eh
                    injection eh with eh _
                    injection eh with eh1 eh2 eh3
                    subst eg1; subst eg3; subst eh1; subst eh3
                    have HST := Aside0.mk (ref_SameTexts (Kd.C_below CG HDD.out) lg (Kd.C_below CH HDD.out) lh (by rw [List.length_map]; have h1 := bulkA_len g.alts; have h2 := bulkN_mem (List.mem_of_getElem? HG.out); have h3 := bulkP_mem (List.mem_of_getElem? HM.out); have := HBP.out; unfold bulkG at h2; omega))
                    rw [List.length_map, List.length_map, ← NA.out.1, ← NA.out.2] at HST
                    clear CG CH lg lh eg2 eh2
                    by_cases hal : g.alts = h.alts
                    · rw [decide_eq_true (show g.alts.map strB = h.alts.map strB by rw [hal])] at HST
                      have HTN := Aside0.mk (show m.take (j + 1) = n.take (j + 1) from take_eq_next HTj.out HG.out (by rw [HH.out, eq_glob.2 ⟨by rw [← NK.out.1, ← NK.out.2, k1h], strB_inj.1 (by rw [← NX.out.1, ← NX.out.2, x1h]), hal⟩]))
                      clear k1h x1h hal
                      go_wp2_with (fail)
                      refine (HST.out).mono ?_
                      rintro e w9 ⟨rfl, ⟨nd, rfl⟩⟩
                      have hm9 : j + 1 ≤ 1048576 := by omega
                      go_wp2_with (fail)
                      go_roundg j1
                      case rel => exact ⟨j + 1, by go_num, E8.out, HTN, ⟨pw_below_drewN (HWj.out.trans (HDD.out.mono HWj.out.size)) _⟩⟩
                      case measure => omega
                    · rw [decide_eq_false (fun e => hal (strB_map_inj.1 e))] at HST
                      have HNx := Aside0.mk (HNe.out (fun e => hal (by rw [e])))
                      clear k1h x1h hal
                      go_wp2_with (fail)
                      refine (HST.out).mono ?_
                      rintro e w9 ⟨rfl, ⟨nd, rfl⟩⟩
                      go_wp2_with (fail)
                      go_ret
                      exact ⟨by rw [HNx.out]; rfl, pw_below_drewN HWW.out _⟩
                  · have b2 : (xg.toList != xh.toList) = true := by rw [bne_iff_ne]; exact fun e => x1h (toList_inj e)
                    have b2' : (xg.toList == xh.toList) = false := beq_eq_false_iff_ne.2 (fun e => x1h (toList_inj e))
                    have HNx := Aside0.mk (HNe.out (fun e => x1h (by rw [NX.out.1, NX.out.2, e])))
                    clear k1h x1h
                    go_wp2_with (fail)
                    go_ret
                    exact ⟨by rw [HNx.out]; rfl, HWW.out⟩
                · have b1 : (kg != kh) = true := by rw [bne_iff_ne]; exact k1h
                  have b1' : (kg == kh) = false := beq_eq_false_iff_ne.2 k1h
                  have b1'' : (kg = kh) = False := eq_false k1h
                  have HNx := Aside0.mk (HNe.out (fun e => k1h (by rw [NK.out.1, NK.out.2, e])))
                  clear k1h
                  go_wp2_with (fail)
                  go_ret
                  exact ⟨by rw [HNx.out]; rfl, HWW.out⟩
              · have HA2 : ((wr.alloc (.cells #[.int .i64 kh, .string xh, .slice H2 nb' hc'] 43 (0, 0))).alloc (.cells #[.int .i64 kg, .string xg, .slice G2 na gc] 43 (0, 0))).heap[wr.heap.size + 1]? = some (.cells #[.int .i64 kg, .string xg, .slice G2 na gc] 43 (0, 0)) := by
                  have q1 := heap_alloc_new (wr.alloc (.cells #[.int .i64 kh, .string xh, .slice H2 nb' hc'] 43 (0, 0))) (.cells #[.int .i64 kg, .string xg, .slice G2 na gc] 43 (0, 0))
                  have e : (wr.alloc (.cells #[.int .i64 kh, .string xh, .slice H2 nb' hc'] 43 (0, 0))).heap.size = wr.heap.size + 1 := Array.size_push ..
                  rwa [e] at q1
                have HA1 := blk_alloc (heap_alloc_new wr (.cells #[.int .i64 kh, .string xh, .slice H2 nb' hc'] 43 (0, 0))) (.cells #[.int .i64 kg, .string xg, .slice G2 na gc] 43 (0, 0))
                have HD := below_drew (below_alloc (below_alloc (Below.refl wr.heap.size wr) (.cells #[.int .i64 kh, .string xh, .slice H2 nb' hc'] 43 (0, 0))) (.cells #[.int .i64 kg, .string xg, .slice G2 na gc] 43 (0, 0)))
                have FG := Aside0.mk (show ((wr.alloc (.cells #[.int .i64 kh, .string xh, .slice H2 nb' hc'] 43 (0, 0))).alloc (.cells #[.int .i64 kg, .string xg, .slice G2 na gc] 43 (0, 0))).drew.heap[wr.heap.size + 1]? = some (.cells #[.int .i64 kg, .string xg, .slice G2 na gc] 43 (0, 0)) from HA2)
                have FH := Aside0.mk (show ((wr.alloc (.cells #[.int .i64 kh, .string xh, .slice H2 nb' hc'] 43 (0, 0))).alloc (.cells #[.int .i64 kg, .string xg, .slice G2 na gc] 43 (0, 0))).drew.heap[wr.heap.size]? = some (.cells #[.int .i64 kh, .string xh, .slice H2 nb' hc'] 43 (0, 0)) from HA1)
                have HDD := Aside0.mk HD
                obtain ⟨a7, ha7⟩ : ∃ a7, a7 = wr.heap.size + 1 := ⟨_, rfl⟩
                obtain ⟨a8, ha8⟩ : ∃ a8, a8 = wr.heap.size := ⟨_, rfl⟩
                rw [← ha7] at FG
                rw [← ha8] at FH
                simp only [← ha7]
                simp only [← ha8]
                clear HA1 HA2 HD n0 n1 n2 n3 n4 n5 n6 n7 n8 n9 ha7 ha8 x0 x1 q0 r0 s0 s1 s2 t0 t1 t2
                generalize ((wr.alloc (.cells #[.int .i64 kh, .string xh, .slice H2 nb' hc'] 43 (0, 0))).alloc (.cells #[.int .i64 kg, .string xg, .slice G2 na gc] 43 (0, 0))).drew = wd at FG FH HDD ⊢
                have y0 : wd.cell? ⟨a7, 0, none⟩ = some (.int .i64 kg) := blk_cell FG.out 0
                have y1 : wd.cell? ⟨a7, 1, none⟩ = some (.string xg) := blk_cell FG.out 1
                have y2 : wd.cell? ⟨a7, 2, none⟩ = some (.slice G2 na gc) := blk_cell FG.out 2
                have z0 : wd.cell? ⟨a8, 0, none⟩ = some (.int .i64 kh) := blk_cell FH.out 0
                have z1 : wd.cell? ⟨a8, 1, none⟩ = some (.string xh) := blk_cell FH.out 1
                have z2 : wd.cell? ⟨a8, 2, none⟩ = some (.slice H2 nb' hc') := blk_cell FH.out 2
                have HWW := Aside0.mk (HW.out.trans (HDD.out.mono HW.out.size))
                have HNe := Aside0.mk (fun (q : g ≠ h) => show decide (p = q') = false from decide_eq_false (by
                  rintro rfl
                  have e := HN.out.symm.trans HM.out
                  injection e with e
                  subst e
                  have e := HH.out.symm.trans HG.out
                  injection e with e
                  exact q e.symm))
                by_cases k1h : kg = kh
                · have b1 : (kg != kh) = false := by rw [k1h]; simp
                  have b1' : (kg == kh) = true := by rw [k1h]; simp
                  by_cases x1h : xg = xh
                  · have b2 : (xg.toList != xh.toList) = false := by rw [x1h]; simp
                    have b2' : (xg.toList == xh.toList) = true := by rw [x1h]; simp
                    obtain ⟨G3, gc3, eg, lg, CG⟩ := kGl_open HKG.out
                    obtain ⟨H3, hc3, eh, lh, CH⟩ := kGl_open HKH.out
                    injection eg with _ eg
                    injection eg with _ eg
                    injection eg with eg _
                    injection eg with eg1 eg2 eg3
                    injection eh with _ eh
                    injection eh with _ eh
                    injection eh with eh _
                    injection eh with eh1 eh2 eh3
                    subst eg1; subst eg3; subst eh1; subst eh3
                    have HST := Aside0.mk (ref_SameTexts (Kd.C_below CG HDD.out) lg (Kd.C_below CH HDD.out) lh (by rw [List.length_map]; have h1 := bulkA_len g.alts; have h2 := bulkN_mem (List.mem_of_getElem? HG.out); have h3 := bulkP_mem (List.mem_of_getElem? HM.out); have := HBP.out; unfold bulkG at h2; omega))
                    rw [List.length_map, List.length_map, ← NA.out.1, ← NA.out.2] at HST
                    clear CG CH lg lh eg2 eh2
                    by_cases hal : g.alts = h.alts
                    · rw [decide_eq_true (show g.alts.map strB = h.alts.map strB by rw [hal])] at HST
                      have HTN := Aside0.mk (show m.take (j + 1) = n.take (j + 1) from take_eq_next HTj.out HG.out (by rw [HH.out, eq_glob.2 ⟨by rw [← NK.out.1, ← NK.out.2, k1h], strB_inj.1 (by rw [← NX.out.1, ← NX.out.2, x1h]), hal⟩]))
                      clear k1h x1h hal
                      go_wp2_with (fail)
                      refine (HST.out).mono ?_
                      rintro e w9 ⟨rfl, ⟨nd, rfl⟩⟩
                      have hm9 : j + 1 ≤ 1048576 := by omega
                      go_wp2_with (fail)
                      go_roundg j1
                      case rel => exact ⟨j + 1, by go_num, E8.out, HTN, ⟨pw_below_drewN (HWj.out.trans (HDD.out.mono HWj.out.size)) _⟩⟩
                      case measure => omega
                    · rw [decide_eq_false (fun e => hal (strB_map_inj.1 e))] at HST
                      have HNx := Aside0.mk (HNe.out (fun e => hal (by rw [e])))
                      clear k1h x1h hal
                      go_wp2_with (fail)
                      refine (HST.out).mono ?_
                      rintro e w9 ⟨rfl, ⟨nd, rfl⟩⟩
                      go_wp2_with (fail)
                      go_ret
                      exact ⟨by rw [HNx.out]; rfl, pw_below_drewN HWW.out _⟩
                  · have b2 : (xg.toList != xh.toList) = true := by rw [bne_iff_ne]; exact fun e => x1h (toList_inj e)
                    have b2' : (xg.toList == xh.toList) = false := beq_eq_false_iff_ne.2 (fun e => x1h (toList_inj e))
                    have HNx := Aside0.mk (HNe.out (fun e => x1h (by rw [NX.out.1, NX.out.2, e])))
                    clear k1h x1h
                    go_wp2_with (fail)
                    go_ret
                    exact ⟨by rw [HNx.out]; rfl, HWW.out⟩
                · have b1 : (kg != kh) = true := by rw [bne_iff_ne]; exact k1h
                  have b1' : (kg == kh) = false := beq_eq_false_iff_ne.2 k1h
                  have b1'' : (kg = kh) = False := eq_false k1h
                  have HNx := Aside0.mk (HNe.out (fun e => k1h (by rw [NK.out.1, NK.out.2, e])))
                  clear k1h
                  go_wp2_with (fail)
                  go_ret
                  exact ⟨by rw [HNx.out]; rfl, HWW.out⟩
            | zero =>
              obtain rfl : j = m.length := by omega
              have d3 : decide ((m.length : Int) < (m.length : Int)) = false := decide_eq_false (by omega)
              have HMN := Aside0.mk (show m = n by
                have := HTj.out
                rw [List.take_length] at this
                rw [this, HL2.out, List.take_length])
              have HTk := Aside0.mk (show p.take (k + 1) = q'.take (k + 1) from take_eq_next HT.out HM.out (by rw [HN.out, HMN.out]))
              go_wp2_with (fail)
              go_roundg k1
              case rel => exact ⟨k + 1, by go_num, E9.out, HTk, HW, HX', HY'⟩
              case measure => omega
        · have d2 : (m.length != n.length) = true := by rw [bne_iff_ne]; exact hl2
          have d2' : ((m.length : Int) != (n.length : Int)) = true := by rw [bne_iff_ne]; omega
          have HNe := Aside0.mk (show decide (p = q') = false from decide_eq_false (by
            rintro rfl
            have e := HN.out.symm.trans HM.out
            injection e with e
            exact hl2 (by rw [e])))
          clear hl2
          go_upto_region 6 with (fail)
          go_quiet (fail)
          go_wp2
          go_ret
          exact ⟨by rw [HNe.out]; rfl, pw_below_drewN HW.out _⟩
      | zero =>
        obtain rfl : k = p.length := by omega
        have d1 : decide ((p.length : Int) < (p.length : Int)) = false := decide_eq_false (by omega)
        have HPQ := Aside0.mk (show decide (p = q') = true from decide_eq_true (by
          have := HT.out
          rw [List.take_length] at this
          rw [this, HL.out, List.take_length]))
        go_wp2
        go_ret
        exact ⟨by rw [HPQ.out]; rfl, HW.out⟩
  · have HNe := Aside0.mk (show decide (p = q') = false from decide_eq_false (fun e => hl (by rw [e])))
    have d2 : (p.length != q'.length) = true := by rw [bne_iff_ne]; exact hl
    have d2' : ((p.length : Int) != (q'.length : Int)) = true := by rw [bne_iff_ne]; omega
    rw [← hw2] at HB HX HY
    have HW2 := Aside0.mk hw2
    clear hl hb2 hw2 HB1
    go_enter Tryd.func18, Tryd.ntmps18
    go_upto_region 1 with (fail)
    rw [← HW2.out]
    clear HW2
    have x0 : w2.cell? ⟨w.heap.size, 0, none⟩ = some (.slice A p.length c) := blk_cell HX.out 0
    have x1 : w2.cell? ⟨w.heap.size + 1, 0, none⟩ = some (.slice B q'.length d) := blk_cell HY.out 0
    go_wp2
    go_ret
    exact ⟨by rw [HNe.out]; rfl, HB.out⟩
end Go.Proofs.YtecfmmalbehcnaaDoor.Q
