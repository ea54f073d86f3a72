/- The reference's matches and Match. -/
import Derived.Test.YtecfmmalbehcnaaDoorNRPut
import Derived.Deep.RegionHeld3
namespace Go.Proofs.YtecfmmalbehcnaaDoor.Q
open Go.Shelf Go.RowKit Go.Proofs Go.Proofs.YtecfmmalbehcnaaDoorW.PrintWords Go.Proofs.YtecfmmalbehcnaaDoorW.PrintLast Go.Proofs.YtecfmmalbehcnaaDoorW.PrintMore Go.Proofs.YtecfmmalbehcnaaDoorV
set_option linter.unusedVariables false
set_option linter.unusedSimpArgs false

set_option maxHeartbeats 6400000 in
theorem ref_matches {w : World} {A : Option Addr} {c : Nat} {n : List Gl} (h : kGl.C w A n.length n) (hc : n.length ≤ c) (hb : bulkN n ≤ 1048576) (s : ByteArray) (hs : s.size ≤ 1073741824) :
    Calls Tryd.prog 41 #[.slice A n.length c, .string s] w fun e w' => e = .returned (.bool (matchN n s.data.toList)) ∧ Below w.heap.size w w' := by
  have H := Aside0.mk h
  have hnl0 := bulkN_len n
  have hnl : n.length ≤ 1048576 := by omega
  have HNb := Aside0.mk (fun g (hg : g ∈ n) => show bulkG g ≤ 1048576 by have := bulkN_mem hg; omega)
  have hsd := Aside0.mk (size_data s)
  obtain ⟨l, hl⟩ : ∃ l, l = s.data.toList := ⟨_, rfl⟩
  have HL := Aside0.mk hl
  have HSZ := Aside0.mk (show l.length = s.size by rw [hl]; exact hsd.out)
  rw [← hl]
  clear h hb hnl0 hl
  have hmk := print_make_of (P := Tryd.prog) 54 4 (.bool false) 1 Tryd.underlying54 info_bool rfl (by decide) (s.size + 1) (by omega)
  rw [show ((s.size + 1 : Nat) : Int) = (s.size : Int) + 1 by omega] at hmk
  have HA0 := Aside0.mk (at0_cells s.size l HSZ.out)
  go_enter Tryd.func41, Tryd.ntmps41
  go_upto_region 2 with (fail)
  obtain ⟨gA, hgA⟩ : ∃ gA, gA = w.heap.size := ⟨_, rfl⟩
  have HM1 := heap_alloc_new w (.cells (madeCells #[.bool false] (s.size + 1)) 4 (0, 0))
  have HB1 := below_alloc (Below.refl w.heap.size w) (.cells (madeCells #[.bool false] (s.size + 1)) 4)
  rw [← hgA] at HM1 ⊢
  have HGA := Aside0.mk (show w.heap.size ≤ gA by omega)
  clear hgA
  generalize w.alloc (.cells (madeCells #[.bool false] (s.size + 1)) 4) = w1 at HM1 HB1 ⊢
  have t0 : w1.cell? ⟨gA, 0, none⟩ = some (.bool false) := (blk_cell HM1 0).trans (by simp [madeCells])
  have z0 : w1.frozen? ⟨gA, 0, none⟩ = false := blk_frozen HM1 0
  have HM2 := Aside0.mk (blk_put HM1 0 (.bool true) HA0.out)
  have HB2 := Aside0.mk (HB1.setCell (p := ⟨gA, 0, none⟩) HGA.out (.bool true))
  clear HM1 HB1
  go_upto_region 3 with (fail)
  generalize w1.setCell ⟨gA, 0, none⟩ (.bool true) = w2 at HM2 HB2 ⊢
  clear t0 z0
  have HT2 := Aside0.mk (show TAt w w2 gA (at0 l) (s.size + 1) from ⟨HM2.out, by unfold at0; rw [List.length_map, List.length_range, HSZ.out], HGA.out, HB2.out⟩)
  clear HM2 HB2 HGA
  go_wp2_with (fail)
  go_loopg [5, 6] n.length (fun kq v5 v6 w' => ∃ (k gL : Nat) (L : List Bool), v5 = .slice (some ⟨gL, 0, none⟩) (s.size + 1) (s.size + 1) ∧ v6 = .int .i64 (k : Int) ∧ k + kq = n.length ∧ Aside0 (L = placesP (n.take k) l) ∧ Aside0 (TAt w w' gL L (s.size + 1)))
  case atStart => exact ⟨0, gA, _, rfl, rfl, by omega, ⟨rfl⟩, HT2⟩
  case round =>
    obtain ⟨k, gL, L, rfl, rfl, hkq, HLp, HT⟩ := hrel
    clear HT2
    cases gk with
    | succ k1 =>
      have hk : k < n.length := by omega
      have d1 : decide ((k : Int) < (n.length : Int)) = true := decide_eq_true (by omega)
      have E9 := Aside0.mk (show k + 1 + k1 = n.length by omega)
      obtain ⟨g, hg⟩ : ∃ g, n[k]? = some g := ⟨_, List.getElem?_eq_getElem hk⟩
      have HG := Aside0.mk hg
      clear hkq hg
      go_upto_region 7 with (fail)
      obtain ⟨wo, hwo⟩ : ∃ wo : World, wo = wr := ⟨_, rfl⟩
      subst hwo
      obtain ⟨gN, hgN⟩ : ∃ gN, gN = wo.heap.size := ⟨_, rfl⟩
      have HM3 := heap_alloc_new wo (.cells (madeCells #[.bool false] (s.size + 1)) 4 (0, 0))
      have HB3 := below_alloc (Below.refl wo.heap.size wo) (.cells (madeCells #[.bool false] (s.size + 1)) 4)
      rw [← hgN] at HM3 ⊢
      have HGN := Aside0.mk (show wo.heap.size ≤ gN by omega)
      have HGLN := Aside0.mk (show gL ≠ gN by have := blk_lt HT.out.blk; omega)
      clear hgN
      generalize wo.alloc (.cells (madeCells #[.bool false] (s.size + 1)) 4) = w3 at HM3 HB3 ⊢
      have HT3 := Aside0.mk (show TAt wo w3 gN (accT g l L 0) (s.size + 1) from ⟨by rw [accT_zero, HSZ.out]; exact HM3, by rw [accT_length, HSZ.out], HGN.out, HB3⟩)
      have HT0 := Aside0.mk (HT.out.kept HB3)
      clear HM3 HB3
      go_wp2_with (fail)
      go_loopg [8] (s.size + 1) (fun kq v8 w' => ∃ i : Nat, v8 = .int .i64 (i : Int) ∧ i + kq = s.size + 1 ∧ Aside0 (TAt wo w' gN (accT g l L i) (s.size + 1)) ∧ Aside0 (TAt w w' gL L (s.size + 1)))
      case atStart => exact ⟨0, rfl, by omega, HT3, HT0⟩
      case round =>
        obtain ⟨i, rfl, hiq, HTN, HTL⟩ := hrel
        clear HT3 HT0
        cases gk with
        | succ i1 =>
          have his : i ≤ s.size := by omega
          have d2 : decide ((i : Int) ≤ (s.size : Int)) = true := decide_eq_true (by omega)
          have d2n : decide (i ≤ s.size) = true := decide_eq_true his
          have E8 := Aside0.mk (show i + 1 + i1 = s.size + 1 by omega)
          obtain ⟨b, hLb⟩ : ∃ b, L[i]? = some b := ⟨_, List.getElem?_eq_getElem (by rw [HTL.out.len]; omega)⟩
          have q0 : wr.cell? ⟨gL, i, none⟩ = some (.bool b) := (blk_cell HTL.out.blk i).trans (boolA_get L i b hLb)
          have q3 : ((i : Int) < ((s.size + 1 : Nat) : Int)) = True := eq_true (by omega)
          have q4 : ((i : Int) < (s.size : Int) + 1) = True := eq_true (by omega)
          have HLb := Aside0.mk hLb
          clear hLb hiq
          cases b with
          | false =>
            have HTs := Aside0.mk (show TAt wo wr gN (accT g l L (i + 1)) (s.size + 1) by rw [accT_skip HLb.out]; exact HTN.out)
            go_wp2_with (fail)
            go_roundg i1
            case rel => exact ⟨i + 1, by go_num, E8.out, HTs, HTL⟩
            case measure => omega
          | true =>
            obtain ⟨ad2, A2, c2, rfl, y0, y1, y2, hK⟩ := at_glob (Kd.C_below H.out HT.out.below) HG.out
            obtain ⟨m, hm⟩ : ∃ m, m = (g.alts.map strB).length := ⟨_, rfl⟩
            rw [← hm] at y2 hK
            have HR := Aside0.mk (ref_reach hK (HNb.out g (List.mem_of_getElem? HG.out)) s HTN.out hs i his)
            rw [← HL.out] at HR
            have y0 := pw_cell_below HTN.out.below y0
            have y1 := pw_cell_below HTN.out.below y1
            have y2 := pw_cell_below HTN.out.below y2
            clear hm hK
            go_wp2_with (fail)
            refine (HR.out).mono ?_
            rintro e w4 ⟨rfl, ht4, hk4⟩
            have HT4 := Aside0.mk (show TAt wo w4 gN (accT g l L (i + 1)) (s.size + 1) by rw [← accT_on HLb.out (fun j _ => rfl)]; exact ht4)
            have HL4 := Aside0.mk (show TAt w w4 gL L (s.size + 1) from ⟨(hk4.block gL (blk_lt HTL.out.blk) HGLN.out).trans HTL.out.blk, HTL.out.len, HTL.out.new, HTL.out.below.trans (hk4.below HTL.out.below.size (fun k e => by rw [e]; exact Nat.le_trans HT.out.below.size HGN.out))⟩)
            clear ht4 hk4
            go_wp2_with (fail)
            go_roundg i1
            case rel => exact ⟨i + 1, by go_num, E8.out, HT4, HL4⟩
            case measure => omega
        | zero =>
          have hi : i = s.size + 1 := by omega
          have d2 : decide ((i : Int) ≤ (s.size : Int)) = false := decide_eq_false (by omega)
          have d2n : decide (i ≤ s.size) = false := decide_eq_false (by omega)
          have HTd := Aside0.mk (show TAt w wr gN (nextP g l L) (s.size + 1) by
            have := HTN.out
            rw [hi, ← HSZ.out, accT_done, HSZ.out] at this
            exact ⟨this.blk, this.len, Nat.le_trans HT.out.below.size HGN.out, HTL.out.below⟩)
          have HLn := Aside0.mk (show nextP g l L = placesP (n.take (k + 1)) l by rw [HLp.out, ← places_snoc, take_snocR HG.out])
          clear hi hiq
          go_wp2_with (fail)
          go_roundg k1
          case rel => exact ⟨k + 1, gN, _, rfl, by go_num, E9.out, HLn, HTd⟩
          case measure => omega
    | zero =>
      have hke : k = n.length := by omega
      have d1 : decide ((k : Int) < (n.length : Int)) = false := decide_eq_false (by omega)
      have d1n : decide (k < n.length) = false := decide_eq_false (by omega)
      obtain ⟨b, hLb⟩ : ∃ b, L[s.size]? = some b := ⟨_, List.getElem?_eq_getElem (by rw [HT.out.len]; omega)⟩
      have q0 : wr.cell? ⟨gL, s.size, none⟩ = some (.bool b) := (blk_cell HT.out.blk s.size).trans (boolA_get L s.size b hLb)
      have HMt := Aside0.mk (show matchN n l = b by
        unfold matchN
        have := HLp.out
        rw [hke, List.take_length] at this
        rw [← this, HSZ.out, List.getD_eq_getElem?_getD, hLb]
        rfl)
      have q3 : ((s.size : Int) < ((s.size + 1 : Nat) : Int)) = True := eq_true (by omega)
      have q4 : ((s.size : Int) < (s.size : Int) + 1) = True := eq_true (by omega)
      clear hLb hke hkq
      go_wp2_with (fail)
      go_ret
      exact ⟨by rw [HMt.out]; rfl, HT.out.below⟩
theorem matchB_len {p : List (List Gl)} {s : ByteArray} (h : (nodesB s).length ≠ p.length) : matchB p s.data.toList = false := by
  unfold matchB
  cases hv : validP s.data.toList with
  | false => rfl
  | true =>
    rw [nodesB_map s hv, List.length_map] at h
    rw [decide_eq_false h]
    simp
theorem matchB_may {p : List (List Gl)} {s : List UInt8} (h : mayB p = false) : matchB p s = false := by unfold matchB; rw [h]; simp
theorem valid_of {s : ByteArray} (h : (nodesB s).length ≠ 0) : validP s.data.toList = true := by
  cases hv : validP s.data.toList with
  | true => rfl
  | false =>
    exfalso
    apply h
    unfold nodesB
    rw [if_neg (by rw [hv]; decide)]
    rfl
set_option maxHeartbeats 6400000 in
theorem ref_Match {w : World} {A : Option Addr} {c : Nat} {p : List (List Gl)} (h : kNode.C w A p.length p) (hc : p.length ≤ c) (hb : bulkP p ≤ 1048576) (s : ByteArray) (hs : s.size ≤ 1073741824) :
    Calls Tryd.prog 21 #[.agg #[.slice A p.length c], .string s] w fun e w' => e = .returned (.bool (matchB p s.data.toList)) ∧ Below w.heap.size w w' := by
  have hpl := bulkP_len p
  have H := Aside0.mk h
  have HB := Aside0.mk (below_alloc (Below.refl w.heap.size w) (.cells #[.slice A p.length c] 24))
  have HBX := Aside0.mk (heap_alloc_new w (.cells #[.slice A p.length c] 24 (0, 0)))
  have HNo := Aside0.mk (fun W => ref_Nodes s hs W)
  have HMay := Aside0.mk (fun W (hW : Below w.heap.size w W) => ref_May (c := c) (Kd.C_below h hW) hc hb)
  have HBK := Aside0.mk hb
  have hN16 := nodesB_len s
  have hpl2 : p.length ≤ 1048576 := by omega
  obtain ⟨N, hN⟩ : ∃ N, N = nodesB s := ⟨_, rfl⟩
  have HN := Aside0.mk hN
  rw [← hN] at HNo hN16
  clear h hN hpl hb
  go_enter Tryd.func21, Tryd.ntmps21
  go_upto_region 2 with (go_at_call 26; (with_reducible refine (HNo.out _).mono ?_); rintro e w1 ⟨v, rfl, ho, hbb⟩; have HB1 := Aside0.mk (HB.out.trans (hbb.mono HB.out.size)); have HX1 := Aside0.mk (blk_below HBX.out hbb); have HO1 := Aside0.mk (OwnS.lower ho HB.out.size); obtain ⟨A1, c1, ev⟩ := Kd.R_slice ho; subst ev; clear ho hbb)
  have x0 : w1.cell? ⟨w.heap.size, 0, none⟩ = some (.slice A p.length c) := blk_cell HX1.out 0
  have HMW := Aside0.mk (HMay.out _ HB1.out)
  cases hm : mayB p with
  | false =>
    rw [hm] at HMW
    have HE := Aside0.mk (matchB_may (s := s.data.toList) hm)
    clear hm
    go_wp2_with (fail)
    refine (HMW.out).mono ?_
    rintro e w2 ⟨rfl, hbb⟩
    have HB2 := Aside0.mk (HB1.out.trans (hbb.mono HB1.out.size))
    clear hbb
    go_wp2_with (fail)
    go_ret
    exact ⟨by rw [HE.out]; rfl, HB2.out⟩
  | true =>
    rw [hm] at HMW
    have HMM := Aside0.mk hm
    clear hm
    go_wp2_with (fail)
    refine (HMW.out).mono ?_
    rintro e w2 ⟨rfl, hbb⟩
    have HB2 := Aside0.mk (HB1.out.trans (hbb.mono HB1.out.size))
    have HO2 := Aside0.mk (HO1.out.keep (Keep.of_below (S := fun _ => False) hbb) (fun _ _ h => h))
    have HX2 := Aside0.mk (blk_below HX1.out hbb)
    clear hbb x0
    have x2 : w2.cell? ⟨w.heap.size, 0, none⟩ = some (.slice A p.length c) := blk_cell HX2.out 0
    by_cases h1 : N.length = p.length
    · have d1 : ((N.length : Int) != (p.length : Int)) = false := by rw [h1]; simp
      have d1n : (N.length != p.length) = false := by rw [h1]; simp
      have hp1 : 1 ≤ p.length := by
        have := (mayB_iff.1 HMM.out).1
        cases hq : p with
        | nil => exact absurd hq this
        | cons a t => simp
      have d2 : ((N.length : Int) == 0) = false := beq_eq_false_iff_ne.2 (by omega)
      have d2n : (N.length = 0) = False := eq_false (by omega)
      have HV := Aside0.mk (valid_of (s := s) (by rw [← HN.out]; omega))
      have HNm := Aside0.mk (show N = (cutP s.data.toList).map strB by rw [HN.out, nodesB_map s HV.out])
      have HNL := Aside0.mk (show N.length = (cutP s.data.toList).length by rw [HNm.out, List.length_map])
      have HNP := Aside0.mk h1
      have HE := Aside0.mk (show matchB p s.data.toList = (p.zip (cutP s.data.toList)).all (fun x => matchN x.1 x.2) by
        unfold matchB
        rw [HMM.out, HV.out, decide_eq_true (by rw [← HNL.out, h1])]
        simp)
      clear h1
      go_upto_region 5 with (fail)
      clear d1 d1n d2 d2n
      go_loopg [6] N.length (fun kq v6 w' => ∃ k : Nat, v6 = .int .i64 (k : Int) ∧ k + kq = N.length ∧ Aside0 (((p.zip (cutP s.data.toList)).take k).all (fun x => matchN x.1 x.2) = true) ∧ Aside0 (OwnS w' w.heap.size (.slice A1 N.length c1) N) ∧ Aside0 (w'.heap[w.heap.size]? = some (.cells #[.slice A p.length c] 24 (0, 0))) ∧ Aside0 (Below w.heap.size w w'))
      case atStart => exact ⟨0, rfl, by omega, ⟨rfl⟩, HO2, HX2, HB2⟩
      case round =>
        obtain ⟨k, rfl, hkq, HAll, HO, HX, HW⟩ := hrel
        clear HB HBX HB1 HX1 HO1 HO2 HX2 HB2
        have x3 : wr.cell? ⟨w.heap.size, 0, none⟩ = some (.slice A p.length c) := blk_cell HX.out 0
        cases gk with
        | succ k1 =>
          have hkN : k < N.length := by omega
          have hkp : k < p.length := by have := HNP.out; omega
          have d3 : decide ((k : Int) < (N.length : Int)) = true := decide_eq_true (by omega)
          have E9 := Aside0.mk (show k + 1 + k1 = N.length by omega)
          obtain ⟨n, hn⟩ : ∃ n, p[k]? = some n := ⟨_, List.getElem?_eq_getElem hkp⟩
          obtain ⟨a, ha⟩ : ∃ a, (cutP s.data.toList)[k]? = some a := ⟨_, List.getElem?_eq_getElem (by have := HNL.out; omega)⟩
          obtain ⟨ad, An, cn, rfl, q0, hcn, hC⟩ := at_node (Kd.C_below H.out HW.out) hn
          have HRd := Aside0.mk (Kd.R_reads' HO.out)
          obtain ⟨bd, rfl, r0⟩ := at_str HRd.out.2.2 (k := k) (x := strB a) (by rw [HNm.out, List.getElem?_map, ha]; rfl)
          have has : (strB a).size ≤ 1073741824 := by
            have h2 : strB a ∈ splitS s := by
              unfold splitS
              exact List.mem_map.2 ⟨a, List.mem_of_getElem? ha, rfl⟩
            have := splitS_size _ h2
            omega
          have hbn : bulkN n ≤ 1048576 := by have := bulkP_mem (List.mem_of_getElem? hn); have := HBK.out; omega
          have HZ := Aside0.mk (zip_take hn ha)
          have HM := Aside0.mk (fun W (hW : Below wr.heap.size wr W) => ref_matches (Kd.C_below hC hW) hcn hbn (strB a) has)
          rw [show (strB a).data.toList = a from rfl] at HM
          have HNa := Aside0.mk (show (n, a) ∈ p.zip (cutP s.data.toList) by
            refine List.mem_of_mem_take (i := k + 1) ?_
            rw [HZ.out]
            simp)
          have hnl2 : n.length ≤ 1048576 := by have := bulkN_len n; omega
          obtain ⟨sa, hsa⟩ : ∃ sa, sa = strB a := ⟨_, rfl⟩
          rw [← hsa] at r0 HM
          obtain ⟨b, hb0⟩ : ∃ b, b = matchN n a := ⟨_, rfl⟩
          rw [← hb0] at HM
          have HB0 := Aside0.mk hb0
          have p0 : (0 ≤ (k : Int)) = True := eq_true (by omega)
          have p1 : ((k : Int) < (p.length : Int)) = True := eq_true (by omega)
          have p2 : ((k : Int) < (N.length : Int)) = True := eq_true (by omega)
          clear hn ha hC hsa hb0 has hkq hbn
          go_upto_region 7 with (fail)
          have HWd := Aside0.mk (show Below w.heap.size w wr.drew from below_drew HW.out)
          have HXd := Aside0.mk (show wr.drew.heap[w.heap.size]? = some (.cells #[.slice (some ad) p.length c] 24 (0, 0)) from HX.out)
          cases b with
          | true =>
            have HAll2 := Aside0.mk (show ((p.zip (cutP s.data.toList)).take (k + 1)).all (fun x => matchN x.1 x.2) = true by
              rw [HZ.out, List.all_append, HAll.out, List.all_cons, ← HB0.out]
              rfl)
            go_region_held3 (fun w' => w'.cell? ⟨w.heap.size, 0, none⟩ = some (.slice (some ad) p.length c) ∧ w'.cell? (ad.add k) = some (.slice An n.length cn) ∧ w'.cell? (bd.add k) = some (.string sa)) (go_keep) (first
              | (go_at_call 41; (with_reducible refine (HM.out _ (below_drew (Below.refl _ _))).mono ?_); rintro e w5 ⟨rfl, hbb⟩; have HB5 := Aside0.mk (HWd.out.trans (hbb.mono HWd.out.size)); have HX5 := Aside0.mk (blk_below HXd.out hbb); have HO5 := Aside0.mk (HO.out.keep (Keep.of_below (S := fun _ => False) ((below_drew (Below.refl wr.heap.size wr)).trans hbb)) (fun _ _ h => h)); have k0 : w5.cell? ⟨w.heap.size, 0, none⟩ = some (.slice (some ad) p.length c) := blk_cell HX5.out 0; have k1' := pw_cell_below hbb (show wr.drew.cell? (ad.add k) = some (.slice An n.length cn) from q0); have k2' := pw_cell_below hbb (show wr.drew.cell? (bd.add k) = some (.string sa) from r0); clear hbb))
            go_wp2_with (fail)
            go_roundg k1
            case rel => exact ⟨k + 1, by go_num, E9.out, HAll2, HO5, HX5, HB5⟩
            case measure => omega
          | false =>
            have HR := Aside0.mk (show matchB p s.data.toList = false by
              rw [HE.out, ← Bool.not_eq_true]
              intro q
              have := List.all_eq_true.1 q (n, a) HNa.out
              dsimp only at this
              rw [← HB0.out] at this
              cases this)
            go_region_held3 (fun w' => w'.cell? ⟨w.heap.size, 0, none⟩ = some (.slice (some ad) p.length c) ∧ w'.cell? (ad.add k) = some (.slice An n.length cn) ∧ w'.cell? (bd.add k) = some (.string sa)) (go_keep) (first
              | (go_at_call 41; (with_reducible refine (HM.out _ (below_drew (Below.refl _ _))).mono ?_); rintro e w5 ⟨rfl, hbb⟩; have HB5 := Aside0.mk (HWd.out.trans (hbb.mono HWd.out.size)); have HX5 := Aside0.mk (blk_below HXd.out hbb); have k0 : w5.cell? ⟨w.heap.size, 0, none⟩ = some (.slice (some ad) p.length c) := blk_cell HX5.out 0; have k1' := pw_cell_below hbb (show wr.drew.cell? (ad.add k) = some (.slice An n.length cn) from q0); have k2' := pw_cell_below hbb (show wr.drew.cell? (bd.add k) = some (.string sa) from r0); clear hbb))
            go_wp2_with (fail)
            go_ret
            exact ⟨by rw [HR.out]; rfl, HB5.out⟩
        | zero =>
          have hke : k = N.length := by omega
          have d3 : decide ((k : Int) < (N.length : Int)) = false := decide_eq_false (by omega)
          have d3n : decide (k < N.length) = false := decide_eq_false (by omega)
          have HR := Aside0.mk (show matchB p s.data.toList = true by
            rw [HE.out]
            have := HAll.out
            rw [List.take_of_length_le (by rw [List.length_zip]; have := HNP.out; have := HNL.out; omega)] at this
            exact this)
          clear hke hkq
          go_wp2_with (fail)
          go_ret
          exact ⟨by rw [HR.out]; rfl, HW.out⟩
    · have d1 : ((N.length : Int) != (p.length : Int)) = true := bne_iff_ne.2 (by omega)
      have d1n : (N.length != p.length) = true := bne_iff_ne.2 h1
      have HE := Aside0.mk (matchB_len (p := p) (s := s) (by rw [← HN.out]; exact h1))
      clear h1
      go_wp2_with (fail)
      go_ret
      exact ⟨by rw [HE.out]; rfl, HB2.out⟩
end Go.Proofs.YtecfmmalbehcnaaDoor.Q
