/- NameSelf: each name is a pattern that has just this name, and the pattern of as many stars has it. The law's walk. -/
import Derived.Test.YtecfmmalbehcnaaDoorPBulk
namespace Go.Proofs.YtecfmmalbehcnaaDoor.Q
open Go.Shelf Go.RowKit Go.Proofs Go.Proofs.YtecfmmalbehcnaaDoorW.PrintWords Go.Proofs.YtecfmmalbehcnaaDoorW.PrintLast Go.Proofs.YtecfmmalbehcnaaDoorW.PrintMore Go.Proofs.YtecfmmalbehcnaaDoorV
set_option linter.unusedVariables false
set_option linter.unusedSimpArgs false

theorem starB_succ (k : Nat) : strB (starS k) ++ ⟨#[46, 42]⟩ = strB (starS (k + 1)) := strB_append (starS k) [46, 42]
set_option maxHeartbeats 6400000 in
theorem law_NameSelf (w : World) (s o : ByteArray) (hs : s.size ≤ 1048576) (ho : o.size ≤ 1048576) :
    Calls Tryd.prog 13 #[.string s, .string o] w fun e w' => e = .returned (.bool true) ∧ Below w.heap.size w w' := by
  have HV := Aside0.mk (fun W => valid_calls s (by omega) W)
  have HA := Aside0.mk law_alive
  cases hv : validP s.data.toList with
  | false =>
    rw [hv] at HV
    clear hv
    go_enter Tryd.func13, Tryd.ntmps13
    go_wp2_with (fail)
    refine (HA.out _).mono ?_
    rintro e w1 ⟨rfl, hb⟩
    have HB1 := Aside0.mk hb
    clear hb
    go_wp2_with (fail)
    refine (HV.out _).mono ?_
    rintro e w2 ⟨rfl, hb⟩
    have HB2 := Aside0.mk (HB1.out.trans (hb.mono HB1.out.size))
    clear hb
    go_wp2_with (fail)
    refine (HA.out _).mono ?_
    rintro e w3 ⟨rfl, hb⟩
    have HB3 := Aside0.mk (HB2.out.trans (hb.mono HB2.out.size))
    clear hb
    go_wp2_with (fail)
    go_ret
    exact ⟨rfl, HB3.out⟩
  | true =>
    rw [hv] at HV
    have h200 := (validP_iff.1 hv).1
    have hn16 := (validP_iff.1 hv).2.1
    have hsl := size_data s
    have HPM := Aside0.mk (plain_may hv)
    have HPW := Aside0.mk (plain_whole s.data.toList)
    have HC := Aside0.mk (fun W => name_Compile s W)
    rw [show compP s.data.toList = (plainP s.data.toList, 0, 0) by
      have := compP_may HPM.out (by rw [HPW.out]; omega)
      rwa [HPW.out] at this] at HC
    have hpb : bulkP (plainP s.data.toList) ≤ 1048576 := may_bulk HPM.out (by rw [HPW.out]; omega)
    have hpl : (plainP s.data.toList).length ≤ 16 := HPM.out.2.1
    have HPl := Aside0.mk (plainB_plain hv)
    have HMs := Aside0.mk (show matchB (plainP s.data.toList) s.data.toList = true by rw [matchB_plain hv]; exact decide_eq_true rfl)
    have HMo := Aside0.mk (show matchB (plainP s.data.toList) o.data.toList = decide (s.data.toList = o.data.toList) from matchB_plain hv)
    have HNS := Aside0.mk (show nodesB s = splitS s by unfold nodesB; rw [if_pos hv])
    have hnl : (nodesB s).length = (cutP s.data.toList).length := by rw [HNS.out]; unfold splitS; rw [List.length_map]
    have hn1 : 1 ≤ (nodesB s).length := by
      rw [hnl]
      have := cutP_ne s.data.toList
      cases hq : cutP s.data.toList with
      | nil => exact absurd hq this
      | cons a t => simp
    have hn2 : (nodesB s).length ≤ 16 := by rw [hnl]; exact hn16
    have HNo := Aside0.mk (fun W => name_Nodes s (by omega) W)
    have HNoo := Aside0.mk (fun W => name_Nodes o (by omega) W)
    obtain ⟨N, hN⟩ : ∃ N, N = nodesB s := ⟨_, rfl⟩
    rw [← hN] at hn1 hn2 HNo
    obtain ⟨n, hn⟩ : ∃ n, n = N.length := ⟨_, rfl⟩
    rw [← hn] at hn1 hn2
    have HMS := Aside0.mk (show matchB (starsP n) s.data.toList = true by rw [matchB_stars hn1 hn2, ← hN, hn]; exact decide_eq_true rfl)
    have HMO := Aside0.mk (show matchB (starsP n) o.data.toList = decide ((nodesB o).length = n) from matchB_stars hn1 hn2)
    have HSW := Aside0.mk (show starS (n - 1) = wholeR (starsP n) by have := star_whole (n - 1); rwa [Nat.sub_add_cancel hn1] at this)
    have HSM := Aside0.mk (stars_may hn1 hn2)
    have HSL := Aside0.mk (show (wholeR (starsP n)).length ≤ 400 by rw [← HSW.out, star_len]; omega)
    have HSB := Aside0.mk (may_bulk HSM.out HSL.out)
    have HSC := Aside0.mk (fun W => name_Compile (strB (starS (n - 1))) W)
    rw [show compP (strB (starS (n - 1))).data.toList = (starsP n, 0, 0) by
      show compP (starS (n - 1)) = _
      rw [HSW.out]
      exact compP_may HSM.out HSL.out] at HSC
    have HNN := Aside0.mk hn
    have hoN := nodesB_len o
    obtain ⟨No, hNo⟩ : ∃ No, No = nodesB o := ⟨_, rfl⟩
    rw [← hNo] at HNoo HMO hoN
    obtain ⟨p, hp⟩ : ∃ p, p = plainP s.data.toList := ⟨_, rfl⟩
    rw [← hp] at HC hpb hpl HPl HMs HMo
    have HPL := Aside0.mk (fun W (A : Option Addr) (c : Nat) (h : kNode.C W A p.length p) (hc : p.length ≤ c) => name_Plain h hc hpb)
    rw [HPl.out] at HPL
    have HMA := Aside0.mk (fun W (A : Option Addr) (c : Nat) (h : kNode.C W A p.length p) (hc : p.length ≤ c) => name_Match h hc hpb s (by omega))
    have HMB := Aside0.mk (fun W (A : Option Addr) (c : Nat) (h : kNode.C W A p.length p) (hc : p.length ≤ c) => name_Match h hc hpb o (by omega))
    rw [HMs.out] at HMA
    rw [HMo.out] at HMB
    have HNA := Aside0.mk (fun W (A : Option Addr) (c : Nat) (h : kNode.C W A (starsP n).length (starsP n)) (hc : (starsP n).length ≤ c) => name_Match h hc HSB.out s (by omega))
    have HNB := Aside0.mk (fun W (A : Option Addr) (c : Nat) (h : kNode.C W A (starsP n).length (starsP n)) (hc : (starsP n).length ≤ c) => name_Match h hc HSB.out o (by omega))
    rw [HMS.out] at HNA
    rw [HMO.out] at HNB
    have hss : (s.toList == s.toList) = true := by simp
    have hsn : (s.toList != s.toList) = false := by simp
    obtain ⟨b, hb0⟩ : ∃ b, b = decide (s.data.toList = o.data.toList) := ⟨_, rfl⟩
    rw [← hb0] at HMB
    have hso : (s.toList == o.toList) = b := by
      rw [hb0, Bool.eq_iff_iff, beq_iff_eq, decide_eq_true_eq]
      exact ⟨fun e => by rw [toList_inj e], fun e => by rw [← data_strB s, ← data_strB o, e]⟩
    have HQ := Aside0.mk (show strB s.data.toList = s from data_strB s)
    rw [HQ.out] at HPL
    have hpz : p.length ≤ 16 := hpl
    clear hv h200 hn16 hsl hnl hN hn hp hNo hb0 HPM HPW HPl HMs HMo HNS HSM HSW HSL HMS HMO hpb HQ HSB hpl
    go_enter Tryd.func13, Tryd.ntmps13
    go_wp2_with (fail)
    refine (HA.out _).mono ?_
    rintro e w1 ⟨rfl, hb⟩
    have HB1 := Aside0.mk hb
    clear hb
    go_wp2_with (fail)
    refine (HV.out _).mono ?_
    rintro e w2 ⟨rfl, hb⟩
    have HB2 := Aside0.mk (HB1.out.trans (hb.mono HB1.out.size))
    clear hb
    go_upto_region 4 with (go_at_call 16; (with_reducible refine (HC.out _).mono ?_); rintro e w3 hp; obtain ⟨v, rfl, ho, hb⟩ := hp; have HB3 := Aside0.mk (HB2.out.trans (hb.mono HB2.out.size)); obtain ⟨A1, c1, ev⟩ := Kd.R_slice ho; subst ev; have HR3 := Aside0.mk (own_reads_pat ho); clear ho hb)
    have HX4 := Aside0.mk (heap_alloc_new w3 (.cells #[.slice A1 p.length c1] 24 (0, 0)))
    have HC4 := Aside0.mk (Kd.C_alloc HR3.out.2.2 (.cells #[.slice A1 p.length c1] 24))
    have HB4 := Aside0.mk (below_alloc HB3.out (.cells #[.slice A1 p.length c1] 24))
    have HL := Aside0.mk (show p.length ≤ c1 from HR3.out.2.1)
    change Code.wp _ _ _ _ (w3.alloc (.cells #[.slice A1 p.length c1] 24))
    obtain ⟨g1, hg1⟩ : ∃ g1, g1 = w3.heap.size := ⟨_, rfl⟩
    rw [← hg1] at HX4 ⊢
    clear hg1 HR3
    generalize w3.alloc (.cells #[.slice A1 p.length c1] 24) = w4 at HX4 HC4 HB4 ⊢
    have x4 : w4.cell? ⟨g1, 0, none⟩ = some (.slice A1 p.length c1) := blk_cell HX4.out 0
    go_wp2_with (fail)
    refine (HPL.out _ _ _ HC4.out HL.out).mono ?_
    rintro e w5 ⟨rfl, hb⟩
    have HB5 := Aside0.mk (HB4.out.trans (hb.mono HB4.out.size))
    have HX5 := Aside0.mk (blk_below HX4.out hb)
    have HC5 := Aside0.mk (Kd.C_below HC4.out hb)
    have x5 : w5.cell? ⟨g1, 0, none⟩ = some (.slice A1 p.length c1) := blk_cell HX5.out 0
    clear hb x4
    go_wp2_with (fail)
    refine (HMA.out _ _ _ HC5.out HL.out).mono ?_
    rintro e w6 ⟨rfl, hb⟩
    have HB6 := Aside0.mk (HB5.out.trans (hb.mono HB5.out.size))
    have HX6 := Aside0.mk (blk_below HX5.out hb)
    have HC6 := Aside0.mk (Kd.C_below HC5.out hb)
    have x6 : w6.cell? ⟨g1, 0, none⟩ = some (.slice A1 p.length c1) := blk_cell HX6.out 0
    clear hb x5
    go_wp2_with (fail)
    refine (HMB.out _ _ _ HC6.out HL.out).mono ?_
    rintro e w7 ⟨rfl, hb⟩
    have HB7 := Aside0.mk (HB6.out.trans (hb.mono HB6.out.size))
    clear hb x6 HC6 HC5 HC4 HX6 HX5 HX4
    have bb : (b != b) = false := by simp
    cases b
    all_goals
      go_upto_region 9 with (go_at_call 25; (with_reducible refine (HNo.out _).mono ?_); rintro e w8 ⟨v, rfl, ho8, hbb⟩; have HB8 := Aside0.mk (HB7.out.trans (hbb.mono HB7.out.size)); obtain ⟨A8, c8, ev⟩ := Kd.R_slice ho8; subst ev; clear ho8 hbb)
      rw [← HNN.out]
      go_wp2
      go_loopg [10, 12] (n - 1) (fun kq v10 v12 w' => ∃ j : Nat, v10 = .string (strB (starS j)) ∧ v12 = .int .i64 ((j + 1 : Nat) : Int) ∧ j + 1 + kq = n ∧ Aside0 (Below w.heap.size w w'))
      case atStart => exact ⟨0, rfl, rfl, by omega, HB8⟩
      case round =>
        obtain ⟨j, rfl, rfl, hj, HW⟩ := hrel
        clear HB1 HB2 HB3 HB4 HB5 HB6 HB7 HB8
        cases gk with
        | succ k1 =>
          have d1 : decide (((j + 1 : Nat) : Int) < (n : Int)) = true := decide_eq_true (by omega)
          have HS := Aside0.mk (starB_succ j)
          have hz : (strB (starS j)).size ≤ 40 := by rw [size_strB, star_len]; omega
          have hz2 : (strB (starS (j + 1))).size ≤ 40 := by rw [size_strB, star_len]; omega
          obtain ⟨X, hX⟩ : ∃ X, X = strB (starS j) := ⟨_, rfl⟩
          rw [← hX] at HS hz ⊢
          have hj2 : j + 1 < n := by omega
          obtain ⟨q, hq⟩ : ∃ q, q = j + 1 := ⟨_, rfl⟩
          rw [← hq] at HS hz2 d1 hj hj2 ⊢
          have E9 := Aside0.mk hj
          clear hX hz2
          go_wp2
          go_roundg k1
          case rel => exact ⟨q, by rw [← HS.out], by go_num, by have := E9.out; omega, HW⟩
          case measure => omega
        | zero =>
          obtain rfl : j = n - 1 := by omega
          have hq : n - 1 + 1 = n := by omega
          rw [hq]
          have d1 : decide ((n : Int) < (n : Int)) = false := decide_eq_false (by omega)
          have hz : (strB (starS (n - 1))).size ≤ 40 := by rw [size_strB, star_len]; omega
          obtain ⟨X, hX⟩ : ∃ X, X = strB (starS (n - 1)) := ⟨_, rfl⟩
          rw [← hX] at HSC hz ⊢
          obtain ⟨q, hqq⟩ : ∃ q, q = starsP n := ⟨_, rfl⟩
          rw [← hqq] at HSC HNA HNB
          have hql : q.length ≤ 16 := by rw [hqq]; unfold starsP; rw [List.length_replicate]; omega
          clear hX hqq hq hj
          go_upto_region 14 with (go_at_call 16; (with_reducible refine (HSC.out _).mono ?_); rintro e w13 hp; obtain ⟨v, rfl, ho13, hb⟩ := hp; have HB13 := Aside0.mk (HW.out.trans (hb.mono HW.out.size)); obtain ⟨A2, c2, ev⟩ := Kd.R_slice ho13; subst ev; have HR13 := Aside0.mk (own_reads_pat ho13); clear ho13 hb)
          have HX14 := Aside0.mk (heap_alloc_new w13 (.cells #[.slice A2 q.length c2] 24 (0, 0)))
          have HC14 := Aside0.mk (Kd.C_alloc HR13.out.2.2 (.cells #[.slice A2 q.length c2] 24))
          have HB14 := Aside0.mk (below_alloc HB13.out (.cells #[.slice A2 q.length c2] 24))
          have HL2 := Aside0.mk (show q.length ≤ c2 from HR13.out.2.1)
          change Code.wp _ _ _ _ (w13.alloc (.cells #[.slice A2 q.length c2] 24))
          obtain ⟨g2, hg2⟩ : ∃ g2, g2 = w13.heap.size := ⟨_, rfl⟩
          rw [← hg2] at HX14 ⊢
          clear hg2 HR13
          generalize w13.alloc (.cells #[.slice A2 q.length c2] 24) = w14 at HX14 HC14 HB14 ⊢
          have x14 : w14.cell? ⟨g2, 0, none⟩ = some (.slice A2 q.length c2) := blk_cell HX14.out 0
          go_wp2_with (fail)
          refine (HNA.out _ _ _ HC14.out HL2.out).mono ?_
          rintro e w15 ⟨rfl, hb⟩
          have HB15 := Aside0.mk (HB14.out.trans (hb.mono HB14.out.size))
          have HX15 := Aside0.mk (blk_below HX14.out hb)
          have HC15 := Aside0.mk (Kd.C_below HC14.out hb)
          have x15 : w15.cell? ⟨g2, 0, none⟩ = some (.slice A2 q.length c2) := blk_cell HX15.out 0
          clear hb x14
          go_wp2_with (fail)
          refine (HNB.out _ _ _ HC15.out HL2.out).mono ?_
          rintro e w16 ⟨rfl, hb⟩
          have HB16 := Aside0.mk (HB15.out.trans (hb.mono HB15.out.size))
          clear hb x15
          have ee : decide (No.length = n) = decide (No.length = n) := rfl
          go_wp2_with (fail)
          refine (HNoo.out _).mono ?_
          rintro e w17 ⟨v, rfl, ho17, hb⟩
          have HB17 := Aside0.mk (HB16.out.trans (hb.mono HB16.out.size))
          obtain ⟨A17, c17, ev⟩ := Kd.R_slice ho17
          subst ev
          clear ho17 hb
          by_cases hl : No.length = n
          · rw [hl]
            have e1 : decide (n = n) = true := decide_eq_true rfl
            go_wp2_with (fail)
            go_ret
            exact ⟨by simp, HB17.out⟩
          · have e1 : decide (No.length = n) = false := decide_eq_false hl
            have e2 : ((No.length : Int) == (n : Int)) = false := beq_eq_false_iff_ne.2 (by omega)
            rw [e1]
            go_wp2_with (fail)
            go_ret
            exact ⟨by simp, HB17.out⟩
end Go.Proofs.YtecfmmalbehcnaaDoor.Q
