/- NameFirst: the place of a fault ahead of a text's end hangs on nothing behind it. The law's walk. -/
import Derived.Test.YtecfmmalbehcnaaDoorME
namespace Go.Proofs.YtecfmmalbehcnaaDoor.Q
open Go.Shelf Go.RowKit Go.Proofs Go.Proofs.YtecfmmalbehcnaaDoorW.PrintWords Go.Proofs.YtecfmmalbehcnaaDoorW.PrintLast Go.Proofs.YtecfmmalbehcnaaDoorW.PrintMore Go.Proofs.YtecfmmalbehcnaaDoorV
set_option linter.unusedVariables false
set_option linter.unusedSimpArgs false

theorem compP_e0 {s : List UInt8} (h : (compP s).2.2 ≠ 0) : (compP s).1 = [] := by
  unfold compP at *
  by_cases h4 : 400 < s.length
  · rw [if_pos h4]
  · rw [if_neg h4] at h ⊢
    unfold compileP at *
    cases hr : readR [] s with
    | ok q r => rw [hr] at h; exact absurd rfl h
    | err r e => rfl
theorem compP_first {s m : List UInt8} (h0 : (compP s).2.2 ≠ 0) (h : (compP s).2.1 < s.length) (h4 : s.length + m.length ≤ 400) : compP (s ++ m) = compP s := by
  unfold compP at *
  have n1 : ¬ 400 < s.length := by omega
  have n2 : ¬ 400 < (s ++ m).length := by rw [List.length_append]; omega
  rw [if_neg n1] at h0 h ⊢
  rw [if_neg n2]
  exact compile_first h0 h

/-- The pattern of a text's block, in the world behind it. -/
theorem agg_alloc {w1 : World} {A1 : Option Addr} {n c : Nat} {p : List (List Gl)} {base : Nat} (ho : kNode.R 40 w1 base (fun _ => True) (.slice A1 n c) p) :
    kNode.C (w1.alloc (.cells #[.slice A1 n c] 24 (0, 0))) A1 p.length p :=
  Kd.C_alloc (own_reads_pat ho).2.2 (.cells #[.slice A1 n c] 24)

set_option maxHeartbeats 3200000 in
theorem law_NameFirst (w : World) (s m : ByteArray) (hs : s.size ≤ 9223372036854775807) (hm : m.size ≤ 9223372036854775807) :
    Calls Tryd.prog 7 #[.string s, .string m] w fun e w' => e = .returned (.bool true) ∧ Below w.heap.size w w' := by
  have hl := size_data s
  have hlm := size_data m
  have HC := Aside0.mk (fun W => name_Compile s W)
  have HC2 := Aside0.mk (fun W => name_Compile (s ++ m) W)
  have HE := Aside0.mk (@compP_e0 s.data.toList)
  have HF := Aside0.mk (@compP_first s.data.toList m.data.toList)
  have HA := Aside0.mk law_alive
  have hsm : (s ++ m).data.toList = s.data.toList ++ m.data.toList := by simp
  rw [hsm] at HC2
  generalize hc : compP s.data.toList = c at HC HE HF
  obtain ⟨p, at1, er⟩ := c
  have HH := Aside0.mk (show (decide (er = 31) = true ∨ decide (er = 3) = true) ∧ at1 < s.size ∧ s.size + m.size ≤ 400 → p = [] ∧ compP (s.data.toList ++ m.data.toList) = ([], at1, er) from by
    rintro ⟨h0, h1, h2⟩
    have h0 : er = 31 ∨ er = 3 := by simpa using h0
    have hne : er ≠ 0 := by omega
    obtain rfl : p = [] := HE.out hne
    exact ⟨rfl, HF.out hne (by simpa [hl] using h1) (by omega)⟩)
  clear hc HE HF hsm hl hlm
  go_enter Tryd.func7, Tryd.ntmps7
  go_upto_region 2 with (go_at_call 16; (with_reducible refine (HC.out _).mono ?_); rintro e w1 hp; obtain ⟨v, rfl, ho, hb⟩ := hp; have HB1 := Aside0.mk hb; obtain ⟨A1, c1, ev⟩ := Kd.R_slice ho; subst ev; have HR1 := Aside0.mk (own_reads_pat ho); clear ho hb)
  have hx := heap_alloc_new w1 (.cells #[.slice A1 p.length c1] 24 (0, 0))
  have HX2 := Aside0.mk hx
  have HB2 := Aside0.mk (below_alloc HB1.out (.cells #[.slice A1 p.length c1] 24))
  change Code.wp _ _ _ _ (w1.alloc (.cells #[.slice A1 p.length c1] 24))
  obtain ⟨g1, hg1⟩ : ∃ g1, g1 = w1.heap.size := ⟨_, rfl⟩
  rw [← hg1] at HX2 ⊢
  clear hx hg1
  generalize w1.alloc (.cells #[.slice A1 p.length c1] 24) = w2 at HX2 HB2 ⊢
  by_cases h1 : decide (er = 31) = true
  · obtain rfl : er = 31 := of_decide_eq_true h1
    have h1 := Aside0.mk h1
    · by_cases h2 : at1 < s.size
      · by_cases h3 : s.size + m.size ≤ 400
        · obtain ⟨rfl, e2⟩ := HH.out ⟨by decide, h2, h3⟩
          rw [e2] at HC2
          clear HH e2
          have d2 : decide ((s.size : Int) ≤ at1) = false := decide_eq_false (by omega)
          have d3 : decide ((400 : Int) - (m.size : Int) < (s.size : Int)) = false := decide_eq_false (by omega)
          go_upto_region 5 with (go_at_call 16; (with_reducible refine (HC2.out _).mono ?_); rintro e w3 hp; obtain ⟨v, rfl, ho, hb⟩ := hp; have HB3 := Aside0.mk hb; obtain ⟨A2, c2, ev⟩ := Kd.R_slice ho; subst ev; clear ho hb)
          have HX3 := Aside0.mk (blk_alloc (blk_below HX2.out HB3.out) (.cells #[.slice A2 0 c2] 24))
          have hy := heap_alloc_new w3 (.cells #[.slice A2 0 c2] 24 (0, 0))
          have HB4 := Aside0.mk (HB2.out.trans (HB3.out.mono HB2.out.size))
          have HB5 := Aside0.mk (below_alloc HB4.out (.cells #[.slice A2 0 c2] 24))
          change Code.wp _ _ _ _ (w3.alloc (.cells #[.slice A2 0 c2] 24))
          obtain ⟨g2, hg2⟩ : ∃ g2, g2 = w3.heap.size := ⟨_, rfl⟩
          rw [← hg2] at hy ⊢
          clear hg2 HB3 HB4
          generalize w3.alloc (.cells #[.slice A2 0 c2] 24) = w4 at HX3 hy HB5 ⊢
          have x1 : w4.cell? ⟨g1, 0, none⟩ = some (.slice A1 0 c1) := blk_cell HX3.out 0
          have x2 : w4.cell? ⟨g2, 0, none⟩ = some (.slice A2 0 c2) := blk_cell hy 0
          have hy := Aside0.mk hy
          go_wp2_with (fail)
          refine (HA.out _).mono ?_
          rintro e w5 ⟨rfl, hb⟩
          have HB6 := Aside0.mk (HB5.out.trans (hb.mono HB5.out.size))
          clear hb x1 x2
          go_wp2_with (fail)
          go_ret
          exact ⟨rfl, HB6.out⟩
        · have d3 : decide ((400 : Int) - (m.size : Int) < (s.size : Int)) = true := decide_eq_true (by omega)
          have d2 : decide ((s.size : Int) ≤ at1) = false := decide_eq_false (by omega)
          clear HH
          go_wp2_with (fail)
          refine (HA.out _).mono ?_
          rintro e w5 ⟨rfl, hb⟩
          have HB5 := Aside0.mk (HB2.out.trans (hb.mono HB2.out.size))
          clear hb
          go_wp2_with (fail)
          go_ret
          exact ⟨rfl, HB5.out⟩
      · have d2 : decide ((s.size : Int) ≤ at1) = true := decide_eq_true (by omega)
        clear HH
        go_wp2_with (fail)
        refine (HA.out _).mono ?_
        rintro e w5 ⟨rfl, hb⟩
        have HB5 := Aside0.mk (HB2.out.trans (hb.mono HB2.out.size))
        clear hb
        go_wp2_with (fail)
        go_ret
        exact ⟨rfl, HB5.out⟩
  · by_cases h0 : decide (er = 3) = true
    · obtain rfl : er = 3 := of_decide_eq_true h0
      have h0 := Aside0.mk h0
      · by_cases h2 : at1 < s.size
        · by_cases h3 : s.size + m.size ≤ 400
          · obtain ⟨rfl, e2⟩ := HH.out ⟨by decide, h2, h3⟩
            rw [e2] at HC2
            clear HH e2
            have d2 : decide ((s.size : Int) ≤ at1) = false := decide_eq_false (by omega)
            have d3 : decide ((400 : Int) - (m.size : Int) < (s.size : Int)) = false := decide_eq_false (by omega)
            go_upto_region 5 with (go_at_call 16; (with_reducible refine (HC2.out _).mono ?_); rintro e w3 hp; obtain ⟨v, rfl, ho, hb⟩ := hp; have HB3 := Aside0.mk hb; obtain ⟨A2, c2, ev⟩ := Kd.R_slice ho; subst ev; clear ho hb)
            have HX3 := Aside0.mk (blk_alloc (blk_below HX2.out HB3.out) (.cells #[.slice A2 0 c2] 24))
            have hy := heap_alloc_new w3 (.cells #[.slice A2 0 c2] 24 (0, 0))
            have HB4 := Aside0.mk (HB2.out.trans (HB3.out.mono HB2.out.size))
            have HB5 := Aside0.mk (below_alloc HB4.out (.cells #[.slice A2 0 c2] 24))
            change Code.wp _ _ _ _ (w3.alloc (.cells #[.slice A2 0 c2] 24))
            obtain ⟨g2, hg2⟩ : ∃ g2, g2 = w3.heap.size := ⟨_, rfl⟩
            rw [← hg2] at hy ⊢
            clear hg2 HB3 HB4
            generalize w3.alloc (.cells #[.slice A2 0 c2] 24) = w4 at HX3 hy HB5 ⊢
            have x1 : w4.cell? ⟨g1, 0, none⟩ = some (.slice A1 0 c1) := blk_cell HX3.out 0
            have x2 : w4.cell? ⟨g2, 0, none⟩ = some (.slice A2 0 c2) := blk_cell hy 0
            have hy := Aside0.mk hy
            go_wp2_with (fail)
            refine (HA.out _).mono ?_
            rintro e w5 ⟨rfl, hb⟩
            have HB6 := Aside0.mk (HB5.out.trans (hb.mono HB5.out.size))
            clear hb x1 x2
            go_wp2_with (fail)
            go_ret
            exact ⟨rfl, HB6.out⟩
          · have d3 : decide ((400 : Int) - (m.size : Int) < (s.size : Int)) = true := decide_eq_true (by omega)
            have d2 : decide ((s.size : Int) ≤ at1) = false := decide_eq_false (by omega)
            clear HH
            go_wp2_with (fail)
            refine (HA.out _).mono ?_
            rintro e w5 ⟨rfl, hb⟩
            have HB5 := Aside0.mk (HB2.out.trans (hb.mono HB2.out.size))
            clear hb
            go_wp2_with (fail)
            go_ret
            exact ⟨rfl, HB5.out⟩
        · have d2 : decide ((s.size : Int) ≤ at1) = true := decide_eq_true (by omega)
          clear HH
          go_wp2_with (fail)
          refine (HA.out _).mono ?_
          rintro e w5 ⟨rfl, hb⟩
          have HB5 := Aside0.mk (HB2.out.trans (hb.mono HB2.out.size))
          clear hb
          go_wp2_with (fail)
          go_ret
          exact ⟨rfl, HB5.out⟩
    · have d1 : (er = 31) = False := eq_false (by simpa using h1)
      have d0 : (er = 3) = False := eq_false (by simpa using h0)
      clear h1 h0
      clear HH
      go_wp2_with (fail)
      refine (HA.out _).mono ?_
      rintro e w5 ⟨rfl, hb⟩
      have HB5 := Aside0.mk (HB2.out.trans (hb.mono HB2.out.size))
      clear hb
      go_wp2_with (fail)
      go_ret
      exact ⟨rfl, HB5.out⟩
end Go.Proofs.YtecfmmalbehcnaaDoor.Q
