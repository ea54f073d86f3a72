/- The reference's May. -/
import Derived.Test.YtecfmmalbehcnaaDoorNRMay
namespace Go.Proofs.YtecfmmalbehcnaaDoor.Q
open Go.Shelf Go.RowKit Go.Proofs Go.Proofs.YtecfmmalbehcnaaDoorW.PrintWords Go.Proofs.YtecfmmalbehcnaaDoorW.PrintLast Go.Proofs.YtecfmmalbehcnaaDoorW.PrintMore Go.Proofs.YtecfmmalbehcnaaDoorV
set_option linter.unusedVariables false
set_option linter.unusedSimpArgs false

def ApK (n : List Gl) (k : Nat) : Prop := ∀ i g h, i + 1 < k → n[i]? = some g → n[i + 1]? = some h → ¬ (g.kind = 1 ∧ h.kind = 1)
theorem apart_of : ∀ n : List Gl, ApK n n.length → ApartG n := by
  intro n
  induction n with
  | nil => intro _; trivial
  | cons g t ih =>
    intro h
    cases t with
    | nil => trivial
    | cons g2 r =>
      refine ⟨h 0 g g2 (by simp) rfl rfl, ih (fun i a b hi ha hb => ?_)⟩
      exact h (i + 1) a b (by simp only [List.length_cons] at *; omega) ha hb
theorem apart_to : ∀ n : List Gl, ApartG n → ApK n n.length := by
  intro n
  induction n with
  | nil => intro _ i g h hi; simp at hi
  | cons g t ih =>
    intro h
    cases t with
    | nil => intro i a b hi; simp at hi
    | cons g2 r =>
      intro i a b hi ha hb
      cases i with
      | zero =>
        simp at ha hb
        subst ha; subst hb
        exact h.1
      | succ i => exact ih h.2 i a b (by simp only [List.length_cons] at *; omega) ha hb
theorem mayB_false {p : List (List Gl)} (h : ¬ PatMay p) : mayB p = false := by
  cases hq : mayB p with
  | false => rfl
  | true => exact absurd (mayB_iff.1 hq) h
set_option maxHeartbeats 6400000 in
theorem ref_May {w : World} {A : Option Addr} {c : Nat} {p : List (List Gl)} (h : kNode.C w A p.length p) (hc : p.length ≤ c) (hb : bulkP p ≤ 1048576) :
    Calls Tryd.prog 40 #[.agg #[.slice A p.length c]] w fun e w' => e = .returned (.bool (mayB p)) ∧ Below w.heap.size w w' := by
  have hpl := bulkP_len p
  have H := Aside0.mk h
  have HB := Aside0.mk (below_alloc (Below.refl w.heap.size w) (.cells #[.slice A p.length c] 24))
  have HBX := Aside0.mk (heap_alloc_new w (.cells #[.slice A p.length c] 24 (0, 0)))
  have HBK := Aside0.mk hb
  have hpl2 : p.length ≤ 1048576 := by omega
  clear h hpl hb
  have x0 : (w.alloc (.cells #[.slice A p.length c] 24 (0, 0))).cell? ⟨w.heap.size, 0, none⟩ = some (.slice A p.length c) := blk_cell HBX.out 0
  by_cases h1 : p.length < 1
  · have HR := Aside0.mk (mayB_false (p := p) (fun q => q.1 (List.eq_nil_of_length_eq_zero (by omega))))
    have d1 : decide ((p.length : Int) < 1) = true := decide_eq_true (by omega)
    have d1n : decide (p.length < 1) = true := decide_eq_true h1
    have h0 := h1
    clear h1
    go_enter Tryd.func40, Tryd.ntmps40
    go_wp2_with (fail)
    go_ret
    exact ⟨by rw [HR.out]; rfl, HB.out⟩
  · have d1 : decide ((p.length : Int) < 1) = false := decide_eq_false (by omega)
    have d1n : decide (p.length < 1) = false := decide_eq_false h1
    by_cases h2 : 16 < p.length
    · have HR := Aside0.mk (mayB_false (p := p) (fun q => by have := q.2.1; omega))
      have d2 : decide ((16 : Int) < (p.length : Int)) = true := decide_eq_true (by omega)
      have d2n : decide (16 < p.length) = true := decide_eq_true h2
      clear h1 h2
      go_enter Tryd.func40, Tryd.ntmps40
      go_wp2_with (fail)
      go_ret
      exact ⟨by rw [HR.out]; rfl, HB.out⟩
    · have d2 : decide ((16 : Int) < (p.length : Int)) = false := decide_eq_false (by omega)
      have d2n : decide (16 < p.length) = false := decide_eq_false h2
      have HNE := Aside0.mk (show p ≠ [] from fun e => h1 (by rw [e]; decide))
      have H16 := Aside0.mk (show p.length ≤ 16 by omega)
      clear h1 h2
      go_enter Tryd.func40, Tryd.ntmps40
      go_wp2_with (fail)
      clear d1 d1n d2 d2n
      go_loopg [3] p.length (fun kq v3 w' => ∃ k : Nat, v3 = .int .i64 (k : Int) ∧ k + kq = p.length ∧ Aside0 (∀ n ∈ p.take k, NodeMay n) ∧ Aside0 (Below w.heap.size w w') ∧ Aside0 (w'.heap[w.heap.size]? = some (.cells #[.slice A p.length c] 24 (0, 0))))
      case atStart => exact ⟨0, rfl, by omega, ⟨fun n h => by simp at h⟩, HB, HBX⟩
      case round =>
        obtain ⟨k, rfl, hkq, HAll, HW, HX⟩ := hrel
        clear HB HBX x0
        have x0 : wr.cell? ⟨w.heap.size, 0, none⟩ = some (.slice A p.length c) := blk_cell HX.out 0
        cases gk with
        | succ k1 =>
          have d1 : decide ((k : Int) < (p.length : Int)) = true := decide_eq_true (by omega)
          have E9 := Aside0.mk (show k + 1 + k1 = p.length by omega)
          obtain ⟨n, hn⟩ : ∃ n, p[k]? = some n := ⟨_, List.getElem?_eq_getElem (by omega)⟩
          obtain ⟨ad, An, cn, rfl, q0, hcn, hC⟩ := at_node (Kd.C_below H.out HW.out) hn
          have HBad := Aside0.mk (fun (q : ¬ NodeMay n) => mayB_false (p := p) (fun e => q (e.2.2 n (List.mem_of_getElem? hn))))
          have HGood := Aside0.mk (fun (q : NodeMay n) => show ∀ m ∈ p.take (k + 1), NodeMay m by
            rw [take_snocR hn]
            intro m hm
            rcases List.mem_append.1 hm with r | r
            · exact HAll.out m r
            · rw [List.mem_singleton.1 r]; exact q)
          have hk2 : k < p.length := by omega
          have hnl2 : n.length ≤ 1048576 := by have h1 := bulkP_mem (List.mem_of_getElem? hn); have h2 := bulkN_len n; have := HBK.out; omega
          have HBN := Aside0.mk (show ∀ g ∈ n, bulkG g ≤ 1048576 from fun g hg => by have h1 := bulkP_mem (List.mem_of_getElem? hn); have h2 := bulkN_mem hg; have := HBK.out; omega)
          have HC := Aside0.mk hC
          clear hn hC hkq
          by_cases hz : n.length = 0
          · have HR := Aside0.mk (HBad.out (fun e => e.1 (List.eq_nil_of_length_eq_zero hz)))
            have e0 : ((n.length : Int) == 0) = true := by rw [hz]; rfl
            go_wp2_with (fail)
            go_ret
            exact ⟨by rw [HR.out]; rfl, HW.out⟩
          · have HNn := Aside0.mk (show n ≠ [] from fun e => hz (by rw [e]; rfl))
            have e0 : ((n.length : Int) == 0) = false := beq_eq_false_iff_ne.2 (by omega)
            have e1 : (n.length = 0) = False := eq_false hz
            clear hz
            obtain ⟨m, hm⟩ : ∃ m, m = n.length := ⟨_, rfl⟩
            rw [← hm] at q0 hcn hnl2 e0 e1
            have HML := Aside0.mk hm
            clear hm
            go_upto_region 10 with (fail)
            clear e0 e1
            obtain ⟨wo, hwo⟩ : ∃ wo : World, wo = wr := ⟨_, rfl⟩
            subst hwo
            go_loopg [5] m (fun kq v5 w' => ∃ j : Nat, v5 = .int .i64 (j : Int) ∧ j + kq = m ∧ Aside0 (∀ i g, i < j → n[i]? = some g → GlobMay g) ∧ Aside0 (ApK n j) ∧ Aside0 (Below wo.heap.size wo w'))
            case atStart => exact ⟨0, rfl, by omega, ⟨fun i g h => by omega⟩, ⟨fun i g h hi => by omega⟩, ⟨Below.refl _ _⟩⟩
            case round =>
              obtain ⟨j, rfl, hjq, HG, HAp, HWo⟩ := hrel
              have HWW := Aside0.mk (HW.out.trans (HWo.out.mono HW.out.size))
              cases gk with
              | succ j1 =>
                have d2 : decide ((j : Int) < (m : Int)) = true := decide_eq_true (by omega)
                have d2n : decide (j < m) = true := decide_eq_true (by omega)
                have hjm : j < m := by omega
                have E8 := Aside0.mk (show j + 1 + j1 = m by omega)
                obtain ⟨g, hg⟩ : ∃ g, n[j]? = some g := ⟨_, List.getElem?_eq_getElem (by rw [← HML.out]; omega)⟩
                obtain ⟨gd, G2, gc, rfl, s0, s1, s2, hK⟩ := at_glob (Kd.C_below HC.out HWo.out) hg
                have HGM := Aside0.mk (ref_globMay hK (HBN.out g (List.mem_of_getElem? hg)))
                have HGj := Aside0.mk hg
                have HCm := Aside0.mk (fun W (hb : Below wr.heap.size wr W) => at_glob (Kd.C_below (Kd.C_below HC.out HWo.out) hb) hg)
                obtain ⟨na, hna⟩ : ∃ na, na = g.alts.length := ⟨_, rfl⟩
                rw [List.length_map, ← hna] at s2 HGM
                obtain ⟨kd, hkd⟩ : ∃ kd, kd = g.kind := ⟨_, rfl⟩
                rw [← hkd] at s0 HGM
                have HKD := Aside0.mk hkd
                clear hg hK hkd hna hjq
                obtain ⟨b, hb0⟩ : ∃ b, b = gmB g := ⟨_, rfl⟩
                rw [← hb0] at HGM
                have HB0 := Aside0.mk hb0
                clear hb0
                cases b with
                | false =>
                  have HR := Aside0.mk (HBad.out (fun e => by have := gmB_true (e.2.1 g (List.mem_of_getElem? HGj.out)); rw [← HB0.out] at this; cases this))
                  go_wp2_with (fail)
                  refine (HGM.out).mono ?_
                  rintro e w2 ⟨rfl, hbb⟩
                  have HB2 := Aside0.mk (HWW.out.trans (hbb.mono HWW.out.size))
                  clear hbb
                  go_wp2_with (fail)
                  go_ret
                  exact ⟨by rw [HR.out]; rfl, HB2.out⟩
                | true =>
                  have HG2 := Aside0.mk (show ∀ i h, i < j + 1 → n[i]? = some h → GlobMay h from fun i h hi hh => by
                    by_cases q : i < j
                    · exact HG.out i h q hh
                    · obtain rfl : i = j := by omega
                      have e := HGj.out.symm.trans hh
                      injection e with e
                      rw [← e]
                      exact gmB_iff.1 HB0.out.symm)
                  by_cases j0 : j = 0
                  · have HA2 := Aside0.mk (show ApK n (j + 1) from fun i g h hi => by omega)
                    have d3 : decide (0 < (j : Int)) = false := decide_eq_false (by omega)
                    have d3n : decide (0 < j) = false := decide_eq_false (by omega)
                    clear j0
                    go_wp2_with (fail)
                    refine (HGM.out).mono ?_
                    rintro e w2 ⟨rfl, hbb⟩
                    have HB2 := Aside0.mk (HWo.out.trans (hbb.mono HWo.out.size))
                    have HBW := Aside0.mk (HWW.out.trans (hbb.mono HWW.out.size))
                    clear hbb
                    go_wp2_with (fail)
                    go_roundg j1
                    case rel => exact ⟨j + 1, by go_num, E8.out, HG2, HA2, HB2⟩
                    case measure => omega
                  · obtain ⟨f, hf⟩ : ∃ f, n[j - 1]? = some f := ⟨_, List.getElem?_eq_getElem (by rw [← HML.out]; omega)⟩
                    have HFj := Aside0.mk hf
                    have HCf := Aside0.mk (fun W (hb : Below wr.heap.size wr W) => at_glob (Kd.C_below (Kd.C_below HC.out HWo.out) hb) hf)
                    have d3 : decide (0 < (j : Int)) = true := decide_eq_true (by omega)
                    have d3n : decide (0 < j) = true := decide_eq_true (by omega)
                    have pm0 : (0 ≤ (j : Int) - 1) = True := eq_true (by omega)
                    have pm1 : ((j : Int) - 1 < (m : Int)) = True := eq_true (by omega)
                    have pm2 : ((j : Int) - 1).toNat = j - 1 := by omega
                    have pm3 : ((1 : Int) ≤ (j : Int)) = True := eq_true (by omega)
                    have pm4 : (1 ≤ j) = True := eq_true (by omega)
                    have pm5 : ((j : Int) ≤ (m : Int)) = True := eq_true (by omega)
                    have pm6 : (j ≤ m) = True := eq_true (by omega)
                    have pm7 : ((j : Int) < (m : Int) + 1) = True := eq_true (by omega)
                    have pm8 : (j < m + 1) = True := eq_true (by omega)
                    have pm9 : (j - 1 < m) = True := eq_true (by omega)
                    have hj1 := Aside0.mk (show j - 1 + 1 = j by omega)
                    obtain ⟨kf, hkf⟩ : ∃ kf, kf = f.kind := ⟨_, rfl⟩
                    have HKF := Aside0.mk hkf
                    clear hf hkf j0
                    go_wp2_with (fail)
                    refine (HGM.out).mono ?_
                    rintro e w2 ⟨rfl, hbb⟩
                    have HB2 := Aside0.mk (HWo.out.trans (hbb.mono HWo.out.size))
                    have HBW := Aside0.mk (HWW.out.trans (hbb.mono HWW.out.size))
                    obtain ⟨gd2, G3, gc3, eg, t0, -, -, -⟩ := HCm.out _ hbb
                    injection eg with eg
                    subst eg
                    obtain ⟨gd2, G4, gc4, eg, u0, -, -, -⟩ := HCf.out _ hbb
                    injection eg with eg
                    subst eg
                    rw [← HKD.out] at t0
                    rw [← HKF.out] at u0
                    clear hbb
                    by_cases c1 : kd = 1
                    · have b1 : (kd == 1) = true := by rw [c1]; rfl
                      have hc1 := Aside0.mk c1
                      subst c1
                      by_cases c2 : kf = 1
                      · have hc2 := Aside0.mk c2
                        subst c2
                        have HR := Aside0.mk (HBad.out (fun e => apart_to n e.2.2 (j - 1) f g (by rw [hj1.out, ← HML.out]; omega) HFj.out (by rw [hj1.out]; exact HGj.out) ⟨HKF.out.symm, HKD.out.symm⟩))
                        go_wp2_with (fail)
                        go_ret
                        exact ⟨by rw [HR.out]; rfl, HBW.out⟩
                      · have HA2 := Aside0.mk (show ApK n (j + 1) from fun i a b hi ha hb => by
                          by_cases q : i + 1 < j
                          · exact HAp.out i a b q ha hb
                          · obtain rfl : i = j - 1 := by omega
                            have e := HFj.out.symm.trans ha
                            injection e with e
                            rw [← e]
                            exact fun x => c2 (by rw [HKF.out]; exact x.1))
                        have b2 : (kf == 1) = false := beq_eq_false_iff_ne.2 c2
                        have b3 : (kf = 1) = False := eq_false c2
                        clear c2
                        go_wp2_with (fail)
                        go_roundg j1
                        case rel => exact ⟨j + 1, by go_num, E8.out, HG2, HA2, HB2⟩
                        case measure => omega
                    · have HA2 := Aside0.mk (show ApK n (j + 1) from fun i a b hi ha hb => by
                        by_cases q : i + 1 < j
                        · exact HAp.out i a b q ha hb
                        · obtain rfl : i = j - 1 := by omega
                          rw [hj1.out] at hb
                          have e := HGj.out.symm.trans hb
                          injection e with e
                          rw [← e]
                          exact fun x => c1 (by rw [HKD.out]; exact x.2))
                      have b2 : (kd == 1) = false := beq_eq_false_iff_ne.2 c1
                      have b3 : (kd = 1) = False := eq_false c1
                      clear c1
                      go_wp2_with (fail)
                      go_roundg j1
                      case rel => exact ⟨j + 1, by go_num, E8.out, HG2, HA2, HB2⟩
                      case measure => omega
              | zero =>
                have hj : j = m := by omega
                have d2 : decide ((j : Int) < (m : Int)) = false := decide_eq_false (by omega)
                have d2n : decide (j < m) = false := decide_eq_false (by omega)
                have HXr := Aside0.mk (blk_below HX.out HWo.out)
                have HAll2 := Aside0.mk (HGood.out ⟨HNn.out, fun g hg => by
                  obtain ⟨i, hi⟩ := List.mem_iff_getElem?.1 hg
                  exact HG.out i g (by have := (List.getElem?_eq_some_iff.1 hi).1; rw [hj, HML.out]; exact this) hi, apart_of n (by have := HAp.out; rwa [hj, HML.out] at this)⟩)
                clear hj hjq
                go_wp2_with (fail)
                go_roundg k1
                case rel => exact ⟨k + 1, by go_num, E9.out, HAll2, HWW, HXr⟩
                case measure => omega
        | zero =>
          have hk : k = p.length := by omega
          have d1 : decide ((k : Int) < (p.length : Int)) = false := decide_eq_false (by omega)
          have d1n : decide (k < p.length) = false := decide_eq_false (by omega)
          have HR := Aside0.mk (show mayB p = true from mayB_iff.2 ⟨HNE.out, H16.out, by have := HAll.out; rwa [hk, List.take_length] at this⟩)
          clear hk hkq
          go_wp2_with (fail)
          go_ret
          exact ⟨by rw [HR.out]; rfl, HW.out⟩
end Go.Proofs.YtecfmmalbehcnaaDoor.Q
