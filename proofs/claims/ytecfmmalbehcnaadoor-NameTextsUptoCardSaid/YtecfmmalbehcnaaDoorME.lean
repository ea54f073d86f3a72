/- Contracts and plain laws that this claim wants, laid in one text; under no condition beyond those that each theorem states. -/
import Derived.Test.YtecfmmalbehcnaaDoorMD
import Derived.Test.YtecfmmalbehcnaaDoorMC
import Derived.Test.YtecfmmalbehcnaaDoorMA
import Derived.Shelf.Strings.Prefix
import Derived.Shelf.Strings.Search1
import Derived.Laws.EntriesVeiled
import Derived.StillTailTactics
/- name.may: may a pattern be. -/
namespace Go.Proofs.YtecfmmalbehcnaaDoor.Q
open Go.Shelf Go.RowKit Go.Proofs Go.Proofs.YtecfmmalbehcnaaDoorW.PrintWords Go.Proofs.YtecfmmalbehcnaaDoorW.PrintLast Go.Proofs.YtecfmmalbehcnaaDoorW.PrintMore Go.Proofs.YtecfmmalbehcnaaDoorV
set_option linter.unusedVariables false
set_option linter.unusedSimpArgs false

/-- What is asked of a piece ahead of the reading. -/
def globC (g : Gl) : Bool := decide (1 ≤ g.kind ∧ g.kind ≤ 5 ∧ (g.kind = 5 ∨ g.alts = []) ∧ g.alts.length ≤ 16) && (decide (g.kind ≠ 5) || (!g.alts.isEmpty && g.alts.all bytesP))
def mayB (p : List (List Gl)) : Bool := p.all (fun n => n.all globC) && (decide ((compileP (wholeR p)).2.2 = 0) && decide (p = (compileP (wholeR p)).1))
theorem bytesP_iff {a : List UInt8} : bytesP a = true ↔ ∀ x ∈ a, nb x = true := by unfold bytesP; exact List.all_eq_true
theorem globC_of_may {g : Gl} (h : GlobMay g) : globC g = true := by
  unfold globC
  rcases h with ⟨h1, -, -, h4⟩ | ⟨h1, -, h3⟩ | ⟨h1, -, -, -, h5⟩ | ⟨h1, h2, h3, h4, h5⟩
  · rw [h1, h4]; rfl
  · rcases h1 with h1 | h1 <;> rw [h1, h3] <;> rfl
  · rw [h1, h5]; rfl
  · have e : g.alts.all bytesP = true := List.all_eq_true.2 (fun a ha => bytesP_iff.2 (h5 a ha))
    have e2 : g.alts.isEmpty = false := by
      cases hq : g.alts with
      | nil => exact absurd hq h3
      | cons a t => rfl
    rw [e, e2, decide_eq_true ⟨by omega, by omega, .inl h1, h4⟩]
    simp
theorem mayB_iff {p : List (List Gl)} : mayB p = true ↔ PatMay p := by
  unfold mayB
  rw [Bool.and_eq_true, Bool.and_eq_true, decide_eq_true_eq, decide_eq_true_eq]
  constructor
  · rintro ⟨-, h2, h3⟩
    have := compile_ok (s := wholeR p) (p := (compileP (wholeR p)).1) (at_ := (compileP (wholeR p)).2.1) (by rw [← h2])
    rw [h3]
    exact this.1
  · intro h
    rw [compile_whole h]
    exact ⟨List.all_eq_true.2 (fun n hn => List.all_eq_true.2 (fun g hg => globC_of_may ((h.2.2 n hn).2.1 g hg))), rfl, rfl⟩
theorem mayB_end (p : List (List Gl)) : mayB p = (decide ((compileP (wholeR p)).2.2 = 0) && decide (p = (compileP (wholeR p)).1)) := by
  cases h : (decide ((compileP (wholeR p)).2.2 = 0) && decide (p = (compileP (wholeR p)).1)) with
  | false => unfold mayB; rw [h, Bool.and_false]
  | true =>
    rw [mayB_iff]
    rw [Bool.and_eq_true, decide_eq_true_eq, decide_eq_true_eq] at h
    have := compile_ok (s := wholeR p) (p := (compileP (wholeR p)).1) (at_ := (compileP (wholeR p)).2.1) (by rw [← h.1])
    rw [h.2]
    exact this.1
theorem mayB_glob {p : List (List Gl)} {n : List Gl} {g : Gl} (hn : n ∈ p) (hg : g ∈ n) (h : globC g = false) : mayB p = false := by
  unfold mayB
  have : (p.all fun n => n.all globC) = false := by
    rw [← Bool.not_eq_true]
    intro q
    have := List.all_eq_true.1 (List.all_eq_true.1 q n hn) g hg
    rw [h] at this
    cases this
  rw [this]
  rfl
theorem globC_bad {g : Gl} (h : ¬ (1 ≤ g.kind ∧ g.kind ≤ 5 ∧ (g.kind = 5 ∨ g.alts = []) ∧ g.alts.length ≤ 16)) : globC g = false := by
  unfold globC
  rw [decide_eq_false h]
  rfl
theorem globC_alts {g : Gl} (h5 : g.kind = 5) (h : g.alts = [] ∨ g.alts.all bytesP = false) : globC g = false := by
  unfold globC
  have e : (decide (g.kind ≠ 5) || (!g.alts.isEmpty && g.alts.all bytesP)) = false := by
    rw [decide_eq_false (fun q => q h5)]
    rcases h with h | h
    · rw [h]; rfl
    · rw [h]; simp
  rw [e, Bool.and_false]
theorem globC_five {g : Gl} (h5 : g.kind = 5) (h0 : g.alts.length ≠ 0) (h16 : g.alts.length ≤ 16) (h : g.alts.all bytesP = true) : globC g = true := by
  unfold globC
  have e : g.alts.isEmpty = false := by
    cases hq : g.alts with
    | nil => rw [hq] at h0; exact absurd rfl h0
    | cons a t => rfl
  rw [decide_eq_true ⟨by omega, by omega, .inl h5, h16⟩, h, e]
  simp
def badA (s : ByteArray) : Bool := !bytesP s.data.toList
theorem may1_at (s : ByteArray) (hs : s.size ≤ 140737488355328) (w : World) : Calls Tryd.prog 65 #[.string s] w fun e w' => e = .returned (.bool (badA s)) ∧ ∃ q, w' = w.drewN q := by
  have c := fun w => bytes_calls s hs w
  go_enter Tryd.func65, Tryd.ntmps65
  go_wp2_with (go_at_call 45; refine (c _).mono ?_; rintro e w' ⟨rfl, ⟨nd, rfl⟩⟩)
  go_ret
  exact ⟨rfl, _, rfl⟩
theorem may1_pred (w : World) : PredAt Tryd.prog 65 #[] encS (fun x => badA x.1) w := fun W x _ => may1_at x.1 x.2 W
theorem cont_alts {w : World} {A : Option Addr} {c : Nat} {X : List ByteArray} (h : Kd.string.C w A X.length X) (hX : X.length ≤ 1073741824) (hs : ∀ x ∈ X, x.size ≤ 140737488355328) :
    Calls Tryd.prog 43 #[.slice A X.length c, .func (.func 65) #[] #[]] w fun e w' => e = .returned (.bool (X.any badA)) ∧ Below w.heap.size w w' := by
  cases X with
  | nil => exact (AnyE.slices_ContainsFunc_empty lays43 A c _ w).mono fun e w' ⟨he, hw⟩ => ⟨he, hw ▸ Below.refl _ _⟩
  | cons x t =>
    obtain ⟨ad, rfl, h0⟩ := at_str h (k := 0) (x := x) rfl
    have h0' : w.cell? ad = some (.string x) := h0
    have hsp := spot_none h0'
    obtain ⟨b, o, sp⟩ := ad
    subst hsp
    have ccont := AnyE.slices_ContainsFunc lays43 encS (fun x => badA x.1) 65 #[] (enters_of Tryd.func65 (by kernel_rfl) rfl) b o (x :: t).length c (shorts (x :: t) hs)
      w (may1_pred _) (by rw [shorts_length]; exact Nat.le_refl _) (by omega) (fun j hj => by
        have hg := shorts_get hs hj
        obtain ⟨ad2, e2, h2⟩ := at_str h hg
        injection e2 with e2
        subst e2
        rw [add_none rfl] at h2
        exact h2)
    rw [List.take_of_length_le (by rw [shorts_length]; exact Nat.le_refl _), any_shorts] at ccont
    refine ccont.mono ?_
    rintro e w' ⟨rfl, q, rfl⟩
    exact ⟨rfl, pw_below_drewN (Below.refl _ _) q⟩
theorem any_badA {l : List (List UInt8)} : (l.map strB).any badA = !l.all bytesP := by
  rw [List.any_map, List.all_eq_not_any_not, Bool.not_not]
  rfl
set_option maxHeartbeats 8000000 in
set_option maxRecDepth 100000 in
theorem name_may {w : World} {A : Option Addr} {c : Nat} {p : List (List Gl)} (h : kNode.C w A p.length p) (hc : p.length ≤ c) (hb : bulkP p ≤ 1048576) :
    Calls Tryd.prog 38 #[.agg #[.slice A p.length c]] w fun e w' => e = .returned (.bool (mayB p)) ∧ Below w.heap.size w w' := by
  have hpl := bulkP_len p
  have H := Aside0.mk h
  have HB := Aside0.mk (below_alloc (Below.refl w.heap.size w) (.cells #[.slice A p.length c] 24))
  have HBX := Aside0.mk (heap_alloc_new w (.cells #[.slice A p.length c] 24 (0, 0)))
  have HBS := Aside0.mk hb
  clear h
  go_enter Tryd.func38, Tryd.ntmps38
  go_wp2
  go_loopg [13] p.length (fun kq v13 w' => ∃ k : Nat, v13 = .int .i64 (k : Int) ∧ k + kq = p.length ∧ Aside0 (Below w.heap.size w w') ∧ Aside0 (w'.heap[w.heap.size]? = some (.cells #[.slice A p.length c] 24 (0, 0))))
  case atStart => exact ⟨0, rfl, by omega, HB, HBX⟩
  case round =>
    obtain ⟨k, rfl, hkq, HW, HX⟩ := hrel
    clear HB HBX
    cases gk with
    | succ k1 =>
      have d1 : decide ((k : Int) < (p.length : Int)) = true := decide_eq_true (by omega)
      obtain ⟨n, hn⟩ : ∃ n, p[k]? = some n := ⟨_, List.getElem?_eq_getElem (by omega)⟩
      obtain ⟨ad, An, cn, rfl, q0, hcn, hC⟩ := at_node (Kd.C_below H.out HW.out) hn
      have hbn := bulkP_mem (List.mem_of_getElem? hn)
      have hnl := bulkN_len n
      have HN := Aside0.mk (List.mem_of_getElem? hn)
      have HC := Aside0.mk hC
      have hk2 : k < p.length := by omega
      clear hn hC
      go_wp2
      obtain ⟨wo, hwo⟩ : ∃ wo : World, wo = wr := ⟨_, rfl⟩
      subst hwo
      go_loopg [19] n.length (fun kq v19 w' => ∃ q : Nat, v19 = .int .i64 (q : Int) ∧ q + kq = n.length ∧ Aside0 (Below wo.heap.size wo w'))
      case atStart => exact ⟨0, rfl, by omega, ⟨Below.refl _ _⟩⟩
      case round =>
        obtain ⟨q, rfl, hqq, HWo⟩ := hrel
        cases gk with
        | succ q1 =>
          have d2 : decide ((q : Int) < (n.length : Int)) = true := decide_eq_true (by omega)
          have hq2 : q < n.length := by omega
          obtain ⟨g, hg⟩ : ∃ g, n[q]? = some g := ⟨_, List.getElem?_eq_getElem (by omega)⟩
          obtain ⟨ad2, A2, c2, rfl, r0, r1, r2, hK⟩ := at_glob (Kd.C_below HC.out HWo.out) hg
          have hgm := List.mem_of_getElem? hg
          have hgb : bulkG g ≤ 1048576 := by have := bulkN_mem hgm; omega
          have HBad := Aside0.mk (fun q : globC g = false => mayB_glob HN.out hgm q)
          obtain ⟨m, hm⟩ : ∃ m, m = g.alts.length := ⟨_, rfl⟩
          obtain ⟨kd, hkd⟩ : ∃ kd, kd = g.kind := ⟨_, rfl⟩
          rw [List.length_map, ← hm] at r2
          rw [← hkd] at r0
          have hml : m ≤ 1048576 := by rw [hm]; have := bulkA_len g.alts; unfold bulkG at hgb; omega
          obtain ⟨A2', c2', eK, l2, g2⟩ := kGl_open hK
          injection eK with e1 eK
          injection eK with e2 eK
          injection eK with e3 eK
          injection e3 with e4 e5 e6
          subst e4; subst e6
          have HK2 := Aside0.mk g2
          have HM := Aside0.mk hm
          have HKD := Aside0.mk hkd
          have HGB := Aside0.mk hgb
          have HWW := Aside0.mk (HW.out.trans (HWo.out.mono HW.out.size))
          have HB1 := Aside0.mk (below_alloc (Below.refl wr.heap.size wr) (.cells #[.int .i64 kd, .string (strB g.text), .slice A2 m c2] 43))
          clear hK hg hgm hm hkd e1 e2 e5 eK l2 g2
          by_cases h1 : kd < 1
          · have b1 : decide (kd < 1) = true := decide_eq_true h1
            have HE := Aside0.mk (HBad.out (by exact globC_bad (fun q => by have h1 := HKD.out; have h2 := HM.out; omega)))
            clear h1
            go_wp2
            go_ret
            exact ⟨by rw [HE.out]; rfl, HWW.out.trans (HB1.out.mono HWW.out.size)⟩
          · have b1 : decide (kd < 1) = false := decide_eq_false h1
            by_cases h2 : 5 < kd
            · have b2 : decide (5 < kd) = true := decide_eq_true h2
              have HE := Aside0.mk (HBad.out (by exact globC_bad (fun q => by have h1 := HKD.out; have h2 := HM.out; omega)))
              clear h1 h2
              go_wp2
              go_ret
              exact ⟨by rw [HE.out]; rfl, HWW.out.trans (HB1.out.mono HWW.out.size)⟩
            · have b2 : decide (5 < kd) = false := decide_eq_false h2
              by_cases h5 : kd = 5
              · have b3 : (kd != 5) = false := by rw [h5]; rfl
                have b3' : (kd == 5) = true := by rw [h5]; rfl
                by_cases h16 : 16 < m
                · have b4 : decide ((16 : Int) < (m : Int)) = true := decide_eq_true (by omega)
                  have HE := Aside0.mk (HBad.out (by exact globC_bad (fun q => by have h1 := HKD.out; have h2 := HM.out; omega)))
                  clear h1 h2 h5 h16
                  go_wp2
                  go_ret
                  exact ⟨by rw [HE.out]; rfl, HWW.out.trans (HB1.out.mono HWW.out.size)⟩
                · have b4 : decide ((16 : Int) < (m : Int)) = false := decide_eq_false (by omega)
                  by_cases h0 : m = 0
                  · have b5 : ((m : Int) == 0) = true := by rw [h0]; rfl
                    have HE := Aside0.mk (HBad.out (by exact globC_alts (by have := HKD.out; omega) (.inl (List.eq_nil_of_length_eq_zero (by have := HM.out; omega)))))
                    clear h1 h2 h5 h16 h0
                    go_wp2
                    go_ret
                    exact ⟨by rw [HE.out]; rfl, HWW.out.trans (HB1.out.mono HWW.out.size)⟩
                  · have b5 : ((m : Int) == 0) = false := beq_eq_false_iff_ne.2 (by omega)
                    have HCt := Aside0.mk (fun W (hW : Below wr.heap.size wr W) => cont_alts (c := c2) (Kd.C_below HK2.out hW) (by rw [List.length_map, ← HM.out]; omega) (fun x hx => by
                      obtain ⟨a, ha, rfl⟩ := List.mem_map.1 hx
                      rw [strB_size]
                      have h1 := sum_mem (fun a : List UInt8 => a.length + 1) g.alts a ha
                      have h2 := HGB.out
                      unfold bulkG bulkA at h2
                      have h3 : a.length + 1 ≤ (g.alts.map (fun a => a.length + 1)).sum := h1
                      omega))
                    rw [any_badA, List.length_map, ← HM.out] at HCt
                    cases hal : g.alts.all bytesP with
                    | false =>
                      rw [hal] at HCt
                      have HE := Aside0.mk (HBad.out (globC_alts (by have := HKD.out; omega) (.inr hal)))
                      clear h1 h2 h5 h16 h0 hal
                      go_wp2_with (go_at_call 43; (with_reducible refine (HCt.out _ HB1.out).mono ?_); rintro e w1 ⟨rfl, hb⟩; have HB2 := Aside0.mk (HB1.out.trans (hb.mono HB1.out.size)); clear hb)
                      go_ret
                      exact ⟨by rw [HE.out]; rfl, HWW.out.trans (HB2.out.mono HWW.out.size)⟩
                    | true =>
                      rw [hal] at HCt
                      have HG := Aside0.mk (show globC g = true from globC_five (by have := HKD.out; omega) (by have := HM.out; omega) (by have := HM.out; omega) hal)
                      clear h1 h2 h5 h16 h0 hal
                      go_wp2_with (go_at_call 43; (with_reducible refine (HCt.out _ HB1.out).mono ?_); rintro e w1 ⟨rfl, hb⟩; have HB2 := Aside0.mk (HB1.out.trans (hb.mono HB1.out.size)); clear hb)
                      go_roundg q1
                      case rel => exact ⟨q + 1, by go_num, by omega, ⟨HWo.out.trans (HB2.out.mono HWo.out.size)⟩⟩
                      case measure => omega
              · have b3 : (kd != 5) = true := bne_iff_ne.2 h5
                have b3' : (kd == 5) = false := beq_eq_false_iff_ne.2 h5
                by_cases h0 : 0 < m
                · have b4 : decide ((0 : Int) < (m : Int)) = true := decide_eq_true (by omega)
                  have b4n : decide (0 < m) = true := decide_eq_true h0
                  have HE := Aside0.mk (HBad.out (by exact globC_bad (fun q => by have h1 := HKD.out; have h2 := HM.out; rcases q.2.2.1 with h | h; omega; rw [h] at h2; simp at h2; omega)))
                  clear h1 h2 h5 h0
                  go_wp2
                  go_ret
                  exact ⟨by rw [HE.out]; rfl, HWW.out.trans (HB1.out.mono HWW.out.size)⟩
                · have b4 : decide ((0 : Int) < (m : Int)) = false := decide_eq_false (by omega)
                  have b4n : decide (0 < m) = false := decide_eq_false h0
                  have b6 : decide ((16 : Int) < (m : Int)) = false := decide_eq_false (by omega)
                  clear h1 h2 h5 h0
                  go_wp2
                  go_roundg q1
                  case rel => exact ⟨q + 1, by go_num, by omega, ⟨HWo.out.trans (HB1.out.mono HWo.out.size)⟩⟩
                  case measure => omega
        | zero =>
          have hqe : q = n.length := by omega
          subst hqe
          have d2 : decide ((n.length : Int) < (n.length : Int)) = false := decide_eq_false (by omega)
          go_wp2
          go_roundg k1
          case rel => exact ⟨k + 1, by go_num, by omega, ⟨HW.out.trans (HWo.out.mono HW.out.size)⟩, ⟨blk_below HX.out HWo.out⟩⟩
          case measure => omega
    | zero =>
      have hke : k = p.length := by omega
      subst hke
      have d1 : decide ((p.length : Int) < (p.length : Int)) = false := decide_eq_false (by omega)
      have HWh := Aside0.mk (name_whole (c := c) (Kd.C_below H.out HW.out) hc hb)
      have HSz := Aside0.mk (show (strB (wholeR p)).size ≤ 1073741824 by rw [strB_size]; have := whole_length p; omega)
      have HEnd := Aside0.mk (mayB_end p)
      obtain ⟨cp, hcp⟩ : ∃ cp, cp = compileP (wholeR p) := ⟨_, rfl⟩
      have HCP := Aside0.mk (show compileP (strB (wholeR p)).data.toList = cp from hcp.symm)
      rw [← hcp] at HEnd
      have HSm := Aside0.mk (show ∀ a ∈ p, a.length ≤ 1073741824 ∧ ∀ g ∈ a, g.alts.length ≤ 1073741824 from fun a ha => by
        have h1 := bulkP_mem ha
        have h2 := bulkN_len a
        refine ⟨by omega, fun g hg => ?_⟩
        have h3 := bulkN_mem hg
        have h4 := bulkA_len g.alts
        unfold bulkG at h3
        omega)
      have l0 := blk_lt HX.out
      have x0 : wr.cell? ⟨w.heap.size, 0, none⟩ = some (.slice A p.length c) := blk_cell HX.out 0
      have hpl2 : p.length ≤ 1073741824 := by omega
      clear hcp hb
      go_upto_region 14 with (first
        | (go_at_call 48; (with_reducible refine (HWh.out).mono ?_); rintro e w1 ⟨rfl, hb⟩; have HB1 := Aside0.mk (HW.out.trans (hb.mono HW.out.size)); have HX1 := Aside0.mk (blk_below HX.out hb); clear hb)
        | (go_at_call 36; (with_reducible refine (name_read _ HSz.out _).mono ?_); rintro e w2 hp; obtain ⟨v, rfl, ho, hb⟩ := hp; rw [HCP.out] at ho ⊢; have HO := Aside0.mk ho; have HB2 := Aside0.mk (HB1.out.trans (hb.mono HB1.out.size)); have HX2 := Aside0.mk (blk_below HX1.out hb); obtain ⟨A5, c5, ev5⟩ := Kd.R_slice ho; subst ev5; clear ho hb))
      have HO3 := Aside0.mk (Kd.R_reads' (Kd.R_alloc HO.out (.cells #[.slice A5 cp.1.length c5] 24)))
      have HB3 := Aside0.mk (below_alloc HB2.out (.cells #[.slice A5 cp.1.length c5] 24))
      have HX3 := Aside0.mk (blk_alloc HX2.out (.cells #[.slice A5 cp.1.length c5] 24))
      have x3 : (w2.alloc (.cells #[.slice A5 cp.1.length c5] 24)).cell? ⟨w.heap.size, 0, none⟩ = some (.slice A p.length c) := blk_cell HX3.out 0
      have HEq := Aside0.mk (fun r (hr : decide (p = cp.1) = r) => eqf_nodes (c := c) (d := c5) (Kd.C_below H.out HB3.out) HO3.out.2.2 hpl2 HSm.out hr)
      generalize cp.1.length = n5 at HO3 HB3 HX3 x3 HEq ⊢
      generalize cp.2.2 = er at HEnd ⊢
      by_cases h0 : er = 0
      · have e0 : (er == 0) = true := beq_iff_eq.2 h0
        have HR := Aside0.mk (show decide (p = cp.1) = mayB p by rw [HEnd.out, decide_eq_true h0]; rfl)
        clear h0
        go_wp2_with (go_at_call 66; (with_reducible refine (HEq.out _ HR.out).mono ?_); rintro e w4 ⟨rfl, hb⟩; have HB4 := Aside0.mk (HB3.out.trans (hb.mono HB3.out.size)); clear hb)
        go_ret
        exact ⟨rfl, HB4.out⟩
      · have e0 : (er == 0) = false := beq_eq_false_iff_ne.2 h0
        have HR := Aside0.mk (show mayB p = false by rw [HEnd.out, decide_eq_false h0]; rfl)
        clear h0
        go_wp2
        go_ret
        exact ⟨by rw [HR.out]; rfl, HB3.out⟩
end Go.Proofs.YtecfmmalbehcnaaDoor.Q

/- name.next's parts: the places, put and behind; HasPrefix, IndexByte. -/
namespace Go.Proofs.YtecfmmalbehcnaaDoor.Q
open Go.Shelf Go.RowKit Go.Proofs Go.Proofs.YtecfmmalbehcnaaDoorW.PrintWords Go.Proofs.YtecfmmalbehcnaaDoorW.PrintLast Go.Proofs.YtecfmmalbehcnaaDoorW.PrintMore Go.Proofs.YtecfmmalbehcnaaDoorV
set_option linter.unusedVariables false
set_option linter.unusedSimpArgs false

def lays99_ren : Go.Shelf.Ren := ⟨fun | 99 => 72 | 206 => 94 | n => n, fun | 9 => 9 | 4 => 4 | 3 => 3 | n => n, fun | n => n⟩
theorem lays99 : Go.Proofs.Lays.n99 Tryd.prog lays99_ren where
  mixed := by kernel_rfl
  f99 := Tryd.func72.trans (congrArg some (by kernel_rfl))
  f206 := Tryd.func94.trans (congrArg some (by kernel_rfl))
  t3 := Tryd.underlying3
  a3 := Tryd.isAgg3
  z3 := Tryd.sizeOf3
  v3 := Tryd.zeroValue3
  t4 := Tryd.underlying4
  a4 := Tryd.isAgg4
  z4 := Tryd.sizeOf4
  v4 := Tryd.zeroValue4
  t9 := Tryd.underlying9
  a9 := Tryd.isAgg9
  z9 := Tryd.sizeOf9
  v9 := Tryd.zeroValue9

theorem prefix_calls (s t : ByteArray) (w : World) : Calls Tryd.prog 72 #[.string s, .string t] w fun e w' => e = .returned (.bool (t.data.toList.isPrefixOf s.data.toList)) ∧ w' = w := Any.strings_HasPrefix lays99 s t w
theorem lays217 : Go.Proofs.Lays.n217 Tryd.prog lays146_ren := { lays146 with t5 := Tryd.underlying5, a5 := Tryd.isAgg5, z5 := Tryd.sizeOf5, v5 := Tryd.zeroValue5 }
theorem indexByte_calls (s : ByteArray) (c : UInt8) (w : World) : Calls Tryd.prog 73 #[.string s, .int .u8 (c.toNat : Int)] w fun e w' => e = .returned (.int .i64 (Lib.indexByte s.data.toList c)) ∧ w' = w := by
  have HC := Aside0.mk (fun W => Any.stringslite_IndexByte lays217 s (c.toNat : Int) W)
  rw [show (c.toNat : Int).toNat.toUInt8 = c by simp] at HC
  go_enter Tryd.func73, Tryd.ntmps73
  go_wp2_with (go_at_call 95; refine (HC.out _).mono ?_; rintro e w' ⟨rfl, rfl⟩)
  go_ret
  exact ⟨rfl, rfl⟩
theorem indexByte_has (l : List UInt8) (c : UInt8) : decide ((0 : Int) ≤ Lib.indexByte l c) = l.contains c := by
  rw [Bool.eq_iff_iff, decide_eq_true_eq, List.contains_iff_mem]
  constructor
  · intro h
    obtain ⟨o, ho⟩ : ∃ o : Nat, Lib.indexByte l c = o := ⟨_, (Int.toNat_of_nonneg h).symm⟩
    exact List.mem_of_getElem? (Lib.indexByte_some ho).1
  · intro h
    obtain ⟨k, hk⟩ := List.mem_iff_getElem?.1 h
    have h1 := Lib.indexByte_ge l c
    by_cases h2 : Lib.indexByte l c = -1
    · exact absurd hk (Lib.indexByte_none h2 k)
    · omega
/-- Places marked besides. -/
def orT (T : List Bool) (f : Nat → Bool) : List Bool := (List.range T.length).map (fun j => T.getD j false || f j)
theorem orT_length (T : List Bool) (f : Nat → Bool) : (orT T f).length = T.length := by simp [orT]
theorem orT_get (T : List Bool) (f : Nat → Bool) (j : Nat) (hj : j < T.length) : (orT T f).getD j false = (T.getD j false || f j) := by
  unfold orT
  rw [List.getD_eq_getElem?_getD, List.getElem?_map, List.getElem?_range hj]
  rfl
theorem ext_getD {A B : List Bool} (hl : A.length = B.length) (h : ∀ j, j < A.length → A.getD j false = B.getD j false) : A = B := by
  apply List.ext_getElem hl
  intro j h1 h2
  have := h j h1
  rw [List.getD_eq_getElem?_getD, List.getD_eq_getElem?_getD, List.getElem?_eq_getElem h1, List.getElem?_eq_getElem h2] at this
  exact this
theorem orT_set (T : List Bool) (a : Nat) : T.set a true = orT T (fun j => j == a) := by
  apply ext_getD (by simp [orT])
  intro j hj
  rw [List.length_set] at hj
  rw [orT_get T _ j hj, List.getD_eq_getElem?_getD, List.getElem?_set, List.getD_eq_getElem?_getD]
  by_cases h : a = j
  · subst h
    simp [hj]
  · rw [if_neg h, show (j == a) = false from beq_eq_false_iff_ne.2 (fun e => h e.symm), Bool.or_false]
theorem orT_false (T : List Bool) : orT T (fun _ => false) = T := by
  apply ext_getD (orT_length _ _)
  intro j hj
  rw [orT_length] at hj
  rw [orT_get T _ j hj, Bool.or_false]
theorem orT_orT (T : List Bool) (f g : Nat → Bool) : orT (orT T f) g = orT T (fun j => f j || g j) := by
  apply ext_getD (by simp [orT])
  intro j hj
  rw [orT_length, orT_length] at hj
  rw [orT_get _ _ j (by rw [orT_length]; exact hj), orT_get T _ j hj, orT_get T _ j hj, Bool.or_assoc]
theorem orT_congr {T : List Bool} {f g : Nat → Bool} (h : ∀ j, j < T.length → f j = g j) : orT T f = orT T g := by
  apply ext_getD (by simp [orT])
  intro j hj
  rw [orT_length] at hj
  rw [orT_get T _ j hj, orT_get T _ j hj, h j hj]
/-- The cells of places. -/
def boolA (T : List Bool) : Array Value := (T.map Value.bool).toArray
theorem boolA_get (T : List Bool) (j : Nat) (b : Bool) (h : T[j]? = some b) : (boolA T)[j]? = some (.bool b) := by simp [boolA, h]
theorem boolA_set (T : List Bool) (j : Nat) (b : Bool) : (boolA T).setIfInBounds j (.bool b) = boolA (T.set j b) := by
  apply Array.ext'
  simp [boolA, List.map_set]
/-- What next has made: the text, the places, the two closures' variables. -/
structure NxAt (w0 W : World) (s : ByteArray) (T : List Bool) (O : Obj) : Prop where
  b0 : W.heap[w0.heap.size]? = some O
  b1 : W.heap[w0.heap.size + 1]? = some (.cells #[.string s] 9 (0, 0))
  b2 : W.heap[w0.heap.size + 1 + 1]? = some (.cells (boolA T) 4 (0, 0))
  b3 : W.heap[w0.heap.size + 1 + 1 + 1]? = some (.cells #[.slice (some ⟨w0.heap.size + 1 + 1, 0, none⟩) (s.size + 1) (s.size + 1)] 54 (0, 0))
  b4 : W.heap[w0.heap.size + 1 + 1 + 1 + 1]? = some (.cells #[.func (.func 70) #[] #[.pointer (some ⟨w0.heap.size + 1, 0, none⟩), .pointer (some ⟨w0.heap.size + 1 + 1 + 1, 0, none⟩)]] 88 (0, 0))
  len : T.length = s.size + 1
  below : Below w0.heap.size w0 W
theorem NxAt.kept {w0 W W' : World} {s : ByteArray} {T : List Bool} {O : Obj} (h : NxAt w0 W s T O) (hb : Below W.heap.size W W') : NxAt w0 W' s T O :=
  ⟨blk_below h.b0 hb, blk_below h.b1 hb, blk_below h.b2 hb, blk_below h.b3 hb, blk_below h.b4 hb, h.len, h.below.trans (hb.mono h.below.size)⟩
theorem NxAt.drewN {w0 W : World} {s : ByteArray} {T : List Bool} {O : Obj} (h : NxAt w0 W s T O) (n : Nat) : NxAt w0 (W.drewN n) s T O := ⟨h.b0, h.b1, h.b2, h.b3, h.b4, h.len, pw_below_drewN h.below n⟩
theorem NxAt.put {w0 W : World} {s : ByteArray} {T : List Bool} {O : Obj} (h : NxAt w0 W s T O) (a : Nat) : NxAt w0 (W.setCell ⟨w0.heap.size + 1 + 1, a, none⟩ (.bool true)) s (orT T (fun j => j == a)) O := by
  have hb : ∀ k, k ≠ w0.heap.size + 1 + 1 → (W.setCell ⟨w0.heap.size + 1 + 1, a, none⟩ (.bool true)).heap[k]? = W.heap[k]? := fun k hne => Below.heap_setCell _ _ _ _ hne
  refine ⟨(hb _ (by omega)).trans h.b0, (hb _ (by omega)).trans h.b1, ?_, (hb _ (by omega)).trans h.b3, (hb _ (by omega)).trans h.b4, by rw [orT_length]; exact h.len, h.below.setCell (by show w0.heap.size ≤ w0.heap.size + 1 + 1; omega) _⟩
  rw [blk_put h.b2 a (.bool true) rfl, boolA_set, orT_set]
abbrev Q1 (w0 : World) : Value := .pointer (some ⟨w0.heap.size + 1, 0, none⟩)
abbrev Q3 (w0 : World) : Value := .pointer (some ⟨w0.heap.size + 1 + 1 + 1, 0, none⟩)
abbrev Q4 (w0 : World) : Value := .pointer (some ⟨w0.heap.size + 1 + 1 + 1 + 1, 0, none⟩)
set_option maxHeartbeats 800000 in
theorem put_calls {w0 W : World} {s : ByteArray} {T : List Bool} {O : Obj} (h : NxAt w0 W s T O) (hs : s.size ≤ 1073741824) (a : Nat) :
    Calls Tryd.prog 70 #[.int .i64 (a : Int), .pointer (some ⟨w0.heap.size + 1, 0, none⟩), .pointer (some ⟨w0.heap.size + 1 + 1 + 1, 0, none⟩)] W fun e W' => e = .returned (.tuple #[]) ∧ NxAt w0 W' s (orT T (fun j => j == a)) O := by
  have HN := Aside0.mk h
  have c1 : W.cell? ⟨w0.heap.size + 1, 0, none⟩ = some (.string s) := blk_cell h.b1 0
  have c3 : W.cell? ⟨w0.heap.size + 1 + 1 + 1, 0, none⟩ = some (.slice (some ⟨w0.heap.size + 1 + 1, 0, none⟩) (s.size + 1) (s.size + 1)) := blk_cell h.b3 0
  by_cases ha : a ≤ s.size
  · have d1 : decide ((a : Int) ≤ (s.size : Int)) = true := decide_eq_true (by omega)
    have d1n : decide (a ≤ s.size) = true := decide_eq_true ha
    obtain ⟨b, hb⟩ : ∃ b, T[a]? = some b := ⟨_, List.getElem?_eq_getElem (by rw [h.len]; omega)⟩
    have c2 : W.cell? ⟨w0.heap.size + 1 + 1, a, none⟩ = some (.bool b) := (blk_cell h.b2 a).trans (boolA_get T a b hb)
    have f2 : W.frozen? ⟨w0.heap.size + 1 + 1, a, none⟩ = false := blk_frozen h.b2 a
    clear h hb
    go_enter Tryd.func70, Tryd.ntmps70
    go_wp2
    go_end0
    exact ⟨rfl, HN.out.put a⟩
  · have d1 : decide ((a : Int) ≤ (s.size : Int)) = false := decide_eq_false (by omega)
    have d1n : decide (a ≤ s.size) = false := decide_eq_false ha
    have HE := Aside0.mk (show orT T (fun j => j == a) = T by
      rw [orT_congr (g := fun _ => false) (fun j hj => beq_eq_false_iff_ne.2 (by have := h.len; omega)), orT_false])
    clear h ha
    go_enter Tryd.func70, Tryd.ntmps70
    go_wp2
    go_end0
    exact ⟨rfl, by rw [HE.out]; exact HN.out⟩
set_option maxHeartbeats 800000 in
theorem behind_calls {w0 W : World} {s : ByteArray} {T : List Bool} {O : Obj} (h : NxAt w0 W s T O) (hs : s.size ≤ 1073741824) (i : Nat) (hi : i ≤ s.size) (t : ByteArray) (ht : t.size ≤ 1073741824) :
    Calls Tryd.prog 71 #[.int .i64 (i : Int), .string t, .pointer (some ⟨w0.heap.size + 1, 0, none⟩), .pointer (some ⟨w0.heap.size + 1 + 1 + 1 + 1, 0, none⟩)] W fun e W' => e = .returned (.tuple #[]) ∧ NxAt w0 W' s (orT T (fits t.data.toList s.data.toList i)) O := by
  have HN := Aside0.mk h
  have c1 : W.cell? ⟨w0.heap.size + 1, 0, none⟩ = some (.string s) := blk_cell h.b1 0
  have c4 : W.cell? ⟨w0.heap.size + 1 + 1 + 1 + 1, 0, none⟩ = some (.func (.func 70) #[] #[.pointer (some ⟨w0.heap.size + 1, 0, none⟩), .pointer (some ⟨w0.heap.size + 1 + 1 + 1, 0, none⟩)]) := blk_cell h.b4 0
  have HP := Aside0.mk (fun W => prefix_calls (s.extract i s.size) t W)
  rw [show (s.extract i s.size).data.toList = s.data.toList.drop i by rw [Lib.extract_data, List.take_of_length_le (by rw [List.length_drop, size_data]; omega)]] at HP
  have HT := Aside0.mk (size_data t)
  cases hp : t.data.toList.isPrefixOf (s.data.toList.drop i) with
  | true =>
    rw [hp] at HP
    have HPut := Aside0.mk (put_calls h hs (i + t.size))
    have HE := Aside0.mk (show orT T (fun j => j == i + t.size) = orT T (fits t.data.toList s.data.toList i) from orT_congr (fun j hj => by
      unfold fits
      rw [hp, HT.out, Bool.and_true]))
    clear h hp
    go_enter Tryd.func71, Tryd.ntmps71
    go_wp2_with (first
      | (go_at_call 72; (with_reducible refine (HP.out _).mono ?_); rintro e w' ⟨rfl, rfl⟩)
      | (go_at_call 70; refine (HPut.out).mono ?_; rintro e w2 ⟨rfl, hb⟩; have HN2 := Aside0.mk hb; clear hb))
    go_end0
    exact ⟨rfl, by rw [← HE.out]; exact HN2.out⟩
  | false =>
    rw [hp] at HP
    have HE := Aside0.mk (show orT T (fits t.data.toList s.data.toList i) = T by
      rw [orT_congr (g := fun _ => false) (fun j hj => by unfold fits; rw [hp, Bool.and_false]), orT_false])
    clear h hp
    go_enter Tryd.func71, Tryd.ntmps71
    go_wp2_with (first
      | (go_at_call 72; (with_reducible refine (HP.out _).mono ?_); rintro e w' ⟨rfl, rfl⟩))
    go_end0
    exact ⟨rfl, by rw [HE.out]; exact HN.out⟩
end Go.Proofs.YtecfmmalbehcnaaDoor.Q

/- name.next: the places that a piece can come to. -/
namespace Go.Proofs.YtecfmmalbehcnaaDoor.Q
open Go.Shelf Go.RowKit Go.Proofs Go.Proofs.YtecfmmalbehcnaaDoorW.PrintWords Go.Proofs.YtecfmmalbehcnaaDoorW.PrintLast Go.Proofs.YtecfmmalbehcnaaDoorW.PrintMore Go.Proofs.YtecfmmalbehcnaaDoorV
set_option linter.unusedVariables false
set_option linter.unusedSimpArgs false

/-- The places that are marked behind the first i of them. -/
def accT (g : Gl) (s : List UInt8) (l : List Bool) (i : Nat) : List Bool := (List.range (s.length + 1)).map (fun j => (List.range i).any (fun q => l.getD q false && goes g s q j))
theorem accT_length (g : Gl) (s : List UInt8) (l : List Bool) (i : Nat) : (accT g s l i).length = s.length + 1 := by simp [accT]
theorem accT_get (g : Gl) (s : List UInt8) (l : List Bool) (i j : Nat) (hj : j < s.length + 1) : (accT g s l i).getD j false = (List.range i).any (fun q => l.getD q false && goes g s q j) := by
  unfold accT
  rw [List.getD_eq_getElem?_getD, List.getElem?_map, List.getElem?_range hj]
  rfl
theorem accT_zero (g : Gl) (s : List UInt8) (l : List Bool) : boolA (accT g s l 0) = madeCells #[.bool false] (s.length + 1) := by
  apply Array.ext'
  unfold boolA accT madeCells
  rw [Array.toList_map, Array.toList_range, List.map_map]
  refine List.map_congr_left (fun j hj => ?_)
  simp [Nat.mod_one]
theorem accT_done (g : Gl) (s : List UInt8) (l : List Bool) : accT g s l (s.length + 1) = nextP g s l := rfl
theorem accT_step (g : Gl) (s : List UInt8) (l : List Bool) (i : Nat) : accT g s l (i + 1) = orT (accT g s l i) (fun j => l.getD i false && goes g s i j) := by
  apply ext_getD (by rw [orT_length, accT_length, accT_length])
  intro j hj
  rw [accT_length] at hj
  rw [orT_get _ _ j (by rw [accT_length]; exact hj), accT_get _ _ _ _ _ hj, accT_get _ _ _ _ _ hj, List.range_succ, List.any_append]
  simp
theorem accT_skip {g : Gl} {s : List UInt8} {l : List Bool} {i : Nat} (h : l[i]? = some false) : accT g s l (i + 1) = accT g s l i := by
  rw [accT_step, show l.getD i false = false by rw [List.getD_eq_getElem?_getD, h]; rfl]
  simp [orT_false]
theorem accT_on {g : Gl} {s : List UInt8} {l : List Bool} {i : Nat} {f : Nat → Bool} (h : l[i]? = some true) (hf : ∀ j, j < s.length + 1 → goes g s i j = f j) : orT (accT g s l i) f = accT g s l (i + 1) := by
  rw [accT_step, show l.getD i false = true by rw [List.getD_eq_getElem?_getD, h]; rfl]
  refine (orT_congr (fun j hj => ?_)).symm
  rw [accT_length] at hj
  rw [Bool.true_and, hf j hj]
theorem at_bool {w : World} {A : Option Addr} {n : Nat} {X : List Bool} (h : Kd.bool.C w A n X) {k : Nat} {x : Bool} (hx : X[k]? = some x) : ∃ ad, A = some ad ∧ w.cell? (ad.add k) = some (.bool x) := by
  obtain ⟨h1, h2, h3⟩ := h
  have hk := (List.getElem?_eq_some_iff.1 hx).1
  obtain ⟨ad, e, hc⟩ := h3 (by omega)
  obtain ⟨cs, hl, hK, hu⟩ := hc k x hx
  have hK' : cs = [.bool x] := hK
  have hq := hu 0 _ (by rw [hK']; rfl)
  have e0 : k * Kd.bool.sz + 0 = k := by show k * 1 + 0 = k; omega
  rw [e0] at hq
  exact ⟨ad, e, hq⟩
theorem info_bool : (Tryd.prog.info? 4).map (fun i => (i.zero, i.size, i.bytes)) = some (some (.bool false), 1, 1) := by kernel_rfl
theorem NxAt.start (w : World) (s : ByteArray) (g : Gl) (l : List Bool) (hsd : s.data.toList.length = s.size) (O : Obj) :
    NxAt w (((((w.alloc O).alloc (.cells #[.string s] 9)).alloc (.cells (madeCells #[.bool false] (s.size + 1)) 4)).alloc (.cells #[.slice (some ⟨w.heap.size + 1 + 1, 0, none⟩) (s.size + 1) (s.size + 1)] 54)).alloc (.cells #[.func (.func 70) #[] #[.pointer (some ⟨w.heap.size + 1, 0, none⟩), .pointer (some ⟨w.heap.size + 1 + 1 + 1, 0, none⟩)]] 88)) s (accT g s.data.toList l 0) O := by
  have a0 := heap_alloc_new w O
  have a1 := heap_alloc_new (w.alloc O) (.cells #[.string s] 9)
  have a2 := heap_alloc_new ((w.alloc O).alloc (.cells #[.string s] 9)) (.cells (madeCells #[.bool false] (s.size + 1)) 4)
  have a3 := heap_alloc_new (((w.alloc O).alloc (.cells #[.string s] 9)).alloc (.cells (madeCells #[.bool false] (s.size + 1)) 4)) (.cells #[.slice (some ⟨w.heap.size + 1 + 1, 0, none⟩) (s.size + 1) (s.size + 1)] 54)
  have a4 := heap_alloc_new ((((w.alloc O).alloc (.cells #[.string s] 9)).alloc (.cells (madeCells #[.bool false] (s.size + 1)) 4)).alloc (.cells #[.slice (some ⟨w.heap.size + 1 + 1, 0, none⟩) (s.size + 1) (s.size + 1)] 54)) (.cells #[.func (.func 70) #[] #[.pointer (some ⟨w.heap.size + 1, 0, none⟩), .pointer (some ⟨w.heap.size + 1 + 1 + 1, 0, none⟩)]] 88)
  refine ⟨blk_alloc (blk_alloc (blk_alloc (blk_alloc a0 _) _) _) _, blk_alloc (blk_alloc (blk_alloc ?_ _) _) _, blk_alloc (blk_alloc ?_ _) _, blk_alloc ?_ _, ?_, by rw [accT_length, hsd], ?_⟩
  · simpa using a1
  · rw [accT_zero, hsd]; simpa using a2
  · simpa using a3
  · simpa using a4
  · exact below_alloc (below_alloc (below_alloc (below_alloc (below_alloc (Below.refl _ _) _) _) _) _) _
set_option maxHeartbeats 8000000 in
set_option maxRecDepth 100000 in
theorem name_next {w : World} {g : Gl} {cs : List Value} (hg : kGl.K w g cs) (hgb : bulkG g ≤ 1048576) (s : ByteArray) (hs : s.size ≤ 1073741824) {A : Option Addr} {c : Nat} {l : List Bool} (hl : Kd.bool.C w A l.length l) (hll : l.length = s.size + 1) :
    Calls Tryd.prog 39 #[.agg cs.toArray, .string s, .slice A (s.size + 1) c] w fun e w' => ∃ v, e = .returned v ∧ Kd.bool.R 4 w' w.heap.size (fun _ => True) v (nextP g s.data.toList l) ∧ Below w.heap.size w w' := by
  obtain ⟨A2, c2, rfl, l2, g2⟩ := kGl_open hg
  clear hg
  have hsd := size_data s
  have HLC := Aside0.mk hl
  have HLL := Aside0.mk hll
  have HSD := Aside0.mk hsd
  have HG2 := Aside0.mk g2
  obtain ⟨m, hm⟩ : ∃ m, m = (g.alts.map strB).length := ⟨_, rfl⟩
  obtain ⟨kd, hkd⟩ : ∃ kd, kd = g.kind := ⟨_, rfl⟩
  obtain ⟨t0, ht0⟩ : ∃ t, t = strB g.text := ⟨_, rfl⟩
  rw [← hm, ← hkd, ← ht0]
  have hml : m ≤ 1048576 := by rw [hm, List.length_map]; have := bulkA_len g.alts; unfold bulkG at hgb; omega
  have ht0s : t0.size ≤ 1048576 := by rw [ht0, strB_size]; unfold bulkG at hgb; omega
  have HM := Aside0.mk hm
  have HKD := Aside0.mk hkd
  have HT0 := Aside0.mk ht0
  have HGB := Aside0.mk hgb
  have hmf : ∀ (fn : Fn) (first cap : Array Value) (w : World), (Instr.makeFunc fn first cap).run Tryd.prog w = .ok (.func fn first cap) w := fun _ _ _ _ => rfl
  have hmk := print_make_of (P := Tryd.prog) 54 4 (.bool false) 1 Tryd.underlying54 info_bool rfl (by decide) (s.size + 1) (by omega)
  rw [show ((s.size + 1 : Nat) : Int) = (s.size : Int) + 1 by omega] at hmk
  have HN := Aside0.mk (NxAt.start w s g l hsd (.cells #[.int .i64 kd, .string t0, .slice A2 m c2] 43 (0, 0)))
  clear hl hll hsd g2 l2 hm hkd ht0 hgb
  go_enter Tryd.func39, Tryd.ntmps39
  go_wp2
  go_loopg [23] (s.size + 1) (fun kq v23 w' => ∃ i : Nat, v23 = .int .i64 (i : Int) ∧ i + kq = s.size + 1 ∧ Aside0 (NxAt w w' s (accT g s.data.toList l i) (.cells #[.int .i64 kd, .string t0, .slice A2 m c2] 43 (0, 0))))
  case atStart => exact ⟨0, rfl, by omega, HN⟩
  case round =>
    obtain ⟨i, rfl, hiq, HR⟩ := hrel
    clear HN hmk hmf
    cases gk with
    | succ k1 =>
      have his : i ≤ s.size := by omega
      have d1 : decide ((i : Int) < (s.size : Int) + 1) = true := decide_eq_true (by omega)
      obtain ⟨b, hb⟩ : ∃ b, l[i]? = some b := ⟨_, List.getElem?_eq_getElem (by have := HLL.out; omega)⟩
      obtain ⟨ad, rfl, q0⟩ := at_bool (Kd.C_below HLC.out HR.out.below) hb
      have HBt := Aside0.mk hb
      have k0 : wr.cell? ⟨w.heap.size, 0, none⟩ = some (.int .i64 kd) := blk_cell HR.out.b0 0
      have k1c : wr.cell? ⟨w.heap.size, 1, none⟩ = some (.string t0) := blk_cell HR.out.b0 1
      have k2c : wr.cell? ⟨w.heap.size, 2, none⟩ = some (.slice A2 m c2) := blk_cell HR.out.b0 2
      have s0 : wr.cell? ⟨w.heap.size + 1, 0, none⟩ = some (.string s) := blk_cell HR.out.b1 0
      have p0 : wr.cell? ⟨w.heap.size + 1 + 1 + 1 + 1, 0, none⟩ = some (.func (.func 70) #[] #[.pointer (some ⟨w.heap.size + 1, 0, none⟩), .pointer (some ⟨w.heap.size + 1 + 1 + 1, 0, none⟩)]) := blk_cell HR.out.b4 0
      clear hb
      cases b with
      | false =>
        have HE := Aside0.mk (accT_skip (g := g) (s := s.data.toList) HBt.out)
        go_wp2
        go_roundg k1
        case rel => exact ⟨i + 1, by go_num, by omega, ⟨by rw [HE.out]; exact HR.out⟩⟩
        case measure => omega
      | true =>
        by_cases h1 : kd = 1
        · have e1 : (kd == 1) = true := beq_iff_eq.2 h1
          have HE := Aside0.mk (accT_on (s := s.data.toList) (g := g) (f := fits t0.data.toList s.data.toList i) HBt.out (fun j hj => by unfold goes; rw [if_pos (by rw [← HKD.out]; exact h1), HT0.out]; rfl))
          have HQ := Aside0.mk (behind_calls HR.out hs i his t0 (by omega))
          rw [HE.out] at HQ
          clear h1
          go_wp2_with (go_at_call 71; (with_reducible refine (HQ.out).mono ?_); rintro e w2 ⟨rfl, hb⟩; have HN2 := Aside0.mk hb; clear hb)
          go_roundg k1
          case rel => exact ⟨i + 1, by go_num, by omega, HN2⟩
          case measure => omega
        · by_cases h2 : kd = 2
          · have e1 : (kd == 1) = false := beq_eq_false_iff_ne.2 (by omega)
            have e2 : (kd == 2) = true := beq_iff_eq.2 h2
            have HE := Aside0.mk (accT_on (s := s.data.toList) (g := g) (f := fun j => decide (i ≤ j ∧ j < s.size + 1)) HBt.out (fun j hj => by unfold goes; rw [if_neg (by rw [← HKD.out]; omega), if_pos (by rw [← HKD.out]; exact h2), decide_eq_decide]; have := HSD.out; omega))
            clear h1 h2
            go_wp2
            obtain ⟨wo, hwo⟩ : ∃ wo : World, wo = wr := ⟨_, rfl⟩
            subst hwo
            go_loopg [12] (s.size + 1 - i) (fun kq v12 w' => ∃ q : Nat, v12 = .int .i64 (q : Int) ∧ q + kq = s.size + 1 ∧ i ≤ q ∧ Aside0 (NxAt w w' s (orT (accT g s.data.toList l i) (fun j => decide (i ≤ j ∧ j < q))) (.cells #[.int .i64 kd, .string t0, .slice A2 m c2] 43 (0, 0))))
            case atStart =>
              refine ⟨i, rfl, by omega, Nat.le_refl _, ⟨?_⟩⟩
              rw [orT_congr (g := fun _ => false) (fun j hj => decide_eq_false (by omega)), orT_false]
              exact HR.out
            case round =>
              obtain ⟨q, rfl, hqq, hiq2, HRq⟩ := hrel
              have s0 : wr.cell? ⟨w.heap.size + 1, 0, none⟩ = some (.string s) := blk_cell HRq.out.b1 0
              have p0 : wr.cell? ⟨w.heap.size + 1 + 1 + 1 + 1, 0, none⟩ = some (.func (.func 70) #[] #[.pointer (some ⟨w.heap.size + 1, 0, none⟩), .pointer (some ⟨w.heap.size + 1 + 1 + 1, 0, none⟩)]) := blk_cell HRq.out.b4 0
              cases gk with
              | succ q1 =>
                have d2 : decide ((q : Int) ≤ (s.size : Int)) = true := decide_eq_true (by omega)
                have d2n : decide (q ≤ s.size) = true := decide_eq_true (by omega)
                have HQ := Aside0.mk (put_calls HRq.out hs q)
                have HE2 := Aside0.mk (show orT (orT (accT g s.data.toList l i) (fun j => decide (i ≤ j ∧ j < q))) (fun j => j == q) = orT (accT g s.data.toList l i) (fun j => decide (i ≤ j ∧ j < q + 1)) by
                  rw [orT_orT]
                  refine orT_congr (fun j hj => ?_)
                  rw [Bool.eq_iff_iff, Bool.or_eq_true, decide_eq_true_eq, beq_iff_eq, decide_eq_true_eq]
                  omega)
                rw [HE2.out] at HQ
                have hqs : q ≤ s.size := by omega
                go_wp2_with (go_at_call 70; (with_reducible refine (HQ.out).mono ?_); rintro e w2 ⟨rfl, hb⟩; have HN2 := Aside0.mk hb; clear hb)
                go_roundg q1
                case rel => exact ⟨q + 1, by go_num, by omega, by omega, HN2⟩
                case measure => omega
              | zero =>
                have hqe : q = s.size + 1 := by omega
                subst hqe
                have d2 : decide ((s.size : Int) + 1 ≤ (s.size : Int)) = false := decide_eq_false (by omega)
                rw [HE.out] at HRq
                have hq9 : ((s.size + 1 : Nat) : Int) = (s.size : Int) + 1 := by omega
                go_wp2
                go_roundg k1
                case rel => exact ⟨i + 1, by go_num, by omega, HRq⟩
                case measure => omega
          · by_cases h3 : kd = 3
            · have e1 : (kd == 1) = false := beq_eq_false_iff_ne.2 (by omega)
              have e2 : (kd == 2) = false := beq_eq_false_iff_ne.2 (by omega)
              have e3 : (kd == 3) = true := beq_iff_eq.2 h3
              have HE := Aside0.mk (accT_on (s := s.data.toList) (g := g) (f := fun j => j == i + 1) HBt.out (fun j hj => by
                unfold goes; rw [if_neg (by rw [← HKD.out]; omega), if_neg (by rw [← HKD.out]; omega), if_pos (by rw [← HKD.out]; exact h3), Bool.eq_iff_iff, decide_eq_true_eq, beq_iff_eq]; have := HSD.out; omega))
              have HQ := Aside0.mk (put_calls HR.out hs (i + 1))
              rw [HE.out, show ((i + 1 : Nat) : Int) = (i : Int) + 1 by omega] at HQ
              clear h1 h2 h3
              go_wp2_with (go_at_call 70; (with_reducible refine (HQ.out).mono ?_); rintro e w2 ⟨rfl, hb⟩; have HN2 := Aside0.mk hb; clear hb)
              go_roundg k1
              case rel => exact ⟨i + 1, by go_num, by omega, HN2⟩
              case measure => omega
            · by_cases h4 : kd = 4
              · have e1 : (kd == 1) = false := beq_eq_false_iff_ne.2 (by omega)
                have e2 : (kd == 2) = false := beq_eq_false_iff_ne.2 (by omega)
                have e3 : (kd == 3) = false := beq_eq_false_iff_ne.2 (by omega)
                have e4 : (kd == 4) = true := beq_iff_eq.2 h4
                by_cases hlt : i < s.size
                · obtain ⟨x, hx⟩ := get_lt hlt
                  have hxb := get_byte hx
                  have HX := Aside0.mk hx
                  have d3 : decide ((i : Int) < (s.size : Int)) = true := decide_eq_true (by omega)
                  have d3n : decide (i < s.size) = true := decide_eq_true hlt
                  have pi0 : (0 ≤ (i : Int)) = True := eq_true (by omega)
                  have pi1 : ((i : Int) < (s.size : Int)) = True := eq_true (by omega)
                  have ci : ∀ n, Calls Tryd.prog 73 #[.string t0, .int .u8 (x.toNat : Int)] (wr.drewN n) fun e w'' => e = .returned (.int .i64 (Lib.indexByte t0.data.toList x)) ∧ ∃ m, w'' = wr.drewN m := fun n => by
                    refine (indexByte_calls t0 x _).mono ?_
                    rintro e w' ⟨rfl, rfl⟩
                    exact ⟨rfl, n, rfl⟩
                  have hix := indexByte_has t0.data.toList x
                  have HHas := Aside0.mk hix
                  obtain ⟨z, hz⟩ : ∃ z, z = Lib.indexByte t0.data.toList x := ⟨_, rfl⟩
                  rw [← hz] at ci hix
                  clear hx hz
                  cases hc : t0.data.toList.contains x with
                  | true =>
                    rw [hc] at hix
                    have HE := Aside0.mk (accT_on (s := s.data.toList) (g := g) (f := fun j => j == i + 1) HBt.out (fun j hj => by
                      unfold goes; rw [if_neg (by rw [← HKD.out]; omega), if_neg (by rw [← HKD.out]; omega), if_neg (by rw [← HKD.out]; omega), if_pos (by rw [← HKD.out]; exact h4), HX.out]
                      have hc2 : g.text.contains x = true := by rw [HT0.out] at hc; exact hc
                      dsimp only
                      rw [hc2, Bool.and_true, Bool.eq_iff_iff, decide_eq_true_eq, beq_iff_eq]
                      have := HSD.out
                      omega))
                    clear hc h1 h2 h3 h4
                    go_wp2
                    go_quiet (exact ci _)
                    have HQ := Aside0.mk (put_calls (HR.out.drewN nq) hs (i + 1))
                    rw [HE.out, show ((i + 1 : Nat) : Int) = (i : Int) + 1 by omega] at HQ
                    have p0q : (wr.drewN nq).cell? ⟨w.heap.size + 1 + 1 + 1 + 1, 0, none⟩ = some (.func (.func 70) #[] #[.pointer (some ⟨w.heap.size + 1, 0, none⟩), .pointer (some ⟨w.heap.size + 1 + 1 + 1, 0, none⟩)]) := p0
                    go_wp2_with (go_at_call 70; (with_reducible refine (HQ.out).mono ?_); rintro e w2 ⟨rfl, hb⟩; have HN2 := Aside0.mk hb; clear hb)
                    go_roundg k1
                    case rel => exact ⟨i + 1, by go_num, by omega, HN2⟩
                    case measure => omega
                  | false =>
                    rw [hc] at hix
                    have HE := Aside0.mk (accT_on (s := s.data.toList) (g := g) (f := fun _ => false) HBt.out (fun j hj => by
                      unfold goes; rw [if_neg (by rw [← HKD.out]; omega), if_neg (by rw [← HKD.out]; omega), if_neg (by rw [← HKD.out]; omega), if_pos (by rw [← HKD.out]; exact h4), HX.out]
                      have hc2 : g.text.contains x = false := by rw [HT0.out] at hc; exact hc
                      dsimp only
                      rw [hc2, Bool.and_false]))
                    rw [orT_false] at HE
                    clear hc h1 h2 h3 h4
                    go_wp2
                    go_quiet (exact ci _)
                    go_wp2
                    go_roundg k1
                    case rel => exact ⟨i + 1, by go_num, by omega, ⟨by rw [← HE.out]; exact HR.out.drewN _⟩⟩
                    case measure => omega
                · have HE := Aside0.mk (accT_on (s := s.data.toList) (g := g) (f := fun _ => false) HBt.out (fun j hj => by
                    unfold goes; rw [if_neg (by rw [← HKD.out]; omega), if_neg (by rw [← HKD.out]; omega), if_neg (by rw [← HKD.out]; omega), if_pos (by rw [← HKD.out]; exact h4), decide_eq_false (by have := HSD.out; omega), Bool.false_and]))
                  rw [orT_false] at HE
                  have d3 : decide ((i : Int) < (s.size : Int)) = false := decide_eq_false (by omega)
                  have d3n : decide (i < s.size) = false := decide_eq_false hlt
                  clear h1 h2 h3 h4
                  go_wp2
                  go_quiet (fail)
                  go_wp2
                  go_roundg k1
                  case rel => exact ⟨i + 1, by go_num, by omega, ⟨by rw [← HE.out]; exact HR.out.drewN _⟩⟩
                  case measure => omega
              · by_cases h5 : kd = 5
                · have e1 : (kd == 1) = false := beq_eq_false_iff_ne.2 (by omega)
                  have e2 : (kd == 2) = false := beq_eq_false_iff_ne.2 (by omega)
                  have e3 : (kd == 3) = false := beq_eq_false_iff_ne.2 (by omega)
                  have e4 : (kd == 4) = false := beq_eq_false_iff_ne.2 (by omega)
                  have e5 : (kd == 5) = true := beq_iff_eq.2 h5
                  have HE := Aside0.mk (accT_on (s := s.data.toList) (g := g) (f := fun j => g.alts.any (fun t => fits t s.data.toList i j)) HBt.out (fun j hj => by
                    unfold goes; rw [if_neg (by rw [← HKD.out]; omega), if_neg (by rw [← HKD.out]; omega), if_neg (by rw [← HKD.out]; omega), if_neg (by rw [← HKD.out]; omega), if_pos (by rw [← HKD.out]; exact h5)]))
                  clear h1 h2 h3 h4 h5
                  go_wp2
                  obtain ⟨wo, hwo⟩ : ∃ wo : World, wo = wr := ⟨_, rfl⟩
                  subst hwo
                  go_loopg [81] m (fun kq v81 w' => ∃ q : Nat, v81 = .int .i64 (q : Int) ∧ q + kq = m ∧ Aside0 (NxAt w w' s (orT (accT g s.data.toList l i) (fun j => (g.alts.take q).any (fun t => fits t s.data.toList i j))) (.cells #[.int .i64 kd, .string t0, .slice A2 m c2] 43 (0, 0))))
                  case atStart =>
                    refine ⟨0, rfl, by omega, ⟨?_⟩⟩
                    rw [show (fun j => (g.alts.take 0).any (fun t => fits t s.data.toList i j)) = (fun _ => false) from rfl, orT_false]
                    exact HR.out
                  case round =>
                    obtain ⟨q, rfl, hqq, HRq⟩ := hrel
                    cases gk with
                    | succ q1 =>
                      have d2 : decide ((q : Int) < (m : Int)) = true := decide_eq_true (by omega)
                      have d2n : decide (q < m) = true := decide_eq_true (by omega)
                      have hqm : q < m := by omega
                      obtain ⟨a, ha⟩ : ∃ a, g.alts[q]? = some a := ⟨_, List.getElem?_eq_getElem (by have := HM.out; rw [List.length_map] at this; omega)⟩
                      obtain ⟨ad2, rfl, y0⟩ := at_str (Kd.C_below HG2.out HRq.out.below) (k := q) (x := strB a) (by rw [List.getElem?_map, ha]; rfl)
                      have has : (strB a).size ≤ 1073741824 := by
                        rw [strB_size]
                        have h1 := sum_mem (fun a : List UInt8 => a.length + 1) g.alts a (List.mem_of_getElem? ha)
                        have h2 := HGB.out
                        unfold bulkG bulkA at h2
                        have h3 : a.length + 1 ≤ (g.alts.map (fun a => a.length + 1)).sum := h1
                        omega
                      have HQ := Aside0.mk (behind_calls HRq.out hs i his (strB a) has)
                      have HE2 := Aside0.mk (show orT (orT (accT g s.data.toList l i) (fun j => (g.alts.take q).any (fun t => fits t s.data.toList i j))) (fits (strB a).data.toList s.data.toList i) = orT (accT g s.data.toList l i) (fun j => (g.alts.take (q + 1)).any (fun t => fits t s.data.toList i j)) by
                        rw [orT_orT]
                        refine orT_congr (fun j hj => ?_)
                        rw [take_snocR ha, List.any_append]
                        simp [strB_data])
                      rw [HE2.out] at HQ
                      clear ha
                      generalize strB a = sa at y0 HQ has
                      go_wp2_with (go_at_call 71; (with_reducible refine (HQ.out).mono ?_); rintro e w2 ⟨rfl, hb⟩; have HN2 := Aside0.mk hb; clear hb)
                      go_roundg q1
                      case rel => exact ⟨q + 1, by go_num, by omega, HN2⟩
                      case measure => omega
                    | zero =>
                      have hqe : q = m := by omega
                      subst hqe
                      have d2 : decide ((q : Int) < (q : Int)) = false := decide_eq_false (by omega)
                      have HTk := Aside0.mk (show g.alts.take q = g.alts from List.take_of_length_le (by have := HM.out; rw [List.length_map] at this; omega))
                      rw [HTk.out, HE.out] at HRq
                      go_wp2
                      go_roundg k1
                      case rel => exact ⟨i + 1, by go_num, by omega, HRq⟩
                      case measure => omega
                · have e1 : (kd == 1) = false := beq_eq_false_iff_ne.2 (by omega)
                  have e2 : (kd == 2) = false := beq_eq_false_iff_ne.2 (by omega)
                  have e3 : (kd == 3) = false := beq_eq_false_iff_ne.2 (by omega)
                  have e4 : (kd == 4) = false := beq_eq_false_iff_ne.2 (by omega)
                  have e5 : (kd == 5) = false := beq_eq_false_iff_ne.2 (by omega)
                  have HE := Aside0.mk (accT_on (s := s.data.toList) (g := g) (f := fun _ => false) HBt.out (fun j hj => by
                    unfold goes; rw [if_neg (by rw [← HKD.out]; omega), if_neg (by rw [← HKD.out]; omega), if_neg (by rw [← HKD.out]; omega), if_neg (by rw [← HKD.out]; omega), if_neg (by rw [← HKD.out]; omega)]))
                  rw [orT_false] at HE
                  clear h1 h2 h3 h4 h5
                  go_wp2
                  go_roundg k1
                  case rel => exact ⟨i + 1, by go_num, by omega, ⟨by rw [← HE.out]; exact HR.out⟩⟩
                  case measure => omega
    | zero =>
      have hie : i = s.size + 1 := by omega
      subst hie
      have d1 : decide ((s.size : Int) + 1 < (s.size : Int) + 1) = false := decide_eq_false (by omega)
      have hq9 : ((s.size + 1 : Nat) : Int) = (s.size : Int) + 1 := by omega
      have c3 : wr.cell? ⟨w.heap.size + 1 + 1 + 1, 0, none⟩ = some (.slice (some ⟨w.heap.size + 1 + 1, 0, none⟩) (s.size + 1) (s.size + 1)) := blk_cell HR.out.b3 0
      have HE := Aside0.mk (show accT g s.data.toList l (s.size + 1) = nextP g s.data.toList l by rw [← accT_done, HSD.out])
      go_wp2
      go_ret
      refine ⟨_, rfl, ?_, HR.out.below⟩
      have hb2 := HR.out.b2
      have hln := HR.out.len
      rw [HE.out] at hb2 hln
      have := R_block (enc := Value.bool) (h1 := fun _ => rfl) (xs := nextP g s.data.toList l) (base := w.heap.size) (ok := fun _ => True) hb2 (by omega) trivial (by omega)
      rw [hln] at this
      exact this
end Go.Proofs.YtecfmmalbehcnaaDoor.Q

/- name.Nodes, name.Match. -/
namespace Go.Proofs.YtecfmmalbehcnaaDoor.Q
open Go.Shelf Go.RowKit Go.Proofs Go.Proofs.YtecfmmalbehcnaaDoorW.PrintWords Go.Proofs.YtecfmmalbehcnaaDoorW.PrintLast Go.Proofs.YtecfmmalbehcnaaDoorW.PrintMore Go.Proofs.YtecfmmalbehcnaaDoorV
set_option linter.unusedVariables false
set_option linter.unusedSimpArgs false

def nodesB (s : ByteArray) : List ByteArray := if validP s.data.toList = true then splitS s else []
theorem name_Nodes (s : ByteArray) (hs : s.size ≤ 1073741824) (w : World) :
    Calls Tryd.prog 25 #[.string s] w fun e w' => ∃ v, e = .returned v ∧ OwnS w' w.heap.size v (nodesB s) ∧ Below w.heap.size w w' := by
  have HV := Aside0.mk (valid_calls s hs w)
  have HS := Aside0.mk (fun W => split_calls s W (by omega))
  cases hv : validP s.data.toList with
  | true =>
    have HE := Aside0.mk (show nodesB s = splitS s by unfold nodesB; rw [if_pos hv])
    rw [hv] at HV
    clear hv
    go_enter Tryd.func25, Tryd.ntmps25
    go_wp2_with (first
      | (go_at_call 22; (with_reducible refine (HV.out).mono ?_); rintro e w1 ⟨rfl, hb⟩; have HB := Aside0.mk hb; clear hb)
      | (go_at_call 42; (with_reducible refine (HS.out _).mono ?_); rintro e w2 ⟨v, rfl, ho, hb⟩; have HO := Aside0.mk (Kd.R_lower ho HB.out.size); have HB2 := Aside0.mk (HB.out.trans (hb.mono HB.out.size)); clear ho hb))
    go_ret
    exact ⟨_, rfl, by rw [HE.out]; exact HO.out, HB2.out⟩
  | false =>
    have HE := Aside0.mk (show nodesB s = [] by unfold nodesB; rw [if_neg (by rw [hv]; decide)])
    rw [hv] at HV
    clear hv
    go_enter Tryd.func25, Tryd.ntmps25
    go_wp2_with (first
      | (go_at_call 22; (with_reducible refine (HV.out).mono ?_); rintro e w1 ⟨rfl, hb⟩; have HB := Aside0.mk hb; clear hb))
    go_ret
    exact ⟨_, rfl, by rw [HE.out]; exact Kd.R_nil _ _ _ _ _, HB.out⟩
/-- Does it match? -/
def matchB (p : List (List Gl)) (s : List UInt8) : Bool := validP s && (decide ((cutP s).length = p.length) && (mayB p && (p.zip (cutP s)).all (fun x => matchN x.1 x.2)))
theorem matchB_iff {p : List (List Gl)} {s : List UInt8} : matchB p s = true ↔ matchP p s := by
  unfold matchB matchP
  rw [Bool.and_eq_true, Bool.and_eq_true, Bool.and_eq_true, decide_eq_true_eq, mayB_iff, List.all_eq_true]
  constructor
  · rintro ⟨h1, h2, h3, h4⟩; exact ⟨h1, h3, h2, h4⟩
  · rintro ⟨h1, h2, h3, h4⟩; exact ⟨h1, h3, h2, h4⟩
theorem nodesB_map (s : ByteArray) (h : validP s.data.toList = true) : nodesB s = (cutP s.data.toList).map strB := by unfold nodesB; rw [if_pos h]; rfl
theorem zip_take {α β : Type} {a : List α} {b : List β} {k : Nat} {x : α} {y : β} (hx : a[k]? = some x) (hy : b[k]? = some y) : ((a.zip b).take (k + 1)) = (a.zip b).take k ++ [(x, y)] := by
  apply take_snocR
  rw [List.getElem?_zip_eq_some]
  exact ⟨hx, hy⟩
theorem at0_cells (n : Nat) (s : List UInt8) (h : s.length = n) : (madeCells #[Value.bool false] (n + 1)).setIfInBounds 0 (.bool true) = boolA (at0 s) := by
  subst h
  apply Array.ext'
  rw [Array.toList_setIfInBounds]
  unfold boolA at0 madeCells
  rw [Array.toList_map, Array.toList_range, List.map_map]
  apply List.ext_getElem?
  intro i
  rw [List.getElem?_set]
  by_cases hi : 0 = i
  · subst hi
    simp
  · rw [if_neg hi, List.getElem?_map, List.getElem?_map]
    by_cases hl : i < s.length + 1
    · rw [List.getElem?_range hl]
      simp [Nat.mod_one]
      omega
    · rw [List.getElem?_eq_none (by simp; omega)]
      simp [show ¬ i < s.length + 1 from hl]
theorem places_snoc (n : List Gl) (g : Gl) (s : List UInt8) : placesP (n ++ [g]) s = nextP g s (placesP n s) := by
  unfold placesP
  rw [List.foldl_append]
  rfl
theorem places_length (n : List Gl) (s : List UInt8) : (placesP n s).length = s.length + 1 := by
  have : ∀ (n : List Gl) (l : List Bool), l.length = s.length + 1 → (n.foldl (fun l g => nextP g s l) l).length = s.length + 1 := by
    intro n
    induction n with
    | nil => intro l h; exact h
    | cons g t ih => intro l h; exact ih _ (nextP_length g s l)
  exact this n _ (by simp [at0])
set_option maxHeartbeats 8000000 in
set_option maxRecDepth 100000 in
theorem name_Match {w : World} {A : Option Addr} {c : Nat} {p : List (List Gl)} (h : kNode.C w A p.length p) (hc : p.length ≤ c) (hb : bulkP p ≤ 1048576) (s : ByteArray) (hs : s.size ≤ 1073741824) :
    Calls Tryd.prog 20 #[.agg #[.slice A p.length c], .string s] w fun e w' => e = .returned (.bool (matchB p s.data.toList)) ∧ Below w.heap.size w w' := by
  have hpl := bulkP_len p
  have H := Aside0.mk h
  have HB := Aside0.mk (below_alloc (Below.refl w.heap.size w) (.cells #[.slice A p.length c] 24))
  have HBX := Aside0.mk (heap_alloc_new w (.cells #[.slice A p.length c] 24 (0, 0)))
  have HNo := Aside0.mk (fun W => name_Nodes s hs W)
  have HMay := Aside0.mk (fun W (hW : Below w.heap.size w W) => name_may (c := c) (Kd.C_below h hW) hc hb)
  have HBK := Aside0.mk hb
  clear h
  go_enter Tryd.func20, Tryd.ntmps20
  go_upto_region 2 with (go_at_call 25; (with_reducible refine (HNo.out _).mono ?_); rintro e w1 ⟨v, rfl, ho, hbb⟩; have HB1 := Aside0.mk (HB.out.trans (hbb.mono HB.out.size)); have HX1 := Aside0.mk (blk_below HBX.out hbb); have HO1 := Aside0.mk (OwnS.lower ho HB.out.size); obtain ⟨A1, c1, ev⟩ := Kd.R_slice ho; subst ev; clear ho hbb)
  have x0 : w1.cell? ⟨w.heap.size, 0, none⟩ = some (.slice A p.length c) := blk_cell HX1.out 0
  obtain ⟨N, hN⟩ : ∃ N, N = nodesB s := ⟨_, rfl⟩
  rw [← hN] at HO1 ⊢
  have HN := Aside0.mk hN
  clear hN
  by_cases h0 : N.length = 0
  · have HE := Aside0.mk (show matchB p s.data.toList = false by
      unfold matchB
      cases hv : validP s.data.toList with
      | false => rfl
      | true =>
        exfalso
        have h1 := HN.out
        rw [nodesB_map s hv] at h1
        have h2 := cutP_ne s.data.toList
        have h3 := congrArg List.length h1
        rw [List.length_map, h0] at h3
        exact h2 (List.eq_nil_of_length_eq_zero h3.symm))
    have d1 : ((N.length : Int) == 0) = true := beq_iff_eq.2 (by omega)
    clear h0
    go_wp2
    go_ret
    exact ⟨by rw [HE.out]; rfl, HB1.out⟩
  · have hv : validP s.data.toList = true := by
      cases hv : validP s.data.toList with
      | true => rfl
      | false =>
        exfalso
        have h1 := HN.out
        unfold nodesB at h1
        rw [if_neg (by rw [hv]; decide)] at h1
        rw [h1] at h0
        exact h0 rfl
    have HV := Aside0.mk hv
    have HNm := Aside0.mk (show N = (cutP s.data.toList).map strB by rw [HN.out, nodesB_map s hv])
    have d1 : ((N.length : Int) == 0) = false := beq_eq_false_iff_ne.2 (by omega)
    have hNl : N.length = (cutP s.data.toList).length := by rw [HNm.out, List.length_map]
    have HNL := Aside0.mk hNl
    clear hv
    by_cases h1 : N.length = p.length
    · have d2 : ((N.length : Int) != (p.length : Int)) = false := by rw [h1]; simp
      have d2n : (N.length != p.length) = false := by rw [h1]; simp
      have HNP := Aside0.mk h1
      have HMW := Aside0.mk (HMay.out _ HB1.out)
      cases hm : mayB p with
      | false =>
        rw [hm] at HMW
        have HE := Aside0.mk (show matchB p s.data.toList = false by unfold matchB; rw [hm]; simp)
        clear h0 h1 hNl hm
        go_wp2_with (go_at_call 38; (with_reducible refine (HMW.out).mono ?_); rintro e w2 ⟨rfl, hbb⟩; have HB2 := Aside0.mk (HB1.out.trans (hbb.mono HB1.out.size)); clear hbb)
        go_ret
        exact ⟨by rw [HE.out]; rfl, HB2.out⟩
      | true =>
        rw [hm] at HMW
        have HE := Aside0.mk (show matchB p s.data.toList = (p.zip (cutP s.data.toList)).all (fun x => matchN x.1 x.2) by
          unfold matchB
          rw [hm, HV.out, decide_eq_true (by omega)]
          simp)
        clear h0 h1 hNl hm
        go_upto_region 4 with (go_at_call 38; (with_reducible refine (HMW.out).mono ?_); rintro e w2 ⟨rfl, hbb⟩; have HB2 := Aside0.mk (HB1.out.trans (hbb.mono HB1.out.size)); have HO2 := Aside0.mk (HO1.out.keep (Keep.of_below (S := fun _ => False) hbb) (fun _ _ h => h)); have HX2 := Aside0.mk (blk_below HX1.out hbb); clear hbb)
        have x2 : w2.cell? ⟨w.heap.size, 0, none⟩ = some (.slice A p.length c) := blk_cell HX2.out 0
        clear x0
        go_wp2
        go_loopg [32] p.length (fun kq v32 w' => ∃ k : Nat, v32 = .int .i64 (k : Int) ∧ k + kq = p.length ∧ Aside0 (((p.zip (cutP s.data.toList)).take k).all (fun x => matchN x.1 x.2) = true) ∧ Aside0 (OwnS w' w.heap.size (.slice A1 N.length c1) N) ∧ Aside0 (Below w.heap.size w w'))
        case atStart => exact ⟨0, rfl, by omega, ⟨rfl⟩, HO2, HB2⟩
        case round =>
          obtain ⟨k, rfl, hkq, HAll, HO, HW⟩ := hrel
          clear HB HB1 HBX HX1 HO1 HO2 HX2 HB2
          cases gk with
          | succ k1 =>
            have hkp : k < p.length := by omega
            have hkN : k < N.length := by have := HNP.out; omega
            have d3 : decide ((k : Int) < (p.length : Int)) = true := decide_eq_true (by omega)
            obtain ⟨n, hn⟩ : ∃ n, p[k]? = some n := ⟨_, List.getElem?_eq_getElem hkp⟩
            obtain ⟨a, ha⟩ : ∃ a, (cutP s.data.toList)[k]? = some a := ⟨_, List.getElem?_eq_getElem (by have := HNL.out; omega)⟩
            obtain ⟨ad, An, cn, rfl, q0, hcn, hC⟩ := at_node (Kd.C_below H.out HW.out) hn
            have HRd := Aside0.mk (Kd.R_reads' HO.out)
            obtain ⟨bd, rfl, r0⟩ := at_str HRd.out.2.2 (k := k) (x := strB a) (by rw [HNm.out, List.getElem?_map, ha]; rfl)
            have has : (strB a).size ≤ 1073741824 := by
              have h2 : strB a ∈ splitS s := by
                unfold splitS
                exact List.mem_map.2 ⟨a, List.mem_of_getElem? ha, rfl⟩
              have := splitS_size _ h2
              omega
            have HZ := Aside0.mk (zip_take hn ha)
            have hbn := bulkP_mem (List.mem_of_getElem? hn)
            have hnl := bulkN_len n
            have HNb := Aside0.mk (fun g (hg : g ∈ n) => bulkN_mem hg)
            have HC := Aside0.mk hC
            obtain ⟨sa, hsa⟩ : ∃ sa, sa = strB a := ⟨_, rfl⟩
            have HSA := Aside0.mk (show sa.data.toList = a by rw [hsa]; rfl)
            rw [← hsa] at r0 has
            clear hn ha hC hsa
            have hmk := print_make_of (P := Tryd.prog) 54 4 (.bool false) 1 Tryd.underlying54 info_bool rfl (by decide) (sa.size + 1) (by omega)
            rw [show ((sa.size + 1 : Nat) : Int) = (sa.size : Int) + 1 by omega] at hmk
            have HA0 := Aside0.mk (at0_cells sa.size a (by rw [← HSA.out, size_data]))
            go_upto_region 8 with (fail)
            obtain ⟨gT, hgT⟩ : ∃ gT, gT = wr.heap.size := ⟨_, rfl⟩
            have HM3 := Aside0.mk (heap_alloc_new wr (.cells (madeCells #[.bool false] (sa.size + 1)) 4 (0, 0)))
            have HB3 := Aside0.mk (below_alloc (Below.refl wr.heap.size wr) (.cells (madeCells #[.bool false] (sa.size + 1)) 4))
            rw [← hgT] at HM3 ⊢
            have HGT := Aside0.mk (show wr.heap.size ≤ gT by omega)
            clear hgT
            generalize wr.alloc (.cells (madeCells #[.bool false] (sa.size + 1)) 4) = w3 at HM3 HB3 ⊢
            have t0 : w3.cell? ⟨gT, 0, none⟩ = some (.bool false) := (blk_cell HM3.out 0).trans (by simp [madeCells])
            have z0 : w3.frozen? ⟨gT, 0, none⟩ = false := blk_frozen HM3.out 0
            go_upto_region 9 with (fail)
            have HM4 := Aside0.mk (blk_put HM3.out 0 (.bool true) HA0.out)
            have HB4 := Aside0.mk (HB3.out.setCell (p := ⟨gT, 0, none⟩) HGT.out (.bool true))
            generalize w3.setCell ⟨gT, 0, none⟩ (.bool true) = w4 at HM4 HB4 ⊢
            clear t0 z0 HM3 HB3 hmk
            have HT4 := Aside0.mk (show Kd.bool.C w4 (some ⟨gT, 0, none⟩) (at0 a).length (at0 a) by
              have h2 : (at0 a).length = sa.size + 1 := by unfold at0; rw [List.length_map, List.length_range, ← HSA.out, size_data]
              exact (Kd.R_reads' (R_block (enc := Value.bool) (h1 := fun _ => rfl) (xs := at0 a) (base := 0) (ok := fun _ => True) HM4.out (Nat.zero_le _) trivial (by omega))).2.2)
            have HL4 := Aside0.mk (show (at0 a).length = sa.size + 1 by unfold at0; rw [List.length_map, List.length_range, ← HSA.out, size_data])
            go_wp2
            obtain ⟨wo, hwo⟩ : ∃ wo : World, wo = wr := ⟨_, rfl⟩
            subst hwo
            go_loopg [8, 48] n.length (fun kq v8 v48 w' => ∃ (q : Nat) (T : List Bool) (A8 : Option Addr) (c8 : Nat), v8 = .slice A8 (sa.size + 1) c8 ∧ v48 = .int .i64 (q : Int) ∧ q + kq = n.length ∧ Aside0 (T = placesP (n.take q) a) ∧ Aside0 (Kd.bool.C w' A8 T.length T) ∧ Aside0 (T.length = sa.size + 1) ∧ Aside0 (Below wo.heap.size wo w'))
            case atStart => exact ⟨0, at0 a, _, _, rfl, rfl, by omega, ⟨rfl⟩, HT4, HL4, HB4⟩
            case round =>
              obtain ⟨q, T, A8, c8, rfl, rfl, hqq, HT, HTC, HTL, HWo⟩ := hrel
              clear HT4 HM4 HB4 HL4
              have HWW := Aside0.mk (HW.out.trans (HWo.out.mono HW.out.size))
              have HOw := Aside0.mk (HO.out.keep (Keep.of_below (S := fun _ => False) HWo.out) (fun _ _ h => h))
              have r0w := pw_cell_below HWo.out r0
              cases gk with
              | succ q1 =>
                have d4 : decide ((q : Int) < (n.length : Int)) = true := decide_eq_true (by omega)
                have hqn : q < n.length := by omega
                obtain ⟨g, hg⟩ : ∃ g, n[q]? = some g := ⟨_, List.getElem?_eq_getElem hqn⟩
                obtain ⟨ad2, A2, c2, rfl, y0, y1, y2, hK⟩ := at_glob (Kd.C_below HC.out HWo.out) hg
                obtain ⟨m, hm⟩ : ∃ m, m = (g.alts.map strB).length := ⟨_, rfl⟩
                rw [← hm] at y2 hK
                have hgb : bulkG g ≤ 1048576 := by have := HNb.out g (List.mem_of_getElem? hg); omega
                have HB5 := below_alloc (Below.refl wr.heap.size wr) (.cells #[.int .i64 g.kind, .string (strB g.text), .slice A2 m c2] 43)
                have HB5a := Aside0.mk HB5
                have HNx := Aside0.mk (fun W (hW : Below wr.heap.size wr W) => name_next (c := c8) (kGl.K_below hW hK) hgb sa has (Kd.C_below HTC.out hW) HTL.out)
                rw [HSA.out, HT.out, ← places_snoc, ← take_snocR hg] at HNx
                clear hm hK hg
                have r0a := pw_cell_below (below_drew HB5) r0w
                have u0 : (wr.alloc (.cells #[.int .i64 g.kind, .string (strB g.text), .slice A2 m c2] 43)).drew.cell? ⟨wr.heap.size, 0, none⟩ = some (.int .i64 g.kind) := blk_cell (show (wr.alloc (.cells #[.int .i64 g.kind, .string (strB g.text), .slice A2 m c2] 43)).drew.heap[wr.heap.size]? = _ from heap_alloc_new wr _) 0
                have u1 : (wr.alloc (.cells #[.int .i64 g.kind, .string (strB g.text), .slice A2 m c2] 43)).drew.cell? ⟨wr.heap.size, 1, none⟩ = some (.string (strB g.text)) := blk_cell (show (wr.alloc (.cells #[.int .i64 g.kind, .string (strB g.text), .slice A2 m c2] 43)).drew.heap[wr.heap.size]? = _ from heap_alloc_new wr _) 1
                have u2 : (wr.alloc (.cells #[.int .i64 g.kind, .string (strB g.text), .slice A2 m c2] 43)).drew.cell? ⟨wr.heap.size, 2, none⟩ = some (.slice A2 m c2) := blk_cell (show (wr.alloc (.cells #[.int .i64 g.kind, .string (strB g.text), .slice A2 m c2] 43)).drew.heap[wr.heap.size]? = _ from heap_alloc_new wr _) 2
                clear HB5
                go_upto_region 12 with (fail)
                generalize wr.alloc (.cells #[.int .i64 g.kind, .string (strB g.text), .slice A2 m c2] 43) = w5 at r0a u0 u1 u2 HB5a ⊢
                go_still_tail 6, (by kernel_rfl)
                change wpList _ _ _ _ _ w5.drew
                go_wp2_with (go_at_call 39; (with_reducible refine (HNx.out _ (below_drew HB5a.out)).mono ?_); rintro e w6 ⟨v, rfl, ho, hbb⟩; have HB6 := Aside0.mk ((below_drew HB5a.out).trans (hbb.mono HB5a.out.size)); obtain ⟨H2, hH2⟩ : ∃ l : List Bool, l = placesP (n.take (q + 1)) a := ⟨_, rfl⟩; rw [← hH2] at ho; have NH := Aside0.mk hH2; have NL := Aside0.mk (show H2.length = sa.size + 1 by rw [hH2, places_length, ← HSA.out, size_data]); clear hH2; obtain ⟨A6, c6, ev⟩ := Kd.R_slice ho; subst ev; have HO6 := Aside0.mk (Kd.R_reads' ho).2.2; clear ho hbb)
                go_roundg q1
                case rel => exact ⟨q + 1, H2, A6, c6, by rw [NL.out], by go_num, by omega, NH, HO6, NL, ⟨HWo.out.trans (HB6.out.mono HWo.out.size)⟩⟩
                case measure => omega
              | zero =>
                have hqe : q = n.length := by omega
                have HTn := Aside0.mk (show T = placesP n a by rw [HT.out, hqe, List.take_length])
                subst hqe
                have d4 : decide ((n.length : Int) < (n.length : Int)) = false := decide_eq_false (by omega)
                obtain ⟨b, hbT⟩ : ∃ b, T[sa.size]? = some b := ⟨_, List.getElem?_eq_getElem (by have := HTL.out; omega)⟩
                obtain ⟨td, rfl, v0⟩ := at_bool HTC.out hbT
                have HMt := Aside0.mk (show matchN n a = b by
                  unfold matchN
                  rw [← HTn.out, ← HSA.out, size_data, List.getD_eq_getElem?_getD, hbT]
                  rfl)
                clear hbT
                cases b with
                | true =>
                  go_wp2
                  go_roundg k1
                  case rel => exact ⟨k + 1, by go_num, by omega, ⟨by rw [HZ.out, List.all_append, HAll.out, List.all_cons, HMt.out]; rfl⟩, HOw, HWW⟩
                  case measure => omega
                | false =>
                  have HR := Aside0.mk (show matchB p s.data.toList = false by
                    rw [HE.out, ← Bool.not_eq_true]
                    intro q
                    have := List.all_eq_true.1 q (n, a) (by
                      refine List.mem_of_mem_take (i := k + 1) ?_
                      rw [HZ.out]
                      simp)
                    dsimp only at this
                    rw [HMt.out] at this
                    cases this)
                  go_wp2
                  go_ret
                  exact ⟨by rw [HR.out]; rfl, HWW.out⟩
          | zero =>
            have hke : k = p.length := by omega
            subst hke
            have d3 : decide ((p.length : Int) < (p.length : Int)) = false := decide_eq_false (by omega)
            have HR := Aside0.mk (show matchB p s.data.toList = true by
              rw [HE.out]
              have := HAll.out
              rw [List.take_of_length_le (by rw [List.length_zip]; have := HNP.out; have := HNL.out; omega)] at this
              exact this)
            go_wp2
            go_ret
            exact ⟨by rw [HR.out]; rfl, HW.out⟩
    · have d2 : ((N.length : Int) != (p.length : Int)) = true := bne_iff_ne.2 (by omega)
      have d2n : (N.length != p.length) = true := bne_iff_ne.2 h1
      have HE := Aside0.mk (show matchB p s.data.toList = false by unfold matchB; rw [decide_eq_false (by omega)]; simp)
      clear h0 h1 hNl
      go_wp2
      go_ret
      exact ⟨by rw [HE.out]; rfl, HB1.out⟩
end Go.Proofs.YtecfmmalbehcnaaDoor.Q

/- The laws' own example holds. -/
namespace Go.Proofs.YtecfmmalbehcnaaDoor.Q
open Go.Shelf Go.RowKit Go.Proofs Go.Proofs.YtecfmmalbehcnaaDoorW.PrintWords Go.Proofs.YtecfmmalbehcnaaDoorW.PrintLast Go.Proofs.YtecfmmalbehcnaaDoorW.PrintMore Go.Proofs.YtecfmmalbehcnaaDoorV
set_option linter.unusedVariables false
set_option linter.unusedSimpArgs false

theorem al0_bulk : bulkP al0 ≤ 1048576 := by decide
theorem alA_matchB : matchB al0 alA = true := by
  unfold matchB
  rw [alA_valid, mayB_iff.2 al0_may, alA_match]
  decide
theorem alB_matchB : matchB al0 alB = false := by
  unfold matchB
  rw [alB_match]
  simp
/-- A pattern of one's own, as a struct's block: what reading it asks. -/
theorem own_reads_pat {w : World} {base : Nat} {ok : Nat → Prop} {A : Option Addr} {n c : Nat} {p : List (List Gl)} (h : kNode.R 40 w base ok (.slice A n c) p) : n = p.length ∧ n ≤ c ∧ kNode.C w A p.length p := Kd.R_reads' h
set_option maxHeartbeats 1600000 in
theorem law_alive (w : World) : Calls Tryd.prog 19 #[] w fun e w' => e = .returned (.bool true) ∧ Below w.heap.size w w' := by
  have HC := Aside0.mk (fun W => name_Compile (strB alS) W)
  have hcp : compP (strB alS).data.toList = (al0, 0, 0) := by
    show compP alS = _
    unfold compP
    rw [if_neg (by decide)]
    exact al0_compile
  rw [hcp] at HC
  have HV := Aside0.mk (fun W => valid_calls (strB alA) (by decide) W)
  rw [show validP (strB alA).data.toList = true from alA_valid] at HV
  have HMA := Aside0.mk (fun W (A : Option Addr) (c : Nat) (h : kNode.C W A al0.length al0) (hc : al0.length ≤ c) => name_Match h hc al0_bulk (strB alA) (by decide))
  have HMB := Aside0.mk (fun W (A : Option Addr) (c : Nat) (h : kNode.C W A al0.length al0) (hc : al0.length ≤ c) => name_Match h hc al0_bulk (strB alB) (by decide))
  rw [show matchB al0 (strB alA).data.toList = true from alA_matchB] at HMA
  rw [show matchB al0 (strB alB).data.toList = false from alB_matchB] at HMB
  change Aside0 (∀ (W : World) (A : Option Addr) (c : Nat) (h : kNode.C W A 2 al0) (hc : 2 ≤ c), Calls Tryd.prog 20 #[.agg #[.slice A 2 c], .string ⟨#[119, 101, 98, 46, 104, 105, 116, 115]⟩] W _) at HMA
  change Aside0 (∀ (W : World) (A : Option Addr) (c : Nat) (h : kNode.C W A 2 al0) (hc : 2 ≤ c), Calls Tryd.prog 20 #[.agg #[.slice A 2 c], .string ⟨#[119, 101, 98, 46, 98, 105, 116, 115]⟩] W _) at HMB
  change Aside0 (∀ (W : World), Calls Tryd.prog 22 #[.string ⟨#[119, 101, 98, 46, 104, 105, 116, 115]⟩] W _) at HV
  change Aside0 (∀ (W : World), Calls Tryd.prog 16 #[.string ⟨#[119, 42, 46, 91, 104, 45, 106, 93, 105, 116, 115]⟩] W _) at HC
  clear hcp
  go_enter Tryd.func19, Tryd.ntmps19
  go_upto_region 2 with (go_at_call 16; (with_reducible refine (HC.out _).mono ?_); rintro e w1 hp; obtain ⟨v, rfl, ho, hb⟩ := hp; have HB1 := Aside0.mk hb; obtain ⟨A1, c1, ev⟩ := Kd.R_slice ho; subst ev; have HR1 := Aside0.mk (own_reads_pat ho); clear ho hb)
  have hx := heap_alloc_new w1 (.cells #[.slice A1 2 c1] 24 (0, 0))
  have HX2 := Aside0.mk hx
  have HC2 := Aside0.mk (Kd.C_alloc HR1.out.2.2 (.cells #[.slice A1 2 c1] 24))
  have HB2 := Aside0.mk (below_alloc HB1.out (.cells #[.slice A1 2 c1] 24))
  have HL := Aside0.mk (show 2 ≤ c1 from HR1.out.2.1)
  change Code.wp _ _ _ _ (w1.alloc (.cells #[.slice A1 2 c1] 24))
  obtain ⟨g1, hg1⟩ : ∃ g1, g1 = w1.heap.size := ⟨_, rfl⟩
  rw [← hg1] at HX2 ⊢
  clear hx hg1
  generalize w1.alloc (.cells #[.slice A1 2 c1] 24) = w2 at HX2 HC2 HB2 ⊢
  have x2 : w2.cell? ⟨g1, 0, none⟩ = some (.slice A1 2 c1) := blk_cell HX2.out 0
  go_wp2_with (fail)
  refine (HV.out _).mono ?_
  rintro e w3 ⟨rfl, hb⟩
  have HB3 := Aside0.mk (HB2.out.trans (hb.mono HB2.out.size))
  have HX3 := Aside0.mk (blk_below HX2.out hb)
  have HC3 := Aside0.mk (Kd.C_below HC2.out hb)
  have x3 : w3.cell? ⟨g1, 0, none⟩ = some (.slice A1 2 c1) := blk_cell HX3.out 0
  clear hb x2
  go_wp2_with (fail)
  refine (HMA.out _ _ _ HC3.out HL.out).mono ?_
  rintro e w4 ⟨rfl, hb⟩
  have HB4 := Aside0.mk (HB3.out.trans (hb.mono HB3.out.size))
  have HX4 := Aside0.mk (blk_below HX3.out hb)
  have HC4 := Aside0.mk (Kd.C_below HC3.out hb)
  have x4 : w4.cell? ⟨g1, 0, none⟩ = some (.slice A1 2 c1) := blk_cell HX4.out 0
  clear hb x3
  go_wp2_with (fail)
  refine (HMB.out _ _ _ HC4.out HL.out).mono ?_
  rintro e w5 ⟨rfl, hb⟩
  have HB5 := Aside0.mk (HB4.out.trans (hb.mono HB4.out.size))
  clear hb
  go_wp2_with (fail)
  go_ret
  exact ⟨rfl, HB5.out⟩
end Go.Proofs.YtecfmmalbehcnaaDoor.Q
