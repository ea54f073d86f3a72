/- The reference's Text. -/
import Derived.Test.YtecfmmalbehcnaaDoorNRText2
import Derived.Test.YtecfmmalbehcnaaDoorPBulk
namespace Go.Proofs.YtecfmmalbehcnaaDoor.Q
open Go.Shelf Go.RowKit Go.Proofs Go.Proofs.YtecfmmalbehcnaaDoorW.PrintWords Go.Proofs.YtecfmmalbehcnaaDoorW.PrintLast Go.Proofs.YtecfmmalbehcnaaDoorW.PrintMore Go.Proofs.YtecfmmalbehcnaaDoorV
set_option linter.unusedVariables false
set_option linter.unusedSimpArgs false

/-- What stands ahead of the k-th node. -/
def preW (p : List (List Gl)) (k : Nat) : List UInt8 := if k = 0 then [] else wholeR (p.take k) ++ [46]
theorem preW_done {p : List (List Gl)} {k : Nat} {n : List Gl} (h : p[k]? = some n) : preW p k ++ nodeW n = wholeR (p.take (k + 1)) := by
  unfold preW
  by_cases h0 : k = 0
  · subst h0
    rw [if_pos rfl, whole_one h]
    rfl
  · rw [if_neg h0, whole_snoc h (by omega), List.append_assoc]
    rfl
theorem bulkA_takeL (l : List (List UInt8)) (k : Nat) : bulkA (l.take k) ≤ bulkA l := altsT_len.bulkA_take' l k
theorem whole_take_le (p : List (List Gl)) (k : Nat) : (wholeR (p.take k)).length ≤ (wholeR p).length := by
  unfold wholeR
  by_cases h : p.take k = []
  · rw [h]; exact Nat.zero_le _
  · have h1 := join_len 46 ((p.take k).map nodeW) (by simpa using h)
    have hp : p ≠ [] := fun e => h (by rw [e]; simp)
    have h2 := join_len 46 (p.map nodeW) (by simpa using hp)
    have h3 := bulkA_takeL (p.map nodeW) k
    rw [← List.map_take] at h3
    omega
theorem nodeW_take (n : List Gl) (j : Nat) : (nodeW (n.take j)).length ≤ (nodeW n).length := by
  have : nodeW n = nodeW (n.take j) ++ nodeW (n.drop j) := by
    unfold nodeW
    rw [← List.flatMap_append, List.take_append_drop]
  rw [this, List.length_append]
  omega
theorem nodeW_step {n : List Gl} {j : Nat} {g : Gl} (h : n[j]? = some g) : nodeW (n.take (j + 1)) = nodeW (n.take j) ++ writtenR g := by rw [take_snocR h, nodeW_snoc]
theorem part_le {p : List (List Gl)} {k j : Nat} {n : List Gl} (h : p[k]? = some n) : (preW p k ++ nodeW (n.take j)).length ≤ (wholeR p).length := by
  have h1 := whole_take_le p (k + 1)
  rw [← preW_done h, List.length_append] at h1
  have h2 := nodeW_take n j
  rw [List.length_append]
  omega
theorem textP_long {p : List (List Gl)} (h : mayB p = true) (hl : 400 < (wholeR p).length) : textP p = ([], 2) := by unfold textP; rw [if_pos h, if_pos hl]
theorem textP_short {p : List (List Gl)} (h : mayB p = true) (hl : (wholeR p).length ≤ 400) : textP p = (wholeR p, 0) := by unfold textP; rw [if_pos h, if_neg (by omega)]
set_option maxHeartbeats 6400000 in
theorem ref_Text {w : World} {A : Option Addr} {c : Nat} {p : List (List Gl)} (h : kNode.C w A p.length p) (hc : p.length ≤ c) (hb : bulkP p ≤ 1048576) :
    Calls Tryd.prog 31 #[.agg #[.slice A p.length c]] w fun e w' => e = .returned (.tuple #[.string (strB (textP p).1), .int .i64 (textP p).2]) ∧ Below w.heap.size w w' := by
  have hpl := bulkP_len p
  have H := Aside0.mk h
  have HB := Aside0.mk (below_alloc (Below.refl w.heap.size w) (.cells #[.slice A p.length c] 24))
  have HBX := Aside0.mk (heap_alloc_new w (.cells #[.slice A p.length c] 24 (0, 0)))
  have HMay := Aside0.mk (fun W (hW : Below w.heap.size w W) => ref_May (c := c) (Kd.C_below h hW) hc hb)
  have HBK := Aside0.mk hb
  have hpl2 : p.length ≤ 1048576 := by omega
  clear h hb hpl
  have HM1 := Aside0.mk (HMay.out _ HB.out)
  have x0 : (w.alloc (.cells #[.slice A p.length c] 24 (0, 0))).cell? ⟨w.heap.size, 0, none⟩ = some (.slice A p.length c) := blk_cell HBX.out 0
  cases hm : mayB p with
  | false =>
    rw [hm] at HM1
    have HE := Aside0.mk (show textP p = ([], 31) by unfold textP; rw [hm]; rfl)
    clear hm
    go_enter Tryd.func31, Tryd.ntmps31
    go_wp2_with (go_at_call 40; (with_reducible refine (HM1.out).mono ?_); rintro e w2 ⟨rfl, hbb⟩; have HB2 := Aside0.mk (HB.out.trans (hbb.mono HB.out.size)); clear hbb)
    go_ret2
    exact ⟨by rw [HE.out]; rfl, HB2.out⟩
  | true =>
    rw [hm] at HM1
    have HMM := Aside0.mk hm
    have HPM := Aside0.mk (mayB_iff.1 hm)
    clear hm
    go_enter Tryd.func31, Tryd.ntmps31
    go_upto_region 5 with (go_at_call 40; (with_reducible refine (HM1.out).mono ?_); rintro e w2 ⟨rfl, hbb⟩; have HB2 := Aside0.mk (HB.out.trans (hbb.mono HB.out.size)); have HX2 := Aside0.mk (blk_below HBX.out hbb); clear hbb)
    clear x0
    go_loopg [4, 5] p.length (fun kq v4 v5 w' => ∃ k : Nat, v4 = .string (strB (wholeR (p.take k))) ∧ v5 = .int .i64 (k : Int) ∧ k + kq = p.length ∧ Aside0 ((wholeR (p.take k)).length ≤ 400) ∧ Aside0 (Below w.heap.size w w') ∧ Aside0 (w'.heap[w.heap.size]? = some (.cells #[.slice A p.length c] 24 (0, 0))))
    case atStart => exact ⟨0, rfl, rfl, by omega, ⟨Nat.zero_le _⟩, HB2, HX2⟩
    case round =>
      obtain ⟨k, rfl, rfl, hkq, H400, HW, HX⟩ := hrel
      clear HB HBX HB2 HX2
      have x3 : wr.cell? ⟨w.heap.size, 0, none⟩ = some (.slice A p.length c) := blk_cell HX.out 0
      cases gk with
      | succ k1 =>
        have hkp : k < p.length := by omega
        have d1 : decide ((k : Int) < (p.length : Int)) = true := decide_eq_true (by omega)
        have E9 := Aside0.mk (show k + 1 + k1 = p.length by omega)
        obtain ⟨n, hn⟩ : ∃ n, p[k]? = some n := ⟨_, List.getElem?_eq_getElem hkp⟩
        have HN := Aside0.mk hn
        have hnl : n.length ≤ 1048576 := by have h1 := bulkP_mem (List.mem_of_getElem? hn); have h2 := bulkN_len n; have := HBK.out; omega
        have HNM := Aside0.mk (HPM.out.2.2 n (List.mem_of_getElem? hn))
        have HBN := Aside0.mk (show ∀ g ∈ n, bulkG g ≤ 1048576 from fun g hg => by have h1 := bulkP_mem (List.mem_of_getElem? hn); have h2 := bulkN_mem hg; have := HBK.out; omega)
        have ht0 : (strB (wholeR (p.take k))).size ≤ 400 := by rw [size_strB]; exact H400.out
        clear hn hkq
        obtain ⟨Y, hY⟩ : ∃ Y, Y = strB (wholeR (p.take k)) := ⟨_, rfl⟩
        rw [← hY] at ht0 ⊢
        have HP0 := Aside0.mk (show 0 < k → Y ++ ⟨#[46]⟩ = strB (preW p k) from fun q => by unfold preW; rw [if_neg (by omega), hY, show (⟨#[46]⟩ : ByteArray) = strB [46] from rfl, strB_append])
        have HP1 := Aside0.mk (show k = 0 → Y = strB (preW p k) from fun q => by unfold preW; rw [if_pos q, hY, q]; rfl)
        have hpz : (preW p k).length ≤ 401 := by
          unfold preW
          split
          · exact Nat.zero_le _
          · rw [List.length_append]; have := H400.out; simp; omega
        have HPZ := Aside0.mk hpz
        clear hY hpz
        obtain ⟨wo, hwo⟩ : ∃ wo : World, wo = wr := ⟨_, rfl⟩
        subst hwo
        by_cases k0 : 0 < k
        · have e0 : decide ((0 : Int) < (k : Int)) = true := decide_eq_true (by omega)
          have e0n : decide (0 < k) = true := decide_eq_true k0
          have HPp := Aside0.mk (HP0.out k0)
          clear k0
          go_upto_region 10 with (fail)
          rw [HPp.out]
          obtain ⟨L0, hL0⟩ : ∃ L0, L0 = preW p k := ⟨_, rfl⟩
          have HL0 := Aside0.mk hL0
          rw [← hL0]
          clear hL0 HP0 HP1 ht0
          go_loopg [4, 6] n.length (fun kq v4 v6 w' => ∃ j : Nat, v4 = .string (strB (L0 ++ nodeW (n.take j))) ∧ v6 = .int .i64 (j : Int) ∧ j + kq = n.length ∧ Aside0 (0 < j → (L0 ++ nodeW (n.take j)).length ≤ 400) ∧ Aside0 (Below wo.heap.size wo w'))
          case atStart => exact ⟨0, by simp [nodeW], rfl, by omega, ⟨fun q => absurd q (by decide)⟩, ⟨Below.refl _ _⟩⟩
          case round =>
            obtain ⟨j, rfl, rfl, hjq, HJ4, HWo⟩ := hrel
            have HWW := Aside0.mk (HW.out.trans (HWo.out.mono HW.out.size))
            have HXW := Aside0.mk (blk_below HX.out HWo.out)
            have y3 : wr.cell? ⟨w.heap.size, 0, none⟩ = some (.slice A p.length c) := blk_cell HXW.out 0
            obtain ⟨ad, An, cn, rfl, q0, hcn, hC⟩ := at_node (Kd.C_below H.out HWW.out) HN.out
            have hLz : (strB (L0 ++ nodeW (n.take j))).size ≤ 401 := by
              rw [size_strB]
              by_cases q : 0 < j
              · exact Nat.le_trans (HJ4.out q) (by decide)
              · have hj0 : j = 0 := by omega
                rw [hj0, show nodeW (n.take 0) = [] from rfl, List.append_nil, HL0.out]
                exact HPZ.out
            cases gk with
            | succ j1 =>
              have hjn : j < n.length := by omega
              have d2 : decide ((j : Int) < (n.length : Int)) = true := decide_eq_true (by omega)
              have d2n : decide (j < n.length) = true := decide_eq_true hjn
              have E8 := Aside0.mk (show j + 1 + j1 = n.length by omega)
              obtain ⟨g, hg⟩ : ∃ g, n[j]? = some g := ⟨_, List.getElem?_eq_getElem hjn⟩
              have hgm := List.mem_of_getElem? hg
              obtain ⟨gd, G2, gc, rfl, s0, s1, s2, hK⟩ := at_glob hC hg
              have HGT := Aside0.mk (ref_globText hK (HBN.out g hgm) (HNM.out.2.1 g hgm))
              have hwz : (strB (writtenR g)).size ≤ 1048576 := by rw [size_strB]; exact Nat.le_trans (written_length g) (HBN.out g hgm)
              have HS := Aside0.mk (show strB (L0 ++ nodeW (n.take j)) ++ strB (writtenR g) = strB (L0 ++ nodeW (n.take (j + 1))) by rw [strB_append, nodeW_step hg, List.append_assoc])
              have HPL := Aside0.mk (show (L0 ++ nodeW (n.take (j + 1))).length ≤ (wholeR p).length by rw [HL0.out]; exact part_le HN.out)
              obtain ⟨na, hna⟩ : ∃ na, na = (g.alts.map strB).length := ⟨_, rfl⟩
              rw [← hna] at s2 HGT
              obtain ⟨Y2, hY2⟩ : ∃ Y2, Y2 = strB (L0 ++ nodeW (n.take j)) := ⟨_, rfl⟩
              rw [← hY2] at hLz HS ⊢
              obtain ⟨T2, hT2⟩ : ∃ T2, T2 = strB (writtenR g) := ⟨_, rfl⟩
              rw [← hT2] at hwz HS HGT
              have HSz := Aside0.mk (show (Y2 ++ T2).size = (L0 ++ nodeW (n.take (j + 1))).length by rw [HS.out, size_strB])
              have hyt : (Y2 ++ T2).size = Y2.size + T2.size := ByteArray.size_append
              have HYT := Aside0.mk hyt
              clear hg hK hna hY2 hT2 hjq hC hgm hyt
              go_wp2_with (fail)
              refine (HGT.out).mono ?_
              rintro e w4 ⟨rfl, hbb⟩
              have HB4 := Aside0.mk (HWo.out.trans (hbb.mono HWo.out.size))
              have HB4w := Aside0.mk (HWW.out.trans (hbb.mono HWW.out.size))
              clear hbb
              by_cases h4 : 400 < Y2.size + T2.size
              · have f1 : decide ((400 : Int) < (Y2.size : Int) + (T2.size : Int)) = true := decide_eq_true (by omega)
                have f1n : decide (400 < Y2.size + T2.size) = true := decide_eq_true h4
                have f2 : decide ((400 : Int) < ((Y2 ++ T2).size : Int)) = true := decide_eq_true (by have := HYT.out; omega)
                have HR := Aside0.mk (textP_long HMM.out (by have := HPL.out; have := HSz.out; have := HYT.out; omega))
                clear h4
                go_wp2_with (fail)
                go_ret2
                exact ⟨by rw [HR.out]; rfl, HB4w.out⟩
              · have f1 : decide ((400 : Int) < (Y2.size : Int) + (T2.size : Int)) = false := decide_eq_false (by omega)
                have f1n : decide (400 < Y2.size + T2.size) = false := decide_eq_false h4
                have f2 : decide ((400 : Int) < ((Y2 ++ T2).size : Int)) = false := decide_eq_false (by have := HYT.out; omega)
                have HJ5 := Aside0.mk (show 0 < j + 1 → (L0 ++ nodeW (n.take (j + 1))).length ≤ 400 from fun _ => by have := HSz.out; have := HYT.out; omega)
                clear h4
                go_wp2_with (fail)
                go_roundg j1
                case rel => exact ⟨j + 1, by rw [← HS.out], by go_num, E8.out, HJ5, HB4⟩
                case measure => omega
            | zero =>
              have hj : j = n.length := by omega
              have d2 : decide ((j : Int) < (n.length : Int)) = false := decide_eq_false (by omega)
              have d2n : decide (j < n.length) = false := decide_eq_false (by omega)
              have HWh := Aside0.mk (show L0 ++ nodeW (n.take j) = wholeR (p.take (k + 1)) by rw [HL0.out, hj, List.take_length, preW_done HN.out])
              have H4n := Aside0.mk (show (wholeR (p.take (k + 1))).length ≤ 400 by
                rw [← HWh.out]
                refine HJ4.out ?_
                have := HNM.out.1
                rw [hj]
                cases hq : n with
                | nil => exact absurd hq this
                | cons a t => simp)
              rw [HWh.out]
              clear hj hjq hC
              go_wp2_with (fail)
              go_roundg k1
              case rel => exact ⟨k + 1, rfl, by go_num, E9.out, H4n, HWW, HXW⟩
              case measure => omega
        · have e0 : decide ((0 : Int) < (k : Int)) = false := decide_eq_false (by omega)
          have e0n : decide (0 < k) = false := decide_eq_false k0
          have HPp := Aside0.mk (HP1.out (by omega))
          clear k0
          go_upto_region 10 with (fail)
          rw [HPp.out]
          obtain ⟨L0, hL0⟩ : ∃ L0, L0 = preW p k := ⟨_, rfl⟩
          have HL0 := Aside0.mk hL0
          rw [← hL0]
          clear hL0 HP0 HP1 ht0
          go_loopg [4, 6] n.length (fun kq v4 v6 w' => ∃ j : Nat, v4 = .string (strB (L0 ++ nodeW (n.take j))) ∧ v6 = .int .i64 (j : Int) ∧ j + kq = n.length ∧ Aside0 (0 < j → (L0 ++ nodeW (n.take j)).length ≤ 400) ∧ Aside0 (Below wo.heap.size wo w'))
          case atStart => exact ⟨0, by simp [nodeW], rfl, by omega, ⟨fun q => absurd q (by decide)⟩, ⟨Below.refl _ _⟩⟩
          case round =>
            obtain ⟨j, rfl, rfl, hjq, HJ4, HWo⟩ := hrel
            have HWW := Aside0.mk (HW.out.trans (HWo.out.mono HW.out.size))
            have HXW := Aside0.mk (blk_below HX.out HWo.out)
            have y3 : wr.cell? ⟨w.heap.size, 0, none⟩ = some (.slice A p.length c) := blk_cell HXW.out 0
            obtain ⟨ad, An, cn, rfl, q0, hcn, hC⟩ := at_node (Kd.C_below H.out HWW.out) HN.out
            have hLz : (strB (L0 ++ nodeW (n.take j))).size ≤ 401 := by
              rw [size_strB]
              by_cases q : 0 < j
              · exact Nat.le_trans (HJ4.out q) (by decide)
              · have hj0 : j = 0 := by omega
                rw [hj0, show nodeW (n.take 0) = [] from rfl, List.append_nil, HL0.out]
                exact HPZ.out
            cases gk with
            | succ j1 =>
              have hjn : j < n.length := by omega
              have d2 : decide ((j : Int) < (n.length : Int)) = true := decide_eq_true (by omega)
              have d2n : decide (j < n.length) = true := decide_eq_true hjn
              have E8 := Aside0.mk (show j + 1 + j1 = n.length by omega)
              obtain ⟨g, hg⟩ : ∃ g, n[j]? = some g := ⟨_, List.getElem?_eq_getElem hjn⟩
              have hgm := List.mem_of_getElem? hg
              obtain ⟨gd, G2, gc, rfl, s0, s1, s2, hK⟩ := at_glob hC hg
              have HGT := Aside0.mk (ref_globText hK (HBN.out g hgm) (HNM.out.2.1 g hgm))
              have hwz : (strB (writtenR g)).size ≤ 1048576 := by rw [size_strB]; exact Nat.le_trans (written_length g) (HBN.out g hgm)
              have HS := Aside0.mk (show strB (L0 ++ nodeW (n.take j)) ++ strB (writtenR g) = strB (L0 ++ nodeW (n.take (j + 1))) by rw [strB_append, nodeW_step hg, List.append_assoc])
              have HPL := Aside0.mk (show (L0 ++ nodeW (n.take (j + 1))).length ≤ (wholeR p).length by rw [HL0.out]; exact part_le HN.out)
              obtain ⟨na, hna⟩ : ∃ na, na = (g.alts.map strB).length := ⟨_, rfl⟩
              rw [← hna] at s2 HGT
              obtain ⟨Y2, hY2⟩ : ∃ Y2, Y2 = strB (L0 ++ nodeW (n.take j)) := ⟨_, rfl⟩
              rw [← hY2] at hLz HS ⊢
              obtain ⟨T2, hT2⟩ : ∃ T2, T2 = strB (writtenR g) := ⟨_, rfl⟩
              rw [← hT2] at hwz HS HGT
              have HSz := Aside0.mk (show (Y2 ++ T2).size = (L0 ++ nodeW (n.take (j + 1))).length by rw [HS.out, size_strB])
              have hyt : (Y2 ++ T2).size = Y2.size + T2.size := ByteArray.size_append
              have HYT := Aside0.mk hyt
              clear hg hK hna hY2 hT2 hjq hC hgm hyt
              go_wp2_with (fail)
              refine (HGT.out).mono ?_
              rintro e w4 ⟨rfl, hbb⟩
              have HB4 := Aside0.mk (HWo.out.trans (hbb.mono HWo.out.size))
              have HB4w := Aside0.mk (HWW.out.trans (hbb.mono HWW.out.size))
              clear hbb
              by_cases h4 : 400 < Y2.size + T2.size
              · have f1 : decide ((400 : Int) < (Y2.size : Int) + (T2.size : Int)) = true := decide_eq_true (by omega)
                have f1n : decide (400 < Y2.size + T2.size) = true := decide_eq_true h4
                have f2 : decide ((400 : Int) < ((Y2 ++ T2).size : Int)) = true := decide_eq_true (by have := HYT.out; omega)
                have HR := Aside0.mk (textP_long HMM.out (by have := HPL.out; have := HSz.out; have := HYT.out; omega))
                clear h4
                go_wp2_with (fail)
                go_ret2
                exact ⟨by rw [HR.out]; rfl, HB4w.out⟩
              · have f1 : decide ((400 : Int) < (Y2.size : Int) + (T2.size : Int)) = false := decide_eq_false (by omega)
                have f1n : decide (400 < Y2.size + T2.size) = false := decide_eq_false h4
                have f2 : decide ((400 : Int) < ((Y2 ++ T2).size : Int)) = false := decide_eq_false (by have := HYT.out; omega)
                have HJ5 := Aside0.mk (show 0 < j + 1 → (L0 ++ nodeW (n.take (j + 1))).length ≤ 400 from fun _ => by have := HSz.out; have := HYT.out; omega)
                clear h4
                go_wp2_with (fail)
                go_roundg j1
                case rel => exact ⟨j + 1, by rw [← HS.out], by go_num, E8.out, HJ5, HB4⟩
                case measure => omega
            | zero =>
              have hj : j = n.length := by omega
              have d2 : decide ((j : Int) < (n.length : Int)) = false := decide_eq_false (by omega)
              have d2n : decide (j < n.length) = false := decide_eq_false (by omega)
              have HWh := Aside0.mk (show L0 ++ nodeW (n.take j) = wholeR (p.take (k + 1)) by rw [HL0.out, hj, List.take_length, preW_done HN.out])
              have H4n := Aside0.mk (show (wholeR (p.take (k + 1))).length ≤ 400 by
                rw [← HWh.out]
                refine HJ4.out ?_
                have := HNM.out.1
                rw [hj]
                cases hq : n with
                | nil => exact absurd hq this
                | cons a t => simp)
              rw [HWh.out]
              clear hj hjq hC
              go_wp2_with (fail)
              go_roundg k1
              case rel => exact ⟨k + 1, rfl, by go_num, E9.out, H4n, HWW, HXW⟩
              case measure => omega
      | zero =>
        have hk : k = p.length := by omega
        have d1 : decide ((k : Int) < (p.length : Int)) = false := decide_eq_false (by omega)
        have d1n : decide (k < p.length) = false := decide_eq_false (by omega)
        rw [show p.take k = p by rw [hk, List.take_length]]
        have HR := Aside0.mk (textP_short HMM.out (by have := H400.out; rwa [hk, List.take_length] at this))
        clear hk hkq
        go_wp2_with (fail)
        go_ret2
        exact ⟨by rw [HR.out]; rfl, HW.out⟩
end Go.Proofs.YtecfmmalbehcnaaDoor.Q
