/- The reference's Plain. -/
import Derived.Test.YtecfmmalbehcnaaDoorNRMay2
namespace Go.Proofs.YtecfmmalbehcnaaDoor.Q
open Go.Shelf Go.RowKit Go.Proofs Go.Proofs.YtecfmmalbehcnaaDoorW.PrintWords Go.Proofs.YtecfmmalbehcnaaDoorW.PrintLast Go.Proofs.YtecfmmalbehcnaaDoorW.PrintMore Go.Proofs.YtecfmmalbehcnaaDoorV
set_option linter.unusedVariables false
set_option linter.unusedSimpArgs false

theorem join_snoc (sep : UInt8) : ∀ (l : List (List UInt8)) (a : List UInt8), l ≠ [] → joinR sep (l ++ [a]) = joinR sep l ++ sep :: a := by
  intro l
  induction l with
  | nil => intro a h; exact absurd rfl h
  | cons x t ih =>
    intro a _
    cases t with
    | nil => rfl
    | cons y u => rw [List.cons_append, List.cons_append, joinR_cons, ← List.cons_append, ih a (by simp), joinR_cons, List.append_assoc, List.cons_append]
theorem whole_snoc {p : List (List Gl)} {k : Nat} {n : List Gl} (h : p[k]? = some n) (h0 : 0 < k) : wholeR (p.take (k + 1)) = wholeR (p.take k) ++ 46 :: nodeW n := by
  unfold wholeR
  rw [take_snocR h, List.map_append]
  refine join_snoc 46 _ _ ?_
  intro e
  have h1 := (List.getElem?_eq_some_iff.1 h).1
  have := congrArg List.length e
  rw [List.length_map, List.length_take, List.length_nil] at this
  omega
theorem whole_one {p : List (List Gl)} {n : List Gl} (h : p[0]? = some n) : wholeR (p.take 1) = nodeW n := by
  have : p.take 1 = [n] := by rw [take_snocR h]; rfl
  rw [this]
  rfl
theorem bulkP_take : ∀ (p : List (List Gl)) (k : Nat), bulkP (p.take k) ≤ bulkP p := by
  intro p
  induction p with
  | nil => intro k; simp
  | cons n t ih =>
    intro k
    cases k with
    | zero => unfold bulkP; simp
    | succ k =>
      have := ih k
      unfold bulkP at *
      rw [List.take_succ_cons, List.map_cons, List.map_cons, List.sum_cons, List.sum_cons]
      omega
theorem whole_take (p : List (List Gl)) (k : Nat) : (wholeR (p.take k)).length ≤ 2 * bulkP p := Nat.le_trans (whole_length _) (Nat.mul_le_mul_left 2 (bulkP_take p k))
theorem nodeW_one {g : Gl} (h : g.kind = 1) : nodeW [g] = g.text := by
  show writtenR g ++ [] = g.text
  unfold writtenR
  rw [h, if_neg (by decide), if_neg (by decide), if_neg (by decide), if_neg (by decide), List.append_nil]
set_option maxHeartbeats 3200000 in
theorem ref_Plain {w : World} {A : Option Addr} {c : Nat} {p : List (List Gl)} (h : kNode.C w A p.length p) (hc : p.length ≤ c) (hb : bulkP p ≤ 1048576) :
    Calls Tryd.prog 33 #[.agg #[.slice A p.length c]] w fun e w' => e = .returned (.tuple #[.string (strB (plainB p).1), .bool (plainB p).2]) ∧ Below w.heap.size w w' := by
  have hwl := whole_length p
  have hpl := bulkP_len p
  have H := Aside0.mk h
  have HB := Aside0.mk (below_alloc (Below.refl w.heap.size w) (.cells #[.slice A p.length c] 24))
  have HBX := Aside0.mk (heap_alloc_new w (.cells #[.slice A p.length c] 24 (0, 0)))
  have HMay := Aside0.mk (fun W (hW : Below w.heap.size w W) => ref_May (c := c) (Kd.C_below h hW) hc hb)
  have HBK := Aside0.mk hb
  have hpl2 : p.length ≤ 1048576 := by omega
  have HTk := Aside0.mk (fun k => show (strB (wholeR (p.take k))).size ≤ 2097152 by rw [size_strB]; have := whole_take p k; omega)
  clear h
  have hz : (strB (wholeR p)).size ≤ 2097152 := by rw [size_strB]; omega
  have hwv : validP (strB (wholeR p)).data.toList = validP (wholeR p) := rfl
  have HM1 := Aside0.mk (HMay.out _ HB.out)
  have x0 : (w.alloc (.cells #[.slice A p.length c] 24 (0, 0))).cell? ⟨w.heap.size, 0, none⟩ = some (.slice A p.length c) := blk_cell HBX.out 0
  have HV := Aside0.mk (fun W => ref_Valid (strB (wholeR p)) (by omega) W)
  rw [hwv] at HV
  clear hwl hb hwv
  cases hm : mayB p with
  | false =>
    rw [hm] at HM1
    have HE := Aside0.mk (show plainB p = ([], false) by unfold plainB; rw [hm]; rfl)
    clear hm
    go_enter Tryd.func33, Tryd.ntmps33
    go_wp2_with (go_at_call 40; (with_reducible refine (HM1.out).mono ?_); rintro e w2 ⟨rfl, hbb⟩; have HB2 := Aside0.mk (HB.out.trans (hbb.mono HB.out.size)); clear hbb)
    go_ret2
    exact ⟨by rw [HE.out]; rfl, HB2.out⟩
  | true =>
    rw [hm] at HM1
    have HE := Aside0.mk (show plainB p = if (p.all oneT && validP (wholeR p)) = true then (wholeR p, true) else ([], false) by unfold plainB; rw [hm]; rfl)
    clear hm
    go_enter Tryd.func33, Tryd.ntmps33
    go_upto_region 5 with (go_at_call 40; (with_reducible refine (HM1.out).mono ?_); rintro e w2 ⟨rfl, hbb⟩; have HB2 := Aside0.mk (HB.out.trans (hbb.mono HB.out.size)); have HX2 := Aside0.mk (blk_below HBX.out hbb); clear hbb)
    clear x0
    go_loopg [4, 5] p.length (fun kq v4 v5 w' => ∃ k : Nat, v4 = .string (strB (wholeR (p.take k))) ∧ v5 = .int .i64 (k : Int) ∧ k + kq = p.length ∧ Aside0 ((p.take k).all oneT = true) ∧ Aside0 (Below w.heap.size w w') ∧ Aside0 (w'.heap[w.heap.size]? = some (.cells #[.slice A p.length c] 24 (0, 0))))
    case atStart => exact ⟨0, rfl, rfl, by omega, ⟨rfl⟩, HB2, HX2⟩
    case round =>
      obtain ⟨k, rfl, rfl, hkq, HAll, HW, HX⟩ := hrel
      clear HB HBX HB2 HX2
      have x3 : wr.cell? ⟨w.heap.size, 0, none⟩ = some (.slice A p.length c) := blk_cell HX.out 0
      cases gk with
      | succ k1 =>
        have d1 : decide ((k : Int) < (p.length : Int)) = true := decide_eq_true (by omega)
        have E9 := Aside0.mk (show k + 1 + k1 = p.length by omega)
        obtain ⟨n, hn⟩ : ∃ n, p[k]? = some n := ⟨_, List.getElem?_eq_getElem (by omega)⟩
        obtain ⟨ad, An, cn, rfl, q0, hcn, hC⟩ := at_node (Kd.C_below H.out HW.out) hn
        have hbn := bulkP_mem (List.mem_of_getElem? hn)
        have hnl := bulkN_len n
        have HBad := Aside0.mk (fun (q : oneT n = false) => show plainB p = ([], false) by
          rw [HE.out, if_neg]
          rw [List.all_eq_false.2 ⟨n, List.mem_of_getElem? hn, by rw [q]; decide⟩, Bool.false_and]
          decide)
        have HGood := Aside0.mk (fun (q : oneT n = true) => show (p.take (k + 1)).all oneT = true by rw [all_take hn, HAll.out, q]; rfl)
        have hk2 : k < p.length := by omega
        have hnl2 : n.length ≤ 1048576 := by have := HBK.out; omega
        have HC := Aside0.mk hC
        have HN := Aside0.mk hn
        clear hn hC hbn hnl hkq
        match n with
        | [] =>
          go_wp2
          go_ret2
          exact ⟨by rw [HBad.out rfl]; rfl, HW.out⟩
        | g :: g2 :: r =>
          obtain ⟨nl, hnl⟩ : ∃ nl, nl = (g :: g2 :: r).length := ⟨_, rfl⟩
          rw [← hnl] at q0 hcn hnl2
          have hb1 : ((nl : Int) != 1) = true := by rw [bne_iff_ne]; rw [hnl, List.length_cons, List.length_cons]; omega
          have hb0 : ((nl : Int) == 1) = false := by rw [beq_eq_false_iff_ne]; rw [hnl, List.length_cons, List.length_cons]; omega
          clear hnl
          go_wp2
          go_ret2
          exact ⟨by rw [HBad.out rfl]; rfl, HW.out⟩
        | [g] =>
          obtain ⟨ad2, A2, c2, rfl, r0, r1, r2, hK⟩ := at_glob (k := 0) HC.out rfl
          obtain ⟨kd, hkd⟩ : ∃ kd, kd = g.kind := ⟨_, rfl⟩
          rw [← hkd] at r0
          rw [show ad2.add (0 * 3) = ad2 by cases ad2; simp [Addr.add]] at r0 r1
          clear r2 hK
          by_cases h1 : kd = 1
          · have HG := Aside0.mk (HGood.out (by show decide (g.kind = 1) = true; rw [← hkd, h1]; rfl))
            have HNW := Aside0.mk (show nodeW [g] = g.text from nodeW_one (by rw [← hkd, h1]))
            subst h1
            clear hkd
            have hs1 := HTk.out k
            have hs2 := HTk.out (k + 1)
            by_cases k0 : k = 0
            · have d0 : decide (0 < (k : Int)) = false := decide_eq_false (by omega)
              have d0n : decide (0 < k) = false := decide_eq_false (by omega)
              have hn0 : p[0]? = some [g] := by have := HN.out; rwa [k0] at this
              have HS := Aside0.mk (show strB (wholeR (p.take k)) ++ strB g.text = strB (wholeR (p.take (k + 1))) by
                rw [k0, strB_append, whole_one hn0, HNW.out]
                rfl)
              have hgz : (strB g.text).size ≤ 2097152 := by rw [← HNW.out, ← whole_one hn0]; rw [k0] at hs2; exact hs2
              obtain ⟨X, hX⟩ : ∃ X, X = strB (wholeR (p.take k)) := ⟨_, rfl⟩
              rw [← hX] at HS hs1 ⊢
              clear hX hs2 hn0 k0
              go_wp2
              go_roundg k1
              case rel => exact ⟨k + 1, by rw [← HS.out], by go_num, E9.out, HG, HW, HX⟩
              case measure => omega
            · have hk0 : 0 < k := by omega
              have d0 : decide (0 < (k : Int)) = true := decide_eq_true (by omega)
              have d0n : decide (0 < k) = true := decide_eq_true hk0
              have HS := Aside0.mk (show strB (wholeR (p.take k)) ++ ⟨#[46]⟩ ++ strB g.text = strB (wholeR (p.take (k + 1))) by
                rw [show (⟨#[46]⟩ : ByteArray) = strB [46] from rfl, strB_append, strB_append, whole_snoc HN.out hk0, HNW.out, List.append_assoc]
                rfl)
              have hgz : (strB g.text).size ≤ 2097152 := by
                have := hs2
                rw [size_strB, whole_snoc HN.out hk0, HNW.out, List.length_append, List.length_cons] at this
                rw [size_strB]
                omega
              obtain ⟨X, hX⟩ : ∃ X, X = strB (wholeR (p.take k)) := ⟨_, rfl⟩
              rw [← hX] at HS hs1 ⊢
              clear hX hs2 k0
              go_wp2
              go_roundg k1
              case rel => exact ⟨k + 1, by rw [← HS.out], by go_num, E9.out, HG, HW, HX⟩
              case measure => omega
          · have HG := Aside0.mk (HBad.out (by show decide (g.kind = 1) = false; rw [← hkd]; exact decide_eq_false h1))
            have b1 : (kd != 1) = true := by rw [bne_iff_ne]; exact h1
            have b0 : (kd == 1) = false := by rw [beq_eq_false_iff_ne]; exact h1
            have b2 : (kd = 1) = False := eq_false h1
            clear hkd h1
            go_wp2
            go_ret2
            exact ⟨by rw [HG.out]; rfl, HW.out⟩
      | zero =>
        have hk : k = p.length := by omega
        have d1 : decide ((k : Int) < (p.length : Int)) = false := decide_eq_false (by omega)
        have d1n : decide (k < p.length) = false := decide_eq_false (by omega)
        have HAl := Aside0.mk (show p.all oneT = true by have := HAll.out; rwa [hk, List.take_length] at this)
        rw [show p.take k = p by rw [hk, List.take_length]]
        obtain ⟨ws, hws⟩ : ∃ ws, ws = strB (wholeR p) := ⟨_, rfl⟩
        rw [← hws] at hz HV ⊢
        have HWS := Aside0.mk hws
        clear hpl hk hkq hws
        cases hv : validP (wholeR p) with
        | true =>
          rw [hv] at HV
          have HR := Aside0.mk (show plainB p = (wholeR p, true) by rw [HE.out, HAl.out, hv]; rfl)
          clear hv
          go_wp2_with (fail)
          refine (HV.out _).mono ?_
          rintro e w4 ⟨rfl, hbb⟩
          have HB4 := Aside0.mk (HW.out.trans (hbb.mono HW.out.size))
          clear hbb
          go_wp2_with (fail)
          go_ret2
          exact ⟨by rw [HR.out, HWS.out]; rfl, HB4.out⟩
        | false =>
          rw [hv] at HV
          have HR := Aside0.mk (show plainB p = ([], false) by rw [HE.out, HAl.out, hv]; rfl)
          clear hv
          go_wp2_with (fail)
          refine (HV.out _).mono ?_
          rintro e w4 ⟨rfl, hbb⟩
          have HB4 := Aside0.mk (HW.out.trans (hbb.mono HW.out.size))
          clear hbb
          go_wp2_with (fail)
          go_ret2
          exact ⟨by rw [HR.out]; rfl, HB4.out⟩
end Go.Proofs.YtecfmmalbehcnaaDoor.Q
