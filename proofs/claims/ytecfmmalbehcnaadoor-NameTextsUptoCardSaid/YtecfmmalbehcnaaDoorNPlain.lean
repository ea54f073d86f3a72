/- name.Text, name.Plain, name.Node. -/
import Derived.Test.YtecfmmalbehcnaaDoorME
namespace Go.Proofs.YtecfmmalbehcnaaDoor.Q
open Go.Shelf Go.RowKit Go.Proofs Go.Proofs.YtecfmmalbehcnaaDoorW.PrintWords Go.Proofs.YtecfmmalbehcnaaDoorW.PrintLast Go.Proofs.YtecfmmalbehcnaaDoorW.PrintMore Go.Proofs.YtecfmmalbehcnaaDoorV
set_option linter.unusedVariables false
set_option linter.unusedSimpArgs false

def textP (p : List (List Gl)) : List UInt8 × Int := if mayB p = true then (if 400 < (wholeR p).length then ([], 2) else (wholeR p, 0)) else ([], 31)
theorem size_strB (l : List UInt8) : (strB l).size = l.length := by show l.toArray.size = l.length; simp
theorem strB_nil : strB [] = ⟨#[]⟩ := rfl
set_option maxHeartbeats 1600000 in
theorem name_Text {w : World} {A : Option Addr} {c : Nat} {p : List (List Gl)} (h : kNode.C w A p.length p) (hc : p.length ≤ c) (hb : bulkP p ≤ 1048576) :
    Calls Tryd.prog 30 #[.agg #[.slice A p.length c]] w fun e w' => e = .returned (.tuple #[.string (strB (textP p).1), .int .i64 (textP p).2]) ∧ Below w.heap.size w w' := by
  have hwl := whole_length p
  have HB := Aside0.mk (below_alloc (Below.refl w.heap.size w) (.cells #[.slice A p.length c] 24))
  have HBX := Aside0.mk (heap_alloc_new w (.cells #[.slice A p.length c] 24 (0, 0)))
  have HMay := Aside0.mk (fun W (hW : Below w.heap.size w W) => name_may (c := c) (Kd.C_below h hW) hc hb)
  have HWh := Aside0.mk (fun W (hW : Below w.heap.size w W) => name_whole (c := c) (Kd.C_below h hW) hc hb)
  clear h
  have hz : (strB (wholeR p)).size ≤ 2097152 := by rw [size_strB]; omega
  have HZ := Aside0.mk (show (strB (wholeR p)).size = (wholeR p).length by rw [size_strB])
  clear hwl hb
  have HM1 := Aside0.mk (HMay.out _ HB.out)
  have x0 : (w.alloc (.cells #[.slice A p.length c] 24 (0, 0))).cell? ⟨w.heap.size, 0, none⟩ = some (.slice A p.length c) := blk_cell HBX.out 0
  obtain ⟨ws, hws⟩ : ∃ ws, ws = strB (wholeR p) := ⟨_, rfl⟩
  rw [← hws] at hz HZ HWh
  cases hm : mayB p with
  | false =>
    rw [hm] at HM1
    have HE := Aside0.mk (show textP p = ([], 31) by unfold textP; rw [hm]; rfl)
    clear hm
    go_enter Tryd.func30, Tryd.ntmps30
    go_wp2_with (go_at_call 38; (with_reducible refine (HM1.out).mono ?_); rintro e w2 ⟨rfl, hbb⟩; have HB2 := Aside0.mk (HB.out.trans (hbb.mono HB.out.size)); clear hbb)
    go_ret2
    exact ⟨by rw [HE.out]; rfl, HB2.out⟩
  | true =>
    rw [hm] at HM1
    have HE := Aside0.mk (show textP p = if 400 < (wholeR p).length then ([], 2) else (wholeR p, 0) by unfold textP; rw [hm]; rfl)
    clear hm
    have HWS := Aside0.mk hws
    clear hws
    by_cases h4 : 400 < ws.size
    · have d4 : decide ((400 : Int) < (ws.size : Int)) = true := decide_eq_true (by omega)
      have HE2 := Aside0.mk (show textP p = ([], 2) by rw [HE.out, if_pos (by have := HZ.out; omega)])
      clear h4
      go_enter Tryd.func30, Tryd.ntmps30
      go_upto_region 3 with (go_at_call 38; (with_reducible refine (HM1.out).mono ?_); rintro e w2 ⟨rfl, hbb⟩; have HB2 := Aside0.mk (HB.out.trans (hbb.mono HB.out.size)); have HX2 := Aside0.mk (blk_below HBX.out hbb); clear hbb)
      clear x0
      have x2 : w2.cell? ⟨w.heap.size, 0, none⟩ = some (.slice A p.length c) := blk_cell HX2.out 0
      go_wp2_with (go_at_call 48; (with_reducible refine (HWh.out _ HB2.out).mono ?_); rintro e w3 ⟨rfl, hbb⟩; have HB3 := Aside0.mk (HB2.out.trans (hbb.mono HB2.out.size)); clear hbb)
      go_ret2
      exact ⟨by rw [HE2.out]; rfl, HB3.out⟩
    · have d4 : decide ((400 : Int) < (ws.size : Int)) = false := decide_eq_false (by omega)
      have HE2 := Aside0.mk (show textP p = (wholeR p, 0) by rw [HE.out, if_neg (by have := HZ.out; omega)])
      clear h4
      go_enter Tryd.func30, Tryd.ntmps30
      go_upto_region 3 with (go_at_call 38; (with_reducible refine (HM1.out).mono ?_); rintro e w2 ⟨rfl, hbb⟩; have HB2 := Aside0.mk (HB.out.trans (hbb.mono HB.out.size)); have HX2 := Aside0.mk (blk_below HBX.out hbb); clear hbb)
      clear x0
      have x2 : w2.cell? ⟨w.heap.size, 0, none⟩ = some (.slice A p.length c) := blk_cell HX2.out 0
      go_wp2_with (go_at_call 48; (with_reducible refine (HWh.out _ HB2.out).mono ?_); rintro e w3 ⟨rfl, hbb⟩; have HB3 := Aside0.mk (HB2.out.trans (hbb.mono HB2.out.size)); clear hbb)
      go_ret2
      exact ⟨by rw [HE2.out, HWS.out]; rfl, HB3.out⟩

/-- One piece, and it is text. -/
def oneT (n : List Gl) : Bool := match n with
  | [g] => decide (g.kind = 1)
  | _ => false
def plainB (p : List (List Gl)) : List UInt8 × Bool := if (mayB p && (p.all oneT && validP (wholeR p))) = true then (wholeR p, true) else ([], false)
theorem all_take {α : Type} {f : α → Bool} {l : List α} {k : Nat} {x : α} (hx : l[k]? = some x) : (l.take (k + 1)).all f = ((l.take k).all f && f x) := by
  rw [List.take_add_one, hx]
  simp
set_option maxHeartbeats 3200000 in
theorem name_Plain {w : World} {A : Option Addr} {c : Nat} {p : List (List Gl)} (h : kNode.C w A p.length p) (hc : p.length ≤ c) (hb : bulkP p ≤ 1048576) :
    Calls Tryd.prog 32 #[.agg #[.slice A p.length c]] w fun e w' => e = .returned (.tuple #[.string (strB (plainB p).1), .bool (plainB p).2]) ∧ Below w.heap.size w w' := by
  have hwl := whole_length p
  have hpl := bulkP_len p
  have H := Aside0.mk h
  have HB := Aside0.mk (below_alloc (Below.refl w.heap.size w) (.cells #[.slice A p.length c] 24))
  have HBX := Aside0.mk (heap_alloc_new w (.cells #[.slice A p.length c] 24 (0, 0)))
  have HMay := Aside0.mk (fun W (hW : Below w.heap.size w W) => name_may (c := c) (Kd.C_below h hW) hc hb)
  have HWh := Aside0.mk (fun W (hW : Below w.heap.size w W) => name_whole (c := c) (Kd.C_below h hW) hc hb)
  have HBK := Aside0.mk hb
  have hpl2 : p.length ≤ 1048576 := by omega
  clear h
  have hz : (strB (wholeR p)).size ≤ 2097152 := by rw [size_strB]; omega
  have hwv : validP (strB (wholeR p)).data.toList = validP (wholeR p) := rfl
  have HM1 := Aside0.mk (HMay.out _ HB.out)
  have x0 : (w.alloc (.cells #[.slice A p.length c] 24 (0, 0))).cell? ⟨w.heap.size, 0, none⟩ = some (.slice A p.length c) := blk_cell HBX.out 0
  obtain ⟨ws, hws⟩ : ∃ ws, ws = strB (wholeR p) := ⟨_, rfl⟩
  rw [← hws] at hz HWh hwv
  have HV := Aside0.mk (fun W => valid_calls ws (by omega) W)
  rw [hwv] at HV
  clear hwl hb hwv
  cases hm : mayB p with
  | false =>
    rw [hm] at HM1
    have HE := Aside0.mk (show plainB p = ([], false) by unfold plainB; rw [hm]; rfl)
    clear hm
    go_enter Tryd.func32, Tryd.ntmps32
    go_wp2_with (go_at_call 38; (with_reducible refine (HM1.out).mono ?_); rintro e w2 ⟨rfl, hbb⟩; have HB2 := Aside0.mk (HB.out.trans (hbb.mono HB.out.size)); clear hbb)
    go_ret2
    exact ⟨by rw [HE.out]; rfl, HB2.out⟩
  | true =>
    rw [hm] at HM1
    have HE := Aside0.mk (show plainB p = if (p.all oneT && validP (wholeR p)) = true then (wholeR p, true) else ([], false) by unfold plainB; rw [hm]; rfl)
    have HWS := Aside0.mk hws
    clear hm hws
    go_enter Tryd.func32, Tryd.ntmps32
    go_upto_region 3 with (go_at_call 38; (with_reducible refine (HM1.out).mono ?_); rintro e w2 ⟨rfl, hbb⟩; have HB2 := Aside0.mk (HB.out.trans (hbb.mono HB.out.size)); have HX2 := Aside0.mk (blk_below HBX.out hbb); clear hbb)
    clear x0
    have x2 : w2.cell? ⟨w.heap.size, 0, none⟩ = some (.slice A p.length c) := blk_cell HX2.out 0
    go_wp2
    go_loopg [13] p.length (fun kq v13 w' => ∃ k : Nat, v13 = .int .i64 (k : Int) ∧ k + kq = p.length ∧ Aside0 ((p.take k).all oneT = true) ∧ Aside0 (Below w.heap.size w w') ∧ Aside0 (w'.heap[w.heap.size]? = some (.cells #[.slice A p.length c] 24 (0, 0))))
    case atStart => exact ⟨0, rfl, by omega, ⟨rfl⟩, HB2, HX2⟩
    case round =>
      obtain ⟨k, rfl, hkq, HAll, HW, HX⟩ := hrel
      clear HB HBX HB2 HX2
      cases gk with
      | succ k1 =>
        have d1 : decide ((k : Int) < (p.length : Int)) = true := decide_eq_true (by omega)
        obtain ⟨n, hn⟩ : ∃ n, p[k]? = some n := ⟨_, List.getElem?_eq_getElem (by omega)⟩
        obtain ⟨ad, An, cn, rfl, q0, hcn, hC⟩ := at_node (Kd.C_below H.out HW.out) hn
        have hbn := bulkP_mem (List.mem_of_getElem? hn)
        have hnl := bulkN_len n
        have HBad := Aside0.mk (fun (q : oneT n = false) => show plainB p = ([], false) by
          rw [HE.out, if_neg]
          rw [List.all_eq_false.2 ⟨n, List.mem_of_getElem? hn, by rw [q]; decide⟩, Bool.false_and]
          decide)
        have HGood := Aside0.mk (fun (q : oneT n = true) => show (p.take (k + 1)).all oneT = true by rw [all_take hn, HAll.out, q]; rfl)
        have hk2 : k < p.length := by omega
        have hnl2 : n.length ≤ 1048576 := by have := HBK.out; omega
        have HC := Aside0.mk hC
        clear hn hC hbn hnl
        match n with
        | [] =>
          go_wp2
          go_ret2
          exact ⟨by rw [HBad.out rfl]; rfl, HW.out⟩
        | g :: g2 :: r =>
          have hn1 : decide (((g :: g2 :: r).length : Int) = 1) = false := decide_eq_false (by simp only [List.length_cons]; omega)
          obtain ⟨nl, hnl⟩ : ∃ nl, nl = (g :: g2 :: r).length := ⟨_, rfl⟩
          rw [← hnl] at q0 hn1 hcn hnl2
          have hb1 : ((nl : Int) != 1) = true := by rw [bne_iff_ne]; rw [hnl, List.length_cons, List.length_cons]; omega
          have hb0 : ((nl : Int) == 1) = false := by rw [beq_eq_false_iff_ne]; rw [hnl, List.length_cons, List.length_cons]; omega
          clear hnl
          go_wp2
          go_ret2
          exact ⟨by rw [HBad.out rfl]; rfl, HW.out⟩
        | [g] =>
          obtain ⟨ad2, A2, c2, rfl, r0, r1, r2, hK⟩ := at_glob (k := 0) HC.out rfl
          obtain ⟨kd, hkd⟩ : ∃ kd, kd = g.kind := ⟨_, rfl⟩
          rw [← hkd] at r0
          have r0 : wr.cell? ad2 = some (.int .i64 kd) := by rwa [show ad2.add (0 * 3) = ad2 by cases ad2; simp [Addr.add]] at r0
          clear r1 r2 hK
          by_cases h1 : kd = 1
          · have HG := Aside0.mk (HGood.out (by show decide (g.kind = 1) = true; rw [← hkd, h1]; rfl))
            subst h1
            clear hkd
            have E9 := Aside0.mk (show k + 1 + k1 = p.length by omega)
            go_wp2
            go_roundg k1
            case rel => exact ⟨k + 1, by go_num, E9.out, HG, HW, HX⟩
            case measure => omega
          · have HG := Aside0.mk (HBad.out (by show decide (g.kind = 1) = false; rw [← hkd]; exact decide_eq_false h1))
            have b1 : (kd != 1) = true := by rw [bne_iff_ne]; exact h1
            have b0 : (kd == 1) = false := by rw [beq_eq_false_iff_ne]; exact h1
            have b2 : (kd = 1) = False := eq_false h1
            clear hkd h1
            go_wp2
            go_ret2
            exact ⟨by rw [HG.out]; rfl, HW.out⟩
      | zero =>
        obtain rfl : k = p.length := by omega
        have d1 : decide ((p.length : Int) < (p.length : Int)) = false := decide_eq_false (by omega)
        have x3 : wr.cell? ⟨w.heap.size, 0, none⟩ = some (.slice A p.length c) := blk_cell HX.out 0
        have HAl := Aside0.mk (show p.all oneT = true by have := HAll.out; rwa [List.take_length] at this)
        clear hpl
        cases hv : validP (wholeR p) with
        | true =>
          rw [hv] at HV
          have HR := Aside0.mk (show plainB p = (wholeR p, true) by rw [HE.out, HAl.out, hv]; rfl)
          clear hv
          go_wp2_with (first
            | (go_at_call 48; (with_reducible refine (HWh.out _ HW.out).mono ?_); rintro e w3 ⟨rfl, hbb⟩; have HB3 := Aside0.mk (HW.out.trans (hbb.mono HW.out.size)); clear hbb)
            | (go_at_call 22; (with_reducible refine (HV.out _).mono ?_); rintro e w4 ⟨rfl, hbb⟩; have HB4 := Aside0.mk (HB3.out.trans (hbb.mono HB3.out.size)); clear hbb))
          go_ret2
          exact ⟨by rw [HR.out, HWS.out]; rfl, HB4.out⟩
        | false =>
          rw [hv] at HV
          have HR := Aside0.mk (show plainB p = ([], false) by rw [HE.out, HAl.out, hv]; rfl)
          clear hv
          go_wp2_with (first
            | (go_at_call 48; (with_reducible refine (HWh.out _ HW.out).mono ?_); rintro e w3 ⟨rfl, hbb⟩; have HB3 := Aside0.mk (HW.out.trans (hbb.mono HW.out.size)); clear hbb)
            | (go_at_call 22; (with_reducible refine (HV.out _).mono ?_); rintro e w4 ⟨rfl, hbb⟩; have HB4 := Aside0.mk (HB3.out.trans (hbb.mono HB3.out.size)); clear hbb))
          go_ret2
          exact ⟨by rw [HR.out]; rfl, HB4.out⟩
/-- The i-th node, from the end if i is below 0. -/
def nodeB (l : List ByteArray) (i : Int) : ByteArray × Bool :=
  if i < 0 then (if -(l.length : Int) ≤ i then (l.getD (i + l.length).toNat ⟨#[]⟩, true) else (⟨#[]⟩, false))
  else if i < l.length then (l.getD i.toNat ⟨#[]⟩, true) else (⟨#[]⟩, false)
theorem getD_some {l : List ByteArray} {k : Nat} (h : k < l.length) : l[k]? = some (l.getD k ⟨#[]⟩) := by
  rw [List.getD_eq_getElem?_getD, List.getElem?_eq_getElem h]; rfl
theorem nodesB_len (s : ByteArray) : (nodesB s).length ≤ 16 := by
  unfold nodesB
  by_cases h : validP s.data.toList = true
  · rw [if_pos h]
    unfold splitS
    rw [List.length_map]
    exact (validP_iff.1 h).2.1
  · rw [if_neg h]; exact Nat.zero_le _
set_option maxHeartbeats 3200000 in
theorem name_Node (s : ByteArray) (i : Int) (hs : s.size ≤ 1073741824) (hi : (Lit.int .i64 i).wf = true) (w : World) :
    Calls Tryd.prog 27 #[.string s, .int .i64 i] w fun e w' => e = .returned (.tuple #[.string (nodeB (nodesB s) i).1, .bool (nodeB (nodesB s) i).2]) ∧ Below w.heap.size w w' := by
  have HNo := Aside0.mk (fun W => name_Nodes s hs W)
  have hN := nodesB_len s
  obtain ⟨N, hN0⟩ : ∃ N, N = nodesB s := ⟨_, rfl⟩
  rw [← hN0] at HNo hN ⊢
  clear hN0
  obtain ⟨n, hn⟩ : ∃ n, n = N.length := ⟨_, rfl⟩
  rw [← hn] at hN
  have HNL := Aside0.mk hn
  by_cases h0 : i < 0
  · have d0 : decide (i < 0) = true := decide_eq_true h0
    by_cases h1 : -(n : Int) ≤ i
    · have d1 : decide (-(n : Int) ≤ i) = true := decide_eq_true h1
      obtain ⟨k, hk⟩ : ∃ k : Nat, i + (n : Int) = (k : Int) := ⟨(i + n).toNat, by omega⟩
      have hkn : k < n := by omega
      have d2 : decide ((k : Int) < 0) = false := decide_eq_false (by omega)
      have d3 : decide ((n : Int) ≤ (k : Int)) = false := decide_eq_false (by omega)
      have HE := Aside0.mk (show nodeB N i = (N.getD k ⟨#[]⟩, true) by
        unfold nodeB
        rw [if_pos h0, ← hn, if_pos h1, hk]
        rfl)
      have HG := Aside0.mk (getD_some (l := N) (k := k) (by omega))
      obtain ⟨x, hx⟩ : ∃ x, x = N.getD k ⟨#[]⟩ := ⟨_, rfl⟩
      rw [← hx] at HE HG
      clear hx hn
      go_enter Tryd.func27, Tryd.ntmps27
      go_upto_region 2 with (go_at_call 25; (with_reducible refine (HNo.out _).mono ?_); rintro e w1 ⟨v, rfl, ho, hbb⟩; have HB1 := Aside0.mk hbb; have HO1 := Aside0.mk ho; obtain ⟨A1, c1, ev⟩ := Kd.R_slice ho; subst ev; have HRd := Aside0.mk (Kd.R_reads' HO1.out); clear ho hbb)
      obtain ⟨bd, rfl, r0⟩ := at_str HRd.out.2.2 HG.out
      rw [← HNL.out]
      go_wp2
      go_ret2
      exact ⟨by rw [HE.out]; rfl, HB1.out⟩
    · have d1 : decide (-(n : Int) ≤ i) = false := decide_eq_false h1
      have HE := Aside0.mk (show nodeB N i = (⟨#[]⟩, false) by
        unfold nodeB
        rw [if_pos h0, ← hn, if_neg h1])
      clear hn
      go_enter Tryd.func27, Tryd.ntmps27
      go_upto_region 2 with (go_at_call 25; (with_reducible refine (HNo.out _).mono ?_); rintro e w1 ⟨v, rfl, ho, hbb⟩; have HB1 := Aside0.mk hbb; obtain ⟨A1, c1, ev⟩ := Kd.R_slice ho; subst ev; clear ho hbb)
      rw [← HNL.out]
      go_wp2
      go_ret2
      exact ⟨by rw [HE.out]; rfl, HB1.out⟩
  · obtain ⟨k, rfl⟩ : ∃ k : Nat, i = (k : Int) := ⟨i.toNat, by omega⟩
    have d0 : decide ((k : Int) < 0) = false := decide_eq_false h0
    by_cases h1 : k < n
    · have d3 : decide ((n : Int) ≤ (k : Int)) = false := decide_eq_false (by omega)
      have HE := Aside0.mk (show nodeB N (k : Int) = (N.getD k ⟨#[]⟩, true) by
        unfold nodeB
        rw [if_neg h0, ← hn, if_pos (by omega)]
        rfl)
      have HG := Aside0.mk (getD_some (l := N) (k := k) (by omega))
      obtain ⟨x, hx⟩ : ∃ x, x = N.getD k ⟨#[]⟩ := ⟨_, rfl⟩
      rw [← hx] at HE HG
      clear hx hn
      go_enter Tryd.func27, Tryd.ntmps27
      go_upto_region 2 with (go_at_call 25; (with_reducible refine (HNo.out _).mono ?_); rintro e w1 ⟨v, rfl, ho, hbb⟩; have HB1 := Aside0.mk hbb; have HO1 := Aside0.mk ho; obtain ⟨A1, c1, ev⟩ := Kd.R_slice ho; subst ev; have HRd := Aside0.mk (Kd.R_reads' HO1.out); clear ho hbb)
      obtain ⟨bd, rfl, r0⟩ := at_str HRd.out.2.2 HG.out
      rw [← HNL.out]
      go_wp2
      go_ret2
      exact ⟨by rw [HE.out]; rfl, HB1.out⟩
    · have d3 : decide ((n : Int) ≤ (k : Int)) = true := decide_eq_true (by omega)
      have HE := Aside0.mk (show nodeB N (k : Int) = (⟨#[]⟩, false) by
        unfold nodeB
        rw [if_neg h0, ← hn, if_neg (by omega)])
      clear hn
      go_enter Tryd.func27, Tryd.ntmps27
      go_upto_region 2 with (go_at_call 25; (with_reducible refine (HNo.out _).mono ?_); rintro e w1 ⟨v, rfl, ho, hbb⟩; have HB1 := Aside0.mk hbb; obtain ⟨A1, c1, ev⟩ := Kd.R_slice ho; subst ev; clear ho hbb)
      rw [← HNL.out]
      go_wp2
      go_ret2
      exact ⟨by rw [HE.out]; rfl, HB1.out⟩
end Go.Proofs.YtecfmmalbehcnaaDoor.Q
