/- The reference's globText. -/
import Derived.Test.YtecfmmalbehcnaaDoorNRText1
namespace Go.Proofs.YtecfmmalbehcnaaDoor.Q
open Go.Shelf Go.RowKit Go.Proofs Go.Proofs.YtecfmmalbehcnaaDoorW.PrintWords Go.Proofs.YtecfmmalbehcnaaDoorW.PrintLast Go.Proofs.YtecfmmalbehcnaaDoorW.PrintMore Go.Proofs.YtecfmmalbehcnaaDoorV
set_option linter.unusedVariables false
set_option linter.unusedSimpArgs false

theorem may_kind {g : Gl} (h : GlobMay g) : g.kind = 1 ∨ g.kind = 2 ∨ g.kind = 3 ∨ g.kind = 4 ∨ g.kind = 5 := by
  rcases h with ⟨h1, -⟩ | ⟨h1, -⟩ | ⟨h1, -⟩ | ⟨h1, -⟩ <;> omega
def altsT (l : List (List UInt8)) (k : Nat) : List UInt8 := 123 :: joinR 44 (l.take k)
theorem altsT_zero {l : List (List UInt8)} {a : List UInt8} (h : l[0]? = some a) : altsT l 0 ++ a = altsT l 1 := by
  unfold altsT
  rw [take_snocR h]
  rfl
theorem altsT_succ {l : List (List UInt8)} {k : Nat} {a : List UInt8} (h : l[k]? = some a) (h0 : 0 < k) : altsT l k ++ [44] ++ a = altsT l (k + 1) := by
  unfold altsT
  rw [take_snocR h, join_snoc 44 _ _ (by
    intro e
    have h1 := (List.getElem?_eq_some_iff.1 h).1
    have := congrArg List.length e
    rw [List.length_take, List.length_nil] at this
    omega)]
  simp
theorem altsT_len (l : List (List UInt8)) (k : Nat) : (altsT l k).length ≤ bulkA l + 1 := by
  unfold altsT
  rw [List.length_cons]
  have := Nat.le_trans (join_bulk 44 (l.take k)) (bulkA_take' l k)
  omega
where
  bulkA_take' (l : List (List UInt8)) (k : Nat) : bulkA (l.take k) ≤ bulkA l := by
    unfold bulkA
    induction l generalizing k with
    | nil => simp
    | cons a t ih =>
      cases k with
      | zero => simp
      | succ k =>
        rw [List.take_succ_cons, List.map_cons, List.map_cons, List.sum_cons, List.sum_cons]
        have := ih k
        omega
set_option maxHeartbeats 6400000 in
theorem ref_globText {w : World} {g : Gl} {cs : List Value} (h : kGl.K w g cs) (hb : bulkG g ≤ 1048576) (hm : GlobMay g) :
    Calls Tryd.prog 49 #[.agg cs.toArray] w fun e w' => e = .returned (.string (strB (writtenR g))) ∧ Below w.heap.size w w' := by
  obtain ⟨A2, c2, rfl, l2, g2⟩ := kGl_open h
  clear h
  have hb1 : (strB g.text).size ≤ 1048576 := by rw [size_strB]; unfold bulkG at hb; omega
  have hb2 : bulkA g.alts ≤ 1048576 := by unfold bulkG at hb; omega
  have hal := bulkA_len g.alts
  obtain ⟨na, hna⟩ : ∃ na, na = g.alts.length := ⟨_, rfl⟩
  have hna2 : na ≤ 1048576 := by omega
  have HAT := Aside0.mk (fun k => show (strB (altsT g.alts k)).size ≤ 1048577 by rw [strB_size]; have := altsT_len g.alts k; omega)
  have HALB := Aside0.mk (fun a (ha : a ∈ g.alts) => show (strB a).size ≤ 1048576 by
    have := sum_mem (fun a : List UInt8 => a.length + 1) g.alts a ha
    unfold bulkA at hb2
    rw [size_strB]
    omega)
  have HG2 := Aside0.mk (fun W (hW : Below w.heap.size w W) => Kd.C_below g2 hW)
  have hla : (g.alts.map strB).length = na := by rw [List.length_map, hna]
  rw [hla] at l2 HG2 ⊢
  have HX := Aside0.mk (heap_alloc_new w (.cells #[.int .i64 g.kind, .string (strB g.text), .slice A2 na c2] 43 (0, 0)))
  have HB := Aside0.mk (below_alloc (Below.refl w.heap.size w) (.cells #[.int .i64 g.kind, .string (strB g.text), .slice A2 na c2] 43))
  have HCT := Aside0.mk (fun W => ref_classText (strB g.text) (by omega) W)
  rw [show (strB g.text).data.toList = g.text from rfl] at HCT
  have HNA := Aside0.mk hna
  have HK := may_kind hm
  obtain ⟨kd, hkd⟩ : ∃ kd, kd = g.kind := ⟨_, rfl⟩
  have HKD := Aside0.mk hkd
  obtain ⟨X, hXX⟩ : ∃ X, X = strB g.text := ⟨_, rfl⟩
  have HXX := Aside0.mk hXX
  rw [← hXX] at HX HB HCT hb1 ⊢
  rw [← hkd] at HX HB HK ⊢
  clear hna hkd hal hb g2 hla hXX hm hb2
  have r0 : (w.alloc (.cells #[.int .i64 kd, .string X, .slice A2 na c2] 43 (0, 0))).cell? ⟨w.heap.size, 0, none⟩ = some (.int .i64 kd) := blk_cell HX.out 0
  have r1 : (w.alloc (.cells #[.int .i64 kd, .string X, .slice A2 na c2] 43 (0, 0))).cell? ⟨w.heap.size, 1, none⟩ = some (.string X) := blk_cell HX.out 1
  have r2 : (w.alloc (.cells #[.int .i64 kd, .string X, .slice A2 na c2] 43 (0, 0))).cell? ⟨w.heap.size, 2, none⟩ = some (.slice A2 na c2) := blk_cell HX.out 2
  rcases HK with k1 | k2 | k3 | k4 | k5
  · have HE := Aside0.mk (show writtenR g = g.text by unfold writtenR; rw [← HKD.out, k1, if_neg (by decide), if_neg (by decide), if_neg (by decide), if_neg (by decide)])
    subst k1
    go_enter Tryd.func49, Tryd.ntmps49
    go_wp2_with (fail)
    go_ret
    exact ⟨by rw [HE.out, ← HXX.out]; rfl, HB.out⟩
  · have HE := Aside0.mk (show writtenR g = [42] by unfold writtenR; rw [← HKD.out, k2, if_pos rfl])
    subst k2
    go_enter Tryd.func49, Tryd.ntmps49
    go_wp2_with (fail)
    go_ret
    exact ⟨by rw [HE.out]; rfl, HB.out⟩
  · have HE := Aside0.mk (show writtenR g = [63] by unfold writtenR; rw [← HKD.out, k3, if_neg (by decide), if_pos rfl])
    subst k3
    go_enter Tryd.func49, Tryd.ntmps49
    go_wp2_with (fail)
    go_ret
    exact ⟨by rw [HE.out]; rfl, HB.out⟩
  · have HE := Aside0.mk (show writtenR g = 91 :: (rangedR g.text ++ [93]) by unfold writtenR; rw [← HKD.out, k4, if_neg (by decide), if_neg (by decide), if_pos rfl])
    subst k4
    go_enter Tryd.func49, Tryd.ntmps49
    go_wp2_with (fail)
    refine (HCT.out _).mono ?_
    rintro e w2 ⟨rfl, hbb⟩
    have HB2 := Aside0.mk (HB.out.trans (hbb.mono HB.out.size))
    clear hbb
    go_wp2_with (fail)
    go_ret
    exact ⟨by rw [HE.out]; rfl, HB2.out⟩
  · have HE := Aside0.mk (show writtenR g = altsT g.alts g.alts.length ++ [125] by unfold writtenR altsT; rw [← HKD.out, k5, if_neg (by decide), if_neg (by decide), if_neg (by decide), if_pos rfl, List.take_length]; rfl)
    subst k5
    go_enter Tryd.func49, Tryd.ntmps49
    go_upto_region 12 with (fail)
    have HX9 := Aside0.mk HX.out
    clear r0 r1 r2 HX
    go_loopg [3, 4] na (fun kq v3 v4 w' => ∃ k : Nat, v3 = .string (strB (altsT g.alts k)) ∧ v4 = .int .i64 (k : Int) ∧ k + kq = na ∧ Aside0 (Below w.heap.size w w') ∧ Aside0 (w'.heap[w.heap.size]? = some (.cells #[.int .i64 5, .string X, .slice A2 na c2] 43 (0, 0))))
    case atStart => exact ⟨0, rfl, rfl, by omega, HB, HX9⟩
    case round =>
      obtain ⟨k, rfl, rfl, hkq, HW, HXr⟩ := hrel
      clear HB HX9
      have r2 : wr.cell? ⟨w.heap.size, 2, none⟩ = some (.slice A2 na c2) := blk_cell HXr.out 2
      have ht1 := HAT.out k
      cases gk with
      | succ k1 =>
        have d1 : decide ((k : Int) < (na : Int)) = true := decide_eq_true (by omega)
        have d1n : decide (k < na) = true := decide_eq_true (by omega)
        have E9 := Aside0.mk (show k + 1 + k1 = na by omega)
        have hkn : k < na := by omega
        obtain ⟨a, ha⟩ : ∃ a, g.alts[k]? = some a := ⟨_, List.getElem?_eq_getElem (by rw [← HNA.out]; omega)⟩
        obtain ⟨ad, rfl, q0⟩ := at_str (HG2.out _ HW.out) (k := k) (x := strB a) (by rw [List.getElem?_map, ha]; rfl)
        have hsa := HALB.out a (List.mem_of_getElem? ha)
        have HJs := Aside0.mk (show 0 < k → strB (altsT g.alts k) ++ ⟨#[44]⟩ ++ strB a = strB (altsT g.alts (k + 1)) from fun q => by
          rw [show (⟨#[44]⟩ : ByteArray) = strB [44] from rfl, strB_append, strB_append, altsT_succ ha q])
        have HJz := Aside0.mk (show k = 0 → strB (altsT g.alts k) ++ strB a = strB (altsT g.alts (k + 1)) from fun q => by
          subst q
          rw [strB_append, altsT_zero ha])
        obtain ⟨S, hS⟩ : ∃ S, S = strB a := ⟨_, rfl⟩
        rw [← hS] at q0 hsa HJs HJz
        obtain ⟨Y, hY⟩ : ∃ Y, Y = strB (altsT g.alts k) := ⟨_, rfl⟩
        rw [← hY] at ht1 HJs HJz ⊢
        clear ha hS hkq hY
        by_cases k0 : 0 < k
        · have e0 : decide ((0 : Int) < (k : Int)) = true := decide_eq_true (by omega)
          have e0n : decide (0 < k) = true := decide_eq_true k0
          have HJp := Aside0.mk (HJs.out k0)
          clear k0
          go_wp2_with (fail)
          go_roundg k1
          case rel => exact ⟨k + 1, by rw [← HJp.out], by go_num, E9.out, HW, HXr⟩
          case measure => omega
        · have e0 : decide ((0 : Int) < (k : Int)) = false := decide_eq_false (by omega)
          have e0n : decide (0 < k) = false := decide_eq_false k0
          have HJp := Aside0.mk (HJz.out (by omega))
          clear k0
          go_wp2_with (fail)
          go_roundg k1
          case rel => exact ⟨k + 1, by rw [← HJp.out], by go_num, E9.out, HW, HXr⟩
          case measure => omega
      | zero =>
        have hk : k = na := by omega
        have d1 : decide ((k : Int) < (na : Int)) = false := decide_eq_false (by omega)
        have d1n : decide (k < na) = false := decide_eq_false (by omega)
        have HF := Aside0.mk (show strB (altsT g.alts k) ++ ⟨#[125]⟩ = strB (writtenR g) by
          rw [HE.out, hk, HNA.out, show (⟨#[125]⟩ : ByteArray) = strB [125] from rfl, strB_append])
        obtain ⟨Y, hY⟩ : ∃ Y, Y = strB (altsT g.alts k) := ⟨_, rfl⟩
        rw [← hY] at ht1 HF ⊢
        clear hk hkq hY
        go_wp2_with (fail)
        go_ret
        exact ⟨by rw [← HF.out]; rfl, HW.out⟩
end Go.Proofs.YtecfmmalbehcnaaDoor.Q
