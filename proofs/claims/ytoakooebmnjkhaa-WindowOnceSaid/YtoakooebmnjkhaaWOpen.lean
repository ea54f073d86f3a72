import Derived.Test.YtoakooebmnjkhaaWPut
import Derived.Test.YtoakooebmnjkhaaWSort
import Derived.Test.YtoakooebmnjkhaaVMake
namespace Go.Proofs.Ytoakooebmnjkhaa.Q
open Go.RowKit Go.Proofs.YtoakooebmnjkhaaW.PrintWords Go.Proofs.YtoakooebmnjkhaaW.PrintLast Go.Proofs.YtoakooebmnjkhaaW.PrintMore Go.Proofs.YtoakooebmnjkhaaV
set_option linter.unusedVariables false
set_option linter.unusedSimpArgs false

theorem info64 : (Try.prog.info? 2).map (fun i => (i.zero, i.size, i.bytes)) = some (some (.int .i64 0), 1, 8) := by kernel_rfl
theorem ranges_iter {P : Program} {k : TypeId} {R : Value → Option (DataW Unit × List MemPlace)} {w : World} {b r n : Nat} {D : DataW Unit} {left : Lit → Bool} {cnt : Nat} (h : w.ranges P k R b r n D left cnt) : (∃ x y z u, w.heap[r]? = some (.mapIter x y z u)) ∧ ∃ x y, w.heap[b]? = some (.map x y) := by
  obtain ⟨es, clock, since, seen, c0, hb, _, _, _, hr, _⟩ := h
  exact ⟨⟨_, _, _, _, hr⟩, _, _, hb⟩
/-- A row of cells is neither the map nor the loop over it. -/
theorem row_apart {P : Program} {k : TypeId} {R : Value → Option (DataW Unit × List MemPlace)} {w : World} {b r n : Nat} {D : DataW Unit} {left : Lit → Bool} {cnt : Nat} (h : w.ranges P k R b r n D left cnt) {base : Nat} {ok : Nat → Prop} {v : Value} {l : List Int} (hR : Kd.R (Kd.int .i64) 2 w base ok v l) : some b ≠ v.ownBlock ∧ some r ≠ v.ownBlock := by
  obtain ⟨⟨x, y, z, u, hr⟩, x2, y2, hb⟩ := ranges_iter h
  constructor
  · intro e
    obtain ⟨cs, fr, h1⟩ := R_typed hR _ e.symm
    rw [hb] at h1
    cases h1
  · intro e
    obtain ⟨cs, fr, h1⟩ := R_typed hR _ e.symm
    rw [hr] at h1
    cases h1
theorem inv_key (key : Value) (kl : Lit) (h : keyOf Try.prog 2 key = some kl) : ∃ x : Int, key = Value.int .i64 x := by
  obtain ⟨x, rfl, -⟩ := Maps.keyOf_int_inv Try.underlying2 h
  exact ⟨x, rfl⟩
theorem inv_unit (v : Value) (y : DataW Unit × List MemPlace) (h : unitElem v = some y) : ∃ c : Unit, v = Value.agg #[] := ⟨(), (unitElem_inv h).1⟩
theorem key_is {x : Int} {kl : Lit} (h : keyOf Try.prog 2 (.int .i64 x) = some kl) : kl = kI x ∧ in64 x := by
  obtain ⟨y, e, rfl, hw⟩ := Maps.keyOf_int_inv Try.underlying2 h
  injection e with _ e
  subst e
  exact ⟨rfl, in64_wf hw⟩
theorem grown_k {w w' : World} {row : Option Nat} (h : w.grownBy w' row) : Keep w w' (fun k => some k = row) := ⟨h.os, h.tape, h.output, h.size, fun k hk hS => h.block k hk hS⟩

set_option maxHeartbeats 6400000 in
set_option maxRecDepth 4000 in
theorem book_Open {w : World} {gb gm : Nat} {b : BkS} (h : BkAt w gb gm b) :
    Calls Try.prog 27 #[.pointer (some ⟨gb, 0, none⟩)] w fun e w' => ∃ A c, e = .returned (.slice A b.L.length c) ∧ Kd.R (Kd.int .i64) 2 w' w.heap.size (fun _ => True) (.slice A b.L.length c) b.L ∧ Below w.heap.size w w' := by
  have HM := Aside0.mk (book_made h)
  have HK := Aside0.mk h
  have c1 := blk_cell h.blk 1
  have hlen := len64 h.map 3
  have hll := h.ok.len
  have HRI := Aside0.mk h.ok.rise
  obtain ⟨D, hown, hS⟩ := h.map
  have HI0 := Aside0.mk (OpenI.start hS)
  have HSZ := Aside0.mk hS.size
  have HOWN := Aside0.mk hown
  clear h hown hS
  go_enter Try.func27, Try.ntmps27
  go_wp2_with (first
    | (go_at_call 38; (with_reducible refine (HM.out).mono ?_); rintro e w' ⟨rfl, rfl⟩)
    | ((with_reducible refine gate_dst (N := 13) rfl ?_); refine R_make0 (Kd.int .i64) (w0 := w) w.heap.size 2 rfl (N := 13) rfl 30 _ _ rfl (b.L.length : Int) rfl rfl Try.underlying30 (.int .i64 0) 8 info64 rfl (by decide) (by omega) (ok := fun _ => True) trivial (by omega) (by rw [Int.toNat_natCast]; omega) (Below.refl _ _) (Nat.le_refl _) ?_; intro v1 w1 hr hb hg hat; obtain ⟨A1, c2, e1⟩ := Kd.R_slice hr; subst e1; have HR := Aside0.mk hr; have HB1 := Aside0.mk hb; have HOWN1 := Aside0.mk (HOWN.out.kept hg (by simp)); have k1 := blk_cell ((hg.block gb (blk_lt HK.out.blk) (by simp)).trans HK.out.blk) 1; clear hr hb hg hat)
    | (at_range; refine wpList_range_own _ rfl _ 37 rfl 2 60 k64 Try.underlying37 unitElem gm b.L.length D rfl HOWN1.out ?_; intro w2 hrg hg2 hs2; rw [HSZ.out] at hrg; have HRG := Aside0.mk hrg; have HR2 := Aside0.mk (R_keep HR.out (grown_k hg2) (fun k _ q => by cases q)); have HB2 := Aside0.mk (HB1.out.trans ((grown_k hg2).below HB1.out.size (fun k q => by cases q))); clear hrg hg2 hs2))
  go_frame
  obtain ⟨r, hr⟩ : ∃ r, r = w1.heap.size := ⟨_, rfl⟩
  have hrl : w.heap.size ≤ r := by rw [hr]; exact HB1.out.size
  rw [← hr] at HRG ⊢
  clear hr c1 k1 hlen HOWN HOWN1 HR HB1
  go_loopg [3] b.L.length (fun kq v3 w' => ∃ (l : List Int) (A : Option Addr) (c : Nat) (left : Lit → Bool), v3 = .slice A l.length c ∧ l.length + kq ≤ b.L.length ∧ Aside0 (w'.ranges Try.prog 2 unitElem gm r b.L.length D left kq) ∧ Aside0 (OpenI b.L left l) ∧ Aside0 (Kd.R (Kd.int .i64) 2 w' w.heap.size (fun _ => True) (.slice A l.length c) l) ∧ Aside0 (Below w.heap.size w w'))
  case atStart => exact ⟨[], A1, c2, _, rfl, by simp, HRG, HI0, HR2, HB2⟩
  case round =>
    clear HRG HR2 HB2 HI0
    obtain ⟨l, A, c, left, rfl, hle, HRG, HI, HR, HB⟩ := hrel
    go_wp2_with (first
      | (at_next; refine wpList_next_ranges (α := Int) (β := Unit) _ rfl _ rfl 2 k64 unitElem (Value.int .i64) (fun _ => Value.agg #[]) inv_key inv_unit gm r b.L.length D left gk rfl HRG.out ?_ ?_))
    · intro hc0 hl0
      have hd := HI.out.done HRI.out hl0
      have HL := Aside0.mk (show l.length = b.L.length by rw [← hd, List.length_mergeSort])
      have HD := Aside0.mk hd
      have hl6 : l.length ≤ 1000000 := by omega
      clear hl0 hd
      go_wp2_with (first
        | (go_at_call 39; (with_reducible refine (win_sort HR.out hl6).mono ?_); rintro e w3 ⟨rfl, hr3, hk3⟩; have HR3 := Aside0.mk hr3; have HB3 := Aside0.mk (HB.out.trans (hk3.below HB.out.size (fun k q => own_base (Kd.own_of_R HR.out) k q))); clear hr3 hk3))
      go_ret
      have h3 := HR3.out
      rw [HD.out] at h3
      rw [← HL.out]
      exact ⟨A, c, rfl, by rw [HL.out] at h3 ⊢; exact h3, HB3.out⟩
    · intro x cu kl y w3 cnt3 hkx hlx hvx hat hrg3 hlt3 hg3 hs3 hen
      obtain ⟨rfl, hx64⟩ := key_is hkx
      have HI3 := Aside0.mk (HI.out.step hlx)
      have HRG3 := Aside0.mk hrg3
      have hap := row_apart HRG.out HR.out
      have HR3 := Aside0.mk (R_keep HR.out (grown_k hg3) (fun k e q => by injection q with q; subst q; exact hap.2 e.symm))
      have HAP := Aside0.mk (row_apart hrg3 HR3.out)
      have HB3 := Aside0.mk (HB.out.trans ((grown_k hg3).below HB.out.size (fun k q => by injection q with q; subst q; exact hrl)))
      clear hkx hlx hvx hat hrg3 hg3 hs3 hap hx64
      go_wp2_with (first
        | ((with_reducible refine gate_builtin (b := .append) (xs := #[.tmp 23, .tmp 25]) rfl ?_); at_builtin; refine Kd.R_append (Kd.int .i64) (w0 := w) w.heap.size rfl (.tmp 23) (.tmp 25) 30 2 (.int .i64 0) 8 rfl Try.underlying30 info64 rfl (by decide) (by omega) (.slice A l.length c) l x [.int .i64 x] (fun _ => True) (fun _ => False) rfl rfl ?aP (fun _ hk => hk.elim) ?aF ?aO ?aB ?aS ?aL ?_; (case aP => exact rfl); (case aB => exact HB3.out); (case aF => exact (fun _ _ => trivial)); (case aO => exact HR3.out); (case aS => exact HB3.out.size); (case aL => omega); intro v5 w5 ho5 hb5 hg5 hat5; obtain ⟨A5, c5, ev5⟩ := Kd.R_slice ho5; subst ev5; have HO5 := Aside0.mk ho5; have HB5 := Aside0.mk hb5; have HRG5 := Aside0.mk (HRG3.out.kept hg5 HAP.out.1 HAP.out.2); clear ho5 hb5 hg5 hat5))
      go_roundg cnt3
      case rel => exact ⟨l ++ [x], A5, c5, _, by rw [List.length_append, List.length_singleton], by rw [List.length_append, List.length_singleton]; omega, HRG5, HI3, HO5, HB5⟩
      case measure => omega
end Go.Proofs.Ytoakooebmnjkhaa.Q
