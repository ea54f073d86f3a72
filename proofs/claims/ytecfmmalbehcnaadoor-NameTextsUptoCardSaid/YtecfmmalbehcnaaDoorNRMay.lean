/- The reference's globMay and May. -/
import Derived.Test.YtecfmmalbehcnaaDoorNRSame
namespace Go.Proofs.YtecfmmalbehcnaaDoor.Q
open Go.Shelf Go.RowKit Go.Proofs Go.Proofs.YtecfmmalbehcnaaDoorW.PrintWords Go.Proofs.YtecfmmalbehcnaaDoorW.PrintLast Go.Proofs.YtecfmmalbehcnaaDoorW.PrintMore Go.Proofs.YtecfmmalbehcnaaDoorV
set_option linter.unusedVariables false
set_option linter.unusedSimpArgs false

noncomputable def gmB (g : Gl) : Bool := @decide (GlobMay g) (Classical.propDecidable _)
theorem gmB_iff {g : Gl} : gmB g = true ↔ GlobMay g := @decide_eq_true_iff (GlobMay g) (Classical.propDecidable _)
theorem gmB_true {g : Gl} (h : GlobMay g) : gmB g = true := gmB_iff.2 h
theorem gmB_false {g : Gl} (h : ¬ GlobMay g) : gmB g = false := by
  cases hq : gmB g with
  | false => rfl
  | true => exact absurd (gmB_iff.1 hq) h
theorem may_k1 {g : Gl} (h : g.kind = 1) : GlobMay g ↔ g.text ≠ [] ∧ bytesP g.text = true ∧ g.alts = [] := by
  unfold GlobMay
  rw [bytesP_iff]
  constructor
  · rintro (⟨-, h2, h3, h4⟩ | ⟨h1, -⟩ | ⟨h1, -⟩ | ⟨h1, -⟩)
    · exact ⟨h2, h3, h4⟩
    all_goals (exfalso; omega)
  · rintro ⟨h2, h3, h4⟩
    exact .inl ⟨h, h2, h3, h4⟩
theorem may_k2 {g : Gl} (h : g.kind = 2 ∨ g.kind = 3) : GlobMay g ↔ g.text = [] ∧ g.alts = [] := by
  unfold GlobMay
  constructor
  · rintro (⟨h1, -⟩ | ⟨-, h2⟩ | ⟨h1, -⟩ | ⟨h1, -⟩)
    · exfalso; omega
    · exact h2
    all_goals (exfalso; omega)
  · rintro h2
    exact .inr (.inl ⟨h, h2⟩)
theorem may_k4 {g : Gl} (h : g.kind = 4) : GlobMay g ↔ g.text ≠ [] ∧ (∀ x ∈ g.text, cb x = true) ∧ RiseB g.text ∧ g.alts = [] := by
  unfold GlobMay
  constructor
  · rintro (⟨h1, -⟩ | ⟨h1, -⟩ | ⟨-, h2⟩ | ⟨h1, -⟩)
    · exfalso; omega
    · exfalso; omega
    · exact h2
    · exfalso; omega
  · rintro h2
    exact .inr (.inr (.inl ⟨h, h2⟩))
theorem may_k5 {g : Gl} (h : g.kind = 5) : GlobMay g ↔ g.text = [] ∧ g.alts ≠ [] ∧ g.alts.length ≤ 16 ∧ ∀ a ∈ g.alts, bytesP a = true := by
  unfold GlobMay
  constructor
  · rintro (⟨h1, -⟩ | ⟨h1, -⟩ | ⟨h1, -⟩ | ⟨-, h2, h3, h4, h5⟩)
    · exfalso; omega
    · exfalso; omega
    · exfalso; omega
    · exact ⟨h2, h3, h4, fun a ha => bytesP_iff.2 (h5 a ha)⟩
  · rintro ⟨h2, h3, h4, h5⟩
    exact .inr (.inr (.inr ⟨h, h2, h3, h4, fun a ha => bytesP_iff.1 (h5 a ha)⟩))
theorem may_no {g : Gl} (h : g.kind ≠ 1 ∧ g.kind ≠ 2 ∧ g.kind ≠ 3 ∧ g.kind ≠ 4 ∧ g.kind ≠ 5) : ¬ GlobMay g := by
  unfold GlobMay
  rintro (⟨h1, -⟩ | ⟨h1, -⟩ | ⟨h1, -⟩ | ⟨h1, -⟩) <;> omega
/-- Up to a place, class bytes that rise. -/
def RiseK (l : List UInt8) (k : Nat) : Prop := ∀ i c, i < k → l[i]? = some c → cb c = true ∧ ∀ d, 0 < i → l[i - 1]? = some d → d.toNat < c.toNat
theorem rise_all {l : List UInt8} (h : RiseK l l.length) : (∀ x ∈ l, cb x = true) ∧ RiseB l := by
  have hs : ∀ (n i : Nat) (c d : UInt8), l[i]? = some c → l[i + n + 1]? = some d → c.toNat < d.toNat := by
    intro n
    induction n with
    | zero =>
      intro i c d h1 h2
      have hl := (List.getElem?_eq_some_iff.1 h2).1
      exact (h (i + 0 + 1) d hl h2).2 c (by omega) (by rw [show i + 0 + 1 - 1 = i by omega]; exact h1)
    | succ n ih =>
      intro i c d h1 h2
      have hl := (List.getElem?_eq_some_iff.1 h2).1
      obtain ⟨e, he⟩ : ∃ e, l[i + n + 1]? = some e := ⟨_, List.getElem?_eq_getElem (by omega)⟩
      have q1 := ih i c e h1 he
      have q2 := (h (i + (n + 1) + 1) d hl h2).2 e (by omega) (by rw [show i + (n + 1) + 1 - 1 = i + n + 1 by omega]; exact he)
      omega
  refine ⟨fun x hx => ?_, ?_⟩
  · obtain ⟨i, hi, e⟩ := List.mem_iff_getElem?.1 hx |>.imp (fun i hi => (⟨(List.getElem?_eq_some_iff.1 hi).1, hi⟩ : i < l.length ∧ l[i]? = some x))
    exact (h i x hi e).1
  · unfold RiseB
    rw [List.pairwise_iff_getElem]
    intro i j hi hj hij
    exact hs (j - i - 1) i l[i] l[j] (List.getElem?_eq_getElem hi) (by rw [show i + (j - i - 1) + 1 = j by omega]; exact List.getElem?_eq_getElem hj)
theorem rise_of {l : List UInt8} (h1 : ∀ x ∈ l, cb x = true) (h2 : RiseB l) : RiseK l l.length := by
  intro i c hi hc
  refine ⟨h1 c (List.mem_of_getElem? hc), fun d h0 hd => rise_getElem h2 hd hc (by omega)⟩
theorem riseK_step {l : List UInt8} {k : Nat} {c : UInt8} (h : RiseK l k) (hc : l[k]? = some c) (h1 : cb c = true) (h2 : ∀ d, 0 < k → l[k - 1]? = some d → d.toNat < c.toNat) : RiseK l (k + 1) := by
  intro i e hi he
  by_cases q : i < k
  · exact h i e q he
  · obtain rfl : i = k := by omega
    rw [hc] at he
    injection he with he
    subst he
    exact ⟨h1, h2⟩
set_option maxHeartbeats 6400000 in
theorem ref_globMay {w : World} {g : Gl} {cs : List Value} (h : kGl.K w g cs) (hb : bulkG g ≤ 1048576) :
    Calls Tryd.prog 74 #[.agg cs.toArray] w fun e w' => e = .returned (.bool (gmB g)) ∧ Below w.heap.size w w' := by
  obtain ⟨A2, c2, rfl, l2, g2⟩ := kGl_open h
  clear h
  have hb1 : (strB g.text).size ≤ 1048576 := by rw [size_strB]; unfold bulkG at hb; omega
  have hal := bulkA_len g.alts
  obtain ⟨na, hna⟩ : ∃ na, na = g.alts.length := ⟨_, rfl⟩
  have hna2 : na ≤ 1048576 := by rw [hna]; unfold bulkG at hb; omega
  have HALB := Aside0.mk (fun a (ha : a ∈ g.alts) => show (strB a).size ≤ 140737488355328 by
    have := sum_mem (fun a : List UInt8 => a.length + 1) g.alts a ha
    unfold bulkG bulkA at hb
    rw [size_strB]
    omega)
  have HG2 := Aside0.mk (fun W (hW : Below w.heap.size w W) => Kd.C_below g2 hW)
  have hla : (g.alts.map strB).length = na := by rw [List.length_map, hna]
  rw [hla] at l2 HG2 ⊢
  have HX := Aside0.mk (heap_alloc_new w (.cells #[.int .i64 g.kind, .string (strB g.text), .slice A2 na c2] 43 (0, 0)))
  have HB := Aside0.mk (below_alloc (Below.refl w.heap.size w) (.cells #[.int .i64 g.kind, .string (strB g.text), .slice A2 na c2] 43))
  have HBy := Aside0.mk (fun W => ref_Bytes (strB g.text) (by omega) W)
  have HBA := Aside0.mk (fun a (ha : a ∈ g.alts) W => ref_Bytes (strB a) (HALB.out a ha) W)
  have hte := empty_iff (strB g.text)
  have HNA := Aside0.mk hna
  obtain ⟨te, hte0⟩ : ∃ te, te = g.text.isEmpty := ⟨_, rfl⟩
  have hte1 : ((strB g.text).toList == ([] : List UInt8)) = te := by rw [hte0]; exact hte
  have hte2 : ((strB g.text).toList != ([] : List UInt8)) = !te := by rw [bne, hte1]
  have HTE := Aside0.mk hte0
  have HTX := Aside0.mk (show (strB g.text).data.toList = g.text from rfl)
  obtain ⟨kd, hkd⟩ : ∃ kd, kd = g.kind := ⟨_, rfl⟩
  have HKD := Aside0.mk hkd
  obtain ⟨X, hXX⟩ : ∃ X, X = strB g.text := ⟨_, rfl⟩
  rw [← hXX] at HX HB HBy hte1 hte2 hb1 HTX ⊢
  rw [← hkd] at HX HB ⊢
  clear hna hte hte0 hkd hal hb g2 hla hXX
  have r0 : (w.alloc (.cells #[.int .i64 kd, .string X, .slice A2 na c2] 43 (0, 0))).cell? ⟨w.heap.size, 0, none⟩ = some (.int .i64 kd) := blk_cell HX.out 0
  have r1 : (w.alloc (.cells #[.int .i64 kd, .string X, .slice A2 na c2] 43 (0, 0))).cell? ⟨w.heap.size, 1, none⟩ = some (.string X) := blk_cell HX.out 1
  have r2 : (w.alloc (.cells #[.int .i64 kd, .string X, .slice A2 na c2] 43 (0, 0))).cell? ⟨w.heap.size, 2, none⟩ = some (.slice A2 na c2) := blk_cell HX.out 2
  by_cases k1 : kd = 1
  · have HM := Aside0.mk (may_k1 (g := g) (by rw [← HKD.out, k1]))
    subst k1
    cases te with
    | true =>
      have HR := Aside0.mk (gmB_false (g := g) (fun q => (HM.out.1 q).1 (List.isEmpty_iff.1 HTE.out.symm)))
      go_enter Tryd.func74, Tryd.ntmps74
      go_wp2_with (fail)
      go_ret
      exact ⟨by rw [HR.out]; rfl, HB.out⟩
    | false =>
      have hne := Aside0.mk (show g.text ≠ [] from List.isEmpty_eq_false_iff.1 HTE.out.symm)
      obtain ⟨b, hb0⟩ : ∃ b, b = bytesP g.text := ⟨_, rfl⟩
      rw [HTX.out, ← hb0] at HBy
      have HB0 := Aside0.mk hb0
      clear hb0
      cases b with
      | false =>
        have HR := Aside0.mk (gmB_false (g := g) (fun q => by have := (HM.out.1 q).2.1; rw [← HB0.out] at this; cases this))
        go_enter Tryd.func74, Tryd.ntmps74
        go_wp2_with (fail)
        refine (HBy.out _).mono ?_
        rintro e w2 ⟨rfl, ⟨nd, rfl⟩⟩
        go_wp2_with (fail)
        go_ret
        exact ⟨by rw [HR.out]; rfl, pw_below_drewN HB.out _⟩
      | true =>
        have r2n : ∀ n, ((w.alloc (.cells #[.int .i64 1, .string X, .slice A2 na c2] 43 (0, 0))).drewN n).cell? ⟨w.heap.size, 2, none⟩ = some (.slice A2 na c2) := fun n => r2
        by_cases ha : na = 0
        · have HR := Aside0.mk (gmB_true (g := g) (HM.out.2 ⟨hne.out, HB0.out.symm, List.eq_nil_of_length_eq_zero (by rw [← HNA.out, ha])⟩))
          subst ha
          go_enter Tryd.func74, Tryd.ntmps74
          go_wp2_with (fail)
          refine (HBy.out _).mono ?_
          rintro e w2 ⟨rfl, ⟨nd, rfl⟩⟩
          have r2m := r2n nd
          go_wp2_with (fail)
          go_ret
          exact ⟨by rw [HR.out]; rfl, pw_below_drewN HB.out _⟩
        · have HR := Aside0.mk (gmB_false (g := g) (fun q => ha (by rw [HNA.out, (HM.out.1 q).2.2]; rfl)))
          have e0 : ((na : Int) == 0) = false := beq_eq_false_iff_ne.2 (by omega)
          have e1 : (na = 0) = False := eq_false ha
          clear ha
          go_enter Tryd.func74, Tryd.ntmps74
          go_wp2_with (fail)
          refine (HBy.out _).mono ?_
          rintro e w2 ⟨rfl, ⟨nd, rfl⟩⟩
          have r2m := r2n nd
          go_wp2_with (fail)
          go_ret
          exact ⟨by rw [HR.out]; rfl, pw_below_drewN HB.out _⟩
  by_cases k2 : kd = 2
  · have HM := Aside0.mk (may_k2 (g := g) (by rw [← HKD.out]; exact .inl k2))
    subst k2
    cases te with
    | false =>
      have HR := Aside0.mk (gmB_false (g := g) (fun q => List.isEmpty_eq_false_iff.1 HTE.out.symm (HM.out.1 q).1))
      go_enter Tryd.func74, Tryd.ntmps74
      go_wp2_with (fail)
      go_ret
      exact ⟨by rw [HR.out]; rfl, HB.out⟩
    | true =>
      have hne := Aside0.mk (show g.text = [] from List.isEmpty_iff.1 HTE.out.symm)
      by_cases ha : na = 0
      · have HR := Aside0.mk (gmB_true (g := g) (HM.out.2 ⟨hne.out, List.eq_nil_of_length_eq_zero (by rw [← HNA.out, ha])⟩))
        subst ha
        go_enter Tryd.func74, Tryd.ntmps74
        go_wp2_with (fail)
        go_ret
        exact ⟨by rw [HR.out]; rfl, HB.out⟩
      · have HR := Aside0.mk (gmB_false (g := g) (fun q => ha (by rw [HNA.out, (HM.out.1 q).2]; rfl)))
        have e0 : ((na : Int) == 0) = false := beq_eq_false_iff_ne.2 (by omega)
        have e1 : (na = 0) = False := eq_false ha
        clear ha
        go_enter Tryd.func74, Tryd.ntmps74
        go_wp2_with (fail)
        go_ret
        exact ⟨by rw [HR.out]; rfl, HB.out⟩
  by_cases k3 : kd = 3
  · have HM := Aside0.mk (may_k2 (g := g) (by rw [← HKD.out]; exact .inr k3))
    subst k3
    cases te with
    | false =>
      have HR := Aside0.mk (gmB_false (g := g) (fun q => List.isEmpty_eq_false_iff.1 HTE.out.symm (HM.out.1 q).1))
      go_enter Tryd.func74, Tryd.ntmps74
      go_wp2_with (fail)
      go_ret
      exact ⟨by rw [HR.out]; rfl, HB.out⟩
    | true =>
      have hne := Aside0.mk (show g.text = [] from List.isEmpty_iff.1 HTE.out.symm)
      by_cases ha : na = 0
      · have HR := Aside0.mk (gmB_true (g := g) (HM.out.2 ⟨hne.out, List.eq_nil_of_length_eq_zero (by rw [← HNA.out, ha])⟩))
        subst ha
        go_enter Tryd.func74, Tryd.ntmps74
        go_wp2_with (fail)
        go_ret
        exact ⟨by rw [HR.out]; rfl, HB.out⟩
      · have HR := Aside0.mk (gmB_false (g := g) (fun q => ha (by rw [HNA.out, (HM.out.1 q).2]; rfl)))
        have e0 : ((na : Int) == 0) = false := beq_eq_false_iff_ne.2 (by omega)
        have e1 : (na = 0) = False := eq_false ha
        clear ha
        go_enter Tryd.func74, Tryd.ntmps74
        go_wp2_with (fail)
        go_ret
        exact ⟨by rw [HR.out]; rfl, HB.out⟩
  by_cases k4 : kd = 4
  · have HM := Aside0.mk (may_k4 (g := g) (by rw [← HKD.out, k4]))
    subst k4
    have HXL := Aside0.mk (show X.size = g.text.length by rw [← HTX.out, size_data])
    go_enter Tryd.func74, Tryd.ntmps74
    go_upto_region 9 with (fail)
    have HX9 := Aside0.mk HX.out
    clear r0 r1 r2 HX
    go_loopg [3] X.size (fun kq v3 w' => ∃ k : Nat, v3 = .int .i64 (k : Int) ∧ k + kq = X.size ∧ Aside0 (RiseK g.text k) ∧ Aside0 (Below w.heap.size w w') ∧ Aside0 (w'.heap[w.heap.size]? = some (.cells #[.int .i64 4, .string X, .slice A2 na c2] 43 (0, 0))))
    case atStart => exact ⟨0, rfl, by omega, ⟨fun i c h => by omega⟩, HB, HX9⟩
    case round =>
      obtain ⟨k, rfl, hkq, HK, HW, HXr⟩ := hrel
      clear HB HX9
      have r1 : wr.cell? ⟨w.heap.size, 1, none⟩ = some (.string X) := blk_cell HXr.out 1
      have r2 : wr.cell? ⟨w.heap.size, 2, none⟩ = some (.slice A2 na c2) := blk_cell HXr.out 2
      cases gk with
      | succ k1 =>
        have d1 : decide ((k : Int) < (X.size : Int)) = true := decide_eq_true (by omega)
        have E9 := Aside0.mk (show k + 1 + k1 = X.size by omega)
        have hkX : k < X.size := by omega
        obtain ⟨c, hc⟩ := get_lt (s := X) (i := k) (by omega)
        have HCt := Aside0.mk (show g.text[k]? = some c by rw [← HTX.out]; exact hc)
        have hcb := get_byte hc
        have HLl := Aside0.mk (show ∀ (q : GlobMay g), RiseK g.text g.text.length from fun q => rise_of (HM.out.1 q).2.1 (HM.out.1 q).2.2.1)
        have hkl := Aside0.mk (show k < g.text.length by have := HXL.out; omega)
        have cq : ∀ (n : Nat) (y : UInt8), Calls Tryd.prog 96 #[.int .u8 (y.toNat : Int)] (wr.drewN n) fun e w'' => e = .returned (.bool (cb y)) ∧ ∃ m, w'' = wr.drewN m := fun n y => by
          refine (ref_classByte y _).mono ?_
          rintro e w' ⟨rfl, hd⟩
          exact ⟨rfl, n + hd.out.choose, hd.out.choose_spec.trans (World.drewN_drewN ..)⟩
        have pk0 : (0 ≤ (k : Int)) = True := eq_true (by omega)
        have pk1 : ((k : Int) < (X.size : Int)) = True := eq_true (by omega)
        clear hc hkq
        cases hcc : cb c with
        | false =>
          have HR := Aside0.mk (gmB_false (g := g) (fun q => by have := (HLl.out q k c hkl.out HCt.out).1; rw [hcc] at this; cases this))
          have cq2 : ∀ (n : Nat), Calls Tryd.prog 96 #[.int .u8 (c.toNat : Int)] (wr.drewN n) fun e w'' => e = .returned (.bool false) ∧ ∃ m, w'' = wr.drewN m := fun n => by rw [← hcc]; exact cq n c
          clear hcc cq
          go_wp2_with (fail)
          go_quiet (exact cq2 _)
          go_wp2_with (fail)
          go_ret
          exact ⟨by rw [HR.out]; rfl, pw_below_drewN HW.out _⟩
        | true =>
          have HCc := Aside0.mk hcc
          have cq2 : ∀ (n : Nat), Calls Tryd.prog 96 #[.int .u8 (c.toNat : Int)] (wr.drewN n) fun e w'' => e = .returned (.bool true) ∧ ∃ m, w'' = wr.drewN m := fun n => by rw [← hcc]; exact cq n c
          clear hcc cq
          by_cases k0 : k = 0
          · subst k0
            have HK2 := Aside0.mk (riseK_step HK.out HCt.out HCc.out (fun d h => by omega))
            go_wp2_with (fail)
            go_quiet (exact cq2 _)
            go_wp2_with (fail)
            go_roundg k1
            case rel => exact ⟨0 + 1, by go_num, E9.out, HK2, ⟨pw_below_drewN HW.out _⟩, ⟨HXr.out⟩⟩
            case measure => omega
          · obtain ⟨d, hd⟩ := get_lt (s := X) (i := k - 1) (by omega)
            have HDt := Aside0.mk (show g.text[k - 1]? = some d by rw [← HTX.out]; exact hd)
            have hdb := get_byte hd
            have d2 : decide (0 < (k : Int)) = true := decide_eq_true (by omega)
            have d2n : decide (0 < k) = true := decide_eq_true (by omega)
            have pm0 : (0 ≤ (k : Int) - 1) = True := eq_true (by omega)
            have pm1 : ((k : Int) - 1 < (X.size : Int)) = True := eq_true (by omega)
            have pm2 : ((k : Int) - 1).toNat = k - 1 := by omega
            have pm3 : ((1 : Int) ≤ (k : Int)) = True := eq_true (by omega)
            have pm4 : (1 ≤ k) = True := eq_true (by omega)
            have pm5 : ((k : Int) ≤ (X.size : Int)) = True := eq_true (by omega)
            have pm6 : (k ≤ X.size) = True := eq_true (by omega)
            have pm7 : ((k : Int) < (X.size : Int) + 1) = True := eq_true (by omega)
            have pm8 : (k < X.size + 1) = True := eq_true (by omega)
            have pm9 : (k - 1 < X.size) = True := eq_true (by omega)
            have wk : IntKind.i64.wrap ((k : Int) - 1) = (k : Int) - 1 := IntWalk.i64_in _ (by omega)
            have hk0 := Aside0.mk (show 0 < k by omega)
            clear hd k0
            by_cases hcd : c.toNat ≤ d.toNat
            · have HR := Aside0.mk (gmB_false (g := g) (fun q => by have := (HLl.out q k c hkl.out HCt.out).2 d hk0.out HDt.out; omega))
              have e3 : decide ((c.toNat : Int) ≤ (d.toNat : Int)) = true := decide_eq_true (by omega)
              have e4 : decide (c.toNat ≤ d.toNat) = true := decide_eq_true hcd
              clear hcd
              go_wp2_with (fail)
              go_quiet (exact cq2 _)
              go_wp2_with (fail)
              go_ret
              exact ⟨by rw [HR.out]; rfl, pw_below_drewN HW.out _⟩
            · have HK2 := Aside0.mk (riseK_step HK.out HCt.out HCc.out (fun e h he => by have q := HDt.out.symm.trans he; injection q with q; rw [← q]; omega))
              have e3 : decide ((c.toNat : Int) ≤ (d.toNat : Int)) = false := decide_eq_false (by omega)
              have e4 : decide (c.toNat ≤ d.toNat) = false := decide_eq_false hcd
              clear hcd
              go_wp2_with (fail)
              go_quiet (exact cq2 _)
              go_wp2_with (fail)
              go_roundg k1
              case rel => exact ⟨k + 1, by go_num, E9.out, HK2, ⟨pw_below_drewN HW.out _⟩, ⟨HXr.out⟩⟩
              case measure => omega
      | zero =>
        have hk : k = X.size := by omega
        have d1 : decide ((k : Int) < (X.size : Int)) = false := decide_eq_false (by omega)
        have d1n : decide (k < X.size) = false := decide_eq_false (by omega)
        have HA := Aside0.mk (rise_all (l := g.text) (by rw [← HXL.out, ← hk]; exact HK.out))
        clear hk hkq
        cases te with
        | true =>
          have HR := Aside0.mk (gmB_false (g := g) (fun q => (HM.out.1 q).1 (List.isEmpty_iff.1 HTE.out.symm)))
          go_wp2_with (fail)
          go_ret
          exact ⟨by rw [HR.out]; rfl, HW.out⟩
        | false =>
          have hne := Aside0.mk (show g.text ≠ [] from List.isEmpty_eq_false_iff.1 HTE.out.symm)
          by_cases ha : na = 0
          · have HR := Aside0.mk (gmB_true (g := g) (HM.out.2 ⟨hne.out, HA.out.1, HA.out.2, List.eq_nil_of_length_eq_zero (by rw [← HNA.out, ha])⟩))
            subst ha
            go_wp2_with (fail)
            go_ret
            exact ⟨by rw [HR.out]; rfl, HW.out⟩
          · have HR := Aside0.mk (gmB_false (g := g) (fun q => ha (by rw [HNA.out, (HM.out.1 q).2.2.2]; rfl)))
            have e0 : ((na : Int) == 0) = false := beq_eq_false_iff_ne.2 (by omega)
            have e1 : (na = 0) = False := eq_false ha
            clear ha
            go_wp2_with (fail)
            go_ret
            exact ⟨by rw [HR.out]; rfl, HW.out⟩
  by_cases k5 : kd = 5
  · have HM := Aside0.mk (may_k5 (g := g) (by rw [← HKD.out, k5]))
    subst k5
    go_enter Tryd.func74, Tryd.ntmps74
    go_upto_region 16 with (fail)
    have HX9 := Aside0.mk HX.out
    clear r0 r1 r2 HX
    go_loopg [4] na (fun kq v4 w' => ∃ k : Nat, v4 = .int .i64 (k : Int) ∧ k + kq = na ∧ Aside0 (∀ a ∈ g.alts.take k, bytesP a = true) ∧ Aside0 (Below w.heap.size w w') ∧ Aside0 (w'.heap[w.heap.size]? = some (.cells #[.int .i64 5, .string X, .slice A2 na c2] 43 (0, 0))))
    case atStart => exact ⟨0, rfl, by omega, ⟨fun a h => by simp at h⟩, HB, HX9⟩
    case round =>
      obtain ⟨k, rfl, hkq, HK, HW, HXr⟩ := hrel
      clear HB HX9
      have r1 : wr.cell? ⟨w.heap.size, 1, none⟩ = some (.string X) := blk_cell HXr.out 1
      have r2 : wr.cell? ⟨w.heap.size, 2, none⟩ = some (.slice A2 na c2) := blk_cell HXr.out 2
      cases gk with
      | succ k1 =>
        have d1 : decide ((k : Int) < (na : Int)) = true := decide_eq_true (by omega)
        have d1n : decide (k < na) = true := decide_eq_true (by omega)
        have E9 := Aside0.mk (show k + 1 + k1 = na by omega)
        have hkn : k < na := by omega
        obtain ⟨a, ha⟩ : ∃ a, g.alts[k]? = some a := ⟨_, List.getElem?_eq_getElem (by rw [← HNA.out]; omega)⟩
        have ham := Aside0.mk (List.mem_of_getElem? ha)
        have HBa := Aside0.mk (fun W => HBA.out a ham.out W)
        rw [show (strB a).data.toList = a from rfl] at HBa
        obtain ⟨ad, rfl, q0⟩ := at_str (HG2.out _ HW.out) (k := k) (x := strB a) (by rw [List.getElem?_map, ha]; rfl)
        have hsa := HALB.out a ham.out
        obtain ⟨S, hS⟩ : ∃ S, S = strB a := ⟨_, rfl⟩
        rw [← hS] at HBa q0 hsa
        obtain ⟨b, hb0⟩ : ∃ b, b = bytesP a := ⟨_, rfl⟩
        rw [← hb0] at HBa
        have HB0 := Aside0.mk hb0
        have Hak := Aside0.mk ha
        clear hb0 ha hS hkq
        cases b with
        | false =>
          have HR := Aside0.mk (gmB_false (g := g) (fun q => by have := (HM.out.1 q).2.2.2 a ham.out; rw [← HB0.out] at this; cases this))
          go_wp2_with (fail)
          refine (HBa.out _).mono ?_
          rintro e w2 ⟨rfl, ⟨nd, rfl⟩⟩
          go_wp2_with (fail)
          go_ret
          exact ⟨by rw [HR.out]; rfl, pw_below_drewN HW.out _⟩
        | true =>
          have HK2 := Aside0.mk (show ∀ x ∈ g.alts.take (k + 1), bytesP x = true by
            rw [take_snocR Hak.out]
            intro x hx
            rcases List.mem_append.1 hx with q | q
            · exact HK.out x q
            · rw [List.mem_singleton.1 q]; exact HB0.out.symm)
          go_wp2_with (fail)
          refine (HBa.out _).mono ?_
          rintro e w2 ⟨rfl, ⟨nd, rfl⟩⟩
          go_wp2_with (fail)
          go_roundg k1
          case rel => exact ⟨k + 1, by go_num, E9.out, HK2, ⟨pw_below_drewN HW.out _⟩, ⟨HXr.out⟩⟩
          case measure => omega
      | zero =>
        have hk : k = na := by omega
        have d1 : decide ((k : Int) < (na : Int)) = false := decide_eq_false (by omega)
        have d1n : decide (k < na) = false := decide_eq_false (by omega)
        have HA := Aside0.mk (show ∀ a ∈ g.alts, bytesP a = true by
          have := HK.out
          rwa [hk, HNA.out, List.take_length] at this)
        clear hk hkq
        cases te with
        | false =>
          have HR := Aside0.mk (gmB_false (g := g) (fun q => List.isEmpty_eq_false_iff.1 HTE.out.symm (HM.out.1 q).1))
          go_wp2_with (fail)
          go_ret
          exact ⟨by rw [HR.out]; rfl, HW.out⟩
        | true =>
          have hne := Aside0.mk (show g.text = [] from List.isEmpty_iff.1 HTE.out.symm)
          by_cases h1 : 1 ≤ na
          · have f1 : decide ((1 : Int) ≤ (na : Int)) = true := decide_eq_true (by omega)
            have f1n : decide (1 ≤ na) = true := decide_eq_true h1
            by_cases h2 : na ≤ 16
            · have HR := Aside0.mk (gmB_true (g := g) (HM.out.2 ⟨hne.out, fun e => by have := HNA.out; rw [e] at this; simp at this; omega, by rw [← HNA.out]; exact h2, HA.out⟩))
              have f2 : decide ((na : Int) ≤ 16) = true := decide_eq_true (by omega)
              have f2n : decide (na ≤ 16) = true := decide_eq_true h2
              clear h1 h2
              go_wp2_with (fail)
              go_ret
              exact ⟨by rw [HR.out]; rfl, HW.out⟩
            · have HR := Aside0.mk (gmB_false (g := g) (fun q => h2 (by rw [HNA.out]; exact (HM.out.1 q).2.2.1)))
              have f2 : decide ((na : Int) ≤ 16) = false := decide_eq_false (by omega)
              have f2n : decide (na ≤ 16) = false := decide_eq_false h2
              clear h1 h2
              go_wp2_with (fail)
              go_ret
              exact ⟨by rw [HR.out]; rfl, HW.out⟩
          · have HR := Aside0.mk (gmB_false (g := g) (fun q => h1 (by rw [HNA.out]; have := (HM.out.1 q).2.1; cases hq : g.alts with | nil => exact absurd hq this | cons a t => simp)))
            have f1 : decide ((1 : Int) ≤ (na : Int)) = false := decide_eq_false (by omega)
            have f1n : decide (1 ≤ na) = false := decide_eq_false h1
            clear h1
            go_wp2_with (fail)
            go_ret
            exact ⟨by rw [HR.out]; rfl, HW.out⟩
  · have HR := Aside0.mk (gmB_false (g := g) (may_no (by rw [← HKD.out]; exact ⟨k1, k2, k3, k4, k5⟩)))
    have e1 : (kd = 1) = False := eq_false k1
    have e2 : (kd = 2) = False := eq_false k2
    have e3 : (kd = 3) = False := eq_false k3
    have e4 : (kd = 4) = False := eq_false k4
    have e5 : (kd = 5) = False := eq_false k5
    have b1 : (kd == 1) = false := beq_eq_false_iff_ne.2 k1
    have b2 : (kd == 2) = false := beq_eq_false_iff_ne.2 k2
    have b3 : (kd == 3) = false := beq_eq_false_iff_ne.2 k3
    have b4 : (kd == 4) = false := beq_eq_false_iff_ne.2 k4
    have b5 : (kd == 5) = false := beq_eq_false_iff_ne.2 k5
    clear k1 k2 k3 k4 k5
    go_enter Tryd.func74, Tryd.ntmps74
    go_wp2_with (fail)
    go_ret
    exact ⟨by rw [HR.out]; rfl, HB.out⟩
end Go.Proofs.YtecfmmalbehcnaaDoor.Q
