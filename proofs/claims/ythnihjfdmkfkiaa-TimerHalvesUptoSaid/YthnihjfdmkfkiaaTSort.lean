import Derived.Test.YthnihjfdmkfkiaaTIdx
import Derived.Test.YthnihjfdmkfkiaaWMore
import Derived.Test.YthnihjfdmkfkiaaWNEv
import Derived.Test.YthnihjfdmkfkiaaVMake
import Derived.Deep.RegionHeld3
namespace Go.Proofs.Ythnihjfdmkfkiaa.Q
open Go.RowKit Go.Proofs.YthnihjfdmkfkiaaW.PrintWords Go.Proofs.YthnihjfdmkfkiaaW.PrintLast Go.Proofs.YthnihjfdmkfkiaaW.PrintMore Go.Proofs.YthnihjfdmkfkiaaV
set_option linter.unusedVariables false
set_option linter.unusedSimpArgs false

theorem infoRow : (Try.prog.info? 22).map (fun i => (i.zero, i.size, i.bytes)) = some (some (.slice none 0 0), 1, 24) := by kernel_rfl
def kS : Kd (List Int) := Kd.slice 2 (Kd.int .i64)
/-- What a call of merge comes to (the print proves it). -/
def MergeOk : Prop := ∀ (P0_ P1_ : Nat → Prop) (A0 : Option Addr) (c0 : Nat) (l0 : List Int) (A1 : Option Addr) (c1 : Nat) (l1 : List Int) (w : World),
  Kd.V (Kd.int .i64) 2 w w.heap.size P0_ (.slice A0 l0.length c0) l0 → Kd.V (Kd.int .i64) 2 w w.heap.size P1_ (.slice A1 l1.length c1) l1 → l0.length + l1.length ≤ 1048576 →
  Calls Try.prog 47 #[.slice A0 l0.length c0, .slice A1 l1.length c1] w fun e w' => ∃ v, e = .returned v ∧ Kd.R (Kd.int .i64) 2 w' w.heap.size (fun k => w.heap.size ≤ k) v (mergeP l0 l1) ∧ Below w.heap.size w w'
def okP (P0 : Nat → Prop) (B k : Nat) : Prop := (P0 k ∧ k < B) ∨ B ≤ k
theorem run_one {P : Program} (t e : TypeId) (i : TypeInfo) (ht : P.underlying t = some (.slice e)) (hi : P.info? e = some i) (hsz : i.size = 1) (ad : Addr) (n c j : Nat) (hj : j < n) (hc : n ≤ c) :
    ∀ W : World, (Instr.slice t (.slice (some ad) n c) (some (.int .i64 j)) (some (.int .i64 ((j : Int) + 1))) (some (.int .i64 ((j : Int) + 1)))).run P W = .ok (.slice (some (ad.add j)) 1 1) W := by
  intro W
  have hel : P.elem t = e := by simp [Program.elem, ht]
  have hu : P.underlying t = some (.slice (P.elem t)) := by rw [hel]; exact ht
  rw [run_slice_lhm W t (some ad) n c hu .i64 .i64 .i64 j ((j : Int) + 1) ((j : Int) + 1) (by omega) (by omega) (by omega) (by omega), hel]
  have e1 : ((j : Int) + 1).toNat = j + 1 := by omega
  simp [sizeOf, typeInfo, hi, hsz, sliced, Result.andThen, e1]
theorem drop_one {l : List Int} {i : Nat} (h : i < l.length) : (l.take (i + 1)).drop i = [l[i]] := by
  rw [List.take_succ_eq_append_getElem h, List.drop_append_of_le_length (by rw [List.length_take]; omega)]
  rw [List.drop_eq_nil_of_le (by rw [List.length_take]; omega)]
  rfl
theorem map_succ {l : List Int} {i : Nat} (h : i < l.length) : (l.take (i + 1)).map (fun x => [x]) = (l.take i).map (fun x => [x]) ++ [[l[i]]] := by
  rw [List.take_succ_eq_append_getElem h, List.map_append]
  rfl
/-- One part: where it lies, and that it can be read. -/
theorem part_at {w : World} {B : Nat} {ok : Nat → Prop} {A : Option Addr} {n c : Nat} {ps : List (List Int)} (h : Kd.N kS 22 w B ok (.slice A n c) ps) (i : Nat) (hi : i < ps.length) :
    ∃ g Ai ci, A = some ⟨g, 0, none⟩ ∧ B ≤ g ∧ w.cell? ⟨g, i, none⟩ = some (.slice Ai ps[i].length ci) ∧ Kd.V (Kd.int .i64) 2 w w.heap.size (fun k => ok k ∧ k < w.heap.size) (.slice Ai ps[i].length ci) ps[i] := by
  have hn := (Kd.N_reads' h).1
  obtain ⟨g, cap, e, hB, hlt, -⟩ := Kd.N_form h (by omega)
  injection e with e1 e2 e3
  subst e1
  subst e3
  obtain ⟨cs, hcl, hfk, hcc, -⟩ := Kd.N_elem h [] (i : Int) (by omega) (by omega)
  have e4 : ps.getD (i : Int).toNat [] = ps[i] := by rw [Int.toNat_natCast]; simp [List.getD_eq_getElem?_getD, hi]
  rw [e4] at hfk
  obtain ⟨Ai, ci, rfl, hle, hF⟩ := Kd.FK_slice_open hfk
  refine ⟨g, Ai, ci, rfl, hB, ?_, Kd.V_mk hle (Kd.F_mono (Kd.F_bound hF) (fun k hk => ⟨hk.1.1, hk.2⟩))⟩
  have := hcc 0 _ rfl
  rw [Int.toNat_natCast, show i * kS.sz + 0 = i by show i * 1 + 0 = i; omega] at this
  exact this
theorem sorted_not {w : World} {A : Option Addr} {c : Nat} {l : List Int} (h : Kd.C (Kd.int .i64) w A l.length l) (hl : l.length ≤ 1048576) (hs : ¬ ∀ x ∈ l, smp x) :
    Calls Try.prog 29 #[.slice A l.length c] w fun e w' => e = .returned (.tuple #[.slice none 0 0, .bool false]) ∧ w = w' := by
  have HCt := Aside0.mk (contains_bad (c := c) h hl true (by
    symm
    rw [List.any_eq_true]
    have : ∃ x ∈ l, ¬ smp x := Classical.byContradiction (fun hn => hs (fun x hx => Classical.byContradiction (fun hk => hn ⟨x, hx, hk⟩)))
    obtain ⟨x, hx, hk⟩ := this
    exact ⟨x, hx, decide_eq_true hk⟩))
  clear h hs
  go_enter Try.func29, Try.ntmps29
  go_wp2_with (first | (go_at_call 53; (with_reducible refine (HCt.out).mono ?_); rintro e w1 ⟨rfl, rfl⟩))
  go_ret2
  exact ⟨rfl, rfl⟩
set_option maxHeartbeats 6400000 in
set_option maxRecDepth 8000 in
theorem timer_sorted (HM : MergeOk) {w : World} {P0 : Nat → Prop} {A : Option Addr} {c : Nat} {l : List Int} (h : Kd.V (Kd.int .i64) 2 w w.heap.size P0 (.slice A l.length c) l) (hl : l.length ≤ 1048576) (hs : ∀ x ∈ l, smp x) :
    Calls Try.prog 29 #[.slice A l.length c] w fun e w' => ∃ v, e = .returned (.tuple #[v, .bool true]) ∧ Kd.V (Kd.int .i64) 2 w' w.heap.size (fun k => P0 k ∨ w.heap.size ≤ k) v (sortP l) ∧ Below w.heap.size w w' := by
  have hC := (Kd.V_reads' h).2.2
  have hcap := (Kd.V_reads' h).2.1
  have HV := Aside0.mk (Kd.V_bound h)
  have HCt := Aside0.mk (contains_bad (c := c) hC hl false (by
    symm
    rw [List.any_eq_false]
    intro x hx
    simp [badB, hs x hx]))
  have HMM := Aside0.mk HM
  obtain ⟨i22, hi22, hz22⟩ := Option.map_eq_some_iff.1 (show (Try.prog.info? 2).map (fun i => (i.zero, i.size, i.bytes)) = some (some (.int .i64 0), 1, 8) by kernel_rfl)
  simp only [Prod.mk.injEq] at hz22
  have HI := Aside0.mk (And.intro hi22 hz22.2.1)
  have HCAP := Aside0.mk hcap
  have HL := Aside0.mk hl
  clear h hC hs HM hi22 hz22 hcap
  go_enter Try.func29, Try.ntmps29
  go_upto_region 3 with (first | (go_at_call 53; (with_reducible refine (HCt.out).mono ?_); rintro e w1 ⟨rfl, rfl⟩))
  go_wp2_with (first
    | ((with_reducible refine gate_dst (N := 12) rfl ?_); refine R_make0 kS (w0 := w) w.heap.size 22 rfl (N := 12) rfl 98 _ _ rfl (l.length : Int) rfl rfl Try.underlying98 (.slice none 0 0) 24 infoRow rfl (by decide) (by omega) (ok := okP P0 w.heap.size) (.inr (Nat.le_refl _)) (by omega) (by rw [Int.toNat_natCast]; omega) (Below.refl _ _) (Nat.le_refl _) ?_; intro v1 w1 hr hb hg hat; obtain ⟨A1, c1, e1⟩ := Kd.R_slice hr; subst e1; have HN := Aside0.mk (Kd.R_N hr); have HB1 := Aside0.mk hb; clear hr hb hg hat))
  go_loopg [4, 15] l.length (fun kq v4 v15 w' => ∃ (i : Nat) (A4 : Option Addr) (c4 : Nat), v4 = .slice A4 i c4 ∧ v15 = .int .i64 i ∧ i + kq = l.length ∧ Aside0 (Kd.N kS 22 w' w.heap.size (okP P0 w.heap.size) (.slice A4 i c4) ((l.take i).map (fun x => [x]))) ∧ Aside0 (Below w.heap.size w w'))
  case atStart => exact ⟨0, A1, c1, rfl, rfl, by omega, HN, HB1⟩
  case round =>
    clear HN HB1
    obtain ⟨i, A4, c4, rfl, rfl, hik, HN, NB⟩ := hrel
    cases gk with
    | zero =>
      obtain rfl : i = l.length := by omega
      have d1 : decide (l.length < l.length) = false := decide_eq_false (by omega)
      have HN0 := HN.out
      rw [List.take_length] at HN0
      have HN := Aside0.mk HN0
      clear HN0
      obtain ⟨A40, hA40⟩ : ∃ a, a = A4 := ⟨_, rfl⟩
      obtain ⟨c40, hc40⟩ : ∃ a, a = c4 := ⟨_, rfl⟩
      obtain ⟨wo, hwo⟩ : ∃ a, a = wr := ⟨_, rfl⟩
      subst hwo hA40 hc40
      go_wp2_with (fail)
      go_loopg [4] l.length (fun kq v4 w' => ∃ (ps : List (List Int)) (A4 : Option Addr) (c4 : Nat), v4 = .slice A4 ps.length c4 ∧ ps.length = kq ∧ kq ≤ l.length ∧ Aside0 (Parts l ps) ∧ Aside0 (Kd.N kS 22 w' w.heap.size (okP P0 w.heap.size) (.slice A4 ps.length c4) ps) ∧ Aside0 (Below w.heap.size w w'))
      case atStart => exact ⟨l.map (fun x => [x]), A40, c40, by rw [List.length_map], by rw [List.length_map], Nat.le_refl _, ⟨Parts.ones l⟩, by rw [List.length_map]; exact HN, NB⟩
      case round =>
        clear HN NB
        obtain ⟨ps, A5, c5, rfl, hpk, hkl, HP, HN, NB⟩ := hrel
        have HPK := Aside0.mk hpk
        clear hpk
        by_cases hgt : 1 < ps.length
        · have d2 : decide ((1 : Int) < (ps.length : Int)) = true := decide_eq_true (by omega)
          have hpl : ps.length ≤ 1048576 := by have := HPK.out; omega
          obtain ⟨wi, hwi⟩ : ∃ a, a = wr := ⟨_, rfl⟩
          subst hwi
          obtain ⟨A50, hA50⟩ : ∃ a, a = A5 := ⟨_, rfl⟩
          obtain ⟨c50, hc50⟩ : ∃ a, a = c5 := ⟨_, rfl⟩
          subst hA50 hc50
          go_wp2_with (fail)
          go_loopg [6, 7] (ps.length + 2) (fun kq v6 v7 w' => ∃ (i : Nat) (A6 : Option Addr) (c6 : Nat), v6 = .slice A6 (pairUp (ps.take i)).length c6 ∧ v7 = .int .i64 i ∧ i + kq = ps.length + 2 ∧ Aside0 (i % 2 = 0) ∧ i ≤ ps.length + 1 ∧ Aside0 (Kd.N kS 22 w' wi.heap.size (okP P0 w.heap.size) (.slice A6 (pairUp (ps.take i)).length c6) (pairUp (ps.take i))) ∧ Aside0 (Below wi.heap.size wi w'))
          case atStart => exact ⟨0, none, 0, rfl, rfl, by omega, ⟨rfl⟩, by omega, ⟨Kd.N_nil _ _ _ _ _⟩, ⟨Below.refl _ _⟩⟩
          case round =>
            obtain ⟨i, A6, c6, rfl, rfl, hik, HE, hil, HN6, NB6⟩ := hrel
            obtain ⟨q6, hq6⟩ : ∃ q, q = (pairUp (ps.take i)).length := ⟨_, rfl⟩
            by_cases hlt : i < ps.length
            · have d3 : decide (i < ps.length) = true := decide_eq_true hlt
              have hq6l : q6 ≤ 1048576 := by rw [hq6, pairUp_len, List.length_take]; omega
              have htl : (ps.take i).length % 2 = 0 := by rw [List.length_take, Nat.min_eq_left (by omega)]; exact HE.out
              obtain ⟨g, Ai, ci, hA, hBg, hcell, hV⟩ := part_at HN.out i hlt
              subst hA
              have hV6 := Kd.V_below hV NB6.out
              have hci := pw_cell_below NB6.out hcell
              by_cases h2 : i + 1 < ps.length
              · have d4 : decide ((i : Int) + 1 < (ps.length : Int)) = true := decide_eq_true (by omega)
                have d5 : decide (i + 1 < ps.length) = true := decide_eq_true (by omega)
                obtain ⟨g', Aj, cj, hA, hBg', hcellj, hVj⟩ := part_at HN.out (i + 1) h2
                injection hA with hA
                injection hA with hA
                subst hA
                have hV6j := Kd.V_below hVj NB6.out
                have hcj := pw_cell_below NB6.out hcellj
                have htw := take_two h2
                have hml := mergeP_len (ps[i]'hlt) ps[i + 1]
                have hmb := HP.out.two_len h2
                obtain ⟨xi, hxi⟩ : ∃ x, x = ps[i]'hlt := ⟨_, rfl⟩
                obtain ⟨xj, hxj⟩ : ∃ x, x = ps[i + 1] := ⟨_, rfl⟩
                rw [← hxi] at hV6 hci htw hml hmb hcell
                rw [← hxj] at hV6j hcj htw hml hmb hcellj
                have HTW := Aside0.mk (show pairUp (ps.take (i + 2)) = pairUp (ps.take i) ++ [mergeP xi xj] by rw [htw]; exact pairUp_two _ _ _ htl)
                obtain ⟨XS, hXS⟩ : ∃ X, X = pairUp (ps.take i) := ⟨_, rfl⟩
                rw [← hXS] at HTW HN6 hq6 ⊢
                rw [← hq6] at HN6 ⊢
                have HQ6 := Aside0.mk hq6
                have HMc := Aside0.mk (HMM.out _ _ Ai ci xi Aj cj xj _ (Kd.V_drew hV6) (Kd.V_drew hV6j) (by have := HL.out; omega))
                have HCELL := Aside0.mk (fun w' (hb : Below wi.heap.size wi w') => And.intro (pw_cell_below hb hcell) (pw_cell_below hb hcellj))
                have i0 : (0 : Int) ≤ (i : Int) := by omega
                have i1 : (i : Int) < (ps.length : Int) := by omega
                have i2 : (0 : Int) ≤ (i : Int) + 1 := by omega
                have i3 : (i : Int) + 1 < (ps.length : Int) := by omega
                have i4 : IntKind.i64.wrap ((i : Int) + 1) = (i : Int) + 1 := IntWalk.i64_in _ (by omega)
                have i5 : ((i : Int) + 1).toNat = i + 1 := by omega
                have h6l := Kd.N_lt HN6.out
                have HN6L := Aside0.mk h6l
                clear hV hV6 hVj hV6j htw hml hmb hxi hxj hXS hq6 htl hcell hcellj h6l
                go_upto_region 15 with (fail)
                go_region_held3 (fun w' => w'.cell? ⟨g, i, none⟩ = some (.slice Ai xi.length ci) ∧ w'.cell? ⟨g, i + 1, none⟩ = some (.slice Aj xj.length cj))
                  (first
                    | go_keep
                    | exact HCELL.out _ HB3.out
                    | exact HCELL.out _ (below_alloc HB3.out _)
                    | exact HCELL.out _ HB5.out)
                  (first
                    | (go_at_call 47; (with_reducible refine (HMc.out).mono ?_); rintro e w3 ⟨v3, rfl, hr3, hb3⟩; have HB3 := Aside0.mk (NB6.out.trans ⟨hb3.os, hb3.tape, hb3.output, hb3.size, fun k hk => hb3.block k (Nat.lt_of_lt_of_le hk NB6.out.size)⟩); obtain ⟨A3, c3, e3⟩ := Kd.R_slice hr3; subst e3; have HR3 := Aside0.mk hr3; have HN63 := Aside0.mk (Kd.N_below (Kd.N_drew HN6.out) hb3); clear hr3 hb3)
                    | (refine Kd.N_append_step kS (w0 := wi) wi.heap.size (by rfl) (.tmp 43) (.tmp 54) 98 22 (.slice none 0 0) 24 (by rfl) Try.underlying98 infoRow rfl (by decide) (by omega) (.slice A6 q6 c6) XS (mergeP xi xj) [.slice A3 (mergeP xi xj).length c3] (okP P0 w.heap.size) (fun k => wr.heap.size ≤ k) (by rfl) (by rfl) (Kd.FK_slice_mk (Kd.R_reads' HR3.out).2.1 (Kd.R_F HR3.out)) (fun k hk => ⟨.inr (Nat.le_trans NB.out.size (Nat.le_trans NB6.out.size hk)), fun e => by have := HN6L.out k e.symm; omega⟩) (fun k hk => .inr (Nat.le_trans NB.out.size (Nat.le_trans HB3.out.size hk))) HN63.out HB3.out HB3.out.size (by rw [← HQ6.out]; omega) ?_; intro v5 w5 hn5 hb5 hg5 hat5; have HN5 := Aside0.mk hn5; have HB5 := Aside0.mk hb5; clear hn5 hb5 hg5 hat5))
                go_wp2_with (fail)
                obtain ⟨A7, c7, e7⟩ := Kd.N_slice HN5.out
                obtain ⟨r7, hr7⟩ : ∃ r, r = (XS ++ [mergeP xi xj]).length := ⟨_, rfl⟩
                go_roundg (ps.length - i)
                case rel => exact ⟨i + 2, A7, c7, by rw [e7, HTW.out], by go_num, by omega, ⟨by have := HE.out; omega⟩, by omega, ⟨by rw [HTW.out, ← e7]; exact HN5.out⟩, HB5⟩
                case measure => omega
              · have d4 : decide ((i : Int) + 1 < (ps.length : Int)) = false := decide_eq_false (by omega)
                have d5 : decide (i + 1 < ps.length) = false := decide_eq_false (by omega)
                obtain ⟨xi, hxi⟩ : ∃ x, x = ps[i]'hlt := ⟨_, rfl⟩
                rw [← hxi] at hV6 hci
                have HTW := Aside0.mk (show pairUp (ps.take (i + 2)) = pairUp (ps.take i) ++ [xi] by
                  rw [List.take_of_length_le (by omega), hxi, ← pairUp_one _ _ htl, ← List.take_succ_eq_append_getElem hlt, List.take_of_length_le (by omega)])
                have HVi := Aside0.mk (Kd.V_below hV NB6.out)
                rw [← hxi] at HVi
                obtain ⟨XS, hXS⟩ : ∃ X, X = pairUp (ps.take i) := ⟨_, rfl⟩
                rw [← hXS] at HTW HN6 hq6 ⊢
                rw [← hq6] at HN6 ⊢
                have HQ6 := Aside0.mk hq6
                have h6b := Kd.N_base HN6.out
                have H6B := Aside0.mk h6b
                clear hV hV6 hxi hXS hq6 htl hcell h6b
                go_wp2_with (first
                  | ((with_reducible refine gate_builtin (b := .append) (xs := #[.tmp 56, .tmp 61]) rfl ?_); at_builtin; refine Kd.N_append kS (w0 := wi) wi.heap.size rfl (.tmp 56) (.tmp 61) 98 22 (.slice none 0 0) 24 rfl Try.underlying98 infoRow rfl (by decide) (by omega) (.slice A6 q6 c6) XS xi [.slice Ai xi.length ci] (okP P0 w.heap.size) (fun k => okP P0 w.heap.size k ∧ k < wi.heap.size) rfl rfl ?aP ?aK ?aF ?aO ?aB ?aS ?aL ?_; (case aP => exact Kd.FK_slice_mk (Kd.V_at HVi.out).2.1 (Kd.V_at HVi.out).2.2); (case aK => exact fun k hk => ⟨hk.1, fun e => by have := H6B.out k e.symm; omega⟩); (case aF => exact fun k hk => .inr (Nat.le_trans NB.out.size (Nat.le_trans NB6.out.size hk))); (case aO => exact HN6.out); (case aB => exact NB6.out); (case aS => exact NB6.out.size); (case aL => rw [← HQ6.out]; omega); intro v5 w5 hn5 hb5 hg5 hat5; have HN5 := Aside0.mk hn5; have HB5 := Aside0.mk hb5; clear hn5 hb5 hg5 hat5))
                obtain ⟨A7, c7, e7⟩ := Kd.N_slice HN5.out
                go_roundg (ps.length - i)
                case rel => exact ⟨i + 2, A7, c7, by rw [e7, HTW.out], by go_num, by omega, ⟨by have := HE.out; omega⟩, by omega, ⟨by rw [HTW.out, ← e7]; exact HN5.out⟩, HB5⟩
                case measure => omega
            · have d3 : decide (i < ps.length) = false := decide_eq_false hlt
              have HT := Aside0.mk (show pairUp (ps.take i) = pairUp ps by rw [List.take_of_length_le (by omega)])
              rw [HT.out] at HN6 ⊢
              have HBB := Aside0.mk (NB.out.trans ⟨NB6.out.os, NB6.out.tape, NB6.out.output, NB6.out.size, fun k hk => NB6.out.block k (Nat.lt_of_lt_of_le hk NB.out.size)⟩)
              have HPU := Aside0.mk (pairUp_len ps)
              go_wp2_with (fail)
              go_roundg (pairUp ps).length
              case rel => exact ⟨pairUp ps, A6, c6, rfl, rfl, by have := HPU.out; have := HPK.out; omega, ⟨HP.out.up⟩, ⟨Kd.N_lower HN6.out NB.out.size⟩, HBB⟩
              case measure => have := HPU.out; have := HPK.out; omega
        · have d2 : decide ((1 : Int) < (ps.length : Int)) = false := decide_eq_false (by omega)
          by_cases h0 : ps.length = 0
          · have d3 : ((ps.length : Int) == 0) = true := beq_iff_eq.mpr (by omega)
            have hp0 : ps = [] := List.eq_nil_of_length_eq_zero h0
            have HS := Aside0.mk (show sortP l = [] by rw [(HP.out.none' hp0)]; unfold sortP; exact List.mergeSort_nil)
            clear h0 hp0
            go_wp2_with (fail)
            go_ret2
            exact ⟨.slice none 0 0, rfl, by rw [HS.out]; exact Kd.V_nil _ _ _ _ _, NB.out⟩
          · have d3 : ((ps.length : Int) == 0) = false := beq_eq_false_iff_ne.mpr (by omega)
            have h01 : 0 < ps.length := by omega
            obtain ⟨g, Ai, ci, hA, hBg, hcell, hV⟩ := part_at HN.out 0 h01
            have HS := Aside0.mk (show ps[0] = sortP l from (HP.out.one' (by omega) h01))
            rw [HS.out] at hV hcell
            have HVV := Aside0.mk hV
            subst hA
            obtain ⟨sl, hsl⟩ : ∃ x, x = (sortP l).length := ⟨_, rfl⟩
            rw [← hsl] at hcell
            have HSL := Aside0.mk hsl
            clear h0 hV hsl
            go_wp2_with (fail)
            go_ret2
            exact ⟨_, rfl, by rw [HSL.out]; exact Kd.V_mono HVV.out (fun k hk => by rcases hk.1 with q | q; exact .inl q.1; exact .inr q), NB.out⟩
    | succ k1 =>
      have hlt : i < l.length := by omega
      have d1 : decide (i < l.length) = true := decide_eq_true hlt
      have hCw := (Kd.V_reads' (Kd.V_below HV.out NB.out)).2.2
      obtain ⟨ad, hA, -⟩ := Kd.at_int hCw (i : Int) (by omega) (by omega)
      obtain ⟨x, hx⟩ : ∃ x, x = l[i] := ⟨_, rfl⟩
      have hF := Kd.F_mid (lo := i) (hi := i + 1) (Kd.V_at (Kd.V_below HV.out NB.out)).2.2 (by omega) (by omega) HCAP.out
      rw [drop_one hlt, ← hx, if_neg (by have := HCAP.out; omega), hA, show (Option.map (fun a => Addr.add a (i * (Kd.int .i64).sz)) (some ad)) = some (ad.add i) by show some (ad.add (i * 1)) = _; rw [Nat.mul_one]] at hF
      have HFK := Aside0.mk (Kd.FK_slice_mk (e := 2) (c := 1) (Nat.le_refl _) hF)
      have hms := map_succ hlt
      rw [← hx] at hms
      obtain ⟨XS, hXS⟩ : ∃ q, q = (l.take i).map (fun x => [x]) := ⟨_, rfl⟩
      have hXL : XS.length = i := by rw [hXS, List.length_map, List.length_take]; omega
      rw [← hXS] at hms HN
      have HMS := Aside0.mk hms
      have HXL := Aside0.mk hXL
      subst hA
      have hsl := run_one (P := Try.prog) 22 2 i22 Try.underlying22 HI.out.1 HI.out.2 ad l.length c i hlt HCAP.out
      clear hCw hx hF hms hXS hXL
      go_wp2_with (first
        | ((with_reducible refine gate_builtin (b := .append) (xs := #[.tmp 18, .tmp 26]) rfl ?_); at_builtin; refine Kd.N_append kS (w0 := w) w.heap.size rfl (.tmp 18) (.tmp 26) 98 22 (.slice none 0 0) 24 rfl Try.underlying98 infoRow rfl (by decide) (by omega) (.slice A4 i c4) XS [x] [.slice (some (ad.add i)) 1 1] (okP P0 w.heap.size) (fun k => P0 k ∧ k < w.heap.size) rfl rfl ?aP ?aK ?aF ?aO ?aB ?aS ?aL ?_; (case aP => exact HFK.out); (case aK => exact fun k hk => ⟨.inl hk, fun e => by have := Kd.N_base HN.out k e.symm; omega⟩); (case aF => exact fun k hk => .inr (Nat.le_trans NB.out.size hk)); (case aO => exact HN.out); (case aB => exact NB.out); (case aS => exact NB.out.size); (case aL => rw [HXL.out]; omega); intro v5 w5 hn5 hb5 hg5 hat5; obtain ⟨A5, c5, e5⟩ := Kd.N_slice hn5; rw [List.length_append, HXL.out, List.length_singleton] at e5; subst e5; rw [← HMS.out] at hn5; have HN5 := Aside0.mk hn5; have HB5 := Aside0.mk hb5; clear hn5 hb5 hg5 hat5))
      go_roundg k1
      case rel => exact ⟨i + 1, A5, c5, rfl, by go_num, by omega, HN5, HB5⟩
      case measure => omega
end Go.Proofs.Ythnihjfdmkfkiaa.Q
