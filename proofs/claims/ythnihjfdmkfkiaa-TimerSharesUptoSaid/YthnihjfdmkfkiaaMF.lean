/- Texts of this claim, laid in one: contracts of functions that the claim reaches, and the plain laws that they want; under no condition beyond those that each theorem states. -/
import Derived.Test.YthnihjfdmkfkiaaME
import Derived.Test.YthnihjfdmkfkiaaMD
import Derived.Test.YthnihjfdmkfkiaaWInvWords
namespace Go.Proofs.Ythnihjfdmkfkiaa.Q
open Go.RowKit Go.Proofs.YthnihjfdmkfkiaaW.PrintWords Go.Proofs.YthnihjfdmkfkiaaW.PrintLast Go.Proofs.YthnihjfdmkfkiaaW.PrintMore Go.Proofs.YthnihjfdmkfkiaaV
set_option linter.unusedVariables false
set_option linter.unusedSimpArgs false

theorem info_i64 : (Try.prog.info? 2).map (fun i => (i.zero, i.size, i.bytes)) = some (some (.int .i64 0), 1, 8) := by kernel_rfl
theorem dropRd {l : List Int} {i : Nat} (h : i < l.length) : l.drop i = rd l (i : Nat) :: l.drop (i + 1) := by
  rw [List.drop_eq_getElem_cons h, rd_getE h]
theorem mergeC (a b : Int) (x y : List Int) : mergeP (a :: x) (b :: y) = if a ≤ b then a :: mergeP x (b :: y) else b :: mergeP (a :: x) y := by
  unfold mergeP
  rw [List.cons_merge_cons]
  unfold leB
  by_cases c : a ≤ b
  · rw [if_pos c, if_pos (by simpa using c)]
  · rw [if_neg c, if_neg (by simpa using c)]
theorem mergeL (y : List Int) : mergeP [] y = y := by simp [mergeP]
theorem mergeR (x : List Int) : mergeP x [] = x := by simp [mergeP]
theorem ref_fine {w : World} {A : Option Addr} {c : Nat} {l : List Int} (h : Kd.C (Kd.int .i64) w A l.length l) (hl : l.length ≤ 1048576) (b : Bool) (hb : b = l.all (fun x => decide (smp x))) :
    Calls Try.prog 33 #[.slice A l.length c] w fun e w' => e = .returned (.bool b) ∧ w' = w := by
  have HR := Aside0.mk hb
  have HC := Aside0.mk h
  clear h hb
  go_enter Try.func33, Try.ntmps33
  go_wp2_with (fail)
  go_loopg [3] l.length (fun kq v3 w' => ∃ i : Nat, v3 = .int .i64 i ∧ i + kq = l.length ∧ Aside0 (b = (l.drop i).all (fun x => decide (smp x))) ∧ w' = w)
  case atStart => exact ⟨0, rfl, by omega, HR, rfl⟩
  case round =>
    clear HR
    obtain ⟨i, rfl, hik, HN, rfl⟩ := hrel
    cases gk with
    | zero =>
      obtain rfl : i = l.length := by omega
      have d1 : decide (l.length < l.length) = false := decide_eq_false (by omega)
      have E := Aside0.mk (show b = true by rw [HN.out, List.drop_length]; rfl)
      go_wp2_with (fail)
      go_ret
      rw [E.out]
      exact ⟨rfl, rfl⟩
    | succ k1 =>
      have hlt : i < l.length := by omega
      have d1 : decide (i < l.length) = true := decide_eq_true hlt
      obtain ⟨ad, rfl, hc⟩ := cell_rd HC.out hlt
      have hd := HN.out
      rw [dropRd hlt, List.all_cons] at hd
      obtain ⟨x, hx⟩ : ∃ x, x = rd l (i : Nat) := ⟨_, rfl⟩
      rw [← hx] at hc hd
      clear hx
      by_cases h1 : x < 0
      · have d2 : decide (x < 0) = true := decide_eq_true h1
        have E := Aside0.mk (show b = false by rw [hd, decide_eq_false (by unfold smp; omega)]; rfl)
        clear hd
        go_wp2_with (fail)
        go_ret
        rw [E.out]
        exact ⟨rfl, rfl⟩
      have d2 : decide (x < 0) = false := decide_eq_false h1
      by_cases h2 : 100000000000000 < x
      · have d3 : decide (100000000000000 < x) = true := decide_eq_true h2
        have E := Aside0.mk (show b = false by rw [hd, decide_eq_false (by unfold smp; omega)]; rfl)
        clear hd
        go_wp2_with (fail)
        go_ret
        rw [E.out]
        exact ⟨rfl, rfl⟩
      have d3 : decide (100000000000000 < x) = false := decide_eq_false h2
      have HN2 := Aside0.mk (show b = (l.drop (i + 1)).all (fun x => decide (smp x)) by rw [hd, decide_eq_true (by unfold smp; omega), Bool.true_and])
      clear hd
      go_wp2_with (fail)
      go_roundg k1
      case rel => exact ⟨i + 1, by go_num, by omega, HN2, rfl⟩
      case measure => omega
set_option maxHeartbeats 3200000 in
theorem ref_Merge {w : World} {A B : Option Addr} {ca cb : Nat} {a b : List Int} (ha : Kd.C (Kd.int .i64) w A a.length a) (hb : Kd.C (Kd.int .i64) w B b.length b) (la : a.length + b.length ≤ 1048576) :
    Calls Try.prog 20 #[.slice A a.length ca, .slice B b.length cb] w fun e w' => ∃ A' c', e = .returned (.slice A' (mergeP a b).length c') ∧ Kd.C (Kd.int .i64) w' A' (mergeP a b).length (mergeP a b) ∧ (mergeP a b).length ≤ c' ∧ Below w.heap.size w w' := by
  have HA := Aside0.mk ha
  have HB := Aside0.mk hb
  have HK := Aside0.mk (Below.refl w.heap.size w)
  obtain ⟨R, hR⟩ : ∃ R, R = mergeP a b := ⟨_, rfl⟩
  have HR0 := Aside0.mk hR
  have hRl : R.length = a.length + b.length := by rw [hR, mergeP_len]
  rw [← hR]
  clear ha hb hR
  go_enter Try.func20, Try.ntmps20
  go_wp2
  go_loopg [5, 6, 7] (a.length + b.length) (fun kq v5 v6 v7 w' => ∃ (i k : Nat) (acc : List Int) (A5 : Option Addr) (c5 : Nat), v5 = .slice A5 acc.length c5 ∧ v6 = .int .i64 i ∧ v7 = .int .i64 k ∧ i ≤ a.length ∧ k ≤ b.length ∧ i + k + kq = a.length + b.length ∧ acc.length = i + k ∧ Aside0 (acc ++ mergeP (a.drop i) (b.drop k) = R) ∧ Aside0 (Kd.R (Kd.int .i64) 2 w' w.heap.size (fun _ => True) (.slice A5 acc.length c5) acc) ∧ Aside0 (Below w.heap.size w w'))
  case atStart => exact ⟨0, 0, [], none, 0, rfl, rfl, rfl, by omega, by omega, by omega, rfl, ⟨HR0.out.symm⟩, ⟨Kd.R_nil _ _ _ _ _⟩, HK⟩
  case round =>
    clear HK HR0
    obtain ⟨i, k, acc, A5, c5, rfl, rfl, rfl, hia, hkb, hik, hal, HE, HR, HK⟩ := hrel
    have hBw := HK.out.size
    cases gk with
    | zero =>
      have d1 : decide (i < a.length) = false := decide_eq_false (by omega)
      have d2 : decide (k < b.length) = false := decide_eq_false (by omega)
      have e1 := HE.out
      rw [List.drop_eq_nil_of_le (show a.length ≤ i by omega), mergeL, List.drop_eq_nil_of_le (show b.length ≤ k by omega), List.append_nil] at e1
      have E1 := Aside0.mk e1
      clear e1 hal
      go_wp2_with (fail)
      go_ret
      rw [← E1.out]
      exact ⟨_, _, rfl, (Kd.R_reads' HR.out).2.2, (Kd.R_reads' HR.out).2.1, HK.out⟩
    | succ k1 =>
      have HAL := Aside0.mk hal
      have hacc : acc.length ≤ 1048576 := by omega
      clear hal
      by_cases hk : b.length ≤ k
      · have hlt : i < a.length := by omega
        have d1 : decide (i < a.length) = true := decide_eq_true hlt
        have d3 : decide (b.length ≤ k) = true := decide_eq_true hk
        obtain ⟨ad, rfl, hc⟩ := cell_rd (Kd.C_below HA.out HK.out) hlt
        obtain ⟨x, hx⟩ : ∃ x, x = rd a (i : Nat) := ⟨_, rfl⟩
        have e1 := HE.out
        rw [List.drop_eq_nil_of_le hk, mergeR, dropRd hlt, ← hx] at e1
        rw [← hx] at hc
        have HE1 := Aside0.mk (show (acc ++ [x]) ++ mergeP (a.drop (i + 1)) (b.drop k) = R by rw [List.drop_eq_nil_of_le hk, mergeR, List.append_assoc]; exact e1)
        clear e1 hx HE
        go_upto_region 4 with (fail)
        go_quiet (fail)
        have R4 := Aside0.mk (Kd.R_drewN HR.out nq)
        have K4 := Aside0.mk (pw_below_drewN HK.out nq)
        have hB4 : w.heap.size ≤ (wr.drewN nq).heap.size := hBw
        obtain ⟨V, hV⟩ : ∃ V, V = wr.drewN nq := ⟨_, rfl⟩
        have hcd : (wr.drewN nq).cell? (ad.add i) = some (.int .i64 x) := hc
        rw [← hV] at hcd
        rw [← hV] at R4 K4 hB4 ⊢
        clear hV
        go_wp2_with (first
          | ((with_reducible refine gate_builtin (b := .append) (xs := #[.tmp 39, .tmp 44]) rfl ?_); at_builtin; refine Kd.R_append (Kd.int .i64) (w0 := V) w.heap.size rfl (.tmp 39) (.tmp 44) 22 2 (.int .i64 0) 8 rfl Try.underlying22 info_i64 rfl (by decide) (by omega) (.slice A5 acc.length c5) acc x [.int .i64 x] (fun _ => True) (fun _ => False) rfl rfl ?aP (fun _ hk => hk.elim) ?aF ?aO ?aB ?aS ?aL ?_; (case aP => exact rfl); (case aB => exact Below.refl _ _); (case aF => exact (fun _ _ => trivial)); (case aO => exact R4.out); (case aS => exact hB4); (case aL => omega); intro v5 w5 ho5 _ hg5 hat5; obtain ⟨H2, hH2⟩ : ∃ l : List Int, l = acc ++ [x] := ⟨_, rfl⟩; rw [← hH2] at ho5; have NH2 := Aside0.mk hH2; clear hH2; obtain ⟨A2, cp2, ev2⟩ := Kd.R_slice ho5; subst ev2; have HR2 := Aside0.mk ho5; have HG2 := Aside0.mk hg5; clear ho5 hg5 hat5))
        go_roundg k1
        case rel =>
          have hgk := grown_keep HG2.out
          refine ⟨i + 1, k, H2, A2, cp2, rfl, by go_num, by go_num, by omega, by omega, by omega, by rw [NH2.out, List.length_append, HAL.out]; simp only [List.length_cons, List.length_nil]; omega, ⟨by rw [NH2.out]; exact HE1.out⟩, HR2, ⟨K4.out.trans (hgk.below hB4 (fun k hk => ?_))⟩⟩
          obtain ⟨inner, ho⟩ := Kd.R_own R4.out
          exact own_base ho k hk.symm
        case measure => omega
      · have hlb : k < b.length := by omega
        have d3 : decide (b.length ≤ k) = false := decide_eq_false hk
        have d4 : decide (k < b.length) = true := decide_eq_true hlb
        obtain ⟨ad2, rfl, hc2⟩ := cell_rd (Kd.C_below HB.out HK.out) hlb
        obtain ⟨y, hy⟩ : ∃ x, x = rd b (k : Nat) := ⟨_, rfl⟩
        have e1 := HE.out
        rw [dropRd hlb, ← hy] at e1
        rw [← hy] at hc2
        by_cases hlt : i < a.length
        · have d1 : decide (i < a.length) = true := decide_eq_true hlt
          obtain ⟨ad, rfl, hc⟩ := cell_rd (Kd.C_below HA.out HK.out) hlt
          obtain ⟨x, hx⟩ : ∃ x, x = rd a (i : Nat) := ⟨_, rfl⟩
          rw [dropRd hlt, ← hx, mergeC] at e1
          rw [← hx] at hc
          by_cases hxy : x ≤ y
          · have d5 : decide (x ≤ y) = true := decide_eq_true hxy
            rw [if_pos hxy] at e1
            have HE1 := Aside0.mk (show (acc ++ [x]) ++ mergeP (a.drop (i + 1)) (b.drop k) = R by rw [dropRd hlb, ← hy, List.append_assoc]; exact e1)
            clear e1 hx hy HE
            go_upto_region 4 with (fail)
            go_quiet (fail)
            have R4 := Aside0.mk (Kd.R_drewN HR.out nq)
            have K4 := Aside0.mk (pw_below_drewN HK.out nq)
            have hB4 : w.heap.size ≤ (wr.drewN nq).heap.size := hBw
            obtain ⟨V, hV⟩ : ∃ V, V = wr.drewN nq := ⟨_, rfl⟩
            have hcd : (wr.drewN nq).cell? (ad.add i) = some (.int .i64 x) := hc
            rw [← hV] at hcd
            rw [← hV] at R4 K4 hB4 ⊢
            clear hV
            go_wp2_with (first
              | ((with_reducible refine gate_builtin (b := .append) (xs := #[.tmp 39, .tmp 44]) rfl ?_); at_builtin; refine Kd.R_append (Kd.int .i64) (w0 := V) w.heap.size rfl (.tmp 39) (.tmp 44) 22 2 (.int .i64 0) 8 rfl Try.underlying22 info_i64 rfl (by decide) (by omega) (.slice A5 acc.length c5) acc x [.int .i64 x] (fun _ => True) (fun _ => False) rfl rfl ?aP (fun _ hk => hk.elim) ?aF ?aO ?aB ?aS ?aL ?_; (case aP => exact rfl); (case aB => exact Below.refl _ _); (case aF => exact (fun _ _ => trivial)); (case aO => exact R4.out); (case aS => exact hB4); (case aL => omega); intro v5 w5 ho5 _ hg5 hat5; obtain ⟨H2, hH2⟩ : ∃ l : List Int, l = acc ++ [x] := ⟨_, rfl⟩; rw [← hH2] at ho5; have NH2 := Aside0.mk hH2; clear hH2; obtain ⟨A2, cp2, ev2⟩ := Kd.R_slice ho5; subst ev2; have HR2 := Aside0.mk ho5; have HG2 := Aside0.mk hg5; clear ho5 hg5 hat5))
            go_roundg k1
            case rel =>
              have hgk := grown_keep HG2.out
              refine ⟨i + 1, k, H2, A2, cp2, rfl, by go_num, by go_num, by omega, by omega, by omega, by rw [NH2.out, List.length_append, HAL.out]; simp only [List.length_cons, List.length_nil]; omega, ⟨by rw [NH2.out]; exact HE1.out⟩, HR2, ⟨K4.out.trans (hgk.below hB4 (fun k hk => ?_))⟩⟩
              obtain ⟨inner, ho⟩ := Kd.R_own R4.out
              exact own_base ho k hk.symm
            case measure => omega
          · have d5 : decide (x ≤ y) = false := decide_eq_false hxy
            rw [if_neg hxy] at e1
            have HE1 := Aside0.mk (show (acc ++ [y]) ++ mergeP (a.drop i) (b.drop (k + 1)) = R by rw [dropRd hlt, ← hx, List.append_assoc]; exact e1)
            clear e1 hx hy HE
            go_upto_region 4 with (fail)
            go_quiet (fail)
            have R4 := Aside0.mk (Kd.R_drewN HR.out nq)
            have K4 := Aside0.mk (pw_below_drewN HK.out nq)
            have hB4 : w.heap.size ≤ (wr.drewN nq).heap.size := hBw
            obtain ⟨V, hV⟩ : ∃ V, V = wr.drewN nq := ⟨_, rfl⟩
            have hcd : (wr.drewN nq).cell? (ad2.add k) = some (.int .i64 y) := hc2
            rw [← hV] at hcd
            rw [← hV] at R4 K4 hB4 ⊢
            clear hV
            go_wp2_with (first
              | ((with_reducible refine gate_builtin (b := .append) (xs := #[.tmp 48, .tmp 53]) rfl ?_); at_builtin; refine Kd.R_append (Kd.int .i64) (w0 := V) w.heap.size rfl (.tmp 48) (.tmp 53) 22 2 (.int .i64 0) 8 rfl Try.underlying22 info_i64 rfl (by decide) (by omega) (.slice A5 acc.length c5) acc y [.int .i64 y] (fun _ => True) (fun _ => False) rfl rfl ?aP (fun _ hk => hk.elim) ?aF ?aO ?aB ?aS ?aL ?_; (case aP => exact rfl); (case aB => exact Below.refl _ _); (case aF => exact (fun _ _ => trivial)); (case aO => exact R4.out); (case aS => exact hB4); (case aL => omega); intro v5 w5 ho5 _ hg5 hat5; obtain ⟨H2, hH2⟩ : ∃ l : List Int, l = acc ++ [y] := ⟨_, rfl⟩; rw [← hH2] at ho5; have NH2 := Aside0.mk hH2; clear hH2; obtain ⟨A2, cp2, ev2⟩ := Kd.R_slice ho5; subst ev2; have HR2 := Aside0.mk ho5; have HG2 := Aside0.mk hg5; clear ho5 hg5 hat5))
            go_roundg k1
            case rel =>
              have hgk := grown_keep HG2.out
              refine ⟨i, k + 1, H2, A2, cp2, rfl, by go_num, by go_num, by omega, by omega, by omega, by rw [NH2.out, List.length_append, HAL.out]; simp only [List.length_cons, List.length_nil]; omega, ⟨by rw [NH2.out]; exact HE1.out⟩, HR2, ⟨K4.out.trans (hgk.below hB4 (fun k hk => ?_))⟩⟩
              obtain ⟨inner, ho⟩ := Kd.R_own R4.out
              exact own_base ho k hk.symm
            case measure => omega
        · have d1 : decide (i < a.length) = false := decide_eq_false hlt
          rw [List.drop_eq_nil_of_le (show a.length ≤ i by omega), mergeL] at e1
          have HE1 := Aside0.mk (show (acc ++ [y]) ++ mergeP (a.drop i) (b.drop (k + 1)) = R by rw [List.drop_eq_nil_of_le (show a.length ≤ i by omega), mergeL, List.append_assoc]; exact e1)
          clear e1 hy HE
          go_upto_region 4 with (fail)
          go_quiet (fail)
          have R4 := Aside0.mk (Kd.R_drewN HR.out nq)
          have K4 := Aside0.mk (pw_below_drewN HK.out nq)
          have hB4 : w.heap.size ≤ (wr.drewN nq).heap.size := hBw
          obtain ⟨V, hV⟩ : ∃ V, V = wr.drewN nq := ⟨_, rfl⟩
          have hcd : (wr.drewN nq).cell? (ad2.add k) = some (.int .i64 y) := hc2
          rw [← hV] at hcd
          rw [← hV] at R4 K4 hB4 ⊢
          clear hV
          go_wp2_with (first
            | ((with_reducible refine gate_builtin (b := .append) (xs := #[.tmp 48, .tmp 53]) rfl ?_); at_builtin; refine Kd.R_append (Kd.int .i64) (w0 := V) w.heap.size rfl (.tmp 48) (.tmp 53) 22 2 (.int .i64 0) 8 rfl Try.underlying22 info_i64 rfl (by decide) (by omega) (.slice A5 acc.length c5) acc y [.int .i64 y] (fun _ => True) (fun _ => False) rfl rfl ?aP (fun _ hk => hk.elim) ?aF ?aO ?aB ?aS ?aL ?_; (case aP => exact rfl); (case aB => exact Below.refl _ _); (case aF => exact (fun _ _ => trivial)); (case aO => exact R4.out); (case aS => exact hB4); (case aL => omega); intro v5 w5 ho5 _ hg5 hat5; obtain ⟨H2, hH2⟩ : ∃ l : List Int, l = acc ++ [y] := ⟨_, rfl⟩; rw [← hH2] at ho5; have NH2 := Aside0.mk hH2; clear hH2; obtain ⟨A2, cp2, ev2⟩ := Kd.R_slice ho5; subst ev2; have HR2 := Aside0.mk ho5; have HG2 := Aside0.mk hg5; clear ho5 hg5 hat5))
          go_roundg k1
          case rel =>
            have hgk := grown_keep HG2.out
            refine ⟨i, k + 1, H2, A2, cp2, rfl, by go_num, by go_num, by omega, by omega, by omega, by rw [NH2.out, List.length_append, HAL.out]; simp only [List.length_cons, List.length_nil]; omega, ⟨by rw [NH2.out]; exact HE1.out⟩, HR2, ⟨K4.out.trans (hgk.below hB4 (fun k hk => ?_))⟩⟩
            obtain ⟨inner, ho⟩ := Kd.R_own R4.out
            exact own_base ho k hk.symm
          case measure => omega
end Go.Proofs.Ythnihjfdmkfkiaa.Q

namespace Go.Proofs.Ythnihjfdmkfkiaa.Q
open Go.RowKit Go.Proofs.YthnihjfdmkfkiaaW.PrintWords Go.Proofs.YthnihjfdmkfkiaaW.PrintLast Go.Proofs.YthnihjfdmkfkiaaW.PrintMore Go.Proofs.YthnihjfdmkfkiaaV
set_option linter.unusedVariables false
set_option linter.unusedSimpArgs false

theorem wrap_small {m : Nat} (h : m ≤ 1048576) : IntKind.i64.wrap (m : Int) = (m : Int) ∧ wrap64 (m : Int) = (m : Int) := by
  have h2 : wrap64 (m : Int) = (m : Int) := by unfold wrap64; omega
  exact ⟨(i64_w _).trans h2, h2⟩
theorem sortP_short {l : List Int} (h : l.length < 2) : sortP l = l := by
  match l, h with
  | [], _ => simp [sortP]
  | [x], _ => simp [sortP]
theorem sortP_halves (l : List Int) (m : Nat) : mergeP (sortP (l.take m)) (sortP (l.drop m)) = sortP l := by
  refine sortP_of (mergeP_rise (sortP_rise _) (sortP_rise _)) ((mergeP_perm _ _).trans (((sortP_perm _).append (sortP_perm _)).trans ?_))
  rw [List.take_append_drop]
theorem sortP_length (l : List Int) : (sortP l).length = l.length := (sortP_perm l).length_eq
set_option maxHeartbeats 3200000 in
set_option maxRecDepth 4000 in
theorem ref_Sorted : ∀ (N : Nat) {w : World} {A : Option Addr} {c n : Nat} {l : List Int}, n ≤ N → l.length = n → Kd.C (Kd.int .i64) w A n l → n ≤ c → n ≤ 1048576 →
    Calls Try.prog 34 #[.slice A n c] w fun e w' => ∃ A' c', e = .returned (.slice A' (sortP l).length c') ∧ Kd.C (Kd.int .i64) w' A' (sortP l).length (sortP l) ∧ (sortP l).length ≤ c' ∧ Below w.heap.size w w' := by
  intro N
  induction N with
  | zero =>
    intro w A c n l hN hl h hc hx
    obtain rfl : n = 0 := by omega
    have hs := sortP_short (l := l) (by omega)
    rw [hs]
    have d1 : decide ((0 : Int) < 2) = true := by decide
    have d1n : decide ((0 : Nat) < 2) = true := by decide
    have HC := Aside0.mk h
    have HLl := Aside0.mk hl
    clear h hs
    go_enter Try.func34, Try.ntmps34
    go_wp2_with (fail)
    go_ret
    exact ⟨A, c, by rw [HLl.out]; rfl, by rw [HLl.out]; exact HC.out, by omega, Below.refl _ _⟩
  | succ N ih =>
    intro w A c n l hN hl h hc hx
    by_cases h2 : n < 2
    · have hs := sortP_short (l := l) (by omega)
      rw [hs]
      have d1 : decide (n < 2) = true := decide_eq_true h2
      have d1i : decide ((n : Int) < 2) = true := decide_eq_true (by omega)
      have HC := Aside0.mk h
      have HLl := Aside0.mk hl
      clear h hs hl ih
      go_enter Try.func34, Try.ntmps34
      go_wp2_with (fail)
      go_ret
      exact ⟨A, c, by rw [HLl.out]; rfl, by rw [HLl.out]; exact HC.out, by rw [HLl.out]; exact hc, Below.refl _ _⟩
    · have d1 : decide (n < 2) = false := decide_eq_false h2
      have d1i : decide ((n : Int) < 2) = false := decide_eq_false (by omega)
      obtain ⟨ad, rfl, -⟩ := h.2.2 (by omega)
      have ha0 : ad.add 0 = ad := by simp [Addr.add]
      obtain ⟨m, hm⟩ : ∃ m, m = n / 2 := ⟨_, rfl⟩
      have i1 : (n : Int) / 2 = (m : Int) := by omega
      have hmn : 1 ≤ m ∧ m < n := by omega
      obtain ⟨i5, hi5, hz⟩ := Option.map_eq_some_iff.1 info_i64
      simp only [Prod.mk.injEq] at hz
      have r1 := run_cuth (P := Try.prog) 22 2 i5 Try.underlying22 hi5 hz.2.1 (some ad) n c (m : Int) (by omega) (by omega) hc
      have r2 := cut_from (P := Try.prog) 22 2 .i64 Try.underlying22 hi5 1 hz.2.1 (some ad) n c (m : Int) (by omega) (by omega)
      rw [Int.toNat_natCast] at r1 r2
      have hC2 := h
      rw [← hl] at hC2
      have t1 := Kd.C_take (m := m) hC2 (by omega)
      have t2 := Kd.C_drop (m := m) (c := c) hC2 (by omega) (by omega)
      rw [if_neg (by omega)] at r2 t2
      have hsz : (Kd.int IntKind.i64).sz = 1 := rfl
      rw [hsz] at t2
      have lt1 : (l.take m).length = m := by rw [List.length_take]; omega
      have lt2 : (l.drop m).length = n - m := by rw [List.length_drop]; omega
      rw [lt1] at t1
      rw [lt2] at t2
      have e2 : Option.map (fun x => Addr.add x (m * 1)) (some ad) = some (ad.add m) := by rw [Nat.mul_one]; rfl
      rw [e2] at r2 t2
      have cm : (c = m) = False := eq_false (by omega)
      have c0 : (c = 0) = False := eq_false (by omega)
      have HS1 := Aside0.mk (fun (W : World) (hb : Below w.heap.size w W) => ih (w := W) (A := some ad) (c := c) (n := m) (l := l.take m) (by omega) lt1 (Kd.C_below t1 hb) (by omega) (by omega))
      have HS2 := Aside0.mk (fun (W : World) (hb : Below w.heap.size w W) => ih (w := W) (A := some (ad.add m)) (c := c - m) (n := n - m) (l := l.drop m) (by omega) lt2 (Kd.C_below t2 hb) (by omega) (by omega))
      have HMe := Aside0.mk (sortP_halves l m)
      have hL1 : (sortP (l.take m)).length + (sortP (l.drop m)).length ≤ 1048576 := by rw [sortP_length, sortP_length]; omega
      have HL1 := Aside0.mk hL1
      have HB0 := Aside0.mk (below_drew (Below.refl w.heap.size w))
      have hw1 : IntKind.i64.wrap (m : Int) = (m : Int) := (wrap_small (Nat.le_trans (Nat.le_of_lt hmn.2) hx)).1
      have hw2 : wrap64 (m : Int) = (m : Int) := (wrap_small (Nat.le_trans (Nat.le_of_lt hmn.2) hx)).2
      have hmn1 : m < n := hmn.2
      have hmx : m ≤ 1048576 := Nat.le_trans (Nat.le_of_lt hmn.2) hx
      clear hL1
      clear ih hm hi5 hz hC2 t1 t2 hsz lt1 lt2 e2 h hl
      go_enter Try.func34, Try.ntmps34
      go_upto_region 3 with (fail)
      go_region_held3 (fun w' => True) (trivial) (first
        | (go_at_call 34; (with_reducible refine (HS1.out _ HB0.out).mono ?_); rintro e w5 ⟨A5, c5, rfl, h5, l5, b5⟩; have H5 := Aside0.mk h5; have HB5 := Aside0.mk (hop HB0.out b5); clear h5 b5)
        | (go_at_call 34; (with_reducible refine (HS2.out _ HB5.out).mono ?_); rintro e w6 ⟨A6, c6, rfl, h6, l6, b6⟩; have H6 := Aside0.mk h6; have H5 := Aside0.mk (Kd.C_below H5.out b6); have HB6 := Aside0.mk (hop HB5.out b6); clear h6 b6)
        | (go_at_call 20; (with_reducible refine (ref_Merge H5.out H6.out HL1.out).mono ?_); rintro e w7 ⟨A7, c7, rfl, h7, l7, b7⟩; rw [HMe.out] at h7 l7 ⊢; have H7 := Aside0.mk h7; have L7 := Aside0.mk l7; have HB7 := Aside0.mk (hop HB6.out b7); clear h7 b7 l7))
      all_goals
        go_wp2_with (fail)
        go_ret
        exact ⟨_, _, rfl, H7.out, L7.out, HB7.out⟩
end Go.Proofs.Ythnihjfdmkfkiaa.Q
