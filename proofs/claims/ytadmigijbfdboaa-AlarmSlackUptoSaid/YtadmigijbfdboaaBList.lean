import Derived.Test.YtadmigijbfdboaaBWalk
import Derived.Laws.BitsLemmas
namespace Go.Proofs.Ytadmigijbfdboaa.Q
open Go.RowKit Go.Proofs.YtadmigijbfdboaaW.PrintWords Go.Proofs.YtadmigijbfdboaaW.PrintLast Go.Proofs.YtadmigijbfdboaaW.PrintMore Go.Proofs.YtadmigijbfdboaaV
set_option linter.unusedVariables false
set_option linter.unusedSimpArgs false

theorem drop_headD (l : List Int) (i : Nat) : (l.drop i).headD 0 = l.getD i 0 := by
  rw [List.headD_eq_head?_getD, List.head?_drop, List.getD_eq_getElem?_getD]
theorem getD_ok {l : List Int} (h : okL l) (i : Nat) : 0 ≤ l.getD i 0 ∧ l.getD i 0 ≤ 65535 := by
  rw [← drop_headD]; exact okL_headD (okL_drop h i)

theorem R_fresh {α : Type} {d : Kd α} {e : Nat} {w : World} {base : Nat} {ok : Nat → Prop} {A : Option Addr} {n c : Nat} {xs : List α} (h : d.R e w base ok (.slice A n c) xs) : ∀ ad, A = some ad → base ≤ ad.block := by
  intro ad e
  subst e
  obtain ⟨inner, ho⟩ := Kd.R_own h
  exact own_base ho ad.block (by simp [Value.ownBlock])
theorem wraps_u32 (n : Int) (h₀ : 0 ≤ n) (h₁ : n < 2 ^ 32) : IntKind.u32.wrap n = n := by rw [IntKind.wrap_u32]; omega
theorem and16 (x : Int) (h0 : 0 ≤ x) (h1 : x < 4294967296) : bits .and .u32 x 65535 = x % 65536 := bits_mask .u32 32 (by decide) wraps_u32 16 (by decide) x h0 h1
set_option maxHeartbeats 3200000 in
theorem ref_addL {w : World} {A B : Option Addr} {ca cb : Nat} {a b : List Int} (ha : Lm w A ca a) (hb : Lm w B cb b) (la : a.length ≤ 1048576) (lb : b.length ≤ 1048576) :
    Calls Try.prog 45 #[.slice A a.length ca, .slice B b.length cb] w fun e w' => ∃ A' c', e = .returned (.slice A' (limbs (valL a + valL b).toNat).length c') ∧ Lm w' A' c' (limbs (valL a + valL b).toNat) ∧ (∀ ad, A' = some ad → w.heap.size ≤ ad.block) ∧ Below w.heap.size w w' := by
  have HA := Aside0.mk ha
  have HB := Aside0.mk hb
  have HK := Aside0.mk (Below.refl w.heap.size w)
  obtain ⟨m, hm1, hm2, hm3⟩ : ∃ m, a.length ≤ m ∧ b.length ≤ m ∧ m ≤ 1048576 := ⟨max a.length b.length, by omega, by omega, by omega⟩
  obtain ⟨R, hR⟩ : ∃ R, R = addC (m + 2) a b 0 := ⟨_, rfl⟩
  have HS := Aside0.mk (addC_spec (m + 2) a b 0 ha.ok hb.ok (by omega) (by omega) (by omega) (by omega))
  rw [← hR] at HS
  have HR0 := Aside0.mk hR
  clear ha hb hR
  go_enter Try.func45, Try.ntmps45
  go_wp2
  go_loopg [5, 6, 7] (m + 2) (fun kq v5 v6 v7 w' => ∃ (i : Nat) (acc : List Int) (A5 : Option Addr) (c5 : Nat) (cv : Int), v5 = .slice A5 acc.length c5 ∧ v6 = .int .u32 cv ∧ v7 = .int .i64 i ∧ i + kq = m + 2 ∧ i ≤ m + 1 ∧ (i = m + 1 → cv = 0) ∧ 0 ≤ cv ∧ cv ≤ 1 ∧ acc.length = i ∧ Aside0 (acc ++ addC kq (a.drop i) (b.drop i) cv = R) ∧ Aside0 (okL acc) ∧ Aside0 (Kd.R (Kd.int .u32) 96 w' w.heap.size (fun _ => True) (.slice A5 acc.length c5) acc) ∧ Aside0 (Below w.heap.size w w'))
  case atStart => exact ⟨0, [], none, 0, 0, rfl, rfl, rfl, by omega, by omega, by omega, by omega, by omega, rfl, ⟨HR0.out.symm⟩, ⟨okL_nil⟩, ⟨Kd.R_nil _ _ _ _ _⟩, HK⟩
  case round =>
    clear HK
    obtain ⟨i, acc, A5, c5, cv, rfl, rfl, rfl, hik, hi1, hi2, hc0, hc1, hal, HE, HO, HR, HK⟩ := hrel
    have hBw := HK.out.size
    have HA' := Aside0.mk (HA.out.below HK.out)
    have HB' := Aside0.mk (HB.out.below HK.out)
    by_cases hend : i < a.length ∨ i < b.length ∨ cv = 1
    · cases gk with
      | zero => omega
      | succ k1 =>
        have e1 := HE.out
        simp only [addC] at e1
        have hne : ¬ (a.drop i = [] ∧ b.drop i = [] ∧ cv = 0) := by
          rw [List.drop_eq_nil_iff, List.drop_eq_nil_iff]
          omega
        rw [if_neg hne, drop_headD, drop_headD, List.tail_drop, List.tail_drop] at e1
        have qa := getD_ok HA.out.ok i
        have qb := getD_ok HB.out.ok i
        have HLA := Aside0.mk (ref_limb HA'.out i (by omega))
        have HLB := Aside0.mk (ref_limb HB'.out i (by omega))
        have hz : i = m → a.getD i 0 + b.getD i 0 = 0 := by
          intro e
          rw [List.getD_eq_getElem?_getD, List.getD_eq_getElem?_getD, List.getElem?_eq_none (by omega), List.getElem?_eq_none (by omega)]
          rfl
        obtain ⟨x, hx⟩ : ∃ x, x = a.getD i 0 := ⟨_, rfl⟩
        obtain ⟨y, hy⟩ : ∃ y, y = b.getD i 0 := ⟨_, rfl⟩
        rw [← hx, ← hy] at e1
        rw [← hx] at qa hz HLA
        rw [← hy] at qb hz HLB
        have HE1 := Aside0.mk e1
        have HAL := Aside0.mk hal
        have hand := and16 (x + y + cv) (by omega) (by omega)
        have qs : 0 ≤ x + y + cv ∧ x + y + cv ≤ 131071 := by omega
        clear e1 hne hx hy HE hal
        have key : decide (i < a.length) = true ∨ (decide (i < a.length) = false ∧ decide (i < b.length) = true) ∨ (decide (i < a.length) = false ∧ decide (i < b.length) = false ∧ decide (0 < cv) = true) := by
          simp only [decide_eq_true_eq, decide_eq_false_iff_not]
          omega
        have him : i ≤ m := by omega
        have HZ := Aside0.mk hz
        clear hend hz
        rcases key with f1 | ⟨f1, f2⟩ | ⟨f1, f2, f3⟩
        all_goals
          go_wp2_with (first
            | (go_at_call 55; (with_reducible refine (HLA.out).mono ?_); rintro e w' ⟨rfl, rfl⟩)
            | (go_at_call 55; (with_reducible refine (HLB.out).mono ?_); rintro e w' ⟨rfl, rfl⟩)
            | ((with_reducible refine gate_builtin (b := .append) (xs := #[.tmp 34, .tmp 37]) rfl ?_); at_builtin; refine Kd.R_append (Kd.int .u32) (w0 := wr) w.heap.size rfl (.tmp 34) (.tmp 37) 79 96 (.int .u32 0) 4 rfl Try.underlying79 info_u32 rfl (by decide) (by omega) (.slice A5 acc.length c5) acc ((x + y + cv) % 65536) [.int .u32 ((x + y + cv) % 65536)] (fun _ => True) (fun _ => False) rfl rfl ?aP (fun _ hk => hk.elim) ?aF ?aO ?aB ?aS ?aL ?_; (case aP => exact rfl); (case aB => exact Below.refl _ _); (case aF => exact (fun _ _ => trivial)); (case aO => exact HR.out); (case aS => exact hBw); (case aL => rw [HAL.out]; omega); intro v5 w5 ho5 _ hg5 hat5; obtain ⟨H2, hH2⟩ : ∃ l : List Int, l = acc ++ [(x + y + cv) % 65536] := ⟨_, rfl⟩; rw [← hH2] at ho5; have NH2 := Aside0.mk hH2; clear hH2; obtain ⟨A2, cp2, ev2⟩ := Kd.R_slice ho5; subst ev2; have HR2 := Aside0.mk ho5; have HG2 := Aside0.mk hg5; clear ho5 hg5 hat5))
          go_roundg k1
          case rel =>
            have hgk := grown_keep HG2.out
            refine ⟨i + 1, H2, A2, cp2, (x + y + cv) / 65536, rfl, rfl, by go_num, by omega, by omega, by have := HZ.out; omega, by omega, by omega, by rw [NH2.out, List.length_append, HAL.out]; rfl, ⟨by rw [NH2.out, List.append_assoc]; exact HE1.out⟩, ⟨by rw [NH2.out]; exact okL_push HO.out (by omega)⟩, HR2, ⟨HK.out.trans (hgk.below hBw (fun k hk => ?_))⟩⟩
            obtain ⟨inner, ho⟩ := Kd.R_own HR.out
            exact own_base ho k hk.symm
          case measure => omega
    · have f1 : decide (i < a.length) = false := decide_eq_false (by omega)
      have f2 : decide (i < b.length) = false := decide_eq_false (by omega)
      obtain rfl : cv = 0 := by omega
      have e1 := HE.out
      rw [List.drop_eq_nil_of_le (by omega), List.drop_eq_nil_of_le (by omega), addC_none, List.append_nil] at e1
      have hs := HS.out
      rw [← e1, Int.add_zero] at hs
      have HL := Aside0.mk (show Lm wr A5 c5 acc from ⟨(Kd.R_reads' HR.out).2.2, (Kd.R_reads' HR.out).2.1, hs.1⟩)
      have HV := Aside0.mk hs.2
      have HAL := Aside0.mk hal
      clear e1 hs HE hal
      go_wp2_with (first
        | (go_at_call 54; (with_reducible refine (ref_trim HL.out).mono ?_); rintro e w1 ⟨rfl, h1, rfl⟩; rw [HV.out] at h1 ⊢; have H1 := Aside0.mk h1; clear h1))
      go_ret
      exact ⟨_, _, rfl, H1.out, R_fresh HR.out, HK.out⟩

set_option maxHeartbeats 3200000 in
theorem ref_subL {w : World} {A B : Option Addr} {ca cb : Nat} {a b : List Int} (ha : Lm w A ca a) (hb : Lm w B cb b) (la : a.length ≤ 1048576) (hle : valL b ≤ valL a) :
    Calls Try.prog 46 #[.slice A a.length ca, .slice B b.length cb] w fun e w' => ∃ A' c', e = .returned (.slice A' (limbs (valL a - valL b).toNat).length c') ∧ Lm w' A' c' (limbs (valL a - valL b).toNat) ∧ (∀ ad, A' = some ad → w.heap.size ≤ ad.block) ∧ Below w.heap.size w w' := by
  have HA := Aside0.mk ha
  have HB := Aside0.mk hb
  have HK := Aside0.mk (Below.refl w.heap.size w)
  obtain ⟨R, hR⟩ : ∃ R, R = subC a b 0 := ⟨_, rfl⟩
  have HS := Aside0.mk (subC_spec a b 0 ha.ok hb.ok (by omega) (by omega) (by omega))
  rw [← hR] at HS
  have HR0 := Aside0.mk hR
  clear ha hb hR
  go_enter Try.func46, Try.ntmps46
  go_wp2
  go_loopg [5, 6, 7] a.length (fun kq v5 v6 v7 w' => ∃ (i : Nat) (acc : List Int) (A5 : Option Addr) (c5 : Nat) (cv : Int), v5 = .slice A5 acc.length c5 ∧ v6 = .int .u32 cv ∧ v7 = .int .i64 i ∧ i + kq = a.length ∧ 0 ≤ cv ∧ cv ≤ 1 ∧ acc.length = i ∧ Aside0 (acc ++ subC (a.drop i) (b.drop i) cv = R) ∧ Aside0 (okL acc) ∧ Aside0 (Kd.R (Kd.int .u32) 96 w' w.heap.size (fun _ => True) (.slice A5 acc.length c5) acc) ∧ Aside0 (Below w.heap.size w w'))
  case atStart => exact ⟨0, [], none, 0, 0, rfl, rfl, rfl, by omega, by omega, by omega, rfl, ⟨HR0.out.symm⟩, ⟨okL_nil⟩, ⟨Kd.R_nil _ _ _ _ _⟩, HK⟩
  case round =>
    clear HK
    obtain ⟨i, acc, A5, c5, cv, rfl, rfl, rfl, hik, hc0, hc1, hal, HE, HO, HR, HK⟩ := hrel
    have hBw := HK.out.size
    have HA' := Aside0.mk (HA.out.below HK.out)
    have HB' := Aside0.mk (HB.out.below HK.out)
    cases gk with
    | succ k1 =>
        have hia : i < a.length := by omega
        have e1 := HE.out
        rw [List.drop_eq_getElem_cons hia, subC, drop_headD, List.tail_drop] at e1
        have qa := getD_ok HA.out.ok i
        have qb := getD_ok HB.out.ok i
        have HLA := Aside0.mk (ref_limb HA'.out i (by omega))
        have HLB := Aside0.mk (ref_limb HB'.out i (by omega))
        rw [show a[i] = a.getD i 0 by rw [List.getD_eq_getElem?_getD, List.getElem?_eq_getElem hia]; rfl] at e1
        obtain ⟨x, hx⟩ : ∃ x, x = a.getD i 0 := ⟨_, rfl⟩
        obtain ⟨y, hy⟩ : ∃ y, y = b.getD i 0 := ⟨_, rfl⟩
        rw [← hx, ← hy] at e1
        rw [← hx] at qa HLA
        rw [← hy] at qb HLB
        have HE1 := Aside0.mk e1
        have HAL := Aside0.mk hal
        have hand := and16 (x + 65536 - y - cv) (by omega) (by omega)
        have qs : 0 ≤ x + 65536 - y - cv ∧ x + 65536 - y - cv ≤ 131071 := by omega
        have qd : 0 ≤ 1 - (x + 65536 - y - cv) / 65536 ∧ 1 - (x + 65536 - y - cv) / 65536 ≤ 1 := by omega
        have f1 : decide (i < a.length) = true := decide_eq_true hia
        clear e1 hx hy HE hal
        go_wp2_with (first
            | (go_at_call 55; (with_reducible refine (HLA.out).mono ?_); rintro e w' ⟨rfl, rfl⟩)
            | (go_at_call 55; (with_reducible refine (HLB.out).mono ?_); rintro e w' ⟨rfl, rfl⟩)
            | ((with_reducible refine gate_builtin (b := .append) (xs := #[.tmp 25, .tmp 28]) rfl ?_); at_builtin; refine Kd.R_append (Kd.int .u32) (w0 := wr) w.heap.size rfl (.tmp 25) (.tmp 28) 79 96 (.int .u32 0) 4 rfl Try.underlying79 info_u32 rfl (by decide) (by omega) (.slice A5 acc.length c5) acc ((x + 65536 - y - cv) % 65536) [.int .u32 ((x + 65536 - y - cv) % 65536)] (fun _ => True) (fun _ => False) rfl rfl ?aP (fun _ hk => hk.elim) ?aF ?aO ?aB ?aS ?aL ?_; (case aP => exact rfl); (case aB => exact Below.refl _ _); (case aF => exact (fun _ _ => trivial)); (case aO => exact HR.out); (case aS => exact hBw); (case aL => rw [HAL.out]; omega); intro v5 w5 ho5 _ hg5 hat5; obtain ⟨H2, hH2⟩ : ∃ l : List Int, l = acc ++ [(x + 65536 - y - cv) % 65536] := ⟨_, rfl⟩; rw [← hH2] at ho5; have NH2 := Aside0.mk hH2; clear hH2; obtain ⟨A2, cp2, ev2⟩ := Kd.R_slice ho5; subst ev2; have HR2 := Aside0.mk ho5; have HG2 := Aside0.mk hg5; clear ho5 hg5 hat5))
        go_roundg k1
        case rel =>
            have hgk := grown_keep HG2.out
            refine ⟨i + 1, H2, A2, cp2, 1 - (x + 65536 - y - cv) / 65536, rfl, rfl, by go_num, by omega, by omega, by omega, by rw [NH2.out, List.length_append, HAL.out]; rfl, ⟨by rw [NH2.out, List.append_assoc]; exact HE1.out⟩, ⟨by rw [NH2.out]; exact okL_push HO.out (by omega)⟩, HR2, ⟨HK.out.trans (hgk.below hBw (fun k hk => ?_))⟩⟩
            obtain ⟨inner, ho⟩ := Kd.R_own HR.out
            exact own_base ho k hk.symm
        case measure => omega
    | zero =>
      have f1 : decide (i < a.length) = false := decide_eq_false (by omega)
      have e1 := HE.out
      rw [List.drop_eq_nil_of_le (by omega), subC, List.append_nil] at e1
      have hs := HS.out
      rw [← e1, Int.sub_zero] at hs
      have HL := Aside0.mk (show Lm wr A5 c5 acc from ⟨(Kd.R_reads' HR.out).2.2, (Kd.R_reads' HR.out).2.1, hs.1⟩)
      have HV := Aside0.mk hs.2
      have HAL := Aside0.mk hal
      clear e1 hs HE hal
      go_wp2_with (first
        | (go_at_call 54; (with_reducible refine (ref_trim HL.out).mono ?_); rintro e w1 ⟨rfl, h1, rfl⟩; rw [HV.out] at h1 ⊢; have H1 := Aside0.mk h1; clear h1))
      go_ret
      exact ⟨_, _, rfl, H1.out, R_fresh HR.out, HK.out⟩
end Go.Proofs.Ytadmigijbfdboaa.Q
