import Derived.Test.YthnihjfdmkfkiaaTSum
import Derived.Test.YthnihjfdmkfkiaaTSrtP
import Derived.Outline
namespace Go.Proofs.Ythnihjfdmkfkiaa.Q
open Go.RowKit Go.Proofs.YthnihjfdmkfkiaaW.PrintWords Go.Proofs.YthnihjfdmkfkiaaW.PrintLast Go.Proofs.YthnihjfdmkfkiaaW.PrintMore Go.Proofs.YthnihjfdmkfkiaaV
set_option linter.unusedVariables false
set_option linter.unusedSimpArgs false
instance (x : Int) : Decidable (smp x) := by unfold smp; infer_instance
/-- Is it none? -/
def badB (v : Int) : Bool := decide (¬ smp v)
set_option maxHeartbeats 800000 in
theorem sorted1 (v : Int) (w : World) : Calls Try.prog 54 #[.int .i64 v] w fun e w' => e = .returned (.bool (badB v)) ∧ w = w' := by
  obtain ⟨b, hb⟩ : ∃ b, b = badB v := ⟨_, rfl⟩
  rw [← hb]
  unfold badB smp at hb
  by_cases h1 : v < 0
  · have d1 : decide (v < 0) = true := decide_eq_true h1
    have e : b = true := by rw [hb]; simp; omega
    subst e
    clear hb h1
    go_enter Try.func54, Try.ntmps54
    go_wp2
    go_ret
    exact ⟨rfl, rfl⟩
  · have d1 : decide (v < 0) = false := decide_eq_false h1
    by_cases h2 : 100000000000000 < v
    · have d2 : decide (100000000000000 < v) = true := decide_eq_true h2
      have e : b = true := by rw [hb]; simp; omega
      subst e
      clear hb h1 h2
      go_enter Try.func54, Try.ntmps54
      go_wp2
      go_ret
      exact ⟨rfl, rfl⟩
    · have d2 : decide (100000000000000 < v) = false := decide_eq_false h2
      have e : b = false := by rw [hb]; simp; omega
      subst e
      clear hb h1 h2
      go_enter Try.func54, Try.ntmps54
      go_wp2
      go_ret
      exact ⟨rfl, rfl⟩
/-- Where the first is, or -1. -/
def idxF (p : Int → Bool) (l : List Int) : Int := match l.findIdx? p with | none => -1 | some i => (i : Int)
theorem idxF_none {p : Int → Bool} {l : List Int} (h : ∀ (j : Nat) x, l[j]? = some x → p x = false) : idxF p l = -1 := by
  unfold idxF
  rw [List.findIdx?_eq_none_iff.2 (fun x hx => by
    obtain ⟨j, hj⟩ := List.mem_iff_getElem?.1 hx
    exact h j x hj)]
theorem idxF_some {p : Int → Bool} {l : List Int} {i : Nat} {x : Int} (hx : l[i]? = some x) (hp : p x = true) (h : ∀ j : Nat, j < i → ∀ y, l[j]? = some y → p y = false) : idxF p l = (i : Int) := by
  unfold idxF
  obtain ⟨hl, hx2⟩ := List.getElem?_eq_some_iff.1 hx
  rw [List.findIdx?_eq_some_iff_getElem.2 ⟨hl, by rw [hx2]; exact hp, fun j hj => by
    have := h j hj _ (List.getElem?_eq_getElem (by omega))
    simp [this]⟩]
set_option maxHeartbeats 1600000 in
theorem index_bad {w : World} {A : Option Addr} {c : Nat} {l : List Int} (h : Kd.C (Kd.int .i64) w A l.length l) (hl : l.length ≤ 1048576) :
    Calls Try.prog 50 #[.slice A l.length c, .func (.func 54) #[] #[]] w fun e w' => e = .returned (.int .i64 (idxF badB l)) ∧ w = w' := by
  obtain ⟨r, hr⟩ : ∃ r, r = idxF badB l := ⟨_, rfl⟩
  rw [← hr]
  have HR := Aside0.mk hr
  have HC := Aside0.mk h
  clear h hr
  go_enter Try.func50, Try.ntmps50
  go_wp2_with (fail)
  go_loopg [8] l.length (fun kq v8 w' => ∃ i : Nat, v8 = .int .i64 i ∧ i + kq = l.length ∧ Aside0 (∀ j : Nat, j < i → ∀ y, l[j]? = some y → badB y = false) ∧ w' = w)
  case atStart => exact ⟨0, rfl, by omega, ⟨fun j hj => by omega⟩, rfl⟩
  case round =>
    obtain ⟨i, rfl, hik, HN, rfl⟩ := hrel
    cases gk with
    | zero =>
      obtain rfl : i = l.length := by omega
      have d1 : decide (l.length < l.length) = false := decide_eq_false (by omega)
      have E := Aside0.mk (show r = -1 by rw [HR.out]; exact idxF_none (fun j x hx => HN.out j (List.getElem?_eq_some_iff.1 hx).1 x hx))
      go_wp2_with (fail)
      go_ret
      rw [E.out]
      exact ⟨rfl, rfl⟩
    | succ k1 =>
      have hlt : i < l.length := by omega
      have d1 : decide (i < l.length) = true := decide_eq_true hlt
      obtain ⟨ad, hA, hc⟩ := Kd.at_int HC.out (i : Int) (by omega) (by omega)
      obtain ⟨x, hx⟩ : ∃ x, x = l[i] := ⟨_, rfl⟩
      have hx2 : l[i]? = some x := by rw [hx]; exact List.getElem?_eq_getElem hlt
      rw [show rd l (i : Int) = x by unfold rd; rw [Int.toNat_natCast, hx]; simp [List.getD_eq_getElem?_getD, hlt]] at hc
      rw [Int.toNat_natCast] at hc
      subst hA
      obtain ⟨b, hb⟩ : ∃ b, b = badB x := ⟨_, rfl⟩
      have HS := Aside0.mk (sorted1 x wr)
      rw [← hb] at HS
      cases b with
      | true =>
        have E := Aside0.mk (show r = (i : Int) by rw [HR.out]; exact idxF_some hx2 hb.symm HN.out)
        clear hx hx2 hb
        go_wp2_with (first | (go_at_call 54; (with_reducible refine (HS.out).mono ?_); rintro e w1 ⟨rfl, rfl⟩))
        go_ret
        rw [E.out]
        exact ⟨rfl, rfl⟩
      | false =>
        have HN2 := Aside0.mk (show ∀ j, j < i + 1 → ∀ y, l[j]? = some y → badB y = false from fun j hj y hy => by
          by_cases e : j = i
          · subst e; rw [hx2] at hy; injection hy with hy; subst hy; exact hb.symm
          · exact HN.out j (by omega) y hy)
        clear hx hx2 hb HN
        go_wp2_with (first | (go_at_call 54; (with_reducible refine (HS.out).mono ?_); rintro e w1 ⟨rfl, rfl⟩))
        go_roundg k1
        case rel => exact ⟨i + 1, by go_num, by omega, HN2, rfl⟩
        case measure => omega
theorem contains_bad {w : World} {A : Option Addr} {c : Nat} {l : List Int} (h : Kd.C (Kd.int .i64) w A l.length l) (hl : l.length ≤ 1048576) (b : Bool) (hb : b = l.any badB) :
    Calls Try.prog 53 #[.slice A l.length c, .func (.func 54) #[] #[]] w fun e w' => e = .returned (.bool b) ∧ w = w' := by
  have HI := Aside0.mk (index_bad (c := c) h hl)
  obtain ⟨r, hr⟩ : ∃ r, r = idxF badB l := ⟨_, rfl⟩
  rw [← hr] at HI
  have d : decide (0 ≤ r) = b := by
    rw [hr, hb]
    unfold idxF
    cases hf : l.findIdx? badB with
    | none =>
      have := List.findIdx?_eq_none_iff.1 hf
      rw [List.any_eq_false.2 (fun x hx => by rw [this x hx]; simp)]
      rfl
    | some i =>
      obtain ⟨hl2, hp, -⟩ := List.findIdx?_eq_some_iff_getElem.1 hf
      rw [List.any_eq_true.2 ⟨_, List.getElem_mem hl2, hp⟩]
      simp
  clear hr hb h hl
  go_enter Try.func53, Try.ntmps53
  go_wp2_with (first | (go_at_call 50; (with_reducible refine (HI.out).mono ?_); rintro e w1 ⟨rfl, rfl⟩))
  go_ret
  exact ⟨rfl, rfl⟩
end Go.Proofs.Ythnihjfdmkfkiaa.Q
