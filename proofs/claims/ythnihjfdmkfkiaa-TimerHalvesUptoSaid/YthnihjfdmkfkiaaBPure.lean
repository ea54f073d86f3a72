/- Whole numbers as lists of limbs of 16 bits: plain laws, no program in sight. -/
import Derived.Test.YthnihjfdmkfkiaaVObj
namespace Go.Proofs.Ythnihjfdmkfkiaa.Q
set_option linter.unusedVariables false
set_option linter.unusedSimpArgs false

/-- Limbs' number. -/
def valL : List Int → Int
  | [] => 0
  | x :: r => x + 65536 * valL r
def okL (l : List Int) : Prop := ∀ x ∈ l, 0 ≤ x ∧ x ≤ 65535
/-- No 0 at the top. -/
def canL : List Int → Prop
  | [] => True
  | [x] => x ≠ 0
  | _ :: y :: r => canL (y :: r)
/-- Without the 0s at the top. -/
def trimL : List Int → List Int
  | [] => []
  | x :: r => if trimL r = [] ∧ x = 0 then [] else x :: trimL r
theorem okL_nil : okL [] := fun x h => by cases h
theorem okL_cons {x : Int} {r : List Int} (h : okL (x :: r)) : (0 ≤ x ∧ x ≤ 65535) ∧ okL r := ⟨h x List.mem_cons_self, fun y hy => h y (List.mem_cons_of_mem _ hy)⟩
theorem okL_mk {x : Int} {r : List Int} (h : 0 ≤ x ∧ x ≤ 65535) (hr : okL r) : okL (x :: r) := fun y hy => by
  rcases List.mem_cons.1 hy with e | e
  · subst e; exact h
  · exact hr y e
theorem okL_app {a b : List Int} (ha : okL a) (hb : okL b) : okL (a ++ b) := fun x hx => by
  rcases List.mem_append.1 hx with h | h
  · exact ha x h
  · exact hb x h
theorem okL_push {a : List Int} {x : Int} (ha : okL a) (hx : 0 ≤ x ∧ x ≤ 65535) : okL (a ++ [x]) := okL_app ha (okL_mk hx okL_nil)
theorem okL_drop {a : List Int} (ha : okL a) (n : Nat) : okL (a.drop n) := fun x hx => ha x (List.mem_of_mem_drop hx)
theorem okL_take {a : List Int} (ha : okL a) (n : Nat) : okL (a.take n) := fun x hx => ha x (List.mem_of_mem_take hx)
theorem okL_headD {a : List Int} (ha : okL a) : 0 ≤ a.headD 0 ∧ a.headD 0 ≤ 65535 := by
  cases a with
  | nil => simp
  | cons x r => exact (okL_cons ha).1
theorem okL_tail {a : List Int} (ha : okL a) : okL a.tail := by
  cases a with
  | nil => exact okL_nil
  | cons x r => exact (okL_cons ha).2
theorem okL_at {a : List Int} (ha : okL a) (i : Nat) (hi : i < a.length) : 0 ≤ a[i] ∧ a[i] ≤ 65535 := ha _ (List.getElem_mem _)
theorem valL_nonneg : ∀ {l : List Int}, okL l → 0 ≤ valL l
  | [], _ => Int.le_refl 0
  | x :: r, h => by have := okL_cons h; have := valL_nonneg this.2; simp only [valL]; omega
theorem valL_split (a : List Int) : valL a = a.headD 0 + 65536 * valL a.tail := by cases a <;> simp [valL]
theorem trimL_ok : ∀ {l : List Int}, okL l → okL (trimL l)
  | [], _ => okL_nil
  | x :: r, h => by
    have h1 := okL_cons h
    simp only [trimL]
    split
    · exact okL_nil
    · exact okL_mk h1.1 (trimL_ok h1.2)
theorem trimL_val : ∀ l : List Int, valL (trimL l) = valL l
  | [] => rfl
  | x :: r => by
    have ih := trimL_val r
    simp only [trimL]
    split
    · rename_i h; rw [h.1] at ih; simp only [valL] at ih ⊢; omega
    · simp only [valL, ih]
theorem trimL_can : ∀ l : List Int, canL (trimL l)
  | [] => trivial
  | x :: r => by
    have ih := trimL_can r
    simp only [trimL]
    split
    · exact trivial
    · rename_i h
      cases e : trimL r with
      | nil => rw [e] at h; simp only [canL]; simpa using h
      | cons y s => rw [e] at ih; exact ih
theorem canL_tail {x : Int} {r : List Int} (h : canL (x :: r)) : canL r := by
  cases r with
  | nil => trivial
  | cons y s => exact h
theorem canL_pos : ∀ {l : List Int}, okL l → canL l → l ≠ [] → 0 < valL l
  | [], _, _, h => absurd rfl h
  | [x], h, hc, _ => by have := okL_cons h; simp only [canL] at hc; simp only [valL]; omega
  | x :: y :: r, h, hc, _ => by
    have h1 := okL_cons h
    have := canL_pos h1.2 hc (by simp)
    have : valL (x :: y :: r) = x + 65536 * valL (y :: r) := rfl
    omega
theorem canL_nil_iff {l : List Int} (h : okL l) (hc : canL l) : l = [] ↔ valL l = 0 := by
  constructor
  · rintro rfl; rfl
  · intro e
    by_cases hn : l = []
    · exact hn
    · have := canL_pos h hc hn; omega
/-- Equal numbers have equal limbs. -/
theorem canL_inj : ∀ {a b : List Int}, okL a → okL b → canL a → canL b → valL a = valL b → a = b
  | [], b, _, hb, _, cb, e => ((canL_nil_iff hb cb).2 (by rw [← e]; rfl)).symm
  | a, [], ha, _, ca, _, e => (canL_nil_iff ha ca).2 (by rw [e]; rfl)
  | x :: r, y :: s, ha, hb, ca, cb, e => by
    have h1 := okL_cons ha
    have h2 := okL_cons hb
    simp only [valL] at e
    have e1 : x = y := by omega
    have e2 : valL r = valL s := by omega
    rw [e1, canL_inj h1.2 h2.2 (canL_tail ca) (canL_tail cb) e2]
/-- The limbs of a number. -/
def limbsK : Nat → Nat → List Int
  | 0, _ => []
  | k + 1, n => if n = 0 then [] else ((n % 65536 : Nat) : Int) :: limbsK k (n / 65536)
def limbs (n : Nat) : List Int := limbsK n n
theorem limbsK_ok : ∀ k n, okL (limbsK k n)
  | 0, _ => okL_nil
  | k + 1, n => by
    simp only [limbsK]
    split
    · exact okL_nil
    · exact okL_mk (by omega) (limbsK_ok k _)
theorem limbsK_val : ∀ k n, n ≤ k → valL (limbsK k n) = n
  | 0, n, h => by simp only [limbsK, valL]; omega
  | k + 1, n, h => by
    simp only [limbsK]
    split
    · simp only [valL]; omega
    · simp only [valL, limbsK_val k (n / 65536) (by omega)]; omega
theorem limbsK_can : ∀ k n, n ≤ k → canL (limbsK k n)
  | 0, _, _ => trivial
  | k + 1, n, h => by
    simp only [limbsK]
    split
    · exact trivial
    · have hc := limbsK_can k (n / 65536) (by omega)
      have hv := limbsK_val k (n / 65536) (by omega)
      cases e : limbsK k (n / 65536) with
      | nil => rw [e] at hv; simp only [valL] at hv; simp only [canL]; omega
      | cons y s => rw [e] at hc; exact hc
theorem limbs_ok (n : Nat) : okL (limbs n) := limbsK_ok n n
theorem limbs_val (n : Nat) : valL (limbs n) = n := limbsK_val n n (Nat.le_refl n)
theorem limbs_can (n : Nat) : canL (limbs n) := limbsK_can n n (Nat.le_refl n)
theorem trim_limbs {l : List Int} (h : okL l) : trimL l = limbs (valL l).toNat :=
  canL_inj (trimL_ok h) (limbs_ok _) (trimL_can l) (limbs_can _) (by rw [trimL_val, limbs_val]; have := valL_nonneg h; omega)
theorem limbs_zero : limbs 0 = [] := rfl
theorem limbs_nil (n : Nat) : limbs n = [] ↔ n = 0 := by
  rw [canL_nil_iff (limbs_ok n) (limbs_can n), limbs_val]; omega
theorem limbs_of {l : List Int} (h : okL l) (hc : canL l) : l = limbs (valL l).toNat :=
  canL_inj h (limbs_ok _) hc (limbs_can _) (by rw [limbs_val]; have := valL_nonneg h; omega)
/-- What a trim leaves is the list without its last ones. -/
theorem trimL_snoc0 : ∀ l : List Int, trimL (l ++ [0]) = trimL l
  | [] => by simp [trimL]
  | x :: r => by simp only [List.cons_append, trimL, trimL_snoc0 r]
theorem trimL_last : ∀ (l : List Int) (x : Int), x ≠ 0 → trimL (l ++ [x]) = l ++ [x]
  | [], x, h => by simp [trimL, h]
  | y :: r, x, h => by simp [trimL, trimL_last r x h]
theorem trimL_length (l : List Int) : (trimL l).length ≤ l.length := by
  induction l with
  | nil => simp [trimL]
  | cons x r ih => simp only [trimL]; split <;> simp; omega

theorem trimL_prefix : ∀ l : List Int, trimL l = l.take (trimL l).length
  | [] => rfl
  | x :: r => by
    have ih := trimL_prefix r
    simp only [trimL]
    split
    · rfl
    · simp only [List.length_cons, List.take_succ_cons, ← ih]
/-- How many limbs a number has: 65536 ^ k bounds. -/
theorem limbs_len : ∀ (k n : Nat), n < 65536 ^ k → (limbs n).length ≤ k := by
  have key : ∀ (f k n : Nat), n < 65536 ^ k → (limbsK f n).length ≤ k := by
    intro f
    induction f with
    | zero => intro k n _; simp [limbsK]
    | succ f ih =>
      intro k n h
      simp only [limbsK]
      split
      · simp
      · cases k with
        | zero => simp at h; omega
        | succ k =>
          simp only [List.length_cons]
          have := ih k (n / 65536) (by rw [Nat.pow_succ] at h; omega)
          omega
  exact fun k n h => key n k n h

/-- Added, with what is carried. -/
def addC : Nat → List Int → List Int → Int → List Int
  | 0, _, _, _ => []
  | k + 1, a, b, c => if a = [] ∧ b = [] ∧ c = 0 then [] else (a.headD 0 + b.headD 0 + c) % 65536 :: addC k a.tail b.tail ((a.headD 0 + b.headD 0 + c) / 65536)
theorem addC_none (k : Nat) : addC k [] [] 0 = [] := by cases k <;> simp [addC]
theorem addC_spec : ∀ (k : Nat) (a b : List Int) (c : Int), okL a → okL b → 0 ≤ c → c ≤ 1 → a.length + 1 ≤ k → b.length + 1 ≤ k → okL (addC k a b c) ∧ valL (addC k a b c) = valL a + valL b + c
  | 0, a, b, c, _, _, _, _, h, _ => by omega
  | k + 1, a, b, c, ha, hb, h0, h1, hla, hlb => by
    simp only [addC]
    split
    · rename_i h; obtain ⟨rfl, rfl, rfl⟩ := h; exact ⟨okL_nil, by simp [valL]⟩
    · rename_i h
      have qa := okL_headD ha
      have qb := okL_headD hb
      have ea := valL_split a
      have eb := valL_split b
      by_cases hn : a = [] ∧ b = []
      · obtain ⟨rfl, rfl⟩ := hn
        have hc : c = 1 := by
          have : ¬ c = 0 := fun e => h ⟨rfl, rfl, e⟩
          omega
        subst hc
        simp only [List.headD_nil, List.tail_nil, Int.add_zero, Int.zero_add]
        rw [show ((1 : Int) / 65536) = 0 by decide, addC_none]
        exact ⟨okL_mk (by decide) okL_nil, by simp [valL]⟩
      · have ht : 1 ≤ k := by
          rcases a with _ | ⟨x, r⟩
          · rcases b with _ | ⟨y, s⟩
            · exact absurd ⟨rfl, rfl⟩ hn
            · simp at hlb; omega
          · simp at hla; omega
        have ta : a.tail.length + 1 ≤ k := by rw [List.length_tail]; omega
        have tb : b.tail.length + 1 ≤ k := by rw [List.length_tail]; omega
        obtain ⟨i1, i2⟩ := addC_spec k a.tail b.tail ((a.headD 0 + b.headD 0 + c) / 65536) (okL_tail ha) (okL_tail hb) (by omega) (by omega) ta tb
        exact ⟨okL_mk (by omega) i1, by simp only [valL, i2]; omega⟩
/-- Subtracted, with what is borrowed. -/
def subC : List Int → List Int → Int → List Int
  | [], _, _ => []
  | x :: r, b, c => (x + 65536 - b.headD 0 - c) % 65536 :: subC r b.tail (1 - (x + 65536 - b.headD 0 - c) / 65536)
theorem subC_spec : ∀ (a b : List Int) (c : Int), okL a → okL b → 0 ≤ c → c ≤ 1 → valL b + c ≤ valL a → okL (subC a b c) ∧ valL (subC a b c) = valL a - valL b - c
  | [], b, c, _, hb, h0, h1, h => by
    have := valL_nonneg hb
    simp only [valL] at h
    exact ⟨okL_nil, by simp only [subC, valL]; omega⟩
  | x :: r, b, c, ha, hb, h0, h1, h => by
    have h2 := okL_cons ha
    have qb := okL_headD hb
    have eb := valL_split b
    simp only [valL] at h
    obtain ⟨i1, i2⟩ := subC_spec r b.tail (1 - (x + 65536 - b.headD 0 - c) / 65536) h2.2 (okL_tail hb) (by omega) (by omega) (by omega)
    exact ⟨okL_mk (by omega) i1, by simp only [subC, valL, i2]; omega⟩
/-- Which of two is greater: the top ones decide. -/
theorem valL_top : ∀ (i : Nat) (a b : List Int), okL a → okL b → i ≤ a.length → i ≤ b.length → valL (a.drop i) < valL (b.drop i) → valL a < valL b
  | 0, a, b, _, _, _, _, h => h
  | i + 1, [], _, _, _, h, _, _ => by simp at h
  | i + 1, _, [], _, _, _, h, _ => by simp at h
  | i + 1, x :: r, y :: s, ha, hb, h1, h2, h => by
    have q1 := okL_cons ha
    have q2 := okL_cons hb
    have := valL_top i r s q1.2 q2.2 (by simpa using h1) (by simpa using h2) h
    simp only [valL]; omega
theorem valL_longer : ∀ (a b : List Int), okL a → okL b → canL b → a.length < b.length → valL a < valL b
  | [], b, _, hb, cb, h => canL_pos hb cb (by rintro rfl; simp at h)
  | x :: r, [], _, _, _, h => by simp at h
  | x :: r, y :: s, ha, hb, cb, h => by
    have q1 := okL_cons ha
    have q2 := okL_cons hb
    have := valL_longer r s q1.2 q2.2 (canL_tail cb) (by simpa using h)
    simp only [valL]; omega
/-- -1, 0, 1. -/
def sgn (x : Int) : Int := if x < 0 then -1 else if 0 < x then 1 else 0
theorem sgn_neg {x : Int} (h : x < 0) : sgn x = -1 := if_pos h
theorem sgn_pos {x : Int} (h : 0 < x) : sgn x = 1 := by unfold sgn; rw [if_neg (by omega), if_pos h]
theorem sgn_zero : sgn 0 = 0 := rfl
end Go.Proofs.Ythnihjfdmkfkiaa.Q
