/- Texts of this claim, laid in one: contracts of functions that the claim reaches, and the plain laws that they want; under no condition beyond those that each theorem states. -/
import Derived.Test.YtadmigijbfdboaaVObj
import Derived.Test.YtadmigijbfdboaaVOpen
import Derived.WalkSpells
import Derived.Laws.BitsLemmas
import Derived.Test.YtadmigijbfdboaaVExt
import Derived.Laws.Externs
import Derived.Laws.BitsAllLaws
/- Whole numbers as lists of limbs of 16 bits: plain laws, no program in sight. -/
namespace Go.Proofs.Ytadmigijbfdboaa.Q
set_option linter.unusedVariables false
set_option linter.unusedSimpArgs false

/-- Limbs' number. -/
def valL : List Int → Int
  | [] => 0
  | x :: r => x + 65536 * valL r
def okL (l : List Int) : Prop := ∀ x ∈ l, 0 ≤ x ∧ x ≤ 65535
/-- No 0 at the top. -/
def canL : List Int → Prop
  | [] => True
  | [x] => x ≠ 0
  | _ :: y :: r => canL (y :: r)
/-- Without the 0s at the top. -/
def trimL : List Int → List Int
  | [] => []
  | x :: r => if trimL r = [] ∧ x = 0 then [] else x :: trimL r
theorem okL_nil : okL [] := fun x h => by cases h
theorem okL_cons {x : Int} {r : List Int} (h : okL (x :: r)) : (0 ≤ x ∧ x ≤ 65535) ∧ okL r := ⟨h x List.mem_cons_self, fun y hy => h y (List.mem_cons_of_mem _ hy)⟩
theorem okL_mk {x : Int} {r : List Int} (h : 0 ≤ x ∧ x ≤ 65535) (hr : okL r) : okL (x :: r) := fun y hy => by
  rcases List.mem_cons.1 hy with e | e
  · subst e; exact h
  · exact hr y e
theorem okL_app {a b : List Int} (ha : okL a) (hb : okL b) : okL (a ++ b) := fun x hx => by
  rcases List.mem_append.1 hx with h | h
  · exact ha x h
  · exact hb x h
theorem okL_push {a : List Int} {x : Int} (ha : okL a) (hx : 0 ≤ x ∧ x ≤ 65535) : okL (a ++ [x]) := okL_app ha (okL_mk hx okL_nil)
theorem okL_drop {a : List Int} (ha : okL a) (n : Nat) : okL (a.drop n) := fun x hx => ha x (List.mem_of_mem_drop hx)
theorem okL_take {a : List Int} (ha : okL a) (n : Nat) : okL (a.take n) := fun x hx => ha x (List.mem_of_mem_take hx)
theorem okL_headD {a : List Int} (ha : okL a) : 0 ≤ a.headD 0 ∧ a.headD 0 ≤ 65535 := by
  cases a with
  | nil => simp
  | cons x r => exact (okL_cons ha).1
theorem okL_tail {a : List Int} (ha : okL a) : okL a.tail := by
  cases a with
  | nil => exact okL_nil
  | cons x r => exact (okL_cons ha).2
theorem okL_at {a : List Int} (ha : okL a) (i : Nat) (hi : i < a.length) : 0 ≤ a[i] ∧ a[i] ≤ 65535 := ha _ (List.getElem_mem _)
theorem valL_nonneg : ∀ {l : List Int}, okL l → 0 ≤ valL l
  | [], _ => Int.le_refl 0
  | x :: r, h => by have := okL_cons h; have := valL_nonneg this.2; simp only [valL]; omega
theorem valL_split (a : List Int) : valL a = a.headD 0 + 65536 * valL a.tail := by cases a <;> simp [valL]
theorem trimL_ok : ∀ {l : List Int}, okL l → okL (trimL l)
  | [], _ => okL_nil
  | x :: r, h => by
    have h1 := okL_cons h
    simp only [trimL]
    split
    · exact okL_nil
    · exact okL_mk h1.1 (trimL_ok h1.2)
theorem trimL_val : ∀ l : List Int, valL (trimL l) = valL l
  | [] => rfl
  | x :: r => by
    have ih := trimL_val r
    simp only [trimL]
    split
    · rename_i h; rw [h.1] at ih; simp only [valL] at ih ⊢; omega
    · simp only [valL, ih]
theorem trimL_can : ∀ l : List Int, canL (trimL l)
  | [] => trivial
  | x :: r => by
    have ih := trimL_can r
    simp only [trimL]
    split
    · exact trivial
    · rename_i h
      cases e : trimL r with
      | nil => rw [e] at h; simp only [canL]; simpa using h
      | cons y s => rw [e] at ih; exact ih
theorem canL_tail {x : Int} {r : List Int} (h : canL (x :: r)) : canL r := by
  cases r with
  | nil => trivial
  | cons y s => exact h
theorem canL_pos : ∀ {l : List Int}, okL l → canL l → l ≠ [] → 0 < valL l
  | [], _, _, h => absurd rfl h
  | [x], h, hc, _ => by have := okL_cons h; simp only [canL] at hc; simp only [valL]; omega
  | x :: y :: r, h, hc, _ => by
    have h1 := okL_cons h
    have := canL_pos h1.2 hc (by simp)
    have : valL (x :: y :: r) = x + 65536 * valL (y :: r) := rfl
    omega
theorem canL_nil_iff {l : List Int} (h : okL l) (hc : canL l) : l = [] ↔ valL l = 0 := by
  constructor
  · rintro rfl; rfl
  · intro e
    by_cases hn : l = []
    · exact hn
    · have := canL_pos h hc hn; omega
/-- Equal numbers have equal limbs. -/
theorem canL_inj : ∀ {a b : List Int}, okL a → okL b → canL a → canL b → valL a = valL b → a = b
  | [], b, _, hb, _, cb, e => ((canL_nil_iff hb cb).2 (by rw [← e]; rfl)).symm
  | a, [], ha, _, ca, _, e => (canL_nil_iff ha ca).2 (by rw [e]; rfl)
  | x :: r, y :: s, ha, hb, ca, cb, e => by
    have h1 := okL_cons ha
    have h2 := okL_cons hb
    simp only [valL] at e
    have e1 : x = y := by omega
    have e2 : valL r = valL s := by omega
    rw [e1, canL_inj h1.2 h2.2 (canL_tail ca) (canL_tail cb) e2]
/-- The limbs of a number. -/
def limbsK : Nat → Nat → List Int
  | 0, _ => []
  | k + 1, n => if n = 0 then [] else ((n % 65536 : Nat) : Int) :: limbsK k (n / 65536)
def limbs (n : Nat) : List Int := limbsK n n
theorem limbsK_ok : ∀ k n, okL (limbsK k n)
  | 0, _ => okL_nil
  | k + 1, n => by
    simp only [limbsK]
    split
    · exact okL_nil
    · exact okL_mk (by omega) (limbsK_ok k _)
theorem limbsK_val : ∀ k n, n ≤ k → valL (limbsK k n) = n
  | 0, n, h => by simp only [limbsK, valL]; omega
  | k + 1, n, h => by
    simp only [limbsK]
    split
    · simp only [valL]; omega
    · simp only [valL, limbsK_val k (n / 65536) (by omega)]; omega
theorem limbsK_can : ∀ k n, n ≤ k → canL (limbsK k n)
  | 0, _, _ => trivial
  | k + 1, n, h => by
    simp only [limbsK]
    split
    · exact trivial
    · have hc := limbsK_can k (n / 65536) (by omega)
      have hv := limbsK_val k (n / 65536) (by omega)
      cases e : limbsK k (n / 65536) with
      | nil => rw [e] at hv; simp only [valL] at hv; simp only [canL]; omega
      | cons y s => rw [e] at hc; exact hc
theorem limbs_ok (n : Nat) : okL (limbs n) := limbsK_ok n n
theorem limbs_val (n : Nat) : valL (limbs n) = n := limbsK_val n n (Nat.le_refl n)
theorem limbs_can (n : Nat) : canL (limbs n) := limbsK_can n n (Nat.le_refl n)
theorem trim_limbs {l : List Int} (h : okL l) : trimL l = limbs (valL l).toNat :=
  canL_inj (trimL_ok h) (limbs_ok _) (trimL_can l) (limbs_can _) (by rw [trimL_val, limbs_val]; have := valL_nonneg h; omega)
theorem limbs_zero : limbs 0 = [] := rfl
theorem limbs_nil (n : Nat) : limbs n = [] ↔ n = 0 := by
  rw [canL_nil_iff (limbs_ok n) (limbs_can n), limbs_val]; omega
theorem limbs_of {l : List Int} (h : okL l) (hc : canL l) : l = limbs (valL l).toNat :=
  canL_inj h (limbs_ok _) hc (limbs_can _) (by rw [limbs_val]; have := valL_nonneg h; omega)
/-- What a trim leaves is the list without its last ones. -/
theorem trimL_snoc0 : ∀ l : List Int, trimL (l ++ [0]) = trimL l
  | [] => by simp [trimL]
  | x :: r => by simp only [List.cons_append, trimL, trimL_snoc0 r]
theorem trimL_last : ∀ (l : List Int) (x : Int), x ≠ 0 → trimL (l ++ [x]) = l ++ [x]
  | [], x, h => by simp [trimL, h]
  | y :: r, x, h => by simp [trimL, trimL_last r x h]
theorem trimL_length (l : List Int) : (trimL l).length ≤ l.length := by
  induction l with
  | nil => simp [trimL]
  | cons x r ih => simp only [trimL]; split <;> simp; omega

theorem trimL_prefix : ∀ l : List Int, trimL l = l.take (trimL l).length
  | [] => rfl
  | x :: r => by
    have ih := trimL_prefix r
    simp only [trimL]
    split
    · rfl
    · simp only [List.length_cons, List.take_succ_cons, ← ih]
/-- How many limbs a number has: 65536 ^ k bounds. -/
theorem limbs_len : ∀ (k n : Nat), n < 65536 ^ k → (limbs n).length ≤ k := by
  have key : ∀ (f k n : Nat), n < 65536 ^ k → (limbsK f n).length ≤ k := by
    intro f
    induction f with
    | zero => intro k n _; simp [limbsK]
    | succ f ih =>
      intro k n h
      simp only [limbsK]
      split
      · simp
      · cases k with
        | zero => simp at h; omega
        | succ k =>
          simp only [List.length_cons]
          have := ih k (n / 65536) (by rw [Nat.pow_succ] at h; omega)
          omega
  exact fun k n h => key n k n h

/-- Added, with what is carried. -/
def addC : Nat → List Int → List Int → Int → List Int
  | 0, _, _, _ => []
  | k + 1, a, b, c => if a = [] ∧ b = [] ∧ c = 0 then [] else (a.headD 0 + b.headD 0 + c) % 65536 :: addC k a.tail b.tail ((a.headD 0 + b.headD 0 + c) / 65536)
theorem addC_none (k : Nat) : addC k [] [] 0 = [] := by cases k <;> simp [addC]
theorem addC_spec : ∀ (k : Nat) (a b : List Int) (c : Int), okL a → okL b → 0 ≤ c → c ≤ 1 → a.length + 1 ≤ k → b.length + 1 ≤ k → okL (addC k a b c) ∧ valL (addC k a b c) = valL a + valL b + c
  | 0, a, b, c, _, _, _, _, h, _ => by omega
  | k + 1, a, b, c, ha, hb, h0, h1, hla, hlb => by
    simp only [addC]
    split
    · rename_i h; obtain ⟨rfl, rfl, rfl⟩ := h; exact ⟨okL_nil, by simp [valL]⟩
    · rename_i h
      have qa := okL_headD ha
      have qb := okL_headD hb
      have ea := valL_split a
      have eb := valL_split b
      by_cases hn : a = [] ∧ b = []
      · obtain ⟨rfl, rfl⟩ := hn
        have hc : c = 1 := by
          have : ¬ c = 0 := fun e => h ⟨rfl, rfl, e⟩
          omega
        subst hc
        simp only [List.headD_nil, List.tail_nil, Int.add_zero, Int.zero_add]
        rw [show ((1 : Int) / 65536) = 0 by decide, addC_none]
        exact ⟨okL_mk (by decide) okL_nil, by simp [valL]⟩
      · have ht : 1 ≤ k := by
          rcases a with _ | ⟨x, r⟩
          · rcases b with _ | ⟨y, s⟩
            · exact absurd ⟨rfl, rfl⟩ hn
            · simp at hlb; omega
          · simp at hla; omega
        have ta : a.tail.length + 1 ≤ k := by rw [List.length_tail]; omega
        have tb : b.tail.length + 1 ≤ k := by rw [List.length_tail]; omega
        obtain ⟨i1, i2⟩ := addC_spec k a.tail b.tail ((a.headD 0 + b.headD 0 + c) / 65536) (okL_tail ha) (okL_tail hb) (by omega) (by omega) ta tb
        exact ⟨okL_mk (by omega) i1, by simp only [valL, i2]; omega⟩
/-- Subtracted, with what is borrowed. -/
def subC : List Int → List Int → Int → List Int
  | [], _, _ => []
  | x :: r, b, c => (x + 65536 - b.headD 0 - c) % 65536 :: subC r b.tail (1 - (x + 65536 - b.headD 0 - c) / 65536)
theorem subC_spec : ∀ (a b : List Int) (c : Int), okL a → okL b → 0 ≤ c → c ≤ 1 → valL b + c ≤ valL a → okL (subC a b c) ∧ valL (subC a b c) = valL a - valL b - c
  | [], b, c, _, hb, h0, h1, h => by
    have := valL_nonneg hb
    simp only [valL] at h
    exact ⟨okL_nil, by simp only [subC, valL]; omega⟩
  | x :: r, b, c, ha, hb, h0, h1, h => by
    have h2 := okL_cons ha
    have qb := okL_headD hb
    have eb := valL_split b
    simp only [valL] at h
    obtain ⟨i1, i2⟩ := subC_spec r b.tail (1 - (x + 65536 - b.headD 0 - c) / 65536) h2.2 (okL_tail hb) (by omega) (by omega) (by omega)
    exact ⟨okL_mk (by omega) i1, by simp only [subC, valL, i2]; omega⟩
/-- Which of two is greater: the top ones decide. -/
theorem valL_top : ∀ (i : Nat) (a b : List Int), okL a → okL b → i ≤ a.length → i ≤ b.length → valL (a.drop i) < valL (b.drop i) → valL a < valL b
  | 0, a, b, _, _, _, _, h => h
  | i + 1, [], _, _, _, h, _, _ => by simp at h
  | i + 1, _, [], _, _, _, h, _ => by simp at h
  | i + 1, x :: r, y :: s, ha, hb, h1, h2, h => by
    have q1 := okL_cons ha
    have q2 := okL_cons hb
    have := valL_top i r s q1.2 q2.2 (by simpa using h1) (by simpa using h2) h
    simp only [valL]; omega
theorem valL_longer : ∀ (a b : List Int), okL a → okL b → canL b → a.length < b.length → valL a < valL b
  | [], b, _, hb, cb, h => canL_pos hb cb (by rintro rfl; simp at h)
  | x :: r, [], _, _, _, h => by simp at h
  | x :: r, y :: s, ha, hb, cb, h => by
    have q1 := okL_cons ha
    have q2 := okL_cons hb
    have := valL_longer r s q1.2 q2.2 (canL_tail cb) (by simpa using h)
    simp only [valL]; omega
/-- -1, 0, 1. -/
def sgn (x : Int) : Int := if x < 0 then -1 else if 0 < x then 1 else 0
theorem sgn_neg {x : Int} (h : x < 0) : sgn x = -1 := if_pos h
theorem sgn_pos {x : Int} (h : 0 < x) : sgn x = 1 := by unfold sgn; rw [if_neg (by omega), if_pos h]
theorem sgn_zero : sgn 0 = 0 := rfl
end Go.Proofs.Ytadmigijbfdboaa.Q

namespace Go.Proofs.Ytadmigijbfdboaa.Q
open Go.RowKit Go.Proofs.YtadmigijbfdboaaW.PrintWords Go.Proofs.YtadmigijbfdboaaW.PrintLast Go.Proofs.YtadmigijbfdboaaW.PrintMore Go.Proofs.YtadmigijbfdboaaV
set_option linter.unusedVariables false
set_option linter.unusedSimpArgs false

theorem info_u32 : (Try.prog.info? 96).map (fun i => (i.zero, i.size, i.bytes)) = some (some (.int .u32 0), 1, 4) := by kernel_rfl
theorem C_take {α : Type} {K : Kd α} {w : World} {A : Option Addr} {n : Nat} {l : List α} (h : K.C w A n l) (k : Nat) (hk : k ≤ n) : K.C w A k (l.take k) := by
  obtain ⟨h1, h2, h3⟩ := h
  refine ⟨by rw [List.length_take]; omega, by omega, fun hp => ?_⟩
  obtain ⟨ad, ha, hc⟩ := h3 (by omega)
  exact ⟨ad, ha, fun i x hx => hc i x (by rw [List.getElem?_take] at hx; split at hx; exact hx; cases hx)⟩
theorem run_cuth {P : Program} (t e : TypeId) (i : TypeInfo) (ht : P.underlying t = some (.slice e)) (hi : P.info? e = some i) (hsz : i.size = 1) (A : Option Addr) (n c : Nat) (j : Int) (h0 : 0 ≤ j) (hm : j ≤ n) (hc : n ≤ c) :
    ∀ W : World, (Instr.slice t (.slice A n c) none (some (.int .i64 j)) none).run P W = .ok (.slice A j.toNat c) W := by
  intro W
  have hel : P.elem t = e := by simp [Program.elem, ht]
  have hu : P.underlying t = some (.slice (P.elem t)) := by rw [hel]; exact ht
  have ha : (A.map fun x => x.add 0) = A := by cases A <;> simp [Addr.add]
  rw [run_slice_h W t A n c hu .i64 j h0 (by omega), hel]
  simp [sizeOf, typeInfo, hi, hsz, sliced, Result.andThen, ha]

theorem R_keep {α : Type} {enc : α → Value} {h1 : ∀ x, (enc x).oneCell' = true} {e : Nat} {w w' : World} {n : Nat} {ok : Nat → Prop} {v : Value} {xs : List α} {S : Nat → Prop}
    (h : (Kd.scalar enc h1).R e w n ok v xs) (hk : Keep w w' S) (hS : ∀ k, v.ownBlock = some k → ¬ S k) : (Kd.scalar enc h1).R e w' n ok v xs := by
  obtain ⟨inner, ho⟩ := Kd.R_own h
  exact R_tight h (fun k e => ⟨hk.block k (own_lt ho k e) (hS k e), h.1 k e, own_base ho k e⟩)
theorem grown_keep {w w' : World} {vt : Value} (hg : w.grownBy w' vt.ownBlock) : Keep w w' (fun k => some k = vt.ownBlock) := (Keep.refl w _).grown hg (fun k e => .inl e.symm)
theorem R_typed {α : Type} {enc : α → Value} {h1 : ∀ x, (enc x).oneCell' = true} {e : Nat} {w : World} {base : Nat} {ok : Nat → Prop} {v : Value} {xs : List α} (h : (Kd.scalar enc h1).R e w base ok v xs) : ∀ k, v.ownBlock = some k → ∃ cs fr, w.heap[k]? = some (.cells cs e fr) := by
  intro k hk
  have ho := Kd.own_of_R h
  obtain ⟨a1, a2⟩ := ho
  rcases a2 with ⟨rfl, _⟩ | ⟨g, cap, cur, rfl, _, r, _⟩
  · simp [Value.ownBlock] at hk
  · simp [Value.ownBlock] at hk
    subst hk
    exact ⟨_, _, r⟩
theorem ne_typed {w : World} {k g : Nat} {cs cs' : Array Value} {e e' : TypeId} {fr fr' : Nat × Nat} (h : w.heap[k]? = some (.cells cs e fr)) (h' : w.heap[g]? = some (.cells cs' e' fr')) (hne : e ≠ e') : k ≠ g := by
  rintro rfl
  have := h.symm.trans h'
  simp at this
  exact hne this.2.1
theorem keep_below0 {w w' : World} (hk : Keep w w' (fun _ => False)) : Below w.heap.size w w' := ⟨hk.os, hk.tape, hk.output, hk.size, fun k h => hk.block k h (fun h => h)⟩
theorem below_keep {w w' : World} (hb : Below w.heap.size w w') : Keep w w' (fun _ => False) := Keep.of_below hb
theorem keep_drew (w : World) : Keep w w.drew (fun _ => False) := (Keep.refl w _).drew
theorem keep_drewN (w : World) (n : Nat) : Keep w (w.drewN n) (fun _ => False) := (Keep.refl w _).drewN n
theorem cell_same {w w' : World} {a : Addr} (h : w'.heap[a.block]? = w.heap[a.block]?) : w'.cell? a = w.cell? a := by unfold World.cell?; rw [h]
theorem cell_lt {w : World} {a : Addr} {v : Value} (h : w.cell? a = some v) : a.block < w.heap.size := by
  unfold World.cell? at h
  cases hb : w.heap[a.block]? with
  | none => rw [hb] at h; cases h
  | some o => exact (Array.getElem?_eq_some_iff.1 hb).1
/-- A row that is read stands where its block is not turned. -/
theorem C_keepS {α : Type} {enc : α → Value} {h1 : ∀ x, (enc x).oneCell' = true} {w w' : World} {A : Option Addr} {n : Nat} {l : List α} {S : Nat → Prop} (h : (Kd.scalar enc h1).C w A n l) (hk : Keep w w' S) (hA : ∀ ad, A = some ad → ¬ S ad.block) : (Kd.scalar enc h1).C w' A n l := by
  obtain ⟨e1, e2, h3⟩ := h
  refine ⟨e1, e2, fun hp => ?_⟩
  obtain ⟨ad, ha, hc⟩ := h3 hp
  refine ⟨ad, ha, fun i x hx => ?_⟩
  obtain ⟨cs, hs, hK, hj⟩ := hc i x hx
  refine ⟨cs, hs, hK, fun j u hu => ?_⟩
  have hq := hj j u hu
  have hb : ∀ k, (ad.add k).block = ad.block := fun k => by unfold Addr.add; split <;> rfl
  have hlt := cell_lt hq
  rw [hb] at hlt
  exact (cell_same (by rw [hb]; exact hk.block ad.block hlt (hA ad ha))).trans hq
/-- A pair of cells is stored over. -/
theorem res2 {w : World} {g : Nat} {t : TypeId} {c0 c1 v0 v1 : Value} (h : w.heap[g]? = some (.cells #[c0, c1] t (0, 0))) :
    w.cell? ⟨g, 0, none⟩ = some c0 ∧ w.frozen? ⟨g, 0, none⟩ = false ∧ (w.setCell ⟨g, 0, none⟩ v0).cell? ⟨g, 1, none⟩ = some c1 ∧ (w.setCell ⟨g, 0, none⟩ v0).frozen? ⟨g, 1, none⟩ = false ∧ ((w.setCell ⟨g, 0, none⟩ v0).setCell ⟨g, 1, none⟩ v1).heap[g]? = some (.cells #[v0, v1] t (0, 0)) := by
  have h2 := blk_put h 0 v0 rfl
  exact ⟨blk_cell h 0, blk_frozen h 0, blk_cell h2 1, blk_frozen h2 1, blk_put h2 1 v1 rfl⟩
theorem keep_set2 {w : World} {g : Nat} {v0 v1 : Value} : Keep w ((w.setCell ⟨g, 0, none⟩ v0).setCell ⟨g, 1, none⟩ v1) (fun k => k = g) := ((Keep.refl w (fun k => k = g)).set ⟨g, 0, none⟩ _ (.inl rfl)).set ⟨g, 1, none⟩ _ (.inl rfl)
/-- A row of limbs that can be read. -/
structure Lm (w : World) (A : Option Addr) (c : Nat) (l : List Int) : Prop where
  row : Kd.C (Kd.int .u32) w A l.length l
  cap : l.length ≤ c
  ok : okL l
theorem Lm.below {w w' : World} {A : Option Addr} {c : Nat} {l : List Int} (h : Lm w A c l) (hb : Below w.heap.size w w') : Lm w' A c l := ⟨Kd.C_below h.row hb, h.cap, h.ok⟩

theorem Lm.keep {w w' : World} {A : Option Addr} {c : Nat} {l : List Int} {S : Nat → Prop} (h : Lm w A c l) (hk : Keep w w' S) (hA : ∀ ad, A = some ad → ¬ S ad.block) : Lm w' A c l := ⟨C_keepS h.row hk hA, h.cap, h.ok⟩
theorem Lm.trim {w : World} {A : Option Addr} {c : Nat} {l : List Int} (h : Lm w A c l) : Lm w A c (limbs (valL l).toNat) := by
  have e := trimL_prefix l
  have hl := trimL_length l
  rw [trim_limbs h.ok] at e hl
  have hr := C_take h.row (limbs (valL l).toNat).length hl
  rw [← e] at hr
  exact ⟨hr, Nat.le_trans hl h.cap, limbs_ok _⟩
set_option maxHeartbeats 1600000 in
theorem ref_trim {w : World} {A : Option Addr} {c : Nat} {l : List Int} (h : Lm w A c l) :
    Calls Try.prog 54 #[.slice A l.length c] w fun e w' => e = .returned (.slice A (limbs (valL l).toNat).length c) ∧ Lm w A c (limbs (valL l).toNat) ∧ w = w' := by
  have H := Aside0.mk h
  obtain ⟨i5, hi5, hz⟩ := Option.map_eq_some_iff.1 info_u32
  simp only [Prod.mk.injEq] at hz
  have HI := Aside0.mk hi5
  have HZ := Aside0.mk hz.2.1
  have hlen := h.row.2.1
  have hcap := h.cap
  clear h hi5 hz
  go_enter Try.func54, Try.ntmps54
  go_wp2
  go_loopg [0] (l.length + 1) (fun kq v0 w' => ∃ k : Nat, v0 = .slice A k c ∧ k + 1 = kq ∧ k ≤ l.length ∧ Aside0 (trimL (l.take k) = trimL l) ∧ w' = w)
  case atStart => exact ⟨l.length, rfl, rfl, Nat.le_refl _, ⟨by rw [List.take_length]⟩, rfl⟩
  case round =>
    obtain ⟨k, rfl, hkq, hkl, HT, rfl⟩ := hrel
    by_cases h0 : k = 0
    · subst h0
      have d1 : decide ((0 : Int) < ((0 : Nat) : Int)) = false := by decide
      have e0 : limbs (valL l).toNat = [] := by rw [← trim_limbs H.out.ok, ← HT.out]; rfl
      have HE := Aside0.mk e0
      clear e0
      go_wp2
      go_ret
      rw [HE.out]
      refine ⟨rfl, ?_, rfl⟩
      exact ⟨C_take H.out.row 0 (Nat.zero_le _), Nat.zero_le _, okL_nil⟩
    · cases gk with
      | zero => omega
      | succ k1 =>
        have d1 : decide ((0 : Int) < (k : Int)) = true := decide_eq_true (by omega)
        obtain ⟨ad, rfl, hcell⟩ := Kd.at_int H.out.row ((k : Int) - 1) (by omega) (by omega)
        have et : l.take k = l.take (k - 1) ++ [rd l ((k : Int) - 1)] := by
          have := List.take_succ_eq_append_getElem (l := l) (i := k - 1) (by omega)
          rw [show k - 1 + 1 = k by omega] at this
          rw [this]
          unfold rd
          rw [show ((k : Int) - 1).toNat = k - 1 by omega, List.getD_eq_getElem?_getD, List.getElem?_eq_getElem (by omega)]
          rfl
        have hrun := run_cuth (P := Try.prog) 79 96 i5 Try.underlying79 HI.out HZ.out (some ad) k c ((k : Int) - 1) (by omega) (by omega) (by omega)
        rw [show ((k : Int) - 1).toNat = k - 1 by omega] at hcell hrun
        obtain ⟨x, hx⟩ : ∃ x, x = rd l ((k : Int) - 1) := ⟨_, rfl⟩
        rw [← hx] at et hcell
        clear hx
        have ki : (k : Int) - 1 = ((k - 1 : Nat) : Int) := by omega
        have HE := Aside0.mk et
        clear et
        by_cases hx0 : x = 0
        · have d2 : (x == 0) = true := beq_iff_eq.mpr hx0
          go_wp2
          go_roundg k1
          case rel =>
            refine ⟨k - 1, rfl, by omega, by omega, ⟨?_⟩, rfl⟩
            rw [← HT.out, HE.out, hx0, trimL_snoc0]
          case measure => omega
        · have d2 : (x == 0) = false := beq_eq_false_iff_ne.mpr hx0
          have er : limbs (valL l).toNat = l.take k := by rw [← trim_limbs H.out.ok, ← HT.out, HE.out, trimL_last _ _ hx0]
          have hlk : (l.take k).length = k := by rw [List.length_take]; omega
          have HLK := Aside0.mk hlk
          have HR := Aside0.mk er
          clear er hlk
          go_wp2
          go_ret
          rw [HR.out]
          exact ⟨by rw [HLK.out]; rfl, ⟨by rw [HLK.out]; exact C_take H.out.row k hkl, by rw [HLK.out]; omega, okL_take H.out.ok k⟩, rfl⟩
theorem ref_limb {w : World} {A : Option Addr} {c : Nat} {l : List Int} (h : Lm w A c l) (i : Nat) (hi : i ≤ 4611686018427387904) :
    Calls Try.prog 55 #[.slice A l.length c, .int .i64 i] w fun e w' => e = .returned (.int .u32 (l.getD i 0)) ∧ w = w' := by
  have H := Aside0.mk h
  clear h
  by_cases hl : i < l.length
  · have d1 : decide ((i : Int) < (l.length : Int)) = true := decide_eq_true (by omega)
    obtain ⟨ad, rfl, hcell⟩ := Kd.at_int H.out.row (i : Int) (by omega) (by omega)
    rw [Int.toNat_natCast] at hcell
    rw [show rd l (i : Int) = l.getD i 0 by unfold rd; rw [Int.toNat_natCast]] at hcell
    obtain ⟨x, hx⟩ : ∃ x, x = l.getD i 0 := ⟨_, rfl⟩
    rw [← hx] at hcell ⊢
    clear hx
    go_enter Try.func55, Try.ntmps55
    go_wp2
    go_ret
    exact ⟨rfl, rfl⟩
  · have d1 : decide ((i : Int) < (l.length : Int)) = false := decide_eq_false (by omega)
    rw [List.getD_eq_getElem?_getD, List.getElem?_eq_none (by omega), Option.getD_none]
    go_enter Try.func55, Try.ntmps55
    go_wp2
    go_ret
    exact ⟨rfl, rfl⟩

/-- A number without bound. -/
def NumV (w : World) (v : Value) (x : Int) : Prop := ∃ A c, v = .agg #[.bool (decide (x < 0)), .slice A (limbs x.natAbs).length c] ∧ Lm w A c (limbs x.natAbs)
theorem NumV.below {w w' : World} {v : Value} {x : Int} (h : NumV w v x) (hb : Below w.heap.size w w') : NumV w' v x := by
  obtain ⟨A, c, e, h⟩ := h
  exact ⟨A, c, e, h.below hb⟩
set_option maxHeartbeats 800000 in
theorem ref_make2 {w : World} {A : Option Addr} {c : Nat} {l : List Int} (neg : Bool) (h : Lm w A c l) (x : Int) (hx : x = if neg then - valL l else valL l) :
    Calls Try.prog 43 #[.bool neg, .slice A l.length c] w fun e w' => e = .returned (.agg #[.bool (decide (x < 0)), .slice A (limbs x.natAbs).length c]) ∧ Lm w' A c (limbs x.natAbs) ∧ Below w.heap.size w w' := by
  have hv := valL_nonneg h.ok
  have en : (valL l).toNat = x.natAbs := by subst hx; cases neg <;> simp <;> omega
  have HB := Aside0.mk ((Below.refl w.heap.size w).alloc (Nat.le_refl _) (.cells #[.bool false, .slice none 0 0] 81 (0, 0)))
  have H := Aside0.mk (h.below HB.out)
  have e1 : 0 < (limbs x.natAbs).length ↔ x ≠ 0 := by
    have := limbs_nil x.natAbs
    rw [← List.length_eq_zero_iff] at this
    omega
  have HE := Aside0.mk en
  have HL := Aside0.mk (show Lm w A c (limbs x.natAbs) by rw [← en]; exact h.trim)
  cases neg with
  | true =>
    have HD := Aside0.mk (show decide (0 < (limbs x.natAbs).length) = decide (x < 0) by
      rw [if_pos rfl] at hx; rw [decide_eq_decide, e1]; omega)
    clear h hx hv e1 en
    go_enter Try.func43, Try.ntmps43
    go_wp2_with (first
      | (go_at_call 54; (with_reducible refine (ref_trim H.out).mono ?_); rintro e w1 ⟨rfl, h1, rfl⟩; rw [HE.out] at h1 ⊢; have H1 := Aside0.mk h1; clear h1))
    refine bodyPost_ret (results_cell_row rfl _ _ w.heap.size 81 #[.bool (decide (0 < (limbs x.natAbs).length)), .slice A (limbs x.natAbs).length c] (0, 0) _ rfl (heap_alloc_new _ _) Try.underlying81 rfl (by kernel_rfl)) rfl ?_
    refine ⟨by rw [HD.out], HL.out.below ?_, ?_⟩ <;> exact (Below.refl w.heap.size w).alloc (Nat.le_refl _) _
  | false =>
    have HD := Aside0.mk (show false = decide (x < 0) by
      rw [if_neg (by decide)] at hx; symm; rw [decide_eq_false_iff_not]; omega)
    clear h hx hv e1 en
    go_enter Try.func43, Try.ntmps43
    go_wp2_with (first
      | (go_at_call 54; (with_reducible refine (ref_trim H.out).mono ?_); rintro e w1 ⟨rfl, h1, rfl⟩; rw [HE.out] at h1 ⊢; have H1 := Aside0.mk h1; clear h1))
    refine bodyPost_ret (results_cell_row rfl _ _ w.heap.size 81 #[.bool false, .slice A (limbs x.natAbs).length c] (0, 0) _ rfl (heap_alloc_new _ _) Try.underlying81 rfl (by kernel_rfl)) rfl ?_
    refine ⟨by rw [HD.out], HL.out.below ?_, ?_⟩ <;> exact (Below.refl w.heap.size w).alloc (Nat.le_refl _) _
end Go.Proofs.Ytadmigijbfdboaa.Q

namespace Go.Proofs.Ytadmigijbfdboaa.Q
open Go.RowKit Go.Proofs.YtadmigijbfdboaaW.PrintWords Go.Proofs.YtadmigijbfdboaaW.PrintLast Go.Proofs.YtadmigijbfdboaaW.PrintMore Go.Proofs.YtadmigijbfdboaaV
set_option linter.unusedVariables false
set_option linter.unusedSimpArgs false

theorem drop_headD (l : List Int) (i : Nat) : (l.drop i).headD 0 = l.getD i 0 := by
  rw [List.headD_eq_head?_getD, List.head?_drop, List.getD_eq_getElem?_getD]
theorem getD_ok {l : List Int} (h : okL l) (i : Nat) : 0 ≤ l.getD i 0 ∧ l.getD i 0 ≤ 65535 := by
  rw [← drop_headD]; exact okL_headD (okL_drop h i)

theorem R_fresh {α : Type} {d : Kd α} {e : Nat} {w : World} {base : Nat} {ok : Nat → Prop} {A : Option Addr} {n c : Nat} {xs : List α} (h : d.R e w base ok (.slice A n c) xs) : ∀ ad, A = some ad → base ≤ ad.block := by
  intro ad e
  subst e
  obtain ⟨inner, ho⟩ := Kd.R_own h
  exact own_base ho ad.block (by simp [Value.ownBlock])
theorem wraps_u32 (n : Int) (h₀ : 0 ≤ n) (h₁ : n < 2 ^ 32) : IntKind.u32.wrap n = n := by rw [IntKind.wrap_u32]; omega
theorem and16 (x : Int) (h0 : 0 ≤ x) (h1 : x < 4294967296) : bits .and .u32 x 65535 = x % 65536 := bits_mask .u32 32 (by decide) wraps_u32 16 (by decide) x h0 h1
set_option maxHeartbeats 3200000 in
theorem ref_addL {w : World} {A B : Option Addr} {ca cb : Nat} {a b : List Int} (ha : Lm w A ca a) (hb : Lm w B cb b) (la : a.length ≤ 1048576) (lb : b.length ≤ 1048576) :
    Calls Try.prog 45 #[.slice A a.length ca, .slice B b.length cb] w fun e w' => ∃ A' c', e = .returned (.slice A' (limbs (valL a + valL b).toNat).length c') ∧ Lm w' A' c' (limbs (valL a + valL b).toNat) ∧ (∀ ad, A' = some ad → w.heap.size ≤ ad.block) ∧ Below w.heap.size w w' := by
  have HA := Aside0.mk ha
  have HB := Aside0.mk hb
  have HK := Aside0.mk (Below.refl w.heap.size w)
  obtain ⟨m, hm1, hm2, hm3⟩ : ∃ m, a.length ≤ m ∧ b.length ≤ m ∧ m ≤ 1048576 := ⟨max a.length b.length, by omega, by omega, by omega⟩
  obtain ⟨R, hR⟩ : ∃ R, R = addC (m + 2) a b 0 := ⟨_, rfl⟩
  have HS := Aside0.mk (addC_spec (m + 2) a b 0 ha.ok hb.ok (by omega) (by omega) (by omega) (by omega))
  rw [← hR] at HS
  have HR0 := Aside0.mk hR
  clear ha hb hR
  go_enter Try.func45, Try.ntmps45
  go_wp2
  go_loopg [5, 6, 7] (m + 2) (fun kq v5 v6 v7 w' => ∃ (i : Nat) (acc : List Int) (A5 : Option Addr) (c5 : Nat) (cv : Int), v5 = .slice A5 acc.length c5 ∧ v6 = .int .u32 cv ∧ v7 = .int .i64 i ∧ i + kq = m + 2 ∧ i ≤ m + 1 ∧ (i = m + 1 → cv = 0) ∧ 0 ≤ cv ∧ cv ≤ 1 ∧ acc.length = i ∧ Aside0 (acc ++ addC kq (a.drop i) (b.drop i) cv = R) ∧ Aside0 (okL acc) ∧ Aside0 (Kd.R (Kd.int .u32) 96 w' w.heap.size (fun _ => True) (.slice A5 acc.length c5) acc) ∧ Aside0 (Below w.heap.size w w'))
  case atStart => exact ⟨0, [], none, 0, 0, rfl, rfl, rfl, by omega, by omega, by omega, by omega, by omega, rfl, ⟨HR0.out.symm⟩, ⟨okL_nil⟩, ⟨Kd.R_nil _ _ _ _ _⟩, HK⟩
  case round =>
    clear HK
    obtain ⟨i, acc, A5, c5, cv, rfl, rfl, rfl, hik, hi1, hi2, hc0, hc1, hal, HE, HO, HR, HK⟩ := hrel
    have hBw := HK.out.size
    have HA' := Aside0.mk (HA.out.below HK.out)
    have HB' := Aside0.mk (HB.out.below HK.out)
    by_cases hend : i < a.length ∨ i < b.length ∨ cv = 1
    · cases gk with
      | zero => omega
      | succ k1 =>
        have e1 := HE.out
        simp only [addC] at e1
        have hne : ¬ (a.drop i = [] ∧ b.drop i = [] ∧ cv = 0) := by
          rw [List.drop_eq_nil_iff, List.drop_eq_nil_iff]
          omega
        rw [if_neg hne, drop_headD, drop_headD, List.tail_drop, List.tail_drop] at e1
        have qa := getD_ok HA.out.ok i
        have qb := getD_ok HB.out.ok i
        have HLA := Aside0.mk (ref_limb HA'.out i (by omega))
        have HLB := Aside0.mk (ref_limb HB'.out i (by omega))
        have hz : i = m → a.getD i 0 + b.getD i 0 = 0 := by
          intro e
          rw [List.getD_eq_getElem?_getD, List.getD_eq_getElem?_getD, List.getElem?_eq_none (by omega), List.getElem?_eq_none (by omega)]
          rfl
        obtain ⟨x, hx⟩ : ∃ x, x = a.getD i 0 := ⟨_, rfl⟩
        obtain ⟨y, hy⟩ : ∃ y, y = b.getD i 0 := ⟨_, rfl⟩
        rw [← hx, ← hy] at e1
        rw [← hx] at qa hz HLA
        rw [← hy] at qb hz HLB
        have HE1 := Aside0.mk e1
        have HAL := Aside0.mk hal
        have hand := and16 (x + y + cv) (by omega) (by omega)
        have qs : 0 ≤ x + y + cv ∧ x + y + cv ≤ 131071 := by omega
        clear e1 hne hx hy HE hal
        have key : decide (i < a.length) = true ∨ (decide (i < a.length) = false ∧ decide (i < b.length) = true) ∨ (decide (i < a.length) = false ∧ decide (i < b.length) = false ∧ decide (0 < cv) = true) := by
          simp only [decide_eq_true_eq, decide_eq_false_iff_not]
          omega
        have him : i ≤ m := by omega
        have HZ := Aside0.mk hz
        clear hend hz
        rcases key with f1 | ⟨f1, f2⟩ | ⟨f1, f2, f3⟩
        all_goals
          go_wp2_with (first
            | (go_at_call 55; (with_reducible refine (HLA.out).mono ?_); rintro e w' ⟨rfl, rfl⟩)
            | (go_at_call 55; (with_reducible refine (HLB.out).mono ?_); rintro e w' ⟨rfl, rfl⟩)
            | ((with_reducible refine gate_builtin (b := .append) (xs := #[.tmp 34, .tmp 37]) rfl ?_); at_builtin; refine Kd.R_append (Kd.int .u32) (w0 := wr) w.heap.size rfl (.tmp 34) (.tmp 37) 79 96 (.int .u32 0) 4 rfl Try.underlying79 info_u32 rfl (by decide) (by omega) (.slice A5 acc.length c5) acc ((x + y + cv) % 65536) [.int .u32 ((x + y + cv) % 65536)] (fun _ => True) (fun _ => False) rfl rfl ?aP (fun _ hk => hk.elim) ?aF ?aO ?aB ?aS ?aL ?_; (case aP => exact rfl); (case aB => exact Below.refl _ _); (case aF => exact (fun _ _ => trivial)); (case aO => exact HR.out); (case aS => exact hBw); (case aL => rw [HAL.out]; omega); intro v5 w5 ho5 _ hg5 hat5; obtain ⟨H2, hH2⟩ : ∃ l : List Int, l = acc ++ [(x + y + cv) % 65536] := ⟨_, rfl⟩; rw [← hH2] at ho5; have NH2 := Aside0.mk hH2; clear hH2; obtain ⟨A2, cp2, ev2⟩ := Kd.R_slice ho5; subst ev2; have HR2 := Aside0.mk ho5; have HG2 := Aside0.mk hg5; clear ho5 hg5 hat5))
          go_roundg k1
          case rel =>
            have hgk := grown_keep HG2.out
            refine ⟨i + 1, H2, A2, cp2, (x + y + cv) / 65536, rfl, rfl, by go_num, by omega, by omega, by have := HZ.out; omega, by omega, by omega, by rw [NH2.out, List.length_append, HAL.out]; rfl, ⟨by rw [NH2.out, List.append_assoc]; exact HE1.out⟩, ⟨by rw [NH2.out]; exact okL_push HO.out (by omega)⟩, HR2, ⟨HK.out.trans (hgk.below hBw (fun k hk => ?_))⟩⟩
            obtain ⟨inner, ho⟩ := Kd.R_own HR.out
            exact own_base ho k hk.symm
          case measure => omega
    · have f1 : decide (i < a.length) = false := decide_eq_false (by omega)
      have f2 : decide (i < b.length) = false := decide_eq_false (by omega)
      obtain rfl : cv = 0 := by omega
      have e1 := HE.out
      rw [List.drop_eq_nil_of_le (by omega), List.drop_eq_nil_of_le (by omega), addC_none, List.append_nil] at e1
      have hs := HS.out
      rw [← e1, Int.add_zero] at hs
      have HL := Aside0.mk (show Lm wr A5 c5 acc from ⟨(Kd.R_reads' HR.out).2.2, (Kd.R_reads' HR.out).2.1, hs.1⟩)
      have HV := Aside0.mk hs.2
      have HAL := Aside0.mk hal
      clear e1 hs HE hal
      go_wp2_with (first
        | (go_at_call 54; (with_reducible refine (ref_trim HL.out).mono ?_); rintro e w1 ⟨rfl, h1, rfl⟩; rw [HV.out] at h1 ⊢; have H1 := Aside0.mk h1; clear h1))
      go_ret
      exact ⟨_, _, rfl, H1.out, R_fresh HR.out, HK.out⟩

set_option maxHeartbeats 3200000 in
theorem ref_subL {w : World} {A B : Option Addr} {ca cb : Nat} {a b : List Int} (ha : Lm w A ca a) (hb : Lm w B cb b) (la : a.length ≤ 1048576) (hle : valL b ≤ valL a) :
    Calls Try.prog 46 #[.slice A a.length ca, .slice B b.length cb] w fun e w' => ∃ A' c', e = .returned (.slice A' (limbs (valL a - valL b).toNat).length c') ∧ Lm w' A' c' (limbs (valL a - valL b).toNat) ∧ (∀ ad, A' = some ad → w.heap.size ≤ ad.block) ∧ Below w.heap.size w w' := by
  have HA := Aside0.mk ha
  have HB := Aside0.mk hb
  have HK := Aside0.mk (Below.refl w.heap.size w)
  obtain ⟨R, hR⟩ : ∃ R, R = subC a b 0 := ⟨_, rfl⟩
  have HS := Aside0.mk (subC_spec a b 0 ha.ok hb.ok (by omega) (by omega) (by omega))
  rw [← hR] at HS
  have HR0 := Aside0.mk hR
  clear ha hb hR
  go_enter Try.func46, Try.ntmps46
  go_wp2
  go_loopg [5, 6, 7] a.length (fun kq v5 v6 v7 w' => ∃ (i : Nat) (acc : List Int) (A5 : Option Addr) (c5 : Nat) (cv : Int), v5 = .slice A5 acc.length c5 ∧ v6 = .int .u32 cv ∧ v7 = .int .i64 i ∧ i + kq = a.length ∧ 0 ≤ cv ∧ cv ≤ 1 ∧ acc.length = i ∧ Aside0 (acc ++ subC (a.drop i) (b.drop i) cv = R) ∧ Aside0 (okL acc) ∧ Aside0 (Kd.R (Kd.int .u32) 96 w' w.heap.size (fun _ => True) (.slice A5 acc.length c5) acc) ∧ Aside0 (Below w.heap.size w w'))
  case atStart => exact ⟨0, [], none, 0, 0, rfl, rfl, rfl, by omega, by omega, by omega, rfl, ⟨HR0.out.symm⟩, ⟨okL_nil⟩, ⟨Kd.R_nil _ _ _ _ _⟩, HK⟩
  case round =>
    clear HK
    obtain ⟨i, acc, A5, c5, cv, rfl, rfl, rfl, hik, hc0, hc1, hal, HE, HO, HR, HK⟩ := hrel
    have hBw := HK.out.size
    have HA' := Aside0.mk (HA.out.below HK.out)
    have HB' := Aside0.mk (HB.out.below HK.out)
    cases gk with
    | succ k1 =>
        have hia : i < a.length := by omega
        have e1 := HE.out
        rw [List.drop_eq_getElem_cons hia, subC, drop_headD, List.tail_drop] at e1
        have qa := getD_ok HA.out.ok i
        have qb := getD_ok HB.out.ok i
        have HLA := Aside0.mk (ref_limb HA'.out i (by omega))
        have HLB := Aside0.mk (ref_limb HB'.out i (by omega))
        rw [show a[i] = a.getD i 0 by rw [List.getD_eq_getElem?_getD, List.getElem?_eq_getElem hia]; rfl] at e1
        obtain ⟨x, hx⟩ : ∃ x, x = a.getD i 0 := ⟨_, rfl⟩
        obtain ⟨y, hy⟩ : ∃ y, y = b.getD i 0 := ⟨_, rfl⟩
        rw [← hx, ← hy] at e1
        rw [← hx] at qa HLA
        rw [← hy] at qb HLB
        have HE1 := Aside0.mk e1
        have HAL := Aside0.mk hal
        have hand := and16 (x + 65536 - y - cv) (by omega) (by omega)
        have qs : 0 ≤ x + 65536 - y - cv ∧ x + 65536 - y - cv ≤ 131071 := by omega
        have qd : 0 ≤ 1 - (x + 65536 - y - cv) / 65536 ∧ 1 - (x + 65536 - y - cv) / 65536 ≤ 1 := by omega
        have f1 : decide (i < a.length) = true := decide_eq_true hia
        clear e1 hx hy HE hal
        go_wp2_with (first
            | (go_at_call 55; (with_reducible refine (HLA.out).mono ?_); rintro e w' ⟨rfl, rfl⟩)
            | (go_at_call 55; (with_reducible refine (HLB.out).mono ?_); rintro e w' ⟨rfl, rfl⟩)
            | ((with_reducible refine gate_builtin (b := .append) (xs := #[.tmp 25, .tmp 28]) rfl ?_); at_builtin; refine Kd.R_append (Kd.int .u32) (w0 := wr) w.heap.size rfl (.tmp 25) (.tmp 28) 79 96 (.int .u32 0) 4 rfl Try.underlying79 info_u32 rfl (by decide) (by omega) (.slice A5 acc.length c5) acc ((x + 65536 - y - cv) % 65536) [.int .u32 ((x + 65536 - y - cv) % 65536)] (fun _ => True) (fun _ => False) rfl rfl ?aP (fun _ hk => hk.elim) ?aF ?aO ?aB ?aS ?aL ?_; (case aP => exact rfl); (case aB => exact Below.refl _ _); (case aF => exact (fun _ _ => trivial)); (case aO => exact HR.out); (case aS => exact hBw); (case aL => rw [HAL.out]; omega); intro v5 w5 ho5 _ hg5 hat5; obtain ⟨H2, hH2⟩ : ∃ l : List Int, l = acc ++ [(x + 65536 - y - cv) % 65536] := ⟨_, rfl⟩; rw [← hH2] at ho5; have NH2 := Aside0.mk hH2; clear hH2; obtain ⟨A2, cp2, ev2⟩ := Kd.R_slice ho5; subst ev2; have HR2 := Aside0.mk ho5; have HG2 := Aside0.mk hg5; clear ho5 hg5 hat5))
        go_roundg k1
        case rel =>
            have hgk := grown_keep HG2.out
            refine ⟨i + 1, H2, A2, cp2, 1 - (x + 65536 - y - cv) / 65536, rfl, rfl, by go_num, by omega, by omega, by omega, by rw [NH2.out, List.length_append, HAL.out]; rfl, ⟨by rw [NH2.out, List.append_assoc]; exact HE1.out⟩, ⟨by rw [NH2.out]; exact okL_push HO.out (by omega)⟩, HR2, ⟨HK.out.trans (hgk.below hBw (fun k hk => ?_))⟩⟩
            obtain ⟨inner, ho⟩ := Kd.R_own HR.out
            exact own_base ho k hk.symm
        case measure => omega
    | zero =>
      have f1 : decide (i < a.length) = false := decide_eq_false (by omega)
      have e1 := HE.out
      rw [List.drop_eq_nil_of_le (by omega), subC, List.append_nil] at e1
      have hs := HS.out
      rw [← e1, Int.sub_zero] at hs
      have HL := Aside0.mk (show Lm wr A5 c5 acc from ⟨(Kd.R_reads' HR.out).2.2, (Kd.R_reads' HR.out).2.1, hs.1⟩)
      have HV := Aside0.mk hs.2
      have HAL := Aside0.mk hal
      clear e1 hs HE hal
      go_wp2_with (first
        | (go_at_call 54; (with_reducible refine (ref_trim HL.out).mono ?_); rintro e w1 ⟨rfl, h1, rfl⟩; rw [HV.out] at h1 ⊢; have H1 := Aside0.mk h1; clear h1))
      go_ret
      exact ⟨_, _, rfl, H1.out, R_fresh HR.out, HK.out⟩
end Go.Proofs.Ytadmigijbfdboaa.Q

namespace Go.Proofs.Ytadmigijbfdboaa.Q
open Go.RowKit Go.Proofs.YtadmigijbfdboaaW.PrintWords Go.Proofs.YtadmigijbfdboaaW.PrintLast Go.Proofs.YtadmigijbfdboaaW.PrintMore Go.Proofs.YtadmigijbfdboaaV
set_option linter.unusedVariables false
set_option linter.unusedSimpArgs false

theorem valL_eq_of_drop (a b : List Int) (h : a.drop 0 = b.drop 0) : valL a - valL b = 0 := by
  simp only [List.drop_zero] at h; rw [h]; omega
theorem drews3 (w : World) (a b c : Nat) : ∃ n, ((w.drewN a).drewN b).drewN c = w.drewN n := ⟨a + b + c, by simp⟩
set_option maxHeartbeats 3200000 in
theorem ref_cmpL {w : World} {A B : Option Addr} {ca cb : Nat} {a b : List Int} (ha : Lm w A ca a) (hb : Lm w B cb b) :
    Calls Try.prog 44 #[.slice A a.length ca, .slice B b.length cb] w fun e w' => e = .returned (.int .i64 (sgn (valL a - valL b))) ∧ ∃ n, w' = w.drewN n := by
  have HA := Aside0.mk ha
  have HB := Aside0.mk hb
  have ta := ha.trim
  have tb := hb.trim
  have ka := limbs_can (valL a).toNat
  have kb := limbs_can (valL b).toNat
  have va := limbs_val (valL a).toNat
  have vb := limbs_val (valL b).toNat
  have pa := valL_nonneg ha.ok
  have pb := valL_nonneg hb.ok
  have HTA := Aside0.mk (ref_trim ha)
  have HTB := Aside0.mk (ref_trim hb)
  obtain ⟨a', hae⟩ : ∃ a', a' = limbs (valL a).toNat := ⟨_, rfl⟩
  obtain ⟨b', hbe⟩ : ∃ b', b' = limbs (valL b).toNat := ⟨_, rfl⟩
  rw [← hae] at ta ka va HTA
  rw [← hbe] at tb kb vb HTB
  have hval : valL a - valL b = valL a' - valL b' := by omega
  rw [hval]
  have LA := Aside0.mk ta
  have LB := Aside0.mk tb
  have KA := Aside0.mk ka
  have KB := Aside0.mk kb
  have na := ta.row.2.1
  have nb := tb.row.2.1
  have oka := ta.ok
  have okb := tb.ok
  clear ha hb ta tb va vb hae hbe hval pa pb
  by_cases h1 : a'.length < b'.length
  · have f1 : (a'.length == b'.length) = false := beq_eq_false_iff_ne.mpr (by omega)
    have f2 : decide (a'.length < b'.length) = true := decide_eq_true h1
    rw [sgn_neg (by have := valL_longer a' b' oka okb kb h1; omega)]
    clear oka okb h1 ka kb
    go_enter Try.func44, Try.ntmps44
    go_wp2_with (first
      | (go_at_call 54; (with_reducible refine (HTA.out).mono ?_); rintro e w1 ⟨rfl, h1, rfl⟩)
      | (go_at_call 54; (with_reducible refine (HTB.out).mono ?_); rintro e w1 ⟨rfl, h1, rfl⟩))
    go_ret
    exact ⟨rfl, 0, rfl⟩
  · by_cases h2 : b'.length < a'.length
    · have f1 : (a'.length == b'.length) = false := beq_eq_false_iff_ne.mpr (by omega)
      have f2 : decide (a'.length < b'.length) = false := decide_eq_false h1
      rw [sgn_pos (by have := valL_longer b' a' okb oka ka h2; omega)]
      clear oka okb h1 h2 ka kb
      go_enter Try.func44, Try.ntmps44
      go_wp2_with (first
        | (go_at_call 54; (with_reducible refine (HTA.out).mono ?_); rintro e w1 ⟨rfl, h1, rfl⟩)
        | (go_at_call 54; (with_reducible refine (HTB.out).mono ?_); rintro e w1 ⟨rfl, h1, rfl⟩))
      go_ret
      exact ⟨rfl, 0, rfl⟩
    · have hl : b'.length = a'.length := by omega
      obtain ⟨n, hn⟩ : ∃ n, n = a'.length := ⟨_, rfl⟩
      rw [← hn] at HTA hl
      rw [hl] at HTB
      have HN := Aside0.mk hn
      have HL := Aside0.mk hl
      have OA := Aside0.mk oka
      have OB := Aside0.mk okb
      have hn2 : n ≤ 9223372036854775807 := by omega
      clear h1 h2 hn hl oka okb na nb ka kb
      go_enter Try.func44, Try.ntmps44
      go_wp2_with (first
        | (go_at_call 54; (with_reducible refine (HTA.out).mono ?_); rintro e w1 ⟨rfl, h1, rfl⟩; clear h1)
        | (go_at_call 54; (with_reducible refine (HTB.out).mono ?_); rintro e w1 ⟨rfl, h1, rfl⟩; clear h1))
      go_loopg [5] n (fun kq v5 w' => ∃ k : Nat, v5 = .int .i64 ((k : Int) - 1) ∧ k = kq ∧ k ≤ n ∧ Aside0 (a'.drop k = b'.drop k) ∧ Aside0 (∃ m, w' = w.drewN m))
      case atStart => exact ⟨n, rfl, rfl, Nat.le_refl _, ⟨by rw [List.drop_eq_nil_of_le (by rw [HN.out]; omega), List.drop_eq_nil_of_le (by rw [HL.out]; omega)]⟩, ⟨0, rfl⟩⟩
      case round =>
        obtain ⟨k, rfl, rfl, hkn, HE, HW⟩ := hrel
        obtain ⟨m, rfl⟩ := HW.out
        cases k with
        | zero =>
          go_wp2
          go_ret
          rw [valL_eq_of_drop a' b' HE.out]
          exact ⟨rfl, m, rfl⟩
        | succ i =>
          obtain ⟨ada, rfl, q1⟩ := Kd.at_int LA.out.row (i : Int) (by omega) (by rw [← HN.out]; omega)
          obtain ⟨adb, rfl, q3⟩ := Kd.at_int LB.out.row (i : Int) (by omega) (by rw [HL.out]; omega)
          rw [Int.toNat_natCast] at q1 q3
          have ea : a'.drop i = rd a' (i : Int) :: a'.drop (i + 1) := by
            rw [List.drop_eq_getElem_cons (by rw [← HN.out]; omega)]; unfold rd; rw [Int.toNat_natCast, List.getD_eq_getElem?_getD, List.getElem?_eq_getElem (by rw [← HN.out]; omega)]; rfl
          have eb : b'.drop i = rd b' (i : Int) :: b'.drop (i + 1) := by
            rw [List.drop_eq_getElem_cons (by rw [HL.out]; omega)]; unfold rd; rw [Int.toNat_natCast, List.getD_eq_getElem?_getD, List.getElem?_eq_getElem (by rw [HL.out]; omega)]; rfl
          obtain ⟨x, hx⟩ : ∃ x, x = rd a' (i : Int) := ⟨_, rfl⟩
          obtain ⟨y, hy⟩ : ∃ y, y = rd b' (i : Int) := ⟨_, rfl⟩
          rw [← hx] at q1 ea
          rw [← hy] at q3 eb
          have hva : valL (a'.drop i) = x + 65536 * valL (a'.drop (i + 1)) := by rw [ea]; rfl
          have hvb : valL (b'.drop i) = y + 65536 * valL (b'.drop (i + 1)) := by rw [eb]; rfl
          rw [← HE.out] at hvb
          have t1 := valL_top i a' b' OA.out OB.out (by rw [← HN.out]; omega) (by rw [HL.out]; omega)
          have t2 := valL_top i b' a' OB.out OA.out (by rw [HL.out]; omega) (by rw [← HN.out]; omega)
          have hin : i < n := by omega
          by_cases hlt : x < y
          · have d1 : decide (x < y) = true := decide_eq_true hlt
            have HS := Aside0.mk (show sgn (valL a' - valL b') = -1 from sgn_neg (by omega))
            clear hx hy ea eb hva hvb t1 t2 hlt
            go_wp2
            go_quiet (fail)
            go_wp2
            go_ret
            rw [HS.out]
            exact ⟨rfl, m + nq, by simp⟩
          · have d1 : decide (x < y) = false := decide_eq_false hlt
            by_cases hgt : y < x
            · have d2 : decide (y < x) = true := decide_eq_true hgt
              have HS := Aside0.mk (show sgn (valL a' - valL b') = 1 from sgn_pos (by omega))
              clear hx hy ea eb hva hvb t1 t2 hlt hgt
              go_wp2
              go_quiet (fail)
              go_wp2
              go_quiet (fail)
              go_wp2
              go_ret
              rw [HS.out]
              refine ⟨rfl, ?_⟩
              exact drews3 w _ _ _
            · have d2 : decide (y < x) = false := decide_eq_false hgt
              have HE2 := Aside0.mk (show a'.drop i = b'.drop i by rw [ea, eb, show x = y by omega, HE.out])
              clear hx hy ea eb hva hvb t1 t2 hlt hgt
              go_wp2
              go_quiet (fail)
              go_wp2
              go_quiet (fail)
              go_wp2
              go_roundg i
              case rel => exact ⟨i, by go_num, rfl, by omega, HE2, ⟨_, rfl⟩⟩
              case measure => omega
end Go.Proofs.Ytadmigijbfdboaa.Q

namespace Go.Proofs.Ytadmigijbfdboaa.Q
open Go.RowKit Go.Proofs.YtadmigijbfdboaaW.PrintWords Go.Proofs.YtadmigijbfdboaaW.PrintLast Go.Proofs.YtadmigijbfdboaaW.PrintMore Go.Proofs.YtadmigijbfdboaaV
set_option linter.unusedVariables false
set_option linter.unusedSimpArgs false

/-- Not too many limbs. -/
def fewL (x : Int) : Prop := (limbs x.natAbs).length ≤ 1048576
theorem few_of {x : Int} (h : x.natAbs < 65536 ^ 64) : fewL x := Nat.le_trans (limbs_len 64 _ h) (by decide)
/-- The same number, by its limbs at a place. -/
theorem NumV.mk' {w : World} {x : Int} {A : Option Addr} {c : Nat} {q : Bool} (hq : q = decide (x < 0)) (h : Lm w A c (limbs x.natAbs)) : NumV w (.agg #[.bool q, .slice A (limbs x.natAbs).length c]) x := ⟨A, c, by rw [hq], h⟩

set_option maxHeartbeats 800000 in
theorem ref_CmpN {w : World} {u v : Value} {x y : Int} (hx : NumV w u x) (hy : NumV w v y) :
    Calls Try.prog 29 #[u, v] w fun e w' => e = .returned (.int .i64 (sgn (x - y))) ∧ Below w.heap.size w w' := by
  obtain ⟨A, c, rfl, hl⟩ := hx
  obtain ⟨B, d, rfl, hm⟩ := hy
  obtain ⟨p, hp⟩ : ∃ p, p = decide (x < 0) := ⟨_, rfl⟩
  obtain ⟨q, hq⟩ : ∃ q, q = decide (y < 0) := ⟨_, rfl⟩
  rw [← hp, ← hq]
  have hk := ((Below.refl w.heap.size w).alloc (Nat.le_refl _) (.cells #[.bool p, .slice A (limbs x.natAbs).length c] 81 (0, 0))).alloc (by simp) (.cells #[.bool q, .slice B (limbs y.natAbs).length d] 81 (0, 0))
  have HC := Aside0.mk (ref_cmpL (hl.below hk) (hm.below hk))
  have HK := Aside0.mk hk
  rw [limbs_val, limbs_val] at HC
  cases p with
  | true =>
    have hx0 : x < 0 := of_decide_eq_true hp.symm
    cases q with
    | true =>
      have hy0 : y < 0 := of_decide_eq_true hq.symm
      have e1 : sgn (x - y) = - sgn ((x.natAbs : Int) - (y.natAbs : Int)) := by unfold sgn; split <;> split <;> omega
      have e2 : -1 ≤ sgn ((x.natAbs : Int) - (y.natAbs : Int)) ∧ sgn ((x.natAbs : Int) - (y.natAbs : Int)) ≤ 1 := by unfold sgn; split <;> (try split) <;> omega
      rw [e1]
      obtain ⟨s, hs⟩ : ∃ s, s = sgn ((x.natAbs : Int) - (y.natAbs : Int)) := ⟨_, rfl⟩
      rw [← hs] at HC e2 ⊢
      clear hl hm hk hx0 hy0 e1 hs hp hq
      go_enter Try.func29, Try.ntmps29
      go_wp2_with (first
        | (go_at_call 44; (with_reducible refine (HC.out).mono ?_); rintro e w1 ⟨rfl, ⟨m, rfl⟩⟩; have HB1 := Aside0.mk (pw_below_drewN HK.out m)))
      go_ret
      exact ⟨rfl, HB1.out⟩
    | false =>
      have hy0 : ¬ y < 0 := of_decide_eq_false hq.symm
      rw [sgn_neg (by omega)]
      clear hl hm hk hx0 hy0 hp hq
      go_enter Try.func29, Try.ntmps29
      go_wp2
      go_ret
      exact ⟨rfl, HK.out⟩
  | false =>
    have hx0 : ¬ x < 0 := of_decide_eq_false hp.symm
    cases q with
    | true =>
      have hy0 : y < 0 := of_decide_eq_true hq.symm
      rw [sgn_pos (by omega)]
      clear hl hm hk hx0 hy0 hp hq
      go_enter Try.func29, Try.ntmps29
      go_wp2
      go_ret
      exact ⟨rfl, HK.out⟩
    | false =>
      have hy0 : ¬ y < 0 := of_decide_eq_false hq.symm
      have e1 : sgn (x - y) = sgn ((x.natAbs : Int) - (y.natAbs : Int)) := by unfold sgn; split <;> split <;> omega
      rw [e1]
      obtain ⟨s, hs⟩ : ∃ s, s = sgn ((x.natAbs : Int) - (y.natAbs : Int)) := ⟨_, rfl⟩
      rw [← hs] at HC ⊢
      clear hl hm hk hx0 hy0 e1 hs hp hq
      go_enter Try.func29, Try.ntmps29
      go_wp2_with (first
        | (go_at_call 44; (with_reducible refine (HC.out).mono ?_); rintro e w1 ⟨rfl, ⟨m, rfl⟩⟩; have HB1 := Aside0.mk (pw_below_drewN HK.out m)))
      go_ret
      exact ⟨rfl, HB1.out⟩
end Go.Proofs.Ytadmigijbfdboaa.Q

namespace Go.Proofs.Ytadmigijbfdboaa.Q
open Go.RowKit Go.Proofs.YtadmigijbfdboaaW.PrintWords Go.Proofs.YtadmigijbfdboaaW.PrintLast Go.Proofs.YtadmigijbfdboaaW.PrintMore Go.Proofs.YtadmigijbfdboaaV
set_option linter.unusedVariables false
set_option linter.unusedSimpArgs false

/-- Three new blocks. -/
theorem new3 (w : World) (a b c : Obj) : (((w.alloc a).alloc b).alloc c).heap[w.heap.size]? = some a ∧ (((w.alloc a).alloc b).alloc c).heap[w.heap.size + 1]? = some b ∧ (((w.alloc a).alloc b).alloc c).heap[w.heap.size + 2]? = some c ∧ Below w.heap.size w (((w.alloc a).alloc b).alloc c) ∧ (((w.alloc a).alloc b).alloc c).heap.size = w.heap.size + 3 := by
  have s1 : (w.alloc a).heap.size = w.heap.size + 1 := by simp
  have s2 : ((w.alloc a).alloc b).heap.size = w.heap.size + 2 := by simp
  refine ⟨?_, ?_, ?_, ?_, by simp⟩
  · exact blk_alloc (blk_alloc (heap_alloc_new w a) b) c
  · exact blk_alloc (by have := heap_alloc_new (w.alloc a) b; rwa [s1] at this) c
  · have := heap_alloc_new ((w.alloc a).alloc b) c; rwa [s2] at this
  · exact (((Below.refl w.heap.size w).alloc (Nat.le_refl _) a).alloc (by omega) b).alloc (by omega) c

set_option maxHeartbeats 3200000 in
set_option maxRecDepth 4000 in
theorem AddN_same {w : World} {A B : Option Addr} {c d : Nat} {lx ly lz : List Int} (p q : Bool) (z : Int) (hl : Lm w A c lx) (hm : Lm w B d ly) (fx : lx.length ≤ 1048576) (fy : ly.length ≤ 1048576) (hlz : lz = limbs z.natAbs) (en : (valL lx + valL ly).toNat = z.natAbs) (hpq : p = q) (hxx : z = if p then - valL lz else valL lz) :
    Calls Try.prog 30 #[.agg #[.bool p, .slice A lx.length c], .agg #[.bool q, .slice B ly.length d]] w fun e w' => ∃ v, e = .returned v ∧ NumV w' v z ∧ Below w.heap.size w w' := by
  obtain ⟨n0, n1, n2, nb, ns⟩ := new3 w (.cells #[.bool p, .slice A lx.length c] 81 (0, 0)) (.cells #[.bool q, .slice B ly.length d] 81 (0, 0)) (.cells #[.bool false, .slice none 0 0] 81 (0, 0))
  have HL := Aside0.mk (show ∀ W, Below w.heap.size w W → Lm W A c lx from fun W hb => hl.below hb)
  have HM := Aside0.mk (show ∀ W, Below w.heap.size w W → Lm W B d ly from fun W hb => hm.below hb)
  have HXX := Aside0.mk hxx
  have HE := Aside0.mk en
  have HLZ := Aside0.mk hlz
  have N0 := Aside0.mk n0
  have N1 := Aside0.mk n1
  have N2 := Aside0.mk n2
  have NA := Aside0.mk nb
  have NS := Aside0.mk ns
  have NB := Aside0.mk nb.drew
  subst hpq
  clear hl hm en hxx hlz n0 n1 n2 nb ns
  go_enter Try.func30, Try.ntmps30
  go_upto_region 2 with (fail)
  go_region_with (first
    | (go_at_call 45; (with_reducible refine (ref_addL (HL.out _ NB.out) (HM.out _ NB.out) fx fy).mono ?_); rintro e w5 ⟨A5, c5, rfl, h5, hf5, hb5⟩; rw [HE.out, ← HLZ.out] at h5 ⊢; have H5 := Aside0.mk h5; have HF5 := Aside0.mk (show ∀ ad, A5 = some ad → w.heap.size + 3 ≤ ad.block from fun ad e => Nat.le_trans (Nat.le_of_eq NS.out.symm) (hf5 ad e)); have B0 := Aside0.mk ((hb5.block _ (blk_lt N0.out)).trans N0.out); have B1 := Aside0.mk ((hb5.block _ (blk_lt N1.out)).trans N1.out); have B2 := Aside0.mk ((hb5.block _ (blk_lt N2.out)).trans N2.out); have k0 := blk_cell B0.out 0; have k1 := blk_cell B1.out 0; have HB5 := Aside0.mk (NB.out.trans ⟨hb5.os, hb5.tape, hb5.output, hb5.size, fun k hk => hb5.block k (Nat.lt_of_lt_of_le hk NB.out.size)⟩); clear h5 hf5 hb5)
    | (go_at_call 43; (with_reducible refine (ref_make2 p H5.out z HXX.out).mono ?_); rintro e w6 ⟨rfl, h6, hb6⟩; obtain ⟨s, hs⟩ : ∃ s, s = decide (z < 0) := ⟨_, rfl⟩; rw [← hs, ← HLZ.out]; have HS := Aside0.mk hs; rw [← HLZ.out] at h6; obtain ⟨f1, f2, f3, f4, f5⟩ := res2 (v0 := .bool s) (v1 := .slice A5 lz.length c5) ((hb6.block _ (blk_lt B2.out)).trans B2.out); have H6 := Aside0.mk h6; have F5 := Aside0.mk f5; have HB6 := Aside0.mk (HB5.out.trans ⟨hb6.os, hb6.tape, hb6.output, hb6.size, fun k hk => hb6.block k (Nat.lt_of_lt_of_le hk HB5.out.size)⟩); clear h6 hb6 hs f5))
  all_goals
    go_wp2_with (fail)
    refine bodyPost_ret (results_cell_row rfl _ _ (w.heap.size + 2) 81 _ (0, 0) _ rfl F5.out Try.underlying81 rfl (by kernel_rfl)) rfl ?_
    exact ⟨_, rfl, ⟨A5, c5, by rw [← HS.out, ← HLZ.out], by rw [← HLZ.out]; exact H6.out.keep keep_set2 (fun ad e => by have := HF5.out ad e; omega)⟩, HB6.out.trans (keep_set2.below HB6.out.size (fun k hk => by omega))⟩
set_option maxHeartbeats 3200000 in
set_option maxRecDepth 4000 in
theorem AddN_ge {w : World} {A B : Option Addr} {c d : Nat} {lx ly lz : List Int} (p q : Bool) (z : Int) (hl : Lm w A c lx) (hm : Lm w B d ly) (fx : lx.length ≤ 1048576) (fy : ly.length ≤ 1048576) (hlz : lz = limbs z.natAbs) (en : (valL lx - valL ly).toNat = z.natAbs) (hle : valL ly ≤ valL lx) (hpq : (p == q) = false) (hxx : z = if p then - valL lz else valL lz) :
    Calls Try.prog 30 #[.agg #[.bool p, .slice A lx.length c], .agg #[.bool q, .slice B ly.length d]] w fun e w' => ∃ v, e = .returned v ∧ NumV w' v z ∧ Below w.heap.size w w' := by
  obtain ⟨n0, n1, n2, nb, ns⟩ := new3 w (.cells #[.bool p, .slice A lx.length c] 81 (0, 0)) (.cells #[.bool q, .slice B ly.length d] 81 (0, 0)) (.cells #[.bool false, .slice none 0 0] 81 (0, 0))
  have HL := Aside0.mk (show ∀ W, Below w.heap.size w W → Lm W A c lx from fun W hb => hl.below hb)
  have HM := Aside0.mk (show ∀ W, Below w.heap.size w W → Lm W B d ly from fun W hb => hm.below hb)
  have HXX := Aside0.mk hxx
  have HE := Aside0.mk en
  have HLZ := Aside0.mk hlz
  have N0 := Aside0.mk n0
  have N1 := Aside0.mk n1
  have N2 := Aside0.mk n2
  have NA := Aside0.mk nb
  have NS := Aside0.mk ns
  have HC := Aside0.mk (ref_cmpL (hl.below nb) (hm.below nb))
  have HLE := Aside0.mk hle
  obtain ⟨g, hg, hg0⟩ : ∃ g, sgn (valL lx - valL ly) = g ∧ 0 ≤ g := ⟨_, rfl, by unfold sgn; split <;> (try split) <;> omega⟩
  have hg1 : decide (0 ≤ g) = true := decide_eq_true hg0
  have HSG := Aside0.mk hg
  clear hle hg
  clear hl hm en hxx hlz n0 n1 n2 nb ns
  go_enter Try.func30, Try.ntmps30
  go_upto_region 4 with (first | (go_at_call 44; (with_reducible refine (HC.out).mono ?_); rintro e w4 ⟨rfl, ⟨m, rfl⟩⟩; rw [HSG.out]; have NB := Aside0.mk (show Below w.heap.size w ((((w.alloc (.cells #[.bool p, .slice A lx.length c] 81 (0, 0))).alloc (.cells #[.bool q, .slice B ly.length d] 81 (0, 0))).alloc (.cells #[.bool false, .slice none 0 0] 81 (0, 0))).drewN (m + 1)) from pw_below_drewN NA.out (m + 1))))
  go_region_with (first
    | (go_at_call 46; (with_reducible refine (ref_subL (HL.out _ NB.out) (HM.out _ NB.out) fx HLE.out).mono ?_); rintro e w5 ⟨A5, c5, rfl, h5, hf5, hb5⟩; rw [HE.out, ← HLZ.out] at h5 ⊢; have H5 := Aside0.mk h5; have HF5 := Aside0.mk (show ∀ ad, A5 = some ad → w.heap.size + 3 ≤ ad.block from fun ad e => Nat.le_trans (Nat.le_of_eq NS.out.symm) (hf5 ad e)); have B0 := Aside0.mk ((hb5.block _ (blk_lt N0.out)).trans N0.out); have B1 := Aside0.mk ((hb5.block _ (blk_lt N1.out)).trans N1.out); have B2 := Aside0.mk ((hb5.block _ (blk_lt N2.out)).trans N2.out); have k0 := blk_cell B0.out 0; have k1 := blk_cell B1.out 0; have HB5 := Aside0.mk (NB.out.trans ⟨hb5.os, hb5.tape, hb5.output, hb5.size, fun k hk => hb5.block k (Nat.lt_of_lt_of_le hk NB.out.size)⟩); clear h5 hf5 hb5)
    | (go_at_call 43; (with_reducible refine (ref_make2 p H5.out z HXX.out).mono ?_); rintro e w6 ⟨rfl, h6, hb6⟩; obtain ⟨s, hs⟩ : ∃ s, s = decide (z < 0) := ⟨_, rfl⟩; rw [← hs, ← HLZ.out]; have HS := Aside0.mk hs; rw [← HLZ.out] at h6; obtain ⟨f1, f2, f3, f4, f5⟩ := res2 (v0 := .bool s) (v1 := .slice A5 lz.length c5) ((hb6.block _ (blk_lt B2.out)).trans B2.out); have H6 := Aside0.mk h6; have F5 := Aside0.mk f5; have HB6 := Aside0.mk (HB5.out.trans ⟨hb6.os, hb6.tape, hb6.output, hb6.size, fun k hk => hb6.block k (Nat.lt_of_lt_of_le hk HB5.out.size)⟩); clear h6 hb6 hs f5))
  all_goals
    go_wp2_with (fail)
    refine bodyPost_ret (results_cell_row rfl _ _ (w.heap.size + 2) 81 _ (0, 0) _ rfl F5.out Try.underlying81 rfl (by kernel_rfl)) rfl ?_
    exact ⟨_, rfl, ⟨A5, c5, by rw [← HS.out, ← HLZ.out], by rw [← HLZ.out]; exact H6.out.keep keep_set2 (fun ad e => by have := HF5.out ad e; omega)⟩, HB6.out.trans (keep_set2.below HB6.out.size (fun k hk => by omega))⟩
set_option maxHeartbeats 3200000 in
set_option maxRecDepth 4000 in
theorem AddN_lt {w : World} {A B : Option Addr} {c d : Nat} {lx ly lz : List Int} (p q : Bool) (z : Int) (hl : Lm w A c lx) (hm : Lm w B d ly) (fx : lx.length ≤ 1048576) (fy : ly.length ≤ 1048576) (hlz : lz = limbs z.natAbs) (en : (valL ly - valL lx).toNat = z.natAbs) (hle : valL lx < valL ly) (hpq : (p == q) = false) (hxx : z = if q then - valL lz else valL lz) :
    Calls Try.prog 30 #[.agg #[.bool p, .slice A lx.length c], .agg #[.bool q, .slice B ly.length d]] w fun e w' => ∃ v, e = .returned v ∧ NumV w' v z ∧ Below w.heap.size w w' := by
  obtain ⟨n0, n1, n2, nb, ns⟩ := new3 w (.cells #[.bool p, .slice A lx.length c] 81 (0, 0)) (.cells #[.bool q, .slice B ly.length d] 81 (0, 0)) (.cells #[.bool false, .slice none 0 0] 81 (0, 0))
  have HL := Aside0.mk (show ∀ W, Below w.heap.size w W → Lm W A c lx from fun W hb => hl.below hb)
  have HM := Aside0.mk (show ∀ W, Below w.heap.size w W → Lm W B d ly from fun W hb => hm.below hb)
  have HXX := Aside0.mk hxx
  have HE := Aside0.mk en
  have HLZ := Aside0.mk hlz
  have N0 := Aside0.mk n0
  have N1 := Aside0.mk n1
  have N2 := Aside0.mk n2
  have NA := Aside0.mk nb
  have NS := Aside0.mk ns
  have HC := Aside0.mk (ref_cmpL (hl.below nb) (hm.below nb))
  have HLE := Aside0.mk (Int.le_of_lt hle)
  have HSG := Aside0.mk (show sgn (valL lx - valL ly) = -1 from sgn_neg (by omega))
  clear hle
  clear hl hm en hxx hlz n0 n1 n2 nb ns
  go_enter Try.func30, Try.ntmps30
  go_upto_region 5 with (first | (go_at_call 44; (with_reducible refine (HC.out).mono ?_); rintro e w4 ⟨rfl, ⟨m, rfl⟩⟩; rw [HSG.out]; have NB := Aside0.mk (show Below w.heap.size w ((((w.alloc (.cells #[.bool p, .slice A lx.length c] 81 (0, 0))).alloc (.cells #[.bool q, .slice B ly.length d] 81 (0, 0))).alloc (.cells #[.bool false, .slice none 0 0] 81 (0, 0))).drewN (m + 1)) from pw_below_drewN NA.out (m + 1))))
  go_region_with (first
    | (go_at_call 46; (with_reducible refine (ref_subL (HM.out _ NB.out) (HL.out _ NB.out) fy HLE.out).mono ?_); rintro e w5 ⟨A5, c5, rfl, h5, hf5, hb5⟩; rw [HE.out, ← HLZ.out] at h5 ⊢; have H5 := Aside0.mk h5; have HF5 := Aside0.mk (show ∀ ad, A5 = some ad → w.heap.size + 3 ≤ ad.block from fun ad e => Nat.le_trans (Nat.le_of_eq NS.out.symm) (hf5 ad e)); have B0 := Aside0.mk ((hb5.block _ (blk_lt N0.out)).trans N0.out); have B1 := Aside0.mk ((hb5.block _ (blk_lt N1.out)).trans N1.out); have B2 := Aside0.mk ((hb5.block _ (blk_lt N2.out)).trans N2.out); have k0 := blk_cell B0.out 0; have k1 := blk_cell B1.out 0; have HB5 := Aside0.mk (NB.out.trans ⟨hb5.os, hb5.tape, hb5.output, hb5.size, fun k hk => hb5.block k (Nat.lt_of_lt_of_le hk NB.out.size)⟩); clear h5 hf5 hb5)
    | (go_at_call 43; (with_reducible refine (ref_make2 q H5.out z HXX.out).mono ?_); rintro e w6 ⟨rfl, h6, hb6⟩; obtain ⟨s, hs⟩ : ∃ s, s = decide (z < 0) := ⟨_, rfl⟩; rw [← hs, ← HLZ.out]; have HS := Aside0.mk hs; rw [← HLZ.out] at h6; obtain ⟨f1, f2, f3, f4, f5⟩ := res2 (v0 := .bool s) (v1 := .slice A5 lz.length c5) ((hb6.block _ (blk_lt B2.out)).trans B2.out); have H6 := Aside0.mk h6; have F5 := Aside0.mk f5; have HB6 := Aside0.mk (HB5.out.trans ⟨hb6.os, hb6.tape, hb6.output, hb6.size, fun k hk => hb6.block k (Nat.lt_of_lt_of_le hk HB5.out.size)⟩); clear h6 hb6 hs f5))
  all_goals
    go_wp2_with (fail)
    refine bodyPost_ret (results_cell_row rfl _ _ (w.heap.size + 2) 81 _ (0, 0) _ rfl F5.out Try.underlying81 rfl (by kernel_rfl)) rfl ?_
    exact ⟨_, rfl, ⟨A5, c5, by rw [← HS.out, ← HLZ.out], by rw [← HLZ.out]; exact H6.out.keep keep_set2 (fun ad e => by have := HF5.out ad e; omega)⟩, HB6.out.trans (keep_set2.below HB6.out.size (fun k hk => by omega))⟩
theorem ref_AddN {w : World} {u v : Value} {x y : Int} (hx : NumV w u x) (hy : NumV w v y) (fx : fewL x) (fy : fewL y) :
    Calls Try.prog 30 #[u, v] w fun e w' => ∃ v, e = .returned v ∧ NumV w' v (x + y) ∧ Below w.heap.size w w' := by
  obtain ⟨A, c, rfl, hl⟩ := hx
  obtain ⟨B, d, rfl, hm⟩ := hy
  have vx := limbs_val x.natAbs
  have vy := limbs_val y.natAbs
  have vz := limbs_val (x + y).natAbs
  by_cases hx0 : x < 0
  · rw [decide_eq_true hx0]
    by_cases hy0 : y < 0
    · rw [decide_eq_true hy0]
      exact AddN_same true true (x + y) hl hm fx fy rfl (by omega) rfl (by rw [vz]; simp only [if_true]; omega)
    · rw [decide_eq_false hy0]
      by_cases hle : (y.natAbs : Int) ≤ x.natAbs
      · exact AddN_ge true false (x + y) hl hm fx fy rfl (by omega) (by omega) rfl (by rw [vz]; simp only [if_true]; omega)
      · exact AddN_lt true false (x + y) hl hm fx fy rfl (by omega) (by omega) rfl (by rw [vz]; simp only [Bool.false_eq_true, if_false]; omega)
  · rw [decide_eq_false hx0]
    by_cases hy0 : y < 0
    · rw [decide_eq_true hy0]
      by_cases hle : (y.natAbs : Int) ≤ x.natAbs
      · exact AddN_ge false true (x + y) hl hm fx fy rfl (by omega) (by omega) rfl (by rw [vz]; simp only [Bool.false_eq_true, if_false]; omega)
      · exact AddN_lt false true (x + y) hl hm fx fy rfl (by omega) (by omega) rfl (by rw [vz]; simp only [if_true]; omega)
    · rw [decide_eq_false hy0]
      exact AddN_same false false (x + y) hl hm fx fy rfl (by omega) rfl (by rw [vz]; simp only [Bool.false_eq_true, if_false]; omega)
end Go.Proofs.Ytadmigijbfdboaa.Q

namespace Go.Proofs.Ytadmigijbfdboaa.Q
open Go.RowKit Go.Proofs.YtadmigijbfdboaaW.PrintWords Go.Proofs.YtadmigijbfdboaaW.PrintLast Go.Proofs.YtadmigijbfdboaaW.PrintMore Go.Proofs.YtadmigijbfdboaaV
set_option linter.unusedVariables false
set_option linter.unusedSimpArgs false

/-- A number of 128 bits, as two words. -/
def hiW (z : Int) : Int := z / 18446744073709551616
def loW (z : Int) : Int := z % 18446744073709551616
def WV (z : Int) : Value := .agg #[.int .i64 (hiW z), .int .u64 (loW z)]
def inW (z : Int) : Prop := -170141183460469231731687303715884105728 ≤ z ∧ z ≤ 170141183460469231731687303715884105727
theorem hi_rng {z : Int} (h : inW z) : -9223372036854775808 ≤ hiW z ∧ hiW z ≤ 9223372036854775807 := by unfold inW at h; unfold hiW; omega
theorem lo_rng (z : Int) : 0 ≤ loW z ∧ loW z ≤ 18446744073709551615 := by unfold loW; omega
theorem WV_of (h l : Int) (hl : 0 ≤ l ∧ l ≤ 18446744073709551615) : (.agg #[.int .i64 h, .int .u64 l] : Value) = WV (h * 18446744073709551616 + l) := by
  unfold WV hiW loW
  rw [show (h * 18446744073709551616 + l) / 18446744073709551616 = h by omega, show (h * 18446744073709551616 + l) % 18446744073709551616 = l by omega]
theorem hl_eq {x y : Int} : x = y ↔ hiW x = hiW y ∧ loW x = loW y := by unfold hiW loW; omega

theorem WV_zero : WV 0 = .agg #[.int .i64 0, .int .u64 0] := rfl
theorem inW_zero : inW 0 := by unfold inW; omega
theorem call_add64 (x y c : Int) (h1 : 0 ≤ x) (h2 : 0 ≤ y) (h3 : 0 ≤ c) (h4 : c ≤ 1) (W : World) :
    (callFunc 59 #[.int .u64 x, .int .u64 y, .int .u64 c]).run Try.prog W = .ok (.value (.tuple #[.int .u64 ((x + y + c) % 18446744073709551616), .int .u64 ((x + y + c) / 18446744073709551616)])) W := by
  rw [run_callFunc_extern Try.func59 (by kernel_rfl) (by kernel_rfl) (by kernel_rfl) (e := add64Entry) (by kernel_rfl), run_add64 x y c h1 h2 h3 h4]
  rfl
theorem call_sub64 (x y b : Int) (hx : 0 ≤ x) (hy : 0 ≤ y) (hy2 : y ≤ 18446744073709551615) (hb0 : 0 ≤ b) (hb : b ≤ 1) (W : World) :
    (callFunc 47 #[.int .u64 x, .int .u64 y, .int .u64 b]).run Try.prog W = .ok (.value (.tuple #[.int .u64 ((x + 18446744073709551616 - y - b) % 18446744073709551616), .int .u64 (if x < y + b then 1 else 0)])) W := by
  rw [run_callFunc_extern Try.func47 (by kernel_rfl) (by kernel_rfl) (by kernel_rfl) (e := sub64Entry) (by kernel_rfl), run_sub64' x y b hx hy hy2 hb0 hb]
  rfl
theorem u64w (a : Int) : IntKind.u64.wrap a = a % 18446744073709551616 := by
  simp only [IntKind.wrap, IntKind.bits, IntKind.signed]; simp
/-- Four new blocks. -/
theorem below4 (w : World) (a b c d : Obj) : Below w.heap.size w ((((w.alloc a).alloc b).alloc c).alloc d) :=
  ((((Below.refl _ _).alloc (Nat.le_refl _) _).alloc (by simp) _).alloc (by simp; omega) _).alloc (by simp; omega) _

theorem hop {w w1 w2 : World} (h : Below w.heap.size w w1) (h' : Below w1.heap.size w1 w2) : Below w.heap.size w w2 := h.trans ⟨h'.os, h'.tape, h'.output, h'.size, fun k hk => h'.block k (Nat.lt_of_lt_of_le hk h.size)⟩
end Go.Proofs.Ytadmigijbfdboaa.Q

namespace Go.Proofs.Ytadmigijbfdboaa.Q
open Go.RowKit Go.Proofs.YtadmigijbfdboaaW.PrintWords Go.Proofs.YtadmigijbfdboaaW.PrintLast Go.Proofs.YtadmigijbfdboaaW.PrintMore Go.Proofs.YtadmigijbfdboaaV
set_option linter.unusedVariables false
set_option linter.unusedSimpArgs false

/-- Four limbs of a word. -/
def dig (x : Int) (i : Nat) : Int := x / 2 ^ (16 * i) % 65536
def digs (x : Int) (n : Nat) : List Int := (List.range n).map (dig x)
set_option maxHeartbeats 1600000 in
theorem xor_ones (v : Nat) (h : v < 18446744073709551616) : 18446744073709551615 ^^^ v = 18446744073709551615 - v := by
  have h1 := BitVec.toNat_xor (BitVec.allOnes 64) (BitVec.ofNat 64 v)
  have h2 : (BitVec.allOnes 64 ^^^ BitVec.ofNat 64 v) = ~~~ (BitVec.ofNat 64 v) := by rw [BitVec.xor_comm, BitVec.xor_allOnes]
  rw [h2, BitVec.toNat_not, BitVec.toNat_allOnes, BitVec.toNat_ofNat, Nat.mod_eq_of_lt h] at h1
  exact h1.symm
theorem not64 (v : Int) (h0 : 0 ≤ v) (h1 : v ≤ 18446744073709551615) : bits .xor .u64 IntKind.u64.max v = 18446744073709551615 - v := by
  rw [show IntKind.u64.max = 18446744073709551615 by rfl, u64_xor 18446744073709551615 v (by omega) (by omega) h0 (by omega)]
  have := xor_ones v.toNat (by omega)
  rw [show (18446744073709551615 : Int).toNat = 18446744073709551615 by rfl, this]
  omega
theorem digs_succ (x : Int) (i : Nat) : digs x (i + 1) = digs x i ++ [dig x i] := by unfold digs; rw [List.range_succ, List.map_append]; rfl
theorem digs_len (x : Int) (i : Nat) : (digs x i).length = i := by unfold digs; simp
theorem digs_ok (x : Int) (i : Nat) : okL (digs x i) := fun y hy => by
  obtain ⟨j, -, rfl⟩ := List.mem_map.1 hy
  unfold dig
  omega
theorem dig_and (L : Int) (i : Nat) : bits .and .u32 (L / 2 ^ (16 * i) % 4294967296) 65535 = dig L i := by
  rw [and16 _ (by omega) (by omega)]
  unfold dig
  generalize L / 2 ^ (16 * i) = q
  omega
theorem valL_digs4 (L H : Int) (h1 : 0 ≤ L) (h2 : L ≤ 18446744073709551615) (h3 : 0 ≤ H) (h4 : H ≤ 18446744073709551615) : valL (digs L 4 ++ digs H 4) = H * 18446744073709551616 + L := by
  have e : digs L 4 ++ digs H 4 = [L / 1 % 65536, L / 65536 % 65536, L / 4294967296 % 65536, L / 281474976710656 % 65536, H / 1 % 65536, H / 65536 % 65536, H / 4294967296 % 65536, H / 281474976710656 % 65536] := rfl
  rw [e]
  simp only [valL]
  omega
set_option maxRecDepth 8000 in
theorem ref_From {x : Int} (w : World) (hx : inW x) :
    Calls Try.prog 28 #[WV x] w fun e w' => ∃ v, e = .returned v ∧ NumV w' v x ∧ Below w.heap.size w w' := by
  have k1 := hi_rng hx
  have k3 := lo_rng x
  have ex : x = hiW x * 18446744073709551616 + loW x := by unfold hiW loW; omega
  unfold WV
  obtain ⟨a, ha⟩ : ∃ a, a = hiW x := ⟨_, rfl⟩
  obtain ⟨b, hb⟩ : ∃ b, b = loW x := ⟨_, rfl⟩
  rw [← ha] at k1 ex ⊢
  rw [← hb] at k3 ex ⊢
  obtain ⟨ua, hua⟩ : ∃ s, s = IntKind.u64.wrap a := ⟨_, rfl⟩
  have HU := Aside0.mk hua.symm
  clear hua
  clear ha hb
  obtain ⟨W, hW⟩ : ∃ W, W = (w.alloc (.cells #[.int .i64 a, .int .u64 b] 24 (0, 0))).alloc (.cells #[.bool false, .slice none 0 0] 81 (0, 0)) := ⟨_, rfl⟩
  have n0 : W.heap[w.heap.size]? = some (.cells #[.int .i64 a, .int .u64 b] 24 (0, 0)) := by rw [hW]; exact blk_alloc (heap_alloc_new _ _) _
  have n1 : W.heap[w.heap.size + 1]? = some (.cells #[.bool false, .slice none 0 0] 81 (0, 0)) := by rw [hW]; exact heap_alloc2_new _ _ _
  have q0 : W.cell? ⟨w.heap.size, 0, none⟩ = some (.int .i64 a) := blk_cell n0 0
  have q1 : W.cell? ⟨w.heap.size, 1, none⟩ = some (.int .u64 b) := blk_cell n0 1
  have N1 := Aside0.mk n1
  have HB := Aside0.mk (show Below w.heap.size w W by rw [hW]; exact below_alloc (below_alloc (Below.refl _ _) _) _)
  have HW := Aside0.mk hW
  clear n0 n1 hW
  go_enter Try.func28, Try.ntmps28
  go_wp2
  rw [← HW.out]
  go_quiet (fail)
  obtain ⟨bo, hbo⟩ : ∃ bo, decide (a < 0) = bo := ⟨_, rfl⟩
  have HBO := Aside0.mk hbo
  have EX := Aside0.mk ex
  clear ex
  go_upto_if 17 with (fail)
  go_cut [4, 5] from 18 to 26 (fun v4 v5 wx => ∃ H L : Int, v4 = .int .u64 H ∧ v5 = .int .u64 L ∧ 0 ≤ H ∧ H ≤ 18446744073709551615 ∧ 0 ≤ L ∧ L ≤ 18446744073709551615 ∧ (x.natAbs : Int) = H * 18446744073709551616 + L ∧ wx = W.drewN nq)
  case first =>
    have ex := EX.out
    cases bo with
    | false =>
      have h0 : ¬ a < 0 := of_decide_eq_false HBO.out
      have hw : IntKind.u64.wrap a = a := by rw [u64w]; omega
      have HW2 := Aside0.mk hw
      have HXN := Aside0.mk (show (x.natAbs : Int) = a * 18446744073709551616 + b by omega)
      clear hw ex
      go_wp2
      go_meet
      exact ⟨a, b, by rw [HW2.out], rfl, by omega, by omega, by omega, by omega, HXN.out, rfl⟩
    | true =>
      have h0 : a < 0 := of_decide_eq_true HBO.out
      have hw : IntKind.u64.wrap a = a + 18446744073709551616 := by rw [u64w]; omega
      have X1 := not64 b (by omega) (by omega)
      have X2 := not64 (IntKind.u64.wrap a) (by rw [hw]; omega) (by rw [hw]; omega)
      rw [show 18446744073709551615 - IntKind.u64.wrap a = -1 - a by rw [hw]; omega] at X2
      by_cases hb0 : b = 0
      · subst hb0
        have HXN := Aside0.mk (show (x.natAbs : Int) = (-a) * 18446744073709551616 + 0 by omega)
        clear hw ex
        go_wp2
        go_meet
        exact ⟨-a, 0, by rw [show IntKind.u64.wrap (-1 - a + 1) = -a by rw [u64w]; omega], by rw [show IntKind.u64.wrap 18446744073709551616 = 0 by rw [u64w]; omega], by omega, by omega, by omega, by omega, HXN.out, rfl⟩
      · have f0 : (IntKind.u64.wrap (18446744073709551615 - b + 1) == 0) = false := by rw [u64w]; exact beq_eq_false_iff_ne.mpr (by omega)
        have HXN := Aside0.mk (show (x.natAbs : Int) = (-1 - a) * 18446744073709551616 + (18446744073709551616 - b) by omega)
        clear hw ex
        go_wp2
        all_goals first
          | (go_meet; exact ⟨-1 - a, 18446744073709551616 - b, rfl, by rw [show IntKind.u64.wrap (18446744073709551615 - b + 1) = 18446744073709551616 - b by rw [u64w]; omega], by omega, by omega, by omega, by omega, HXN.out, rfl⟩)
          | (exfalso; rename_i hh; have hq : IntKind.u64.wrap (bits .xor .u64 (if IntKind.u64.signed = true then -1 else IntKind.u64.max) b + 1) = 0 := (by simpa using hh); rw [if_neg (by decide), X1, u64w] at hq; omega)
  case rest =>
    obtain ⟨H, L, rfl, rfl, h1, h2, h3, h4, hn, rfl⟩ := hcut
    have HXN := Aside0.mk hn
    have HB2 := Aside0.mk (pw_below_drewN HB.out nq)
    have N2 := Aside0.mk (blk_drewN N1.out nq)
    obtain ⟨V, hV⟩ : ∃ V, V = W.drewN nq := ⟨_, rfl⟩
    rw [← hV] at HB2 N2 ⊢
    have EX0 := EX
    clear hn q0 q1 N1 HB hV EX
    go_wp2
    go_loopg [3, 7] 4 (fun kq v3 v7 w' => ∃ (i : Nat) (A5 : Option Addr) (c5 : Nat), v3 = .slice A5 (digs L i).length c5 ∧ v7 = .int .i64 i ∧ i + kq = 4 ∧ Aside0 (Kd.R (Kd.int .u32) 96 w' V.heap.size (fun _ => True) (.slice A5 (digs L i).length c5) (digs L i)) ∧ Aside0 (Below V.heap.size V w'))
    case atStart => exact ⟨0, none, 0, rfl, rfl, rfl, ⟨Kd.R_nil _ _ _ _ _⟩, ⟨Below.refl _ _⟩⟩
    case round =>
      obtain ⟨i, A5, c5, rfl, rfl, hik, HR, HK⟩ := hrel
      have hBw := HK.out.size
      cases gk with
      | zero =>
        obtain rfl : i = 4 := by omega
        have f1 : decide ((4 : Nat) < 4) = false := rfl
        obtain ⟨A0, hA0⟩ : ∃ A0, A0 = A5 := ⟨_, rfl⟩
        obtain ⟨c0, hc0⟩ : ∃ c0, c0 = c5 := ⟨_, rfl⟩
        go_wp2
        go_loopg [3, 8] 4 (fun kq v3 v8 w' => ∃ (i : Nat) (A5 : Option Addr) (c5 : Nat), v3 = .slice A5 (digs L 4 ++ digs H i).length c5 ∧ v8 = .int .i64 i ∧ i + kq = 4 ∧ Aside0 (Kd.R (Kd.int .u32) 96 w' V.heap.size (fun _ => True) (.slice A5 (digs L 4 ++ digs H i).length c5) (digs L 4 ++ digs H i)) ∧ Aside0 (Below V.heap.size V w'))
        case atStart => exact ⟨0, A5, c5, by rw [show digs L 4 ++ digs H 0 = digs L 4 from List.append_nil _], rfl, rfl, ⟨by rw [show digs L 4 ++ digs H 0 = digs L 4 from List.append_nil _]; exact HR.out⟩, HK⟩
        case round =>
          clear HR HK hA0 hc0 hBw
          obtain ⟨i, A6, c6, rfl, rfl, hik2, HR, HK⟩ := hrel
          have hBw := HK.out.size
          cases gk with
          | zero =>
            obtain rfl : i = 4 := by omega
            have f1 : decide ((4 : Nat) < 4) = false := rfl
            have HL := Aside0.mk (show Lm wr A6 c6 (digs L 4 ++ digs H 4) from ⟨(Kd.R_reads' HR.out).2.2, (Kd.R_reads' HR.out).2.1, okL_app (digs_ok _ _) (digs_ok _ _)⟩)
            have hv := valL_digs4 L H h3 h4 h1 h2
            have HX := Aside0.mk (show x = if bo then - valL (digs L 4 ++ digs H 4) else valL (digs L 4 ++ digs H 4) by
              rw [hv]
              have := HXN.out
              have := EX0.out
              cases bo with
              | true => have := of_decide_eq_true HBO.out; simp only [if_true]; omega
              | false => have := of_decide_eq_false HBO.out; simp only [Bool.false_eq_true, if_false]; omega)
            clear hv
            obtain ⟨lst, hlst⟩ : ∃ lst, lst = digs L 4 ++ digs H 4 := ⟨_, rfl⟩
            rw [← hlst] at HL HX ⊢
            clear hlst
            go_wp2_with (first
              | (go_at_call 43; (with_reducible refine (ref_make2 bo HL.out x HX.out).mono ?_); rintro e w6 ⟨rfl, h6, hb6⟩; obtain ⟨s, hs⟩ : ∃ s, s = decide (x < 0) := ⟨_, rfl⟩; obtain ⟨lx, hlx⟩ : ∃ lx, lx = limbs x.natAbs := ⟨_, rfl⟩; rw [← hs, ← hlx]; have HSS := Aside0.mk hs; have HLX := Aside0.mk hlx; rw [← hlx] at h6; have hbv := HK.out.trans ⟨hb6.os, hb6.tape, hb6.output, hb6.size, fun k hk => hb6.block k (Nat.lt_of_lt_of_le hk hBw)⟩; obtain ⟨f1, f2, f3, f4, f5⟩ := res2 (v0 := .bool s) (v1 := .slice A6 lx.length c6) ((hbv.block _ (blk_lt N2.out)).trans N2.out); have H6 := Aside0.mk h6; have F5 := Aside0.mk f5; have HB6 := Aside0.mk (hop HB2.out hbv); clear h6 hb6 hs hlx f5 hbv))
            refine bodyPost_ret (results_cell_row rfl _ _ (w.heap.size + 1) 81 _ (0, 0) _ rfl F5.out Try.underlying81 rfl (by kernel_rfl)) rfl ?_
            exact ⟨_, rfl, ⟨A6, c6, by rw [← HSS.out, ← HLX.out], by rw [← HLX.out]; exact H6.out.keep keep_set2 (fun ad e => by have := R_fresh HR.out ad e; have := blk_lt N2.out; omega)⟩, HB6.out.trans (keep_set2.below HB6.out.size (fun k hk => by omega))⟩
          | succ k1 =>
            have f1 : decide (i < 4) = true := decide_eq_true (by omega)
            have hand := dig_and H i
            obtain ⟨dd, hdd⟩ : ∃ dd, dd = dig H i := ⟨_, rfl⟩
            rw [← hdd] at hand
            obtain ⟨acc, hacc⟩ : ∃ acc, acc = digs L 4 ++ digs H i := ⟨_, rfl⟩
            have HD := Aside0.mk (show digs L 4 ++ digs H (i + 1) = acc ++ [dd] by rw [digs_succ H, ← List.append_assoc, ← hacc, ← hdd])
            rw [← hacc] at HR ⊢
            have hal : acc.length ≤ 100 := by rw [hacc, List.length_append, digs_len, digs_len]; omega
            clear hdd hacc
            go_wp2_with (first
              | ((with_reducible refine gate_builtin (b := .append) (xs := #[.tmp 45, .tmp 53]) rfl ?_); at_builtin; refine Kd.R_append (Kd.int .u32) (w0 := wr) V.heap.size rfl (.tmp 45) (.tmp 53) 79 96 (.int .u32 0) 4 rfl Try.underlying79 info_u32 rfl (by decide) (by omega) (.slice A6 acc.length c6) acc dd [.int .u32 dd] (fun _ => True) (fun _ => False) rfl rfl ?aP (fun _ hk => hk.elim) ?aF ?aO ?aB ?aS ?aL ?_; (case aP => exact rfl); (case aB => exact Below.refl _ _); (case aF => exact (fun _ _ => trivial)); (case aO => exact HR.out); (case aS => exact hBw); (case aL => omega); intro v5 w5 ho5 _ hg5 hat5; obtain ⟨H2, hH2⟩ : ∃ l, l = digs L 4 ++ digs H (i + 1) := ⟨_, rfl⟩; rw [← HD.out, ← hH2] at ho5; have NH2 := Aside0.mk hH2; clear hH2; obtain ⟨A2, cp2, ev2⟩ := Kd.R_slice ho5; subst ev2; have HR2 := Aside0.mk ho5; have HG2 := Aside0.mk hg5; clear ho5 hg5 hat5))
            go_roundg k1
            case rel =>
              have hgk := grown_keep HG2.out
              refine ⟨i + 1, A2, cp2, by rw [← NH2.out], by go_num, by omega, by rw [← NH2.out]; exact HR2, ⟨HK.out.trans (hgk.below hBw (fun k hk => ?_))⟩⟩
              obtain ⟨inner, ho⟩ := Kd.R_own HR.out
              exact own_base ho k hk.symm
            case measure => omega
      | succ k1 =>
        have f1 : decide (i < 4) = true := decide_eq_true (by omega)
        have hand := dig_and L i
        obtain ⟨dd, hdd⟩ : ∃ dd, dd = dig L i := ⟨_, rfl⟩
        rw [← hdd] at hand
        obtain ⟨acc, hacc⟩ : ∃ acc, acc = digs L i := ⟨_, rfl⟩
        have HD := Aside0.mk (show digs L (i + 1) = acc ++ [dd] by rw [digs_succ, ← hacc, ← hdd])
        rw [← hacc] at HR ⊢
        have hal : acc.length ≤ 100 := by rw [hacc, digs_len]; omega
        clear hdd hacc
        go_wp2_with (first
          | ((with_reducible refine gate_builtin (b := .append) (xs := #[.tmp 31, .tmp 39]) rfl ?_); at_builtin; refine Kd.R_append (Kd.int .u32) (w0 := wr) V.heap.size rfl (.tmp 31) (.tmp 39) 79 96 (.int .u32 0) 4 rfl Try.underlying79 info_u32 rfl (by decide) (by omega) (.slice A5 acc.length c5) acc dd [.int .u32 dd] (fun _ => True) (fun _ => False) rfl rfl ?aP (fun _ hk => hk.elim) ?aF ?aO ?aB ?aS ?aL ?_; (case aP => exact rfl); (case aB => exact Below.refl _ _); (case aF => exact (fun _ _ => trivial)); (case aO => exact HR.out); (case aS => exact hBw); (case aL => omega); intro v5 w5 ho5 _ hg5 hat5; rw [← HD.out] at ho5; obtain ⟨A2, cp2, ev2⟩ := Kd.R_slice ho5; subst ev2; have HR2 := Aside0.mk ho5; have HG2 := Aside0.mk hg5; clear ho5 hg5 hat5))
        go_roundg k1
        case rel =>
          have hgk := grown_keep HG2.out
          refine ⟨i + 1, A2, cp2, rfl, by go_num, by omega, HR2, ⟨HK.out.trans (hgk.below hBw (fun k hk => ?_))⟩⟩
          obtain ⟨inner, ho⟩ := Kd.R_own HR.out
          exact own_base ho k hk.symm
        case measure => omega
end Go.Proofs.Ytadmigijbfdboaa.Q

namespace Go.Proofs.Ytadmigijbfdboaa.Q
open Go.RowKit Go.Proofs.YtadmigijbfdboaaW.PrintWords Go.Proofs.YtadmigijbfdboaaW.PrintLast Go.Proofs.YtadmigijbfdboaaW.PrintMore Go.Proofs.YtadmigijbfdboaaV
set_option linter.unusedVariables false
set_option linter.unusedSimpArgs false

theorem NumV_zero (w : World) : NumV w (.agg #[.bool false, .slice none 0 0]) 0 := ⟨none, 0, rfl, ⟨⟨rfl, by decide, fun h => absurd h (by decide)⟩, Nat.le_refl _, okL_nil⟩⟩
set_option maxHeartbeats 800000 in
theorem ref_Sign {x : Int} (w : World) (hx : inW x) :
    Calls Try.prog 38 #[WV x] w fun e w' => e = .returned (.int .i64 (sgn x)) ∧ Below w.heap.size w w' := by
  have HFx := Aside0.mk (fun W => ref_From (x := x) W hx)
  unfold WV at HFx ⊢
  obtain ⟨a, ha⟩ : ∃ a, a = hiW x := ⟨_, rfl⟩
  obtain ⟨b, hb⟩ : ∃ b, b = loW x := ⟨_, rfl⟩
  rw [← ha, ← hb] at HFx ⊢
  have HB := Aside0.mk ((Below.refl w.heap.size w).alloc (Nat.le_refl _) (.cells #[.int .i64 a, .int .u64 b] 24 (0, 0)))
  clear ha hb
  go_enter Try.func38, Try.ntmps38
  go_wp2_with (first
    | (go_at_call 28; (with_reducible refine (HFx.out _).mono ?_); rintro e w1 ⟨v1, rfl, h1, hb1⟩; have NX := Aside0.mk h1; have HB1 := Aside0.mk (hop HB.out hb1); clear h1 hb1)
    | (go_at_call 29; (with_reducible refine (ref_CmpN NX.out (NumV_zero _)).mono ?_); rintro e w2 ⟨rfl, hb2⟩; have HB2 := Aside0.mk (hop HB1.out hb2); rw [Int.sub_zero]; clear hb2))
  go_ret
  exact ⟨rfl, HB2.out⟩
set_option maxHeartbeats 1600000 in
theorem ref_Cmp {x y : Int} (w : World) (hx : inW x) (hy : inW y) :
    Calls Try.prog 39 #[WV x, WV y] w fun e w' => e = .returned (.int .i64 (sgn (x - y))) ∧ Below w.heap.size w w' := by
  have HFx := Aside0.mk (fun W => ref_From (x := x) W hx)
  have HFy := Aside0.mk (fun W => ref_From (x := y) W hy)
  unfold WV at HFx HFy ⊢
  obtain ⟨a, ha⟩ : ∃ a, a = hiW x := ⟨_, rfl⟩
  obtain ⟨b, hb⟩ : ∃ b, b = loW x := ⟨_, rfl⟩
  obtain ⟨c, hc⟩ : ∃ a, a = hiW y := ⟨_, rfl⟩
  obtain ⟨d, hd⟩ : ∃ b, b = loW y := ⟨_, rfl⟩
  rw [← ha, ← hb] at HFx ⊢
  rw [← hc, ← hd] at HFy ⊢
  have hbb := ((Below.refl w.heap.size w).alloc (Nat.le_refl _) (.cells #[.int .i64 a, .int .u64 b] 24 (0, 0))).alloc (by simp) (.cells #[.int .i64 c, .int .u64 d] 24 (0, 0))
  have N0 := Aside0.mk (blk_alloc (heap_alloc_new w (.cells #[.int .i64 a, .int .u64 b] 24 (0, 0))) (.cells #[.int .i64 c, .int .u64 d] 24 (0, 0)))
  have N1 := Aside0.mk (heap_alloc2_new w (.cells #[.int .i64 a, .int .u64 b] 24 (0, 0)) (.cells #[.int .i64 c, .int .u64 d] 24 (0, 0)))
  have HB := Aside0.mk hbb.drew
  clear ha hb hc hd hbb
  go_enter Try.func39, Try.ntmps39
  go_upto_region 1 with (fail)
  go_region_with (first
    | (go_at_call 28; have q_ := NX; clear q_; (with_reducible refine (HFy.out _).mono ?_); rintro e w2 ⟨v2, rfl, h2, hb2⟩; have PX := Aside0.mk (NX.out.below hb2); have PY := Aside0.mk h2; have HB2 := Aside0.mk (hop HB1.out hb2); clear NX h2 hb2)
    | (go_at_call 28; have q_ := NY; clear q_; (with_reducible refine (HFx.out _).mono ?_); rintro e w2 ⟨v2, rfl, h2, hb2⟩; have PY := Aside0.mk (NY.out.below hb2); have PX := Aside0.mk h2; have HB2 := Aside0.mk (hop HB1.out hb2); clear NY h2 hb2)
    | (go_at_call 28; (with_reducible refine (HFx.out _).mono ?_); rintro e w1 ⟨v1, rfl, h1, hb1⟩; have NX := Aside0.mk h1; have HB1 := Aside0.mk (hop HB.out hb1); have k0 := blk_cell ((hb1.block _ (blk_lt N1.out)).trans N1.out) 0; have k1 := blk_cell ((hb1.block _ (blk_lt N1.out)).trans N1.out) 1; clear h1 hb1)
    | (go_at_call 28; (with_reducible refine (HFy.out _).mono ?_); rintro e w1 ⟨v1, rfl, h1, hb1⟩; have NY := Aside0.mk h1; have HB1 := Aside0.mk (hop HB.out hb1); have k0 := blk_cell ((hb1.block _ (blk_lt N0.out)).trans N0.out) 0; have k1 := blk_cell ((hb1.block _ (blk_lt N0.out)).trans N0.out) 1; clear h1 hb1)
    | (go_at_call 29; (with_reducible refine (ref_CmpN PX.out PY.out).mono ?_); rintro e w3 ⟨rfl, hb3⟩; have HB3 := Aside0.mk (hop HB2.out hb3); clear hb3))
  all_goals
    go_wp2_with (fail)
    go_ret
    exact ⟨rfl, HB3.out⟩
end Go.Proofs.Ytadmigijbfdboaa.Q

namespace Go.Proofs.Ytadmigijbfdboaa.Q
open Go.RowKit Go.Proofs.YtadmigijbfdboaaW.PrintWords Go.Proofs.YtadmigijbfdboaaW.PrintLast Go.Proofs.YtadmigijbfdboaaW.PrintMore Go.Proofs.YtadmigijbfdboaaV
set_option linter.unusedVariables false
set_option linter.unusedSimpArgs false

set_option maxHeartbeats 1600000 in
theorem wide_Add {x y : Int} (w : World) (hx : inW x) (hy : inW y) (r e : Int) (hr : (inW (x + y) ∧ r = x + y ∧ e = 0) ∨ (¬ inW (x + y) ∧ r = 0 ∧ e = 10)) :
    Calls Try.prog 58 #[WV x, WV y] w fun q w' => q = .returned (.tuple #[WV r, .int .i64 e]) ∧ Below w.heap.size w w' := by
  have k1 := hi_rng hx
  have k2 := hi_rng hy
  have k3 := lo_rng x
  have k4 := lo_rng y
  have ex : x = hiW x * 18446744073709551616 + loW x := by unfold hiW loW; omega
  have ey : y = hiW y * 18446744073709551616 + loW y := by unfold hiW loW; omega
  obtain ⟨rh, hrh⟩ : ∃ q, q = hiW r := ⟨_, rfl⟩
  obtain ⟨rl, hrl⟩ : ∃ q, q = loW r := ⟨_, rfl⟩
  unfold WV
  obtain ⟨a, ha⟩ : ∃ a, a = hiW x := ⟨_, rfl⟩
  obtain ⟨b, hb⟩ : ∃ b, b = loW x := ⟨_, rfl⟩
  obtain ⟨c, hc⟩ : ∃ c, c = hiW y := ⟨_, rfl⟩
  obtain ⟨d, hd⟩ : ∃ d, d = loW y := ⟨_, rfl⟩
  rw [← ha] at k1 ex ⊢
  rw [← hb] at k3 ex ⊢
  rw [← hc] at k2 ey ⊢
  rw [← hd] at k4 ey ⊢
  rw [← hrh, ← hrl]
  obtain ⟨s1, hs1⟩ : ∃ s, s = (b + d + 0) % 18446744073709551616 := ⟨_, rfl⟩
  obtain ⟨c1, hc1⟩ : ∃ s, s = (b + d + 0) / 18446744073709551616 := ⟨_, rfl⟩
  have A1 := call_add64 b d 0 (by omega) (by omega) (by omega) (by omega)
  rw [← hs1, ← hc1] at A1
  obtain ⟨ua, hua⟩ : ∃ s, s = IntKind.u64.wrap a := ⟨_, rfl⟩
  obtain ⟨uc, huc⟩ : ∃ s, s = IntKind.u64.wrap c := ⟨_, rfl⟩
  have wa := u64w a
  have wc := u64w c
  rw [← hua] at wa
  rw [← huc] at wc
  obtain ⟨s2, hs2⟩ : ∃ s, s = (ua + uc + c1) % 18446744073709551616 := ⟨_, rfl⟩
  obtain ⟨c2, hc2⟩ : ∃ s, s = (ua + uc + c1) / 18446744073709551616 := ⟨_, rfl⟩
  have A2 := call_add64 ua uc c1 (by omega) (by omega) (by omega) (by omega)
  rw [← hs2, ← hc2] at A2
  obtain ⟨S, hS⟩ : ∃ S, S = wrap64 s2 := ⟨_, rfl⟩
  have hS2 : S = (s2 + 9223372036854775808) % 18446744073709551616 - 9223372036854775808 := by rw [hS]; unfold wrap64; omega
  have hS' := hS.symm
  have hua' := hua.symm
  have huc' := huc.symm
  -- what the signs tell
  have key : (inW (x + y) → S = hiW (x + y) ∧ s1 = loW (x + y) ∧ ¬ ((a < 0 ↔ c < 0) ∧ ¬ (S < 0 ↔ a < 0))) ∧ (¬ inW (x + y) → (a < 0 ↔ c < 0) ∧ ¬ (S < 0 ↔ a < 0)) := by
    have z0 : (x + y) / 18446744073709551616 = a + c + c1 := by omega
    have z1 : (x + y) % 18446744073709551616 = s1 := by omega
    unfold inW hiW loW
    rw [z0, z1]
    constructor
    · intro h
      have : S = a + c + c1 := by omega
      refine ⟨this, rfl, ?_⟩
      omega
    · intro h
      omega
  have res : (rh = S ∧ rl = s1 ∧ e = 0 ∧ ¬ ((a < 0 ↔ c < 0) ∧ ¬ (S < 0 ↔ a < 0))) ∨ (rh = 0 ∧ rl = 0 ∧ e = 10 ∧ (a < 0 ↔ c < 0) ∧ ¬ (S < 0 ↔ a < 0)) := by
    rcases hr with ⟨h1, rfl, rfl⟩ | ⟨h1, rfl, rfl⟩
    · obtain ⟨q1, q2, q3⟩ := key.1 h1
      exact .inl ⟨by rw [hrh, q1], by rw [hrl, q2], rfl, q3⟩
    · exact .inr ⟨by rw [hrh]; rfl, by rw [hrl]; rfl, rfl, key.2 h1⟩
  have RES := Aside0.mk res
  obtain ⟨p, hp⟩ : ∃ p, decide (a < 0) = p := ⟨_, rfl⟩
  obtain ⟨q, hq⟩ : ∃ p, decide (c < 0) = p := ⟨_, rfl⟩
  obtain ⟨t, ht⟩ : ∃ p, decide (S < 0) = p := ⟨_, rfl⟩
  have BEL := Aside0.mk (below4 w)
  clear res key hr hrh hrl hS hS2 hua huc hs1 hs2 hc1 hc2 ha hb hc hd ex ey hx hy wa wc k1 k2 k3 k4
  cases p <;> cases q <;> cases t
  all_goals
    go_enter Try.func58, Try.ntmps58
    go_wp2
    have rs := RES.out
    simp only [decide_eq_true_eq, decide_eq_false_iff_not] at hp hq ht
    simp only [hp, hq, ht, true_iff, false_iff, not_true_eq_false, not_false_eq_true, and_true, and_false, false_and, true_and, or_false, false_or] at rs
    obtain ⟨e1, e2, e3⟩ := rs
    subst e1 e2 e3
    first
    | (refine bodyPost_ret (v := .tuple #[.agg #[.int .i64 rh, .int .u64 rl], .int .i64 0]) (by simp [results, Try.results58, go_sem]) rfl ⟨rfl, ?_⟩
       exact BEL.out _ _ _ _)
    | (refine bodyPost_ret (v := .tuple #[.agg #[.int .i64 0, .int .u64 0], .int .i64 10]) (by simp [results, Try.results58, go_sem]) rfl ⟨rfl, ?_⟩
       exact BEL.out _ _ _ _)
end Go.Proofs.Ytadmigijbfdboaa.Q

namespace Go.Proofs.Ytadmigijbfdboaa.Q
open Go.RowKit Go.Proofs.YtadmigijbfdboaaW.PrintWords Go.Proofs.YtadmigijbfdboaaW.PrintLast Go.Proofs.YtadmigijbfdboaaW.PrintMore Go.Proofs.YtadmigijbfdboaaV
set_option linter.unusedVariables false
set_option linter.unusedSimpArgs false

set_option maxHeartbeats 1600000 in
theorem wide_Sub {x y : Int} (w : World) (hx : inW x) (hy : inW y) (r e : Int) (hr : (inW (x - y) ∧ r = x - y ∧ e = 0) ∨ (¬ inW (x - y) ∧ r = 0 ∧ e = 10)) :
    Calls Try.prog 32 #[WV x, WV y] w fun q w' => q = .returned (.tuple #[WV r, .int .i64 e]) ∧ Below w.heap.size w w' := by
  have k1 := hi_rng hx
  have k2 := hi_rng hy
  have k3 := lo_rng x
  have k4 := lo_rng y
  have ex : x = hiW x * 18446744073709551616 + loW x := by unfold hiW loW; omega
  have ey : y = hiW y * 18446744073709551616 + loW y := by unfold hiW loW; omega
  obtain ⟨rh, hrh⟩ : ∃ q, q = hiW r := ⟨_, rfl⟩
  obtain ⟨rl, hrl⟩ : ∃ q, q = loW r := ⟨_, rfl⟩
  unfold WV
  obtain ⟨a, ha⟩ : ∃ a, a = hiW x := ⟨_, rfl⟩
  obtain ⟨b, hb⟩ : ∃ b, b = loW x := ⟨_, rfl⟩
  obtain ⟨c, hc⟩ : ∃ c, c = hiW y := ⟨_, rfl⟩
  obtain ⟨d, hd⟩ : ∃ d, d = loW y := ⟨_, rfl⟩
  rw [← ha] at k1 ex ⊢
  rw [← hb] at k3 ex ⊢
  rw [← hc] at k2 ey ⊢
  rw [← hd] at k4 ey ⊢
  rw [← hrh, ← hrl]
  obtain ⟨s1, hs1⟩ : ∃ s, s = (b + 18446744073709551616 - d - 0) % 18446744073709551616 := ⟨_, rfl⟩
  obtain ⟨c1, hc1⟩ : ∃ s, s = if b < d + 0 then (1 : Int) else 0 := ⟨_, rfl⟩
  have A1 := call_sub64 b d 0 (by omega) (by omega) (by omega) (by omega) (by omega)
  rw [← hs1, ← hc1] at A1
  have hc1b : (b < d ∧ c1 = 1) ∨ (¬ b < d ∧ c1 = 0) := by rw [hc1]; split <;> omega
  obtain ⟨ua, hua⟩ : ∃ s, s = IntKind.u64.wrap a := ⟨_, rfl⟩
  obtain ⟨uc, huc⟩ : ∃ s, s = IntKind.u64.wrap c := ⟨_, rfl⟩
  have wa := u64w a
  have wc := u64w c
  rw [← hua] at wa
  rw [← huc] at wc
  obtain ⟨s2, hs2⟩ : ∃ s, s = (ua + 18446744073709551616 - uc - c1) % 18446744073709551616 := ⟨_, rfl⟩
  obtain ⟨c2, hc2⟩ : ∃ s, s = if ua < uc + c1 then (1 : Int) else 0 := ⟨_, rfl⟩
  have A2 := call_sub64 ua uc c1 (by omega) (by omega) (by omega) (by omega) (by omega)
  rw [← hs2, ← hc2] at A2
  obtain ⟨S, hS⟩ : ∃ S, S = wrap64 s2 := ⟨_, rfl⟩
  have hS2 : S = (s2 + 9223372036854775808) % 18446744073709551616 - 9223372036854775808 := by rw [hS]; unfold wrap64; omega
  have hS' := hS.symm
  have hua' := hua.symm
  have huc' := huc.symm
  -- what the signs tell
  have key : (inW (x - y) → S = hiW (x - y) ∧ s1 = loW (x - y) ∧ ¬ (¬ (a < 0 ↔ c < 0) ∧ ¬ (S < 0 ↔ a < 0))) ∧ (¬ inW (x - y) → ¬ (a < 0 ↔ c < 0) ∧ ¬ (S < 0 ↔ a < 0)) := by
    have z0 : (x - y) / 18446744073709551616 = a - c - c1 := by omega
    have z1 : (x - y) % 18446744073709551616 = s1 := by omega
    unfold inW hiW loW
    rw [z0, z1]
    constructor
    · intro h
      have : S = a - c - c1 := by omega
      refine ⟨this, rfl, ?_⟩
      omega
    · intro h
      omega
  have res : (rh = S ∧ rl = s1 ∧ e = 0 ∧ ¬ (¬ (a < 0 ↔ c < 0) ∧ ¬ (S < 0 ↔ a < 0))) ∨ (rh = 0 ∧ rl = 0 ∧ e = 10 ∧ ¬ (a < 0 ↔ c < 0) ∧ ¬ (S < 0 ↔ a < 0)) := by
    rcases hr with ⟨h1, rfl, rfl⟩ | ⟨h1, rfl, rfl⟩
    · obtain ⟨q1, q2, q3⟩ := key.1 h1
      exact .inl ⟨by rw [hrh, q1], by rw [hrl, q2], rfl, q3⟩
    · exact .inr ⟨by rw [hrh]; rfl, by rw [hrl]; rfl, rfl, key.2 h1⟩
  have RES := Aside0.mk res
  obtain ⟨p, hp⟩ : ∃ p, decide (a < 0) = p := ⟨_, rfl⟩
  obtain ⟨q, hq⟩ : ∃ p, decide (c < 0) = p := ⟨_, rfl⟩
  obtain ⟨t, ht⟩ : ∃ p, decide (S < 0) = p := ⟨_, rfl⟩
  have BEL := Aside0.mk (below4 w)
  clear hc1b res key hr hrh hrl hS hS2 hua huc hs1 hs2 hc1 hc2 ha hb hc hd ex ey hx hy wa wc k1 k2 k3 k4
  cases p <;> cases q <;> cases t
  all_goals
    go_enter Try.func32, Try.ntmps32
    go_wp2
    have rs := RES.out
    simp only [decide_eq_true_eq, decide_eq_false_iff_not] at hp hq ht
    simp only [hp, hq, ht, true_iff, false_iff, not_true_eq_false, not_false_eq_true, and_true, and_false, false_and, true_and, or_false, false_or] at rs
    obtain ⟨e1, e2, e3⟩ := rs
    subst e1 e2 e3
    first
    | (refine bodyPost_ret (v := .tuple #[.agg #[.int .i64 rh, .int .u64 rl], .int .i64 0]) (by simp [results, Try.results32, go_sem]) rfl ⟨rfl, ?_⟩
       exact BEL.out _ _ _ _)
    | (refine bodyPost_ret (v := .tuple #[.agg #[.int .i64 0, .int .u64 0], .int .i64 10]) (by simp [results, Try.results32, go_sem]) rfl ⟨rfl, ?_⟩
       exact BEL.out _ _ _ _)
end Go.Proofs.Ytadmigijbfdboaa.Q

namespace Go.Proofs.Ytadmigijbfdboaa.Q
open Go.RowKit Go.Proofs.YtadmigijbfdboaaW.PrintWords Go.Proofs.YtadmigijbfdboaaW.PrintLast Go.Proofs.YtadmigijbfdboaaW.PrintMore Go.Proofs.YtadmigijbfdboaaV
set_option linter.unusedVariables false
set_option linter.unusedSimpArgs false

set_option maxHeartbeats 800000 in
theorem wide_Cmp {x y : Int} (w : World) (hx : inW x) (hy : inW y) :
    Calls Try.prog 50 #[WV x, WV y] w fun e w' => e = .returned (.int .i64 (sgn (x - y))) ∧ Below w.heap.size w w' := by
  have k1 := hi_rng hx
  have k2 := hi_rng hy
  have k3 := lo_rng x
  have k4 := lo_rng y
  have ex : x = hiW x * 18446744073709551616 + loW x := by unfold hiW loW; omega
  have ey : y = hiW y * 18446744073709551616 + loW y := by unfold hiW loW; omega
  unfold WV
  obtain ⟨a, ha⟩ : ∃ a, a = hiW x := ⟨_, rfl⟩
  obtain ⟨b, hb⟩ : ∃ b, b = loW x := ⟨_, rfl⟩
  obtain ⟨c, hc⟩ : ∃ c, c = hiW y := ⟨_, rfl⟩
  obtain ⟨d, hd⟩ : ∃ d, d = loW y := ⟨_, rfl⟩
  rw [← ha] at k1 ex ⊢
  rw [← hb] at k3 ex ⊢
  rw [← hc] at k2 ey ⊢
  rw [← hd] at k4 ey ⊢
  have HB := Aside0.mk (((Below.refl w.heap.size w).alloc (Nat.le_refl _) (.cells #[.int .i64 a, .int .u64 b] 24 (0, 0))).alloc (by simp) (.cells #[.int .i64 c, .int .u64 d] 24 (0, 0)))
  clear ha hb hc hd
  by_cases h1 : a = c ∧ b = d
  · obtain ⟨rfl, rfl⟩ := h1
    rw [show x - y = 0 by omega, sgn_zero]
    clear ex ey
    go_enter Try.func50, Try.ntmps50
    go_wp2
    go_ret
    exact ⟨rfl, HB.out⟩
  by_cases h2 : a = c
  · subst h2
    have f1 : (b == d) = false := beq_eq_false_iff_ne.mpr (fun e => h1 ⟨rfl, e⟩)
    by_cases h3 : b < d
    · have f2 : decide (b < d) = true := decide_eq_true h3
      rw [sgn_neg (by omega)]
      clear ex ey h1 h3
      go_enter Try.func50, Try.ntmps50
      go_wp2
      go_ret
      exact ⟨rfl, HB.out⟩
    · have f2 : decide (b < d) = false := decide_eq_false h3
      rw [sgn_pos (by have : ¬ b = d := fun e => h1 ⟨rfl, e⟩; omega)]
      clear ex ey h1 h3
      go_enter Try.func50, Try.ntmps50
      go_wp2
      go_ret
      exact ⟨rfl, HB.out⟩
  · have f1 : (a == c) = false := beq_eq_false_iff_ne.mpr h2
    by_cases h3 : a < c
    · have f2 : decide (a < c) = true := decide_eq_true h3
      rw [sgn_neg (by omega)]
      clear ex ey h1 h2 h3
      go_enter Try.func50, Try.ntmps50
      go_wp2
      go_ret
      exact ⟨rfl, HB.out⟩
    · have f2 : decide (a < c) = false := decide_eq_false h3
      rw [sgn_pos (by omega)]
      clear ex ey h1 h2 h3
      go_enter Try.func50, Try.ntmps50
      go_wp2
      go_ret
      exact ⟨rfl, HB.out⟩
set_option maxHeartbeats 800000 in
theorem wide_Sign {x : Int} (w : World) (hx : inW x) :
    Calls Try.prog 49 #[WV x] w fun e w' => e = .returned (.int .i64 (sgn x)) ∧ Below w.heap.size w w' := by
  obtain ⟨a, ha⟩ : ∃ a, a = hiW x := ⟨_, rfl⟩
  obtain ⟨b, hb⟩ : ∃ b, b = loW x := ⟨_, rfl⟩
  have hb1 := (Below.refl w.heap.size w).alloc (Nat.le_refl _) (.cells #[.int .i64 a, .int .u64 b] 24 (0, 0))
  have HB := Aside0.mk hb1
  have HC := Aside0.mk (wide_Cmp (w.alloc (.cells #[.int .i64 a, .int .u64 b] 24 (0, 0))) hx inW_zero)
  rw [WV_zero, Int.sub_zero] at HC
  unfold WV at HC ⊢
  rw [← ha, ← hb] at HC ⊢
  clear ha hb hb1
  go_enter Try.func49, Try.ntmps49
  go_wp2_with (first
    | (go_at_call 50; (with_reducible refine (HC.out).mono ?_); rintro e w1 ⟨rfl, h1⟩; have HB1 := Aside0.mk (HB.out.trans ⟨h1.os, h1.tape, h1.output, h1.size, fun k hk => h1.block k (Nat.lt_of_lt_of_le hk HB.out.size)⟩); clear h1))
  go_ret
  exact ⟨rfl, HB1.out⟩
end Go.Proofs.Ytadmigijbfdboaa.Q

namespace Go.Proofs.Ytadmigijbfdboaa.Q
open Go.RowKit Go.Proofs.YtadmigijbfdboaaW.PrintWords Go.Proofs.YtadmigijbfdboaaW.PrintLast Go.Proofs.YtadmigijbfdboaaW.PrintMore Go.Proofs.YtadmigijbfdboaaV
set_option linter.unusedVariables false
set_option linter.unusedSimpArgs false

/-- What Neg tells. -/
def negE (z : Int) : Int := if z = -170141183460469231731687303715884105728 then 10 else 0
def negW (z : Int) : Int := if z = -170141183460469231731687303715884105728 then 0 else -z
theorem neg_hr {x : Int} (hx : inW x) : (inW (0 - x) ∧ negW x = 0 - x ∧ negE x = 0) ∨ (¬ inW (0 - x) ∧ negW x = 0 ∧ negE x = 10) := by
  unfold inW at hx
  unfold negW negE inW
  by_cases h : x = -170141183460469231731687303715884105728
  · rw [if_pos h, if_pos h]; exact .inr ⟨by omega, rfl, rfl⟩
  · rw [if_neg h, if_neg h]; exact .inl ⟨by omega, by omega, rfl⟩
theorem inW_neg {x : Int} (hx : inW x) : inW (negW x) := by
  unfold inW at hx
  unfold negW inW
  split <;> omega
set_option maxHeartbeats 800000 in
theorem wide_Neg {x : Int} (w : World) (hx : inW x) :
    Calls Try.prog 14 #[WV x] w fun q w' => q = .returned (.tuple #[WV (negW x), .int .i64 (negE x)]) ∧ Below w.heap.size w w' := by
  have HS := Aside0.mk (fun W => wide_Sub W inW_zero hx (negW x) (negE x) (neg_hr hx))
  rw [WV_zero] at HS
  unfold WV at HS ⊢
  obtain ⟨a, ha⟩ : ∃ a, a = hiW x := ⟨_, rfl⟩
  obtain ⟨b, hb⟩ : ∃ b, b = loW x := ⟨_, rfl⟩
  obtain ⟨c, hc⟩ : ∃ a, a = hiW (negW x) := ⟨_, rfl⟩
  obtain ⟨d, hd⟩ : ∃ b, b = loW (negW x) := ⟨_, rfl⟩
  obtain ⟨f, hf⟩ : ∃ b, b = negE x := ⟨_, rfl⟩
  rw [← ha, ← hb, ← hc, ← hd, ← hf] at HS ⊢
  have HB := Aside0.mk (((Below.refl w.heap.size w).alloc (Nat.le_refl _) (.cells #[.int .i64 a, .int .u64 b] 24 (0, 0))).alloc (by simp) (.cells #[.int .i64 0, .int .u64 0] 24 (0, 0)))
  clear ha hb hc hd hf
  go_enter Try.func14, Try.ntmps14
  go_wp2_with (first
    | (go_at_call 32; (with_reducible refine ((HS.out _)).mono ?_); rintro e w1 ⟨rfl, hb1⟩; obtain ⟨f1, f2, f3, f4, f5⟩ := res2 (v0 := .int .i64 c) (v1 := .int .u64 d) ((hb1.block _ (by simp)).trans (heap_alloc2_new w (.cells #[.int .i64 a, .int .u64 b] 24 (0, 0)) (.cells #[.int .i64 0, .int .u64 0] 24 (0, 0)))); have HF := Aside0.mk f5; have HB1 := Aside0.mk (hop HB.out hb1); clear hb1 f5))
  refine bodyPost_ret (results_ct rfl _ _ (w.heap.size + 1) 24 _ (0, 0) _ rfl HF.out Try.underlying24 rfl (by kernel_rfl)) rfl ?_
  exact ⟨rfl, HB1.out.trans (keep_set2.below HB1.out.size (fun k hk => by omega))⟩

/-- What Abs tells. -/
def absW (z : Int) : Int := if z < 0 then negW z else z
def absE (z : Int) : Int := if z < 0 then negE z else 0
theorem inW_abs {x : Int} (hx : inW x) : inW (absW x) := by
  unfold absW
  split
  · exact inW_neg hx
  · exact hx
theorem hiW_neg (x : Int) : hiW x < 0 ↔ x < 0 := by unfold hiW; omega
set_option maxHeartbeats 800000 in
theorem wide_Abs {x : Int} (w : World) (hx : inW x) :
    Calls Try.prog 56 #[WV x] w fun q w' => q = .returned (.tuple #[WV (absW x), .int .i64 (absE x)]) ∧ Below w.heap.size w w' := by
  have HS := Aside0.mk (fun W => wide_Neg (x := x) W hx)
  have hn := hiW_neg x
  by_cases h0 : x < 0
  · rw [show absW x = negW x from if_pos h0, show absE x = negE x from if_pos h0]
    unfold WV at HS ⊢
    obtain ⟨a, ha⟩ : ∃ a, a = hiW x := ⟨_, rfl⟩
    obtain ⟨b, hb⟩ : ∃ b, b = loW x := ⟨_, rfl⟩
    obtain ⟨c, hc⟩ : ∃ a, a = hiW (negW x) := ⟨_, rfl⟩
    obtain ⟨d, hd⟩ : ∃ b, b = loW (negW x) := ⟨_, rfl⟩
    obtain ⟨f, hf⟩ : ∃ b, b = negE x := ⟨_, rfl⟩
    rw [← ha, ← hb, ← hc, ← hd, ← hf] at HS ⊢
    have d1 : decide (a < 0) = true := decide_eq_true (by rw [ha]; exact hn.2 h0)
    have HB := Aside0.mk (((Below.refl w.heap.size w).alloc (Nat.le_refl _) (.cells #[.int .i64 a, .int .u64 b] 24 (0, 0))).alloc (by simp) (.cells #[.int .i64 0, .int .u64 0] 24 (0, 0)))
    clear ha hb hc hd hf hn h0
    go_enter Try.func56, Try.ntmps56
    go_wp2_with (first
      | (go_at_call 14; (with_reducible refine ((HS.out _)).mono ?_); rintro e w1 ⟨rfl, hb1⟩; obtain ⟨f1, f2, f3, f4, f5⟩ := res2 (v0 := .int .i64 c) (v1 := .int .u64 d) ((hb1.block _ (by simp)).trans (heap_alloc2_new w (.cells #[.int .i64 a, .int .u64 b] 24 (0, 0)) (.cells #[.int .i64 0, .int .u64 0] 24 (0, 0)))); have HF := Aside0.mk f5; have HB1 := Aside0.mk (hop HB.out hb1); clear hb1 f5))
    refine bodyPost_ret (results_ct rfl _ _ (w.heap.size + 1) 24 _ (0, 0) _ rfl HF.out Try.underlying24 rfl (by kernel_rfl)) rfl ?_
    exact ⟨rfl, HB1.out.trans (keep_set2.below HB1.out.size (fun k hk => by omega))⟩
  · rw [show absW x = x from if_neg h0, show absE x = 0 from if_neg h0]
    unfold WV
    obtain ⟨a, ha⟩ : ∃ a, a = hiW x := ⟨_, rfl⟩
    obtain ⟨b, hb⟩ : ∃ b, b = loW x := ⟨_, rfl⟩
    rw [← ha, ← hb]
    have d1 : decide (a < 0) = false := decide_eq_false (by rw [ha]; exact fun h => h0 (hn.1 h))
    clear ha hb hn h0 HS
    go_enter Try.func56, Try.ntmps56
    go_wp2
    refine bodyPost_ret (v := .tuple #[.agg #[.int .i64 a, .int .u64 b], .int .i64 0]) (by simp [results, Try.results56, go_sem]) rfl ⟨rfl, ?_⟩
    exact ((Below.refl w.heap.size w).alloc (Nat.le_refl _) _).alloc (by simp) _
end Go.Proofs.Ytadmigijbfdboaa.Q
