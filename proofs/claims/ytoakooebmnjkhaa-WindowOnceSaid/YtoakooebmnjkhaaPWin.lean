import Derived.Test.YtoakooebmnjkhaaProg
import Derived.Test.YtoakooebmnjkhaaVObj
import Derived.Test.YtoakooebmnjkhaaMath
import Derived.Maps.RangeWalk
import Derived.Maps.OwnSet
import Derived.Maps.Views
namespace Go.Proofs.Ytoakooebmnjkhaa.Q
open Go
set_option linter.unusedVariables false
set_option linter.unusedSimpArgs false

def in64 (x : Int) : Prop := -9223372036854775808 ≤ x ∧ x ≤ 9223372036854775807
def kI (x : Int) : Lit := .int .i64 x
theorem kI_ne {x y : Int} (h : x ≠ y) : kI x ≠ kI y := fun e => h (by injection e)
theorem wf_kI {x : Int} (h : in64 x) : (kI x).wf = true := by
  unfold kI
  exact WalkArith.wf_i64 h
theorem in64_wf {x : Int} (h : (Lit.int .i64 x).wf = true) : in64 x := by
  exact Math.wf_i64 h
/-- A map of int64 to struct{} is the set of a list. -/
structure SetIs (D : DataW Unit) (L : List Int) : Prop where
  tidy : Maps.Tidy D
  has : ∀ x, Maps.has D (kI x) = decide (x ∈ L)
  size : Maps.size D = L.length
def insG (id : Int) : List Int → List Int
  | [] => [id]
  | x :: t => if id < x then id :: x :: t else x :: insG id t
theorem mem_insG {id y : Int} : ∀ {L : List Int}, y ∈ insG id L ↔ y = id ∨ y ∈ L := by
  intro L
  induction L with
  | nil => simp [insG]
  | cons x t ih =>
    unfold insG
    split
    · simp
    · simp only [List.mem_cons, ih]
      constructor
      · rintro (h | h | h) <;> simp [h]
      · rintro (h | h | h) <;> simp [h]
theorem length_insG (id : Int) : ∀ L : List Int, (insG id L).length = L.length + 1 := by
  intro L
  induction L with
  | nil => rfl
  | cons x t ih =>
    unfold insG
    split
    · rfl
    · simp [ih]
def Rise (L : List Int) : Prop := L.Pairwise (· < ·)
theorem rise_insG {id : Int} : ∀ {L : List Int}, Rise L → id ∉ L → Rise (insG id L) := by
  intro L
  induction L with
  | nil => intro _ _; simp [insG, Rise]
  | cons x t ih =>
    intro h hn
    have h1 := List.pairwise_cons.1 h
    unfold insG
    split
    · rename_i hlt
      refine List.pairwise_cons.2 ⟨fun y hy => ?_, h⟩
      rcases List.mem_cons.1 hy with rfl | hy
      · exact hlt
      · have := h1.1 y hy
        omega
    · rename_i hge
      refine List.pairwise_cons.2 ⟨fun y hy => ?_, ih h1.2 (fun q => hn (List.mem_cons_of_mem _ q))⟩
      rcases mem_insG.1 hy with rfl | hy
      · have : y ≠ x := fun e => hn (by simp [e])
        omega
      · exact h1.1 y hy
theorem Rise.nodup {L : List Int} (h : Rise L) : L.Nodup := h.imp (fun {a b} hab e => by omega)
theorem Rise.filter {L : List Int} (h : Rise L) (p : Int → Bool) : Rise (L.filter p) := List.Pairwise.filter p h
/-- What is found in any order and sorted. -/
theorem sorted_is {l L : List Int} (hL : Rise L) (hl : l.Nodup) (hm : ∀ x, x ∈ l ↔ x ∈ L) : l.mergeSort (fun x y => decide (x ≤ y)) = L := by
  have hp : l.Perm L := (List.perm_ext_iff_of_nodup hl hL.nodup).2 hm
  have h1 : (l.mergeSort (fun x y => decide (x ≤ y))).Perm L := (List.mergeSort_perm l _).trans hp
  have h2 : (l.mergeSort (fun x y => decide (x ≤ y))).Pairwise (· ≤ ·) := by
    have := List.pairwise_mergeSort (le := fun x y : Int => decide (x ≤ y)) (fun a b c h1 h2 => by simp at *; omega) (fun a b => by simp; omega) l
    exact this.imp (fun h => by simpa using h)
  have h3 : L.Pairwise (· ≤ ·) := hL.imp (fun h => by omega)
  exact List.Perm.eq_of_pairwise (fun a b _ _ h1 h2 => by omega) h2 h3 h1
/-- A book as it stands. -/
structure BkS where
  wd : Int
  bound : Int
  L : List Int
structure BkOk (b : BkS) : Prop where
  wd : 1 ≤ b.wd ∧ b.wd ≤ 1048576
  bound : in64 b.bound
  rise : Rise b.L
  above : ∀ x ∈ b.L, b.bound < x
  wf : ∀ x ∈ b.L, in64 x
  len : b.L.length ≤ 4096
/-- Put. -/
def putP (b : BkS) (t : Int) : Int × Int × BkS :=
  if t / b.wd ≤ b.bound then (0, 62, b)
  else if t / b.wd ∈ b.L then (t / b.wd, 0, b)
  else if 4096 ≤ b.L.length then (0, 3, b)
  else (t / b.wd, 0, { b with L := insG (t / b.wd) b.L })
/-- Close. -/
def closeP (b : BkS) (m : Int) : List Int × BkS :=
  if m / b.wd = -9223372036854775808 then ([], b)
  else if m / b.wd - 1 ≤ b.bound then ([], b)
  else (b.L.filter (fun x => decide (x ≤ m / b.wd - 1)), { b with bound := m / b.wd - 1, L := b.L.filter (fun x => decide (m / b.wd - 1 < x)) })
theorem div_in64 {t w : Int} (ht : in64 t) (hw : 1 ≤ w) : in64 (t / w) := by
  have := Math.ediv_range t w hw ht.1 ht.2
  unfold in64
  omega
/-- Putting leaves a book as it should be. -/
theorem putP_ok {b : BkS} (h : BkOk b) {t : Int} (ht : in64 t) : BkOk (putP b t).2.2 := by
  unfold putP
  split
  · exact h
  · split
    · exact h
    · split
      · exact h
      · rename_i h1 h2 h3
        refine ⟨h.wd, h.bound, rise_insG h.rise h2, fun x hx => ?_, fun x hx => ?_, ?_⟩
        · show b.bound < x
          rcases mem_insG.1 hx with rfl | hx
          · omega
          · exact h.above x hx
        · rcases mem_insG.1 hx with rfl | hx
          · exact div_in64 ht h.wd.1
          · exact h.wf x hx
        · show (insG _ _).length ≤ 4096
          rw [length_insG]
          omega
theorem closeP_ok {b : BkS} (h : BkOk b) {m : Int} (hm : in64 m) : BkOk (closeP b m).2 := by
  unfold closeP
  split
  · exact h
  · split
    · exact h
    · rename_i h1 h2
      have hd := div_in64 hm h.wd.1
      refine ⟨h.wd, ?_, h.rise.filter _, fun x hx => ?_, fun x hx => h.wf x (List.mem_filter.1 hx).1, Nat.le_trans (List.length_filter_le _ _) h.len⟩
      · show in64 (m / b.wd - 1)
        unfold in64 at *
        omega
      · have := (List.mem_filter.1 hx).2
        simpa using this
theorem kI_same {x y : Int} : (kI y).sameKey (kI x) = decide (y = x) := by
  by_cases h : y = x
  · subst h
    simp [kI, Lit.sameKey]
  · rw [Maps.sameKey_ne (kI_ne h), decide_eq_false h]
theorem kI_key (x : Int) : WideAt.IsKeyLit (kI x) := by
  unfold kI
  trivial
/-- What is still to come, behind a step. -/
theorem strike_kI {left : Lit → Bool} {x y : Int} : (fun z : Lit => left z && !z.sameKey (kI x)) (kI y) = true ↔ left (kI y) = true ∧ y ≠ x := by
  show (left (kI y) && !(kI y).sameKey (kI x)) = true ↔ _
  rw [kI_same]
  simp
theorem SetIs.empty : SetIs (.map []) [] := ⟨Maps.tidy_empty, fun x => rfl, rfl⟩
theorem SetIs.put {D : DataW Unit} {L L' : List Int} (h : SetIs D L) {x : Int} (hx : x ∉ L) (hm : ∀ y, y ∈ L' ↔ y = x ∨ y ∈ L) (hl : L'.length = L.length + 1) (d : DataW Unit) : SetIs (D.put (kI x) d) L' := by
  refine ⟨h.tidy.put (kI_key x) d, fun y => ?_, ?_⟩
  · by_cases e : y = x
    · subst e
      rw [Maps.has_put_same h.tidy.isMap (kI_key y) d]
      exact (decide_eq_true ((hm y).2 (.inl rfl))).symm
    · rw [Maps.has_put_other (kI_ne e) d, h.has, decide_eq_decide, hm]
      constructor
      · exact .inr
      · exact fun q => q.resolve_left e
  · rw [Maps.size_put h.tidy d, h.has, decide_eq_false hx, hl, h.size]
    rfl
theorem SetIs.again {D : DataW Unit} {L : List Int} (h : SetIs D L) {x : Int} (hx : x ∈ L) (d : DataW Unit) : SetIs (D.put (kI x) d) L := by
  refine ⟨h.tidy.put (kI_key x) d, fun y => ?_, ?_⟩
  · by_cases e : y = x
    · subst e
      rw [Maps.has_put_same h.tidy.isMap (kI_key y) d]
      exact (decide_eq_true hx).symm
    · rw [Maps.has_put_other (kI_ne e) d, h.has]
  · rw [Maps.size_put h.tidy d, h.has, decide_eq_true hx, h.size]
    rfl
theorem length_strike1 {x : Int} : ∀ {L : List Int}, L.Nodup → x ∈ L → (L.filter (fun y => decide (y ≠ x))).length + 1 = L.length := by
  intro L
  induction L with
  | nil => intro _ h; cases h
  | cons a t ih =>
    intro hn hx
    have h1 := List.nodup_cons.1 hn
    by_cases e : a = x
    · subst e
      have : t.filter (fun y => decide (y ≠ a)) = t := List.filter_eq_self.2 (fun y hy => decide_eq_true (fun e => h1.1 (e ▸ hy)))
      rw [List.filter_cons_of_neg (by simp), this]
      rfl
    · have hx' : x ∈ t := (List.mem_cons.1 hx).resolve_left (fun q => e q.symm)
      have := ih h1.2 hx'
      rw [List.filter_cons_of_pos (by simpa using e)]
      simp only [List.length_cons]
      omega
theorem SetIs.del {D : DataW Unit} {L : List Int} (h : SetIs D L) (hn : L.Nodup) {x : Int} (hx : x ∈ L) : SetIs (D.del (kI x)) (L.filter (fun y => decide (y ≠ x))) := by
  refine ⟨h.tidy.del (kI x), fun y => ?_, ?_⟩
  · by_cases e : y = x
    · subst e
      rw [Maps.has_del_same]
      simp
    · rw [Maps.has_del_other (kI_ne e), h.has, decide_eq_decide]
      simp [e]
  · have h1 := Maps.size_del (k := kI x) h.tidy
    rw [h.has, decide_eq_true hx, if_pos rfl, h.size] at h1
    have h2 := length_strike1 hn hx
    omega
/-- Open's loop. -/
structure OpenI (L : List Int) (left : Lit → Bool) (l : List Int) : Prop where
  nodup : l.Nodup
  mem : ∀ x, x ∈ l ↔ x ∈ L ∧ left (kI x) = false
  left : ∀ x, left (kI x) = true → x ∈ L
theorem OpenI.start {D : DataW Unit} {L : List Int} (h : SetIs D L) : OpenI L (Maps.has D) [] :=
  ⟨List.nodup_nil, fun x => by rw [h.has]; simp, fun x hx => by rw [h.has] at hx; simpa using hx⟩
theorem left_false {left : Lit → Bool} {x y : Int} : (fun z : Lit => left z && !z.sameKey (kI x)) (kI y) = false ↔ left (kI y) = false ∨ y = x := by
  show (left (kI y) && !(kI y).sameKey (kI x)) = false ↔ _
  rw [kI_same]
  cases left (kI y) <;> simp
theorem OpenI.step {L : List Int} {left : Lit → Bool} {l : List Int} (h : OpenI L left l) {x : Int} (hx : left (kI x) = true) : OpenI L (fun z => left z && !z.sameKey (kI x)) (l ++ [x]) := by
  have hn : x ∉ l := fun q => by have := ((h.mem x).1 q).2; rw [hx] at this; cases this
  refine ⟨List.nodup_append.2 ⟨h.nodup, by simp, fun a ha b hb e => by rw [List.mem_singleton] at hb; subst hb; subst e; exact hn ha⟩, fun y => ?_, fun y hy => h.left y (strike_kI.1 hy).1⟩
  rw [List.mem_append, List.mem_singleton, h.mem, left_false]
  constructor
  · rintro (⟨a, b⟩ | rfl)
    · exact ⟨a, .inl b⟩
    · exact ⟨h.left y hx, .inr rfl⟩
  · rintro ⟨a, b | b⟩
    · exact .inl ⟨a, b⟩
    · exact .inr b
theorem OpenI.done {L : List Int} {left : Lit → Bool} {l : List Int} (h : OpenI L left l) (hr : Rise L) (hl : ∀ kl, left kl = false) : l.mergeSort (fun x y => decide (x ≤ y)) = L :=
  sorted_is hr h.nodup (fun x => by rw [h.mem]; exact ⟨fun q => q.1, fun q => ⟨q, hl _⟩⟩)
/-- Close's loop. -/
structure CloseI (L : List Int) (c : Int) (left : Lit → Bool) (l : List Int) (D : DataW Unit) : Prop where
  nodup : l.Nodup
  mem : ∀ x, x ∈ l ↔ x ∈ L ∧ x ≤ c ∧ left (kI x) = false
  left : ∀ x, left (kI x) = true → x ∈ L
  set : SetIs D (L.filter (fun x => decide (x ∉ l)))
theorem CloseI.start {D : DataW Unit} {L : List Int} (h : SetIs D L) (c : Int) : CloseI L c (Maps.has D) [] D := by
  refine ⟨List.nodup_nil, fun x => ?_, fun x hx => by rw [h.has] at hx; simpa using hx, ?_⟩
  · rw [h.has]
    constructor
    · intro q; cases q
    · rintro ⟨a, -, b⟩
      exact absurd a (by simpa using b)
  have : L.filter (fun x => decide (x ∉ ([] : List Int))) = L := List.filter_eq_self.2 (fun x _ => by simp)
  rw [this]
  exact h
theorem CloseI.keep {L : List Int} {c : Int} {left : Lit → Bool} {l : List Int} {D : DataW Unit} (h : CloseI L c left l D) {x : Int} (hx : left (kI x) = true) (hc : ¬ x ≤ c) : CloseI L c (fun z => left z && !z.sameKey (kI x)) l D := by
  refine ⟨h.nodup, fun y => ?_, fun y hy => h.left y (strike_kI.1 hy).1, h.set⟩
  rw [h.mem, left_false]
  constructor
  · rintro ⟨a, b, d⟩
    exact ⟨a, b, .inl d⟩
  · rintro ⟨a, b, d | d⟩
    · exact ⟨a, b, d⟩
    · subst d
      exact absurd b hc
theorem CloseI.take {L : List Int} {c : Int} {left : Lit → Bool} {l : List Int} {D : DataW Unit} (h : CloseI L c left l D) (hr : Rise L) {x : Int} (hx : left (kI x) = true) (hc : x ≤ c) : CloseI L c (fun z => left z && !z.sameKey (kI x)) (l ++ [x]) (D.del (kI x)) := by
  have hn : x ∉ l := fun q => by have := ((h.mem x).1 q).2.2; rw [hx] at this; cases this
  refine ⟨List.nodup_append.2 ⟨h.nodup, by simp, fun a ha b hb e => by rw [List.mem_singleton] at hb; subst hb; subst e; exact hn ha⟩, fun y => ?_, fun y hy => h.left y (strike_kI.1 hy).1, ?_⟩
  · rw [List.mem_append, List.mem_singleton, h.mem, left_false]
    constructor
    · rintro (⟨a, b, d⟩ | rfl)
      · exact ⟨a, b, .inl d⟩
      · exact ⟨h.left y hx, hc, .inr rfl⟩
    · rintro ⟨a, b, d | d⟩
      · exact .inl ⟨a, b, d⟩
      · exact .inr d
  · have := h.set.del ((hr.filter _).nodup) (x := x) (List.mem_filter.2 ⟨h.left x hx, decide_eq_true hn⟩)
    rw [List.filter_filter] at this
    have e : L.filter (fun y => decide (y ∉ l ++ [x])) = L.filter (fun y => decide (y ≠ x) && decide (y ∉ l)) := by
      congr 1
      funext y
      rw [← Bool.decide_and, decide_eq_decide, List.mem_append, List.mem_singleton]
      constructor
      · exact fun q => ⟨fun e => q (.inr e), fun e => q (.inl e)⟩
      · rintro ⟨a, b⟩ (q | q)
        · exact b q
        · exact a q
    rw [e]
    exact this
theorem CloseI.done {L : List Int} {c : Int} {left : Lit → Bool} {l : List Int} {D : DataW Unit} (h : CloseI L c left l D) (hr : Rise L) (hl : ∀ kl, left kl = false) : l.mergeSort (fun x y => decide (x ≤ y)) = L.filter (fun x => decide (x ≤ c)) ∧ SetIs D (L.filter (fun x => decide (c < x))) := by
  refine ⟨sorted_is (hr.filter _) h.nodup (fun x => ?_), ?_⟩
  · rw [h.mem, List.mem_filter, decide_eq_true_eq]
    exact ⟨fun q => ⟨q.1, q.2.1⟩, fun q => ⟨q.1, q.2, hl _⟩⟩
  · have e : L.filter (fun x => decide (x ∉ l)) = L.filter (fun x => decide (c < x)) := by
      refine List.filter_congr (fun x hx => ?_)
      rw [decide_eq_decide, h.mem]
      constructor
      · intro q
        have : ¬ x ≤ c := fun e => q ⟨hx, e, hl _⟩
        omega
      · rintro q ⟨-, b, -⟩
        omega
    rw [← e]
    exact h.set
end Go.Proofs.Ytoakooebmnjkhaa.Q
