/- The bulk of a pattern that may be, against the length of its text; names and stars as patterns. -/
import Derived.Test.YtecfmmalbehcnaaDoorNPlain
namespace Go.Proofs.YtecfmmalbehcnaaDoor.Q
set_option linter.unusedVariables false

theorem rise_len : ∀ (l : List UInt8) (k : Nat), RiseB l → (∀ x ∈ l, k ≤ x.toNat) → l.length + k ≤ 256 ∨ l = [] := by
  intro l
  induction l with
  | nil => intro k _ _; exact .inr rfl
  | cons a t ih =>
    intro k h hk
    left
    have ha := hk a (List.mem_cons_self ..)
    have hb : a.toNat < 256 := a.toNat_lt
    cases t with
    | nil => simp; omega
    | cons b u =>
      obtain ⟨h1, h2⟩ := List.pairwise_cons.1 h
      rcases ih (a.toNat + 1) h2 (fun x hx => h1 x hx) with q | q
      · rw [List.length_cons]; omega
      · cases q
theorem join_len (sep : UInt8) : ∀ l : List (List UInt8), l ≠ [] → bulkA l = (joinR sep l).length + 1 := by
  intro l
  induction l with
  | nil => intro h; exact absurd rfl h
  | cons a t ih =>
    intro _
    cases t with
    | nil => show a.length + 1 + 0 = a.length + 1; omega
    | cons b u =>
      rw [joinR_cons, List.length_append, List.length_cons]
      have := ih (by simp)
      unfold bulkA at this ⊢
      rw [List.map_cons, List.sum_cons]
      omega
theorem ranged_pos {l : List UInt8} (h : l ≠ []) : 1 ≤ (rangedR l).length := by
  cases l with
  | nil => exact absurd rfl h
  | cons c t =>
    rw [rangedR, List.length_append]
    split
    · simp only [List.length_cons]; omega
    · simp only [List.length_cons]; omega
theorem glob_bulk {g : Gl} (h : GlobMay g) : bulkG g ≤ 260 * (writtenR g).length := by
  unfold bulkG writtenR
  rcases h with ⟨h1, h2, -, h4⟩ | ⟨h1, h2, h3⟩ | ⟨h1, h2, -, h4, h5⟩ | ⟨h1, h2, h3, h4, h5⟩
  · rw [h4, h1, if_neg (by decide), if_neg (by decide), if_neg (by decide), if_neg (by decide)]
    have : 1 ≤ g.text.length := by cases ht : g.text with | nil => exact absurd ht h2 | cons a t => simp
    show g.text.length + 0 + 3 ≤ _
    omega
  · rw [h2, h3]
    show 0 + 0 + 3 ≤ _
    rcases h1 with q | q <;> rw [q]
    · rw [if_pos rfl]; decide
    · rw [if_neg (by decide), if_pos rfl]; decide
  · rw [h5, h1, if_neg (by decide), if_neg (by decide), if_pos rfl]
    show g.text.length + 0 + 3 ≤ _
    rcases rise_len g.text 0 h4 (fun _ _ => Nat.zero_le _) with q | q
    · rw [List.length_cons]; omega
    · exact absurd q h2
  · rw [h2, h1, if_neg (by decide), if_neg (by decide), if_neg (by decide), if_pos rfl]
    show 0 + bulkA g.alts + 3 ≤ _
    have := join_len 44 g.alts h3
    simp only [List.length_cons, List.length_append, List.length_nil]
    omega
theorem node_bulk : ∀ n : List Gl, (∀ g ∈ n, GlobMay g) → bulkN n ≤ 260 * (nodeW n).length + 1 := by
  intro n
  induction n with
  | nil => intro _; exact Nat.le_refl _
  | cons g t ih =>
    intro h
    have h1 := glob_bulk (h g (List.mem_cons_self ..))
    have h2 := ih (fun x hx => h x (List.mem_cons_of_mem _ hx))
    unfold bulkN nodeW at *
    rw [List.map_cons, List.sum_cons, List.flatMap_cons, List.length_append]
    omega
theorem pat_bulk : ∀ p : List (List Gl), (∀ n ∈ p, ∀ g ∈ n, GlobMay g) → bulkP p ≤ 260 * bulkA (p.map nodeW) + p.length + 1 := by
  intro p
  induction p with
  | nil => intro _; exact Nat.le_refl _
  | cons n t ih =>
    intro h
    have h1 := node_bulk n (h n (List.mem_cons_self ..))
    have h2 := ih (fun x hx => h x (List.mem_cons_of_mem _ hx))
    unfold bulkP bulkA at *
    simp only [List.map_cons, List.sum_cons, List.length_cons] at *
    omega
theorem may_bulk {p : List (List Gl)} (h : PatMay p) (hl : (wholeR p).length ≤ 400) : bulkP p ≤ 1048576 := by
  have h1 := pat_bulk p (fun n hn => (h.2.2 n hn).2.1)
  have h2 := join_len 46 (p.map nodeW) (by simpa using h.1)
  have h3 := h.2.1
  unfold wholeR at hl
  omega
/-- Stars with points between them. -/
def starS : Nat → List UInt8
  | 0 => [42]
  | k + 1 => starS k ++ [46, 42]
theorem star_snoc (n : Nat) : wholeR (starsP (n + 2)) = wholeR (starsP (n + 1)) ++ [46, 42] := by
  unfold wholeR starsP
  induction n with
  | zero => rfl
  | succ n ih =>
    have e : ∀ m : Nat, (List.replicate (m + 1) [(⟨2, [], []⟩ : Gl)]).map nodeW = [42] :: (List.replicate m [(⟨2, [], []⟩ : Gl)]).map nodeW := fun m => rfl
    rw [e (n + 1), e n] at ih
    rw [e (n + 2), e (n + 1), e n]
    rw [joinR_cons] at ih ⊢
    rw [joinR_cons]
    exact (congrArg (fun z => [42] ++ 46 :: z) ih).trans (by simp)
theorem star_whole (n : Nat) : starS n = wholeR (starsP (n + 1)) := by
  induction n with
  | zero => rfl
  | succ n ih => rw [star_snoc, ← ih]; rfl
theorem star_len (n : Nat) : (starS n).length = 2 * n + 1 := by
  induction n with
  | zero => rfl
  | succ n ih => show (starS n ++ [46, 42]).length = _; rw [List.length_append, ih]; rfl
theorem compP_may {p : List (List Gl)} (h : PatMay p) (hl : (wholeR p).length ≤ 400) : compP (wholeR p) = (p, 0, 0) := by
  unfold compP
  rw [if_neg (by omega), compile_whole h]
theorem plainB_plain {s : List UInt8} (h : validP s = true) : plainB (plainP s) = (s, true) := by
  unfold plainB
  rw [mayB_iff.2 (plain_may h), plain_whole, h, show (plainP s).all oneT = true from List.all_eq_true.2 (fun n hn => by
    obtain ⟨a, ha, rfl⟩ := List.mem_map.1 hn
    rfl)]
  rfl
theorem matchB_plain {s o : List UInt8} (h : validP s = true) : matchB (plainP s) o = decide (s = o) := by
  rw [Bool.eq_iff_iff, matchB_iff, match_plain h, decide_eq_true_eq]
theorem nodesB_length (s : ByteArray) : (nodesB s).length = (nodesP s.data.toList).length := by
  unfold nodesB nodesP
  split
  · unfold splitS; rw [List.length_map]
  · rfl
theorem matchB_stars {n : Nat} {o : ByteArray} (h1 : 1 ≤ n) (h2 : n ≤ 16) : matchB (starsP n) o.data.toList = decide ((nodesB o).length = n) := by
  rw [Bool.eq_iff_iff, matchB_iff, match_stars h1 h2, decide_eq_true_eq, nodesB_length]
end Go.Proofs.YtecfmmalbehcnaaDoor.Q
