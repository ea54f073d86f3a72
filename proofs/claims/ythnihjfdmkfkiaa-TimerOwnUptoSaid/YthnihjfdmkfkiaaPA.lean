/- Plain facts on the printed functions: the reference's merge, Same, fine; alive. -/
import Derived.Test.YthnihjfdmkfkiaaGx6
namespace Go.Proofs.Ythnihjfdmkfkiaa.G
open Go.RowKit Go.Proofs.Ythnihjfdmkfkiaa.Q Go.Proofs.YthnihjfdmkfkiaaW.PrintWords
set_option linter.unusedVariables false
set_option linter.unusedSimpArgs false

theorem w64 {n : Int} (h0 : 0 ≤ n) (h1 : n ≤ 9223372036854775807) : wrap64 n = n := by unfold wrap64; omega
theorem ws {i : Nat} (h : i ≤ 1048576 * 4) : wrap64 ((i : Int) + 1) = ((i + 1 : Nat) : Int) := by unfold wrap64; omega
theorem drop_rd {l : List Int} {i : Nat} (h : i < l.length) : l.drop i = rd l (i : Nat) :: l.drop (i + 1) := by
  rw [List.drop_eq_getElem_cons h]
  congr 1
  unfold rd
  rw [Int.toNat_natCast, List.getD_eq_getElem?_getD, List.getElem?_eq_getElem h]
  rfl
theorem mergeP_cons (a b : Int) (x y : List Int) : mergeP (a :: x) (b :: y) = if a ≤ b then a :: mergeP x (b :: y) else b :: mergeP (a :: x) y := by
  unfold mergeP
  rw [List.cons_merge_cons]
  unfold leB
  by_cases c : a ≤ b
  · rw [if_pos c, if_pos (by simp [c])]
  · rw [if_neg c, if_neg (by simp [c])]
theorem mergeP_nil_left (y : List Int) : mergeP [] y = y := by simp [mergeP]
theorem mergeP_nil_right (x : List Int) : mergeP x [] = x := by simp [mergeP]
theorem rmerge_l0 (x0 x1 : List Int) (hL : x0.length + x1.length ≤ 1048576) (n : Nat) : ∀ (k i j : Nat) (acc : List Int), i ≤ x0.length → j ≤ x1.length → (x0.length - i) + (x1.length - j) ≤ n → acc.length + n ≤ 1048576 → 2 * n + 2 ≤ k →
    tumblerref09_Merge.l0 k x0 x1 acc i j = some (acc ++ mergeP (x0.drop i) (x1.drop j)) := by
  induction n with
  | zero =>
    intro k i j acc hi hj h hl hk
    obtain ⟨k, rfl⟩ : ∃ m, k = m + 2 := ⟨k - 2, by omega⟩
    have e0 : i = x0.length := by omega
    have e1 : j = x1.length := by omega
    subst e0; subst e1
    simp only [tumblerref09_Merge.l0, tumblerref09_Merge.j1]
    rw [if_neg (by omega), if_neg (by simp), List.drop_length, List.drop_length, mergeP_nil_left, List.append_nil]
  | succ n ih =>
    intro k i j acc hi hj h hl hk
    obtain ⟨k, rfl⟩ : ∃ m, k = m + 2 := ⟨k - 2, by omega⟩
    by_cases c0 : i < x0.length
    · have T0 := ih k (i + 1) j (acc ++ [rd x0 (i : Nat)]) (by omega) hj (by omega) (by simp only [List.length_append, List.length_cons, List.length_nil]; omega) (by omega)
      by_cases c1 : j < x1.length
      · have T1 := ih k i (j + 1) (acc ++ [rd x1 (j : Nat)]) (by omega) (by omega) (by omega) (by simp only [List.length_append, List.length_cons, List.length_nil]; omega) (by omega)
        simp only [tumblerref09_Merge.l0, tumblerref09_Merge.j1]
        rw [if_pos (by omega), if_pos trivial, if_neg (by omega), if_pos (by omega), if_pos (by omega), if_pos (by omega), if_pos (by omega)]
        rw [drop_rd c0, drop_rd c1, mergeP_cons]
        by_cases c : rd x0 (i : Nat) ≤ rd x1 (j : Nat)
        · rw [if_pos c, if_pos c, if_pos (by omega), ws (i := i) (by omega), T0, drop_rd c1, List.append_assoc, List.singleton_append]
        · rw [if_neg c, if_neg c, if_pos (by omega), ws (i := j) (by omega), T1, drop_rd c0, List.append_assoc, List.singleton_append]
      · simp only [tumblerref09_Merge.l0, tumblerref09_Merge.j1]
        rw [if_pos (by omega), if_pos trivial, if_pos (by omega), if_pos (by omega), if_pos (by omega), if_pos (by omega), ws (i := i) (by omega), T0]
        rw [List.drop_eq_nil_of_le (show x1.length ≤ j by omega), mergeP_nil_right, mergeP_nil_right, drop_rd c0, List.append_assoc, List.singleton_append]
    · by_cases c1 : j < x1.length
      · have T1 := ih k i (j + 1) (acc ++ [rd x1 (j : Nat)]) (by omega) (by omega) (by omega) (by simp only [List.length_append, List.length_cons, List.length_nil]; omega) (by omega)
        simp only [tumblerref09_Merge.l0, tumblerref09_Merge.j1]
        rw [if_neg (by omega), if_pos (by simp; omega), if_neg (by omega), if_neg (by omega), if_pos (by omega), if_pos (by omega), if_pos (by omega), ws (i := j) (by omega), T1]
        rw [List.drop_eq_nil_of_le (show x0.length ≤ i by omega), mergeP_nil_left, mergeP_nil_left, drop_rd c1, List.append_assoc, List.singleton_append]
      · simp only [tumblerref09_Merge.l0, tumblerref09_Merge.j1]
        rw [if_neg (by omega), if_neg (by simp; omega), List.drop_eq_nil_of_le (show x0.length ≤ i by omega), List.drop_eq_nil_of_le (show x1.length ≤ j by omega), mergeP_nil_left, List.append_nil]
theorem rmerge_f {x0 x1 : List Int} (h : x0.length + x1.length ≤ 1048576) {k : Nat} (hk : 2 * (x0.length + x1.length) + 2 ≤ k) : tumblerref09_Merge.f k x0 x1 = some (mergeP x0 x1) := by
  have := rmerge_l0 x0 x1 h (x0.length + x1.length) k 0 0 [] (Nat.zero_le _) (Nat.zero_le _) (by omega) (by simp only [List.length_nil]; omega) hk
  exact this
theorem tmerge_f {x0 x1 : List Int} (h : x0.length + x1.length ≤ 1048576) {k : Nat} (hk : 2 * (x0.length + x1.length) + 2 ≤ k) : timer_Merge.f k x0 x1 = some (mergeP x0 x1) := by
  unfold timer_Merge.f
  rw [merge_f h hk]
  rfl
theorem same_l0 (l : List Int) (hl : l.length ≤ 1048576 * 4) (n : Nat) : ∀ (k i : Nat), i ≤ l.length → l.length - i ≤ n → n + 1 ≤ k → tumblerref09_Same.l0 k l l i = some true := by
  induction n with
  | zero =>
    intro k i hi h hk
    obtain ⟨k, rfl⟩ : ∃ m, k = m + 1 := ⟨k - 1, by omega⟩
    simp only [tumblerref09_Same.l0]
    rw [if_neg (by omega)]
  | succ n ih =>
    intro k i hi h hk
    obtain ⟨k, rfl⟩ : ∃ m, k = m + 1 := ⟨k - 1, by omega⟩
    by_cases c : i < l.length
    · have wi : wrap64 ((i : Int) + 1) = ((i + 1 : Nat) : Int) := by rw [w64 (by omega) (by omega)]; rfl
      simp only [tumblerref09_Same.l0]
      rw [if_pos (by omega), if_pos (by omega), if_pos (by omega), if_pos trivial, ws (i := i) (by omega), ih k (i + 1) (by omega) (by omega) (by omega)]
    · simp only [tumblerref09_Same.l0]
      rw [if_neg (by omega)]
theorem same_f {l : List Int} (hl : l.length ≤ 1048576 * 4) {k : Nat} (hk : l.length + 1 ≤ k) : tumblerref09_Same.f k l l = some true := by
  unfold tumblerref09_Same.f
  rw [if_pos rfl]
  exact same_l0 l hl l.length k 0 (Nat.zero_le _) (by omega) hk
theorem fine_l0 (l : List Int) (hl : l.length ≤ 1048576 * 4) (n : Nat) : ∀ (k i : Nat), i ≤ l.length → l.length - i ≤ n → n + 1 ≤ k → tumblerref09_fine.l0 k l i = some ((l.drop i).all smpB) := by
  induction n with
  | zero =>
    intro k i hi h hk
    obtain ⟨k, rfl⟩ : ∃ m, k = m + 1 := ⟨k - 1, by omega⟩
    simp only [tumblerref09_fine.l0]
    rw [if_neg (by omega), List.drop_eq_nil_of_le (by omega)]
    rfl
  | succ n ih =>
    intro k i hi h hk
    obtain ⟨k, rfl⟩ : ∃ m, k = m + 1 := ⟨k - 1, by omega⟩
    by_cases c : i < l.length
    · have wi : wrap64 ((i : Int) + 1) = ((i + 1 : Nat) : Int) := by rw [w64 (by omega) (by omega)]; rfl
      simp only [tumblerref09_fine.l0]
      rw [if_pos (by omega), if_pos (by omega), ws (i := i) (by omega), ih k (i + 1) (by omega) (by omega) (by omega), drop_rd c, List.all_cons]
      by_cases a : rd l (i : Nat) < 0
      · rw [if_pos a]
        have : smpB (rd l (i : Nat)) = false := by unfold smpB; simp; omega
        rw [this]
        rfl
      · rw [if_neg a]
        by_cases b : rd l (i : Nat) > 100000000000000
        · rw [if_pos b]
          have : smpB (rd l (i : Nat)) = false := by unfold smpB; simp; omega
          rw [this]
          rfl
        · rw [if_neg b]
          have : smpB (rd l (i : Nat)) = true := by unfold smpB; simp; omega
          rw [this]
          rfl
    · simp only [tumblerref09_fine.l0]
      rw [if_neg (by omega), List.drop_eq_nil_of_le (by omega)]
      rfl
theorem fine_f {l : List Int} (hl : l.length ≤ 1048576 * 4) {k : Nat} (hk : l.length + 1 ≤ k) : tumblerref09_fine.f k l = some (l.all smpB) := fine_l0 l hl l.length k 0 (Nat.zero_le _) (by omega) hk
theorem sort514 : sortP [5, 1, 4] = [1, 4, 5] := by
  refine (sortP_of ?_ ?_).symm
  · unfold Rise
    decide
  · decide
theorem alive_true : tumblerlaw09_alive.f = some true := by
  have e1 : devP [1, 4, 5] = 1 := by
    have : sqP (meanP [1, 4, 5]) [1, 4, 5] / (([1, 4, 5] : List Int).length : Int) = 3 := by decide +kernel
    unfold devP
    rw [this]
    exact isq_eq (by omega) (by omega) (by omega)
  have e2 : medP [1, 4, 5] = 4 := by decide +kernel
  have e3 : ([5, 1, 4] : List Int).all smpB = true := by decide +kernel
  have e0 : timer_Of.f [5, 1, 4] = some (3, 0, 10, 1, 5, 3, 4, 1, 0) := by
    unfold timer_Of.f
    rw [if_neg (show ¬ 1048576 < ([5, 1, 4] : List Int).length by simp), if_pos e3, if_neg (by simp), sort514, e1, e2]
    have a1 : (([1, 4, 5] : List Int).length : Int) = 3 := by decide +kernel
    have a2 : hiW ([1, 4, 5] : List Int).sum = 0 := by decide +kernel
    have a3 : loW ([1, 4, 5] : List Int).sum = 10 := by decide +kernel
    have a4 : rd ([1, 4, 5] : List Int) 0 = 1 := by decide +kernel
    have a5 : rd ([1, 4, 5] : List Int) (([1, 4, 5] : List Int).length - 1 : Nat) = 5 := by decide +kernel
    have a6 : meanP [1, 4, 5] = 3 := by decide +kernel
    rw [a1, a2, a3, a4, a5, a6]
  unfold tumblerlaw09_alive.f
  rw [e0]
  rfl
theorem ones_len (l : List Int) : (l.map (fun _ => 1)).sum = l.length := by
  induction l with
  | nil => rfl
  | cons a t ih => simp only [List.map_cons, List.sum_cons, ih, List.length_cons]; omega
end Go.Proofs.Ythnihjfdmkfkiaa.G
