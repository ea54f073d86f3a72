/- Plain facts on the program's Of, Upto, Bins: they answer, and their answers hang on the sorted samples alone. -/
import Derived.Test.YthnihjfdmkfkiaaGx8
import Derived.Test.YthnihjfdmkfkiaaPA
namespace Go.Proofs.Ythnihjfdmkfkiaa.G
open Go.RowKit Go.Proofs.Ythnihjfdmkfkiaa.Q Go.Proofs.YthnihjfdmkfkiaaW.PrintWords
set_option linter.unusedVariables false
set_option linter.unusedSimpArgs false

theorem rank_p {n rho : Int} (h0 : 0 ≤ n * rho) (h1 : n * rho ≤ 104857600000000) (n0 : 0 ≤ n) (n1 : n ≤ 1048576) : timer_rank.f n rho = some ((n * rho + 99999999) / 100000000) := by
  unfold timer_rank.f
  have e1 : Int.tdiv n 100000000 = 0 := Int.tdiv_eq_zero_of_lt n0 (by omega)
  have e2 : Int.tmod n 100000000 = n := Int.tmod_eq_of_lt n0 (by omega)
  rw [e1, e2]
  generalize n * rho = p at h0 h1
  have e3 : wrap64 p = p := w64 h0 (by omega)
  have e4 : wrap64 (0 : Int) = 0 := w64 (by omega) (by omega)
  rw [e3, e4, Int.zero_mul, e4, w64 (n := p + 100000000) (by omega) (by omega), w64 (n := p + 100000000 - 1) (by omega) (by omega), Int.zero_add]
  have e5 : Int.tdiv (p + 100000000 - 1) 100000000 = (p + 99999999) / 100000000 := by
    rw [Int.tdiv_eq_ediv_of_nonneg (by omega)]
    congr 1
    omega
  rw [e5, w64 (n := (p + 99999999) / 100000000) (by omega) (by omega), w64 (n := (p + 99999999) / 100000000) (by omega) (by omega)]
theorem rank_ex {n rho : Int} (n0 : 1 ≤ n) (n1 : n ≤ 1048576) (r0 : 1 ≤ rho) (r1 : rho ≤ 100000000) : ∃ m : Nat, timer_rank.f n rho = some (m : Int) ∧ 1 ≤ m ∧ (m : Int) ≤ n := by
  have a : n * 1 ≤ n * rho := Int.mul_le_mul_of_nonneg_left r0 (by omega)
  have b : n * rho ≤ n * 100000000 := Int.mul_le_mul_of_nonneg_left r1 (by omega)
  have c := rank_p (n := n) (rho := rho) (by omega) (by omega) (by omega) n1
  generalize n * rho = p at a b c
  refine ⟨((p + 99999999) / 100000000).toNat, ?_, by omega, by omega⟩
  rw [c]
  congr 1
  omega
theorem sum_ex {l : List Int} (h : l ≠ []) (hl : l.length ≤ 1048576) (hs : l.all smpB = true) : timer_sum.f l = some (hiW l.sum, loW l.sum, meanP l) := by
  unfold timer_sum.f
  rw [if_neg (by omega), if_neg h, if_pos hs]
theorem sortP_len (l : List Int) : (sortP l).length = l.length := (sortP_perm l).length_eq
theorem sortP_all (l : List Int) (h : l.all smpB = true) : (sortP l).all smpB = true := by
  rw [List.all_eq_true] at h ⊢
  intro x hx
  exact h x ((sortP_perm l).mem_iff.1 hx)
theorem upto_ex {l : List Int} (hl : l.length ≤ 1048576) (rho : Int) (hw : -9223372036854775808 ≤ rho) {k : Nat} (hk : 1 ≤ k) : ∃ r, timer_Upto.f k l rho = some r := by
  obtain ⟨k, rfl⟩ : ∃ m, k = m + 1 := ⟨k - 1, by omega⟩
  unfold timer_Upto.f timer_sorted.f
  rw [if_neg (by omega)]
  by_cases a : l.all smpB = true
  · rw [if_pos a, Option.bind_some]
    simp only [timer_Upto.j0]
    rw [if_pos trivial]
    have hall := sortP_all l a
    have hlen := sortP_len l
    generalize sortP l = s at hall hlen
    by_cases z : rho = 0
    · rw [if_pos z, if_pos trivial]
      exact ⟨_, rfl⟩
    rw [if_neg z]
    by_cases y : rho > 100000000
    · rw [if_pos y, if_pos trivial]
      exact ⟨_, rfl⟩
    rw [if_neg y]
    by_cases x : rho < -100000000
    · rw [if_pos (decide_eq_true x)]
      exact ⟨_, rfl⟩
    rw [if_neg (by simp; omega)]
    by_cases e : (s.length : Int) = 0
    · rw [if_pos e]
      exact ⟨_, rfl⟩
    rw [if_neg e]
    by_cases p : rho > 0
    · rw [if_pos p]
      obtain ⟨m, hm, h1, h2⟩ := rank_ex (n := (s.length : Int)) (rho := rho) (by omega) (by omega) (by omega) (by omega)
      have hms : m ≤ s.length := by omega
      have tl : (s.take m).length = m := by rw [List.length_take]; omega
      have e1 : wrap64 ((m : Int) - 1) = (m : Int) - 1 := w64 (by omega) (by omega)
      have ts := sum_ex (l := s.take m) (fun q => by rw [q] at tl; simp at tl; omega) (by omega) (by
        rw [List.all_eq_true] at hall ⊢
        exact fun x hx => hall x (List.mem_of_mem_take hx))
      rw [hm, Option.bind_some, if_pos (by omega), if_pos h2, Option.bind_some, Int.toNat_natCast, e1, if_pos (by omega), if_pos (by omega), ts]
      exact ⟨_, rfl⟩
    · rw [if_neg p]
      have e0 : wrap64 (-rho) = -rho := by unfold wrap64; omega
      rw [e0]
      obtain ⟨m, hm, h1, h2⟩ := rank_ex (n := (s.length : Int)) (rho := -rho) (by omega) (by omega) (by omega) (by omega)
      have hms : m ≤ s.length := by omega
      have e1 : wrap64 ((s.length : Int) - (m : Int)) = ((s.length - m : Nat) : Int) := by rw [w64 (by omega) (by omega)]; omega
      have tl : (s.drop (s.length - m)).length = m := by rw [List.length_drop]; omega
      have ts := sum_ex (l := s.drop (s.length - m)) (fun q => by rw [q] at tl; simp at tl; omega) (by omega) (by
        rw [List.all_eq_true] at hall ⊢
        exact fun x hx => hall x (List.mem_of_mem_drop hx))
      rw [hm, Option.bind_some, e1, if_pos (by omega), if_pos (by omega), Option.bind_some, Int.toNat_natCast, if_pos (by omega), ts]
      exact ⟨_, rfl⟩
  · rw [if_neg a, Option.bind_some]
    exact ⟨_, rfl⟩
theorem of_ex {l : List Int} (hl : l.length ≤ 1048576) : ∃ r, timer_Of.f l = some r := by
  unfold timer_Of.f
  rw [if_neg (by omega)]
  by_cases a : l.all smpB = true
  · rw [if_pos a]
    by_cases b : l = []
    · rw [if_pos b]
      exact ⟨_, rfl⟩
    · rw [if_neg b]
      exact ⟨_, rfl⟩
  · rw [if_neg a]
    exact ⟨_, rfl⟩
theorem bins_ex {l bs : List Int} (hl : l.length ≤ 1048576) (hbl : bs.length ≤ 1048576) : ∃ r, timer_Bins.f l bs = some r := by
  unfold timer_Bins.f
  rw [if_neg (by omega), if_neg (by omega)]
  by_cases a : l.all smpB = true
  · rw [if_pos a]
    by_cases c : riseB bs
    · rw [if_pos c]
      exact ⟨_, rfl⟩
    · rw [if_neg c]
      exact ⟨_, rfl⟩
  · rw [if_neg a]
    exact ⟨_, rfl⟩
end Go.Proofs.Ythnihjfdmkfkiaa.G
