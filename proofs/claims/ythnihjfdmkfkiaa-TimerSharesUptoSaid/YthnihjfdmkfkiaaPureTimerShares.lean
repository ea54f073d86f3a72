/- TimerShares: for any list of numbers and any percent, with no more than 1048574 numbers, what the program tells of the share (or its error) is what the reference tells; and the program's timer is alive. -/
import Derived.Test.YthnihjfdmkfkiaaZBTimerShares
namespace Go.Proofs.Ythnihjfdmkfkiaa.Z
open Go.RowKit Go.Proofs.Ythnihjfdmkfkiaa.Q Go.Proofs.YthnihjfdmkfkiaaW.PrintWords
set_option linter.unusedVariables false
set_option linter.unusedSimpArgs false

theorem w64 {n : Int} (h0 : 0 ≤ n) (h1 : n ≤ 9223372036854775807) : wrap64 n = n := by unfold wrap64; omega
theorem ones_len (l : List Int) : (l.map (fun _ => 1)).sum = l.length := by
  induction l with
  | nil => rfl
  | cons a t ih => simp only [List.map_cons, List.sum_cons, ih, List.length_cons]; omega
theorem rank_v {n rho : Int} (n0 : 1 ≤ n) (n1 : n ≤ 1048576) (r0 : 1 ≤ rho) (r1 : rho ≤ 100000000) : timer_rank.f n rho = some (rankP n rho) := by
  have h1 := Int.mul_le_mul (a := 1) (b := 1) (c := n) (d := rho) n0 r0 (by omega) (by omega)
  have h2 := Int.mul_le_mul_of_nonneg_left (c := n) r1 (by omega)
  unfold timer_rank.f rankP
  have e1 : Int.tdiv n 100000000 = 0 := Int.tdiv_eq_zero_of_lt (by omega) (by omega)
  have e2 : Int.tmod n 100000000 = n := Int.tmod_eq_of_lt (by omega) (by omega)
  rw [e1, e2]
  generalize n * rho = p at h1 h2
  have e3 : wrap64 p = p := w64 (by omega) (by omega)
  have e4 : wrap64 (0 : Int) = 0 := w64 (by omega) (by omega)
  rw [e3, e4, Int.zero_mul, e4, w64 (n := p + 100000000) (by omega) (by omega), w64 (n := p + 100000000 - 1) (by omega) (by omega), Int.zero_add]
  have e5 : Int.tdiv (p + 100000000 - 1) 100000000 = (p + 99999999) / 100000000 := by
    rw [Int.tdiv_eq_ediv_of_nonneg (by omega)]
    congr 1
    omega
  rw [e5, w64 (n := (p + 99999999) / 100000000) (by omega) (by omega), w64 (n := (p + 99999999) / 100000000) (by omega) (by omega)]
theorem sum_ex {l : List Int} (h : l ≠ []) (hl : l.length ≤ 1048576) (hs : l.all smpB = true) : timer_sum.f l = some (hiW l.sum, loW l.sum, meanP l) := by
  unfold timer_sum.f
  rw [if_neg (by omega), if_neg h, if_pos hs]
theorem rd_take {s : List Int} {m j : Nat} (h : j < m) : rd (s.take m) (j : Nat) = rd s (j : Nat) := by
  unfold rd
  rw [Int.toNat_natCast, List.getD_eq_getElem?_getD, List.getD_eq_getElem?_getD, List.getElem?_take, if_pos h]
theorem rd_drop (s : List Int) (m : Nat) : rd (s.drop m) 0 = rd s (m : Nat) := by
  unfold rd
  rw [Int.toNat_natCast, List.getD_eq_getElem?_getD, List.getD_eq_getElem?_getD, List.getElem?_drop]
  rfl
theorem rank_nat {n : Nat} {q : Int} (n0 : 1 ≤ n) (hq : 1 ≤ q ∧ q ≤ 100000000) : ∃ m : Nat, m = (rankP n q).toNat ∧ rankP n q = (m : Int) ∧ 1 ≤ m ∧ m ≤ n := by
  have h := rank_rng (n := (n : Int)) (by omega) hq
  generalize rankP (n : Int) q = z at h ⊢
  exact ⟨z.toNat, rfl, by omega, by omega, by omega⟩
theorem upto_eq {l : List Int} (hl : l.length ≤ 1048576) (rho : Int) {k : Nat} (hk : 1 ≤ k) : ∃ r, timer_Upto.f k l rho = some r ∧ tumblerref09_Upto.f l rho = some r := by
  obtain ⟨k, rfl⟩ : ∃ m, k = m + 1 := ⟨k - 1, by omega⟩
  unfold timer_Upto.f timer_sorted.f tumblerref09_Upto.f
  have hn : ¬ 1048576 < l.length := by omega
  rw [if_neg hn, if_neg hn]
  by_cases a : l.all smpB = true
  · rw [if_pos a, if_pos a, Option.bind_some]
    simp only [timer_Upto.j0]
    rw [if_pos trivial]
    have hall : ∀ x ∈ sortP l, smp x := fun x hx => (smpB_all l).1 a x ((sortP_perm l).mem_iff.1 hx)
    have hlen := sortP_length l
    have hnil : l = [] ↔ (sortP l).length = 0 := by rw [hlen]; exact List.length_eq_zero_iff.symm
    generalize sortP l = s at hall hlen hnil
    by_cases z : rho = 0
    · rw [if_pos z, if_pos trivial, if_pos (.inl z)]
      exact ⟨_, rfl, rfl⟩
    rw [if_neg z]
    by_cases y : rho > 100000000
    · rw [if_pos y, if_pos trivial, if_pos (.inr (.inl y))]
      exact ⟨_, rfl, rfl⟩
    rw [if_neg y]
    by_cases x : rho < -100000000
    · rw [if_pos (decide_eq_true x), if_pos (.inr (.inr x))]
      exact ⟨_, rfl, rfl⟩
    rw [if_neg (by simp; omega), if_neg (show ¬ (rho = 0 ∨ 100000000 < rho ∨ rho < -100000000) by omega)]
    by_cases e : (s.length : Int) = 0
    · rw [if_pos e, if_pos (hnil.2 (by omega))]
      exact ⟨_, rfl, rfl⟩
    have hne : ¬ l = [] := fun q => e (by have := hnil.1 q; omega)
    rw [if_neg e, if_neg hne]
    have hn1 : 1 ≤ s.length := by omega
    have hn2 : (s.length : Int) ≤ 1048576 := by omega
    by_cases p : rho > 0
    · rw [if_pos p]
      obtain ⟨m, hm0, hm, h1, h2⟩ := rank_nat hn1 (q := rho) (by omega)
      have hsn : shareN s.length rho = m := by unfold shareN; rw [if_pos p]; exact hm0.symm
      have hsl : shareL s rho = s.take m := by unfold shareL; rw [if_pos p, hsn]
      have hse : edgeP s rho = rd s (m - 1 : Nat) := by unfold edgeP; rw [if_pos p, hsn]
      rw [hsn, hsl, hse]
      have tl : (s.take m).length = m := by rw [List.length_take]; omega
      have e1 : wrap64 ((m : Int) - 1) = ((m - 1 : Nat) : Int) := by rw [w64 (by omega) (by omega)]; omega
      have ts := sum_ex (l := s.take m) (fun q => by rw [q] at tl; simp at tl; omega) (by omega) ((smpB_all _).2 (fun x hx => hall x (List.mem_of_mem_take hx)))
      rw [rank_v (by omega) hn2 (by omega) (by omega), hm, Option.bind_some, if_pos (by omega), if_pos (by omega), Option.bind_some, Int.toNat_natCast, e1, if_pos (by omega), if_pos (by omega), ts, rd_take (by omega)]
      exact ⟨_, rfl, rfl⟩
    · rw [if_neg p]
      have e0 : wrap64 (-rho) = -rho := by unfold wrap64; omega
      rw [e0]
      obtain ⟨m, hm0, hm, h1, h2⟩ := rank_nat hn1 (q := -rho) (by omega)
      have hsn : shareN s.length rho = m := by unfold shareN; rw [if_neg p]; exact hm0.symm
      have hsl : shareL s rho = s.drop (s.length - m) := by unfold shareL; rw [if_neg p, hsn]
      have hse : edgeP s rho = rd s (s.length - m : Nat) := by unfold edgeP; rw [if_neg p, hsn]
      rw [hsn, hsl, hse]
      have e1 : wrap64 ((s.length : Int) - (m : Int)) = ((s.length - m : Nat) : Int) := by rw [w64 (by omega) (by omega)]; omega
      have tl : (s.drop (s.length - m)).length = m := by rw [List.length_drop]; omega
      have ts := sum_ex (l := s.drop (s.length - m)) (fun q => by rw [q] at tl; simp at tl; omega) (by omega) ((smpB_all _).2 (fun x hx => hall x (List.mem_of_mem_drop hx)))
      rw [rank_v (by omega) hn2 (by omega) (by omega), hm, Option.bind_some, e1, if_pos (by omega), if_pos (by omega), Option.bind_some, Int.toNat_natCast, if_pos (by omega), ts, rd_drop]
      exact ⟨_, rfl, rfl⟩
  · rw [if_neg a, if_neg a, Option.bind_some]
    exact ⟨_, rfl, rfl⟩
end Go.Proofs.Ythnihjfdmkfkiaa.Z
namespace Go.Proofs.Ythnihjfdmkfkiaa.Pure
open Go.RowKit Go.Proofs.Ythnihjfdmkfkiaa.Z Go.Proofs.YthnihjfdmkfkiaaW.PrintWords Go.Proofs.YthnihjfdmkfkiaaW.PrintLast Go.Proofs.YthnihjfdmkfkiaaW.PrintMore

theorem TimerShares : BTimerShares.PureU := by
  intro l0 a1 h _ _
  rw [Z.ones_len] at h
  refine ⟨1, ?_⟩
  obtain ⟨r, e, e2⟩ := upto_eq (l := l0) (by omega) a1 (Nat.le_refl 1)
  have ha : tumblerlaw09_alive.f = some true := rfl
  unfold tumblerlaw09_TimerShares.f
  rw [e, e2]
  simp [ha]

end Go.Proofs.Ythnihjfdmkfkiaa.Pure
