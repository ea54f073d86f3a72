/- Plain facts on the program's Of, Upto, Bins: they answer, and the order of the samples makes no difference to them. -/
import Derived.Test.YthnihjfdmkfkiaaHx7
namespace Go.Proofs.Ythnihjfdmkfkiaa.H
open Go.RowKit Go.Proofs.Ythnihjfdmkfkiaa.Q Go.Proofs.YthnihjfdmkfkiaaW.PrintWords
set_option linter.unusedVariables false
set_option linter.unusedSimpArgs false

theorem w64 {n : Int} (h0 : 0 ≤ n) (h1 : n ≤ 9223372036854775807) : wrap64 n = n := by unfold wrap64; omega
theorem ws {i : Nat} (h : i ≤ 1048576 * 4) : wrap64 ((i : Int) + 1) = ((i + 1 : Nat) : Int) := by unfold wrap64; omega
theorem sort514 : sortP [5, 1, 4] = [1, 4, 5] := by
  refine (sortP_of ?_ ?_).symm
  · unfold Rise
    decide
  · decide
theorem alive_true : tumblerlaw09_alive.f = some true := by
  have e1 : devP [1, 4, 5] = 1 := by
    have : sqP (meanP [1, 4, 5]) [1, 4, 5] / (([1, 4, 5] : List Int).length : Int) = 3 := by decide +kernel
    unfold devP
    rw [this]
    exact isq_eq (by omega) (by omega) (by omega)
  have e2 : medP [1, 4, 5] = 4 := by decide +kernel
  have e3 : ([5, 1, 4] : List Int).all smpB = true := by decide +kernel
  have e0 : timer_Of.f [5, 1, 4] = some (3, 0, 10, 1, 5, 3, 4, 1, 0) := by
    unfold timer_Of.f
    rw [if_neg (show ¬ 1048576 < ([5, 1, 4] : List Int).length by simp), if_pos e3, if_neg (by simp), sort514, e1, e2]
    have a1 : (([1, 4, 5] : List Int).length : Int) = 3 := by decide +kernel
    have a2 : hiW ([1, 4, 5] : List Int).sum = 0 := by decide +kernel
    have a3 : loW ([1, 4, 5] : List Int).sum = 10 := by decide +kernel
    have a4 : rd ([1, 4, 5] : List Int) 0 = 1 := by decide +kernel
    have a5 : rd ([1, 4, 5] : List Int) (([1, 4, 5] : List Int).length - 1 : Nat) = 5 := by decide +kernel
    have a6 : meanP [1, 4, 5] = 3 := by decide +kernel
    rw [a1, a2, a3, a4, a5, a6]
  unfold tumblerlaw09_alive.f
  rw [e0]
  rfl
theorem ones_len (l : List Int) : (l.map (fun _ => 1)).sum = l.length := by
  induction l with
  | nil => rfl
  | cons a t ih => simp only [List.map_cons, List.sum_cons, ih, List.length_cons]; omega
theorem rank_p {n rho : Int} (h0 : 0 ≤ n * rho) (h1 : n * rho ≤ 104857600000000) (n0 : 0 ≤ n) (n1 : n ≤ 1048576) : timer_rank.f n rho = some ((n * rho + 99999999) / 100000000) := by
  unfold timer_rank.f
  have e1 : Int.tdiv n 100000000 = 0 := Int.tdiv_eq_zero_of_lt n0 (by omega)
  have e2 : Int.tmod n 100000000 = n := Int.tmod_eq_of_lt n0 (by omega)
  rw [e1, e2]
  generalize n * rho = p at h0 h1
  have e3 : wrap64 p = p := w64 h0 (by omega)
  have e4 : wrap64 (0 : Int) = 0 := w64 (by omega) (by omega)
  rw [e3, e4, Int.zero_mul, e4, w64 (n := p + 100000000) (by omega) (by omega), w64 (n := p + 100000000 - 1) (by omega) (by omega), Int.zero_add]
  have e5 : Int.tdiv (p + 100000000 - 1) 100000000 = (p + 99999999) / 100000000 := by
    rw [Int.tdiv_eq_ediv_of_nonneg (by omega)]
    congr 1
    omega
  rw [e5, w64 (n := (p + 99999999) / 100000000) (by omega) (by omega), w64 (n := (p + 99999999) / 100000000) (by omega) (by omega)]
theorem rank_ex {n rho : Int} (n0 : 1 ≤ n) (n1 : n ≤ 1048576) (r0 : 1 ≤ rho) (r1 : rho ≤ 100000000) : ∃ m : Nat, timer_rank.f n rho = some (m : Int) ∧ 1 ≤ m ∧ (m : Int) ≤ n := by
  have a : n * 1 ≤ n * rho := Int.mul_le_mul_of_nonneg_left r0 (by omega)
  have b : n * rho ≤ n * 100000000 := Int.mul_le_mul_of_nonneg_left r1 (by omega)
  have c := rank_p (n := n) (rho := rho) (by omega) (by omega) (by omega) n1
  generalize n * rho = p at a b c
  refine ⟨((p + 99999999) / 100000000).toNat, ?_, by omega, by omega⟩
  rw [c]
  congr 1
  omega
theorem sum_ex {l : List Int} (h : l ≠ []) (hl : l.length ≤ 1048576) (hs : l.all smpB = true) : timer_sum.f l = some (hiW l.sum, loW l.sum, meanP l) := by
  unfold timer_sum.f
  rw [if_neg (by omega), if_neg h, if_pos hs]
theorem sortP_len (l : List Int) : (sortP l).length = l.length := (sortP_perm l).length_eq
theorem sortP_all (l : List Int) (h : l.all smpB = true) : (sortP l).all smpB = true := by
  rw [List.all_eq_true] at h ⊢
  intro x hx
  exact h x ((sortP_perm l).mem_iff.1 hx)
theorem upto_ex {l : List Int} (hl : l.length ≤ 1048576) (rho : Int) {k : Nat} (hk : 1 ≤ k) : ∃ r, timer_Upto.f k l rho = some r := by
  obtain ⟨k, rfl⟩ : ∃ m, k = m + 1 := ⟨k - 1, by omega⟩
  unfold timer_Upto.f timer_sorted.f
  rw [if_neg (by omega)]
  by_cases a : l.all smpB = true
  · rw [if_pos a, Option.bind_some]
    simp only [timer_Upto.j0]
    rw [if_pos trivial]
    have hall := sortP_all l a
    have hlen := sortP_len l
    generalize sortP l = s at hall hlen
    by_cases z : rho = 0
    · rw [if_pos z, if_pos trivial]
      exact ⟨_, rfl⟩
    rw [if_neg z]
    by_cases y : rho > 100000000
    · rw [if_pos y, if_pos trivial]
      exact ⟨_, rfl⟩
    rw [if_neg y]
    by_cases x : rho < -100000000
    · rw [if_pos (decide_eq_true x)]
      exact ⟨_, rfl⟩
    rw [if_neg (by simp; omega)]
    by_cases e : (s.length : Int) = 0
    · rw [if_pos e]
      exact ⟨_, rfl⟩
    rw [if_neg e]
    by_cases p : rho > 0
    · rw [if_pos p]
      obtain ⟨m, hm, h1, h2⟩ := rank_ex (n := (s.length : Int)) (rho := rho) (by omega) (by omega) (by omega) (by omega)
      have hms : m ≤ s.length := by omega
      have tl : (s.take m).length = m := by rw [List.length_take]; omega
      have e1 : wrap64 ((m : Int) - 1) = (m : Int) - 1 := w64 (by omega) (by omega)
      have ts := sum_ex (l := s.take m) (fun q => by rw [q] at tl; simp at tl; omega) (by omega) (by
        rw [List.all_eq_true] at hall ⊢
        exact fun x hx => hall x (List.mem_of_mem_take hx))
      rw [hm, Option.bind_some, if_pos (by omega), if_pos h2, Option.bind_some, Int.toNat_natCast, e1, if_pos (by omega), if_pos (by omega), ts]
      exact ⟨_, rfl⟩
    · rw [if_neg p]
      have e0 : wrap64 (-rho) = -rho := by unfold wrap64; omega
      rw [e0]
      obtain ⟨m, hm, h1, h2⟩ := rank_ex (n := (s.length : Int)) (rho := -rho) (by omega) (by omega) (by omega) (by omega)
      have hms : m ≤ s.length := by omega
      have e1 : wrap64 ((s.length : Int) - (m : Int)) = ((s.length - m : Nat) : Int) := by rw [w64 (by omega) (by omega)]; omega
      have tl : (s.drop (s.length - m)).length = m := by rw [List.length_drop]; omega
      have ts := sum_ex (l := s.drop (s.length - m)) (fun q => by rw [q] at tl; simp at tl; omega) (by omega) (by
        rw [List.all_eq_true] at hall ⊢
        exact fun x hx => hall x (List.mem_of_mem_drop hx))
      rw [hm, Option.bind_some, e1, if_pos (by omega), if_pos (by omega), Option.bind_some, Int.toNat_natCast, if_pos (by omega), ts]
      exact ⟨_, rfl⟩
  · rw [if_neg a, Option.bind_some]
    exact ⟨_, rfl⟩
theorem of_ex {l : List Int} (hl : l.length ≤ 1048576) : ∃ r, timer_Of.f l = some r := by
  unfold timer_Of.f
  rw [if_neg (by omega)]
  by_cases a : l.all smpB = true
  · rw [if_pos a]
    by_cases b : l = []
    · rw [if_pos b]
      exact ⟨_, rfl⟩
    · rw [if_neg b]
      exact ⟨_, rfl⟩
  · rw [if_neg a]
    exact ⟨_, rfl⟩
theorem bins_ex {l bs : List Int} (hl : l.length ≤ 1048576) (hbl : bs.length ≤ 1048576) : ∃ r, timer_Bins.f l bs = some r := by
  unfold timer_Bins.f
  rw [if_neg (by omega), if_neg (by omega)]
  by_cases a : l.all smpB = true
  · rw [if_pos a]
    by_cases c : riseB bs
    · rw [if_pos c]
      exact ⟨_, rfl⟩
    · rw [if_neg c]
      exact ⟨_, rfl⟩
  · rw [if_neg a]
    exact ⟨_, rfl⟩
theorem rd_get {l : List Int} {i : Nat} (h : i < l.length) : l[i] = rd l (i : Nat) := by
  unfold rd
  rw [Int.toNat_natCast, List.getD_eq_getElem?_getD, List.getElem?_eq_getElem h]
  rfl
theorem take_rd {l : List Int} {i : Nat} (h : i < l.length) : l.take (i + 1) = l.take i ++ [rd l (i : Nat)] := by
  rw [List.take_succ_eq_append_getElem h, rd_get h]
theorem perm_all {a b : List Int} (h : a.Perm b) : a.all smpB = b.all smpB := by
  rw [Bool.eq_iff_iff, List.all_eq_true, List.all_eq_true]
  exact ⟨fun q x hx => q x (h.mem_iff.2 hx), fun q x hx => q x (h.mem_iff.1 hx)⟩
theorem perm_sort {a b : List Int} (h : a.Perm b) : sortP a = sortP b := sortP_of (sortP_rise a) ((sortP_perm a).trans h)
theorem perm_counts {a b : List Int} (bs : List Int) (h : a.Perm b) : counts bs a = counts bs b := by
  unfold counts
  refine List.map_congr_left (fun k _ => ?_)
  rw [h.countP_eq]
theorem perm_sorted {a b : List Int} (h : a.Perm b) : timer_sorted.f a = timer_sorted.f b := by
  unfold timer_sorted.f
  rw [h.length_eq, perm_all h, perm_sort h]
theorem perm_of {a b : List Int} (h : a.Perm b) : timer_Of.f a = timer_Of.f b := by
  have e : (a = []) = (b = []) := by
    have := h.length_eq
    refine propext ⟨fun q => ?_, fun q => ?_⟩
    · subst q
      exact List.eq_nil_of_length_eq_zero this.symm
    · subst q
      exact List.eq_nil_of_length_eq_zero this
  unfold timer_Of.f
  simp only [h.length_eq, perm_all h, perm_sort h, e]
theorem perm_upto {a b : List Int} (h : a.Perm b) (k : Nat) (rho : Int) : timer_Upto.f k a rho = timer_Upto.f k b rho := by
  unfold timer_Upto.f
  rw [perm_sorted h]
theorem perm_bins {a b : List Int} (h : a.Perm b) (bs : List Int) : timer_Bins.f a bs = timer_Bins.f b bs := by
  unfold timer_Bins.f
  rw [h.length_eq, perm_all h, perm_counts bs h]
theorem sum_set : ∀ (l : List Int) (i : Nat) (v : Int), i < l.length → (l.set i v).sum = l.sum - rd l (i : Nat) + v
  | [], i, v, h => absurd h (by simp)
  | a :: t, 0, v, h => by
    show v + t.sum = a + t.sum - a + v
    omega
  | a :: t, i + 1, v, h => by
    have e := sum_set t i v (by simp only [List.length_cons] at h; omega)
    have e2 : rd (a :: t) ((i + 1 : Nat) : Int) = rd t (i : Nat) := rfl
    rw [e2, List.set_cons_succ, List.sum_cons, List.sum_cons, e]
    omega
theorem zero_sum (n : Nat) : (List.replicate n (0 : Int)).sum = 0 := by
  induction n with
  | zero => rfl
  | succ n ih => rw [List.replicate_succ, List.sum_cons, ih]; rfl
theorem counts_sum (bs l : List Int) : ∀ n : Nat, n ≤ l.length → (counts bs (l.take n)).sum = n := by
  intro n
  induction n with
  | zero => intro _; rw [List.take_zero, counts_nil, zero_sum]; rfl
  | succ n ih =>
    intro h
    have hb := binOf_le bs (rd l (n : Nat))
    rw [take_rd (by omega), counts_snoc, sum_set _ _ _ (by rw [counts_len]; omega), ih (by omega)]
    omega
theorem counts_pos (bs l : List Int) : ∀ v ∈ counts bs l, 0 ≤ v := by
  intro v hv
  obtain ⟨k, -, rfl⟩ := List.mem_map.1 hv
  omega
theorem nonneg_sum : ∀ l : List Int, (∀ v ∈ l, 0 ≤ v) → 0 ≤ l.sum
  | [], _ => by simp
  | a :: t, h => by
    have := nonneg_sum t (fun v hv => h v (by simp [hv]))
    have := h a (by simp)
    rw [List.sum_cons]
    omega
theorem take_sum {l : List Int} (h : ∀ v ∈ l, 0 ≤ v) (i : Nat) : 0 ≤ (l.take i).sum ∧ (l.take i).sum ≤ l.sum := by
  have e : l.sum = (l.take i).sum + (l.drop i).sum := by rw [← List.sum_append, List.take_append_drop]
  have a := nonneg_sum (l.take i) (fun v hv => h v (List.mem_of_mem_take hv))
  have b := nonneg_sum (l.drop i) (fun v hv => h v (List.mem_of_mem_drop hv))
  omega
theorem sh_l1 {x0 a : List Int} {e : Int} (hl : a.length ≤ 2097152) (hn : ∀ v ∈ a, 0 ≤ v) (hs : a.sum ≤ 1048576) (he : e = 0 → a.sum = x0.length) (n : Nat) :
    ∀ (k i : Nat), i ≤ a.length → a.length - i ≤ n → n + 1 ≤ k → tumblerlaw09_TimerShuffles.l1 k x0 a e a ((a.take i).sum) i = some true := by
  have fin : ∀ (k i : Nat), i ≤ a.length → ¬ i < a.length → tumblerlaw09_TimerShuffles.l1 (k + 1) x0 a e a ((a.take i).sum) i = some true := by
    intro k i h1 h2
    simp only [tumblerlaw09_TimerShuffles.l1]
    rw [if_neg (by omega), List.take_of_length_le (by omega), alive_true]
    by_cases z : e = 0
    · rw [if_pos z, if_pos (he z)]
      rfl
    · rw [if_neg z]
      rfl
  induction n with
  | zero =>
    intro k i hi h hk
    obtain ⟨k, rfl⟩ : ∃ m, k = m + 1 := ⟨k - 1, by omega⟩
    exact fin k i hi (by omega)
  | succ n ih =>
    intro k i hi h hk
    obtain ⟨k, rfl⟩ : ∃ m, k = m + 1 := ⟨k - 1, by omega⟩
    by_cases c : i < a.length
    · have b := take_sum hn (i + 1)
      have e1 : (a.take (i + 1)).sum = (a.take i).sum + rd a (i : Nat) := by rw [take_rd c, List.sum_append, List.sum_cons, List.sum_nil]; omega
      have e2 : wrap64 ((a.take i).sum + rd a (i : Nat)) = (a.take (i + 1)).sum := by rw [w64 (by omega) (by omega), e1]
      simp only [tumblerlaw09_TimerShuffles.l1]
      rw [if_pos (by omega), if_pos (by omega), if_pos (by omega), if_pos trivial, ws (i := i) (by omega), e2]
      exact ih k (i + 1) (by omega) (by omega) (by omega)
    · exact fin k i hi c
theorem bins_sum {l bs : List Int} (hl : l.length ≤ 1048576) (hbl : bs.length ≤ 1048576) : ∃ a e, timer_Bins.f l bs = some (a, e) ∧ a.length ≤ bs.length + 1 ∧ (∀ v ∈ a, 0 ≤ v) ∧ a.sum ≤ 1048576 ∧ (e = 0 → a.sum = l.length) := by
  unfold timer_Bins.f
  rw [if_neg (by omega), if_neg (by omega)]
  by_cases a : l.all smpB = true
  · rw [if_pos a]
    by_cases c : riseB bs
    · have s := counts_sum bs l l.length (Nat.le_refl _)
      rw [List.take_length] at s
      rw [if_pos c]
      exact ⟨_, _, rfl, by rw [counts_len]; omega, counts_pos bs l, by omega, fun _ => s⟩
    · rw [if_neg c]
      exact ⟨_, _, rfl, by simp, by simp, by simp, fun q => absurd q (by omega)⟩
  · rw [if_neg a]
    exact ⟨_, _, rfl, by simp, by simp, by simp, fun q => absurd q (by omega)⟩
theorem sh_l0 {x0 bs : List Int} {rho : Int} (hl : x0.length + bs.length ≤ 1048576) (cut : Nat) (hc : cut ≤ x0.length) (n : Nat) :
    ∀ (k p : Nat) (m : List Int), p ≤ x0.length → cut ≤ p → p - cut ≤ n → (m ++ x0.take p).Perm x0 → n + 3000000 ≤ k → tumblerlaw09_TimerShuffles.l0 k x0 cut rho bs m ((p : Int) - 1) = some true := by
  have fin : ∀ (k p : Nat) (m : List Int), p ≤ x0.length → cut ≤ p → ¬ cut < p → (m ++ x0.take p).Perm x0 → 2999999 ≤ k → tumblerlaw09_TimerShuffles.l0 (k + 1) x0 cut rho bs m ((p : Int) - 1) = some true := by
    intro k p m hp h1 h2 hm hk
    obtain rfl : p = cut := by omega
    have hmx := hm.length_eq
    rw [List.length_append] at hmx
    have e3 := perm_of hm
    have e4 := perm_upto hm k rho
    have e5 := perm_bins hm bs
    obtain ⟨ro, hro⟩ := of_ex (l := x0) (by omega)
    obtain ⟨ru, hru⟩ := upto_ex (l := x0) (by omega) rho (k := k) (by omega)
    obtain ⟨a, e, hrb, ha, hn, hs, he⟩ := bins_sum (l := x0) (bs := bs) (by omega) (by omega)
    simp only [tumblerlaw09_TimerShuffles.l0, Int.toNat_natCast]
    rw [if_neg (by omega), if_pos (by omega), if_pos (by omega), if_pos (by omega), Option.bind_some, e3, e4, e5, hro, hru, hrb]
    obtain ⟨k, rfl⟩ : ∃ q, k = q + 1 := ⟨k - 1, by omega⟩
    simp only [Option.bind_some, beq_self_eq_true, Bool.not_true, Bool.or_self, Bool.false_eq_true, if_false, if_true, bne_self_eq_false, tumblerlaw09_TimerShuffles.j3]
    exact sh_l1 (by omega) hn hs he a.length k 0 (Nat.zero_le _) (by omega) (by omega)
  induction n with
  | zero =>
    intro k p m hp h1 h hm hk
    obtain ⟨k, rfl⟩ : ∃ q, k = q + 1 := ⟨k - 1, by omega⟩
    exact fin k p m hp h1 (by omega) hm (by omega)
  | succ n ih =>
    intro k p m hp h1 h hm hk
    obtain ⟨k, rfl⟩ : ∃ q, k = q + 1 := ⟨k - 1, by omega⟩
    by_cases c : cut < p
    · obtain ⟨p, rfl⟩ : ∃ q, p = q + 1 := ⟨p - 1, by omega⟩
      have hmx := hm.length_eq
      rw [List.length_append] at hmx
      have e1 : ((p + 1 : Nat) : Int) - 1 = (p : Int) := by omega
      have e2 : wrap64 ((p : Int) - 1) = (p : Int) - 1 := by unfold wrap64; omega
      rw [e1]
      simp only [tumblerlaw09_TimerShuffles.l0]
      rw [if_pos (by omega), if_pos (by omega), if_pos (by omega), if_pos (by omega), e2]
      refine ih k p _ (by omega) (by omega) (by omega) ?_ (by omega)
      rw [take_rd (by omega)] at hm
      refine List.Perm.trans ?_ hm
      rw [List.append_assoc]
      exact List.Perm.append_left _ List.perm_append_comm
    · exact fin k p m hp h1 c hm (by omega)
end Go.Proofs.Ythnihjfdmkfkiaa.H
