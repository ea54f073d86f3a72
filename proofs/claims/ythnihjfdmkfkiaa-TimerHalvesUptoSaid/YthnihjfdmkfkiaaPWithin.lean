import Derived.Test.YthnihjfdmkfkiaaTOf
namespace Go.Proofs.Ythnihjfdmkfkiaa.Q
open Go.RowKit Go.Proofs.YthnihjfdmkfkiaaW.PrintWords Go.Proofs.YthnihjfdmkfkiaaW.PrintLast Go.Proofs.YthnihjfdmkfkiaaW.PrintMore Go.Proofs.YthnihjfdmkfkiaaV
set_option linter.unusedVariables false
set_option linter.unusedSimpArgs false

/-! Plain facts on samples by rising numbers. -/
theorem rdE {l : List Int} {i : Nat} (h : i < l.length) : rd l (i : Nat) = l[i] := by
  unfold rd
  rw [Int.toNat_natCast, List.getD_eq_getElem?_getD, List.getElem?_eq_getElem h]
  rfl
theorem rise_rd {s : List Int} (hs : Rise s) {i j : Nat} (h : i ≤ j) (hj : j < s.length) : rd s (i : Nat) ≤ rd s (j : Nat) := by
  rcases Nat.lt_or_ge i j with c | c
  · have := List.pairwise_iff_getElem.1 hs i j (by omega) hj c
    rw [rdE (by omega), rdE hj]
    simpa [leB] using this
  · have e : i = j := by omega
    rw [e]
    exact Int.le_refl _
theorem rise_mem {s : List Int} (hs : Rise s) {x : Int} (hx : x ∈ s) : rd s 0 ≤ x ∧ x ≤ rd s (s.length - 1 : Nat) := by
  obtain ⟨i, hi, rfl⟩ := List.getElem_of_mem hx
  have h1 := rise_rd hs (i := 0) (j := i) (by omega) hi
  have h2 := rise_rd hs (i := i) (j := s.length - 1) (by omega) (by omega)
  rw [← rdE hi]
  exact ⟨h1, h2⟩
theorem sum_bounds : ∀ {l : List Int} {a b : Int}, (∀ x ∈ l, a ≤ x ∧ x ≤ b) → l.length * a ≤ l.sum ∧ l.sum ≤ l.length * b
  | [], a, b, _ => by simp
  | x :: t, a, b, h => by
    have h1 := h x (by simp)
    have h2 := sum_bounds (l := t) (fun y hy => h y (by simp [hy]))
    simp only [List.sum_cons, List.length_cons]
    rw [Int.natCast_add, Int.add_mul, Int.add_mul]
    omega
theorem mean_bounds {l : List Int} {a b : Int} (h : ∀ x ∈ l, a ≤ x ∧ x ≤ b) (h0 : 1 ≤ l.length) : a ≤ meanP l ∧ meanP l ≤ b := by
  obtain ⟨h1, h2⟩ := sum_bounds h
  unfold meanP
  refine ⟨?_, ?_⟩
  · have := Int.ediv_le_ediv (c := (l.length : Int)) (by omega) h1
    rwa [Int.mul_comm, Int.mul_ediv_cancel _ (by omega)] at this
  · have := Int.ediv_le_ediv (c := (l.length : Int)) (by omega) h2
    rwa [Int.mul_comm, Int.mul_ediv_cancel _ (by omega)] at this
theorem sq_le {d D : Int} (h0 : -D ≤ d) (h1 : d ≤ D) : d * d ≤ D * D := by
  have h : ((d.natAbs : Int) * (d.natAbs : Int)) = d * d := Int.natAbs_mul_self
  rw [← h]
  exact Int.mul_le_mul (by omega) (by omega) (by omega) (by omega)
theorem dev_bound {s : List Int} {a b : Int} (h : ∀ x ∈ s, a ≤ x ∧ x ≤ b) (h0 : 1 ≤ s.length) : 0 ≤ devP s ∧ devP s ≤ b - a := by
  have hm := mean_bounds h h0
  have hq : ∀ y ∈ s.map (fun v => (v - meanP s) * (v - meanP s)), 0 ≤ y ∧ y ≤ (b - a) * (b - a) := by
    intro y hy
    obtain ⟨v, hv, rfl⟩ := List.mem_map.1 hy
    have := h v hv
    refine ⟨?_, sq_le (by omega) (by omega)⟩
    have e : (((v - meanP s).natAbs : Int) * ((v - meanP s).natAbs : Int)) = (v - meanP s) * (v - meanP s) := Int.natAbs_mul_self
    rw [← e]
    exact Int.mul_nonneg (by omega) (by omega)
  have hb := mean_bounds hq (by rw [List.length_map]; exact h0)
  unfold meanP at hb
  rw [List.length_map] at hb
  have hr := root_ex (v := sqP (meanP s) s / s.length) hb.1
  unfold devP
  have hb2 : sqP (meanP s) s / (s.length : Int) ≤ (b - a) * (b - a) := hb.2
  refine ⟨hr.1, ?_⟩
  by_cases c : isq (sqP (meanP s) s / (s.length : Int)) ≤ b - a
  · exact c
  · have := sq_mono (a := b - a + 1) (b := isq (sqP (meanP s) s / (s.length : Int))) (by omega) (by omega)
    have e : (b - a + 1) * (b - a + 1) = (b - a) * (b - a) + 2 * (b - a) + 1 := by
      rw [Int.add_mul, Int.mul_add, Int.one_mul, Int.mul_one]
      omega
    have h2 := hr.2.1
    omega
def leM (m x : Int) : Bool := decide (x ≤ m)
def geM (m x : Int) : Bool := decide (m ≤ x)
theorem count_low {s : List Int} (hs : Rise s) (h0 : 1 ≤ s.length) : s.length ≤ 2 * s.countP (leM (medP s)) := by
  have hk : (s.length - 1) / 2 < s.length := by omega
  have h1 : rd s ((s.length - 1) / 2 : Nat) ≤ medP s := by
    unfold medP
    have := rise_rd hs (i := (s.length - 1) / 2) (j := s.length / 2) (by omega) (by omega)
    omega
  have h2 : (s.take ((s.length - 1) / 2 + 1)).countP (leM (medP s)) = (s.length - 1) / 2 + 1 := by
    rw [List.countP_eq_length.2 ?_, List.length_take]
    · omega
    · intro x hx
      obtain ⟨i, hi, rfl⟩ := List.getElem_of_mem hx
      rw [List.length_take] at hi
      rw [List.getElem_take]
      have := rise_rd hs (i := i) (j := (s.length - 1) / 2) (by omega) hk
      rw [rdE (by omega)] at this
      exact decide_eq_true (by omega)
  have h3 := (List.take_sublist ((s.length - 1) / 2 + 1) s).countP_le (p := leM (medP s))
  omega
theorem count_high {s : List Int} (hs : Rise s) (h0 : 1 ≤ s.length) : s.length ≤ 2 * s.countP (geM (medP s)) := by
  have hk : s.length / 2 < s.length := by omega
  have h1 : medP s ≤ rd s (s.length / 2 : Nat) := by
    unfold medP
    have := rise_rd hs (i := (s.length - 1) / 2) (j := s.length / 2) (by omega) (by omega)
    omega
  have h2 : (s.drop (s.length / 2)).countP (geM (medP s)) = s.length - s.length / 2 := by
    rw [List.countP_eq_length.2 ?_, List.length_drop]
    intro x hx
    obtain ⟨i, hi, rfl⟩ := List.getElem_of_mem hx
    rw [List.length_drop] at hi
    rw [List.getElem_drop]
    have := rise_rd hs (i := s.length / 2) (j := s.length / 2 + i) (by omega) (by omega)
    rw [rdE (i := s.length / 2 + i) (by omega)] at this
    exact decide_eq_true (by omega)
  have h3 := (List.drop_sublist (s.length / 2) s).countP_le (p := geM (medP s))
  omega
/-- All that is said of the samples' statistics. -/
structure Within (l : List Int) : Prop where
  low : ∀ x ∈ l, rd (sortP l) 0 ≤ x
  high : ∀ x ∈ l, x ≤ rd (sortP l) ((sortP l).length - 1 : Nat)
  mean : rd (sortP l) 0 ≤ meanP (sortP l) ∧ meanP (sortP l) ≤ rd (sortP l) ((sortP l).length - 1 : Nat)
  med : rd (sortP l) 0 ≤ medP (sortP l) ∧ medP (sortP l) ≤ rd (sortP l) ((sortP l).length - 1 : Nat)
  dev : 0 ≤ devP (sortP l) ∧ devP (sortP l) ≤ rd (sortP l) ((sortP l).length - 1 : Nat) - rd (sortP l) 0
  cl : l.length ≤ 2 * l.countP (leM (medP (sortP l)))
  ch : l.length ≤ 2 * l.countP (geM (medP (sortP l)))
theorem within_of {l : List Int} (h0 : 1 ≤ l.length) : Within l := by
  have hp := sortP_perm l
  have hr := sortP_rise l
  have hlen := hp.length_eq
  have hm : ∀ x ∈ sortP l, rd (sortP l) 0 ≤ x ∧ x ≤ rd (sortP l) ((sortP l).length - 1 : Nat) := fun x hx => rise_mem hr hx
  have hmed : rd (sortP l) 0 ≤ medP (sortP l) ∧ medP (sortP l) ≤ rd (sortP l) ((sortP l).length - 1 : Nat) := by
    have a1 := rise_rd hr (i := 0) (j := ((sortP l).length - 1) / 2) (by omega) (by omega)
    have a2 := rise_rd hr (i := 0) (j := (sortP l).length / 2) (by omega) (by omega)
    have a3 := rise_rd hr (i := ((sortP l).length - 1) / 2) (j := (sortP l).length - 1) (by omega) (by omega)
    have a4 := rise_rd hr (i := (sortP l).length / 2) (j := (sortP l).length - 1) (by omega) (by omega)
    have e : ((0 : Nat) : Int) = 0 := rfl
    rw [e] at a1 a2
    unfold medP
    omega
  refine ⟨fun x hx => (hm x (hp.mem_iff.2 hx)).1, fun x hx => (hm x (hp.mem_iff.2 hx)).2, mean_bounds hm (by omega), hmed, dev_bound hm (by omega), ?_, ?_⟩
  · have := count_low hr (by omega)
    rw [hp.countP_eq] at this
    omega
  · have := count_high hr (by omega)
    rw [hp.countP_eq] at this
    omega
end Go.Proofs.Ythnihjfdmkfkiaa.Q
