/- What the printed functions on windows come to, in plain arithmetic: Of, Begin, End, Through, Cover, and the reference's. -/
import Derived.Test.YtoakooebmnjkhaaMath
import Derived.Test.YtoakooebmnjkhaaQx4
namespace Go.Proofs.Ytoakooebmnjkhaa.Pure
open Go.RowKit Go.Proofs.Ytoakooebmnjkhaa.Q Go.Proofs.YtoakooebmnjkhaaW.PrintWords Go.Proofs.YtoakooebmnjkhaaW.PrintLast

theorem wrong_f (w : Int) : window_wrong.f w = some (decide (w < 1 ∨ w > 1048576)) := by
  unfold window_wrong.f
  by_cases h : w < 1 <;> simp [h]
theorem bad_f (w : Int) : tumblerref06_bad.f w = some (decide (w < 1 ∨ w > 1048576)) := by
  unfold tumblerref06_bad.f
  by_cases h : w < 1 <;> simp [h]
theorem wrong_no {w : Int} (hw : 1 ≤ w) (hw2 : w ≤ 1048576) : window_wrong.f w = some false := by rw [wrong_f]; simp; omega
theorem wrong_yes {w : Int} (h : ¬ (1 ≤ w ∧ w ≤ 1048576)) : window_wrong.f w = some true := by rw [wrong_f]; simp; omega
theorem bad_no {w : Int} (hw : 1 ≤ w) (hw2 : w ≤ 1048576) : tumblerref06_bad.f w = some false := by rw [bad_f]; simp; omega
theorem bad_yes {w : Int} (h : ¬ (1 ≤ w ∧ w ≤ 1048576)) : tumblerref06_bad.f w = some true := by rw [bad_f]; simp; omega

theorem floor_f (t w : Int) (hw : 1 ≤ w) (h1 : -9223372036854775808 ≤ t) (h2 : t ≤ 9223372036854775807) : window_floor.f t w = some (t / w) := by
  unfold window_floor.f
  rw [if_neg (by omega), ← apply_ite some, Math.floor_eq t w hw h1 h2]

theorem of_f (t w : Int) (hw : 1 ≤ w) (hw2 : w ≤ 1048576) (h1 : -9223372036854775808 ≤ t) (h2 : t ≤ 9223372036854775807) : window_Of.f t w = some (t / w, 0) := by
  unfold window_Of.f
  rw [wrong_no hw hw2, floor_f t w hw h1 h2]
  simp
theorem of_bad (t w : Int) (h : ¬ (1 ≤ w ∧ w ≤ 1048576)) : window_Of.f t w = some (0, 61) := by
  unfold window_Of.f
  rw [wrong_yes h]
  simp
theorem rof_f (t w : Int) (hw : 1 ≤ w) (hw2 : w ≤ 1048576) (h1 : -9223372036854775808 ≤ t) (h2 : t ≤ 9223372036854775807) : tumblerref06_Of.f t w = some (t / w, 0) := by
  unfold tumblerref06_Of.f
  rw [bad_no hw hw2]
  simp only [Option.bind_some]
  rw [if_neg (by simp), if_neg (by omega), ← Math.floor_eq t w hw h1 h2]
  split <;> rfl
theorem rof_bad (t w : Int) (h : ¬ (1 ≤ w ∧ w ≤ 1048576)) : tumblerref06_Of.f t w = some (0, 61) := by
  unfold tumblerref06_Of.f
  rw [bad_yes h]
  simp

theorem awake_f : tumblerlaw06_awake.f = some true := by
  unfold tumblerlaw06_awake.f
  rw [of_f 25 10 (by decide) (by decide) (by decide) (by decide), of_f (-1) 10 (by decide) (by decide) (by decide) (by decide)]
  rfl

/-- A product, if it fits. -/
def bg (id w : Int) : Int × Int := if -9223372036854775808 ≤ id * w ∧ id * w ≤ 9223372036854775807 then (id * w, 0) else (0, 60)

theorem times_f (id w : Int) (hw : 1 ≤ w) (hw2 : w ≤ 1048576) : window_times.f id w = some (bg id w) := by
  unfold window_times.f bg
  rw [if_pos ⟨hw, hw2⟩]
  split <;> rfl
theorem begin_f (id w : Int) (hw : 1 ≤ w) (hw2 : w ≤ 1048576) : window_Begin.f id w = some (bg id w) := by
  unfold window_Begin.f
  rw [wrong_no hw hw2, times_f id w hw hw2]
  simp
theorem rbegin_f (id w : Int) (hw : 1 ≤ w) (hw2 : w ≤ 1048576) : tumblerref06_Begin.f id w = some (bg id w) := by
  unfold tumblerref06_Begin.f bg
  rw [if_pos ⟨hw, hw2⟩]
  split <;> rfl
theorem bg_max (w : Int) (hw : 1 ≤ w) : bg (9223372036854775807 + 1) w = (0, 60) := by
  unfold bg
  rw [if_neg]
  have : (9223372036854775807 + 1) * 1 ≤ (9223372036854775807 + 1) * w := Int.mul_le_mul_of_nonneg_left hw (by omega)
  omega
theorem end_f (id w : Int) (hw : 1 ≤ w) (hw2 : w ≤ 1048576) (h1 : -9223372036854775808 ≤ id) (h2 : id ≤ 9223372036854775807) : window_End.f id w = some (bg (id + 1) w) := by
  unfold window_End.f
  rw [wrong_no hw hw2]
  simp only [Option.bind_some]
  rw [if_neg (by simp)]
  by_cases h : id = 9223372036854775807
  · subst h; rw [if_pos rfl, bg_max w hw]
  · rw [if_neg h, Math.wrap_in (by omega) (by omega), times_f _ w hw hw2]
    simp
theorem rend_f (id w : Int) (hw : 1 ≤ w) (hw2 : w ≤ 1048576) (h1 : -9223372036854775808 ≤ id) (h2 : id ≤ 9223372036854775807) : tumblerref06_End.f id w = some (bg (id + 1) w) := by
  unfold tumblerref06_End.f
  rw [bad_no hw hw2]
  simp only [Option.bind_some]
  rw [if_neg (by simp)]
  by_cases h : id = 9223372036854775807
  · subst h; rw [if_pos rfl, bg_max w hw]
  · rw [if_neg h, Math.wrap_in (by omega) (by omega), rbegin_f _ w hw hw2]
    simp
theorem through_f (t w : Int) (hw : 1 ≤ w) (hw2 : w ≤ 1048576) (h1 : -9223372036854775808 ≤ t) (h2 : t ≤ 9223372036854775807) :
    window_Through.f t w = some (if t / w = -9223372036854775808 then (0, 60) else (t / w - 1, 0)) := by
  unfold window_Through.f
  have hr := Math.ediv_range t w hw h1 h2
  rw [wrong_no hw hw2, floor_f t w hw h1 h2]
  simp only [Option.bind_some]
  rw [if_neg (by simp)]
  by_cases h : t / w = -9223372036854775808
  · rw [if_pos h, if_pos h]
  · rw [if_neg h, if_neg h, Math.wrap_in (by omega) (by omega)]

/-- So many numbers from one on. -/
def iota : Nat → Int → List Int
  | 0, _ => []
  | d + 1, x => x :: iota d (x + 1)
theorem iota_length (d : Nat) : ∀ x, (iota d x).length = d := by
  induction d with
  | zero => intro x; rfl
  | succ d ih => intro x; simp [iota, ih]
theorem iota_get (d : Nat) : ∀ (x : Int) (i : Nat), i < d → (iota d x).getD i 0 = x + i := by
  induction d with
  | zero => intro x i h; omega
  | succ d ih =>
    intro x i h
    cases i with
    | zero => simp [iota]
    | succ i => simp only [iota, List.getD_cons_succ]; rw [ih (x + 1) i (by omega)]; omega
theorem rd_iota (d : Nat) (x : Int) (i : Int) (h0 : 0 ≤ i) (h : i < d) : rd (iota d x) i = x + i := by
  unfold rd; rw [iota_get d x i.toNat (by omega)]; omega

theorem cover_loop (d : Nat) : ∀ (k : Nat) (a n : Int) (acc : List Int) (i : Int), 0 ≤ i → i + d = n + 1 → n ≤ 5000 → -9223372036854775808 ≤ a → a + n ≤ 9223372036854775807 → acc.length + d ≤ 10000 → d < k →
    window_Cover.l0 k a n acc i = some (acc ++ iota d (a + i), 0) := by
  induction d with
  | zero =>
    intro k a n acc i h0 h1 h2 h3 h4 h5 hk
    obtain ⟨k, rfl⟩ : ∃ m, k = m + 1 := ⟨k - 1, by omega⟩
    simp only [window_Cover.l0, iota, List.append_nil]; rw [if_neg (by omega)]
  | succ d ih =>
    intro k a n acc i h0 h1 h2 h3 h4 h5 hk
    obtain ⟨k, rfl⟩ : ∃ m, k = m + 1 := ⟨k - 1, by omega⟩
    simp only [window_Cover.l0, iota]
    rw [if_pos (by omega), if_pos (by omega), Math.wrap_in (a := a + i) (by omega) (by omega), Math.wrap_in (a := i + 1) (by omega) (by omega)]
    rw [ih k a n _ (i + 1) (by omega) (by omega) h2 h3 h4 (by simp; omega) (by omega)]
    rw [List.append_assoc, List.singleton_append, Int.add_assoc]

theorem u64_diff (a b : Int) (h1 : -9223372036854775808 ≤ a) (h2 : a ≤ b) (h3 : b ≤ 9223372036854775807) : IntKind.u64.wrap (IntKind.u64.wrap b - IntKind.u64.wrap a) = b - a := by
  simp only [IntKind.wrap, IntKind.bits, IntKind.signed]
  simp
  omega

theorem rcover_loop (d : Nat) : ∀ (k : Nat) (a b : Int) (acc : List Int) (i : Int), 0 ≤ i → i + d = b - a + 1 → b - a ≤ 5000 → -9223372036854775808 ≤ a → a ≤ b → b ≤ 9223372036854775807 → acc.length + d ≤ 10000 → d < k →
    tumblerref06_Cover.l0 k a b acc i = some (acc ++ iota d (a + i), 0) := by
  induction d with
  | zero =>
    intro k a b acc i h0 h1 h2 h3 h3' h4 h5 hk
    obtain ⟨k, rfl⟩ : ∃ m, k = m + 1 := ⟨k - 1, by omega⟩
    simp only [tumblerref06_Cover.l0, iota, List.append_nil]; rw [u64_diff a b h3 h3' h4, if_neg (by omega)]
  | succ d ih =>
    intro k a b acc i h0 h1 h2 h3 h3' h4 h5 hk
    obtain ⟨k, rfl⟩ : ∃ m, k = m + 1 := ⟨k - 1, by omega⟩
    simp only [tumblerref06_Cover.l0, iota]
    rw [u64_diff a b h3 h3' h4, if_pos (by omega), if_pos (by omega), Math.wrap_in (a := i) (by omega) (by omega), Math.wrap_in (a := a + i) (by omega) (by omega), show IntKind.u64.wrap (i + 1) = i + 1 from by simp only [IntKind.wrap, IntKind.bits, IntKind.signed]; simp; omega]
    rw [ih k a b _ (i + 1) (by omega) (by omega) h2 h3 h3' h4 (by simp; omega) (by omega)]
    rw [List.append_assoc, List.singleton_append, Int.add_assoc]

/-- What Cover answers. -/
def cov (s t w : Int) : List Int × Int :=
  if ¬ (1 ≤ w ∧ w ≤ 1048576) then ([], 61) else if t ≤ s then ([], 0) else if (t - 1) / w - s / w ≥ 4096 then ([], 3) else (iota ((t - 1) / w - s / w + 1).toNat (s / w), 0)

theorem cover_f (k : Nat) (hk : 4097 < k) (s t w : Int) (s1 : -9223372036854775808 ≤ s) (s2 : s ≤ 9223372036854775807) (t1 : -9223372036854775808 ≤ t) (t2 : t ≤ 9223372036854775807) :
    window_Cover.f k s t w = some (cov s t w) := by
  unfold window_Cover.f cov
  by_cases c1 : ¬ (1 ≤ w ∧ w ≤ 1048576)
  · rw [wrong_yes c1, if_pos c1]; simp
  rw [if_neg c1]
  have c1 : 1 ≤ w ∧ w ≤ 1048576 := Decidable.not_not.mp c1
  rw [wrong_no c1.1 c1.2]
  simp only [Option.bind_some]
  rw [if_neg (by simp)]
  by_cases c2 : t ≤ s
  · rw [if_pos c2, if_pos c2]
  rw [if_neg c2, if_neg c2, floor_f s w c1.1 s1 s2, Math.wrap_in (a := t - 1) (by omega) (by omega), floor_f (t - 1) w c1.1 (by omega) (by omega)]
  simp only [Option.bind_some]
  have m : s / w ≤ (t - 1) / w := Int.ediv_le_ediv (by omega) (by omega)
  have r1 := Math.ediv_range s w c1.1 s1 s2
  have r2 := Math.ediv_range (t - 1) w c1.1 (by omega) (by omega)
  rw [u64_diff _ _ r1.1 m r2.2]
  by_cases c3 : (t - 1) / w - s / w ≥ 4096
  · rw [if_pos c3, if_pos c3]
  rw [if_neg c3, if_neg c3, Math.wrap_in (a := (t - 1) / w - s / w) (by omega) (by omega), Math.wrap_in (by omega) (by omega), if_pos (by omega), if_pos (by omega)]
  rw [cover_loop ((t - 1) / w - s / w + 1).toNat k _ _ _ 0 (by omega) (by omega) (by omega) r1.1 (by omega) (by simp; omega) (by omega)]
  simp
theorem rcover_f (k : Nat) (hk : 4097 < k) (s t w : Int) (s1 : -9223372036854775808 ≤ s) (s2 : s ≤ 9223372036854775807) (t1 : -9223372036854775808 ≤ t) (t2 : t ≤ 9223372036854775807) :
    tumblerref06_Cover.f k s t w = some (cov s t w) := by
  unfold tumblerref06_Cover.f cov
  by_cases c1 : ¬ (1 ≤ w ∧ w ≤ 1048576)
  · rw [bad_yes c1, if_pos c1]; simp
  rw [if_neg c1]
  have c1 : 1 ≤ w ∧ w ≤ 1048576 := Decidable.not_not.mp c1
  rw [bad_no c1.1 c1.2]
  simp only [Option.bind_some]
  rw [if_neg (by simp)]
  by_cases c2 : t ≤ s
  · rw [if_pos c2, if_pos c2]
  rw [if_neg c2, if_neg c2, rof_f s w c1.1 c1.2 s1 s2, Math.wrap_in (a := t - 1) (by omega) (by omega), rof_f (t - 1) w c1.1 c1.2 (by omega) (by omega)]
  simp only [Option.bind_some]
  have m : s / w ≤ (t - 1) / w := Int.ediv_le_ediv (by omega) (by omega)
  have r1 := Math.ediv_range s w c1.1 s1 s2
  have r2 := Math.ediv_range (t - 1) w c1.1 (by omega) (by omega)
  rw [u64_diff _ _ r1.1 m r2.2]
  by_cases c3 : (t - 1) / w - s / w ≥ 4096
  · rw [if_pos c3, if_pos c3]
  rw [if_neg c3, if_neg c3]
  rw [rcover_loop ((t - 1) / w - s / w + 1).toNat k _ _ _ 0 (by omega) (by omega) (by omega) r1.1 m r2.2 (by simp; omega) (by omega)]
  simp

theorem cov_length (s t w : Int) : (cov s t w).1.length ≤ 4096 := by
  unfold cov
  split
  · simp
  split
  · simp
  split
  · simp
  · rw [iota_length]; omega

theorem same_loop (l : List Int) (hl : l.length ≤ 1000000) (d : Nat) : ∀ (k : Nat) (i : Int), 0 ≤ i → i + d = l.length → d < k → tumblerlaw06_same.l0 k l l i = some true := by
  induction d with
  | zero =>
    intro k i h0 h1 hk
    obtain ⟨k, rfl⟩ : ∃ m, k = m + 1 := ⟨k - 1, by omega⟩
    simp only [tumblerlaw06_same.l0]; rw [if_neg (by omega)]
  | succ d ih =>
    intro k i h0 h1 hk
    obtain ⟨k, rfl⟩ : ∃ m, k = m + 1 := ⟨k - 1, by omega⟩
    simp only [tumblerlaw06_same.l0]
    rw [if_pos (by omega), if_pos h0, if_pos (by omega), if_pos trivial, Math.wrap_in (by omega) (by omega), ih k (i + 1) (by omega) (by omega) (by omega)]
theorem same_f (l : List Int) (hl : l.length ≤ 1000000) (k : Nat) (hk : l.length < k) : tumblerlaw06_same.f k l l = some true := by
  unfold tumblerlaw06_same.f
  rw [if_pos rfl, same_loop l hl l.length k 0 (by omega) (by omega) hk]

end Go.Proofs.Ytoakooebmnjkhaa.Pure
