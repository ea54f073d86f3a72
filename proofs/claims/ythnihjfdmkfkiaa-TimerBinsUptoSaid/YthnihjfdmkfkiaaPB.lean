/- The reference's bins are the program's bins. -/
import Derived.Test.YthnihjfdmkfkiaaGx7
import Derived.Test.YthnihjfdmkfkiaaPA
namespace Go.Proofs.Ythnihjfdmkfkiaa.G
open Go.RowKit Go.Proofs.Ythnihjfdmkfkiaa.Q Go.Proofs.YthnihjfdmkfkiaaW.PrintWords
set_option linter.unusedVariables false
set_option linter.unusedSimpArgs false

theorem rd_get {l : List Int} {i : Nat} (h : i < l.length) : l[i] = rd l (i : Nat) := by
  unfold rd
  rw [Int.toNat_natCast, List.getD_eq_getElem?_getD, List.getElem?_eq_getElem h]
  rfl
theorem take_rd {l : List Int} {i : Nat} (h : i < l.length) : l.take (i + 1) = l.take i ++ [rd l (i : Nat)] := by
  rw [List.take_succ_eq_append_getElem h, rd_get h]
theorem binOf_eq {bs : List Int} {v : Int} {b : Nat} (hb : b ≤ bs.length) (h : ∀ j : Nat, j < b → rd bs j ≤ v) (h2 : b < bs.length → v < rd bs (b : Nat)) : binOf bs v = b := by
  unfold binOf
  by_cases c : b < bs.length
  · have : bs.findIdx? (ltB v) = some b := by
      rw [List.findIdx?_eq_some_iff_getElem]
      refine ⟨c, ?_, fun j hj => ?_⟩
      · rw [rd_get c]
        have := h2 c
        simp [ltB]
        omega
      · have := h j hj
        rw [rd_get (by omega)]
        simp [ltB]
        omega
    rw [this]
    rfl
  · have : bs.findIdx? (ltB v) = none := by
      rw [List.findIdx?_eq_none_iff]
      intro x hx
      obtain ⟨j, hj, rfl⟩ := List.mem_iff_getElem.1 hx
      have := h j (by omega)
      rw [rd_get hj]
      simp [ltB]
      omega
    rw [this]
    show bs.length = b
    omega
theorem bins_l2 {l bs cs : List Int} {i : Nat} {r : List Int × Int} {K : Nat} (hi : i < l.length) (hl : l.length ≤ 1048576) (hb32 : bs.length ≤ 32) (hcs : cs.length = bs.length + 1)
    (H : ∀ k, K ≤ k → tumblerref09_Bins.l1 k l bs (cs.set (binOf bs (rd l (i : Nat))) (wrap64 (rd cs ((binOf bs (rd l (i : Nat)) : Nat) : Int) + 1))) ((i + 1 : Nat) : Int) = some r) (n : Nat) :
    ∀ (k b : Nat), b ≤ bs.length → bs.length - b ≤ n → (∀ j : Nat, j < b → rd bs j ≤ rd l (i : Nat)) → n + 1 + K ≤ k → tumblerref09_Bins.l2 k l bs cs i b = some r := by
  induction n with
  | zero =>
    intro k b hb h hp hk
    obtain ⟨k, rfl⟩ : ∃ m, k = m + 1 := ⟨k - 1, by omega⟩
    have e : binOf bs (rd l (i : Nat)) = b := binOf_eq hb hp (fun q => by omega)
    rw [e] at H
    simp only [tumblerref09_Bins.l2]
    rw [if_neg (by omega), if_pos (by omega), if_pos (by omega), ws (i := i) (by omega), Int.toNat_natCast]
    exact H k (by omega)
  | succ n ih =>
    intro k b hb h hp hk
    obtain ⟨k, rfl⟩ : ∃ m, k = m + 1 := ⟨k - 1, by omega⟩
    by_cases c : b < bs.length
    · simp only [tumblerref09_Bins.l2]
      rw [if_pos (by omega), if_pos (by omega), if_pos (by omega), if_pos (by omega)]
      by_cases d : rd l (i : Nat) ≥ rd bs (b : Nat)
      · rw [if_pos d, ws (i := b) (by omega)]
        refine ih k (b + 1) (by omega) (by omega) (fun j hj => ?_) (by omega)
        by_cases e : j = b
        · subst e
          exact d
        · exact hp j (by omega)
      · have e : binOf bs (rd l (i : Nat)) = b := binOf_eq hb hp (fun q => by omega)
        rw [e] at H
        rw [if_neg d, if_pos (by omega), ws (i := i) (by omega), Int.toNat_natCast]
        exact H k (by omega)
    · have e : binOf bs (rd l (i : Nat)) = b := binOf_eq hb hp (fun q => by omega)
      rw [e] at H
      simp only [tumblerref09_Bins.l2]
      rw [if_neg (by omega), if_pos (by omega), if_pos (by omega), ws (i := i) (by omega), Int.toNat_natCast]
      exact H k (by omega)
theorem bins_l1 {l bs : List Int} (hl : l.length ≤ 1048576) (hb32 : bs.length ≤ 32) (n : Nat) :
    ∀ (k i : Nat), i ≤ l.length → l.length - i ≤ n → n * 40 + 1 ≤ k → tumblerref09_Bins.l1 k l bs (counts bs (l.take i)) i = some (counts bs l, 0) := by
  induction n with
  | zero =>
    intro k i hi h hk
    obtain ⟨k, rfl⟩ : ∃ m, k = m + 1 := ⟨k - 1, by omega⟩
    simp only [tumblerref09_Bins.l1]
    rw [if_neg (by omega), List.take_of_length_le (by omega)]
  | succ n ih =>
    intro k i hi h hk
    obtain ⟨k, rfl⟩ : ∃ m, k = m + 1 := ⟨k - 1, by omega⟩
    by_cases c : i < l.length
    · simp only [tumblerref09_Bins.l1]
      rw [if_pos (by omega)]
      refine bins_l2 (K := n * 40 + 1) (n := bs.length) c hl hb32 (counts_len _ _) (fun k' hk' => ?_) k 0 (Nat.zero_le _) (by omega) (fun j hj => absurd hj (by omega)) (by omega)
      have hle := counts_le bs (l.take i) (binOf bs (rd l (i : Nat))) (binOf_le _ _)
      have hlt : (l.take i).length ≤ 1048576 := by rw [List.length_take]; omega
      rw [w64 (by omega) (by omega), ← counts_snoc, ← take_rd c]
      exact ih k' (i + 1) (by omega) (by omega) hk'
    · simp only [tumblerref09_Bins.l1]
      rw [if_neg (by omega), List.take_of_length_le (by omega)]
def okFrom (bs : List Int) (i : Nat) : Prop := ∀ j : Nat, i ≤ j → j < bs.length → 0 ≤ rd bs j ∧ (j = 0 ∨ rd bs (j - 1 : Nat) < rd bs j)
theorem okFrom_rise (bs : List Int) : (1 ≤ bs.length ∧ bs.length ≤ 32 ∧ okFrom bs 0) ↔ riseB bs := by
  unfold okFrom riseB
  constructor
  · rintro ⟨a, b, c⟩
    refine ⟨a, b, (c 0 (Nat.le_refl _) (by omega)).1, fun j hj => ?_⟩
    rcases (c (j + 1) (by omega) hj).2 with d | d
    · omega
    · rw [Nat.add_sub_cancel] at d
      exact d
  · rintro ⟨a, b, c, d⟩
    have q : ∀ j : Nat, j < bs.length → 0 ≤ rd bs j := by
      intro j
      induction j with
      | zero => exact fun _ => c
      | succ j ih => exact fun hj => by have := ih (by omega); have := d j hj; omega
    refine ⟨a, b, fun j _ hj => ⟨q j hj, ?_⟩⟩
    by_cases e : j = 0
    · exact .inl e
    · right
      have := d (j - 1) (by omega)
      rwa [show j - 1 + 1 = j by omega] at this
theorem bins_j2 {l bs : List Int} (hl : l.length ≤ 1048576) (b : Bool) (h : b = true → bs.length ≤ 32) {k : Nat} (hk : 1048576 * 40 + 2 ≤ k) : tumblerref09_Bins.j2 k l bs b = some (if b = true then (counts bs l, 0) else ([], 92)) := by
  obtain ⟨k, rfl⟩ : ∃ m, k = m + 1 := ⟨k - 1, by omega⟩
  simp only [tumblerref09_Bins.j2]
  cases b with
  | false => rfl
  | true =>
    have hb := h rfl
    rw [if_pos rfl, if_pos rfl, ws (i := bs.length) (by omega), if_pos (by omega), if_pos (by omega), Int.toNat_natCast, ← counts_nil]
    exact bins_l1 hl hb l.length k 0 (Nat.zero_le _) (by omega) (by omega)
theorem bins_l0 {l bs : List Int} (hl : l.length ≤ 1048576) (hbl : bs.length ≤ 1048576) (n : Nat) :
    ∀ (k i : Nat) (b : Bool), (b = true → bs.length ≤ 32) → i ≤ bs.length → bs.length - i ≤ n → n + 1 + (1048576 * 40 + 2) ≤ k → ∃ d : Bool, (d = true ↔ b = true ∧ okFrom bs i) ∧ tumblerref09_Bins.l0 k l bs b i = some (if d = true then (counts bs l, 0) else ([], 92)) := by
  induction n with
  | zero =>
    intro k i b hb hi h hk
    obtain ⟨k, rfl⟩ : ∃ m, k = m + 1 := ⟨k - 1, by omega⟩
    refine ⟨b, ⟨fun q => ⟨q, fun j h1 h2 => by omega⟩, fun q => q.1⟩, ?_⟩
    simp only [tumblerref09_Bins.l0]
    rw [if_neg (by omega), bins_j2 hl b hb (by omega)]
  | succ n ih =>
    intro k i b hb hi h hk
    obtain ⟨k, rfl⟩ : ∃ m, k = m + 1 := ⟨k - 1, by omega⟩
    by_cases c : i < bs.length
    · cases b with
      | false =>
        refine ⟨false, by simp, ?_⟩
        simp only [tumblerref09_Bins.l0]
        rw [if_pos (by omega), if_neg (by simp), bins_j2 hl false (by simp) (by omega)]
      | true =>
        have step : ∀ b' : Bool, (b' = true ↔ 0 ≤ rd bs (i : Nat) ∧ (i = 0 ∨ rd bs (i - 1 : Nat) < rd bs (i : Nat))) → ∃ d : Bool, (d = true ↔ True ∧ okFrom bs i) ∧ tumblerref09_Bins.l0 k l bs b' ((i + 1 : Nat) : Int) = some (if d = true then (counts bs l, 0) else ([], 92)) := by
          intro b' hb'
          obtain ⟨d, hd, he⟩ := ih k (i + 1) b' (fun _ => hb rfl) (by omega) (by omega) (by omega)
          refine ⟨d, ?_, he⟩
          rw [hd, hb']
          constructor
          · rintro ⟨p, q⟩
            refine ⟨trivial, fun j h1 h2 => ?_⟩
            by_cases e : j = i
            · subst e
              exact p
            · exact q j (by omega) h2
          · rintro ⟨-, q⟩
            exact ⟨q i (Nat.le_refl _) c, fun j h1 h2 => q j (by omega) h2⟩
        simp only [tumblerref09_Bins.l0]
        rw [if_pos (by omega), if_pos trivial, if_pos (by omega), ws (i := i) (by omega)]
        by_cases a : rd bs (i : Nat) ≥ 0
        · rw [if_pos a]
          by_cases z : i = 0
          · rw [if_pos (by omega)]
            exact step true ⟨fun _ => ⟨a, .inl z⟩, fun _ => rfl⟩
          · have e : wrap64 ((i : Int) - 1) = ((i - 1 : Nat) : Int) := by unfold wrap64; omega
            rw [if_neg (by omega), e, if_pos (by omega), if_pos (by omega)]
            refine step _ ⟨fun q => ⟨a, .inr (of_decide_eq_true q)⟩, fun q => decide_eq_true (q.2.resolve_left z)⟩
        · rw [if_neg a]
          exact step false ⟨fun q => (by cases q), fun q => absurd q.1 a⟩
    · refine ⟨b, ⟨fun q => ⟨q, fun j h1 h2 => by omega⟩, fun q => q.1⟩, ?_⟩
      simp only [tumblerref09_Bins.l0]
      rw [if_neg (by omega), bins_j2 hl b hb (by omega)]
theorem rbins_f {l bs : List Int} (hl : l.length ≤ 1048576) (hbl : bs.length ≤ 1048576) {k : Nat} (hk : 50000000 ≤ k) : tumblerref09_Bins.f k l bs = timer_Bins.f l bs := by
  obtain ⟨k, rfl⟩ : ∃ m, k = m + 1 := ⟨k - 1, by omega⟩
  have e0 : timer_Bins.f l bs = if l.all smpB = true then (if riseB bs then some (counts bs l, 0) else some ([], 92)) else some ([], 93) := by
    unfold timer_Bins.f
    rw [if_neg (by omega), if_neg (by omega)]
  unfold tumblerref09_Bins.f
  rw [e0, fine_f (by omega) (by omega), Option.bind_some]
  by_cases a : l.all smpB = true
  · rw [if_pos a, if_pos a]
    have fin : ∀ b : Bool, (b = true ↔ 1 ≤ bs.length ∧ bs.length ≤ 32) → tumblerref09_Bins.j0 (k + 1) l bs b = some (if riseB bs then (counts bs l, 0) else ([], 92)) := by
      intro b hb
      simp only [tumblerref09_Bins.j0]
      obtain ⟨d, hd, he⟩ := bins_l0 hl hbl bs.length k 0 b (fun q => (hb.1 q).2) (Nat.zero_le _) (by omega) (by omega)
      have e : d = true ↔ riseB bs := by
        rw [hd, hb, ← okFrom_rise]
        exact and_assoc
      refine he.trans ?_
      by_cases c : riseB bs
      · rw [if_pos c, if_pos (e.2 c)]
      · rw [if_neg c, if_neg (fun q => c (e.1 q))]
    have fin2 : (if riseB bs then some (counts bs l, (0 : Int)) else some ([], 92)) = some (if riseB bs then (counts bs l, 0) else ([], 92)) := by
      by_cases c : riseB bs
      · rw [if_pos c, if_pos c]
      · rw [if_neg c, if_neg c]
    rw [fin2]
    by_cases c : (bs.length : Int) ≥ 1
    · rw [if_pos c]
      refine fin _ ⟨fun q => ?_, fun q => ?_⟩
      · have := of_decide_eq_true q
        omega
      · exact decide_eq_true (by omega)
    · rw [if_neg c]
      exact fin false ⟨fun q => (by cases q), fun q => by omega⟩
  · rw [if_neg a, if_neg a]
end Go.Proofs.Ythnihjfdmkfkiaa.G
