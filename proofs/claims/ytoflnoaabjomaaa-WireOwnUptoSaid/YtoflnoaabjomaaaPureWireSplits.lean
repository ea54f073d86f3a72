/- Where what it reads is of bulk at most 1048576: for every datagram WireSplits answers true: Split's lines are the reference's. -/
import Derived.Test.YtoflnoaabjomaaaQBWireSplits
import Derived.Lib.Bytes
namespace Go.Proofs.Ytoflnoaabjomaaa.Pure
open Go.RowKit Go.Proofs.Ytoflnoaabjomaaa.Q Go.Proofs.YtoflnoaabjomaaaW.PrintWords Go.Proofs.YtoflnoaabjomaaaW.PrintLast Go.Proofs.YtoflnoaabjomaaaW.PrintMore

theorem wrap_in {a : Int} (h1 : -9223372036854775808 ≤ a) (h2 : a ≤ 9223372036854775807) : wrap64 a = a := by
  unfold wrap64; omega

/-! strings out of numbers -/
theorem str_size (l : List Int) : (strOfNums l).size = l.length := by
  simp [strOfNums, ByteArray.size]
theorem str_bt (l : List Int) (hb : bytesIn l) (i : Int) (h0 : 0 ≤ i) (h1 : i < l.length) : bt (strOfNums l) i = rd l i := by
  have hi : i.toNat < l.length := by omega
  have hx := hb (l[i.toNat]) (List.getElem_mem hi)
  unfold bt rd
  rw [dif_pos (by rw [str_size]; omega)]
  rw [List.getD_eq_getElem?_getD, List.getElem?_eq_getElem hi]
  simp [strOfNums, ByteArray.getElem_eq_getElem_data]
  omega
theorem str_extract (l : List Int) (a b : Nat) : (strOfNums l).extract a b = strOfNums ((l.take b).drop a) := by
  apply ByteArray.ext
  simp [strOfNums, List.map_drop, List.map_take]
  rw [← List.map_drop, ← List.map_take, ← List.map_take, ← List.map_drop, List.drop_take]
theorem str_nil (l : List Int) : (strOfNums l).toList = [] ↔ l = [] := by
  rw [Lib.strOfNums_toList]
  simp [Lib.bytesOf]

/-! the pieces between line ends -/
def cutI : List Int → List (List Int)
  | [] => [[]]
  | x :: r => if x = 10 then [] :: cutI r else match cutI r with
    | p :: ps => (x :: p) :: ps
    | [] => [[x]]
theorem cutI_ne (l : List Int) : cutI l ≠ [] := by
  cases l with
  | nil => simp [cutI]
  | cons x r =>
    simp only [cutI]
    split
    · simp
    · split <;> simp
theorem cutI_none : ∀ (l : List Int), (∀ x ∈ l, x ≠ 10) → cutI l = [l] := by
  intro l
  induction l with
  | nil => intro _; rfl
  | cons x r ih =>
    intro h
    have hr := ih (fun y hy => h y (List.mem_cons_of_mem _ hy))
    simp only [cutI]
    rw [if_neg (h x List.mem_cons_self), hr]
theorem cutI_at : ∀ (p r : List Int), (∀ x ∈ p, x ≠ 10) → cutI (p ++ 10 :: r) = p :: cutI r := by
  intro p
  induction p with
  | nil => intro r _; simp [cutI]
  | cons x p ih =>
    intro r h
    have hr := ih r (fun y hy => h y (List.mem_cons_of_mem _ hy))
    simp only [List.cons_append, cutI]
    rw [if_neg (h x List.mem_cons_self), hr]
theorem cutI_length (l : List Int) : (cutI l).length ≤ l.length + 1 := by
  induction l with
  | nil => simp [cutI]
  | cons x r ih =>
    simp only [cutI]
    split
    · simp; omega
    · split
      · rename_i p ps h; rw [h] at ih; simp at ih ⊢; omega
      · simp
theorem cutI_bytes (l : List Int) (h : bytesIn l) : ∀ p ∈ cutI l, bytesIn p ∧ p.length ≤ l.length := by
  induction l with
  | nil => intro p hp; simp [cutI] at hp; subst hp; exact ⟨fun x hx => by simp at hx, by simp⟩
  | cons x r ih =>
    have ih := ih (fun y hy => h y (List.mem_cons_of_mem _ hy))
    intro p hp
    simp only [cutI] at hp
    split at hp
    · rcases List.mem_cons.1 hp with rfl | hp
      · exact ⟨fun x hx => by simp at hx, by simp⟩
      · have := ih p hp; exact ⟨this.1, by simp; omega⟩
    · split at hp
      · rename_i q qs hq
        rcases List.mem_cons.1 hp with rfl | hp
        · have := ih q (by rw [hq]; exact List.mem_cons_self)
          exact ⟨fun y hy => by
            rcases List.mem_cons.1 hy with rfl | hy
            · exact h y List.mem_cons_self
            · exact this.1 y hy, by simp; omega⟩
        · have := ih p (by rw [hq]; exact List.mem_cons_of_mem _ hp); exact ⟨this.1, by simp; omega⟩
      · rename_i hq; exact absurd hq (cutI_ne r)

theorem idx_none : ∀ (l : List Int), idx 10 l < 0 → ∀ x ∈ l, x ≠ 10 := by
  intro l
  induction l with
  | nil => intro _ x hx; simp at hx
  | cons y r ih =>
    intro h x hx
    have hr := idx_range 10 r
    simp only [idx] at h
    by_cases c : y = 10
    · rw [if_pos c] at h; omega
    rw [if_neg c] at h
    by_cases c2 : idx 10 r = -1
    · rcases List.mem_cons.1 hx with rfl | hx
      · exact c
      · exact ih (by omega) x hx
    · rw [if_neg c2] at h; omega
theorem idx_some : ∀ (l : List Int), 0 ≤ idx 10 l → l = l.take (idx 10 l).toNat ++ 10 :: l.drop (idx 10 l + 1).toNat ∧ ∀ x ∈ l.take (idx 10 l).toNat, x ≠ 10 := by
  intro l
  induction l with
  | nil => intro h; simp [idx] at h
  | cons y r ih =>
    intro h
    simp only [idx] at h ⊢
    by_cases c : y = 10
    · rw [if_pos c]; subst c; simp
    · rw [if_neg c] at h ⊢
      have hr := idx_range 10 r
      by_cases c2 : idx 10 r = -1
      · rw [if_pos c2] at h; omega
      · rw [if_neg c2] at h ⊢
        obtain ⟨h1, h2⟩ := ih (by omega)
        rw [show (idx 10 r + 1).toNat = (idx 10 r).toNat + 1 by omega, show (idx 10 r + 1 + 1).toNat = (idx 10 r + 1).toNat + 1 by omega]
        refine ⟨?_, fun x hx => ?_⟩
        · simp only [List.take_succ_cons, List.drop_succ_cons, List.cons_append]; rw [← h1]
        · simp only [List.take_succ_cons] at hx
          rcases List.mem_cons.1 hx with rfl | hx
          · exact c
          · exact h2 x hx

/-- What Split answers. -/
def linesI (ps : List (List Int)) : List ByteArray := ((ps.map bareL).filter (fun p => decide (0 < p.length))).map strOfNums
def splitI (l : List Int) : List ByteArray := linesI (cutI l)
theorem linesI_cons (p : List Int) (ps : List (List Int)) : linesI (p :: ps) = (if 0 < (bareL p).length then [strOfNums (bareL p)] else []) ++ linesI ps := by
  unfold linesI
  by_cases h : 0 < (bareL p).length
  · simp only [List.map_cons]; rw [List.filter_cons_of_pos (by simpa using h), if_pos h]; rfl
  · simp only [List.map_cons]; rw [List.filter_cons_of_neg (by simpa using h), if_neg h]; rfl

theorem wire_loop (n : Nat) : ∀ (d : List Int) (acc : List ByteArray) (k : Nat), d.length ≤ n → d.length < k → acc.length + d.length + 1 ≤ 8796093022208 → wire_Split.l0 k d acc = some (acc ++ splitI d) := by
  induction n with
  | zero =>
    intro d acc k hn hk ha
    obtain ⟨k, rfl⟩ : ∃ m, k = m + 1 := ⟨k - 1, by omega⟩
    have : d = [] := List.length_eq_zero_iff.1 (by omega)
    subst this
    simp [wire_Split.l0, idx, splitI, cutI, linesI, bareL]
  | succ n ih =>
    intro d acc k hn hk ha
    obtain ⟨k, rfl⟩ : ∃ m, k = m + 1 := ⟨k - 1, by omega⟩
    simp only [wire_Split.l0]
    by_cases hi : 0 ≤ idx 10 d
    · rw [if_pos hi]
      obtain ⟨h1, h2⟩ := idx_some d hi
      have hr := idx_range 10 d
      have e : splitI d = (if 0 < (bareL (d.take (idx 10 d).toNat)).length then [strOfNums (bareL (d.take (idx 10 d).toNat))] else []) ++ splitI (d.drop (idx 10 d + 1).toNat) := by
        unfold splitI
        rw [← linesI_cons, ← cutI_at _ _ h2, ← h1]
      rw [e]
      have hl : (d.drop (idx 10 d + 1).toNat).length ≤ n := by simp; omega
      have hl2 : (d.drop (idx 10 d + 1).toNat).length + 1 ≤ d.length := by simp; omega
      by_cases hb : 0 < (bareL (d.take (idx 10 d).toNat)).length
      · rw [if_pos hb, if_pos hb, if_pos (by omega), ih _ _ _ hl (by omega) (by simp at hl2 ⊢; omega), List.append_assoc]
      · rw [if_neg hb, if_neg hb, ih _ _ _ hl (by omega) (by omega)]; rfl
    · rw [if_neg hi]
      have h2 := idx_none d (by omega)
      have e : splitI d = if 0 < (bareL d).length then [strOfNums (bareL d)] else [] := by
        unfold splitI
        rw [cutI_none d h2, linesI_cons]
        simp [linesI]
      rw [e]
      by_cases hb : 0 < (bareL d).length
      · rw [if_pos hb, if_pos hb, if_pos (by omega)]
      · rw [if_neg hb, if_neg hb]; simp

theorem wire_f (l : List Int) (hb : bytesIn l) (k : Nat) (hk : l.length < k) (hl : l.length ≤ 1048576) : wire_Split.f k l = some (splitI l) := by
  unfold wire_Split.f
  rw [if_pos (List.all_eq_true.2 fun x hx => decide_eq_true (hb x hx)), wire_loop l.length l [] k (Nat.le_refl _) hk (by simp; omega)]
  rfl

/-! the reference -/
theorem take_drop_snoc (l : List Int) (a i : Nat) (ha : a ≤ i) (hi : i < l.length) : (l.take (i + 1)).drop a = (l.take i).drop a ++ [l[i]] := by
  rw [List.take_succ_eq_append_getElem hi, List.drop_append_of_le_length (by simp; omega)]

theorem cut_loop (l : List Int) (hb : bytesIn l) (hl : l.length ≤ 1048576) (n : Nat) : ∀ (i a : Nat) (acc : List ByteArray) (k : Nat), i + n = l.length + 1 → a ≤ i → (∀ x ∈ (l.take i).drop a, x ≠ 10) → acc.length + n ≤ 4000000 → n < k →
    tumblerref05_cut.l0 k (strOfNums l) acc (a : Int) (i : Int) = some (if i ≤ l.length then acc ++ (cutI (l.drop a)).map strOfNums else acc) := by
  induction n with
  | zero =>
    intro i a acc k h1 h2 h3 h4 hk
    obtain ⟨k, rfl⟩ : ∃ m, k = m + 1 := ⟨k - 1, by omega⟩
    simp only [tumblerref05_cut.l0]
    rw [if_neg (by rw [str_size]; omega), if_neg (by omega)]
  | succ n ih =>
    intro i a acc k h1 h2 h3 h4 hk
    obtain ⟨k, rfl⟩ : ∃ m, k = m + 1 := ⟨k - 1, by omega⟩
    simp only [tumblerref05_cut.l0]
    rw [str_size, if_pos (by omega)]
    have ew : wrap64 ((i : Int) + 1) = ((i + 1 : Nat) : Int) := by rw [wrap_in (by omega) (by omega)]; omega
    by_cases hi : (i : Int) = (l.length : Int)
    · have hi' : i = l.length := by omega
      rw [if_pos hi, if_pos (by omega), if_pos (by omega), if_pos (by omega), ew, ih (i + 1) (i + 1) _ k (by omega) (Nat.le_refl _) (by simp) (by simp; omega) (by omega), if_neg (by omega)]
      rw [str_extract]
      have e2 : (l.take (i : Int).toNat).drop (a : Int).toNat = l.drop a := by simp [hi']
      rw [hi', List.take_length] at h3
      rw [e2, cutI_none _ h3, if_pos (by omega)]
      rfl
    · rw [if_neg hi, if_pos (by omega), if_pos (by omega), str_bt l hb i (by omega) (by omega)]
      have hi' : i < l.length := by omega
      have eg : rd l i = l[i] := by unfold rd; rw [List.getD_eq_getElem?_getD, Int.toNat_natCast, List.getElem?_eq_getElem hi']; rfl
      rw [eg]
      by_cases hc : l[i] = 10
      · rw [if_pos hc, if_pos (by omega), if_pos (by omega), if_pos (by omega), ew, ih (i + 1) (i + 1) _ k (by omega) (Nat.le_refl _) (by simp) (by simp; omega) (by omega), if_pos (by omega), str_extract]
        have e3 : l.drop a = (l.take i).drop a ++ 10 :: l.drop (i + 1) := by
          have : l = l.take i ++ l[i] :: l.drop (i + 1) := by rw [← List.drop_eq_getElem_cons hi', List.take_append_drop]
          have e4 : l.drop a = (l.take i ++ l[i] :: l.drop (i + 1)).drop a := by rw [← this]
          rw [e4, List.drop_append_of_le_length (by simp; omega), hc]
        rw [e3, cutI_at _ _ h3, if_pos (by omega)]
        simp [List.append_assoc]
      · rw [if_neg hc, ew, ih (i + 1) a acc k (by omega) (by omega) (by
          rw [take_drop_snoc l a i h2 hi']
          intro x hx
          rcases List.mem_append.1 hx with hx | hx
          · exact h3 x hx
          · rw [List.mem_singleton.1 hx]; exact hc) (by omega) (by omega), if_pos (by omega), if_pos (by omega)]

theorem cut_f (l : List Int) (hb : bytesIn l) (hl : l.length ≤ 1048576) (k : Nat) (hk : l.length + 1 < k) : tumblerref05_cut.f k (strOfNums l) = some ((cutI l).map strOfNums) := by
  unfold tumblerref05_cut.f
  have := cut_loop l hb hl (l.length + 1) 0 0 [] k (by omega) (by omega) (by simp) (by simp; omega) hk
  simpa using this

theorem bare_f (p : List Int) (hb : bytesIn p) (hl : p.length ≤ 1048576) : tumblerref05_bare.f (strOfNums p) = some (strOfNums (bareL p)) := by
  unfold tumblerref05_bare.f bareL
  rw [str_size]
  by_cases h : 0 < (p.length : Int)
  · rw [if_pos h, wrap_in (by omega) (by omega), if_pos (by omega), if_pos (by omega), str_bt p hb _ (by omega) (by omega)]
    by_cases c : rd p ((p.length : Int) - 1) = 13
    · rw [if_pos c, if_pos (by omega), if_pos ⟨h, c⟩, str_extract]; simp
    · rw [if_neg c, if_neg (fun h => c h.2)]
  · rw [if_neg h, if_neg (fun g => h g.1)]

theorem lines_loop (ps : List (List Int)) (hp : ∀ p ∈ ps, bytesIn p ∧ p.length ≤ 1048576) (hl : ps.length ≤ 1048577) (n : Nat) : ∀ (i : Nat) (acc : List ByteArray) (k : Nat), i + n = ps.length → acc.length + n ≤ 4000000 → n < k →
    tumblerref05_Split.l0 k acc (ps.map strOfNums) (i : Int) = some (acc ++ linesI (ps.drop i)) := by
  induction n with
  | zero =>
    intro i acc k h1 h2 hk
    obtain ⟨k, rfl⟩ : ∃ m, k = m + 1 := ⟨k - 1, by omega⟩
    simp only [tumblerref05_Split.l0]
    rw [if_neg (by simp; omega), List.drop_of_length_le (by omega)]
    simp [linesI]
  | succ n ih =>
    intro i acc k h1 h2 hk
    obtain ⟨k, rfl⟩ : ∃ m, k = m + 1 := ⟨k - 1, by omega⟩
    have hi : i < ps.length := by omega
    simp only [tumblerref05_Split.l0]
    rw [if_pos (by simp; omega), if_pos (by omega)]
    have eg : rdOf ByteArray.empty (ps.map strOfNums) (i : Int) = strOfNums ps[i] := by
      unfold rdOf
      rw [List.getD_eq_getElem?_getD, Int.toNat_natCast, List.getElem?_map, List.getElem?_eq_getElem hi]; rfl
    have hpi := hp ps[i] (List.getElem_mem hi)
    have ew : wrap64 ((i : Int) + 1) = ((i + 1 : Nat) : Int) := by rw [wrap_in (by omega) (by omega)]; omega
    rw [eg, bare_f _ hpi.1 hpi.2]
    simp only [Option.bind_some]
    rw [List.drop_eq_getElem_cons hi, linesI_cons, ew]
    by_cases c : bareL ps[i] = []
    · rw [if_pos ((str_nil _).2 c), ih (i + 1) acc k (by omega) (by omega) (by omega), if_neg (by simp [c])]; rfl
    · rw [if_neg (fun h => c ((str_nil _).1 h)), if_pos (by omega), ih (i + 1) _ k (by omega) (by simp; omega) (by omega), if_pos (List.length_pos_iff.2 c), List.append_assoc]

theorem ref_f (l : List Int) (hb : bytesIn l) (hl : l.length ≤ 1048576) (k : Nat) (hk : l.length + 2 < k) : tumblerref05_Split.f k l = some (splitI l) := by
  unfold tumblerref05_Split.f
  rw [cut_f l hb hl k (by omega)]
  simp only [Option.bind_some]
  have hc := cutI_length l
  have := lines_loop (cutI l) (fun p hp => ⟨(cutI_bytes l hb p hp).1, by have := (cutI_bytes l hb p hp).2; omega⟩) (by omega) (cutI l).length 0 [] k (by omega) (by simp; omega) (by omega)
  unfold splitI
  simpa using this

theorem same_loop (l : List ByteArray) (hl : l.length ≤ 10000000) (d : Nat) : ∀ (k : Nat) (i : Int), 0 ≤ i → i + d = l.length → d < k → tumblerlaw05_same.l0 k l l i = some true := by
  induction d with
  | zero =>
    intro k i h0 h1 hk
    obtain ⟨k, rfl⟩ : ∃ m, k = m + 1 := ⟨k - 1, by omega⟩
    simp only [tumblerlaw05_same.l0]; rw [if_neg (by omega)]
  | succ d ih =>
    intro k i h0 h1 hk
    obtain ⟨k, rfl⟩ : ∃ m, k = m + 1 := ⟨k - 1, by omega⟩
    simp only [tumblerlaw05_same.l0]
    rw [if_pos (by omega), if_pos h0, if_pos (by omega), if_pos trivial, wrap_in (by omega) (by omega), ih k (i + 1) (by omega) (by omega) (by omega)]
theorem same_f (l : List ByteArray) (hl : l.length ≤ 10000000) (k : Nat) (hk : l.length < k) : tumblerlaw05_same.f k l l = some true := by
  unfold tumblerlaw05_same.f
  rw [if_pos rfl, same_loop l hl l.length k 0 (by omega) (by omega) hk]
theorem lines_length (ps : List (List Int)) : (linesI ps).length ≤ ps.length := by
  unfold linesI
  rw [List.length_map]
  exact Nat.le_trans (List.length_filter_le _ _) (by simp)

theorem alive_f (k : Nat) (hk : 20 < k) : tumblerlaw05_alive.f k = some true := by
  unfold tumblerlaw05_alive.f
  rw [wire_f _ (by intro x hx; simp at hx; omega) k (by simp; omega) (by simp)]
  simp only [Option.bind_some]
  rw [show splitI [97, 58, 49, 124, 99, 13, 10, 10, 98] = [(⟨#[97, 58, 49, 124, 99]⟩ : ByteArray), (⟨#[98]⟩ : ByteArray)] from rfl, same_f _ (by simp) k (by simp; omega)]
  rfl

theorem ones (l : List Int) : (l.map (fun _ => 1)).sum = l.length := by
  induction l with
  | nil => rfl
  | cons x r ih => simp only [List.map_cons, List.sum_cons, ih, List.length_cons]; omega

theorem WireSplits : BWireSplits.PureU := by
  intro l hl hw
  rw [ones] at hl
  have hb : bytesIn l := fun x hx => by
    have := hw x hx
    simpa [Lit.wf, IntKind.min, IntKind.max, IntKind.signed, IntKind.bits] using this
  refine ⟨l.length + 30, ?_⟩
  unfold tumblerlaw05_WireSplits.f
  rw [wire_f l hb _ (by omega) (by omega), ref_f l hb (by omega) _ (by omega), alive_f _ (by omega)]
  simp only [Option.bind_some]
  have h1 := lines_length (cutI l)
  have h2 := cutI_length l
  rw [same_f _ (by unfold splitI; omega) _ (by unfold splitI; omega)]
  rfl

end Go.Proofs.Ytoflnoaabjomaaa.Pure
