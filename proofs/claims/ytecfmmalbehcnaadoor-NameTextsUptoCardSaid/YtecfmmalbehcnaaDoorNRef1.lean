/- The reference's functions of bytes, texts and names, by the printed functions' closed forms. -/
import Derived.Test.YtecfmmalbehcnaaDoorNPlain
import Derived.Test.YtecfmmalbehcnaaDoorSx
import Derived.DataShut
namespace Go.Proofs.YtecfmmalbehcnaaDoor.Q
open Go.Shelf Go.RowKit Go.Proofs Go.Proofs.YtecfmmalbehcnaaDoorW.PrintWords Go.Proofs.YtecfmmalbehcnaaDoorW.PrintLast Go.Proofs.YtecfmmalbehcnaaDoorW.PrintMore Go.Proofs.YtecfmmalbehcnaaDoorV Go.Proofs.YtecfmmalbehcnaaDoor.S
set_option linter.unusedVariables false
set_option linter.unusedSimpArgs false

theorem rsort_f (c : UInt8) (k : Nat) : tumblerref03_Sort.f (k + 2) (c.toNat : Int) = some (sortB c : Int) := by
  have hc := c.toNat_lt
  unfold tumblerref03_Sort.f sortB
  simp only [tumblerref03_Sort.j0, tumblerref03_Sort.j1, decide_eq_true_eq]
  (repeat' split) <;> first | rfl | (exfalso; omega) | (exfalso; simp_all; done) | (exfalso; simp_all; omega)
theorem rbyte_f (c : UInt8) (k : Nat) : tumblerref03_Byte.f (k + 2) (c.toNat : Int) = some (nb c) := by
  unfold tumblerref03_Byte.f
  rw [rsort_f]
  simp only [Option.bind_some]
  unfold nb cb
  by_cases h1 : 0 < sortB c
  · rw [if_pos (by omega), decide_eq_true h1]; rfl
  · rw [if_neg (by omega), decide_eq_false h1]
    have e95 : (c.toNat : Int) = 95 ↔ c = 95 := eq_byte c 95
    have e45 : (c.toNat : Int) = 45 ↔ c = 45 := eq_byte c 45
    by_cases h2 : c = 95
    · rw [if_pos (e95.2 h2), show (c == 95) = true from beq_iff_eq.2 h2]; rfl
    · rw [if_neg (fun q => h2 (e95.1 q)), show (c == 95) = false from beq_eq_false_iff_ne.2 h2]
      by_cases h3 : c = 45
      · rw [show (c == 45) = true from beq_iff_eq.2 h3, show ((c.toNat : Int) == 45) = true from beq_iff_eq.2 (e45.2 h3)]; rfl
      · rw [show (c == 45) = false from beq_eq_false_iff_ne.2 h3, show ((c.toNat : Int) == 45) = false from beq_eq_false_iff_ne.2 (fun q => h3 (e45.1 q))]; rfl
theorem rcb_f (c : UInt8) (k : Nat) : tumblerref03_classByte.f (k + 2) (c.toNat : Int) = some (cb c) := by
  unfold tumblerref03_classByte.f
  rw [rsort_f]
  simp only [Option.bind_some]
  unfold cb
  by_cases h1 : 0 < sortB c
  · rw [if_pos (by omega), decide_eq_true h1]; rfl
  · rw [if_neg (by omega), decide_eq_false h1]
    have e95 : (c.toNat : Int) = 95 ↔ c = 95 := eq_byte c 95
    by_cases h2 : c = 95
    · rw [show ((c.toNat : Int) == 95) = true from beq_iff_eq.2 (e95.2 h2), show (c == 95) = true from beq_iff_eq.2 h2]; rfl
    · rw [show ((c.toNat : Int) == 95) = false from beq_eq_false_iff_ne.2 (fun q => h2 (e95.1 q)), show (c == 95) = false from beq_eq_false_iff_ne.2 h2]; rfl
theorem rbytes_l0 (s : ByteArray) (hs : s.size ≤ 140737488355328) : ∀ (n i k : Nat), i + n = s.size → tumblerref03_Bytes.l0 (n + k + 3) s (i : Int) = some (bytesP (s.data.toList.drop i)) := by
  intro n
  induction n with
  | zero =>
    intro i k h
    rw [tumblerref03_Bytes.l0, if_neg (by omega), List.drop_eq_nil_of_le (by rw [size_data]; omega)]
    rfl
  | succ n ih =>
    intro i k h
    obtain ⟨c, hc⟩ := get_lt (s := s) (i := i) (by omega)
    have hd : s.data.toList.drop i = c :: s.data.toList.drop (i + 1) := by
      obtain ⟨h1, h2⟩ := List.getElem?_eq_some_iff.1 hc
      rw [List.drop_eq_getElem_cons h1, h2]
    rw [show n + 1 + k + 3 = (n + k + 3) + 1 by omega, tumblerref03_Bytes.l0, if_pos (by omega), if_pos (by omega), bt_get hc, show n + k + 3 = (n + k + 1) + 2 by omega, rbyte_f, Option.bind_some]
    rw [hd, show bytesP (c :: s.data.toList.drop (i + 1)) = (nb c && bytesP (s.data.toList.drop (i + 1))) from rfl]
    cases hn : nb c with
    | false => rw [if_neg (by decide)]; rfl
    | true =>
      rw [if_pos rfl, wrap_add1 (by omega) hs, show n + k + 1 + 2 = n + k + 3 by omega, ih (i + 1) k (by omega)]
      rfl
theorem rbytes_f (s : ByteArray) (hs : s.size ≤ 140737488355328) (k : Nat) : tumblerref03_Bytes.f (s.size + k + 3) s = some (bytesP s.data.toList) := by
  unfold tumblerref03_Bytes.f
  exact rbytes_l0 s hs s.size 0 k (by omega)
/-- A piece of a text, as a text. -/
theorem extract_eq (s : ByteArray) (i j : Nat) : (s.extract i j) = strB ((s.data.toList.drop i).take (j - i)) := by
  unfold strB
  apply ByteArray.ext
  rw [ByteArray.data_extract]
  apply Array.ext'
  rw [Array.toList_extract]
theorem drop_cons {α : Type} {l : List α} {i : Nat} {c : α} (h : l[i]? = some c) : l.drop i = c :: l.drop (i + 1) := by
  obtain ⟨h1, h2⟩ := List.getElem?_eq_some_iff.1 h
  rw [List.drop_eq_getElem_cons h1, h2]
theorem take_snocD {l : List UInt8} {f i : Nat} {c : UInt8} (hf : f ≤ i) (h : l[i]? = some c) : (l.drop f).take (i + 1 - f) = (l.drop f).take (i - f) ++ [c] := by
  rw [show i + 1 - f = (i - f) + 1 by omega, List.take_add_one, List.getElem?_drop, show f + (i - f) = i by omega, h]
  rfl
theorem split_at {l : List UInt8} {f i : Nat} (hf : f ≤ i) : l.drop f = (l.drop f).take (i - f) ++ l.drop i := by
  have := (List.take_append_drop (i - f) (l.drop f)).symm
  rwa [List.drop_drop, show f + (i - f) = i by omega] at this
theorem rcut_l0 (s : ByteArray) (hs : s.size ≤ 140737488355328) : ∀ (n i f k : Nat) (acc : List ByteArray), i + n = s.size → f ≤ i → acc.length ≤ i → (∀ x ∈ (s.data.toList.drop f).take (i - f), x ≠ 46) → s.size ≤ 1073741824 →
    tumblerref03_Cut.l0 (n + k + 2) s acc (f : Int) (i : Int) = some (acc ++ (cutP (s.data.toList.drop f)).map strB) := by
  intro n
  induction n with
  | zero =>
    intro i f k acc h hf ha hx h30
    have hi : i = s.size := by omega
    have hd : s.data.toList.drop f = (s.data.toList.drop f).take (i - f) := by
      have := split_at (l := s.data.toList) hf
      have e : s.data.toList.drop i = [] := List.drop_eq_nil_of_le (by rw [size_data]; omega)
      rwa [e, List.append_nil] at this
    rw [show 0 + k + 2 = (k + 1) + 1 by omega, tumblerref03_Cut.l0, if_pos (by omega), if_pos (by omega), if_pos (by omega), if_pos (by omega), if_pos (by omega), tumblerref03_Cut.l0, if_neg (by unfold wrap64; omega)]
    rw [Int.toNat_natCast, Int.toNat_natCast, extract_eq]
    rw [← hd] at hx
    rw [← hd, cut_nodot _ hx]
    rfl
  | succ n ih =>
    intro i f k acc h hf ha hx h30
    obtain ⟨c, hc⟩ := get_lt (s := s) (i := i) (by omega)
    rw [show n + 1 + k + 2 = (n + k + 2) + 1 by omega, tumblerref03_Cut.l0, if_pos (by omega), if_neg (by omega), if_pos (by omega), if_pos (by omega), bt_get hc]
    by_cases h46 : c = 46
    · subst h46
      rw [if_pos (show ((46 : UInt8).toNat : Int) = 46 from rfl), if_pos (by omega), if_pos (by omega), if_pos (by omega), wrap_add1 (by omega) hs, Int.toNat_natCast, Int.toNat_natCast, extract_eq]
      rw [ih (i + 1) (i + 1) k _ (by omega) (Nat.le_refl _) (by rw [List.length_append]; simp; omega) (by rw [Nat.sub_self]; intro x hx; simp at hx) h30]
      have hd := split_at (l := s.data.toList) hf
      rw [drop_cons hc] at hd
      rw [hd, cut_app _ _ hx, List.map_cons, List.append_assoc]
      rw [← hd]
      rfl
    · have e46 : (c.toNat : Int) = 46 ↔ c = 46 := eq_byte c 46
      rw [if_neg (fun q => h46 (e46.1 q)), wrap_add1 (by omega) hs]
      refine ih (i + 1) f k acc (by omega) (by omega) (by omega) ?_ h30
      rw [take_snocD hf hc]
      intro x hx2
      rcases List.mem_append.1 hx2 with q | q
      · exact hx x q
      · rw [List.mem_singleton.1 q]; exact h46
theorem rcut_f (s : ByteArray) (hs : s.size ≤ 1073741824) (k : Nat) : tumblerref03_Cut.f (s.size + k + 2) s = some (splitS s) := by
  unfold tumblerref03_Cut.f
  have := rcut_l0 s (by omega) s.size 0 0 k [] (by omega) (Nat.le_refl _) (Nat.zero_le _) (by simp) hs
  exact this
/-- A node of a name. -/
def nodeS (x : ByteArray) : Bool := nodeP x.data.toList
theorem rd_get {l : List ByteArray} {i : Nat} {x : ByteArray} (h : l[i]? = some x) : rdOf ByteArray.empty l (i : Int) = x := by
  unfold rdOf
  rw [Int.toNat_natCast, List.getD_eq_getElem?_getD, h]
  rfl
theorem rvalid_l0 (l : List ByteArray) (B : Nat) (hl : l.length ≤ 1073741825) (hB : ∀ x ∈ l, x.size ≤ B) (hB2 : B ≤ 1073741824) : ∀ (n i k : Nat), i + n = l.length →
    tumblerref03_Valid.l0 (n + B + k + 4) l (i : Int) = some ((l.drop i).all nodeS && decide (l.length ≤ 16)) := by
  intro n
  induction n with
  | zero =>
    intro i k h
    rw [show 0 + B + k + 4 = (B + k + 3) + 1 by omega, tumblerref03_Valid.l0, if_neg (by omega), List.drop_eq_nil_of_le (by omega)]
    simp only [List.all_nil, Bool.true_and, Option.some.injEq]
    exact decide_eq_decide.2 (by omega)
  | succ n ih =>
    intro i k h
    obtain ⟨x, hx⟩ : ∃ x, l[i]? = some x := ⟨_, List.getElem?_eq_getElem (by omega)⟩
    have hxb := hB x (List.mem_of_getElem? hx)
    rw [show n + 1 + B + k + 4 = (n + B + k + 4) + 1 by omega, tumblerref03_Valid.l0, if_pos (by omega), if_pos (by omega), rd_get hx, drop_cons hx, List.all_cons]
    by_cases he : x.toList = []
    · have h2 : nodeS x = false := by
        unfold nodeS nodeP
        have := empty_iff x
        rw [beq_iff_eq.2 he] at this
        rw [← this]; rfl
      rw [if_pos he, h2]; rfl
    · have h2 : nodeS x = bytesP x.data.toList := by
        unfold nodeS nodeP
        have := empty_iff x
        rw [beq_eq_false_iff_ne.2 he] at this
        rw [← this]; rfl
      rw [if_neg he, show n + B + k + 4 = x.size + (n + B + k + 1 - x.size) + 3 by omega, rbytes_f x (by omega), Option.bind_some, h2]
      cases bytesP x.data.toList with
      | false => rw [if_neg (by decide)]; rfl
      | true =>
        rw [if_pos rfl, show x.size + (n + B + k + 1 - x.size) + 3 = n + B + k + 4 by omega, wrap_add1 (n := l.length) (by omega) (by omega), ih (i + 1) k (by omega), Bool.true_and]
theorem rvalid_f (s : ByteArray) (hs : s.size ≤ 1073741824) (k : Nat) : tumblerref03_Valid.f (2 * s.size + k + 10) s = some (validP s.data.toList) := by
  unfold tumblerref03_Valid.f validP
  have hsz := size_data s
  by_cases h2 : s.size > 200
  · rw [if_pos (by omega), decide_eq_false (by omega)]; rfl
  · rw [if_neg (by omega), decide_eq_true (by omega), show 2 * s.size + k + 10 = s.size + (s.size + k + 8) + 2 by omega, rcut_f s hs, Option.bind_some]
    have hl := splitS_length s
    have := rvalid_l0 (splitS s) s.size (by omega) (fun x hx => splitS_size x hx) hs (splitS s).length 0 (2 * s.size + k + 10 - (splitS s).length - s.size - 4) (by omega)
    rw [show (splitS s).length + s.size + (2 * s.size + k + 10 - (splitS s).length - s.size - 4) + 4 = s.size + (s.size + k + 8) + 2 by omega] at this
    rw [show (0 : Int) = ((0 : Nat) : Int) from rfl, this, List.drop_zero]
    unfold splitS
    rw [List.all_map, List.length_map, Bool.true_and, Bool.and_comm]
    rfl
theorem rnodes_f (s : ByteArray) (hs : s.size ≤ 1073741824) (k : Nat) : tumblerref03_Nodes.f (2 * s.size + k + 10) s = some (nodesB s) := by
  unfold tumblerref03_Nodes.f nodesB
  rw [rvalid_f s hs, Option.bind_some]
  cases validP s.data.toList with
  | false => rw [if_neg (by decide), if_neg (by decide)]
  | true =>
    rw [if_pos rfl, if_pos rfl, show 2 * s.size + k + 10 = s.size + (s.size + k + 8) + 2 by omega, rcut_f s hs]
    rfl
theorem wrap_in {x : Int} (h1 : -9223372036854775808 ≤ x) (h2 : x ≤ 9223372036854775807) : wrap64 x = x := by unfold wrap64; omega
theorem rnode_f (s : ByteArray) (i : Int) (hs : s.size ≤ 1073741824) (hi : (Lit.int .i64 i).wf = true) (k : Nat) : tumblerref03_Node.f (2 * s.size + k + 10) s i = some (nodeB (nodesB s) i) := by
  unfold tumblerref03_Node.f
  rw [rnodes_f s hs, Option.bind_some]
  have hN := nodesB_len s
  obtain ⟨g1, g2⟩ := (Lit.wf_int_iff .i64 i).1 hi
  have g1 : (-9223372036854775808 : Int) ≤ i := g1
  have g2 : i ≤ 9223372036854775807 := g2
  obtain ⟨N, hN0⟩ : ∃ N, N = nodesB s := ⟨_, rfl⟩
  rw [← hN0] at hN ⊢
  obtain ⟨n, hn⟩ : ∃ n, n = N.length := ⟨_, rfl⟩
  rw [← hn] at hN
  rw [wrap_in (x := -(N.length : Int)) (by omega) (by omega)]
  unfold nodeB
  rw [show 2 * s.size + k + 10 = (2 * s.size + k + 9) + 1 by omega]
  simp only [tumblerref03_Node.j0, decide_eq_true_eq, ← hn]
  by_cases h0 : i < 0
  · rw [if_pos h0, if_pos h0]
    by_cases h1 : -(n : Int) ≤ i
    · rw [if_pos (by omega), if_pos h1]
      rw [wrap_in (x := (n : Int) + i) (by omega) (by omega), if_neg (by omega), if_neg (by omega), if_pos (by omega), if_pos (by omega), Int.add_comm, if_pos h0]
      rfl
    · rw [if_neg (by omega), if_neg h1, if_pos h0]
  · rw [if_neg h0, if_neg h0, if_neg (by decide), if_neg h0]
    by_cases h1 : i < (n : Int)
    · rw [if_neg (by omega), if_pos (by omega), if_pos h1, if_pos h1]
      rfl
    · rw [if_pos (by omega), if_neg h1]
theorem rsame_l0 (X Y : List ByteArray) (hl : X.length = Y.length) (hb : X.length ≤ 140737488355328) : ∀ (n i k : Nat), i + n = X.length → tumblerref03_SameTexts.l0 (n + k + 1) X Y (i : Int) = some (decide (X.drop i = Y.drop i)) := by
  intro n
  induction n with
  | zero =>
    intro i k h
    rw [show 0 + k + 1 = k + 1 by omega, tumblerref03_SameTexts.l0, if_neg (by omega), List.drop_eq_nil_of_le (by omega), List.drop_eq_nil_of_le (by omega)]
    rfl
  | succ n ih =>
    intro i k h
    obtain ⟨x, hx⟩ : ∃ x, X[i]? = some x := ⟨_, List.getElem?_eq_getElem (by omega)⟩
    obtain ⟨y, hy⟩ : ∃ y, Y[i]? = some y := ⟨_, List.getElem?_eq_getElem (by omega)⟩
    rw [show n + 1 + k + 1 = (n + k + 1) + 1 by omega, tumblerref03_SameTexts.l0, if_pos (by omega), if_pos (by omega), if_pos (by omega), rd_get hx, rd_get hy, drop_cons hx, drop_cons hy]
    by_cases hxy : x = y
    · rw [if_pos (by rw [hxy]), wrap_add1 (n := X.length) (by omega) hb, ih (i + 1) k (by omega)]
      refine congrArg some (decide_eq_decide.2 ?_)
      rw [List.cons.injEq]
      exact ⟨fun q => ⟨hxy, q⟩, fun q => q.2⟩
    · rw [if_neg (fun q => hxy (toList_inj q)), decide_eq_false]
      intro q
      injection q with q1 q2
      exact hxy q1
theorem rsame_f (X Y : List ByteArray) (hb : X.length ≤ 140737488355328) (k : Nat) : tumblerref03_SameTexts.f (X.length + k + 1) X Y = some (decide (X = Y)) := by
  unfold tumblerref03_SameTexts.f
  by_cases hl : X.length = Y.length
  · rw [if_pos (by omega)]
    have := rsame_l0 X Y hl hb X.length 0 k (by omega)
    rwa [List.drop_zero, List.drop_zero] at this
  · rw [if_neg (by omega), decide_eq_false]
    intro q
    exact hl (by rw [q])
theorem rhas_l0 (s : ByteArray) (c : UInt8) (hs : s.size ≤ 140737488355328) : ∀ (n i k : Nat), i + n = s.size → tumblerref03_has.l0 (n + k + 1) s (c.toNat : Int) (i : Int) = some ((s.data.toList.drop i).contains c) := by
  intro n
  induction n with
  | zero =>
    intro i k h
    rw [show 0 + k + 1 = k + 1 by omega, tumblerref03_has.l0, if_neg (by omega), List.drop_eq_nil_of_le (by rw [size_data]; omega)]
    rfl
  | succ n ih =>
    intro i k h
    obtain ⟨d, hd⟩ := get_lt (s := s) (i := i) (by omega)
    rw [show n + 1 + k + 1 = (n + k + 1) + 1 by omega, tumblerref03_has.l0, if_pos (by omega), if_pos (by omega), bt_get hd, drop_cons hd, List.contains_cons]
    by_cases h1 : d = c
    · rw [if_pos (by rw [h1]), show (c == d) = true by rw [h1]; exact beq_self_eq_true c]
      rfl
    · rw [if_neg (fun q => h1 ((eq_byte d c).1 q)), show (c == d) = false from beq_eq_false_iff_ne.2 (fun q => h1 q.symm), Bool.false_or, wrap_add1 (by omega) hs, ih (i + 1) k (by omega)]
/-! ### The contracts. -/
theorem ref_Sort (c : UInt8) (w : World) : Calls Tryd.prog 78 #[.int .u8 (c.toNat : Int)] w fun e w' => e = .returned (.int .i64 (sortB c : Int)) ∧ Drawn0 w w' := tumblerref03_Sort.calls 2 _ _ w (rsort_f c 0)
theorem ref_Byte (c : UInt8) (w : World) : Calls Tryd.prog 46 #[.int .u8 (c.toNat : Int)] w fun e w' => e = .returned (.bool (nb c)) ∧ Drawn0 w w' := tumblerref03_Byte.calls 2 _ _ w (rbyte_f c 0)
theorem ref_classByte (c : UInt8) (w : World) : Calls Tryd.prog 96 #[.int .u8 (c.toNat : Int)] w fun e w' => e = .returned (.bool (cb c)) ∧ Drawn0 w w' := tumblerref03_classByte.calls 2 _ _ w (rcb_f c 0)
theorem ref_Bytes (s : ByteArray) (hs : s.size ≤ 140737488355328) (w : World) : Calls Tryd.prog 23 #[.string s] w fun e w' => e = .returned (.bool (bytesP s.data.toList)) ∧ Drawn0 w w' := tumblerref03_Bytes.calls (s.size + 0 + 3) _ _ w (rbytes_f s hs 0)
theorem ref_has (s : ByteArray) (c : UInt8) (hs : s.size ≤ 140737488355328) (w : World) : Calls Tryd.prog 97 #[.string s, .int .u8 (c.toNat : Int)] w fun e w' => e = .returned (.bool (s.data.toList.contains c)) ∧ Drawn0 w w' :=
  tumblerref03_has.calls (s.size + 0 + 1) _ _ _ w (rhas_l0 s c hs s.size 0 0 (by omega))
theorem ref_Valid (s : ByteArray) (hs : s.size ≤ 1073741824) (w : World) : Calls Tryd.prog 29 #[.string s] w fun e w' => e = .returned (.bool (validP s.data.toList)) ∧ Below w.heap.size w w' := tumblerref03_Valid.calls (2 * s.size + 0 + 10) _ _ w (rvalid_f s hs 0)
theorem ref_Nodes (s : ByteArray) (hs : s.size ≤ 1073741824) (w : World) : Calls Tryd.prog 26 #[.string s] w fun e w' => ∃ v, e = .returned v ∧ OwnS w' w.heap.size v (nodesB s) ∧ Below w.heap.size w w' := tumblerref03_Nodes.calls (2 * s.size + 0 + 10) _ _ w (rnodes_f s hs 0)
theorem ref_Node (s : ByteArray) (i : Int) (hs : s.size ≤ 1073741824) (hi : (Lit.int .i64 i).wf = true) (w : World) :
    Calls Tryd.prog 28 #[.string s, .int .i64 i] w fun e w' => e = .returned (.tuple #[.string (nodeB (nodesB s) i).1, .bool (nodeB (nodesB s) i).2]) ∧ Below w.heap.size w w' := tumblerref03_Node.calls (2 * s.size + 0 + 10) _ _ _ _ w (rnode_f s i hs hi 0)
theorem ref_SameTexts {w : World} {A B : Option Addr} {c d : Nat} {X Y : List ByteArray} (hX : Kd.string.C w A X.length X) (hc : X.length ≤ c) (hY : Kd.string.C w B Y.length Y) (hd : Y.length ≤ d) (hb : X.length ≤ 140737488355328) :
    Calls Tryd.prog 24 #[.slice A X.length c, .slice B Y.length d] w fun e w' => e = .returned (.bool (decide (X = Y))) ∧ Drawn0 w w' :=
  tumblerref03_SameTexts.calls (X.length + 0 + 1) A c X B d Y _ w hX hc hY hd (rsame_f X Y hb 0)
end Go.Proofs.YtecfmmalbehcnaaDoor.Q
