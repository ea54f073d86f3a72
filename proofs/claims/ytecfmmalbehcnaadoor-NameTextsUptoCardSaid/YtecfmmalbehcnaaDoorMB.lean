/- Contracts and plain laws that this claim wants, laid in one text; under no condition beyond those that each theorem states. -/
import Derived.Test.YtecfmmalbehcnaaDoorMA
import Derived.Shelf.Strings.Split
import Derived.Test.YtecfmmalbehcnaaDoorProg
import Derived.Test.YtecfmmalbehcnaaDoorTx
import Derived.Shelf.Strconv.Clone
import Derived.Shelf.SlicesE.IndexFunc
import Derived.Test.YtecfmmalbehcnaaDoorVObj
import Derived.Test.YtecfmmalbehcnaaDoorVOpen
import Derived.WalkSpells
import Derived.StillTailTactics
/- strings.Split at the point: what it hands back. -/
namespace Go.Proofs.YtecfmmalbehcnaaDoor.Q
open Go.Shelf Go.RowKit Go.Proofs Go.Proofs.YtecfmmalbehcnaaDoorW.PrintWords Go.Proofs.YtecfmmalbehcnaaDoorW.PrintLast Go.Proofs.YtecfmmalbehcnaaDoorW.PrintMore Go.Proofs.YtecfmmalbehcnaaDoorV
set_option linter.unusedVariables false
set_option linter.unusedSimpArgs false

def lays146_ren : Go.Shelf.Ren := ⟨fun | 146 => 42 | 221 => 76 | 268 => 99 | 138 => 100 | 143 => 101 | 195 => 109 | 197 => 50 | 218 => 110 | 219 => 111 | 260 => 81 | 217 => 95 | 225 => 114 | 224 => 115 | 267 => 116 | 266 => 108 | 314 => 117 | n => n, fun | 9 => 9 | 31 => 34 | 3 => 3 | 4 => 4 | 0 => 0 | 105 => 66 | 21 => 21 | 5 => 5 | 46 => 104 | 119 => 111 | 139 => 114 | 138 => 113 | 146 => 123 | 51 => 122 | n => n, fun | 1 => 2 | 3 => 0 | 4 => 1 | n => n⟩
theorem lays146 : Go.Proofs.Lays.n146 Tryd.prog lays146_ren where
  mixed := by kernel_rfl
  f138 := Tryd.func100.trans (congrArg some (by kernel_rfl))
  f143 := Tryd.func101.trans (congrArg some (by kernel_rfl))
  f146 := Tryd.func42.trans (congrArg some (by kernel_rfl))
  f195 := Tryd.func109.trans (congrArg some (by kernel_rfl))
  f197 := Tryd.func50.trans (congrArg some (by kernel_rfl))
  f217 := Tryd.func95.trans (congrArg some (by kernel_rfl))
  f218 := Tryd.func110.trans (congrArg some (by kernel_rfl))
  f219 := Tryd.func111.trans (congrArg some (by kernel_rfl))
  f221 := Tryd.func76.trans (congrArg some (by kernel_rfl))
  f224 := Tryd.func115.trans (congrArg some (by kernel_rfl))
  f225 := Tryd.func114.trans (congrArg some (by kernel_rfl))
  f260 := Tryd.func81.trans (congrArg some (by kernel_rfl))
  f266 := Tryd.func108.trans (congrArg some (by kernel_rfl))
  f267 := Tryd.func116.trans (congrArg some (by kernel_rfl))
  f268 := Tryd.func99.trans (congrArg some (by kernel_rfl))
  f314 := Tryd.func117.trans (congrArg some (by kernel_rfl))
  t0 := Tryd.underlying0
  a0 := Tryd.isAgg0
  z0 := Tryd.sizeOf0
  v0 := Tryd.zeroValue0
  t3 := Tryd.underlying3
  a3 := Tryd.isAgg3
  z3 := Tryd.sizeOf3
  v3 := Tryd.zeroValue3
  t4 := Tryd.underlying4
  a4 := Tryd.isAgg4
  z4 := Tryd.sizeOf4
  v4 := Tryd.zeroValue4
  t5 := Tryd.underlying5
  a5 := Tryd.isAgg5
  z5 := Tryd.sizeOf5
  v5 := Tryd.zeroValue5
  t9 := Tryd.underlying9
  a9 := Tryd.isAgg9
  z9 := Tryd.sizeOf9
  v9 := Tryd.zeroValue9
  t21 := Tryd.underlying21
  a21 := Tryd.isAgg21
  z21 := Tryd.sizeOf21
  v21 := Tryd.zeroValue21
  t31 := Tryd.underlying34
  a31 := Tryd.isAgg34
  z31 := Tryd.sizeOf34
  v31 := Tryd.zeroValue34
  t46 := Tryd.underlying104
  a46 := Tryd.isAgg104
  z46 := Tryd.sizeOf104
  v46 := Tryd.zeroValue104
  t51 := Tryd.underlying122
  a51 := Tryd.isAgg122
  z51 := Tryd.sizeOf122
  v51 := Tryd.zeroValue122
  t105 := Tryd.underlying66
  a105 := Tryd.isAgg66
  z105 := Tryd.sizeOf66
  v105 := Tryd.zeroValue66
  t119 := Tryd.underlying111
  a119 := Tryd.isAgg111
  z119 := Tryd.sizeOf111
  t138 := Tryd.underlying113
  a138 := Tryd.isAgg113
  z138 := Tryd.sizeOf113
  v138 := Tryd.zeroValue113
  t139 := Tryd.underlying114
  a139 := Tryd.isAgg114
  z139 := Tryd.sizeOf114
  v139 := Tryd.zeroValue114
  t146 := Tryd.underlying123
  a146 := Tryd.isAgg123
  z146 := Tryd.sizeOf123
  v146 := Tryd.zeroValue123
  g1 := by kernel_rfl
  g3 := by kernel_rfl
  g4 := by kernel_rfl

/-- A text of bytes. -/
def strB (l : List UInt8) : ByteArray := ⟨l.toArray⟩
theorem strB_data (l : List UInt8) : (strB l).data.toList = l := rfl
theorem strB_size (l : List UInt8) : (strB l).size = l.length := by simp [strB, ByteArray.size]
theorem data_strB (s : ByteArray) : strB s.data.toList = s := by
  unfold strB
  rw [Array.toArray_toList]
theorem strB_inj {a b : List UInt8} : strB a = strB b ↔ a = b := ⟨fun h => by have := congrArg (fun s : ByteArray => s.data.toList) h; exact this, fun h => by rw [h]⟩
theorem size_data (s : ByteArray) : s.data.toList.length = s.size := Array.length_toList

theorem splitK_cut : ∀ (s : List UInt8) (k : Nat), s.count 46 ≤ k → Lib.splitK [46] 0 k s = cutP s := by
  intro s
  induction h : s.length using Nat.strongRecOn generalizing s with
  | ind n ih =>
    intro k hk
    subst h
    have hidx : Lib.index s [46] = Lib.indexByte s 46 := Lib.index_one s 46
    by_cases hm : Lib.indexByte s 46 = -1
    · have hno : ∀ x ∈ s, x ≠ 46 := by
        intro x hx e
        obtain ⟨i, hi⟩ := List.mem_iff_getElem?.1 hx
        rw [e] at hi
        exact Lib.indexByte_none hm i hi
      rw [cut_nodot s hno]
      cases k with
      | zero => rfl
      | succ k =>
        unfold Lib.splitK
        rw [hidx, hm]
        rfl
    · have hge := Lib.indexByte_ge s 46
      obtain ⟨o, ho⟩ : ∃ o : Nat, Lib.indexByte s 46 = o := ⟨(Lib.indexByte s 46).toNat, by omega⟩
      obtain ⟨h1, h2⟩ := Lib.indexByte_some ho
      obtain ⟨hlt, he⟩ := List.getElem?_eq_some_iff.1 h1
      have hs : s = s.take o ++ 46 :: s.drop (o + 1) := by
        have := List.take_append_drop o s
        rw [List.drop_eq_getElem_cons hlt, he] at this
        exact this.symm
      have hno : ∀ x ∈ s.take o, x ≠ 46 := by
        intro x hx e
        obtain ⟨i, hi⟩ := List.mem_iff_getElem?.1 hx
        have hil : i < o := by
          have := (List.getElem?_eq_some_iff.1 hi).1
          rw [List.length_take] at this
          omega
        rw [List.getElem?_take_of_lt hil, e] at hi
        exact h2 i hil hi
      have hcount : s.count 46 = (s.drop (o + 1)).count 46 + 1 := by
        have hc0 : (s.take o).count 46 = 0 := List.count_eq_zero.2 (fun hx => hno 46 hx rfl)
        have e1 : s.count 46 = (s.take o ++ 46 :: s.drop (o + 1)).count 46 := congrArg (List.count 46) hs
        rw [e1, List.count_append, hc0, List.count_cons_self, Nat.zero_add]
      have hcut : cutP s = s.take o :: cutP (s.drop (o + 1)) := by
        have := cut_app (s.take o) (s.drop (o + 1)) hno
        rwa [← hs] at this
      rw [hcut]
      cases k with
      | zero => omega
      | succ k =>
        unfold Lib.splitK
        rw [hidx, ho, if_neg (by rw [beq_iff_eq]; omega)]
        have := ih (s.drop (o + 1)).length (by rw [List.length_drop]; omega) _ rfl k (by omega)
        rw [Int.toNat_natCast, Nat.add_zero]
        show s.take o :: Lib.splitK [46] 0 k (s.drop (o + 1)) = _
        rw [this]
/-- The pieces between points. -/
def splitS (s : ByteArray) : List ByteArray := (cutP s.data.toList).map strB
theorem splitB_cut (s : ByteArray) (k : Nat) (h : s.data.toList.count 46 ≤ k) : Lib.splitB ⟨#[46]⟩ 0 k s = splitS s := by
  have h1 := Lib.splitB_data ⟨#[46]⟩ 0 k s
  rw [show (⟨#[46]⟩ : ByteArray).data.toList = [46] from rfl, splitK_cut _ _ h] at h1
  unfold splitS
  rw [← h1, List.map_map]
  have : strB ∘ (fun x : ByteArray => x.data.toList) = id := by
    funext x
    exact data_strB x
  rw [this, List.map_id]
theorem cutP_length : ∀ s : List UInt8, (cutP s).length ≤ s.length + 1 := by
  intro s
  induction s with
  | nil => exact Nat.le_refl _
  | cons c t ih =>
    by_cases h : c = 46
    · rw [h, cutP_dot]
      simp only [List.length_cons]
      omega
    · obtain ⟨a, u, h1, h2⟩ := cutP_cons (t := t) h
      rw [h1] at ih
      rw [h2]
      simp only [List.length_cons] at ih ⊢
      omega
theorem splitS_length (s : ByteArray) : (splitS s).length ≤ s.size + 1 := by
  unfold splitS
  rw [List.length_map, ← size_data]
  exact cutP_length _
theorem split_ends (s : ByteArray) (w : World) (hs : s.size < 4294967281) :
    Calls Tryd.prog 76 #[.string s, .string ⟨#[46]⟩, .int .i64 0, .int .i64 (-1)] w fun e w' =>
      e = .returned (.slice (some ⟨w.heap.size, 0, none⟩) (splitS s).length (splitS s).length) ∧ w' = w.alloc (.cells ((splitS s).map Value.string).toArray 9) := by
  have hc1 : Lib.countB s ⟨#[46]⟩ = s.data.toList.count 46 := Lib.count_one 46 s.data.toList
  have hle := Lib.countB_le ⟨#[46]⟩ (by decide) s.size s (Nat.le_refl _)
  have c := Any.strings_genSplit_core (P := Tryd.prog) (ρ := lays146_ren) { lays146 with } (by kernel_rfl) s ⟨#[46]⟩ 0 (-1) (Lib.countB s ⟨#[46]⟩ + 1) w hs (by decide) (by decide)
    (fun x cs hx => by
      refine (Any.strings_Index_one { lays146 with } x 46 _).mono ?_
      rintro e w' ⟨rfl, rfl⟩
      exact ⟨congrArg (fun z => Ending.returned (Value.int .i64 z)) (Lib.index_one x.data.toList 46).symm, rfl⟩)
    (by
      refine (Any.strings_Count_one { lays146 with } s 46 w).mono ?_
      rintro e w' ⟨rfl, rfl⟩
      exact ⟨congrArg (fun z : Nat => Ending.returned (Value.int .i64 z)) hc1.symm, rfl⟩)
    (by decide) (by decide) (by rw [if_pos (by decide)]; omega)
  rw [Nat.add_sub_cancel, splitB_cut s _ (by omega)] at c
  have hl : (splitS s).length = Lib.countB s ⟨#[46]⟩ + 1 := by
    have := Lib.splitB_all ⟨#[46]⟩ (by decide) 0 _ s rfl
    rwa [splitB_cut s _ (by omega)] at this
  rw [← hl, Lib.cellsOf_full] at c
  exact c
theorem encs_string (l : List ByteArray) : encs Value.string l = l.map Value.string := rfl
set_option maxHeartbeats 1000000 in
/-- strings.Split at the point. -/
theorem split_exact (s : ByteArray) (w : World) (hs : s.size < 4294967281) :
    Calls Tryd.prog 42 #[.string s, .string ⟨#[46]⟩] w fun e w' => e = .returned (.slice (some ⟨w.heap.size, 0, none⟩) (splitS s).length (splitS s).length) ∧ w' = w.alloc (.cells ((splitS s).map Value.string).toArray 9) := by
  have c := split_ends s w hs
  go_enter Tryd.func42, Tryd.ntmps42
  go_wp2_with (go_at_call 76; refine c.mono ?_; rintro e w' ⟨rfl, rfl⟩)
  go_ret
  exact ⟨rfl, rfl⟩
theorem own_split (s : ByteArray) (w : World) (hs : s.size < 4294967281) : Kd.R Kd.string 9 (w.alloc (.cells ((splitS s).map Value.string).toArray 9)) w.heap.size (fun _ => True) (.slice (some ⟨w.heap.size, 0, none⟩) (splitS s).length (splitS s).length) (splitS s) := by
  refine Kd.R_of_own ?_ (fun _ _ => trivial)
  refine ⟨by simp [encs], .inr ⟨w.heap.size, (splitS s).length, ((splitS s).map Value.string).toArray, rfl, Nat.le_refl _, heap_alloc_new w _, ?_⟩⟩
  refine ⟨Nat.le_refl _, ?_, by simp, ?_⟩
  · have := splitS_length s
    simp only [maxLen]
    omega
  · rw [Nat.mul_one, List.take_of_length_le (by simp)]
    rfl
theorem split_calls (s : ByteArray) (w : World) (hs : s.size < 4294967281) :
    Calls Tryd.prog 42 #[.string s, .string ⟨#[46]⟩] w fun e w' => ∃ v, e = .returned v ∧ Kd.R Kd.string 9 w' w.heap.size (fun _ => True) v (splitS s) ∧ Below w.heap.size w w' := by
  refine (split_exact s w hs).mono ?_
  rintro e w' ⟨rfl, rfl⟩
  exact ⟨_, rfl, own_split s w hs, below_alloc (Below.refl _ _) _⟩
theorem cell_split (s : ByteArray) (w : World) (j : Nat) (x : ByteArray) (h : (splitS s)[j]? = some x) : (w.alloc (.cells ((splitS s).map Value.string).toArray 9)).cell? ⟨w.heap.size, 0 + j, none⟩ = some (.string x) := by
  refine (blk_cell (heap_alloc_new w _) (0 + j)).trans ?_
  rw [Nat.zero_add]
  simp [h]
end Go.Proofs.YtecfmmalbehcnaaDoor.Q

/- Bytes: sort, namely, bytes, by the printed functions' closed forms. -/
namespace Go.Proofs.YtecfmmalbehcnaaDoor.Q
open Go.Shelf Go.RowKit Go.Proofs Go.Proofs.YtecfmmalbehcnaaDoorW.PrintWords Go.Proofs.YtecfmmalbehcnaaDoorW.PrintLast Go.Proofs.YtecfmmalbehcnaaDoorW.PrintMore Go.Proofs.YtecfmmalbehcnaaDoorV Go.Proofs.YtecfmmalbehcnaaDoor.T
set_option linter.unusedVariables false
set_option linter.unusedSimpArgs false

theorem sort_f (c : UInt8) (k : Nat) : name_sort.f (k + 2) (c.toNat : Int) = some (sortB c : Int) := by
  have hc := c.toNat_lt
  unfold name_sort.f sortB
  simp only [name_sort.j0, name_sort.j1, decide_eq_true_eq]
  (repeat' split) <;> first | rfl | (exfalso; omega) | (exfalso; simp_all; done) | (exfalso; simp_all; omega)
theorem eq_byte (c d : UInt8) : ((c.toNat : Int) = (d.toNat : Int)) ↔ c = d := by
  constructor
  · intro h
    exact UInt8.toNat_inj.1 (by omega)
  · rintro rfl; rfl
theorem namely_f (c : UInt8) (k : Nat) : name_namely.f (k + 2) (c.toNat : Int) = some (nb c) := by
  unfold name_namely.f
  rw [sort_f]
  simp only [Option.bind_some]
  unfold nb cb
  by_cases h1 : 0 < sortB c
  · rw [if_pos (by omega), decide_eq_true h1]; rfl
  · rw [if_neg (by omega), decide_eq_false h1]
    have e95 : (c.toNat : Int) = 95 ↔ c = 95 := eq_byte c 95
    have e45 : (c.toNat : Int) = 45 ↔ c = 45 := eq_byte c 45
    by_cases h2 : c = 95
    · rw [if_pos (e95.2 h2), show (c == 95) = true from beq_iff_eq.2 h2]; rfl
    · rw [if_neg (fun q => h2 (e95.1 q)), show (c == 95) = false from beq_eq_false_iff_ne.2 h2]
      by_cases h3 : c = 45
      · rw [show (c == 45) = true from beq_iff_eq.2 h3, show ((c.toNat : Int) == 45) = true from beq_iff_eq.2 (e45.2 h3)]; rfl
      · rw [show (c == 45) = false from beq_eq_false_iff_ne.2 h3, show ((c.toNat : Int) == 45) = false from beq_eq_false_iff_ne.2 (fun q => h3 (e45.1 q))]; rfl
/-- The byte at a place. -/
theorem bt_get {s : ByteArray} {i : Nat} {c : UInt8} (h : s.data.toList[i]? = some c) : bt s (i : Int) = c.toNat := by
  have hlt := (List.getElem?_eq_some_iff.1 h).1
  rw [size_data] at hlt
  unfold bt
  rw [Int.toNat_natCast, dif_pos hlt]
  have : s[i] = c := by
    rw [List.getElem?_eq_some_iff] at h
    obtain ⟨h1, h2⟩ := h
    rw [← h2]
    rfl
  rw [this]
theorem get_lt {s : ByteArray} {i : Nat} (h : i < s.size) : ∃ c, s.data.toList[i]? = some c := ⟨_, List.getElem?_eq_getElem (by rw [size_data]; exact h)⟩
theorem wrap_add1 {i n : Nat} (h : i < n) (hn : n ≤ 140737488355328) : wrap64 ((i : Int) + 1) = ((i + 1 : Nat) : Int) := by unfold wrap64; omega
theorem bytes_l0 (s : ByteArray) (hs : s.size ≤ 140737488355328) : ∀ (n i k : Nat), i + n = s.size → name_bytes.l0 (n + k + 3) s (s.size : Int) (i : Int) = some (bytesP (s.data.toList.drop i)) := by
  intro n
  induction n with
  | zero =>
    intro i k h
    rw [name_bytes.l0, if_neg (by omega), List.drop_eq_nil_of_le (by rw [size_data]; omega)]
    rfl
  | succ n ih =>
    intro i k h
    obtain ⟨c, hc⟩ := get_lt (s := s) (i := i) (by omega)
    have hd : s.data.toList.drop i = c :: s.data.toList.drop (i + 1) := by
      obtain ⟨h1, h2⟩ := List.getElem?_eq_some_iff.1 hc
      rw [List.drop_eq_getElem_cons h1, h2]
    rw [show n + 1 + k + 3 = (n + k + 3) + 1 by omega, name_bytes.l0, if_pos (by omega), if_pos (by omega), if_pos (by omega), bt_get hc, show n + k + 3 = (n + k + 1) + 2 by omega, namely_f, Option.bind_some]
    rw [hd, show bytesP (c :: s.data.toList.drop (i + 1)) = (nb c && bytesP (s.data.toList.drop (i + 1))) from rfl]
    cases hn : nb c with
    | false => rw [if_neg (by decide)]; rfl
    | true =>
      rw [if_pos rfl, wrap_add1 (by omega) hs, show n + k + 1 + 2 = n + k + 3 by omega, ih (i + 1) k (by omega)]
      rfl
theorem bytes_f (s : ByteArray) (hs : s.size ≤ 140737488355328) (k : Nat) : name_bytes.f (s.size + k + 3) s = some (bytesP s.data.toList) := by
  unfold name_bytes.f
  exact bytes_l0 s hs s.size 0 k (by omega)
theorem sort_calls (c : UInt8) (w : World) : Calls Tryd.prog 83 #[.int .u8 (c.toNat : Int)] w fun e w' => e = .returned (.int .i64 (sortB c : Int)) ∧ Drawn0 w w' := name_sort.calls 2 _ _ w (sort_f c 0)
theorem namely_calls (c : UInt8) (w : World) : Calls Tryd.prog 53 #[.int .u8 (c.toNat : Int)] w fun e w' => e = .returned (.bool (nb c)) ∧ Drawn0 w w' := name_namely.calls 2 _ _ w (namely_f c 0)
theorem bytes_calls (s : ByteArray) (hs : s.size ≤ 140737488355328) (w : World) : Calls Tryd.prog 45 #[.string s] w fun e w' => e = .returned (.bool (bytesP s.data.toList)) ∧ Drawn0 w w' := name_bytes.calls (s.size + 0 + 3) _ _ w (bytes_f s hs 0)
end Go.Proofs.YtecfmmalbehcnaaDoor.Q

/- strings.Clone; the names: Valid. -/
namespace Go.Proofs.YtecfmmalbehcnaaDoor.Q
open Go.Shelf Go.RowKit Go.Proofs Go.Proofs.YtecfmmalbehcnaaDoorW.PrintWords Go.Proofs.YtecfmmalbehcnaaDoorW.PrintLast Go.Proofs.YtecfmmalbehcnaaDoorW.PrintMore Go.Proofs.YtecfmmalbehcnaaDoorV
set_option linter.unusedVariables false
set_option linter.unusedSimpArgs false

def lays316_ren : Go.Shelf.Ren := ⟨fun | 316 => 113 | n => n, fun | 9 => 9 | 3 => 3 | 4 => 4 | 37 => 63 | 0 => 0 | 127 => 101 | 5 => 5 | n => n, fun | n => n⟩
theorem lays316 : Go.Proofs.LaysM.n316 Tryd.prog lays316_ren where
  mixed := by kernel_rfl
  f316 := Tryd.func113.trans (congrArg some (by kernel_rfl))
  t0 := Tryd.underlying0
  a0 := Tryd.isAgg0
  z0 := Tryd.sizeOf0
  v0 := Tryd.zeroValue0
  t3 := Tryd.underlying3
  a3 := Tryd.isAgg3
  z3 := Tryd.sizeOf3
  v3 := Tryd.zeroValue3
  t4 := Tryd.underlying4
  a4 := Tryd.isAgg4
  z4 := Tryd.sizeOf4
  v4 := Tryd.zeroValue4
  t9 := Tryd.underlying9
  a9 := Tryd.isAgg9
  z9 := Tryd.sizeOf9
  v9 := Tryd.zeroValue9
  t37 := Tryd.underlying63
  a37 := Tryd.isAgg63
  z37 := Tryd.sizeOf63
  v37 := Tryd.zeroValue63
  t127 := Tryd.underlying101
  a127 := Tryd.isAgg101
  z127 := Tryd.sizeOf101
  v127 := Tryd.zeroValue101
  t5 := Tryd.underlying5
  a5 := Tryd.isAgg5
  z5 := Tryd.sizeOf5
  v5 := Tryd.zeroValue5
  i0 := by kernel_rfl
  i3 := by kernel_rfl
  i4 := by kernel_rfl
  i5 := by kernel_rfl
  i9 := by kernel_rfl
  i37 := by kernel_rfl
  i127 := by kernel_rfl
def lays43_ren : Go.Shelf.Ren := ⟨fun | 8 => 43 | 6 => 77 | n => n, fun | 22 => 34 | 23 => 9 | 25 => 32 | 4 => 4 | 3 => 3 | 0 => 0 | n => n, fun | n => n⟩
theorem lays43 : Go.Proofs.SlLaysH.n8 Tryd.prog lays43_ren where
  mixed := by kernel_rfl
  f6 := ⟨ "slices.IndexFunc[[]string,string]", by decide, Tryd.func77.trans (congrArg some (by kernel_rfl))⟩
  f8 := ⟨ "slices.ContainsFunc[[]string,string]", by decide, Tryd.func43.trans (congrArg some (by kernel_rfl))⟩
  t0 := Tryd.underlying0
  a0 := Tryd.isAgg0
  z0 := Tryd.sizeOf0
  v0 := Tryd.zeroValue0
  t3 := Tryd.underlying3
  a3 := Tryd.isAgg3
  z3 := Tryd.sizeOf3
  v3 := Tryd.zeroValue3
  t4 := Tryd.underlying4
  a4 := Tryd.isAgg4
  z4 := Tryd.sizeOf4
  v4 := Tryd.zeroValue4
  t22 := Tryd.underlying34
  a22 := Tryd.isAgg34
  z22 := Tryd.sizeOf34
  v22 := Tryd.zeroValue34
  a23 := Tryd.isAgg9
  z23 := Tryd.sizeOf9
  t25 := Tryd.underlying32
  a25 := Tryd.isAgg32
  z25 := Tryd.sizeOf32
  v25 := Tryd.zeroValue32

theorem clone_calls (s : ByteArray) (hs : s.size ≤ 140737488355328) (w : World) : Calls Tryd.prog 106 #[.string s] w fun e w' => e = .returned (.string s) ∧ Below w.heap.size w w' := by
  have c := fun w => Any.stringslite_Clone lays316 s w (by omega)
  go_enter Tryd.func106, Tryd.ntmps106
  go_wp2_with (go_at_call 113; refine (c _).mono ?_; rintro e w' ⟨rfl, hb⟩)
  go_ret
  exact ⟨rfl, hb⟩
/-- The closure of Valid: no node. -/
def badS (s : ByteArray) : Bool := !nodeP s.data.toList
theorem empty_iff (s : ByteArray) : (s.toList == ([] : List UInt8)) = s.data.toList.isEmpty := by
  rw [Lib.toList_data]
  cases s.data.toList <;> rfl
theorem valid1_at (s : ByteArray) (hs : s.size ≤ 140737488355328) (w : World) : Calls Tryd.prog 44 #[.string s] w fun e w' => e = .returned (.bool (badS s)) ∧ ∃ q, w' = w.drewN q := by
  have c := fun w => bytes_calls s hs w
  have e1 := empty_iff s
  have HS := Aside0.mk (show badS s = (if s.data.toList.isEmpty = true then true else !bytesP s.data.toList) by
    unfold badS nodeP
    cases s.data.toList.isEmpty <;> simp)
  cases he : s.data.toList.isEmpty with
  | true =>
    rw [he] at e1 HS
    go_enter Tryd.func44, Tryd.ntmps44
    go_wp2
    go_ret
    rw [HS.out]
    exact ⟨rfl, 0, rfl⟩
  | false =>
    rw [he] at e1 HS
    go_enter Tryd.func44, Tryd.ntmps44
    go_wp2_with (go_at_call 45; refine (c _).mono ?_; rintro e w' ⟨rfl, ⟨nd, rfl⟩⟩)
    go_ret
    rw [HS.out]
    exact ⟨rfl, _, rfl⟩
/-- A text that is not too long. -/
abbrev Short := { s : ByteArray // s.size ≤ 140737488355328 }
instance : Inhabited Short := ⟨⟨⟨#[]⟩, by decide⟩⟩
def encS (x : Short) : Value := .string x.1
theorem valid1_pred (w : World) : PredAt Tryd.prog 44 #[] encS (fun x => badS x.1) w := fun W x _ => valid1_at x.1 x.2 W
/-- A list of short texts. -/
def shorts (l : List ByteArray) (h : ∀ x ∈ l, x.size ≤ 140737488355328) : List Short := l.pmap Subtype.mk h
theorem shorts_map {l : List ByteArray} (h : ∀ x ∈ l, x.size ≤ 140737488355328) : (shorts l h).map (·.1) = l := by
  unfold shorts
  rw [List.map_pmap]
  simp
theorem shorts_length {l : List ByteArray} (h : ∀ x ∈ l, x.size ≤ 140737488355328) : (shorts l h).length = l.length := by simp [shorts]
theorem shorts_get {l : List ByteArray} (h : ∀ x ∈ l, x.size ≤ 140737488355328) {j : Nat} (hj : j < (shorts l h).length) : l[j]? = some ((shorts l h)[j]!).1 := by
  have e := congrArg (fun m => m[j]?) (shorts_map h)
  rw [List.getElem?_map, List.getElem?_eq_getElem hj] at e
  rw [← e, getElem!_pos (shorts l h) j hj]
  rfl
theorem any_shorts {l : List ByteArray} (h : ∀ x ∈ l, x.size ≤ 140737488355328) (p : ByteArray → Bool) : (shorts l h).any (fun x => p x.1) = l.any p := by
  have e := congrArg (fun m => m.any p) (shorts_map h)
  rw [List.any_map] at e
  exact e
theorem joinR_length_mem : ∀ (l : List (List UInt8)) (sep : UInt8), ∀ a ∈ l, a.length ≤ (joinR sep l).length := by
  intro l
  induction l with
  | nil => intro sep a ha; cases ha
  | cons b t ih =>
    intro sep a ha
    cases t with
    | nil =>
      rw [List.mem_singleton.1 ha]
      exact Nat.le_refl _
    | cons c u =>
      rw [joinR_cons, List.length_append, List.length_cons]
      rcases List.mem_cons.1 ha with rfl | ha
      · omega
      · have := ih sep a ha
        omega
theorem splitS_size {s : ByteArray} : ∀ x ∈ splitS s, x.size ≤ s.size := by
  intro x hx
  obtain ⟨a, ha, rfl⟩ := List.mem_map.1 hx
  have := joinR_length_mem _ 46 a ha
  rw [join_cut, size_data] at this
  rw [strB_size]
  exact this
theorem any_bad (s : ByteArray) : (splitS s).any badS = !(cutP s.data.toList).all nodeP := by
  unfold splitS
  rw [List.any_map, List.all_eq_not_any_not, Bool.not_not]
  rfl
set_option maxHeartbeats 1600000 in
/-- What is a name. -/
theorem valid_calls (s : ByteArray) (hs : s.size ≤ 1073741824) (w : World) :
    Calls Tryd.prog 22 #[.string s] w fun e w' => e = .returned (.bool (validP s.data.toList)) ∧ Below w.heap.size w w' := by
  have hmf : ∀ (fn : Fn) (first cap : Array Value) (w : World), (Instr.makeFunc fn first cap).run Tryd.prog w = .ok (.func fn first cap) w := fun _ _ _ _ => rfl
  have csplit := split_exact s w (by omega)
  have hsz : ∀ x ∈ splitS s, x.size ≤ 140737488355328 := fun x hx => by have := splitS_size x hx; omega
  have ccont := AnyE.slices_ContainsFunc lays43 encS (fun x => badS x.1) 44 #[] (enters_of Tryd.func44 (by kernel_rfl) rfl) w.heap.size 0 (splitS s).length (splitS s).length (shorts (splitS s) hsz)
    (w.alloc (.cells ((splitS s).map Value.string).toArray 9)) (valid1_pred _) (by rw [shorts_length]; exact Nat.le_refl _) (by have := splitS_length s; omega) (fun j hj => by
      have := shorts_get hsz hj
      exact cell_split s w j _ this)
  change Calls Tryd.prog 43 _ _ _ at ccont
  have hres : ((shorts (splitS s) hsz).take (splitS s).length).any (fun x => badS x.1) = !(cutP s.data.toList).all nodeP := by
    rw [List.take_of_length_le (by rw [shorts_length]; exact Nat.le_refl _), any_shorts, any_bad]
  rw [hres] at ccont
  clear hres hsz
  have HV := Aside0.mk (show validP s.data.toList = (decide (s.data.toList.length ≤ 200) && (decide ((cutP s.data.toList).length ≤ 16) && (cutP s.data.toList).all nodeP)) from rfl)
  have hl1 : (splitS s).length = (cutP s.data.toList).length := by unfold splitS; rw [List.length_map]
  have hl2 := size_data s
  have HB := Aside0.mk (below_alloc (Below.refl w.heap.size w) (.cells ((splitS s).map Value.string).toArray 9))
  by_cases h1 : s.size ≤ 200
  · have d1 : decide (200 < (s.size : Int)) = false := decide_eq_false (by omega)
    by_cases h2 : (splitS s).length ≤ 16
    · have d2 : decide (16 < ((splitS s).length : Int)) = false := decide_eq_false (by omega)
      have HV2 := Aside0.mk (show validP s.data.toList = (cutP s.data.toList).all nodeP by
        rw [HV.out, decide_eq_true (by omega), decide_eq_true (by omega)]
        rfl)
      clear HV h1 h2 hl1 hl2 hs
      generalize splitS s = L at csplit ccont d2 HB
      generalize (cutP s.data.toList).all nodeP = b at ccont HV2
      go_enter Tryd.func22, Tryd.ntmps22
      go_wp2_with (first
        | (go_at_call 42; refine csplit.mono ?_; rintro e w' ⟨rfl, rfl⟩)
        | (go_at_call 43; refine ccont.mono ?_; rintro e w' ⟨rfl, ⟨nd, rfl⟩⟩))
      go_ret
      rw [HV2.out]
      exact ⟨by simp, pw_below_drewN HB.out _⟩
    · have d2 : decide (16 < ((splitS s).length : Int)) = true := decide_eq_true (by omega)
      have HV2 := Aside0.mk (show validP s.data.toList = false by
        rw [HV.out, decide_eq_true (by omega), decide_eq_false (by omega)]
        rfl)
      clear HV h1 h2 hl1 hl2 hs ccont
      generalize splitS s = L at csplit d2 HB
      go_enter Tryd.func22, Tryd.ntmps22
      go_wp2_with (first
        | (go_at_call 42; refine csplit.mono ?_; rintro e w' ⟨rfl, rfl⟩))
      go_ret
      rw [HV2.out]
      exact ⟨rfl, HB.out⟩
  · have d1 : decide (200 < (s.size : Int)) = true := decide_eq_true (by omega)
    have HV2 := Aside0.mk (show validP s.data.toList = false by
      rw [HV.out, decide_eq_false (by omega)]
      rfl)
    clear HV h1 hl1 hl2 hs ccont
    generalize splitS s = L at csplit HB
    go_enter Tryd.func22, Tryd.ntmps22
    go_wp2_with (first
      | (go_at_call 42; refine csplit.mono ?_; rintro e w' ⟨rfl, rfl⟩))
    go_ret
    rw [HV2.out]
    exact ⟨rfl, HB.out⟩
end Go.Proofs.YtecfmmalbehcnaaDoor.Q

/- General words: rows that are kept, blocks that differ. -/
namespace Go.Proofs.YtecfmmalbehcnaaDoor.Q
open Go.RowKit Go.Proofs.YtecfmmalbehcnaaDoorW.PrintWords Go.Proofs.YtecfmmalbehcnaaDoorW.PrintLast Go.Proofs.YtecfmmalbehcnaaDoorW.PrintMore Go.Proofs.YtecfmmalbehcnaaDoorV
set_option linter.unusedVariables false
set_option linter.unusedSimpArgs false

theorem R_keep {α : Type} {enc : α → Value} {h1 : ∀ x, (enc x).oneCell' = true} {e : Nat} {w w' : World} {n : Nat} {ok : Nat → Prop} {v : Value} {xs : List α} {S : Nat → Prop}
    (h : (Kd.scalar enc h1).R e w n ok v xs) (hk : Keep w w' S) (hS : ∀ k, v.ownBlock = some k → ¬ S k) : (Kd.scalar enc h1).R e w' n ok v xs := by
  obtain ⟨inner, ho⟩ := Kd.R_own h
  exact R_tight h (fun k e => ⟨hk.block k (own_lt ho k e) (hS k e), h.1 k e, own_base ho k e⟩)
theorem grown_keep {w w' : World} {vt : Value} (hg : w.grownBy w' vt.ownBlock) : Keep w w' (fun k => some k = vt.ownBlock) := (Keep.refl w _).grown hg (fun k e => .inl e.symm)
theorem R_typed {α : Type} {enc : α → Value} {h1 : ∀ x, (enc x).oneCell' = true} {e : Nat} {w : World} {base : Nat} {ok : Nat → Prop} {v : Value} {xs : List α} (h : (Kd.scalar enc h1).R e w base ok v xs) : ∀ k, v.ownBlock = some k → ∃ cs fr, w.heap[k]? = some (.cells cs e fr) := by
  intro k hk
  have ho := Kd.own_of_R h
  obtain ⟨a1, a2⟩ := ho
  rcases a2 with ⟨rfl, _⟩ | ⟨g, cap, cur, rfl, _, r, _⟩
  · simp [Value.ownBlock] at hk
  · simp [Value.ownBlock] at hk
    subst hk
    exact ⟨_, _, r⟩
theorem ne_typed {w : World} {k g : Nat} {cs cs' : Array Value} {e e' : TypeId} {fr fr' : Nat × Nat} (h : w.heap[k]? = some (.cells cs e fr)) (h' : w.heap[g]? = some (.cells cs' e' fr')) (hne : e ≠ e') : k ≠ g := by
  rintro rfl
  have := h.symm.trans h'
  simp at this
  exact hne this.2.1
theorem keep_below0 {w w' : World} (hk : Keep w w' (fun _ => False)) : Below w.heap.size w w' := ⟨hk.os, hk.tape, hk.output, hk.size, fun k h => hk.block k h (fun h => h)⟩
theorem below_keep {w w' : World} (hb : Below w.heap.size w w') : Keep w w' (fun _ => False) := Keep.of_below hb
theorem keep_drew (w : World) : Keep w w.drew (fun _ => False) := (Keep.refl w _).drew
theorem keep_drewN (w : World) (n : Nat) : Keep w (w.drewN n) (fun _ => False) := (Keep.refl w _).drewN n
theorem cell_same {w w' : World} {a : Addr} (h : w'.heap[a.block]? = w.heap[a.block]?) : w'.cell? a = w.cell? a := by unfold World.cell?; rw [h]
end Go.Proofs.YtecfmmalbehcnaaDoor.Q

/- The reader of patterns: its small parts. -/
namespace Go.Proofs.YtecfmmalbehcnaaDoor.Q
open Go.Shelf Go.RowKit Go.Proofs Go.Proofs.YtecfmmalbehcnaaDoorW.PrintWords Go.Proofs.YtecfmmalbehcnaaDoorW.PrintLast Go.Proofs.YtecfmmalbehcnaaDoorW.PrintMore Go.Proofs.YtecfmmalbehcnaaDoorV
set_option linter.unusedVariables false
set_option linter.unusedSimpArgs false

/-- The reader's block: its text and where it stands. -/
def RdAt (w : World) (g : Nat) (s : ByteArray) (i : Nat) : Prop := w.heap[g]? = some (.cells #[.string s, .int .i64 (i : Int)] 77 (0, 0))
theorem RdAt.drewN {w : World} {g : Nat} {s : ByteArray} {i : Nat} (h : RdAt w g s i) (n : Nat) : RdAt (w.drewN n) g s i := h
theorem RdAt.keep {w w' : World} {g : Nat} {s : ByteArray} {i : Nat} {S : Nat → Prop} (h : RdAt w g s i) (hk : Keep w w' S) (hg : ¬ S g) : RdAt w' g s i := (hk.block g (Array.getElem?_eq_some_iff.1 h).1 hg).trans h
theorem RdAt.below {w w' : World} {g : Nat} {s : ByteArray} {i : Nat} (h : RdAt w g s i) (hb : Below w.heap.size w w') : RdAt w' g s i := (hb.block g (Array.getElem?_eq_some_iff.1 h).1).trans h
theorem RdAt.set {w : World} {g : Nat} {s : ByteArray} {i : Nat} (h : RdAt w g s i) (j : Nat) : RdAt (w.setCell ⟨g, 1, none⟩ (.int .i64 (j : Int))) g s j := by
  unfold RdAt at *
  simpa using blk_set h 1 (.int .i64 (j : Int))
/-- The fault that is thrown. -/
def faultV (i : Nat) (e : Int) : Value := .agg #[.int .i64 (i : Int), .int .i64 e]
def thrown (i : Nat) (e : Int) : Ending := .panicked [{ v := .iface 79 (faultV i e), recovered := false }]
theorem rd_stop {w : World} {g : Nat} {s : ByteArray} {i : Nat} (h : RdAt w g s i) (e : Int) :
    Calls Tryd.prog 62 #[.pointer (some ⟨g, 0, none⟩), .int .i64 e] w fun e1 w' => e1 = thrown i e ∧ w' = w := by
  have c1 : w.cell? ⟨g, 1, none⟩ = some (.int .i64 (i : Int)) := blk_cell h 1
  clear h
  go_enter Tryd.func62, Tryd.ntmps62
  go_wp2
  exact ⟨rfl, rfl, rfl⟩
theorem get_byte {s : ByteArray} {i : Nat} {c : UInt8} (h : s.data.toList[i]? = some c) : ∀ hi : i < s.size, s[i]'hi = c := by
  intro hi
  obtain ⟨h1, h2⟩ := List.getElem?_eq_some_iff.1 h
  rw [← h2]
  rfl
theorem rd_now {w : World} {g : Nat} {s : ByteArray} {i : Nat} (h : RdAt w g s i) {c : UInt8} (hc : s.data.toList[i]? = some c) :
    Calls Tryd.prog 86 #[.pointer (some ⟨g, 0, none⟩)] w fun e w' => e = .returned (.int .u8 (c.toNat : Int)) ∧ Drawn0 w w' := by
  have c0 : w.cell? ⟨g, 0, none⟩ = some (.string s) := blk_cell h 0
  have c1 : w.cell? ⟨g, 1, none⟩ = some (.int .i64 (i : Int)) := blk_cell h 1
  have hlt := (List.getElem?_eq_some_iff.1 hc).1
  rw [size_data] at hlt
  have d1 : ((i : Int) == (s.size : Int)) = false := beq_eq_false_iff_ne.2 (by omega)
  have p : (0 ≤ (i : Int)) = True := eq_true (by omega)
  have q : ((i : Int) < (s.size : Int)) = True := eq_true (by omega)
  have hx := get_byte hc
  clear h hlt hc
  go_enter Tryd.func86, Tryd.ntmps86
  go_wp2
  repeat (go_quiet (fail); try go_wp2)
  go_ret
  exact ⟨rfl, by repeat (first | exact Drawn0.refl _ | apply Drawn0.step)⟩
theorem rd_end {w : World} {g : Nat} {s : ByteArray} {i : Nat} (h : RdAt w g s i) (hi : i = s.size) :
    Calls Tryd.prog 86 #[.pointer (some ⟨g, 0, none⟩)] w fun e w' => e = thrown i 31 ∧ Drawn0 w w' := by
  have c0 : w.cell? ⟨g, 0, none⟩ = some (.string s) := blk_cell h 0
  have c1 : w.cell? ⟨g, 1, none⟩ = some (.int .i64 (i : Int)) := blk_cell h 1
  have d1 : ((i : Int) == (s.size : Int)) = true := beq_iff_eq.2 (by omega)
  have H := Aside0.mk h
  clear h hi
  go_enter Tryd.func86, Tryd.ntmps86
  go_wp2
  go_quiet (fail)
  go_wp2_with (go_at_call 62; refine (rd_stop (H.out.drewN _) 31).mono ?_; rintro e w' ⟨rfl, rfl⟩; unfold thrown)
  exact ⟨rfl, rfl, by repeat (first | exact Drawn0.refl _ | apply Drawn0.step)⟩
theorem rd_more {w : World} {g : Nat} {s : ByteArray} {i : Nat} (h : RdAt w g s i) (c : UInt8) :
    Calls Tryd.prog 105 #[.pointer (some ⟨g, 0, none⟩), .int .u8 (c.toNat : Int)] w fun e w' => e = .returned (.bool (decide (s.data.toList[i]? = some c))) ∧ Drawn0 w w' := by
  have c0 : w.cell? ⟨g, 0, none⟩ = some (.string s) := blk_cell h 0
  have c1 : w.cell? ⟨g, 1, none⟩ = some (.int .i64 (i : Int)) := blk_cell h 1
  by_cases hlt : i < s.size
  · have d1 : decide ((i : Int) < (s.size : Int)) = true := decide_eq_true (by omega)
    have p : (0 ≤ (i : Int)) = True := eq_true (by omega)
    have q : ((i : Int) < (s.size : Int)) = True := eq_true (by omega)
    obtain ⟨b, hb⟩ := get_lt hlt
    have hx := get_byte hb
    have HD := Aside0.mk (show ((b.toNat : Int) == (c.toNat : Int)) = decide (s.data.toList[i]? = some c) by
      rw [hb]
      by_cases hbc : b = c
      · rw [hbc]; simp
      · rw [show ((b.toNat : Int) == (c.toNat : Int)) = false from beq_eq_false_iff_ne.2 (fun e => hbc ((eq_byte b c).1 e))]
        exact (decide_eq_false (fun e => hbc (Option.some.inj e))).symm)
    clear h hlt hb
    go_enter Tryd.func105, Tryd.ntmps105
    go_wp2
    repeat (go_quiet (fail); try go_wp2)
    go_ret
    rw [← HD.out]
    exact ⟨rfl, by repeat (first | exact Drawn0.refl _ | apply Drawn0.step)⟩
  · have d1 : decide ((i : Int) < (s.size : Int)) = false := decide_eq_false (by omega)
    have d2 : decide (i < s.size) = false := decide_eq_false hlt
    have HD := Aside0.mk (show decide (s.data.toList[i]? = some c) = false by
      rw [List.getElem?_eq_none (by rw [size_data]; omega)]
      rfl)
    clear h hlt
    go_enter Tryd.func105, Tryd.ntmps105
    go_wp2
    repeat (go_quiet (fail); try go_wp2)
    go_ret
    rw [HD.out]
    exact ⟨rfl, by repeat (first | exact Drawn0.refl _ | apply Drawn0.step)⟩
end Go.Proofs.YtecfmmalbehcnaaDoor.Q

/- The reader of patterns: the run of name bytes. -/
namespace Go.Proofs.YtecfmmalbehcnaaDoor.Q
open Go.Shelf Go.RowKit Go.Proofs Go.Proofs.YtecfmmalbehcnaaDoorW.PrintWords Go.Proofs.YtecfmmalbehcnaaDoorW.PrintLast Go.Proofs.YtecfmmalbehcnaaDoorW.PrintMore Go.Proofs.YtecfmmalbehcnaaDoorV
set_option linter.unusedVariables false
set_option linter.unusedSimpArgs false

theorem extract_strB (s : ByteArray) (i j : Nat) : s.extract i j = strB ((s.data.toList.drop i).take (j - i)) := by
  rw [← data_strB (s.extract i j), Lib.extract_data]
/-- The run of name bytes from a place. -/
def runB (s : ByteArray) (i : Nat) : List UInt8 := (s.data.toList.drop i).takeWhile nb
theorem takeWhile_here (l : List UInt8) (j : Nat) (h : (l.take j).all nb = true) (hs : ∀ c, l[j]? = some c → nb c = false) : l.takeWhile nb = l.take j := by
  induction j generalizing l with
  | zero =>
    cases l with
    | nil => rfl
    | cons c t => rw [List.takeWhile_cons_of_neg (by rw [hs c rfl]; decide)]; rfl
  | succ j ih =>
    cases l with
    | nil => rfl
    | cons c t =>
      rw [List.take_succ_cons, List.all_cons, Bool.and_eq_true] at h
      rw [List.takeWhile_cons_of_pos h.1, List.take_succ_cons, ih t h.2 (fun d hd => hs d (by simpa using hd))]
theorem takeWhile_le (l : List UInt8) : (l.takeWhile nb).length ≤ l.length := (List.takeWhile_sublist nb).length_le
theorem runB_le (s : ByteArray) (i : Nat) (hi : i ≤ s.size) : i + (runB s i).length ≤ s.size := by
  have := takeWhile_le (s.data.toList.drop i)
  rw [List.length_drop, size_data] at this
  unfold runB
  omega
set_option maxHeartbeats 1600000 in
set_option maxRecDepth 100000 in
theorem rd_text {w : World} {g : Nat} {s : ByteArray} {i : Nat} (h : RdAt w g s i) (hi : i ≤ s.size) (hs : s.size ≤ 140737488355328) :
    Calls Tryd.prog 89 #[.pointer (some ⟨g, 0, none⟩)] w fun e w' => e = .returned (.string (strB (runB s i))) ∧ RdAt w' g s (i + (runB s i).length) ∧ Keep w w' (fun k => k = g) := by
  have c0 : w.cell? ⟨g, 0, none⟩ = some (.string s) := blk_cell h 0
  have c1 : w.cell? ⟨g, 1, none⟩ = some (.int .i64 (i : Int)) := blk_cell h 1
  have H := Aside0.mk h
  clear h
  go_enter Tryd.func89, Tryd.ntmps89
  go_wp2
  go_loopg [] (s.size + 1 - i) (fun kq w' => ∃ k : Nat, i ≤ k ∧ k + kq = s.size + 1 ∧ k ≤ s.size ∧ Aside0 (((s.data.toList.drop i).take (k - i)).all nb = true) ∧ Aside0 (RdAt w' g s k) ∧ Aside0 (Keep w w' (fun k => k = g)))
  case atStart => exact ⟨i, Nat.le_refl _, by omega, hi, ⟨by simp⟩, H, ⟨Keep.refl _ _⟩⟩
  case round =>
    obtain ⟨k, hik, hkq, hks, HA, HR, HK⟩ := hrel
    clear c0 c1
    have c0 : wr.cell? ⟨g, 0, none⟩ = some (.string s) := blk_cell HR.out 0
    have c1 : wr.cell? ⟨g, 1, none⟩ = some (.int .i64 (k : Int)) := blk_cell HR.out 1
    have f1 : wr.frozen? ⟨g, 1, none⟩ = false := blk_frozen HR.out 1
    by_cases hlt : k < s.size
    · cases gk with
      | zero => omega
      | succ k1 =>
        have d1 : decide ((k : Int) < (s.size : Int)) = true := decide_eq_true (by omega)
        obtain ⟨b, hb⟩ := get_lt hlt
        have hx := get_byte hb
        have p : (0 ≤ (k : Int)) = True := eq_true (by omega)
        have q : ((k : Int) < (s.size : Int)) = True := eq_true (by omega)
        have HB := Aside0.mk hb
        cases hn : nb b with
        | true =>
          have cq : ∀ n, Calls Tryd.prog 53 #[.int .u8 (b.toNat : Int)] (wr.drewN n) fun e w'' => e = .returned (.bool true) ∧ ∃ m, w'' = wr.drewN m := fun n => by
            refine (namely_calls b _).mono ?_
            rintro e w' ⟨rfl, hd⟩
            exact ⟨by rw [hn], n + hd.out.choose, hd.out.choose_spec.trans (World.drewN_drewN ..)⟩
          have HA2 := Aside0.mk (show ((s.data.toList.drop i).take (k + 1 - i)).all nb = true by
            have e : (s.data.toList.drop i).take (k + 1 - i) = (s.data.toList.drop i).take (k - i) ++ [b] := by
              rw [show k + 1 - i = (k - i) + 1 by omega, List.take_add_one, List.getElem?_drop, show i + (k - i) = k by omega, HB.out]
              rfl
            rw [e, List.all_append, HA.out, List.all_cons, hn]
            rfl)
          clear hb hn HA
          go_wp2
          go_quiet (exact cq _)
          go_wp2
          go_roundg k1
          case rel =>
            refine ⟨k + 1, by omega, by omega, by omega, HA2, ⟨?_⟩, ⟨?_⟩⟩
            · exact (HR.out.drewN _).set (k + 1)
            · exact (HK.out.drewN _).set _ _ (.inl rfl)
          case measure => omega
        | false =>
          have cq : ∀ n, Calls Tryd.prog 53 #[.int .u8 (b.toNat : Int)] (wr.drewN n) fun e w'' => e = .returned (.bool false) ∧ ∃ m, w'' = wr.drewN m := fun n => by
            refine (namely_calls b _).mono ?_
            rintro e w' ⟨rfl, hd⟩
            exact ⟨by rw [hn], n + hd.out.choose, hd.out.choose_spec.trans (World.drewN_drewN ..)⟩
          have HE := Aside0.mk (show runB s i = (s.data.toList.drop i).take (k - i) from takeWhile_here _ _ HA.out (fun c hc => by
            rw [List.getElem?_drop, show i + (k - i) = k by omega, HB.out] at hc
            injection hc with hc
            rw [← hc]; exact hn))
          have cc := fun w => clone_calls (s.extract i k) (by rw [extract_strB, strB_size, List.length_take, List.length_drop, size_data]; omega) w
          have HC := Aside0.mk cc
          have HX := Aside0.mk (extract_strB s i k)
          have HL := Aside0.mk (show k = i + ((s.data.toList.drop i).take (k - i)).length by rw [List.length_take, List.length_drop, size_data]; omega)
          clear hb hn HA cc
          go_wp2
          go_quiet (exact cq _)
          go_wp2
          have HRq := Aside0.mk (HR.out.drewN nq)
          have HKq := Aside0.mk (HK.out.drewN nq)
          have c0d : (wr.drewN nq).drew.cell? ⟨g, 0, none⟩ = some (.string s) := c0
          have c1d : (wr.drewN nq).drew.cell? ⟨g, 1, none⟩ = some (.int .i64 (k : Int)) := c1
          clear c0 c1 f1 cq
          generalize wr.drewN nq = wq at HRq HKq c0d c1d
          go_still_tail 10, (by kernel_rfl)
          change wpList _ _ _ _ _ wq.drew
          go_wp2_with (go_at_call 106; (with_reducible refine (HC.out _).mono ?_); rintro e w1 ⟨rfl, hb⟩; have HBel := Aside0.mk hb; clear hb)
          go_ret
          rw [HE.out, ← HL.out]
          exact ⟨by rw [← HX.out]; rfl, (HRq.out.drewN 1).below HBel.out, (HKq.out.drewN 1).trans (Keep.of_below (S := fun k => k = g) HBel.out) (fun _ _ h => h) (fun _ _ h => h)⟩
    · have hk : k = s.size := by omega
      have d1 : decide ((k : Int) < (s.size : Int)) = false := decide_eq_false (by omega)
      have HE := Aside0.mk (show runB s i = (s.data.toList.drop i).take (k - i) from takeWhile_here _ _ HA.out (fun c hc => by
        rw [List.getElem?_drop, List.getElem?_eq_none (by rw [size_data]; omega)] at hc
        cases hc))
      have cc := fun w => clone_calls (s.extract i k) (by rw [extract_strB, strB_size, List.length_take, List.length_drop, size_data]; omega) w
      have HC := Aside0.mk cc
      have HX := Aside0.mk (extract_strB s i k)
      have HL := Aside0.mk (show k = i + ((s.data.toList.drop i).take (k - i)).length by rw [List.length_take, List.length_drop, size_data]; omega)
      clear HA cc hk
      go_wp2
      go_quiet (fail)
      go_wp2
      have HRq := Aside0.mk (HR.out.drewN nq)
      have HKq := Aside0.mk (HK.out.drewN nq)
      have c0d : (wr.drewN nq).drew.cell? ⟨g, 0, none⟩ = some (.string s) := c0
      have c1d : (wr.drewN nq).drew.cell? ⟨g, 1, none⟩ = some (.int .i64 (k : Int)) := c1
      clear c0 c1 f1
      generalize wr.drewN nq = wq at HRq HKq c0d c1d
      go_still_tail 10, (by kernel_rfl)
      change wpList _ _ _ _ _ wq.drew
      go_wp2_with (go_at_call 106; (with_reducible refine (HC.out _).mono ?_); rintro e w1 ⟨rfl, hb⟩; have HBel := Aside0.mk hb; clear hb)
      go_ret
      rw [HE.out, ← HL.out]
      exact ⟨by rw [← HX.out]; rfl, (HRq.out.drewN 1).below HBel.out, (HKq.out.drewN 1).trans (Keep.of_below (S := fun k => k = g) HBel.out) (fun _ _ h => h) (fun _ _ h => h)⟩
end Go.Proofs.YtecfmmalbehcnaaDoor.Q
