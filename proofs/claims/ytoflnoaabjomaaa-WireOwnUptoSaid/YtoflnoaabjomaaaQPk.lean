import Derived.Test.YtoflnoaabjomaaaQx2
import Derived.Test.YtoflnoaabjomaaaVObj
import Derived.Lib.ConvBytes
import Derived.Laws.CopyOwn
import Derived.Outline
namespace Go.Proofs.Ytoflnoaabjomaaa.Q
open Go.RowKit Go.Proofs.YtoflnoaabjomaaaW.PrintWords Go.Proofs.YtoflnoaabjomaaaW.PrintLast Go.Proofs.YtoflnoaabjomaaaW.PrintMore Go.Proofs.YtoflnoaabjomaaaV
set_option linter.unusedVariables false
set_option linter.unusedSimpArgs false

/-- A packer: its block, what it holds. -/
structure PkAt (w : World) (B g : Nat) (v : Value) (size : Int) (held : List Int) : Prop where
  blk : w.heap[g]? = some (.cells #[.int .i64 size, v] 62 (0, 0))
  row : Kd.R (Kd.int .u8) 5 w B (fun k => k ≠ g) v held
  ge : B ≤ g

theorem PkAt.keep {w w' : World} {B g : Nat} {v : Value} {size : Int} {held : List Int} {S : Nat → Prop} (h : PkAt w B g v size held) (hk : Keep w w' S) (hg : ¬ S g) (hv : ∀ k, v.ownBlock = some k → ¬ S k) : PkAt w' B g v size held := by
  refine ⟨(hk.block g (blk_lt h.blk) hg).trans h.blk, R_tight h.row fun k e => ⟨hk.block k (R_lt' h.row k e) (hv k e), h.row.1 k e, ?_⟩, h.ge⟩
  obtain ⟨inner, ho⟩ := Kd.R_own h.row
  exact own_base ho k e

set_option maxHeartbeats 400000 in
theorem NewPacker_yes (size : Int) (w : World) (h1 : 1 ≤ size) (h2 : size ≤ 65536) :
    Calls Try.prog 14 #[.int .i64 size] w fun e w' => e = .returned (.tuple #[.pointer (some ⟨w.heap.size, 0, none⟩), .int .i64 0]) ∧ PkAt w' w.heap.size w.heap.size (.slice none 0 0) size [] ∧ Below w.heap.size w w' := by
  have d1 : decide (size < 1) = false := decide_eq_false (by omega)
  have d2 : decide (65536 < size) = false := decide_eq_false (by omega)
  go_enter Try.func14, Try.ntmps14
  go_wp2
  go_ret2
  exact ⟨rfl, ⟨heap_alloc_new _ _, Kd.R_nil _ _ _ _ _, Nat.le_refl _⟩, (Below.refl _ _).alloc (Nat.le_refl _) _⟩
set_option maxHeartbeats 400000 in
theorem NewPacker_no (size : Int) (w : World) (h : ¬ (1 ≤ size ∧ size ≤ 65536)) :
    Calls Try.prog 14 #[.int .i64 size] w fun e w' => e = .returned (.tuple #[.pointer none, .int .i64 50]) ∧ w = w' := by
  by_cases d1 : size < 1
  · have d1b : decide (size < 1) = true := decide_eq_true d1
    clear h
    go_enter Try.func14, Try.ntmps14
    go_wp2
    go_ret2
    exact ⟨rfl, rfl⟩
  · have d1b : decide (size < 1) = false := decide_eq_false d1
    have d2b : decide (65536 < size) = true := decide_eq_true (by omega)
    clear h
    go_enter Try.func14, Try.ntmps14
    go_wp2
    go_ret2
    exact ⟨rfl, rfl⟩
set_option maxHeartbeats 400000 in
theorem Packer_made_yes {w : World} {B g : Nat} {v : Value} {size : Int} {held : List Int} (h : PkAt w B g v size held) (hs : 1 ≤ size) :
    Calls Try.prog 34 #[.pointer (some ⟨g, 0, none⟩)] w fun e w' => e = .returned (.bool true) ∧ w = w' := by
  have c0 := blk_cell h.blk 0
  have d : decide (0 < size) = true := decide_eq_true (by omega)
  clear h
  go_enter Try.func34, Try.ntmps34
  go_wp2
  go_ret
  exact ⟨rfl, rfl⟩
set_option maxHeartbeats 400000 in
theorem Packer_made_nil (w : World) : Calls Try.prog 34 #[.pointer none] w fun e w' => e = .returned (.bool false) ∧ w = w' := by
  go_enter Try.func34, Try.ntmps34
  go_wp2
  go_ret
  exact ⟨rfl, rfl⟩
set_option maxHeartbeats 400000 in
theorem Packer_made_zero (w : World) (g : Nat) (v : Value) (h : w.heap[g]? = some (.cells #[.int .i64 0, v] 62 (0, 0))) : Calls Try.prog 34 #[.pointer (some ⟨g, 0, none⟩)] w fun e w' => e = .returned (.bool false) ∧ w = w' := by
  have c0 := blk_cell h 0
  clear h
  go_enter Try.func34, Try.ntmps34
  go_wp2
  go_ret
  exact ⟨rfl, rfl⟩

set_option maxHeartbeats 400000 in
theorem Packer_Held {w : World} {B g : Nat} {v : Value} {size : Int} {held : List Int} (h : PkAt w B g v size held) (hs : 1 ≤ size) :
    Calls Try.prog 20 #[.pointer (some ⟨g, 0, none⟩)] w fun e w' => e = .returned (.int .i64 held.length) ∧ w = w' := by
  obtain ⟨A, c, rfl⟩ := Kd.R_slice h.row
  have c1 := blk_cell h.blk 1
  have HM := Aside0.mk h
  clear h
  go_enter Try.func20, Try.ntmps20
  go_wp2_with (go_at_call 34; (with_reducible refine (Packer_made_yes HM.out hs).mono ?_); rintro e w' ⟨rfl, rfl⟩)
  go_ret
  exact ⟨rfl, rfl⟩

set_option maxHeartbeats 400000 in
theorem Packer_Flush_empty {w : World} {B g : Nat} {v : Value} {size : Int} (h : PkAt w B g v size []) (hs : 1 ≤ size) :
    Calls Try.prog 16 #[.pointer (some ⟨g, 0, none⟩)] w fun e w' => e = .returned (.slice none 0 0) ∧ w = w' := by
  obtain ⟨A, c, rfl⟩ := Kd.R_slice h.row
  have c1 := blk_cell h.blk 1
  have HM := Aside0.mk h
  clear h
  go_enter Try.func16, Try.ntmps16
  go_wp2_with (go_at_call 34; (with_reducible refine (Packer_made_yes HM.out hs).mono ?_); rintro e w' ⟨rfl, rfl⟩)
  go_ret
  exact ⟨rfl, rfl⟩

theorem run_copy_made (w : World) (A : Addr) (c : Nat) (held : List Int) (hC : Kd.C (Kd.int .u8) w (some A) held.length held) (hp : 0 < held.length) (hA : A.block < w.heap.size) :
    ∃ W2, (Builtin.copy_ #[22, 22] 3 #[.slice (some ⟨w.heap.size, 0, none⟩) held.length held.length, .slice (some A) held.length c]).run Try.prog (w.alloc (.cells (madeCells #[.int .u8 0] held.length) 5)) = .ok (goInt held.length) W2 ∧
      W2.heap[w.heap.size]? = some (.cells (held.map (Value.int .u8)).toArray 5 (0, 0)) ∧ Below w.heap.size w W2 ∧ W2.heap.size = w.heap.size + 1 := by
  obtain ⟨i5, hi5, hz⟩ := Option.map_eq_some_iff.1 info5
  simp only [Prod.mk.injEq] at hz
  have hcp : ∀ j v, (held.map (Value.int .u8))[j]? = some v → (w.alloc (.cells (madeCells #[.int .u8 0] held.length) 5)).cell? (A.add j) = some v := by
    intro j v hj
    rw [List.getElem?_map] at hj
    obtain ⟨p, hp1, hp2⟩ := Option.map_eq_some_iff.1 hj
    obtain ⟨ad, e1, hcell⟩ := hC.2.2 hp
    injection e1 with e1
    subst e1
    obtain ⟨cs, h1, h2, h3⟩ := hcell j p hp1
    have h2' : cs = [.int .u8 p] := h2
    have h4 := h3 0 (.int .u8 p) (by rw [h2']; rfl)
    have e : j * (Kd.int .u8).sz + 0 = j := by show j * 1 + 0 = j; omega
    rw [e, hp2] at h4
    rw [← h4]
    have hbl : (A.add j).block < w.heap.size := by simp only [Addr.add]; split <;> exact hA
    exact ((Below.refl w.heap.size w).alloc (Nat.le_refl _) _).cell hbl
  have hlen : (held.map (Value.int .u8)).length = held.length := by simp
  have hr := run_copy_row (P := Try.prog) (w.alloc (.cells (madeCells #[.int .u8 0] held.length) 5)) 22 22 3 5 w.heap.size 0 held.length held.length A held.length c (madeCells #[.int .u8 0] held.length) 5 (held.map (Value.int .u8)) Try.underlying22 (by rw [hi5]; simp [hz.2.1]) (heap_alloc_new _ _) (by simp) hcp (by simp [size_madeCells]) (by simp [Value.oneCell'])
  rw [hlen] at hr
  have hx : (List.take 0 (madeCells #[Value.int .u8 0] held.length).toList ++ held.map (Value.int .u8) ++ List.drop (0 + held.length) (madeCells #[Value.int .u8 0] held.length).toList).toArray = (held.map (Value.int .u8)).toArray := by
    have : List.drop (0 + held.length) (madeCells #[Value.int .u8 0] held.length).toList = [] := List.drop_eq_nil_of_le (by simp [size_madeCells])
    rw [this]; simp
  rw [hx] at hr
  exact ⟨_, hr, setRow_heap _ _ _ _ _ _ (heap_alloc_new _ _), below_setRow ((Below.refl _ _).alloc (Nat.le_refl _) _) (Nat.le_refl _) _, by simp⟩

set_option maxHeartbeats 400000 in
theorem Packer_Flush_full {w : World} {B g : Nat} {v : Value} {size : Int} {held : List Int} (h : PkAt w B g v size held) (hs : 1 ≤ size) (hB : B ≤ w.heap.size) (hp : 0 < held.length) (hl : held.length ≤ 281474976710656) :
    Calls Try.prog 16 #[.pointer (some ⟨g, 0, none⟩)] w fun e w' => ∃ o, e = .returned o ∧ PkAt w' B g (.slice none 0 0) size [] ∧ Kd.R (Kd.int .u8) 5 w' w.heap.size (fun k => w.heap.size ≤ k) o held ∧ Keep w w' (fun k => k = g) := by
  obtain ⟨A, c, hv, hlc, hC⟩ := Kd.R_reads h.row
  subst hv
  obtain ⟨ad, rfl, hcell⟩ := hC.2.2 hp
  have HM := Aside0.mk h
  have hpz : ((held.length : Int) == 0) = false := beq_eq_false_iff_ne.mpr (by omega)
  have hmk := print_make (P := Try.prog) 22 5 .u8 1 Try.underlying22 info5 (by omega) held.length (by omega) w
  obtain ⟨inner, ho⟩ := Kd.R_own h.row
  obtain ⟨W2, hcpy, hnew, hbl, hsz⟩ := run_copy_made w ad c held hC hp (own_lt ho ad.block (by simp [Value.ownBlock]))
  have hgl := blk_lt h.blk
  have hblk2 : W2.heap[g]? = some (.cells #[.int .i64 size, .slice (some ad) held.length c] 62 (0, 0)) := (hbl.block g hgl).trans h.blk
  have c1 := blk_cell h.blk 1
  have c2 := blk_cell hblk2 1
  have f2 := blk_frozen hblk2 1
  have hgn : ¬ g = w.heap.size := by omega
  have HC := Aside0.mk hC
  have HN := Aside0.mk hnew
  have HBl := Aside0.mk hbl
  have HS := Aside0.mk hsz
  have HK2 := Aside0.mk hblk2
  clear h hC hnew hbl hsz hblk2 hcell ho
  go_enter Try.func16, Try.ntmps16
  go_wp2_with (first | (go_at_call 34; (with_reducible refine (Packer_made_yes HM.out hs).mono ?_); rintro e w' ⟨rfl, rfl⟩))
  go_ret
  refine ⟨_, rfl, ⟨blk_put HK2.out 1 _ rfl, Kd.R_nil _ _ _ _ _, HM.out.ge⟩, ?_, ?_⟩
  · exact R_block (enc := Value.int .u8) (h1 := fun _ => rfl) ((Below.heap_setCell _ _ _ _ (by simp; omega)).trans HN.out) (Nat.le_refl _) (Nat.le_refl _) (by omega)
  · exact (Keep.of_below HBl.out).set _ _ (.inl rfl)

theorem bytesOf_in (s : ByteArray) : bytesIn (bytesOf s) := by
  intro x hx
  simp only [bytesOf, List.mem_map] at hx
  obtain ⟨b, _, rfl⟩ := hx
  have := b.toNat_lt
  omega
theorem bytes_len (s : ByteArray) : (bytesOf s).length = s.size := bytesOf_length s

/-- '[]byte(s)': one draw, one new block. -/
theorem run_conv (w : World) (s : ByteArray) (hs : s.size ≤ 9223372036854775807) : ∃ c W1, (convert 9 22 (.string s)).run Try.prog w = .ok (.slice (some ⟨w.heap.size, 0, none⟩) s.size c) W1 ∧ Below w.heap.size w W1 ∧ Kd.C (Kd.int .u8) W1 (some ⟨w.heap.size, 0, none⟩) (bytesOf s).length (bytesOf s) ∧ s.size ≤ c ∧ W1.heap.size = w.heap.size + 1 := by
  refine ⟨_, _, Lib.run_convert_string_bytes w 9 22 5 s Try.underlying9 Try.underlying22 Try.underlying5, ?_, ?_, ?_, Lib.bytesWorld_size w 5 s⟩
  · exact ⟨rfl, rfl, rfl, by rw [Lib.bytesWorld_size]; omega, fun k hk => Lib.bytesWorld_at_old w 5 s k hk⟩
  · refine ⟨rfl, by rw [bytes_len]; omega, fun _ => ⟨_, rfl, fun j p hp => ⟨[.int .u8 p], rfl, rfl, fun i u hu => ?_⟩⟩⟩
    obtain ⟨hj, hp'⟩ := List.getElem?_eq_some_iff.1 hp
    cases i with
    | succ i => simp at hu
    | zero =>
      simp at hu
      subst hu
      have e2 : ((⟨w.heap.size, 0, none⟩ : Addr).add (j * (Kd.int .u8).sz + 0)) = ⟨w.heap.size, j, none⟩ := by
        show Addr.add _ (j * 1 + 0) = _
        by_cases h : j = 0
        · subst h; rfl
        · simp [Addr.add, h]
      rw [e2]
      have hj2 : j < s.size := by rw [bytes_len] at hj; exact hj
      rw [Lib.bytesWorld_cell w 5 s j hj2, ← hp']
      have hj3 : j < s.data.size := hj2
      simp [bytesOf, List.getD_eq_getElem?_getD, Array.getElem?_eq_getElem hj3]
  · exact grownCap_ge _ _ _ _

theorem bytes_IndexByte.callsN (A : Option Addr) (n c : Nat) (l : List Int) (v : Int) (w : World) (hn : l.length = n) (hr : Kd.C (Kd.int .u8) w A l.length l) (hb : bytesIn l) (hv : 0 ≤ v ∧ v ≤ 255) :
    Calls Try.prog 30 #[.slice A n c, .int .u8 v] w fun e w' => e = .returned (.int .i64 (idx v l)) ∧ w = w' := by
  subst hn
  exact bytes_IndexByte.calls A c l v w hr hb hv

/-- Can't a text be a line? -/
def badLine (s : ByteArray) : Prop := s.size = 0 ∨ bt s ((s.size : Int) - 1) = 13 ∨ 0 ≤ idx 10 (bytesOf s)

theorem str_len (s : ByteArray) : s.toList.length = s.size := by rw [ByteArray.toList_eq, Array.length_toList]; rfl
theorem str_empty {s : ByteArray} (h : s.size = 0) : (s.toList == []) = true := by
  have : s.toList = [] := by rw [← List.length_eq_zero_iff, str_len]; exact h
  rw [this]; rfl
theorem str_full {s : ByteArray} (h : ¬ s.size = 0) : (s.toList == []) = false := by
  rw [beq_eq_false_iff_ne]
  intro e
  apply h
  rw [← str_len, e]; rfl

set_option maxHeartbeats 800000 in
theorem Packer_Add_bad {w : World} {B g : Nat} {v : Value} {size : Int} {held : List Int} (s : ByteArray) (h : PkAt w B g v size held) (hs : 1 ≤ size) (hsz : s.size ≤ 140737488351232) (hbad : badLine s) :
    Calls Try.prog 18 #[.pointer (some ⟨g, 0, none⟩), .string s] w fun e w' => e = .returned (.tuple #[.slice none 0 0, .int .i64 51]) ∧ Below w.heap.size w w' := by
  have HM := Aside0.mk h
  clear h
  by_cases h0 : s.size = 0
  · have e1 := str_empty h0
    clear h0 hbad
    go_enter Try.func18, Try.ntmps18
    go_wp2_with (first | (go_at_call 34; (with_reducible refine (Packer_made_yes HM.out hs).mono ?_); rintro e w' ⟨rfl, rfl⟩))
    go_ret2
    exact ⟨rfl, Below.refl _ _⟩
  · have e1 := str_full h0
    have hbad' : s.size = 0 ∨ bt s ((s.size : Int) - 1) = 13 ∨ 0 ≤ idx 10 (bytesOf s) := hbad
    clear hbad
    obtain ⟨j, hj⟩ : ∃ j : Int, (s.size : Int) - 1 = j := ⟨_, rfl⟩
    have hjw : wrap64 ((s.size : Int) - 1) = j := by rw [← hj]; unfold wrap64; omega
    have hjw2 : IntKind.i64.wrap ((s.size : Int) - 1) = j := (i64_w _).trans hjw
    have hx := bt_at s j
    have p0 := eq_true (show 0 ≤ j by omega)
    have p1 := eq_true (show j < s.size by omega)
    rw [hj] at hbad'
    by_cases h1 : bt s j = 13
    · have e2 : (bt s j == 13) = true := beq_iff_eq.mpr h1
      clear h1 hbad'
      go_enter Try.func18, Try.ntmps18
      go_wp2_with (first | (go_at_call 34; (with_reducible refine (Packer_made_yes HM.out hs).mono ?_); rintro e w' ⟨rfl, rfl⟩))
      go_ret2
      exact ⟨rfl, Below.refl _ _⟩
    · have e2 : (bt s j == 13) = false := beq_eq_false_iff_ne.mpr h1
      have e3 : decide (0 ≤ idx 10 (bytesOf s)) = true := decide_eq_true <| by
        rcases hbad' with c | c | c
        · exact absurd c h0
        · exact absurd c h1
        · exact c
      obtain ⟨cc, W1, hcv, hb1, hC1, hc1, hs1⟩ := run_conv w s (by omega)
      have HC1 := Aside0.mk hC1
      have HB1 := Aside0.mk hb1
      clear h1 hbad' hb1 hC1 hs1
      go_enter Try.func18, Try.ntmps18
      go_wp2_with (first | (go_at_call 34; (with_reducible refine (Packer_made_yes HM.out hs).mono ?_); rintro e w' ⟨rfl, rfl⟩) | (go_at_call 30; refine (bytes_IndexByte.callsN (some ⟨w.heap.size, 0, none⟩) s.size cc (bytesOf s) 10 W1 (bytes_len s) HC1.out (bytesOf_in s) (by omega)).mono ?_; rintro e w' ⟨rfl, rfl⟩))
      go_ret2
      exact ⟨rfl, HB1.out⟩

set_option maxHeartbeats 800000 in
theorem Packer_Add_long {w : World} {B g : Nat} {v : Value} {size : Int} {held : List Int} (s : ByteArray) (h : PkAt w B g v size held) (hs : 1 ≤ size) (hsz : s.size ≤ 140737488351232) (hgood : ¬ badLine s) (hlong : size < s.size) :
    Calls Try.prog 18 #[.pointer (some ⟨g, 0, none⟩), .string s] w fun e w' => e = .returned (.tuple #[.slice none 0 0, .int .i64 2]) ∧ Below w.heap.size w w' := by
  have HM := Aside0.mk h
  obtain ⟨h0, h1, h2⟩ : ¬ s.size = 0 ∧ ¬ bt s ((s.size : Int) - 1) = 13 ∧ ¬ 0 ≤ idx 10 (bytesOf s) := by
    refine ⟨fun c => hgood (.inl c), fun c => hgood (.inr (.inl c)), fun c => hgood (.inr (.inr c))⟩
  have e1 := str_full h0
  obtain ⟨j, hj⟩ : ∃ j : Int, (s.size : Int) - 1 = j := ⟨_, rfl⟩
  have hjw : wrap64 ((s.size : Int) - 1) = j := by rw [← hj]; unfold wrap64; omega
  have hjw2 : IntKind.i64.wrap ((s.size : Int) - 1) = j := (i64_w _).trans hjw
  have hx := bt_at s j
  have p0 := eq_true (show 0 ≤ j by omega)
  have p1 := eq_true (show j < s.size by omega)
  rw [hj] at h1
  have e2 : (bt s j == 13) = false := beq_eq_false_iff_ne.mpr h1
  have e3 : decide (0 ≤ idx 10 (bytesOf s)) = false := decide_eq_false h2
  have e4 : decide (size < (s.size : Int)) = true := decide_eq_true hlong
  obtain ⟨cc, W1, hcv, hb1, hC1, hc1, hs1⟩ := run_conv w s (by omega)
  have HC1 := Aside0.mk hC1
  have HB1 := Aside0.mk hb1
  have c0 := blk_cell ((hb1.block g (blk_lt h.blk)).trans h.blk) 0
  clear h h1 h2 hgood hb1 hC1 hs1 hlong
  go_enter Try.func18, Try.ntmps18
  go_wp2_with (first | (go_at_call 34; (with_reducible refine (Packer_made_yes HM.out hs).mono ?_); rintro e w' ⟨rfl, rfl⟩) | (go_at_call 30; refine (bytes_IndexByte.callsN (some ⟨w.heap.size, 0, none⟩) s.size cc (bytesOf s) 10 W1 (bytes_len s) HC1.out (bytesOf_in s) (by omega)).mono ?_; rintro e w' ⟨rfl, rfl⟩))
  go_ret2
  exact ⟨rfl, HB1.out⟩

set_option maxHeartbeats 1600000 in
theorem Packer_Add_more {w : World} {B g : Nat} {v : Value} {size : Int} {held : List Int} (s : ByteArray) (h : PkAt w B g v size held) (hs : 1 ≤ size) (hs2 : size ≤ 65536) (hB : B ≤ w.heap.size) (hsz : s.size ≤ 140737488351232) (hgood : ¬ badLine s) (hlong : (s.size : Int) ≤ size)
    (hne : 0 < held.length) (hfit : (held.length : Int) + 1 + s.size ≤ size) :
    Calls Try.prog 18 #[.pointer (some ⟨g, 0, none⟩), .string s] w fun e w' => ∃ v', e = .returned (.tuple #[.slice none 0 0, .int .i64 0]) ∧ PkAt w' B g v' size (held ++ [10] ++ bytesOf s) ∧ Keep w w' (fun k => k = g ∨ some k = v.ownBlock) := by
  have HM := Aside0.mk h
  obtain ⟨A, c, hv⟩ := Kd.R_slice h.row
  subst hv
  obtain ⟨h0, h1, h2⟩ : ¬ s.size = 0 ∧ ¬ bt s ((s.size : Int) - 1) = 13 ∧ ¬ 0 ≤ idx 10 (bytesOf s) := by
    refine ⟨fun c => hgood (.inl c), fun c => hgood (.inr (.inl c)), fun c => hgood (.inr (.inr c))⟩
  have e1 := str_full h0
  obtain ⟨j, hj⟩ : ∃ j : Int, (s.size : Int) - 1 = j := ⟨_, rfl⟩
  have hjw : wrap64 ((s.size : Int) - 1) = j := by rw [← hj]; unfold wrap64; omega
  have hjw2 : IntKind.i64.wrap ((s.size : Int) - 1) = j := (i64_w _).trans hjw
  have hx := bt_at s j
  have p0 := eq_true (show 0 ≤ j by omega)
  have p1 := eq_true (show j < s.size by omega)
  rw [hj] at h1
  have e2 : (bt s j == 13) = false := beq_eq_false_iff_ne.mpr h1
  have e3 : decide (0 ≤ idx 10 (bytesOf s)) = false := decide_eq_false h2
  have e4 : decide (size < (s.size : Int)) = false := decide_eq_false (by omega)
  obtain ⟨cc, W1, hcv, hb1, hC1, hc1, hs1⟩ := run_conv w s (by omega)
  have HC1 := Aside0.mk hC1
  have HB1 := Aside0.mk hb1
  have hgl := blk_lt h.blk
  have hblk1 := (hb1.block g hgl).trans h.blk
  have HK1 := Aside0.mk hblk1
  have c0 := blk_cell hblk1 0
  have c1 := blk_cell hblk1 1
  have f1 := blk_frozen hblk1 1
  have HR1 := Aside0.mk (Kd.R_below h.row hb1)
  have HG := Aside0.mk (show g < W1.heap.size by omega)
  have e5 : decide (0 < (held.length : Int)) = true := decide_eq_true (by omega)
  have e5b : decide (0 < held.length) = true := decide_eq_true (by omega)
  have e6 : decide (size < (held.length : Int) + 1 + (s.size : Int)) = false := decide_eq_false (by omega)
  clear h h1 h2 hgood hb1 hC1 hs1 hblk1
  go_enter Try.func18, Try.ntmps18
  go_wp2_with (first | (go_at_call 34; (with_reducible refine (Packer_made_yes HM.out hs).mono ?_); rintro e w' ⟨rfl, rfl⟩) | (go_at_call 30; refine (bytes_IndexByte.callsN (some ⟨w.heap.size, 0, none⟩) s.size cc (bytesOf s) 10 W1 (bytes_len s) HC1.out (bytesOf_in s) (by omega)).mono ?_; rintro e w' ⟨rfl, rfl⟩))
  go_quiet (fail)
  go_wp2_with (first | ((with_reducible refine gate_builtin (b := .append) (xs := #[.tmp 70, .tmp 71]) rfl ?_); at_builtin; refine Kd.R_append (Kd.int .u8) (w0 := W1.drewN nq) B rfl (.tmp 70) (.tmp 71) 22 5 (.int .u8 0) 1 rfl Try.underlying22 info5 rfl (by decide) (by omega) (.slice A held.length c) held 10 [.int .u8 10] (fun k => k ≠ g) (fun _ => False) rfl rfl ?aP (fun _ hk => hk.elim) ?aF ?aO ?aB ?aS ?aL ?_; (case aP => exact rfl); (case aB => exact Below.refl _ _); (case aF => exact (fun k hk => by have := HG.out; simp only [World.heap_drewN] at hk; omega)); (case aO => exact Kd.R_drewN HR1.out _); (case aS => exact (by have := HB1.out.size; simp only [World.heap_drewN]; omega)); (case aL => omega); intro v2 w2 ho2 _ hg2 hat2; obtain ⟨H2, hH2⟩ : ∃ l : List Int, l = held ++ [10] := ⟨_, rfl⟩; rw [← hH2] at ho2; have NH2 := Aside0.mk hH2; clear hH2; obtain ⟨A2, cp2, ev2⟩ := Kd.R_slice ho2; subst ev2; have b2 := (hg2.block g (by simp only [World.heap_drewN]; exact HG.out) (fun e => HR1.out.1 g e.symm rfl)).trans HK1.out; have c2 := blk_cell b2 1; have f2 := blk_frozen b2 1; have HO2 := Aside0.mk ho2; have HK2 := Aside0.mk b2; have HG2 := Aside0.mk hg2; have HAT2 := Aside0.mk hat2; clear ho2 hg2 b2 hat2) | ((with_reducible refine gate_builtin (b := .append) (xs := #[.tmp 79, .tmp 80]) rfl ?_); at_builtin; refine print_append_str (w0 := w2.setCell ⟨g, 1, none⟩ (.slice A2 H2.length cp2)) B rfl (.tmp 79) (.tmp 80) 22 9 5 rfl Try.underlying22 Try.underlying9 info5 (.slice A2 H2.length cp2) H2 s rfl rfl ?bO (Below.refl _ _) ?bS ?bL ?_; (case bO => exact Kd.own_of_R (R_tight (base' := B) (ok' := fun _ => True) HO2.out (fun k e => ⟨Below.heap_setCell _ _ _ _ (HO2.out.1 k e), trivial, by obtain ⟨inner, ho⟩ := Kd.R_own HO2.out; exact own_base ho k e⟩))); (case bS => exact (by have := HG2.out.size; have := HB1.out.size; simp only [World.heap_drewN] at *; simp [World.setCell]; omega)); (case bL => rw [NH2.out]; simp only [List.length_append, List.length_singleton]; omega); intro v3 w3 ho3 _ hg3; obtain ⟨H3, hH3⟩ : ∃ l : List Int, l = H2 ++ bytesOf s := ⟨_, rfl⟩; rw [← hH3] at ho3; have NH3 := Aside0.mk hH3; clear hH3; obtain ⟨A3, cp3, ev3⟩ := Kd.R_slice (Kd.R_of_own (enc := Value.int .u8) (h1 := fun _ => rfl) (ok := fun _ => True) ho3 (fun _ _ => trivial)); subst ev3; have b3 := (hg3.block g (by have := blk_lt HK2.out; simpa [World.setCell] using this) (fun e => HO2.out.1 g e.symm rfl)).trans (blk_put HK2.out 1 (.slice A2 H2.length cp2) rfl); have c3 := blk_cell b3 1; have f3 := blk_frozen b3 1; have HO3 := Aside0.mk ho3; have HK3 := Aside0.mk b3; have HG3 := Aside0.mk hg3; clear ho3 hg3 b3))
  go_ret2
  have hne3 : ∀ k, (Value.slice A3 H3.length cp3).ownBlock = some k → k ≠ g := by
    intro k e eg
    obtain ⟨cells, hc⟩ := own_typed HO3.out k e
    rw [eg, HK3.out] at hc
    injection hc with hc
    injection hc with _ hc
    exact absurd hc (by decide)
  refine ⟨.slice A3 H3.length cp3, rfl, ⟨blk_put HK3.out 1 _ rfl, ?_, HM.out.ge⟩, ?_⟩
  · rw [← NH2.out, ← NH3.out]
    exact R_tight (Kd.R_of_own (enc := Value.int .u8) (h1 := fun _ => rfl) (ok := fun _ => True) HO3.out (fun _ _ => trivial)) (fun k e => ⟨Below.heap_setCell _ _ _ _ (hne3 k e), hne3 k e, own_base HO3.out k e⟩)
  · have hsz2 := HG2.out.size
    have hsz1 := HB1.out.size
    simp only [World.heap_drewN] at hsz2
    refine (((((Keep.of_below HB1.out).drewN nq).grown HG2.out (fun k e => .inl (.inr e.symm))).set _ _ (.inl (.inl rfl))).grown HG3.out (fun k e => ?_)).set _ _ (.inl (.inl rfl))
    rcases HAT2.out with e2 | ⟨b, e2, hb⟩
    · exact .inl (.inr (by rw [← e2, e]))
    · rw [e] at e2
      injection e2 with e2
      subst e2
      simp only [World.heap_drewN] at hb
      exact .inr (by omega)

set_option maxHeartbeats 1600000 in
theorem Packer_Add_first {w : World} {B g : Nat} {v : Value} {size : Int} (s : ByteArray) (h : PkAt w B g v size []) (hs : 1 ≤ size) (hs2 : size ≤ 65536) (hB : B ≤ w.heap.size) (hsz : s.size ≤ 140737488351232) (hgood : ¬ badLine s) (hlong : (s.size : Int) ≤ size) :
    Calls Try.prog 18 #[.pointer (some ⟨g, 0, none⟩), .string s] w fun e w' => ∃ v', e = .returned (.tuple #[.slice none 0 0, .int .i64 0]) ∧ PkAt w' B g v' size (bytesOf s) ∧ Keep w w' (fun k => k = g ∨ some k = v.ownBlock) := by
  have HM := Aside0.mk h
  obtain ⟨A, c, hv⟩ := Kd.R_slice h.row
  subst hv
  obtain ⟨h0, h1, h2⟩ : ¬ s.size = 0 ∧ ¬ bt s ((s.size : Int) - 1) = 13 ∧ ¬ 0 ≤ idx 10 (bytesOf s) := by
    refine ⟨fun c => hgood (.inl c), fun c => hgood (.inr (.inl c)), fun c => hgood (.inr (.inr c))⟩
  have e1 := str_full h0
  obtain ⟨j, hj⟩ : ∃ j : Int, (s.size : Int) - 1 = j := ⟨_, rfl⟩
  have hjw : wrap64 ((s.size : Int) - 1) = j := by rw [← hj]; unfold wrap64; omega
  have hjw2 : IntKind.i64.wrap ((s.size : Int) - 1) = j := (i64_w _).trans hjw
  have hx := bt_at s j
  have p0 := eq_true (show 0 ≤ j by omega)
  have p1 := eq_true (show j < s.size by omega)
  rw [hj] at h1
  have e2 : (bt s j == 13) = false := beq_eq_false_iff_ne.mpr h1
  have e3 : decide (0 ≤ idx 10 (bytesOf s)) = false := decide_eq_false h2
  have e4 : decide (size < (s.size : Int)) = false := decide_eq_false (by omega)
  obtain ⟨cc, W1, hcv, hb1, hC1, hc1, hs1⟩ := run_conv w s (by omega)
  have HC1 := Aside0.mk hC1
  have HB1 := Aside0.mk hb1
  have hgl := blk_lt h.blk
  have hblk1 := (hb1.block g hgl).trans h.blk
  have HK1 := Aside0.mk hblk1
  have c0 := blk_cell hblk1 0
  have c1 := blk_cell hblk1 1
  have f1 := blk_frozen hblk1 1
  have HR1 := Aside0.mk (Kd.R_below h.row hb1)
  have HG := Aside0.mk (show g < W1.heap.size by omega)
  clear h h1 h2 hgood hb1 hC1 hs1 hblk1
  go_enter Try.func18, Try.ntmps18
  go_wp2_with (first | (go_at_call 34; (with_reducible refine (Packer_made_yes HM.out hs).mono ?_); rintro e w' ⟨rfl, rfl⟩) | (go_at_call 30; refine (bytes_IndexByte.callsN (some ⟨w.heap.size, 0, none⟩) s.size cc (bytesOf s) 10 W1 (bytes_len s) HC1.out (bytesOf_in s) (by omega)).mono ?_; rintro e w' ⟨rfl, rfl⟩))
  go_quiet (fail)
  go_wp2_with (first | ((with_reducible refine gate_builtin (b := .append) (xs := #[.tmp 79, .tmp 80]) rfl ?_); at_builtin; refine print_append_str (w0 := W1.drewN nq) B rfl (.tmp 79) (.tmp 80) 22 9 5 rfl Try.underlying22 Try.underlying9 info5 (.slice A 0 c) ([] : List Int) s rfl rfl ?bO (Below.refl _ _) ?bS ?bL ?_; (case bO => exact Kd.own_of_R (Kd.R_drewN HR1.out _)); (case bS => exact (by have := HB1.out.size; simp only [World.heap_drewN]; omega)); (case bL => simp only [List.length_nil]; omega); intro v3 w3 ho3 _ hg3; obtain ⟨H3, hH3⟩ : ∃ l : List Int, l = [] ++ bytesOf s := ⟨_, rfl⟩; rw [← hH3] at ho3; have NH3 := Aside0.mk hH3; clear hH3; obtain ⟨A3, cp3, ev3⟩ := Kd.R_slice (Kd.R_of_own (enc := Value.int .u8) (h1 := fun _ => rfl) (ok := fun _ => True) ho3 (fun _ _ => trivial)); subst ev3; have b3 := (hg3.block g (by simp only [World.heap_drewN]; exact HG.out) (fun e => HR1.out.1 g e.symm rfl)).trans HK1.out; have c3 := blk_cell b3 1; have f3 := blk_frozen b3 1; have HO3 := Aside0.mk ho3; have HK3 := Aside0.mk b3; have HG3 := Aside0.mk hg3; clear ho3 hg3 b3))
  go_ret2
  have hne3 : ∀ k, (Value.slice A3 H3.length cp3).ownBlock = some k → k ≠ g := by
    intro k e eg
    obtain ⟨cells, hc⟩ := own_typed HO3.out k e
    rw [eg, HK3.out] at hc
    injection hc with hc
    injection hc with _ hc
    exact absurd hc (by decide)
  refine ⟨.slice A3 H3.length cp3, rfl, ⟨blk_put HK3.out 1 _ rfl, ?_, HM.out.ge⟩, ?_⟩
  · rw [← List.nil_append (bytesOf s), ← NH3.out]
    exact R_tight (Kd.R_of_own (enc := Value.int .u8) (h1 := fun _ => rfl) (ok := fun _ => True) HO3.out (fun _ _ => trivial)) (fun k e => ⟨Below.heap_setCell _ _ _ _ (hne3 k e), hne3 k e, own_base HO3.out k e⟩)
  · exact ((((Keep.of_below HB1.out).drewN nq).grown HG3.out (fun k e => .inl (.inr e.symm))).set _ _ (.inl (.inl rfl)))

set_option maxHeartbeats 1600000 in
theorem Packer_Add_full {w : World} {B g : Nat} {v : Value} {size : Int} {held : List Int} (s : ByteArray) (h : PkAt w B g v size held) (hs : 1 ≤ size) (hs2 : size ≤ 65536) (hB : B ≤ w.heap.size) (hsz : s.size ≤ 140737488351232) (hgood : ¬ badLine s) (hlong : (s.size : Int) ≤ size)
    (hne : 0 < held.length) (hle : (held.length : Int) ≤ 65536) (hfit : ¬ (held.length : Int) + 1 + s.size ≤ size) :
    Calls Try.prog 18 #[.pointer (some ⟨g, 0, none⟩), .string s] w fun e w' => ∃ o v', e = .returned (.tuple #[o, .int .i64 0]) ∧ PkAt w' B g v' size (bytesOf s) ∧ Kd.R (Kd.int .u8) 5 w' w.heap.size (fun k => w.heap.size ≤ k) o held ∧ Keep w w' (fun k => k = g ∨ some k = v.ownBlock) := by
  have HM := Aside0.mk h
  obtain ⟨A, c, hv⟩ := Kd.R_slice h.row
  subst hv
  obtain ⟨h0, h1, h2⟩ : ¬ s.size = 0 ∧ ¬ bt s ((s.size : Int) - 1) = 13 ∧ ¬ 0 ≤ idx 10 (bytesOf s) := by
    refine ⟨fun c => hgood (.inl c), fun c => hgood (.inr (.inl c)), fun c => hgood (.inr (.inr c))⟩
  have e1 := str_full h0
  obtain ⟨j, hj⟩ : ∃ j : Int, (s.size : Int) - 1 = j := ⟨_, rfl⟩
  have hjw : wrap64 ((s.size : Int) - 1) = j := by rw [← hj]; unfold wrap64; omega
  have hjw2 : IntKind.i64.wrap ((s.size : Int) - 1) = j := (i64_w _).trans hjw
  have hx := bt_at s j
  have p0 := eq_true (show 0 ≤ j by omega)
  have p1 := eq_true (show j < s.size by omega)
  rw [hj] at h1
  have e2 : (bt s j == 13) = false := beq_eq_false_iff_ne.mpr h1
  have e3 : decide (0 ≤ idx 10 (bytesOf s)) = false := decide_eq_false h2
  have e4 : decide (size < (s.size : Int)) = false := decide_eq_false (by omega)
  obtain ⟨cc, W1, hcv, hb1, hC1, hc1, hs1⟩ := run_conv w s (by omega)
  have HC1 := Aside0.mk hC1
  have HB1 := Aside0.mk hb1
  have hgl := blk_lt h.blk
  have hblk1 := (hb1.block g hgl).trans h.blk
  have HK1 := Aside0.mk hblk1
  have c0 := blk_cell hblk1 0
  have c1 := blk_cell hblk1 1
  have f1 := blk_frozen hblk1 1
  have HR1 := Aside0.mk (Kd.R_below h.row hb1)
  have HG := Aside0.mk (show g < W1.heap.size by omega)
  have e5 : decide (0 < (held.length : Int)) = true := decide_eq_true (by omega)
  have e5b : decide (0 < held.length) = true := decide_eq_true (by omega)
  have e6 : decide (size < (held.length : Int) + 1 + (s.size : Int)) = true := decide_eq_true (by omega)
  have HP1 := Aside0.mk (PkAt.mk hblk1 HR1.out h.ge)
  clear h h1 h2 hgood hb1 hC1 hs1 hblk1
  go_enter Try.func18, Try.ntmps18
  go_wp2_with (first | (go_at_call 34; (with_reducible refine (Packer_made_yes HM.out hs).mono ?_); rintro e w' ⟨rfl, rfl⟩) | (go_at_call 30; refine (bytes_IndexByte.callsN (some ⟨w.heap.size, 0, none⟩) s.size cc (bytesOf s) 10 W1 (bytes_len s) HC1.out (bytesOf_in s) (by omega)).mono ?_; rintro e w' ⟨rfl, rfl⟩))
  go_quiet (fail)
  go_wp2_with (first
    | (go_at_call 16; refine (Packer_Flush_full (w := W1.drewN nq) (B := B) (g := g) (v := .slice A held.length c) (size := size) (held := held) ⟨HP1.out.blk, Kd.R_drewN HP1.out.row _, HP1.out.ge⟩ hs (by have := HB1.out.size; simp only [World.heap_drewN]; omega) hne (by omega)).mono ?_; rintro e w2 ⟨o, rfl, hp2, ho2, hk2⟩; have c2 := blk_cell hp2.blk 1; have f2 := blk_frozen hp2.blk 1; have HP2 := Aside0.mk hp2; have HO2 := Aside0.mk ho2; have HK2 := Aside0.mk hk2; clear hp2 ho2 hk2)
    | ((with_reducible refine gate_builtin (b := .append) (xs := #[.tmp 79, .tmp 80]) rfl ?_); at_builtin; refine print_append_str (w0 := w2) B rfl (.tmp 79) (.tmp 80) 22 9 5 rfl Try.underlying22 Try.underlying9 info5 (.slice none 0 0) ([] : List Int) s rfl rfl ?bO (Below.refl _ _) ?bS ?bL ?_; (case bO => exact Kd.own_of_R HP2.out.row); (case bS => exact (by have := HB1.out.size; have := HK2.out.size; simp only [World.heap_drewN] at this; omega)); (case bL => simp only [List.length_nil]; omega); intro v3 w3 ho3 _ hg3; obtain ⟨H3, hH3⟩ : ∃ l : List Int, l = [] ++ bytesOf s := ⟨_, rfl⟩; rw [← hH3] at ho3; have NH3 := Aside0.mk hH3; clear hH3; obtain ⟨A3, cp3, ev3⟩ := Kd.R_slice (Kd.R_of_own (enc := Value.int .u8) (h1 := fun _ => rfl) (ok := fun _ => True) ho3 (fun _ _ => trivial)); subst ev3; have b3 := (hg3.block g (blk_lt HP2.out.blk) (fun e => by simp [Value.ownBlock] at e)).trans HP2.out.blk; have c3 := blk_cell b3 1; have f3 := blk_frozen b3 1; have HO3 := Aside0.mk ho3; have HK3 := Aside0.mk b3; have HG3 := Aside0.mk hg3; clear ho3 hg3 b3))
  go_ret2
  have hne3 : ∀ k, (Value.slice A3 H3.length cp3).ownBlock = some k → k ≠ g := by
    intro k e eg
    obtain ⟨cells, hc⟩ := own_typed HO3.out k e
    rw [eg, HK3.out] at hc
    injection hc with hc
    injection hc with _ hc
    exact absurd hc (by decide)
  have hsz1 := HB1.out.size
  have hsz2 := HK2.out.size
  simp only [World.heap_drewN] at hsz2
  refine ⟨o, .slice A3 H3.length cp3, rfl, ⟨blk_put HK3.out 1 _ rfl, ?_, HM.out.ge⟩, ?_, ?_⟩
  · rw [← List.nil_append (bytesOf s), ← NH3.out]
    exact R_tight (Kd.R_of_own (enc := Value.int .u8) (h1 := fun _ => rfl) (ok := fun _ => True) HO3.out (fun _ _ => trivial)) (fun k e => ⟨Below.heap_setCell _ _ _ _ (hne3 k e), hne3 k e, own_base HO3.out k e⟩)
  · refine R_tight HO2.out (fun k e => ?_)
    have hk0 := HO2.out.1 k e
    have hk1 := R_lt' HO2.out k e
    simp only [World.heap_drewN] at hk0
    have hkg : k ≠ g := by have := HG.out; omega
    exact ⟨(Below.heap_setCell _ _ _ _ hkg).trans (HG3.out.block k hk1 (fun e => by simp [Value.ownBlock] at e)), by omega, by omega⟩
  · exact (((((Keep.of_below HB1.out).drewN nq).trans HK2.out (T := fun k => k = g ∨ some k = (Value.slice A held.length c).ownBlock) (fun k _ h => h) (fun k _ h => .inl h)).grown HG3.out (fun k e => by simp [Value.ownBlock] at e)).set _ _ (.inl (.inl rfl)))
end Go.Proofs.Ytoflnoaabjomaaa.Q
