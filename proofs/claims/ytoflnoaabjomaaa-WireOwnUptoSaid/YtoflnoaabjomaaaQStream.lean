import Derived.Test.YtoflnoaabjomaaaQBack
namespace Go.Proofs.Ytoflnoaabjomaaa.Q
open Go.RowKit Go.Proofs.YtoflnoaabjomaaaW.PrintWords Go.Proofs.YtoflnoaabjomaaaW.PrintLast Go.Proofs.YtoflnoaabjomaaaW.PrintMore Go.Proofs.YtoflnoaabjomaaaV
set_option linter.unusedVariables false
set_option linter.unusedSimpArgs false

/-! the stream's law, byte by byte -/
def lostN (limit : Int) (cur : List Int) : Int := if limit < ((bareL cur).length : Int) then 1 else 0
def outL (limit : Int) (cur : List Int) : List ByteArray := if limit < ((bareL cur).length : Int) then [] else if 0 < (bareL cur).length then [strOfNums (bareL cur)] else []
def oneIf (b : Bool) (s : ByteArray) : List ByteArray := if b = true then [s] else []
def lineB (limit : Int) (cur : List Int) : Bool := decide (¬ limit < ((bareL cur).length : Int) ∧ 0 < (bareL cur).length)
def feedS (limit : Int) : List Int → List Int → Int → (List Int × Int) × List ByteArray
  | [], cur, lost => ((cur, lost), [])
  | c :: r, cur, lost => if c = 10 then ((feedS limit r [] (lost + lostN limit cur)).1, outL limit cur ++ (feedS limit r [] (lost + lostN limit cur)).2) else feedS limit r (cur ++ [c]) lost
theorem feedS_app (limit : Int) : ∀ (a b cur : List Int) (lost : Int), feedS limit (a ++ b) cur lost = ((feedS limit b (feedS limit a cur lost).1.1 (feedS limit a cur lost).1.2).1, (feedS limit a cur lost).2 ++ (feedS limit b (feedS limit a cur lost).1.1 (feedS limit a cur lost).1.2).2) := by
  intro a
  induction a with
  | nil => intro b cur lost; simp [feedS]
  | cons x r ih =>
    intro b cur lost
    simp only [List.cons_append, feedS]
    split
    · rw [ih]; simp [List.append_assoc]
    · rw [ih]
theorem feedS_snoc (limit : Int) (a : List Int) (c : Int) (cur : List Int) (lost : Int) {cur1 : List Int} {lost1 : Int} {o1 : List ByteArray} (h : feedS limit a cur lost = ((cur1, lost1), o1)) :
    feedS limit (a ++ [c]) cur lost = if c = 10 then (([], lost1 + lostN limit cur1), o1 ++ outL limit cur1) else ((cur1 ++ [c], lost1), o1) := by
  rw [feedS_app, h]
  simp only [feedS]
  split <;> simp

theorem bareL_len (l : List Int) : (bareL l).length ≤ l.length := by
  unfold bareL; split
  · rw [List.length_take]; omega
  · omega
theorem feedS_len (limit : Int) : ∀ (b cur : List Int) (lost : Int), (feedS limit b cur lost).1.1.length ≤ cur.length + b.length ∧ lost ≤ (feedS limit b cur lost).1.2 ∧ (feedS limit b cur lost).1.2 ≤ lost + b.length ∧ (feedS limit b cur lost).2.length ≤ b.length := by
  intro b
  induction b with
  | nil => intro cur lost; simp [feedS]
  | cons c r ih =>
    intro cur lost
    simp only [feedS]
    split
    · obtain ⟨h1, h2, h3, h4⟩ := ih [] (lost + lostN limit cur)
      have hl : 0 ≤ lostN limit cur ∧ lostN limit cur ≤ 1 := by unfold lostN; split <;> omega
      have ho : (outL limit cur).length ≤ 1 := by unfold outL; split; simp; split <;> simp
      simp only [List.length_cons, List.length_append, List.length_nil] at *
      omega
    · obtain ⟨h1, h2, h3, h4⟩ := ih (cur ++ [c]) lost
      simp only [List.length_cons, List.length_append, List.length_nil] at *
      omega
theorem feedS_bytes (limit : Int) : ∀ (b cur : List Int) (lost : Int), bytesIn b → bytesIn cur → bytesIn (feedS limit b cur lost).1.1 := by
  intro b
  induction b with
  | nil => intro cur lost _ h; exact h
  | cons c r ih =>
    intro cur lost hb hc
    simp only [feedS]
    have hr : bytesIn r := fun x hx => hb x (List.mem_cons_of_mem _ hx)
    split
    · exact ih _ _ hr (fun x hx => by cases hx)
    · refine ih _ _ hr (fun x hx => ?_)
      rcases List.mem_append.1 hx with h | h
      · exact hc x h
      · simp at h; subst h; exact hb _ List.mem_cons_self

/-- A stream. -/
structure StAt (w : World) (B g : Nat) (v : Value) (limit last : Int) (cur : List Int) (lost : Int) : Prop where
  blk : w.heap[g]? = some (.cells #[.int .i64 limit, v, .int .u8 last, .int .i64 cur.length, .int .i64 lost] 64 (0, 0))
  row : Kd.R (Kd.int .u8) 5 w B (fun k => k ≠ g) v (cur.take (limit + 1).toNat)
  ge : B ≤ g
  lst : 0 < cur.length → last = rd cur ((cur.length : Int) - 1)
theorem StAt.keep {w w' : World} {B g : Nat} {v : Value} {limit last : Int} {cur : List Int} {lost : Int} {S : Nat → Prop} (h : StAt w B g v limit last cur lost) (hk : Keep w w' S) (hg : ¬ S g) (hv : ∀ k, v.ownBlock = some k → ¬ S k) : StAt w' B g v limit last cur lost :=
  ⟨(hk.block g (blk_lt h.blk) hg).trans h.blk, R_keep h.row hk hv, h.ge, h.lst⟩

set_option maxHeartbeats 400000 in
theorem NewStream_yes (limit : Int) (w : World) (h1 : 1 ≤ limit) (h2 : limit ≤ 1024) :
    Calls Try.prog 23 #[.int .i64 limit] w fun e w' => e = .returned (.tuple #[.pointer (some ⟨w.heap.size, 0, none⟩), .int .i64 0]) ∧ StAt w' w.heap.size w.heap.size (.slice none 0 0) limit 0 [] 0 ∧ Below w.heap.size w w' := by
  have d1 : decide (limit < 1) = false := decide_eq_false (by omega)
  have d2 : decide (1024 < limit) = false := decide_eq_false (by omega)
  go_enter Try.func23, Try.ntmps23
  go_wp2
  go_ret2
  exact ⟨rfl, ⟨heap_alloc_new _ _, by rw [List.take_nil]; exact Kd.R_nil _ _ _ _ _, Nat.le_refl _, fun h => absurd h (by simp)⟩, (Below.refl _ _).alloc (Nat.le_refl _) _⟩
set_option maxHeartbeats 400000 in
theorem NewStream_no (limit : Int) (w : World) (h : ¬ (1 ≤ limit ∧ limit ≤ 1024)) :
    Calls Try.prog 23 #[.int .i64 limit] w fun e w' => e = .returned (.tuple #[.pointer none, .int .i64 50]) ∧ w = w' := by
  by_cases d1 : limit < 1
  · have d1b : decide (limit < 1) = true := decide_eq_true d1
    clear h
    go_enter Try.func23, Try.ntmps23
    go_wp2
    go_ret2
    exact ⟨rfl, rfl⟩
  · have d1b : decide (limit < 1) = false := decide_eq_false d1
    have d2b : decide (1024 < limit) = true := decide_eq_true (by omega)
    clear h
    go_enter Try.func23, Try.ntmps23
    go_wp2
    go_ret2
    exact ⟨rfl, rfl⟩
set_option maxHeartbeats 400000 in
theorem Stream_made_yes {w : World} {B g : Nat} {v : Value} {limit last : Int} {cur : List Int} {lost : Int} (h : StAt w B g v limit last cur lost) (hs : 1 ≤ limit) :
    Calls Try.prog 35 #[.pointer (some ⟨g, 0, none⟩)] w fun e w' => e = .returned (.bool true) ∧ w = w' := by
  have c0 := blk_cell h.blk 0
  have d : decide (0 < limit) = true := decide_eq_true (by omega)
  clear h
  go_enter Try.func35, Try.ntmps35
  go_wp2
  go_ret
  exact ⟨rfl, rfl⟩
set_option maxHeartbeats 400000 in
theorem Stream_made_nil (w : World) : Calls Try.prog 35 #[.pointer none] w fun e w' => e = .returned (.bool false) ∧ w = w' := by
  go_enter Try.func35, Try.ntmps35
  go_wp2
  go_ret
  exact ⟨rfl, rfl⟩
set_option maxHeartbeats 400000 in
theorem Stream_made_zero (w : World) (g : Nat) (cs : Array Value) (h : w.heap[g]? = some (.cells cs 64 (0, 0))) (h0 : cs[0]? = some (.int .i64 0)) : Calls Try.prog 35 #[.pointer (some ⟨g, 0, none⟩)] w fun e w' => e = .returned (.bool false) ∧ w = w' := by
  have c0 := blk_cell h 0
  rw [h0] at c0
  clear h
  go_enter Try.func35, Try.ntmps35
  go_wp2
  go_ret
  exact ⟨rfl, rfl⟩
set_option maxHeartbeats 400000 in
theorem Stream_Lost {w : World} {B g : Nat} {v : Value} {limit last : Int} {cur : List Int} {lost : Int} (h : StAt w B g v limit last cur lost) (hs : 1 ≤ limit) :
    Calls Try.prog 27 #[.pointer (some ⟨g, 0, none⟩)] w fun e w' => e = .returned (.int .i64 lost) ∧ w = w' := by
  have c4 := blk_cell h.blk 4
  have HM := Aside0.mk h
  clear h
  go_enter Try.func27, Try.ntmps27
  go_wp2_with (first | (go_at_call 35; (with_reducible refine (Stream_made_yes HM.out hs).mono ?_); rintro e w' ⟨rfl, rfl⟩))
  go_ret
  exact ⟨rfl, rfl⟩
set_option maxHeartbeats 400000 in
theorem Stream_End {w : World} {B g : Nat} {v : Value} {limit last : Int} {cur : List Int} {lost : Int} (h : StAt w B g v limit last cur lost) (hs : 1 ≤ limit) :
    Calls Try.prog 28 #[.pointer (some ⟨g, 0, none⟩)] w fun e w' => e = .returned (.string (strOfNums (cur.take (limit + 1).toNat))) ∧ w = w' := by
  obtain ⟨A, c, rfl⟩ := Kd.R_slice h.row
  have c1 := blk_cell h.blk 1
  have hcv := Kd.C_string (P := Try.prog) (A := A) (c := c) Try.underlying22 Try.underlying5 Try.underlying9 (Kd.R_reads' h.row).2.2
  have HM := Aside0.mk h
  obtain ⟨n, hn⟩ : ∃ n, n = (cur.take (limit + 1).toNat).length := ⟨_, rfl⟩
  obtain ⟨S, hS⟩ : ∃ S, S = strOfNums (cur.take (limit + 1).toNat) := ⟨_, rfl⟩
  rw [← hS] at hcv ⊢
  rw [← hn] at hcv c1
  clear h hS hn
  go_enter Try.func28, Try.ntmps28
  go_wp2_with (first | (go_at_call 35; (with_reducible refine (Stream_made_yes HM.out hs).mono ?_); rintro e w' ⟨rfl, rfl⟩))
  go_ret
  exact ⟨rfl, rfl⟩

theorem run_cuth {P : Program} (t e : TypeId) (i : TypeInfo) (ht : P.underlying t = some (.slice e)) (hi : P.info? e = some i) (hsz : i.size = 1) (A : Option Addr) (n c : Nat) (j : Int) (h0 : 0 ≤ j) (hm : j ≤ n) (hc : n ≤ c) :
    ∀ W : World, (Instr.slice t (.slice A n c) none (some (.int .i64 j)) none).run P W = .ok (.slice A j.toNat c) W := by
  intro W
  have hel : P.elem t = e := by simp [Program.elem, ht]
  have hu : P.underlying t = some (.slice (P.elem t)) := by rw [hel]; exact ht
  have ha : (A.map fun x => x.add 0) = A := by cases A <;> simp [Addr.add]
  rw [run_slice_h W t A n c hu .i64 j h0 (by omega), hel]
  simp [sizeOf, typeInfo, hi, hsz, sliced, Result.andThen, ha]

/-- The line's bytes, out of what is held. -/
theorem held_bare (limit : Int) (cur : List Int) (h : ((bareL cur).length : Int) ≤ limit) : (cur.take (limit + 1).toNat).take (bareL cur).length = bareL cur := by
  rw [List.take_take, Nat.min_eq_left (by omega)]
  unfold bareL
  split
  · rw [List.length_take]; congr 1; omega
  · exact List.take_length

set_option maxHeartbeats 1600000 in
theorem Stream_line {w : World} {B g : Nat} {v : Value} {limit last : Int} {cur : List Int} {lost : Int} (h : StAt w B g v limit last cur lost) (hs : 1 ≤ limit) (hlen : cur.length ≤ 1099511627776) (hlost : 0 ≤ lost ∧ lost ≤ 1099511627776) :
    Calls Try.prog 36 #[.pointer (some ⟨g, 0, none⟩)] w fun e w' => ∃ (s : ByteArray), e = .returned (.tuple #[.string s, .bool (lineB limit cur)]) ∧ outL limit cur = oneIf (lineB limit cur) s ∧ StAt w' B g (.slice none 0 0) limit last [] (lost + lostN limit cur) ∧ Keep w w' (fun k => k = g) := by
  obtain ⟨A, c, rfl⟩ := Kd.R_slice h.row
  obtain ⟨i5, hi5, hz⟩ := Option.map_eq_some_iff.1 info5
  simp only [Prod.mk.injEq] at hz
  have c0 := blk_cell h.blk 0
  have c1 := blk_cell h.blk 1
  have c2 := blk_cell h.blk 2
  have c3 := blk_cell h.blk 3
  have c4 := blk_cell h.blk 4
  have f1 := blk_frozen h.blk 1
  have f3 := blk_frozen h.blk 3
  have f4 := blk_frozen h.blk 4
  have hb1 := blk_put h.blk 1 (.slice none 0 0) rfl
  have hb2 := blk_put hb1 3 (.int .i64 0) rfl
  have hb3 := blk_put hb2 4 (.int .i64 (lost + 1)) rfl
  have hbl := bareL_len cur
  have hK1 : Keep w ((w.setCell ⟨g, 1, none⟩ (.slice none 0 0)).setCell ⟨g, 3, none⟩ (.int .i64 0)) (fun k => k = g) := ((Keep.refl w (fun k => k = g)).set ⟨g, 1, none⟩ _ (.inl rfl)).set ⟨g, 3, none⟩ _ (.inl rfl)
  have hrow := R_keep h.row hK1 (fun k e eg => h.row.1 k e eg)
  obtain ⟨hcc, hcc2, hC⟩ := Kd.R_reads' hrow
  have HS1 := Aside0.mk (show StAt ((w.setCell ⟨g, 1, none⟩ (.slice none 0 0)).setCell ⟨g, 3, none⟩ (.int .i64 0)) B g (.slice none 0 0) limit last [] lost from ⟨hb2, by rw [List.take_nil]; exact Kd.R_nil _ _ _ _ _, h.ge, fun h => absurd h (by simp)⟩)
  have HS2 := Aside0.mk (show StAt (((w.setCell ⟨g, 1, none⟩ (.slice none 0 0)).setCell ⟨g, 3, none⟩ (.int .i64 0)).setCell ⟨g, 4, none⟩ (.int .i64 (lost + 1))) B g (.slice none 0 0) limit last [] (lost + 1) from ⟨hb3, by rw [List.take_nil]; exact Kd.R_nil _ _ _ _ _, h.ge, fun h => absurd h (by simp)⟩)
  have HK1 := Aside0.mk hK1
  have HK2 := Aside0.mk (hK1.set ⟨g, 4, none⟩ (.int .i64 (lost + 1)) (.inl rfl))
  have g0 := blk_cell hb2 0
  have g4 := blk_cell hb2 4
  have gf4 := blk_frozen hb2 4
  obtain ⟨nb, hnb⟩ : ∃ nb, nb = (bareL cur).length := ⟨_, rfl⟩
  have hbare := h.lst
  -- the slice and its text
  have hrun : (nb : Int) ≤ limit → ∀ W : World, (Instr.slice 22 (.slice A (cur.take (limit + 1).toNat).length c) none (some (.int .i64 nb)) none).run Try.prog W = .ok (.slice A nb c) W := by
    intro hl W
    have := run_cuth (P := Try.prog) 22 5 i5 Try.underlying22 hi5 hz.2.1 A (cur.take (limit + 1).toNat).length c (nb : Int) (by omega) (by rw [List.length_take]; omega) (by omega) W
    simpa using this
  have hcv : (nb : Int) ≤ limit → (convert 22 9 (.slice A nb c)).run Try.prog ((w.setCell ⟨g, 1, none⟩ (.slice none 0 0)).setCell ⟨g, 3, none⟩ (.int .i64 0)) = .ok (.string (strOfNums (bareL cur))) ((w.setCell ⟨g, 1, none⟩ (.slice none 0 0)).setCell ⟨g, 3, none⟩ (.int .i64 0)) := by
    intro hl
    have := Kd.C_string (P := Try.prog) (A := A) (c := c) Try.underlying22 Try.underlying5 Try.underlying9 (C_take hC nb)
    rw [hnb, held_bare limit cur (by omega), ← hnb] at this
    exact this
  obtain ⟨m, hm⟩ : ∃ m, m = (cur.take (limit + 1).toNat).length := ⟨_, rfl⟩
  rw [← hm] at hrun c1
  have hout : outL limit cur = if limit < (nb : Int) then [] else if 0 < nb then [strOfNums (bareL cur)] else [] := by unfold outL; rw [hnb]
  have hbo : lineB limit cur = decide (¬ limit < (nb : Int) ∧ 0 < nb) := by unfold lineB; rw [hnb]
  have hlo : lostN limit cur = if limit < (nb : Int) then 1 else 0 := by unfold lostN; rw [hnb]
  obtain ⟨S, hS⟩ : ∃ S, S = strOfNums (bareL cur) := ⟨_, rfl⟩
  rw [← hS] at hcv hout
  -- the number of its bytes, as the code has it
  have hway : (cur.length = 0 ∧ nb = 0) ∨ (0 < cur.length ∧ last = 13 ∧ (nb : Int) = (cur.length : Int) - 1) ∨ (0 < cur.length ∧ ¬ last = 13 ∧ nb = cur.length) := by
    by_cases h0 : 0 < cur.length
    · have e := hbare h0
      unfold bareL at hnb
      by_cases h1 : last = 13
      · rw [if_pos ⟨by omega, by rw [← e]; exact h1⟩, List.length_take] at hnb
        exact .inr (.inl ⟨h0, h1, by omega⟩)
      · rw [if_neg (by rintro ⟨_, h2⟩; exact h1 (e.trans h2))] at hnb
        exact .inr (.inr ⟨h0, h1, hnb⟩)
    · exact .inl ⟨by omega, by omega⟩
  have HO := Aside0.mk hout
  have HLo := Aside0.mk hlo
  have HBo := Aside0.mk hbo
  clear hout hlo hbo hS hm hnb hbare hC hcc hcc2 hrow hK1 hb1 hb2 hb3 h hz hi5
  rcases hway with ⟨hw1, hw2⟩ | ⟨hw1, hw2, hw3⟩ | ⟨hw1, hw2, hw3⟩
  · obtain rfl := List.eq_nil_of_length_eq_zero hw1
    subst hw2
    have r1 := hrun (by omega)
    have r2 := hcv (by omega)
    clear hrun hcv
    have dl : decide (limit < 0) = false := decide_eq_false (by omega)
    go_enter Try.func36, Try.ntmps36
    go_wp2
    go_ret2
    have hB := HBo.out.trans (decide_eq_false (by omega))
    rw [hB]
    exact ⟨_, rfl, by rw [HO.out, if_neg (by omega)]; simp [oneIf], by rw [HLo.out, if_neg (by omega), Int.add_zero]; exact HS1.out, HK1.out⟩
  · subst hw2
    have dn : decide (0 < (cur.length : Int)) = true := decide_eq_true (by omega)
    have dn2 : decide (0 < cur.length) = true := decide_eq_true (by omega)
    by_cases hl : limit < (nb : Int)
    · have dl : decide (limit < (nb : Int)) = true := decide_eq_true hl
      rw [hw3] at dl
      clear hrun hcv
      go_enter Try.func36, Try.ntmps36
      go_wp2
      go_ret2
      have hB := HBo.out.trans (decide_eq_false (by omega))
      rw [hB]
      exact ⟨_, rfl, by rw [HO.out, if_pos hl]; simp [oneIf], by rw [HLo.out, if_pos hl]; exact HS2.out, HK2.out⟩
    · have dl : decide (limit < (nb : Int)) = false := decide_eq_false hl
      have r1 := hrun (by omega)
      have r2 := hcv (by omega)
      rw [hw3] at dl r1
      clear hrun hcv
      by_cases hp : 0 < nb
      · have dp : decide (0 < (nb : Int)) = true := decide_eq_true (by omega)
        rw [hw3] at dp
        have dq : decide (1 < (cur.length : Int)) = true := decide_eq_true (by omega)
        have dq2 : decide (1 < cur.length) = true := decide_eq_true (by omega)
        go_enter Try.func36, Try.ntmps36
        go_wp2
        go_ret2
        have hB := HBo.out.trans (decide_eq_true (by omega))
        rw [hB]
        exact ⟨_, rfl, by rw [HO.out, if_neg (by omega), if_pos hp]; simp [oneIf], by rw [HLo.out, if_neg (by omega), Int.add_zero]; exact HS1.out, HK1.out⟩
      · have dp : decide (0 < (nb : Int)) = false := decide_eq_false (by omega)
        rw [hw3] at dp
        have dq : decide (1 < (cur.length : Int)) = false := decide_eq_false (by omega)
        have dq2 : decide (1 < cur.length) = false := decide_eq_false (by omega)
        go_enter Try.func36, Try.ntmps36
        go_wp2
        go_ret2
        have hB := HBo.out.trans (decide_eq_false (by omega))
        rw [hB]
        exact ⟨_, rfl, by rw [HO.out, if_neg (by omega), if_neg (by omega)]; simp [oneIf], by rw [HLo.out, if_neg (by omega), Int.add_zero]; exact HS1.out, HK1.out⟩
  · subst nb
    have dn : decide (0 < (cur.length : Int)) = true := decide_eq_true (by omega)
    have dn2 : decide (0 < cur.length) = true := decide_eq_true (by omega)
    have d13 : (last == 13) = false := beq_eq_false_iff_ne.mpr hw2
    by_cases hl : limit < (cur.length : Int)
    · have dl : decide (limit < (cur.length : Int)) = true := decide_eq_true hl
      clear hrun hcv
      go_enter Try.func36, Try.ntmps36
      go_wp2
      go_ret2
      have hB := HBo.out.trans (decide_eq_false (by omega))
      rw [hB]
      exact ⟨_, rfl, by rw [HO.out, if_pos hl]; simp [oneIf], by rw [HLo.out, if_pos hl]; exact HS2.out, HK2.out⟩
    · have dl : decide (limit < (cur.length : Int)) = false := decide_eq_false hl
      have r1 := hrun (by omega)
      have r2 := hcv (by omega)
      clear hrun hcv
      go_enter Try.func36, Try.ntmps36
      go_wp2
      go_ret2
      have hB := HBo.out.trans (decide_eq_true (by omega))
      rw [hB]
      exact ⟨_, rfl, by rw [HO.out, if_neg (by omega), if_pos hw1]; simp [oneIf], by rw [HLo.out, if_neg (by omega), Int.add_zero]; exact HS1.out, HK1.out⟩
end Go.Proofs.Ytoflnoaabjomaaa.Q
