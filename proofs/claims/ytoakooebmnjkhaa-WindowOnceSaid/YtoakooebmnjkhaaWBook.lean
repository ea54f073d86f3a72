import Derived.Test.YtoakooebmnjkhaaPWin
import Derived.Test.YtoakooebmnjkhaaWGen
import Derived.WalkSpells
namespace Go.Proofs.Ytoakooebmnjkhaa.Q
open Go.RowKit Go.Proofs.YtoakooebmnjkhaaW.PrintWords Go.Proofs.YtoakooebmnjkhaaW.PrintLast Go.Proofs.YtoakooebmnjkhaaW.PrintMore Go.Proofs.YtoakooebmnjkhaaV
set_option linter.unusedVariables false
set_option linter.unusedSimpArgs false

theorem hop {w w1 w2 : World} (h : Below w.heap.size w w1) (h' : Below w1.heap.size w1 w2) : Below w.heap.size w w2 := h.trans ⟨h'.os, h'.tape, h'.output, h'.size, fun k hk => h'.block k (Nat.lt_of_lt_of_le hk h.size)⟩
theorem k64 : Maps.Keyed Try.prog 2 := Maps.int_keyed Try.underlying2
theorem key64 {x : Int} (h : in64 x) : keyOf Try.prog 2 (.int .i64 x) = some (kI x) := Maps.keyOf_int_mk Try.underlying2 (wf_kI h)
/-- What the map's block is good for, its bound as tight as can be. -/
theorem owns_tight {w : World} {P : Program} {k : TypeId} {R : Value → Option (DataW Unit × List MemPlace)} {b n : Nat} {D : DataW Unit} (h : w.ownsMap P k R b n D) : w.ownsMap P k R b (Maps.size D) D := by
  obtain ⟨es, clock, hb, F, hs, rfl⟩ := h
  exact ⟨es, clock, hb, F, by simp [Maps.size, length_sorted], rfl⟩
def MapIs (w : World) (gm : Nat) (L : List Int) : Prop := ∃ D : DataW Unit, w.ownsMap Try.prog 2 unitElem gm L.length D ∧ SetIs D L
structure BkAt (w : World) (gb gm : Nat) (b : BkS) : Prop where
  blk : w.heap[gb]? = some (.cells #[.int .i64 b.wd, .map (some gm), .int .i64 b.bound] 39 (0, 0))
  map : MapIs w gm b.L
  ok : BkOk b
theorem MapIs.lt {w : World} {gm : Nat} {L : List Int} (h : MapIs w gm L) : gm < w.heap.size := by
  obtain ⟨D, h, -⟩ := h
  exact h.lt
theorem MapIs.same {w w' : World} {gm : Nat} {L : List Int} (h : MapIs w gm L) (he : w'.heap[gm]? = w.heap[gm]?) : MapIs w' gm L := by
  obtain ⟨D, ⟨es, clock, hb, r⟩, hS⟩ := h
  exact ⟨D, ⟨es, clock, he.trans hb, r⟩, hS⟩
theorem MapIs.keep {w w' : World} {gm : Nat} {L : List Int} {S : Nat → Prop} (h : MapIs w gm L) (hk : Keep w w' S) (hS : ¬ S gm) : MapIs w' gm L := h.same (hk.block gm h.lt hS)
theorem BkAt.keep {w w' : World} {gb gm : Nat} {b : BkS} {S : Nat → Prop} (h : BkAt w gb gm b) (hk : Keep w w' S) (h1 : ¬ S gb) (h2 : ¬ S gm) : BkAt w' gb gm b :=
  ⟨(hk.block gb (blk_lt h.blk) h1).trans h.blk, h.map.keep hk h2, h.ok⟩
theorem BkAt.quiet {w w' : World} {gb gm : Nat} {b : BkS} (h : BkAt w gb gm b) (hk : Keep w w' (fun _ => False)) : BkAt w' gb gm b := h.keep hk (fun h => h) (fun h => h)
theorem BkAt.ne {w : World} {gb gm : Nat} {b : BkS} (h : BkAt w gb gm b) : gb ≠ gm := by
  intro e
  obtain ⟨D, ⟨es, clock, hb, -⟩, -⟩ := h.map
  have := h.blk
  rw [e, hb] at this
  cases this
/-- Only the map has turned. -/
theorem turned_keep {w w' : World} {gm : Nat} (h : w.mapTurned w' gm) : Keep w w' (fun k => k = gm) := by
  have hg := h.grown
  exact ⟨hg.os, hg.tape, hg.output, hg.size, fun k hk hS => hg.block k hk (fun e => hS (by injection e))⟩

set_option maxHeartbeats 1600000 in
theorem win_floor (t wd : Int) (w : World) (ht : in64 t) (hw : 1 ≤ wd) : Calls Try.prog 35 #[.int .i64 t, .int .i64 wd] w fun e w' => e = .returned (.int .i64 (t / wd)) ∧ w = w' := by
  have HF := Aside0.mk (Math.floor_eq t wd hw ht.1 ht.2)
  have hne : (wd == 0) = false := beq_eq_false_iff_ne.mpr (by omega)
  have hne2 : ¬ wd = 0 := by omega
  by_cases hm : Int.tmod t wd < 0
  · have d1 : decide (Int.tmod t wd < 0) = true := decide_eq_true hm
    rw [if_pos hm] at HF
    go_enter Try.func35, Try.ntmps35
    go_wp2
    go_ret
    exact ⟨by rw [← HF.out]; rfl, rfl⟩
  · have d1 : decide (Int.tmod t wd < 0) = false := decide_eq_false hm
    rw [if_neg hm] at HF
    go_enter Try.func35, Try.ntmps35
    go_wp2
    go_ret
    exact ⟨by rw [← HF.out]; rfl, rfl⟩
theorem win_wrong (wd : Int) (w : World) {q : Bool} (hq : decide (wd < 1 ∨ wd > 1048576) = q) : Calls Try.prog 34 #[.int .i64 wd] w fun e w' => e = .returned (.bool q) ∧ w = w' := by
  subst hq
  by_cases h1 : wd < 1
  · have d1 : decide (wd < 1) = true := decide_eq_true h1
    have HQ := Aside0.mk (show decide (wd < 1 ∨ wd > 1048576) = true from decide_eq_true (.inl h1))
    go_enter Try.func34, Try.ntmps34
    go_wp2
    go_ret
    first | (rw [HQ.out]; exact ⟨rfl, rfl⟩) | exact ⟨rfl, rfl⟩
  · have d1 : decide (wd < 1) = false := decide_eq_false h1
    by_cases h2 : 1048576 < wd
    · have d2 : decide (1048576 < wd) = true := decide_eq_true h2
      have HQ := Aside0.mk (show decide (wd < 1 ∨ wd > 1048576) = true from decide_eq_true (.inr h2))
      go_enter Try.func34, Try.ntmps34
      go_wp2
      go_ret
      first | (rw [HQ.out]; exact ⟨rfl, rfl⟩) | exact ⟨rfl, rfl⟩
    · have d2 : decide (1048576 < wd) = false := decide_eq_false h2
      have HQ := Aside0.mk (show decide (wd < 1 ∨ wd > 1048576) = false from decide_eq_false (by omega))
      go_enter Try.func34, Try.ntmps34
      go_wp2
      go_ret
      first | (rw [HQ.out]; exact ⟨rfl, rfl⟩) | exact ⟨rfl, rfl⟩
theorem ok_wrong {wd : Int} (h : 1 ≤ wd ∧ wd ≤ 1048576) : decide (wd < 1 ∨ wd > 1048576) = false := decide_eq_false (by omega)
set_option maxHeartbeats 1600000 in
theorem win_Through (m wd : Int) (w : World) (hm : in64 m) (hw : 1 ≤ wd ∧ wd ≤ 1048576) {a e : Int} (hae : (if m / wd = -9223372036854775808 then ((0 : Int), (60 : Int)) else (m / wd - 1, 0)) = (a, e)) : Calls Try.prog 15 #[.int .i64 m, .int .i64 wd] w fun e' w' => e' = .returned (.tuple #[.int .i64 a, .int .i64 e]) ∧ w = w' := by
  have HW := Aside0.mk (fun W => win_wrong wd W (ok_wrong hw))
  have HF := Aside0.mk (fun W => win_floor m wd W hm hw.1)
  have hd := div_in64 hm hw.1
  obtain ⟨q, hq⟩ : ∃ q, q = m / wd := ⟨_, rfl⟩
  rw [← hq] at HF hae hd
  by_cases h0 : q = -9223372036854775808
  · have e0 : (q == -9223372036854775808) = true := beq_iff_eq.mpr h0
    rw [if_pos h0] at hae
    obtain ⟨rfl, rfl⟩ := Prod.mk.inj hae
    clear h0 hq
    go_enter Try.func15, Try.ntmps15
    go_wp2_with (first
      | (go_at_call 34; (with_reducible refine (HW.out _).mono ?_); rintro e w' ⟨rfl, rfl⟩)
      | (go_at_call 35; (with_reducible refine (HF.out _).mono ?_); rintro e w' ⟨rfl, rfl⟩))
    go_ret2
    exact ⟨rfl, rfl⟩
  · have e0 : (q == -9223372036854775808) = false := beq_eq_false_iff_ne.mpr h0
    rw [if_neg h0] at hae
    obtain ⟨rfl, rfl⟩ := Prod.mk.inj hae
    have b1 : -9223372036854775808 ≤ q - 1 := by have := hd.1; omega
    have b2 : q - 1 ≤ 9223372036854775807 := by have := hd.2; omega
    clear h0 hq
    go_enter Try.func15, Try.ntmps15
    go_wp2_with (first
      | (go_at_call 34; (with_reducible refine (HW.out _).mono ?_); rintro e w' ⟨rfl, rfl⟩)
      | (go_at_call 35; (with_reducible refine (HF.out _).mono ?_); rintro e w' ⟨rfl, rfl⟩))
    go_ret2
    exact ⟨rfl, rfl⟩
set_option maxHeartbeats 1600000 in
theorem win_Of (t wd : Int) (w : World) (ht : in64 t) (hw : 1 ≤ wd ∧ wd ≤ 1048576) : Calls Try.prog 14 #[.int .i64 t, .int .i64 wd] w fun e' w' => e' = .returned (.tuple #[.int .i64 (t / wd), .int .i64 0]) ∧ w = w' := by
  have HW := Aside0.mk (fun W => win_wrong wd W (ok_wrong hw))
  have HF := Aside0.mk (fun W => win_floor t wd W ht hw.1)
  obtain ⟨q, hq⟩ : ∃ q, q = t / wd := ⟨_, rfl⟩
  rw [← hq] at HF ⊢
  clear hq
  go_enter Try.func14, Try.ntmps14
  go_wp2_with (first
    | (go_at_call 34; (with_reducible refine (HW.out _).mono ?_); rintro e w' ⟨rfl, rfl⟩)
    | (go_at_call 35; (with_reducible refine (HF.out _).mono ?_); rintro e w' ⟨rfl, rfl⟩))
  go_ret2
  exact ⟨rfl, rfl⟩
theorem book_made {w : World} {gb gm : Nat} {b : BkS} (h : BkAt w gb gm b) : Calls Try.prog 38 #[.pointer (some ⟨gb, 0, none⟩)] w fun e w' => e = .returned (.bool true) ∧ w = w' := by
  have c1 : w.cell? ⟨gb, 1, none⟩ = some (.map (some gm)) := blk_cell h.blk 1
  have hq : (binOp .neq 37 (.map (some gm)) (.map none)).run Try.prog w = .ok (.bool true) w := by kernel_rfl
  clear h
  go_enter Try.func38, Try.ntmps38
  go_wp2
  go_ret
  exact ⟨rfl, rfl⟩
theorem book_Closed {w : World} {gb gm : Nat} {b : BkS} (h : BkAt w gb gm b) : Calls Try.prog 28 #[.pointer (some ⟨gb, 0, none⟩)] w fun e w' => e = .returned (.int .i64 b.bound) ∧ w = w' := by
  have HM := Aside0.mk (book_made h)
  have c2 := blk_cell h.blk 2
  clear h
  go_enter Try.func28, Try.ntmps28
  go_wp2_with (first | (go_at_call 38; (with_reducible refine (HM.out).mono ?_); rintro e w' ⟨rfl, rfl⟩))
  go_ret
  exact ⟨rfl, rfl⟩
end Go.Proofs.Ytoakooebmnjkhaa.Q
