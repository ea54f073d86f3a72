/- For every second, a book that is nil, and one that New did not make, answer as the chapter says. -/
import Derived.Test.YtoakooebmnjkhaaProg
import Derived.Test.YtoakooebmnjkhaaVObj
import Derived.WalkSpells
namespace Go.Proofs.Ytoakooebmnjkhaa.Q
open Go.RowKit Go.Proofs.YtoakooebmnjkhaaW.PrintWords Go.Proofs.YtoakooebmnjkhaaW.PrintLast Go.Proofs.YtoakooebmnjkhaaW.PrintMore Go.Proofs.YtoakooebmnjkhaaV
set_option linter.unusedVariables false
set_option linter.unusedSimpArgs false
/-- Nobody's book. -/
def NoBk (w : World) (p : Value) : Prop := Calls Try.prog 38 #[p] w fun e w' => e = .returned (.bool false) ∧ w = w'
theorem NoBk.use {w : World} {p : Value} (h : NoBk w p) : Calls Try.prog 38 #[p] w fun e w' => e = .returned (.bool false) ∧ w = w' := h
theorem made_nil (w : World) : NoBk w (.pointer none) := by
  unfold NoBk
  go_enter Try.func38, Try.ntmps38
  go_wp2
  go_ret
  exact ⟨rfl, rfl⟩
theorem made_zero (w : World) (g : Nat) (h : w.heap[g]? = some (.cells #[.int .i64 0, .map none, .int .i64 0] 39 (0, 0))) : NoBk w (.pointer (some ⟨g, 0, none⟩)) := by
  unfold NoBk
  have c1 : w.cell? ⟨g, 1, none⟩ = some (.map none) := blk_cell h 1
  have hq : (binOp .neq 37 (.map none) (.map none)).run Try.prog w = .ok (.bool false) w := by kernel_rfl
  clear h
  go_enter Try.func38, Try.ntmps38
  go_wp2
  go_ret
  exact ⟨rfl, rfl⟩
theorem no_Put (w : World) (p : Option Addr) (t : Int) (h : NoBk w (.pointer p)) : Calls Try.prog 25 #[.pointer p, .int .i64 t] w fun e w' => e = .returned (.tuple #[.int .i64 0, .int .i64 4]) ∧ w = w' := by
  have H := Aside0.mk h
  clear h
  go_enter Try.func25, Try.ntmps25
  go_wp2_with (first | (go_at_call 38; (with_reducible refine (NoBk.use H.out).mono ?_); rintro e w' ⟨rfl, rfl⟩))
  go_ret2
  exact ⟨rfl, rfl⟩
theorem no_Close (w : World) (p : Option Addr) (t : Int) (h : NoBk w (.pointer p)) : Calls Try.prog 26 #[.pointer p, .int .i64 t] w fun e w' => e = .returned (.slice none 0 0) ∧ w = w' := by
  have H := Aside0.mk h
  clear h
  go_enter Try.func26, Try.ntmps26
  go_wp2_with (first | (go_at_call 38; (with_reducible refine (NoBk.use H.out).mono ?_); rintro e w' ⟨rfl, rfl⟩))
  go_ret
  exact ⟨rfl, rfl⟩
theorem no_Open (w : World) (p : Option Addr) (t : Int) (h : NoBk w (.pointer p)) : Calls Try.prog 27 #[.pointer p] w fun e w' => e = .returned (.slice none 0 0) ∧ w = w' := by
  have H := Aside0.mk h
  clear h
  go_enter Try.func27, Try.ntmps27
  go_wp2_with (first | (go_at_call 38; (with_reducible refine (NoBk.use H.out).mono ?_); rintro e w' ⟨rfl, rfl⟩))
  go_ret
  exact ⟨rfl, rfl⟩
theorem no_Closed (w : World) (p : Option Addr) (t : Int) (h : NoBk w (.pointer p)) : Calls Try.prog 28 #[.pointer p] w fun e w' => e = .returned (.int .i64 0) ∧ w = w' := by
  have H := Aside0.mk h
  clear h
  go_enter Try.func28, Try.ntmps28
  go_wp2_with (first | (go_at_call 38; (with_reducible refine (NoBk.use H.out).mono ?_); rintro e w' ⟨rfl, rfl⟩))
  go_ret
  exact ⟨rfl, rfl⟩
set_option maxHeartbeats 3200000 in
set_option maxRecDepth 4000 in
theorem tumblerlaw06_WindowNils.calls (a0 : Int) (w : World) : Calls Try.prog 10 #[.int .i64 a0] w fun e w' => e = .returned (.bool true) ∧ Below w.heap.size w w' := by
  obtain ⟨w1, hw1⟩ : ∃ w1, w1 = (w.alloc (.cells #[.int .i64 0, .map none, .int .i64 0] 39 (0, 0))).alloc (.cells #[.pointer none, .pointer (some ⟨w.heap.size, 0, none⟩)] 36 (0, 0)) := ⟨_, rfl⟩
  have b1 : w1.heap[w.heap.size]? = some (.cells #[.int .i64 0, .map none, .int .i64 0] 39 (0, 0)) := by rw [hw1]; exact blk_alloc (heap_alloc_new _ _) _
  have b2 : w1.heap[w.heap.size + 1]? = some (.cells #[.pointer none, .pointer (some ⟨w.heap.size, 0, none⟩)] 36 (0, 0)) := by rw [hw1]; exact heap_alloc2_new _ _ _
  have HB := Aside0.mk (show Below w.heap.size w w1 by rw [hw1]; exact below_alloc (below_alloc (Below.refl _ _) _) _)
  have HP := Aside0.mk (made_zero w1 w.heap.size b1)
  have k0 := blk_cell b2 0
  have k1 := blk_cell b2 1
  have HW := Aside0.mk hw1
  clear b1 b2 hw1
  go_enter Try.func10, Try.ntmps10
  go_wp2
  go_loopg [13] 2 (fun kq v13 w' => ∃ i : Nat, v13 = .int .i64 i ∧ i + kq = 2 ∧ w' = w1)
  case atStart => exact ⟨0, rfl, rfl, HW.out.symm⟩
  case round =>
    obtain ⟨i, rfl, hi, rfl⟩ := hrel
    match gk, hi with
    | 2, hi =>
      obtain rfl : i = 0 := by omega
      go_wp2_with (first
        | (go_at_call 25; (with_reducible refine (no_Put _ none a0 (made_nil _)).mono ?_); rintro e w' ⟨rfl, rfl⟩)
        | (go_at_call 26; (with_reducible refine (no_Close _ none a0 (made_nil _)).mono ?_); rintro e w' ⟨rfl, rfl⟩)
        | (go_at_call 27; (with_reducible refine (no_Open _ none a0 (made_nil _)).mono ?_); rintro e w' ⟨rfl, rfl⟩)
        | (go_at_call 28; (with_reducible refine (no_Closed _ none a0 (made_nil _)).mono ?_); rintro e w' ⟨rfl, rfl⟩))
      go_roundg 1
      case rel => exact ⟨1, rfl, rfl, rfl⟩
      case measure => omega
    | 1, hi =>
      obtain rfl : i = 1 := by omega
      go_wp2_with (first
        | (go_at_call 25; (with_reducible refine (no_Put _ (some ⟨w.heap.size, 0, none⟩) a0 HP.out).mono ?_); rintro e w' ⟨rfl, rfl⟩)
        | (go_at_call 26; (with_reducible refine (no_Close _ (some ⟨w.heap.size, 0, none⟩) a0 HP.out).mono ?_); rintro e w' ⟨rfl, rfl⟩)
        | (go_at_call 27; (with_reducible refine (no_Open _ (some ⟨w.heap.size, 0, none⟩) a0 HP.out).mono ?_); rintro e w' ⟨rfl, rfl⟩)
        | (go_at_call 28; (with_reducible refine (no_Closed _ (some ⟨w.heap.size, 0, none⟩) a0 HP.out).mono ?_); rintro e w' ⟨rfl, rfl⟩))
      go_roundg 0
      case rel => exact ⟨2, rfl, rfl, rfl⟩
      case measure => omega
    | 0, hi =>
      obtain rfl : i = 2 := by omega
      go_wp2
      go_ret
      exact ⟨rfl, HB.out⟩
end Go.Proofs.Ytoakooebmnjkhaa.Q
