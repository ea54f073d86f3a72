import Derived.Test.YtadmigijbfdboaaALive
namespace Go.Proofs.Ytadmigijbfdboaa.Q
open Go.RowKit Go.Proofs.YtadmigijbfdboaaW.PrintWords Go.Proofs.YtadmigijbfdboaaW.PrintLast Go.Proofs.YtadmigijbfdboaaW.PrintMore Go.Proofs.YtadmigijbfdboaaV
set_option linter.unusedVariables false
set_option linter.unusedSimpArgs false

theorem none_find_nil (w : World) (s : ByteArray) : Calls Try.prog 25 #[.pointer none, .string s] w fun e w' => e = .returned (.pointer none) ∧ w = w' := by
  go_enter Try.func25, Try.ntmps25
  go_wp2
  go_ret
  exact ⟨rfl, rfl⟩
/-- A book that nobody made. -/
def ZeroBk (w : World) (g : Nat) : Prop := w.heap[g]? = some (.cells #[.slice none 0 0, .bool false] 68 (0, 0))
theorem ZeroBk.below {w w' : World} {g : Nat} (h : ZeroBk w g) (hb : Below w.heap.size w w') : ZeroBk w' g := (hb.block g (blk_lt h)).trans h
theorem none_find_zero {w : World} {g : Nat} (h : ZeroBk w g) (s : ByteArray) : Calls Try.prog 25 #[.pointer (some ⟨g, 0, none⟩), .string s] w fun e w' => e = .returned (.pointer none) ∧ w = w' := by
  have c0 : w.cell? ⟨g, 0, none⟩ = some (.slice none 0 0) := blk_cell h 0
  clear h
  go_enter Try.func25, Try.ntmps25
  go_wp2
  go_loopg [14] 0 (fun kq v14 w' => v14 = .int .i64 0 ∧ w' = w)
  case atStart => exact ⟨rfl, rfl⟩
  case round =>
    obtain ⟨rfl, rfl⟩ := hrel
    go_wp2
    go_ret
    exact ⟨rfl, rfl⟩
theorem none_State_nil (w : World) (s : ByteArray) : Calls Try.prog 12 #[.pointer none, .string s] w fun e w' => e = .returned (.tuple #[.int .i64 0, .bool false]) ∧ w = w' := by
  go_enter Try.func12, Try.ntmps12
  go_wp2_with (first | (go_at_call 25; (with_reducible refine (none_find_nil _ s).mono ?_); rintro e w1 ⟨rfl, rfl⟩))
  go_ret2
  exact ⟨rfl, rfl⟩
theorem none_State_zero {w : World} {g : Nat} (h : ZeroBk w g) (s : ByteArray) : Calls Try.prog 12 #[.pointer (some ⟨g, 0, none⟩), .string s] w fun e w' => e = .returned (.tuple #[.int .i64 0, .bool false]) ∧ w = w' := by
  have H := Aside0.mk h
  clear h
  go_enter Try.func12, Try.ntmps12
  go_wp2_with (first | (go_at_call 25; (with_reducible refine (none_find_zero H.out s).mono ?_); rintro e w1 ⟨rfl, rfl⟩))
  go_ret2
  exact ⟨rfl, rfl⟩
theorem none_Mute_nil (w : World) (s : ByteArray) (t : Int) : Calls Try.prog 19 #[.pointer none, .string s, .int .i64 t] w fun e w' => e = .returned (.int .i64 4) ∧ w = w' := by
  go_enter Try.func19, Try.ntmps19
  go_wp2_with (first | (go_at_call 25; (with_reducible refine (none_find_nil _ s).mono ?_); rintro e w1 ⟨rfl, rfl⟩))
  go_ret
  exact ⟨rfl, rfl⟩
theorem none_Mute_zero {w : World} {g : Nat} (h : ZeroBk w g) (s : ByteArray) (t : Int) : Calls Try.prog 19 #[.pointer (some ⟨g, 0, none⟩), .string s, .int .i64 t] w fun e w' => e = .returned (.int .i64 4) ∧ w = w' := by
  have H := Aside0.mk h
  have c1 : w.cell? ⟨g, 1, none⟩ = some (.bool false) := blk_cell h 1
  clear h
  go_enter Try.func19, Try.ntmps19
  go_wp2_with (first | (go_at_call 25; (with_reducible refine (none_find_zero H.out s).mono ?_); rintro e w1 ⟨rfl, rfl⟩))
  go_ret
  exact ⟨rfl, rfl⟩
theorem none_Feed_nil (w : World) (s : ByteArray) (t : Int) (is : Bool) (va vb : Int) : Calls Try.prog 11 #[.pointer none, .string s, .int .i64 t, .agg #[.bool is, .int .i64 va, .int .u64 vb]] w fun e w' => e = .returned (.tuple #[.slice none 0 0, .int .i64 4]) ∧ Below w.heap.size w w' := by
  have HB := Aside0.mk ((Below.refl w.heap.size w).alloc (Nat.le_refl _) (.cells #[.bool is, .int .i64 va, .int .u64 vb] 37 (0, 0)))
  go_enter Try.func11, Try.ntmps11
  go_wp2_with (first | (go_at_call 25; (with_reducible refine (none_find_nil _ s).mono ?_); rintro e w1 ⟨rfl, rfl⟩))
  go_ret2
  exact ⟨rfl, HB.out⟩
theorem none_Feed_zero {w : World} {g : Nat} (h : ZeroBk w g) (s : ByteArray) (t : Int) (is : Bool) (va vb : Int) : Calls Try.prog 11 #[.pointer (some ⟨g, 0, none⟩), .string s, .int .i64 t, .agg #[.bool is, .int .i64 va, .int .u64 vb]] w fun e w' => e = .returned (.tuple #[.slice none 0 0, .int .i64 4]) ∧ Below w.heap.size w w' := by
  have hb := (Below.refl w.heap.size w).alloc (Nat.le_refl _) (.cells #[.bool is, .int .i64 va, .int .u64 vb] 37 (0, 0))
  have H := Aside0.mk (h.below hb)
  have c1 : (w.alloc (.cells #[.bool is, .int .i64 va, .int .u64 vb] 37 (0, 0))).cell? ⟨g, 1, none⟩ = some (.bool false) := blk_cell (h.below hb) 1
  have HB := Aside0.mk hb
  clear h hb
  go_enter Try.func11, Try.ntmps11
  go_wp2_with (first | (go_at_call 25; (with_reducible refine (none_find_zero H.out s).mono ?_); rintro e w1 ⟨rfl, rfl⟩))
  go_ret2
  exact ⟨rfl, HB.out⟩
end Go.Proofs.Ytadmigijbfdboaa.Q
