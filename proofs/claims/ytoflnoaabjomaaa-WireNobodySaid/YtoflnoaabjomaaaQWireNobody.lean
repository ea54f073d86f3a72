import Derived.Test.YtoflnoaabjomaaaQStream
namespace Go.Proofs.Ytoflnoaabjomaaa.Q
open Go.RowKit Go.Proofs.YtoflnoaabjomaaaW.PrintWords Go.Proofs.YtoflnoaabjomaaaW.PrintLast Go.Proofs.YtoflnoaabjomaaaW.PrintMore Go.Proofs.YtoflnoaabjomaaaV
set_option linter.unusedVariables false
set_option linter.unusedSimpArgs false

/-- Nobody's packer: nil, or one with no size. -/
def NoPk (w : World) (p : Value) : Prop := Calls Try.prog 34 #[p] w fun e w' => e = .returned (.bool false) ∧ w = w'
def NoSt (w : World) (p : Value) : Prop := Calls Try.prog 35 #[p] w fun e w' => e = .returned (.bool false) ∧ w = w'
theorem NoPk.use {w : World} {p : Value} (h : NoPk w p) : Calls Try.prog 34 #[p] w fun e w' => e = .returned (.bool false) ∧ w = w' := h
theorem NoSt.use {w : World} {p : Value} (h : NoSt w p) : Calls Try.prog 35 #[p] w fun e w' => e = .returned (.bool false) ∧ w = w' := h
theorem NoPk_nil (w : World) : NoPk w (.pointer none) := Packer_made_nil w
theorem NoSt_nil (w : World) : NoSt w (.pointer none) := Stream_made_nil w
theorem NoPk_zero (w : World) (g : Nat) (v : Value) (h : w.heap[g]? = some (.cells #[.int .i64 0, v] 62 (0, 0))) : NoPk w (.pointer (some ⟨g, 0, none⟩)) := Packer_made_zero w g v h
theorem NoSt_zero (w : World) (g : Nat) (cs : Array Value) (h : w.heap[g]? = some (.cells cs 64 (0, 0))) (h0 : cs[0]? = some (.int .i64 0)) : NoSt w (.pointer (some ⟨g, 0, none⟩)) := Stream_made_zero w g cs h h0
theorem no_Add (w : World) (p : Option Addr) (s : ByteArray) (h : NoPk w (.pointer p)) : Calls Try.prog 18 #[.pointer p, .string s] w fun e w' => e = .returned (.tuple #[.slice none 0 0, .int .i64 4]) ∧ w = w' := by
  have H := Aside0.mk h
  clear h
  go_enter Try.func18, Try.ntmps18
  go_wp2_with (first | (go_at_call 34; (with_reducible refine (NoPk.use H.out).mono ?_); rintro e w' ⟨rfl, rfl⟩))
  go_ret2
  exact ⟨rfl, rfl⟩
theorem no_Flush (w : World) (p : Option Addr) (h : NoPk w (.pointer p)) : Calls Try.prog 16 #[.pointer p] w fun e w' => e = .returned (.slice none 0 0) ∧ w = w' := by
  have H := Aside0.mk h
  clear h
  go_enter Try.func16, Try.ntmps16
  go_wp2_with (first | (go_at_call 34; (with_reducible refine (NoPk.use H.out).mono ?_); rintro e w' ⟨rfl, rfl⟩))
  go_ret
  exact ⟨rfl, rfl⟩
theorem no_Held (w : World) (p : Option Addr) (h : NoPk w (.pointer p)) : Calls Try.prog 20 #[.pointer p] w fun e w' => e = .returned (.int .i64 0) ∧ w = w' := by
  have H := Aside0.mk h
  clear h
  go_enter Try.func20, Try.ntmps20
  go_wp2_with (first | (go_at_call 34; (with_reducible refine (NoPk.use H.out).mono ?_); rintro e w' ⟨rfl, rfl⟩))
  go_ret
  exact ⟨rfl, rfl⟩
theorem no_Feed (w : World) (p : Option Addr) (b : Value) (h : NoSt w (.pointer p)) : Calls Try.prog 25 #[.pointer p, b] w fun e w' => e = .returned (.slice none 0 0) ∧ w = w' := by
  have H := Aside0.mk h
  clear h
  go_enter Try.func25, Try.ntmps25
  go_wp2_with (first | (go_at_call 35; (with_reducible refine (NoSt.use H.out).mono ?_); rintro e w' ⟨rfl, rfl⟩))
  go_ret
  exact ⟨rfl, rfl⟩
theorem no_End (w : World) (p : Option Addr) (h : NoSt w (.pointer p)) : Calls Try.prog 28 #[.pointer p] w fun e w' => e = .returned (.string ⟨#[]⟩) ∧ w = w' := by
  have H := Aside0.mk h
  clear h
  go_enter Try.func28, Try.ntmps28
  go_wp2_with (first | (go_at_call 35; (with_reducible refine (NoSt.use H.out).mono ?_); rintro e w' ⟨rfl, rfl⟩))
  go_ret
  exact ⟨rfl, rfl⟩
theorem no_Lost (w : World) (p : Option Addr) (h : NoSt w (.pointer p)) : Calls Try.prog 27 #[.pointer p] w fun e w' => e = .returned (.int .i64 0) ∧ w = w' := by
  have H := Aside0.mk h
  clear h
  go_enter Try.func27, Try.ntmps27
  go_wp2_with (first | (go_at_call 35; (with_reducible refine (NoSt.use H.out).mono ?_); rintro e w' ⟨rfl, rfl⟩))
  go_ret
  exact ⟨rfl, rfl⟩

def tumblerlaw05_WireNobody.f (l0 : List Int) (a1 : ByteArray) : Option Bool := some true

set_option maxHeartbeats 3200000 in
set_option maxRecDepth 4000 in
theorem tumblerlaw05_WireNobody.calls (A0 : Option Addr) (c0 : Nat) (l0 : List Int) (a1 : ByteArray) (r : Bool) (w : World) (hr0 : Kd.C (Kd.int .u8) w A0 l0.length l0) (hc0 : l0.length ≤ c0) (h : tumblerlaw05_WireNobody.f l0 a1 = some r) :
    Calls Try.prog 9 #[.slice A0 l0.length c0, .string a1] w fun e w' => e = .returned (.bool r) ∧ Below w.heap.size w w' := by
  obtain rfl : true = r := Option.some.inj h
  have HA := Aside0.mk (Pure.alive_f 30 (by omega))
  have b1 : (w.alloc (.cells #[.int .i64 0, .slice none 0 0] 62 (0, 0))).heap[w.heap.size]? = some (.cells #[.int .i64 0, .slice none 0 0] 62 (0, 0)) := heap_alloc_new _ _
  obtain ⟨w1, hw1⟩ : ∃ w1, w1 = (w.alloc (.cells #[.int .i64 0, .slice none 0 0] 62 (0, 0))).alloc (.cells #[.int .i64 0, .slice none 0 0, .int .u8 0, .int .i64 0, .int .i64 0] 64 (0, 0)) := ⟨_, rfl⟩
  have b2 : w1.heap[w.heap.size]? = some (.cells #[.int .i64 0, .slice none 0 0] 62 (0, 0)) := by rw [hw1]; exact (Below.heap_alloc _ _ _ (by simp)).trans b1
  have b3 : w1.heap[w.heap.size + 1]? = some (.cells #[.int .i64 0, .slice none 0 0, .int .u8 0, .int .i64 0, .int .i64 0] 64 (0, 0)) := by
    rw [hw1]
    have := heap_alloc_new (w.alloc (.cells #[.int .i64 0, .slice none 0 0] 62 (0, 0))) (.cells #[.int .i64 0, .slice none 0 0, .int .u8 0, .int .i64 0, .int .i64 0] 64 (0, 0))
    rwa [show (w.alloc (.cells #[.int .i64 0, .slice none 0 0] 62 (0, 0))).heap.size = w.heap.size + 1 by simp] at this
  have HB := Aside0.mk (show Below w.heap.size w w1 by rw [hw1]; exact below_alloc (below_alloc (Below.refl _ _) _) _)
  have HZ := Aside0.mk (show w1.heap.size = w.heap.size + 2 by rw [hw1]; simp)
  have HW := Aside0.mk hw1
  have HP := Aside0.mk (fun (w' : World) (hb : Below w1.heap.size w1 w') => NoPk_zero w' w.heap.size _ ((hb.block _ (blk_lt b2)).trans b2))
  have HS := Aside0.mk (fun (w' : World) (hb : Below w1.heap.size w1 w') => NoSt_zero w' (w.heap.size + 1) _ ((hb.block _ (blk_lt b3)).trans b3) rfl)
  clear b1 b2 b3 h HW
  subst hw1
  go_enter Try.func9, Try.ntmps9
  go_wp2_with (first
    | (go_at_call 18; (with_reducible refine (no_Add _ none a1 (NoPk_nil _)).mono ?_); rintro e w' ⟨rfl, rfl⟩)
    | (go_at_call 18; (with_reducible refine (no_Add _ (some ⟨w.heap.size, 0, none⟩) a1 (HP.out _ (Below.refl _ _))).mono ?_); rintro e w' ⟨rfl, rfl⟩)
    | (go_at_call 13; (with_reducible refine (tumblerlaw05_alive.calls 30 true _ HA.out).mono ?_); rintro e w3 ⟨rfl, hb3⟩; have HP3 := Aside0.mk (HP.out _ hb3); have HS3 := Aside0.mk (HS.out _ hb3); have HB3 := Aside0.mk (below_step HB.out hb3); clear HP HS HB hb3)
    | (go_at_call 16; (with_reducible refine (no_Flush _ none  (NoPk_nil _)).mono ?_); rintro e w' ⟨rfl, rfl⟩)
    | (go_at_call 16; (with_reducible refine (no_Flush _ (some ⟨w.heap.size, 0, none⟩)  (HP3.out)).mono ?_); rintro e w' ⟨rfl, rfl⟩)
    | (go_at_call 20; (with_reducible refine (no_Held _ none  (NoPk_nil _)).mono ?_); rintro e w' ⟨rfl, rfl⟩)
    | (go_at_call 20; (with_reducible refine (no_Held _ (some ⟨w.heap.size, 0, none⟩)  (HP3.out)).mono ?_); rintro e w' ⟨rfl, rfl⟩)
    | (go_at_call 25; (with_reducible refine (no_Feed _ none _ (NoSt_nil _)).mono ?_); rintro e w' ⟨rfl, rfl⟩)
    | (go_at_call 25; (with_reducible refine (no_Feed _ (some ⟨w.heap.size + 1, 0, none⟩) _ (HS3.out)).mono ?_); rintro e w' ⟨rfl, rfl⟩)
    | (go_at_call 28; (with_reducible refine (no_End _ none  (NoSt_nil _)).mono ?_); rintro e w' ⟨rfl, rfl⟩)
    | (go_at_call 28; (with_reducible refine (no_End _ (some ⟨w.heap.size + 1, 0, none⟩)  (HS3.out)).mono ?_); rintro e w' ⟨rfl, rfl⟩)
    | (go_at_call 27; (with_reducible refine (no_Lost _ none  (NoSt_nil _)).mono ?_); rintro e w' ⟨rfl, rfl⟩)
    | (go_at_call 27; (with_reducible refine (no_Lost _ (some ⟨w.heap.size + 1, 0, none⟩)  (HS3.out)).mono ?_); rintro e w' ⟨rfl, rfl⟩))
  go_ret
  exact ⟨rfl, HB3.out⟩
end Go.Proofs.Ytoflnoaabjomaaa.Q
