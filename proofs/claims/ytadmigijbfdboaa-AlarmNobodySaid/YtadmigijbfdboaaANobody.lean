import Derived.Test.YtadmigijbfdboaaANone
namespace Go.Proofs.Ytadmigijbfdboaa.Q
open Go.RowKit Go.Proofs.YtadmigijbfdboaaW.PrintWords Go.Proofs.YtadmigijbfdboaaW.PrintLast Go.Proofs.YtadmigijbfdboaaW.PrintMore Go.Proofs.YtadmigijbfdboaaV
set_option linter.unusedVariables false
set_option linter.unusedSimpArgs false

set_option maxHeartbeats 3200000 in
set_option maxRecDepth 4000 in
theorem law_AlarmNobody (w : World) (kd : Int) (nm : ByteArray) (at_ : Int) (is : Bool) (va vb : Int) :
    Calls Try.prog 8 #[.agg #[.int .i64 kd, .string nm, .int .i64 at_, .bool is, .int .i64 va, .int .u64 vb]] w fun e w' => e = .returned (.bool true) ∧ Below w.heap.size w w' := by
  obtain ⟨W, hW⟩ : ∃ W, W = (w.alloc (.cells #[.int .i64 kd, .string nm, .int .i64 at_, .bool is, .int .i64 va, .int .u64 vb] 39 (0, 0))).alloc (.cells #[.slice none 0 0, .bool false] 68 (0, 0)) := ⟨_, rfl⟩
  have n0 : W.heap[w.heap.size]? = some (.cells #[.int .i64 kd, .string nm, .int .i64 at_, .bool is, .int .i64 va, .int .u64 vb] 39 (0, 0)) := by rw [hW]; exact blk_alloc (heap_alloc_new _ _) _
  have HX := Aside0.mk n0
  have HZ := Aside0.mk (show ZeroBk W (w.heap.size + 1) by rw [hW]; exact heap_alloc2_new _ _ _)
  have HB := Aside0.mk (show Below w.heap.size w W by rw [hW]; exact below_alloc (below_alloc (Below.refl _ _) _) _)
  have HW := Aside0.mk hW
  have u1 := blk_cell n0 1
  have u2 := blk_cell n0 2
  have u3 := blk_cell n0 3
  have u4 := blk_cell n0 4
  have u5 := blk_cell n0 5
  clear n0 hW
  go_enter Try.func8, Try.ntmps8
  go_upto_region 3 with (fail)
  rw [← HW.out]
  go_wp2_with (first
    | (go_at_call 11; (with_reducible refine (none_Feed_nil _ nm at_ is va vb).mono ?_); rintro e w1 ⟨rfl, hb⟩; have HX_ := Aside0.mk ((hb.block _ (blk_lt HX.out)).trans HX.out); have HZ_ := Aside0.mk (HZ.out.below hb); have HB_ := Aside0.mk (hop HB.out hb); clear HX HZ HB hb; have HX := HX_; have HZ := HZ_; have HB := HB_; clear HX_ HZ_ HB_; have k1 := blk_cell HX.out 1; have k2 := blk_cell HX.out 2; have k3 := blk_cell HX.out 3; have k4 := blk_cell HX.out 4; have k5 := blk_cell HX.out 5; skip)
    | (go_at_call 11; (with_reducible refine (none_Feed_zero HZ.out nm at_ is va vb).mono ?_); rintro e w2 ⟨rfl, hb⟩; have HX_ := Aside0.mk ((hb.block _ (blk_lt HX.out)).trans HX.out); have HZ_ := Aside0.mk (HZ.out.below hb); have HB_ := Aside0.mk (hop HB.out hb); clear HX HZ HB hb; have HX := HX_; have HZ := HZ_; have HB := HB_; clear HX_ HZ_ HB_; have k1 := blk_cell HX.out 1; have k2 := blk_cell HX.out 2; have k3 := blk_cell HX.out 3; have k4 := blk_cell HX.out 4; have k5 := blk_cell HX.out 5; skip)
    | (go_at_call 12; (with_reducible refine (none_State_nil _ nm).mono ?_); rintro e w' ⟨rfl, rfl⟩)
    | (go_at_call 12; (with_reducible refine (none_State_zero HZ.out nm).mono ?_); rintro e w' ⟨rfl, rfl⟩)
    | (go_at_call 10; (with_reducible refine (law_alive _).mono ?_); rintro e w3 ⟨rfl, hb⟩; have HX_ := Aside0.mk ((hb.block _ (blk_lt HX.out)).trans HX.out); have HZ_ := Aside0.mk (HZ.out.below hb); have HB_ := Aside0.mk (hop HB.out hb); clear HX HZ HB hb; have HX := HX_; have HZ := HZ_; have HB := HB_; clear HX_ HZ_ HB_; have k1 := blk_cell HX.out 1; have k2 := blk_cell HX.out 2; have k3 := blk_cell HX.out 3; have k4 := blk_cell HX.out 4; have k5 := blk_cell HX.out 5; skip)
    | (go_at_call 19; (with_reducible refine (none_Mute_nil _ nm at_).mono ?_); rintro e w' ⟨rfl, rfl⟩)
    | (go_at_call 19; (with_reducible refine (none_Mute_zero HZ.out nm at_).mono ?_); rintro e w' ⟨rfl, rfl⟩))
  go_ret
  exact ⟨rfl, HB.out⟩
end Go.Proofs.Ytadmigijbfdboaa.Q
