import Derived.Test.YtadmigijbfdboaaBFrom
namespace Go.Proofs.Ytadmigijbfdboaa.Q
open Go.RowKit Go.Proofs.YtadmigijbfdboaaW.PrintWords Go.Proofs.YtadmigijbfdboaaW.PrintLast Go.Proofs.YtadmigijbfdboaaW.PrintMore Go.Proofs.YtadmigijbfdboaaV
set_option linter.unusedVariables false
set_option linter.unusedSimpArgs false

theorem NumV_zero (w : World) : NumV w (.agg #[.bool false, .slice none 0 0]) 0 := ⟨none, 0, rfl, ⟨⟨rfl, by decide, fun h => absurd h (by decide)⟩, Nat.le_refl _, okL_nil⟩⟩
set_option maxHeartbeats 800000 in
theorem ref_Sign {x : Int} (w : World) (hx : inW x) :
    Calls Try.prog 38 #[WV x] w fun e w' => e = .returned (.int .i64 (sgn x)) ∧ Below w.heap.size w w' := by
  have HFx := Aside0.mk (fun W => ref_From (x := x) W hx)
  unfold WV at HFx ⊢
  obtain ⟨a, ha⟩ : ∃ a, a = hiW x := ⟨_, rfl⟩
  obtain ⟨b, hb⟩ : ∃ b, b = loW x := ⟨_, rfl⟩
  rw [← ha, ← hb] at HFx ⊢
  have HB := Aside0.mk ((Below.refl w.heap.size w).alloc (Nat.le_refl _) (.cells #[.int .i64 a, .int .u64 b] 24 (0, 0)))
  clear ha hb
  go_enter Try.func38, Try.ntmps38
  go_wp2_with (first
    | (go_at_call 28; (with_reducible refine (HFx.out _).mono ?_); rintro e w1 ⟨v1, rfl, h1, hb1⟩; have NX := Aside0.mk h1; have HB1 := Aside0.mk (hop HB.out hb1); clear h1 hb1)
    | (go_at_call 29; (with_reducible refine (ref_CmpN NX.out (NumV_zero _)).mono ?_); rintro e w2 ⟨rfl, hb2⟩; have HB2 := Aside0.mk (hop HB1.out hb2); rw [Int.sub_zero]; clear hb2))
  go_ret
  exact ⟨rfl, HB2.out⟩
set_option maxHeartbeats 1600000 in
theorem ref_Cmp {x y : Int} (w : World) (hx : inW x) (hy : inW y) :
    Calls Try.prog 39 #[WV x, WV y] w fun e w' => e = .returned (.int .i64 (sgn (x - y))) ∧ Below w.heap.size w w' := by
  have HFx := Aside0.mk (fun W => ref_From (x := x) W hx)
  have HFy := Aside0.mk (fun W => ref_From (x := y) W hy)
  unfold WV at HFx HFy ⊢
  obtain ⟨a, ha⟩ : ∃ a, a = hiW x := ⟨_, rfl⟩
  obtain ⟨b, hb⟩ : ∃ b, b = loW x := ⟨_, rfl⟩
  obtain ⟨c, hc⟩ : ∃ a, a = hiW y := ⟨_, rfl⟩
  obtain ⟨d, hd⟩ : ∃ b, b = loW y := ⟨_, rfl⟩
  rw [← ha, ← hb] at HFx ⊢
  rw [← hc, ← hd] at HFy ⊢
  have hbb := ((Below.refl w.heap.size w).alloc (Nat.le_refl _) (.cells #[.int .i64 a, .int .u64 b] 24 (0, 0))).alloc (by simp) (.cells #[.int .i64 c, .int .u64 d] 24 (0, 0))
  have N0 := Aside0.mk (blk_alloc (heap_alloc_new w (.cells #[.int .i64 a, .int .u64 b] 24 (0, 0))) (.cells #[.int .i64 c, .int .u64 d] 24 (0, 0)))
  have N1 := Aside0.mk (heap_alloc2_new w (.cells #[.int .i64 a, .int .u64 b] 24 (0, 0)) (.cells #[.int .i64 c, .int .u64 d] 24 (0, 0)))
  have HB := Aside0.mk hbb.drew
  clear ha hb hc hd hbb
  go_enter Try.func39, Try.ntmps39
  go_upto_region 1 with (fail)
  go_region_with (first
    | (go_at_call 28; have q_ := NX; clear q_; (with_reducible refine (HFy.out _).mono ?_); rintro e w2 ⟨v2, rfl, h2, hb2⟩; have PX := Aside0.mk (NX.out.below hb2); have PY := Aside0.mk h2; have HB2 := Aside0.mk (hop HB1.out hb2); clear NX h2 hb2)
    | (go_at_call 28; have q_ := NY; clear q_; (with_reducible refine (HFx.out _).mono ?_); rintro e w2 ⟨v2, rfl, h2, hb2⟩; have PY := Aside0.mk (NY.out.below hb2); have PX := Aside0.mk h2; have HB2 := Aside0.mk (hop HB1.out hb2); clear NY h2 hb2)
    | (go_at_call 28; (with_reducible refine (HFx.out _).mono ?_); rintro e w1 ⟨v1, rfl, h1, hb1⟩; have NX := Aside0.mk h1; have HB1 := Aside0.mk (hop HB.out hb1); have k0 := blk_cell ((hb1.block _ (blk_lt N1.out)).trans N1.out) 0; have k1 := blk_cell ((hb1.block _ (blk_lt N1.out)).trans N1.out) 1; clear h1 hb1)
    | (go_at_call 28; (with_reducible refine (HFy.out _).mono ?_); rintro e w1 ⟨v1, rfl, h1, hb1⟩; have NY := Aside0.mk h1; have HB1 := Aside0.mk (hop HB.out hb1); have k0 := blk_cell ((hb1.block _ (blk_lt N0.out)).trans N0.out) 0; have k1 := blk_cell ((hb1.block _ (blk_lt N0.out)).trans N0.out) 1; clear h1 hb1)
    | (go_at_call 29; (with_reducible refine (ref_CmpN PX.out PY.out).mono ?_); rintro e w3 ⟨rfl, hb3⟩; have HB3 := Aside0.mk (hop HB2.out hb3); clear hb3))
  all_goals
    go_wp2_with (fail)
    go_ret
    exact ⟨rfl, HB3.out⟩
end Go.Proofs.Ytadmigijbfdboaa.Q
