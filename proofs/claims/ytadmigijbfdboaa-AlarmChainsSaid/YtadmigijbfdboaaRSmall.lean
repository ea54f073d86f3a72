import Derived.Test.YtadmigijbfdboaaMC
namespace Go.Proofs.Ytadmigijbfdboaa.Q
open Go.RowKit Go.Proofs.YtadmigijbfdboaaW.PrintWords Go.Proofs.YtadmigijbfdboaaW.PrintLast Go.Proofs.YtadmigijbfdboaaW.PrintMore Go.Proofs.YtadmigijbfdboaaV
set_option linter.unusedVariables false
set_option linter.unusedSimpArgs false

set_option maxHeartbeats 1600000 in
theorem ref_small {x : Int} (w : World) (hx : inW x) :
    Calls Try.prog 37 #[WV x] w fun e w' => e = .returned (.bool (decide ((x.natAbs : Int) ≤ FAR))) ∧ Below w.heap.size w w' := by
  have HFx := Aside0.mk (fun W => ref_From (x := x) W hx)
  have HFf := Aside0.mk (fun W => ref_From (x := FAR) W inW_FAR)
  rw [show WV FAR = .agg #[.int .i64 68719476736, .int .u64 0] from rfl] at HFf
  have sp := sgn_nonpos ((x.natAbs : Int) - FAR)
  have HP := Aside0.mk (show decide ((x.natAbs : Int) ≤ FAR) = decide (sgn ((x.natAbs : Int) - FAR) ≤ 0) by rw [decide_eq_decide, sp]; omega)
  unfold WV at HFx ⊢
  obtain ⟨a, ha⟩ : ∃ a, a = hiW x := ⟨_, rfl⟩
  obtain ⟨b, hb⟩ : ∃ b, b = loW x := ⟨_, rfl⟩
  rw [← ha, ← hb] at HFx ⊢
  have HB := Aside0.mk ((Below.refl w.heap.size w).alloc (Nat.le_refl _) (.cells #[.int .i64 a, .int .u64 b] 24 (0, 0)))
  clear ha hb sp
  go_enter Try.func37, Try.ntmps37
  go_upto_region 3 with (first
    | (go_at_call 28; (with_reducible refine (HFx.out _).mono ?_); rintro e w1 ⟨v1, rfl, ⟨A, c, rfl, h1⟩, hb1⟩; have HL := Aside0.mk h1; have HB1 := Aside0.mk (hop HB.out hb1); clear h1 hb1))
  have hb1 := HB1.out.alloc HB1.out.size (.cells #[.bool false, .slice A (limbs x.natAbs).length c] 81 (0, 0))
  have HB2 := Aside0.mk hb1.drew
  have N0 := Aside0.mk (heap_alloc_new w1 (.cells #[.bool false, .slice A (limbs x.natAbs).length c] 81 (0, 0)))
  have HN := Aside0.mk (show NumV (w1.alloc (.cells #[.bool false, .slice A (limbs x.natAbs).length c] 81 (0, 0))).drew (.agg #[.bool false, .slice A (limbs x.natAbs).length c]) (x.natAbs : Int) from ⟨A, c, by rw [decide_eq_false (by omega)]; rfl, HL.out.below ((Below.refl w1.heap.size w1).alloc (Nat.le_refl _) _).drew⟩)
  clear hb1
  go_region_with (first
    | (go_at_call 28; (with_reducible refine (HFf.out _).mono ?_); rintro e w2 ⟨v2, rfl, h2, hb2⟩; have NF := Aside0.mk h2; have NX := Aside0.mk (HN.out.below hb2); have HB3 := Aside0.mk (hop HB2.out hb2); have k0 := blk_cell ((hb2.block _ (blk_lt N0.out)).trans N0.out) 0; have k1 := blk_cell ((hb2.block _ (blk_lt N0.out)).trans N0.out) 1; clear h2 hb2)
    | (go_at_call 29; (with_reducible refine (ref_CmpN NX.out NF.out).mono ?_); rintro e w3 ⟨rfl, hb3⟩; have HB4 := Aside0.mk (hop HB3.out hb3); clear hb3))
  all_goals
    go_wp2_with (fail)
    go_ret
    rw [HP.out]
    exact ⟨rfl, HB4.out⟩
end Go.Proofs.Ytadmigijbfdboaa.Q
