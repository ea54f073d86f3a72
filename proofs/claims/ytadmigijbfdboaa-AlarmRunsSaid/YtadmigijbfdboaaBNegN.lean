import Derived.Test.YtadmigijbfdboaaMA
namespace Go.Proofs.Ytadmigijbfdboaa.Q
open Go.RowKit Go.Proofs.YtadmigijbfdboaaW.PrintWords Go.Proofs.YtadmigijbfdboaaW.PrintLast Go.Proofs.YtadmigijbfdboaaW.PrintMore Go.Proofs.YtadmigijbfdboaaV
set_option linter.unusedVariables false
set_option linter.unusedSimpArgs false

set_option maxHeartbeats 800000 in
theorem ref_NegN {w : World} {u : Value} {x : Int} (hx : NumV w u x) :
    Calls Try.prog 31 #[u] w fun e w' => ∃ v, e = .returned v ∧ NumV w' v (-x) ∧ Below w.heap.size w w' := by
  obtain ⟨A, c, rfl, hl⟩ := hx
  obtain ⟨b, hb⟩ : ∃ b, b = decide (x < 0) := ⟨_, rfl⟩
  rw [← hb]
  have hk := ((Below.refl w.heap.size w).alloc (Nat.le_refl _) (.cells #[.bool b, .slice A (limbs x.natAbs).length c] 81 (0, 0))).alloc (by simp) (.cells #[.bool false, .slice none 0 0] 81 (0, 0))
  have H := Aside0.mk (hl.below hk)
  have H0 := Aside0.mk hl
  have HK := Aside0.mk hk
  have hv := limbs_val x.natAbs
  have HX := Aside0.mk (show -x = if (!b) then - valL (limbs x.natAbs) else valL (limbs x.natAbs) by rw [hv, hb]; by_cases h : x < 0 <;> simp [h] <;> omega)
  have en : (-x).natAbs = x.natAbs := by omega
  have HE := Aside0.mk en
  clear hb hl hk hv en
  go_enter Try.func31, Try.ntmps31
  go_wp2_with (first
    | (go_at_call 43; (with_reducible refine (ref_make2 (!b) H.out (-x) HX.out).mono ?_); rintro e w1 ⟨rfl, h1, hb1⟩; obtain ⟨q, hq⟩ : ∃ q, q = decide (-x < 0) := ⟨_, rfl⟩; rw [← hq, HE.out]; have HQ := Aside0.mk hq; obtain ⟨f1, f2, f3, f4, f5⟩ := res2 (v0 := .bool q) (v1 := .slice A (limbs x.natAbs).length c) ((hb1.block _ (by simp)).trans (heap_alloc2_new w (.cells #[.bool b, .slice A (limbs x.natAbs).length c] 81 (0, 0)) (.cells #[.bool false, .slice none 0 0] 81 (0, 0)))); have HF := Aside0.mk f5; have HB1 := Aside0.mk (HK.out.trans ⟨hb1.os, hb1.tape, hb1.output, hb1.size, fun k hk => hb1.block k (Nat.lt_of_lt_of_le hk HK.out.size)⟩); clear h1 hb1 hq f5))
  refine bodyPost_ret (results_cell_row rfl _ _ (w.heap.size + 1) 81 _ (0, 0) _ rfl HF.out Try.underlying81 rfl (by kernel_rfl)) rfl ?_
  have hbel : Below w.heap.size w ((w1.setCell ⟨w.heap.size + 1, 0, none⟩ (.bool q)).setCell ⟨w.heap.size + 1, 1, none⟩ (.slice A (limbs x.natAbs).length c)) := HB1.out.trans (keep_set2.below HB1.out.size (fun k hk => by omega))
  exact ⟨_, rfl, ⟨A, c, by rw [← HQ.out, HE.out], by rw [HE.out]; exact H0.out.below hbel⟩, hbel⟩

end Go.Proofs.Ytadmigijbfdboaa.Q
