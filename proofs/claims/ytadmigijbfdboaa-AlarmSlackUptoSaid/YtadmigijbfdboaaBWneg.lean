import Derived.Test.YtadmigijbfdboaaBWsub
namespace Go.Proofs.Ytadmigijbfdboaa.Q
open Go.RowKit Go.Proofs.YtadmigijbfdboaaW.PrintWords Go.Proofs.YtadmigijbfdboaaW.PrintLast Go.Proofs.YtadmigijbfdboaaW.PrintMore Go.Proofs.YtadmigijbfdboaaV
set_option linter.unusedVariables false
set_option linter.unusedSimpArgs false

/-- What Neg tells. -/
def negE (z : Int) : Int := if z = -170141183460469231731687303715884105728 then 10 else 0
def negW (z : Int) : Int := if z = -170141183460469231731687303715884105728 then 0 else -z
theorem neg_hr {x : Int} (hx : inW x) : (inW (0 - x) ∧ negW x = 0 - x ∧ negE x = 0) ∨ (¬ inW (0 - x) ∧ negW x = 0 ∧ negE x = 10) := by
  unfold inW at hx
  unfold negW negE inW
  by_cases h : x = -170141183460469231731687303715884105728
  · rw [if_pos h, if_pos h]; exact .inr ⟨by omega, rfl, rfl⟩
  · rw [if_neg h, if_neg h]; exact .inl ⟨by omega, by omega, rfl⟩
theorem inW_neg {x : Int} (hx : inW x) : inW (negW x) := by
  unfold inW at hx
  unfold negW inW
  split <;> omega
theorem hop {w w1 w2 : World} (h : Below w.heap.size w w1) (h' : Below w1.heap.size w1 w2) : Below w.heap.size w w2 := h.trans ⟨h'.os, h'.tape, h'.output, h'.size, fun k hk => h'.block k (Nat.lt_of_lt_of_le hk h.size)⟩
set_option maxHeartbeats 800000 in
theorem wide_Neg {x : Int} (w : World) (hx : inW x) :
    Calls Try.prog 14 #[WV x] w fun q w' => q = .returned (.tuple #[WV (negW x), .int .i64 (negE x)]) ∧ Below w.heap.size w w' := by
  have HS := Aside0.mk (fun W => wide_Sub W inW_zero hx (negW x) (negE x) (neg_hr hx))
  rw [WV_zero] at HS
  unfold WV at HS ⊢
  obtain ⟨a, ha⟩ : ∃ a, a = hiW x := ⟨_, rfl⟩
  obtain ⟨b, hb⟩ : ∃ b, b = loW x := ⟨_, rfl⟩
  obtain ⟨c, hc⟩ : ∃ a, a = hiW (negW x) := ⟨_, rfl⟩
  obtain ⟨d, hd⟩ : ∃ b, b = loW (negW x) := ⟨_, rfl⟩
  obtain ⟨f, hf⟩ : ∃ b, b = negE x := ⟨_, rfl⟩
  rw [← ha, ← hb, ← hc, ← hd, ← hf] at HS ⊢
  have HB := Aside0.mk (((Below.refl w.heap.size w).alloc (Nat.le_refl _) (.cells #[.int .i64 a, .int .u64 b] 24 (0, 0))).alloc (by simp) (.cells #[.int .i64 0, .int .u64 0] 24 (0, 0)))
  clear ha hb hc hd hf
  go_enter Try.func14, Try.ntmps14
  go_wp2_with (first
    | (go_at_call 32; (with_reducible refine ((HS.out _)).mono ?_); rintro e w1 ⟨rfl, hb1⟩; obtain ⟨f1, f2, f3, f4, f5⟩ := res2 (v0 := .int .i64 c) (v1 := .int .u64 d) ((hb1.block _ (by simp)).trans (heap_alloc2_new w (.cells #[.int .i64 a, .int .u64 b] 24 (0, 0)) (.cells #[.int .i64 0, .int .u64 0] 24 (0, 0)))); have HF := Aside0.mk f5; have HB1 := Aside0.mk (hop HB.out hb1); clear hb1 f5))
  refine bodyPost_ret (results_ct rfl _ _ (w.heap.size + 1) 24 _ (0, 0) _ rfl HF.out Try.underlying24 rfl (by kernel_rfl)) rfl ?_
  exact ⟨rfl, HB1.out.trans (keep_set2.below HB1.out.size (fun k hk => by omega))⟩

/-- What Abs tells. -/
def absW (z : Int) : Int := if z < 0 then negW z else z
def absE (z : Int) : Int := if z < 0 then negE z else 0
theorem inW_abs {x : Int} (hx : inW x) : inW (absW x) := by
  unfold absW
  split
  · exact inW_neg hx
  · exact hx
theorem hiW_neg (x : Int) : hiW x < 0 ↔ x < 0 := by unfold hiW; omega
set_option maxHeartbeats 800000 in
theorem wide_Abs {x : Int} (w : World) (hx : inW x) :
    Calls Try.prog 56 #[WV x] w fun q w' => q = .returned (.tuple #[WV (absW x), .int .i64 (absE x)]) ∧ Below w.heap.size w w' := by
  have HS := Aside0.mk (fun W => wide_Neg (x := x) W hx)
  have hn := hiW_neg x
  by_cases h0 : x < 0
  · rw [show absW x = negW x from if_pos h0, show absE x = negE x from if_pos h0]
    unfold WV at HS ⊢
    obtain ⟨a, ha⟩ : ∃ a, a = hiW x := ⟨_, rfl⟩
    obtain ⟨b, hb⟩ : ∃ b, b = loW x := ⟨_, rfl⟩
    obtain ⟨c, hc⟩ : ∃ a, a = hiW (negW x) := ⟨_, rfl⟩
    obtain ⟨d, hd⟩ : ∃ b, b = loW (negW x) := ⟨_, rfl⟩
    obtain ⟨f, hf⟩ : ∃ b, b = negE x := ⟨_, rfl⟩
    rw [← ha, ← hb, ← hc, ← hd, ← hf] at HS ⊢
    have d1 : decide (a < 0) = true := decide_eq_true (by rw [ha]; exact hn.2 h0)
    have HB := Aside0.mk (((Below.refl w.heap.size w).alloc (Nat.le_refl _) (.cells #[.int .i64 a, .int .u64 b] 24 (0, 0))).alloc (by simp) (.cells #[.int .i64 0, .int .u64 0] 24 (0, 0)))
    clear ha hb hc hd hf hn h0
    go_enter Try.func56, Try.ntmps56
    go_wp2_with (first
      | (go_at_call 14; (with_reducible refine ((HS.out _)).mono ?_); rintro e w1 ⟨rfl, hb1⟩; obtain ⟨f1, f2, f3, f4, f5⟩ := res2 (v0 := .int .i64 c) (v1 := .int .u64 d) ((hb1.block _ (by simp)).trans (heap_alloc2_new w (.cells #[.int .i64 a, .int .u64 b] 24 (0, 0)) (.cells #[.int .i64 0, .int .u64 0] 24 (0, 0)))); have HF := Aside0.mk f5; have HB1 := Aside0.mk (hop HB.out hb1); clear hb1 f5))
    refine bodyPost_ret (results_ct rfl _ _ (w.heap.size + 1) 24 _ (0, 0) _ rfl HF.out Try.underlying24 rfl (by kernel_rfl)) rfl ?_
    exact ⟨rfl, HB1.out.trans (keep_set2.below HB1.out.size (fun k hk => by omega))⟩
  · rw [show absW x = x from if_neg h0, show absE x = 0 from if_neg h0]
    unfold WV
    obtain ⟨a, ha⟩ : ∃ a, a = hiW x := ⟨_, rfl⟩
    obtain ⟨b, hb⟩ : ∃ b, b = loW x := ⟨_, rfl⟩
    rw [← ha, ← hb]
    have d1 : decide (a < 0) = false := decide_eq_false (by rw [ha]; exact fun h => h0 (hn.1 h))
    clear ha hb hn h0 HS
    go_enter Try.func56, Try.ntmps56
    go_wp2
    refine bodyPost_ret (v := .tuple #[.agg #[.int .i64 a, .int .u64 b], .int .i64 0]) (by simp [results, Try.results56, go_sem]) rfl ⟨rfl, ?_⟩
    exact ((Below.refl w.heap.size w).alloc (Nat.le_refl _) _).alloc (by simp) _
end Go.Proofs.Ytadmigijbfdboaa.Q
