import Derived.Test.YtadmigijbfdboaaAErr
namespace Go.Proofs.Ytadmigijbfdboaa.Q
open Go.RowKit Go.Proofs.YtadmigijbfdboaaW.PrintWords Go.Proofs.YtadmigijbfdboaaW.PrintLast Go.Proofs.YtadmigijbfdboaaW.PrintMore Go.Proofs.YtadmigijbfdboaaV
set_option linter.unusedVariables false
set_option linter.unusedSimpArgs false

def FAR : Int := 1267650600228229401496703205376
theorem inW_FAR : inW FAR := by unfold inW FAR; omega
set_option maxHeartbeats 1600000 in
theorem alarm_far {x : Int} (w : World) (hx : inW x) :
    Calls Try.prog 48 #[WV x] w fun e w' => e = .returned (.bool (decide (FAR < x.natAbs))) ∧ Below w.heap.size w w' := by
  have HS := Aside0.mk (fun W => wide_Abs (x := x) W hx)
  have HC := Aside0.mk (fun W => wide_Cmp W (inW_abs hx) inW_FAR)
  have hlo := hx.1
  have hre : decide (FAR < (x.natAbs : Int)) = if absE x = 10 then true else decide (0 < sgn (absW x - FAR)) := by
    have sp : (0 < sgn (absW x - FAR)) ↔ 0 < absW x - FAR := by unfold sgn; split <;> (try split) <;> omega
    unfold absE
    by_cases h0 : x < 0
    · rw [if_pos h0]
      unfold negE
      by_cases hl : x = -170141183460469231731687303715884105728
      · rw [if_pos hl, if_pos rfl]; exact decide_eq_true (by unfold FAR; omega)
      · rw [if_neg hl, if_neg (by omega), decide_eq_decide, sp]
        unfold absW negW
        rw [if_pos h0, if_neg hl]
        omega
    · rw [if_neg h0, if_neg (by omega), decide_eq_decide, sp]
      unfold absW
      rw [if_neg h0]
      omega
  have hE : absE x = 10 ∨ absE x = 0 := by unfold absE negE; split <;> (try split) <;> omega
  have HP := Aside0.mk hre
  rw [show WV FAR = .agg #[.int .i64 68719476736, .int .u64 0] from rfl] at HC
  unfold WV at HS HC ⊢
  obtain ⟨a, ha⟩ : ∃ a, a = hiW x := ⟨_, rfl⟩
  obtain ⟨b, hb⟩ : ∃ b, b = loW x := ⟨_, rfl⟩
  obtain ⟨c, hc⟩ : ∃ a, a = hiW (absW x) := ⟨_, rfl⟩
  obtain ⟨d, hd⟩ : ∃ b, b = loW (absW x) := ⟨_, rfl⟩
  obtain ⟨f, hf⟩ : ∃ b, b = absE x := ⟨_, rfl⟩
  obtain ⟨z, hz⟩ : ∃ b, b = sgn (absW x - FAR) := ⟨_, rfl⟩
  rw [← ha, ← hb, ← hc, ← hd, ← hf] at HS
  rw [← hc, ← hd, ← hz] at HC
  rw [← ha, ← hb]
  rw [← hf, ← hz] at HP
  rw [← hf] at hE
  have HB := Aside0.mk ((Below.refl w.heap.size w).alloc (Nat.le_refl _) (.cells #[.int .i64 a, .int .u64 b] 24 (0, 0)))
  clear ha hb hc hd hf hz hre hx hlo
  rcases hE with rfl | rfl
  · go_enter Try.func48, Try.ntmps48
    go_wp2_with (first
      | (go_at_call 56; (with_reducible refine ((HS.out _)).mono ?_); rintro e w1 ⟨rfl, hb1⟩; have HB1 := Aside0.mk ((hop HB.out hb1).alloc (hop HB.out hb1).size (.cells #[.int .i64 c, .int .u64 d] 24 (0, 0))); clear hb1))
    go_ret
    rw [HP.out]
    exact ⟨rfl, HB1.out⟩
  · go_enter Try.func48, Try.ntmps48
    go_wp2_with (first
      | (go_at_call 56; (with_reducible refine ((HS.out _)).mono ?_); rintro e w1 ⟨rfl, hb1⟩; have HB1 := Aside0.mk ((hop HB.out hb1).alloc (hop HB.out hb1).size (.cells #[.int .i64 c, .int .u64 d] 24 (0, 0))); clear hb1)
      | (go_at_call 50; (with_reducible refine ((HC.out _)).mono ?_); rintro e w2 ⟨rfl, hb2⟩; have HB2 := Aside0.mk (hop HB1.out hb2); clear hb2))
    go_ret
    rw [HP.out]
    exact ⟨rfl, HB2.out⟩
end Go.Proofs.Ytadmigijbfdboaa.Q
