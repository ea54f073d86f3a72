import Derived.Test.YthnihjfdmkfkiaaLWithin
namespace Go.Proofs.Ythnihjfdmkfkiaa.Q
open Go.RowKit Go.Proofs.YthnihjfdmkfkiaaW.PrintWords Go.Proofs.YthnihjfdmkfkiaaW.PrintLast Go.Proofs.YthnihjfdmkfkiaaW.PrintMore Go.Proofs.YthnihjfdmkfkiaaV
set_option linter.unusedVariables false
set_option linter.unusedSimpArgs false

set_option maxHeartbeats 3200000 in
set_option maxRecDepth 8000 in
theorem within_err (HM : MergeOk) {w : World} {A : Option Addr} {c : Nat} {l : List Int} {e0 : Int} (hl : l.length ≤ 1048576) (he : (e0 = 93 ∧ 1 ≤ l.length) ∨ (e0 = 90 ∧ l.length = 0))
    (HOF : Calls Try.prog 12 #[.slice A l.length c] w fun e w' => e = .returned (.tuple #[.agg #[.int .i64 0, .int .i64 0, .int .u64 0, .int .i64 0, .int .i64 0, .int .i64 0, .int .i64 0, .int .i64 0], .int .i64 e0]) ∧ Below w.heap.size w w') :
    Calls Try.prog 4 #[.slice A l.length c] w fun e w' => e = .returned (.bool true) ∧ Below w.heap.size w w' := by
  have HOF := Aside0.mk HOF
  have HAL := Aside0.mk (fun W => law_alive HM W)
  obtain ⟨N, hN⟩ : ∃ n, n = l.length := ⟨_, rfl⟩
  rw [← hN] at HOF he ⊢
  clear hN hl
  rcases he with ⟨rfl, h1⟩ | ⟨rfl, rfl⟩
  · have d0 : ((N : Int) == 0) = false := beq_eq_false_iff_ne.mpr (by omega)
    have d1 : decide (0 < N) = true := decide_eq_true (by omega)
    have d2 : decide ((0 : Int) < (N : Int)) = true := decide_eq_true (by omega)
    have d3 : 0 < N := by omega
    clear h1
    go_enter Try.func4, Try.ntmps4
    go_wp2_with (first
      | (go_at_call 12; (with_reducible refine (HOF.out).mono ?_); rintro e w1 ⟨rfl, hb⟩; have m := heap_alloc_new w1 (.cells #[.int .i64 0, .int .i64 0, .int .u64 0, .int .i64 0, .int .i64 0, .int .i64 0, .int .i64 0, .int .i64 0] 27 (0, 0)); have k0 := blk_cell m 0; have k1 := blk_cell m 1; have k2 := blk_cell m 2; have k3 := blk_cell m 3; have k4 := blk_cell m 4; have k5 := blk_cell m 5; have k6 := blk_cell m 6; have k7 := blk_cell m 7; have HB1 := Aside0.mk (hb.alloc hb.size (.cells #[.int .i64 0, .int .i64 0, .int .u64 0, .int .i64 0, .int .i64 0, .int .i64 0, .int .i64 0, .int .i64 0] 27 (0, 0))); clear hb m)
      | (go_at_call 14; (with_reducible refine (HAL.out _).mono ?_); rintro e w8 ⟨rfl, hb⟩; have B8 := Aside0.mk (hop HB1.out hb); clear hb))
    go_ret
    exact ⟨rfl, B8.out⟩
  · go_enter Try.func4, Try.ntmps4
    go_wp2_with (first
      | (go_at_call 12; (with_reducible refine (HOF.out).mono ?_); rintro e w1 ⟨rfl, hb⟩; have m := heap_alloc_new w1 (.cells #[.int .i64 0, .int .i64 0, .int .u64 0, .int .i64 0, .int .i64 0, .int .i64 0, .int .i64 0, .int .i64 0] 27 (0, 0)); have k0 := blk_cell m 0; have k1 := blk_cell m 1; have k2 := blk_cell m 2; have k3 := blk_cell m 3; have k4 := blk_cell m 4; have k5 := blk_cell m 5; have k6 := blk_cell m 6; have k7 := blk_cell m 7; have HB1 := Aside0.mk (hb.alloc hb.size (.cells #[.int .i64 0, .int .i64 0, .int .u64 0, .int .i64 0, .int .i64 0, .int .i64 0, .int .i64 0, .int .i64 0] 27 (0, 0))); clear hb m)
      | (go_at_call 14; (with_reducible refine (HAL.out _).mono ?_); rintro e w8 ⟨rfl, hb⟩; have B8 := Aside0.mk (hop HB1.out hb); clear hb))
    go_ret
    exact ⟨rfl, B8.out⟩
theorem law_TimerWithin (HM : MergeOk) {w : World} {A : Option Addr} {c : Nat} {l : List Int} (h : Kd.C (Kd.int .i64) w A l.length l) (hc : l.length ≤ c) (hl : l.length ≤ 1048576) :
    Calls Try.prog 4 #[.slice A l.length c] w fun e w' => e = .returned (.bool true) ∧ Below w.heap.size w w' := by
  by_cases hs : ∀ x ∈ l, smp x
  · by_cases h0 : l.length = 0
    · obtain rfl : l = [] := List.eq_nil_of_length_eq_zero h0
      exact within_err HM hl (.inr ⟨rfl, rfl⟩) (of_nil HM h (Nat.zero_le _))
    · exact within_ok HM h (by omega) hc hl hs
  · have h1 : 1 ≤ l.length := by
      cases l with
      | nil => exact (hs (fun x hx => by cases hx)).elim
      | cons a t => simp
    exact within_err HM hl (.inl ⟨rfl, h1⟩) (of_not h hl hs)
end Go.Proofs.Ythnihjfdmkfkiaa.Q
