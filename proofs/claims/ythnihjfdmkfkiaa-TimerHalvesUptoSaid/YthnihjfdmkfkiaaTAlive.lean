import Derived.Test.YthnihjfdmkfkiaaTOf
namespace Go.Proofs.Ythnihjfdmkfkiaa.Q
open Go.RowKit Go.Proofs.YthnihjfdmkfkiaaW.PrintWords Go.Proofs.YthnihjfdmkfkiaaW.PrintLast Go.Proofs.YthnihjfdmkfkiaaW.PrintMore Go.Proofs.YthnihjfdmkfkiaaV
set_option linter.unusedVariables false
set_option linter.unusedSimpArgs false

theorem sort514' : sortP [5, 1, 4] = [1, 4, 5] := by
  refine (sortP_of ?_ ?_).symm
  · unfold Rise
    decide
  · decide
theorem stat514 : statA (sortP [5, 1, 4]) = #[.int .i64 3, .int .i64 0, .int .u64 10, .int .i64 1, .int .i64 5, .int .i64 3, .int .i64 4, .int .i64 1] := by
  rw [sort514']
  have h : devP [1, 4, 5] = 1 := by
    unfold devP
    exact isq_eq (by omega) (by decide) (by decide)
  unfold statA
  rw [h]
  rfl
theorem C_three {W : World} {g : Nat} {a b c : Int} {t : TypeId} (h : W.heap[g]? = some (.cells #[.int .i64 a, .int .i64 b, .int .i64 c] t (0, 0))) : Kd.C (Kd.int .i64) W (some ⟨g, 0, none⟩) 3 [a, b, c] := by
  refine Kd.C_of_reads (d := (0 : Int)) (h1 := fun _ => rfl) ⟨rfl, by simp, fun _ => ⟨_, rfl, fun j hj => ?_⟩⟩
  rcases (show j = 0 ∨ j = 1 ∨ j = 2 by have h3 : j < 3 := hj; omega) with rfl | rfl | rfl
  · exact blk_cell h 0
  · exact blk_cell h 1
  · exact blk_cell h 2
set_option maxHeartbeats 3200000 in
set_option maxRecDepth 4000 in
theorem law_alive (HM : MergeOk) (w : World) :
    Calls Try.prog 14 #[] w fun e w' => e = .returned (.bool true) ∧ Below w.heap.size w w' := by
  have n0 := heap_alloc_new w (.cells #[.int .i64 5, .int .i64 1, .int .i64 4] 2 (0, 0))
  have HOF := timer_Of HM (C_three n0) (c := 3) (by decide) (by decide) (by decide) (fun x hx => by unfold smp; simp at hx; omega)
  rw [stat514] at HOF
  have HOF := Aside0.mk (show Calls Try.prog 12 #[.slice (some ⟨w.heap.size, 0, none⟩) 3 3] (w.alloc (.cells #[.int .i64 5, .int .i64 1, .int .i64 4] 2 (0, 0))) _ from HOF)
  have NB := Aside0.mk (below_alloc (Below.refl w.heap.size w) (.cells #[.int .i64 5, .int .i64 1, .int .i64 4] 2 (0, 0)))
  have HW := Aside0.mk (fun W => (show Calls Try.prog 15 #[.int .i64 10] W (fun e w' => e = .returned (.agg #[.int .i64 0, .int .u64 10]) ∧ Below W.heap.size W w') from wide_Of W (by unfold in64; omega)))
  clear n0
  go_enter Try.func14, Try.ntmps14
  go_upto_region 2 with (first
    | (go_at_call 12; (with_reducible refine (HOF.out).mono ?_); rintro e w5 ⟨rfl, hb5⟩; have HB5 := Aside0.mk (hop NB.out hb5); clear hb5))
  have m6 := heap_alloc_new w5 (.cells #[.int .i64 3, .int .i64 0, .int .u64 10, .int .i64 1, .int .i64 5, .int .i64 3, .int .i64 4, .int .i64 1] 27 (0, 0))
  have hb6 : Below w.heap.size w (w5.alloc (.cells #[.int .i64 3, .int .i64 0, .int .u64 10, .int .i64 1, .int .i64 5, .int .i64 3, .int .i64 4, .int .i64 1] 27 (0, 0))) := HB5.out.alloc HB5.out.size _
  obtain ⟨W, hW⟩ : ∃ W, W = w5.alloc (.cells #[.int .i64 3, .int .i64 0, .int .u64 10, .int .i64 1, .int .i64 5, .int .i64 3, .int .i64 4, .int .i64 1] 27 (0, 0)) := ⟨_, rfl⟩
  rw [← hW] at m6 hb6 ⊢
  clear hW
  obtain ⟨g, hg⟩ : ∃ g, g = w5.heap.size := ⟨_, rfl⟩
  rw [← hg] at m6 ⊢
  clear hg
  have c0 : W.cell? ⟨g, 0, none⟩ = some (.int .i64 3) := blk_cell m6 0
  have c1 : W.cell? ⟨g, 1, none⟩ = some (.int .i64 0) := blk_cell m6 1
  have c2 : W.cell? ⟨g, 2, none⟩ = some (.int .u64 10) := blk_cell m6 2
  have c5 : W.cell? ⟨g, 6, none⟩ = some (.int .i64 4) := blk_cell m6 6
  have c6 : W.cell? ⟨g, 7, none⟩ = some (.int .i64 1) := blk_cell m6 7
  have M6 := Aside0.mk m6
  have HB6 := Aside0.mk hb6
  clear m6 hb6
  go_region_held3 (fun w' => w'.cell? ⟨g, 0, none⟩ = some (.int .i64 3) ∧ w'.cell? ⟨g, 1, none⟩ = some (.int .i64 0) ∧ w'.cell? ⟨g, 2, none⟩ = some (.int .u64 10) ∧ w'.cell? ⟨g, 6, none⟩ = some (.int .i64 4) ∧ w'.cell? ⟨g, 7, none⟩ = some (.int .i64 1)) (go_keep) (first
    | (go_at_call 15; (with_reducible refine (HW.out _).mono ?_); rintro e w7 ⟨rfl, hb7⟩; have m7 := (hb7.block _ (blk_lt M6.out)).trans M6.out; have k0 := blk_cell m7 0; have k1 := blk_cell m7 1; have k2 := blk_cell m7 2; have k5 := blk_cell m7 6; have k6 := blk_cell m7 7; have HB7 := Aside0.mk (hop (below_drew HB6.out) hb7); clear hb7 m7))
  all_goals
    go_wp2_with (fail)
    go_ret
    exact ⟨rfl, HB7.out⟩
end Go.Proofs.Ythnihjfdmkfkiaa.Q
