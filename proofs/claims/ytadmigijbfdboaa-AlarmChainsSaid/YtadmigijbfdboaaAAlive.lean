import Derived.Test.YtadmigijbfdboaaANew
namespace Go.Proofs.Ytadmigijbfdboaa.Q
open Go.RowKit Go.Proofs.YtadmigijbfdboaaW.PrintWords Go.Proofs.YtadmigijbfdboaaW.PrintLast Go.Proofs.YtadmigijbfdboaaW.PrintMore Go.Proofs.YtadmigijbfdboaaV
set_option linter.unusedVariables false
set_option linter.unusedSimpArgs false

theorem wide_Of (n : Int) (w : World) (hn : 0 ≤ n ∧ n ≤ 1000000) :
    Calls Try.prog 24 #[.int .i64 n] w fun e w' => e = .returned (WV n) ∧ Below w.heap.size w w' := by
  have e1 : n / 9223372036854775808 = 0 := by omega
  have HE := Aside0.mk (show hiW n = 0 ∧ loW n = n by unfold hiW loW; omega)
  go_enter Try.func24, Try.ntmps24
  go_wp2
  refine bodyPost_ret (results_cell_row rfl _ _ w.heap.size 24 _ (0, 0) _ rfl (heap_alloc_new w _) Try.underlying24 rfl (by kernel_rfl)) rfl ?_
  refine ⟨?_, (Below.refl w.heap.size w).alloc (Nat.le_refl _) _⟩
  unfold WV
  rw [HE.out.1, HE.out.2]
set_option maxHeartbeats 400000 in
theorem res11 {w : World} {g : Nat} {t : TypeId} {c0 c1 c2 c3 c4 c5 c6 c7 c8 c9 c10 v0 v1 v2 v3 v4 v5 v6 v7 v8 v9 v10 : Value} (h : w.heap[g]? = some (.cells #[c0, c1, c2, c3, c4, c5, c6, c7, c8, c9, c10] t (0, 0))) :
    w.cell? ⟨g, 0, none⟩ = some c0 ∧ w.frozen? ⟨g, 0, none⟩ = false ∧ (w.setCell ⟨g, 0, none⟩ v0).cell? ⟨g, 1, none⟩ = some c1 ∧ (w.setCell ⟨g, 0, none⟩ v0).frozen? ⟨g, 1, none⟩ = false ∧ ((w.setCell ⟨g, 0, none⟩ v0).setCell ⟨g, 1, none⟩ v1).cell? ⟨g, 2, none⟩ = some c2 ∧ ((w.setCell ⟨g, 0, none⟩ v0).setCell ⟨g, 1, none⟩ v1).frozen? ⟨g, 2, none⟩ = false ∧ (((w.setCell ⟨g, 0, none⟩ v0).setCell ⟨g, 1, none⟩ v1).setCell ⟨g, 2, none⟩ v2).cell? ⟨g, 3, none⟩ = some c3 ∧ (((w.setCell ⟨g, 0, none⟩ v0).setCell ⟨g, 1, none⟩ v1).setCell ⟨g, 2, none⟩ v2).frozen? ⟨g, 3, none⟩ = false ∧ ((((w.setCell ⟨g, 0, none⟩ v0).setCell ⟨g, 1, none⟩ v1).setCell ⟨g, 2, none⟩ v2).setCell ⟨g, 3, none⟩ v3).cell? ⟨g, 4, none⟩ = some c4 ∧ ((((w.setCell ⟨g, 0, none⟩ v0).setCell ⟨g, 1, none⟩ v1).setCell ⟨g, 2, none⟩ v2).setCell ⟨g, 3, none⟩ v3).frozen? ⟨g, 4, none⟩ = false ∧ (((((w.setCell ⟨g, 0, none⟩ v0).setCell ⟨g, 1, none⟩ v1).setCell ⟨g, 2, none⟩ v2).setCell ⟨g, 3, none⟩ v3).setCell ⟨g, 4, none⟩ v4).cell? ⟨g, 5, none⟩ = some c5 ∧ (((((w.setCell ⟨g, 0, none⟩ v0).setCell ⟨g, 1, none⟩ v1).setCell ⟨g, 2, none⟩ v2).setCell ⟨g, 3, none⟩ v3).setCell ⟨g, 4, none⟩ v4).frozen? ⟨g, 5, none⟩ = false ∧ ((((((w.setCell ⟨g, 0, none⟩ v0).setCell ⟨g, 1, none⟩ v1).setCell ⟨g, 2, none⟩ v2).setCell ⟨g, 3, none⟩ v3).setCell ⟨g, 4, none⟩ v4).setCell ⟨g, 5, none⟩ v5).cell? ⟨g, 6, none⟩ = some c6 ∧ ((((((w.setCell ⟨g, 0, none⟩ v0).setCell ⟨g, 1, none⟩ v1).setCell ⟨g, 2, none⟩ v2).setCell ⟨g, 3, none⟩ v3).setCell ⟨g, 4, none⟩ v4).setCell ⟨g, 5, none⟩ v5).frozen? ⟨g, 6, none⟩ = false ∧ (((((((w.setCell ⟨g, 0, none⟩ v0).setCell ⟨g, 1, none⟩ v1).setCell ⟨g, 2, none⟩ v2).setCell ⟨g, 3, none⟩ v3).setCell ⟨g, 4, none⟩ v4).setCell ⟨g, 5, none⟩ v5).setCell ⟨g, 6, none⟩ v6).cell? ⟨g, 7, none⟩ = some c7 ∧ (((((((w.setCell ⟨g, 0, none⟩ v0).setCell ⟨g, 1, none⟩ v1).setCell ⟨g, 2, none⟩ v2).setCell ⟨g, 3, none⟩ v3).setCell ⟨g, 4, none⟩ v4).setCell ⟨g, 5, none⟩ v5).setCell ⟨g, 6, none⟩ v6).frozen? ⟨g, 7, none⟩ = false ∧ ((((((((w.setCell ⟨g, 0, none⟩ v0).setCell ⟨g, 1, none⟩ v1).setCell ⟨g, 2, none⟩ v2).setCell ⟨g, 3, none⟩ v3).setCell ⟨g, 4, none⟩ v4).setCell ⟨g, 5, none⟩ v5).setCell ⟨g, 6, none⟩ v6).setCell ⟨g, 7, none⟩ v7).cell? ⟨g, 8, none⟩ = some c8 ∧ ((((((((w.setCell ⟨g, 0, none⟩ v0).setCell ⟨g, 1, none⟩ v1).setCell ⟨g, 2, none⟩ v2).setCell ⟨g, 3, none⟩ v3).setCell ⟨g, 4, none⟩ v4).setCell ⟨g, 5, none⟩ v5).setCell ⟨g, 6, none⟩ v6).setCell ⟨g, 7, none⟩ v7).frozen? ⟨g, 8, none⟩ = false ∧ (((((((((w.setCell ⟨g, 0, none⟩ v0).setCell ⟨g, 1, none⟩ v1).setCell ⟨g, 2, none⟩ v2).setCell ⟨g, 3, none⟩ v3).setCell ⟨g, 4, none⟩ v4).setCell ⟨g, 5, none⟩ v5).setCell ⟨g, 6, none⟩ v6).setCell ⟨g, 7, none⟩ v7).setCell ⟨g, 8, none⟩ v8).cell? ⟨g, 9, none⟩ = some c9 ∧ (((((((((w.setCell ⟨g, 0, none⟩ v0).setCell ⟨g, 1, none⟩ v1).setCell ⟨g, 2, none⟩ v2).setCell ⟨g, 3, none⟩ v3).setCell ⟨g, 4, none⟩ v4).setCell ⟨g, 5, none⟩ v5).setCell ⟨g, 6, none⟩ v6).setCell ⟨g, 7, none⟩ v7).setCell ⟨g, 8, none⟩ v8).frozen? ⟨g, 9, none⟩ = false ∧ ((((((((((w.setCell ⟨g, 0, none⟩ v0).setCell ⟨g, 1, none⟩ v1).setCell ⟨g, 2, none⟩ v2).setCell ⟨g, 3, none⟩ v3).setCell ⟨g, 4, none⟩ v4).setCell ⟨g, 5, none⟩ v5).setCell ⟨g, 6, none⟩ v6).setCell ⟨g, 7, none⟩ v7).setCell ⟨g, 8, none⟩ v8).setCell ⟨g, 9, none⟩ v9).cell? ⟨g, 10, none⟩ = some c10 ∧ ((((((((((w.setCell ⟨g, 0, none⟩ v0).setCell ⟨g, 1, none⟩ v1).setCell ⟨g, 2, none⟩ v2).setCell ⟨g, 3, none⟩ v3).setCell ⟨g, 4, none⟩ v4).setCell ⟨g, 5, none⟩ v5).setCell ⟨g, 6, none⟩ v6).setCell ⟨g, 7, none⟩ v7).setCell ⟨g, 8, none⟩ v8).setCell ⟨g, 9, none⟩ v9).frozen? ⟨g, 10, none⟩ = false ∧ (((((((((((w.setCell ⟨g, 0, none⟩ v0).setCell ⟨g, 1, none⟩ v1).setCell ⟨g, 2, none⟩ v2).setCell ⟨g, 3, none⟩ v3).setCell ⟨g, 4, none⟩ v4).setCell ⟨g, 5, none⟩ v5).setCell ⟨g, 6, none⟩ v6).setCell ⟨g, 7, none⟩ v7).setCell ⟨g, 8, none⟩ v8).setCell ⟨g, 9, none⟩ v9).setCell ⟨g, 10, none⟩ v10).heap[g]? = some (.cells #[v0, v1, v2, v3, v4, v5, v6, v7, v8, v9, v10] t (0, 0)) := by
  have h0 := blk_put (cs' := #[v0, c1, c2, c3, c4, c5, c6, c7, c8, c9, c10]) h 0 v0 rfl
  have h1 := blk_put (cs' := #[v0, v1, c2, c3, c4, c5, c6, c7, c8, c9, c10]) h0 1 v1 rfl
  have h2 := blk_put (cs' := #[v0, v1, v2, c3, c4, c5, c6, c7, c8, c9, c10]) h1 2 v2 rfl
  have h3 := blk_put (cs' := #[v0, v1, v2, v3, c4, c5, c6, c7, c8, c9, c10]) h2 3 v3 rfl
  have h4 := blk_put (cs' := #[v0, v1, v2, v3, v4, c5, c6, c7, c8, c9, c10]) h3 4 v4 rfl
  have h5 := blk_put (cs' := #[v0, v1, v2, v3, v4, v5, c6, c7, c8, c9, c10]) h4 5 v5 rfl
  have h6 := blk_put (cs' := #[v0, v1, v2, v3, v4, v5, v6, c7, c8, c9, c10]) h5 6 v6 rfl
  have h7 := blk_put (cs' := #[v0, v1, v2, v3, v4, v5, v6, v7, c8, c9, c10]) h6 7 v7 rfl
  have h8 := blk_put (cs' := #[v0, v1, v2, v3, v4, v5, v6, v7, v8, c9, c10]) h7 8 v8 rfl
  have h9 := blk_put (cs' := #[v0, v1, v2, v3, v4, v5, v6, v7, v8, v9, c10]) h8 9 v9 rfl
  have h10 := blk_put (cs' := #[v0, v1, v2, v3, v4, v5, v6, v7, v8, v9, v10]) h9 10 v10 rfl
  exact ⟨blk_cell h 0, blk_frozen h 0, blk_cell h0 1, blk_frozen h0 1, blk_cell h1 2, blk_frozen h1 2, blk_cell h2 3, blk_frozen h2 3, blk_cell h3 4, blk_frozen h3 4, blk_cell h4 5, blk_frozen h4 5, blk_cell h5 6, blk_frozen h5 6, blk_cell h6 7, blk_frozen h6 7, blk_cell h7 8, blk_frozen h7 8, blk_cell h8 9, blk_frozen h8 9, blk_cell h9 10, blk_frozen h9 10, h10⟩
def upN : ByteArray := ⟨#[117, 112]⟩
def upR : Rul := ⟨upN, true, 10, 20, 2, 1, 0, 0⟩
set_option maxHeartbeats 800000 in
theorem law_up (w : World) : Calls Try.prog 23 #[] w fun e w' => e = .returned (.agg (ruleA upR)) ∧ Below w.heap.size w w' := by
  have H10 := Aside0.mk (fun W => wide_Of 10 W (by omega))
  have H20 := Aside0.mk (fun W => wide_Of 20 W (by omega))
  have H2 := Aside0.mk (fun W => wide_Of 2 W (by omega))
  rw [show WV 10 = .agg #[.int .i64 0, .int .u64 10] from rfl] at H10
  rw [show WV 20 = .agg #[.int .i64 0, .int .u64 20] from rfl] at H20
  rw [show WV 2 = .agg #[.int .i64 0, .int .u64 2] from rfl] at H2
  have HB := Aside0.mk ((Below.refl w.heap.size w).alloc (Nat.le_refl _) (.cells #[.string ⟨#[]⟩, .bool false, .int .i64 0, .int .u64 0, .int .i64 0, .int .u64 0, .int .i64 0, .int .u64 0, .int .i64 0, .int .i64 0, .int .i64 0] 26 (0, 0)))
  have N0 := Aside0.mk (heap_alloc_new w (.cells #[.string ⟨#[]⟩, .bool false, .int .i64 0, .int .u64 0, .int .i64 0, .int .u64 0, .int .i64 0, .int .u64 0, .int .i64 0, .int .i64 0, .int .i64 0] 26 (0, 0)))
  go_enter Try.func23, Try.ntmps23
  go_wp2_with (first
    | (go_at_call 24; (with_reducible refine (H10.out _).mono ?_); rintro e w1 ⟨rfl, hb⟩; have HB_ := Aside0.mk (hop HB.out hb); have N_ := Aside0.mk ((hb.block _ (blk_lt N0.out)).trans N0.out); clear HB N0 hb; have HB := HB_; have N0 := N_; clear HB_ N_)
    | (go_at_call 24; (with_reducible refine (H20.out _).mono ?_); rintro e w2 ⟨rfl, hb⟩; have HB_ := Aside0.mk (hop HB.out hb); have N_ := Aside0.mk ((hb.block _ (blk_lt N0.out)).trans N0.out); clear HB N0 hb; have HB := HB_; have N0 := N_; clear HB_ N_)
    | (go_at_call 24; (with_reducible refine (H2.out _).mono ?_); rintro e w3 ⟨rfl, hb⟩; have HB_ := Aside0.mk (hop HB.out hb); have N_ := Aside0.mk ((hb.block _ (blk_lt N0.out)).trans N0.out); clear HB N0 hb; have HB := HB_; have N0 := N_; clear HB_ N_; obtain ⟨f0, g0, f1, g1, f2, g2, f3, g3, f4, g4, f5, g5, f6, g6, f7, g7, f8, g8, f9, g9, f10, g10, ff⟩ := res11 (v0 := .string ⟨#[117, 112]⟩) (v1 := .bool true) (v2 := .int .i64 0) (v3 := .int .u64 10) (v4 := .int .i64 0) (v5 := .int .u64 20) (v6 := .int .i64 0) (v7 := .int .u64 2) (v8 := .int .i64 1) (v9 := .int .i64 0) (v10 := .int .i64 0) N0.out; have FF := Aside0.mk ff; clear ff))
  refine bodyPost_ret (results_cell_row rfl _ _ w.heap.size 26 _ (0, 0) _ rfl FF.out Try.underlying26 rfl (by kernel_rfl)) rfl ?_
  exact ⟨rfl, HB.out.trans (((((((((((((Keep.refl w3 (fun k => k = w.heap.size)).set ⟨w.heap.size, 0, none⟩ (.string ⟨#[117, 112]⟩) (.inl rfl)).set ⟨w.heap.size, 1, none⟩ (.bool true) (.inl rfl)).set ⟨w.heap.size, 2, none⟩ (.int .i64 0) (.inl rfl)).set ⟨w.heap.size, 3, none⟩ (.int .u64 10) (.inl rfl)).set ⟨w.heap.size, 4, none⟩ (.int .i64 0) (.inl rfl)).set ⟨w.heap.size, 5, none⟩ (.int .u64 20) (.inl rfl)).set ⟨w.heap.size, 6, none⟩ (.int .i64 0) (.inl rfl)).set ⟨w.heap.size, 7, none⟩ (.int .u64 2) (.inl rfl)).set ⟨w.heap.size, 8, none⟩ (.int .i64 1) (.inl rfl)).set ⟨w.heap.size, 9, none⟩ (.int .i64 0) (.inl rfl)).set ⟨w.heap.size, 10, none⟩ (.int .i64 0) (.inl rfl)).below HB.out.size (fun k hk => by omega))⟩
theorem up_may : MayP upR := by unfold MayP; decide
theorem up_in : RulIn upR := ⟨by unfold inW; decide, by unfold inW; decide, by unfold inW; decide⟩
theorem up_new : newK [] [upR] = none := by
  simp only [newK]
  rw [if_neg]
  rintro (h | ⟨x, hx, -⟩)
  · exact h up_may
  · cases hx
theorem up_one {L : List Ent} (h : L.map (·.2) = [upR].map (fun r => (r, stt0))) : ∃ g, L = [(g, upR, stt0)] := by
  cases L with
  | nil => simp at h
  | cons x t =>
    cases t with
    | nil =>
      obtain ⟨g, p⟩ := x
      simp at h
      subst h
      exact ⟨g, rfl⟩
    | cons y t => simp at h
/-- How it stands behind 25. -/
def sttB : Stt := ⟨3, 3, 1, 0, 0, 0, 1, true, 0⟩
theorem up_idx (g : Nat) (s : Stt) : idxP [(g, upR, s)] upN = some 0 := idxP_some (x := (g, upR, s)) rfl rfl (fun j hj => by omega)
theorem up_feed1 (g : Nat) : feedP [(g, upR, stt0)] upN 1 true 25 = ([⟨upN, 1, 1, 3, false, true, 25⟩], 0, [(g, upR, sttB)]) := by
  unfold feedP
  rw [up_idx]
  rfl
theorem up_feed2 (g : Nat) : ∃ s, feedP [(g, upR, sttB)] upN 2 true 19 = ([], 0, [(g, upR, s)]) := by
  unfold feedP
  rw [up_idx]
  exact ⟨_, rfl⟩
theorem up_state (g : Nat) : stateP [(g, upR, sttB)] upN = (3, true) := by
  unfold stateP
  rw [up_idx]
  rfl
end Go.Proofs.Ytadmigijbfdboaa.Q
