import Derived.Test.YtadmigijbfdboaaMC
import Derived.Test.YtadmigijbfdboaaWEqStruct
import Derived.BigQuiet
namespace Go.Proofs.Ytadmigijbfdboaa.Q
open Go.RowKit Go.Proofs.YtadmigijbfdboaaW.PrintWords Go.Proofs.YtadmigijbfdboaaW.PrintLast Go.Proofs.YtadmigijbfdboaaW.PrintMore Go.Proofs.YtadmigijbfdboaaV
set_option linter.unusedVariables false
set_option linter.unusedSimpArgs false

theorem eqA24 (d : Nat) (w : World) (x0 y0 : Int) (x1 y1 : Int) :
    (Op.equalIn (d + 2) 24 (.agg #[.int .i64 x0, .int .u64 x1]) (.agg #[.int .i64 y0, .int .u64 y1])).run Try.prog w = .ok (x0 == y0 && (x1 == y1)) w := by
  refine eqA_of Try.underlying24 (by kernel_rfl) ?_
  refine eqf_cons (by rfl) (by go_simp; rfl) (by go_simp; rfl) (by go_simp) ?_
  exact eqf_last (by rfl) (by go_simp; rfl) (by go_simp; rfl) (by go_simp)
theorem eqA37 (d : Nat) (w : World) (x0 y0 : Bool) (x1 y1 : Int) (x2 y2 : Int) :
    (Op.equalIn (d + 3) 37 (.agg #[.bool x0, .int .i64 x1, .int .u64 x2]) (.agg #[.bool y0, .int .i64 y1, .int .u64 y2])).run Try.prog w = .ok (x0 == y0 && ((x1 == y1 && (x2 == y2)))) w := by
  refine eqA_of Try.underlying37 (by kernel_rfl) ?_
  refine eqf_cons (by rfl) (by go_simp; rfl) (by go_simp; rfl) (by go_simp) ?_
  exact eqf_last (by rfl) (by go_simp) (by go_simp) (eqA24 (d + 0) w _ _ _ _)
theorem eqA48 (d : Nat) (w : World) (x0 y0 : ByteArray) (x1 y1 : Int) (x2 y2 : Int) (x3 y3 : Int) (x4 y4 : Bool) (x5 y5 : Bool) (x6 y6 : Int) (x7 y7 : Int) :
    (Op.equalIn (d + 4) 48 (.agg #[.string x0, .int .i64 x1, .int .i64 x2, .int .i64 x3, .bool x4, .bool x5, .int .i64 x6, .int .u64 x7]) (.agg #[.string y0, .int .i64 y1, .int .i64 y2, .int .i64 y3, .bool y4, .bool y5, .int .i64 y6, .int .u64 y7])).run Try.prog w = .ok (x0.toList == y0.toList && (x1 == y1 && (x2 == y2 && (x3 == y3 && (x4 == y4 && ((x5 == y5 && ((x6 == y6 && (x7 == y7)))))))))) w := by
  refine eqA_of Try.underlying48 (by kernel_rfl) ?_
  refine eqf_cons (by rfl) (by go_simp; rfl) (by go_simp; rfl) (by go_simp) ?_
  refine eqf_cons (by rfl) (by go_simp; rfl) (by go_simp; rfl) (by go_simp) ?_
  refine eqf_cons (by rfl) (by go_simp; rfl) (by go_simp; rfl) (by go_simp) ?_
  refine eqf_cons (by rfl) (by go_simp; rfl) (by go_simp; rfl) (by go_simp) ?_
  refine eqf_cons (by rfl) (by go_simp; rfl) (by go_simp; rfl) (by go_simp) ?_
  exact eqf_last (by rfl) (by go_simp) (by go_simp) (eqA37 (d + 0) w _ _ _ _ _ _)
deriving instance DecidableEq for Alr
section
attribute [local go_sem high] eqA24 eqA37 eqA48
set_option maxHeartbeats 6400000 in
set_option maxRecDepth 4000 in
theorem ref_Same11 {w : World} {ga gb c d : Nat} {a b : Alr} (hl : w.heap[ga]? = some (.cells (alrCells a).toArray 48 (0, 0))) (hm : w.heap[gb]? = some (.cells (alrCells b).toArray 48 (0, 0))) :
    Calls Try.prog 18 #[.slice (some ⟨ga, 0, none⟩) 1 c, .slice (some ⟨gb, 0, none⟩) 1 d] w fun e w' => e = .returned (.bool (decide (a = b))) ∧ Below w.heap.size w w' := by
  obtain ⟨D, hD⟩ : ∃ D, D = decide (a = b) := ⟨_, rfl⟩
  rw [← hD]
  obtain ⟨n1, t1, f1, o1, q1, i1, v1⟩ := a
  obtain ⟨n2, t2, f2, o2, q2, i2, v2⟩ := b
  unfold alrCells at hl hm
  by_cases hne : n1 = n2
  · subst hne
    by_cases hne : t1 = t2
    · subst hne
      by_cases hne : f1 = f2
      · subst hne
        by_cases hne : o1 = o2
        · subst hne
          by_cases hne : q1 = q2
          · subst hne
            by_cases hne : i1 = i2
            · subst hne
              by_cases hne : v1 = v2
              · subst hne
                have HD := Aside0.mk (show D = true from hD.trans (decide_eq_true rfl))
                have h0 : ∀ n, (w.drewN n).cell? ⟨ga, 0, none⟩ = _ := fun n => blk_cell hl 0
                have m0 : ∀ n, (w.drewN n).cell? ⟨gb, 0, none⟩ = _ := fun n => blk_cell hm 0
                have h1 : ∀ n, (w.drewN n).cell? ⟨ga, 1, none⟩ = _ := fun n => blk_cell hl 1
                have m1 : ∀ n, (w.drewN n).cell? ⟨gb, 1, none⟩ = _ := fun n => blk_cell hm 1
                have h2 : ∀ n, (w.drewN n).cell? ⟨ga, 2, none⟩ = _ := fun n => blk_cell hl 2
                have m2 : ∀ n, (w.drewN n).cell? ⟨gb, 2, none⟩ = _ := fun n => blk_cell hm 2
                have h3 : ∀ n, (w.drewN n).cell? ⟨ga, 3, none⟩ = _ := fun n => blk_cell hl 3
                have m3 : ∀ n, (w.drewN n).cell? ⟨gb, 3, none⟩ = _ := fun n => blk_cell hm 3
                have h4 : ∀ n, (w.drewN n).cell? ⟨ga, 4, none⟩ = _ := fun n => blk_cell hl 4
                have m4 : ∀ n, (w.drewN n).cell? ⟨gb, 4, none⟩ = _ := fun n => blk_cell hm 4
                have h5 : ∀ n, (w.drewN n).cell? ⟨ga, 5, none⟩ = _ := fun n => blk_cell hl 5
                have m5 : ∀ n, (w.drewN n).cell? ⟨gb, 5, none⟩ = _ := fun n => blk_cell hm 5
                have h6 : ∀ n, (w.drewN n).cell? ⟨ga, 6, none⟩ = _ := fun n => blk_cell hl 6
                have m6 : ∀ n, (w.drewN n).cell? ⟨gb, 6, none⟩ = _ := fun n => blk_cell hm 6
                have h7 : ∀ n, (w.drewN n).cell? ⟨ga, 7, none⟩ = _ := fun n => blk_cell hl 7
                have m7 : ∀ n, (w.drewN n).cell? ⟨gb, 7, none⟩ = _ := fun n => blk_cell hm 7
                clear hl hm hD
                go_enter Try.func18, Try.ntmps18
                go_wp2
                go_loopg [5] 1 (fun kq v5 w' => ∃ i : Nat, v5 = .int .i64 i ∧ i + kq = 1 ∧ ∃ n, w' = w.drewN n)
                case atStart => exact ⟨0, rfl, by omega, 0, rfl⟩
                case round =>
                  obtain ⟨i, rfl, hik, nn, rfl⟩ := hrel
                  cases gk with
                  | zero =>
                    obtain rfl : i = 1 := by omega
                    go_wp2
                    go_ret
                    rw [HD.out]
                    exact ⟨rfl, pw_below_drewN (Below.refl _ _) nn⟩
                  | succ k1 =>
                    obtain rfl : i = 0 := by omega
                    go_upto_region 6 with (fail)
                    go_quiet (fail)
                    go_wp2
                    go_roundg k1
                    case rel => exact ⟨1, by go_num, by omega, _, rfl⟩
                    case measure => omega
              · have HD := Aside0.mk (show D = false from hD.trans (decide_eq_false (fun q => hne (congrArg Alr.val q))))
                have h0 : ∀ n, (w.drewN n).cell? ⟨ga, 0, none⟩ = _ := fun n => blk_cell hl 0
                have m0 : ∀ n, (w.drewN n).cell? ⟨gb, 0, none⟩ = _ := fun n => blk_cell hm 0
                have h1 : ∀ n, (w.drewN n).cell? ⟨ga, 1, none⟩ = _ := fun n => blk_cell hl 1
                have m1 : ∀ n, (w.drewN n).cell? ⟨gb, 1, none⟩ = _ := fun n => blk_cell hm 1
                have h2 : ∀ n, (w.drewN n).cell? ⟨ga, 2, none⟩ = _ := fun n => blk_cell hl 2
                have m2 : ∀ n, (w.drewN n).cell? ⟨gb, 2, none⟩ = _ := fun n => blk_cell hm 2
                have h3 : ∀ n, (w.drewN n).cell? ⟨ga, 3, none⟩ = _ := fun n => blk_cell hl 3
                have m3 : ∀ n, (w.drewN n).cell? ⟨gb, 3, none⟩ = _ := fun n => blk_cell hm 3
                have h4 : ∀ n, (w.drewN n).cell? ⟨ga, 4, none⟩ = _ := fun n => blk_cell hl 4
                have m4 : ∀ n, (w.drewN n).cell? ⟨gb, 4, none⟩ = _ := fun n => blk_cell hm 4
                have h5 : ∀ n, (w.drewN n).cell? ⟨ga, 5, none⟩ = _ := fun n => blk_cell hl 5
                have m5 : ∀ n, (w.drewN n).cell? ⟨gb, 5, none⟩ = _ := fun n => blk_cell hm 5
                have h6 : ∀ n, (w.drewN n).cell? ⟨ga, 6, none⟩ = _ := fun n => blk_cell hl 6
                have m6 : ∀ n, (w.drewN n).cell? ⟨gb, 6, none⟩ = _ := fun n => blk_cell hm 6
                have h7 : ∀ n, (w.drewN n).cell? ⟨ga, 7, none⟩ = _ := fun n => blk_cell hl 7
                have m7 : ∀ n, (w.drewN n).cell? ⟨gb, 7, none⟩ = _ := fun n => blk_cell hm 7
                have e1 : hiW v1 ≠ hiW v2 ∨ loW v1 ≠ loW v2 := by
                  by_cases hh : hiW v1 = hiW v2
                  · exact .inr (fun q => hne (hl_eq.2 ⟨hh, q⟩))
                  · exact .inl hh
                clear hl hm hne hD
                rcases e1 with e1 | e1
                · have e2 : (hiW v1 == hiW v2) = false := beq_eq_false_iff_ne.mpr e1
                  clear e1
                  go_enter Try.func18, Try.ntmps18
                  go_wp2
                  go_loopg [5] 1 (fun kq v5 w' => ∃ i : Nat, v5 = .int .i64 i ∧ (i + kq = 1 ∧ i = 0) ∧ ∃ n, w' = w.drewN n)
                  case atStart => exact ⟨0, rfl, ⟨by omega, rfl⟩, 0, rfl⟩
                  case round =>
                    obtain ⟨i, rfl, hik, nn, rfl⟩ := hrel
                    cases gk with
                    | zero =>
                      exact absurd hik (by omega)
                    | succ k1 =>
                      obtain rfl : i = 0 := by omega
                      go_upto_region 6 with (fail)
                      go_quiet (fail)
                      go_wp2
                      go_ret
                      rw [HD.out]
                      first | exact ⟨rfl, pw_below_drewN (Below.refl _ _) _⟩ | exact ⟨rfl, pw_below_drewN (pw_below_drewN (Below.refl _ _) nn) _⟩
                · have e2 : (loW v1 == loW v2) = false := beq_eq_false_iff_ne.mpr e1
                  clear e1
                  go_enter Try.func18, Try.ntmps18
                  go_wp2
                  go_loopg [5] 1 (fun kq v5 w' => ∃ i : Nat, v5 = .int .i64 i ∧ (i + kq = 1 ∧ i = 0) ∧ ∃ n, w' = w.drewN n)
                  case atStart => exact ⟨0, rfl, ⟨by omega, rfl⟩, 0, rfl⟩
                  case round =>
                    obtain ⟨i, rfl, hik, nn, rfl⟩ := hrel
                    cases gk with
                    | zero =>
                      exact absurd hik (by omega)
                    | succ k1 =>
                      obtain rfl : i = 0 := by omega
                      go_upto_region 6 with (fail)
                      go_quiet (fail)
                      go_wp2
                      go_ret
                      rw [HD.out]
                      first | exact ⟨rfl, pw_below_drewN (Below.refl _ _) _⟩ | exact ⟨rfl, pw_below_drewN (pw_below_drewN (Below.refl _ _) nn) _⟩
            · have HD := Aside0.mk (show D = false from hD.trans (decide_eq_false (fun q => hne (congrArg Alr.is q))))
              have h0 : ∀ n, (w.drewN n).cell? ⟨ga, 0, none⟩ = _ := fun n => blk_cell hl 0
              have m0 : ∀ n, (w.drewN n).cell? ⟨gb, 0, none⟩ = _ := fun n => blk_cell hm 0
              have h1 : ∀ n, (w.drewN n).cell? ⟨ga, 1, none⟩ = _ := fun n => blk_cell hl 1
              have m1 : ∀ n, (w.drewN n).cell? ⟨gb, 1, none⟩ = _ := fun n => blk_cell hm 1
              have h2 : ∀ n, (w.drewN n).cell? ⟨ga, 2, none⟩ = _ := fun n => blk_cell hl 2
              have m2 : ∀ n, (w.drewN n).cell? ⟨gb, 2, none⟩ = _ := fun n => blk_cell hm 2
              have h3 : ∀ n, (w.drewN n).cell? ⟨ga, 3, none⟩ = _ := fun n => blk_cell hl 3
              have m3 : ∀ n, (w.drewN n).cell? ⟨gb, 3, none⟩ = _ := fun n => blk_cell hm 3
              have h4 : ∀ n, (w.drewN n).cell? ⟨ga, 4, none⟩ = _ := fun n => blk_cell hl 4
              have m4 : ∀ n, (w.drewN n).cell? ⟨gb, 4, none⟩ = _ := fun n => blk_cell hm 4
              have h5 : ∀ n, (w.drewN n).cell? ⟨ga, 5, none⟩ = _ := fun n => blk_cell hl 5
              have m5 : ∀ n, (w.drewN n).cell? ⟨gb, 5, none⟩ = _ := fun n => blk_cell hm 5
              have h6 : ∀ n, (w.drewN n).cell? ⟨ga, 6, none⟩ = _ := fun n => blk_cell hl 6
              have m6 : ∀ n, (w.drewN n).cell? ⟨gb, 6, none⟩ = _ := fun n => blk_cell hm 6
              have h7 : ∀ n, (w.drewN n).cell? ⟨ga, 7, none⟩ = _ := fun n => blk_cell hl 7
              have m7 : ∀ n, (w.drewN n).cell? ⟨gb, 7, none⟩ = _ := fun n => blk_cell hm 7
              have e1 : (i1 == i2) = false := beq_eq_false_iff_ne.mpr hne
              clear hl hm hne hD
              go_enter Try.func18, Try.ntmps18
              go_wp2
              go_loopg [5] 1 (fun kq v5 w' => ∃ i : Nat, v5 = .int .i64 i ∧ (i + kq = 1 ∧ i = 0) ∧ ∃ n, w' = w.drewN n)
              case atStart => exact ⟨0, rfl, ⟨by omega, rfl⟩, 0, rfl⟩
              case round =>
                obtain ⟨i, rfl, hik, nn, rfl⟩ := hrel
                cases gk with
                | zero =>
                  exact absurd hik (by omega)
                | succ k1 =>
                  obtain rfl : i = 0 := by omega
                  go_upto_region 6 with (fail)
                  go_quiet (fail)
                  go_wp2
                  go_ret
                  rw [HD.out]
                  first | exact ⟨rfl, pw_below_drewN (Below.refl _ _) _⟩ | exact ⟨rfl, pw_below_drewN (pw_below_drewN (Below.refl _ _) nn) _⟩
          · have HD := Aside0.mk (show D = false from hD.trans (decide_eq_false (fun q => hne (congrArg Alr.again q))))
            have h0 : ∀ n, (w.drewN n).cell? ⟨ga, 0, none⟩ = _ := fun n => blk_cell hl 0
            have m0 : ∀ n, (w.drewN n).cell? ⟨gb, 0, none⟩ = _ := fun n => blk_cell hm 0
            have h1 : ∀ n, (w.drewN n).cell? ⟨ga, 1, none⟩ = _ := fun n => blk_cell hl 1
            have m1 : ∀ n, (w.drewN n).cell? ⟨gb, 1, none⟩ = _ := fun n => blk_cell hm 1
            have h2 : ∀ n, (w.drewN n).cell? ⟨ga, 2, none⟩ = _ := fun n => blk_cell hl 2
            have m2 : ∀ n, (w.drewN n).cell? ⟨gb, 2, none⟩ = _ := fun n => blk_cell hm 2
            have h3 : ∀ n, (w.drewN n).cell? ⟨ga, 3, none⟩ = _ := fun n => blk_cell hl 3
            have m3 : ∀ n, (w.drewN n).cell? ⟨gb, 3, none⟩ = _ := fun n => blk_cell hm 3
            have h4 : ∀ n, (w.drewN n).cell? ⟨ga, 4, none⟩ = _ := fun n => blk_cell hl 4
            have m4 : ∀ n, (w.drewN n).cell? ⟨gb, 4, none⟩ = _ := fun n => blk_cell hm 4
            have h5 : ∀ n, (w.drewN n).cell? ⟨ga, 5, none⟩ = _ := fun n => blk_cell hl 5
            have m5 : ∀ n, (w.drewN n).cell? ⟨gb, 5, none⟩ = _ := fun n => blk_cell hm 5
            have h6 : ∀ n, (w.drewN n).cell? ⟨ga, 6, none⟩ = _ := fun n => blk_cell hl 6
            have m6 : ∀ n, (w.drewN n).cell? ⟨gb, 6, none⟩ = _ := fun n => blk_cell hm 6
            have h7 : ∀ n, (w.drewN n).cell? ⟨ga, 7, none⟩ = _ := fun n => blk_cell hl 7
            have m7 : ∀ n, (w.drewN n).cell? ⟨gb, 7, none⟩ = _ := fun n => blk_cell hm 7
            have e1 : (q1 == q2) = false := beq_eq_false_iff_ne.mpr hne
            clear hl hm hne hD
            go_enter Try.func18, Try.ntmps18
            go_wp2
            go_loopg [5] 1 (fun kq v5 w' => ∃ i : Nat, v5 = .int .i64 i ∧ (i + kq = 1 ∧ i = 0) ∧ ∃ n, w' = w.drewN n)
            case atStart => exact ⟨0, rfl, ⟨by omega, rfl⟩, 0, rfl⟩
            case round =>
              obtain ⟨i, rfl, hik, nn, rfl⟩ := hrel
              cases gk with
              | zero =>
                exact absurd hik (by omega)
              | succ k1 =>
                obtain rfl : i = 0 := by omega
                go_upto_region 6 with (fail)
                go_quiet (fail)
                go_wp2
                go_ret
                rw [HD.out]
                first | exact ⟨rfl, pw_below_drewN (Below.refl _ _) _⟩ | exact ⟨rfl, pw_below_drewN (pw_below_drewN (Below.refl _ _) nn) _⟩
        · have HD := Aside0.mk (show D = false from hD.trans (decide_eq_false (fun q => hne (congrArg Alr.to_ q))))
          have h0 : ∀ n, (w.drewN n).cell? ⟨ga, 0, none⟩ = _ := fun n => blk_cell hl 0
          have m0 : ∀ n, (w.drewN n).cell? ⟨gb, 0, none⟩ = _ := fun n => blk_cell hm 0
          have h1 : ∀ n, (w.drewN n).cell? ⟨ga, 1, none⟩ = _ := fun n => blk_cell hl 1
          have m1 : ∀ n, (w.drewN n).cell? ⟨gb, 1, none⟩ = _ := fun n => blk_cell hm 1
          have h2 : ∀ n, (w.drewN n).cell? ⟨ga, 2, none⟩ = _ := fun n => blk_cell hl 2
          have m2 : ∀ n, (w.drewN n).cell? ⟨gb, 2, none⟩ = _ := fun n => blk_cell hm 2
          have h3 : ∀ n, (w.drewN n).cell? ⟨ga, 3, none⟩ = _ := fun n => blk_cell hl 3
          have m3 : ∀ n, (w.drewN n).cell? ⟨gb, 3, none⟩ = _ := fun n => blk_cell hm 3
          have h4 : ∀ n, (w.drewN n).cell? ⟨ga, 4, none⟩ = _ := fun n => blk_cell hl 4
          have m4 : ∀ n, (w.drewN n).cell? ⟨gb, 4, none⟩ = _ := fun n => blk_cell hm 4
          have h5 : ∀ n, (w.drewN n).cell? ⟨ga, 5, none⟩ = _ := fun n => blk_cell hl 5
          have m5 : ∀ n, (w.drewN n).cell? ⟨gb, 5, none⟩ = _ := fun n => blk_cell hm 5
          have h6 : ∀ n, (w.drewN n).cell? ⟨ga, 6, none⟩ = _ := fun n => blk_cell hl 6
          have m6 : ∀ n, (w.drewN n).cell? ⟨gb, 6, none⟩ = _ := fun n => blk_cell hm 6
          have h7 : ∀ n, (w.drewN n).cell? ⟨ga, 7, none⟩ = _ := fun n => blk_cell hl 7
          have m7 : ∀ n, (w.drewN n).cell? ⟨gb, 7, none⟩ = _ := fun n => blk_cell hm 7
          have e1 : (o1 == o2) = false := beq_eq_false_iff_ne.mpr hne
          clear hl hm hne hD
          go_enter Try.func18, Try.ntmps18
          go_wp2
          go_loopg [5] 1 (fun kq v5 w' => ∃ i : Nat, v5 = .int .i64 i ∧ (i + kq = 1 ∧ i = 0) ∧ ∃ n, w' = w.drewN n)
          case atStart => exact ⟨0, rfl, ⟨by omega, rfl⟩, 0, rfl⟩
          case round =>
            obtain ⟨i, rfl, hik, nn, rfl⟩ := hrel
            cases gk with
            | zero =>
              exact absurd hik (by omega)
            | succ k1 =>
              obtain rfl : i = 0 := by omega
              go_upto_region 6 with (fail)
              go_quiet (fail)
              go_wp2
              go_ret
              rw [HD.out]
              first | exact ⟨rfl, pw_below_drewN (Below.refl _ _) _⟩ | exact ⟨rfl, pw_below_drewN (pw_below_drewN (Below.refl _ _) nn) _⟩
      · have HD := Aside0.mk (show D = false from hD.trans (decide_eq_false (fun q => hne (congrArg Alr.frm q))))
        have h0 : ∀ n, (w.drewN n).cell? ⟨ga, 0, none⟩ = _ := fun n => blk_cell hl 0
        have m0 : ∀ n, (w.drewN n).cell? ⟨gb, 0, none⟩ = _ := fun n => blk_cell hm 0
        have h1 : ∀ n, (w.drewN n).cell? ⟨ga, 1, none⟩ = _ := fun n => blk_cell hl 1
        have m1 : ∀ n, (w.drewN n).cell? ⟨gb, 1, none⟩ = _ := fun n => blk_cell hm 1
        have h2 : ∀ n, (w.drewN n).cell? ⟨ga, 2, none⟩ = _ := fun n => blk_cell hl 2
        have m2 : ∀ n, (w.drewN n).cell? ⟨gb, 2, none⟩ = _ := fun n => blk_cell hm 2
        have h3 : ∀ n, (w.drewN n).cell? ⟨ga, 3, none⟩ = _ := fun n => blk_cell hl 3
        have m3 : ∀ n, (w.drewN n).cell? ⟨gb, 3, none⟩ = _ := fun n => blk_cell hm 3
        have h4 : ∀ n, (w.drewN n).cell? ⟨ga, 4, none⟩ = _ := fun n => blk_cell hl 4
        have m4 : ∀ n, (w.drewN n).cell? ⟨gb, 4, none⟩ = _ := fun n => blk_cell hm 4
        have h5 : ∀ n, (w.drewN n).cell? ⟨ga, 5, none⟩ = _ := fun n => blk_cell hl 5
        have m5 : ∀ n, (w.drewN n).cell? ⟨gb, 5, none⟩ = _ := fun n => blk_cell hm 5
        have h6 : ∀ n, (w.drewN n).cell? ⟨ga, 6, none⟩ = _ := fun n => blk_cell hl 6
        have m6 : ∀ n, (w.drewN n).cell? ⟨gb, 6, none⟩ = _ := fun n => blk_cell hm 6
        have h7 : ∀ n, (w.drewN n).cell? ⟨ga, 7, none⟩ = _ := fun n => blk_cell hl 7
        have m7 : ∀ n, (w.drewN n).cell? ⟨gb, 7, none⟩ = _ := fun n => blk_cell hm 7
        have e1 : (f1 == f2) = false := beq_eq_false_iff_ne.mpr hne
        clear hl hm hne hD
        go_enter Try.func18, Try.ntmps18
        go_wp2
        go_loopg [5] 1 (fun kq v5 w' => ∃ i : Nat, v5 = .int .i64 i ∧ (i + kq = 1 ∧ i = 0) ∧ ∃ n, w' = w.drewN n)
        case atStart => exact ⟨0, rfl, ⟨by omega, rfl⟩, 0, rfl⟩
        case round =>
          obtain ⟨i, rfl, hik, nn, rfl⟩ := hrel
          cases gk with
          | zero =>
            exact absurd hik (by omega)
          | succ k1 =>
            obtain rfl : i = 0 := by omega
            go_upto_region 6 with (fail)
            go_quiet (fail)
            go_wp2
            go_ret
            rw [HD.out]
            first | exact ⟨rfl, pw_below_drewN (Below.refl _ _) _⟩ | exact ⟨rfl, pw_below_drewN (pw_below_drewN (Below.refl _ _) nn) _⟩
    · have HD := Aside0.mk (show D = false from hD.trans (decide_eq_false (fun q => hne (congrArg Alr.at_ q))))
      have h0 : ∀ n, (w.drewN n).cell? ⟨ga, 0, none⟩ = _ := fun n => blk_cell hl 0
      have m0 : ∀ n, (w.drewN n).cell? ⟨gb, 0, none⟩ = _ := fun n => blk_cell hm 0
      have h1 : ∀ n, (w.drewN n).cell? ⟨ga, 1, none⟩ = _ := fun n => blk_cell hl 1
      have m1 : ∀ n, (w.drewN n).cell? ⟨gb, 1, none⟩ = _ := fun n => blk_cell hm 1
      have h2 : ∀ n, (w.drewN n).cell? ⟨ga, 2, none⟩ = _ := fun n => blk_cell hl 2
      have m2 : ∀ n, (w.drewN n).cell? ⟨gb, 2, none⟩ = _ := fun n => blk_cell hm 2
      have h3 : ∀ n, (w.drewN n).cell? ⟨ga, 3, none⟩ = _ := fun n => blk_cell hl 3
      have m3 : ∀ n, (w.drewN n).cell? ⟨gb, 3, none⟩ = _ := fun n => blk_cell hm 3
      have h4 : ∀ n, (w.drewN n).cell? ⟨ga, 4, none⟩ = _ := fun n => blk_cell hl 4
      have m4 : ∀ n, (w.drewN n).cell? ⟨gb, 4, none⟩ = _ := fun n => blk_cell hm 4
      have h5 : ∀ n, (w.drewN n).cell? ⟨ga, 5, none⟩ = _ := fun n => blk_cell hl 5
      have m5 : ∀ n, (w.drewN n).cell? ⟨gb, 5, none⟩ = _ := fun n => blk_cell hm 5
      have h6 : ∀ n, (w.drewN n).cell? ⟨ga, 6, none⟩ = _ := fun n => blk_cell hl 6
      have m6 : ∀ n, (w.drewN n).cell? ⟨gb, 6, none⟩ = _ := fun n => blk_cell hm 6
      have h7 : ∀ n, (w.drewN n).cell? ⟨ga, 7, none⟩ = _ := fun n => blk_cell hl 7
      have m7 : ∀ n, (w.drewN n).cell? ⟨gb, 7, none⟩ = _ := fun n => blk_cell hm 7
      have e1 : (t1 == t2) = false := beq_eq_false_iff_ne.mpr hne
      clear hl hm hne hD
      go_enter Try.func18, Try.ntmps18
      go_wp2
      go_loopg [5] 1 (fun kq v5 w' => ∃ i : Nat, v5 = .int .i64 i ∧ (i + kq = 1 ∧ i = 0) ∧ ∃ n, w' = w.drewN n)
      case atStart => exact ⟨0, rfl, ⟨by omega, rfl⟩, 0, rfl⟩
      case round =>
        obtain ⟨i, rfl, hik, nn, rfl⟩ := hrel
        cases gk with
        | zero =>
          exact absurd hik (by omega)
        | succ k1 =>
          obtain rfl : i = 0 := by omega
          go_upto_region 6 with (fail)
          go_quiet (fail)
          go_wp2
          go_ret
          rw [HD.out]
          first | exact ⟨rfl, pw_below_drewN (Below.refl _ _) _⟩ | exact ⟨rfl, pw_below_drewN (pw_below_drewN (Below.refl _ _) nn) _⟩
  · have HD := Aside0.mk (show D = false from hD.trans (decide_eq_false (fun q => hne (congrArg Alr.name q))))
    have h0 : ∀ n, (w.drewN n).cell? ⟨ga, 0, none⟩ = _ := fun n => blk_cell hl 0
    have m0 : ∀ n, (w.drewN n).cell? ⟨gb, 0, none⟩ = _ := fun n => blk_cell hm 0
    have h1 : ∀ n, (w.drewN n).cell? ⟨ga, 1, none⟩ = _ := fun n => blk_cell hl 1
    have m1 : ∀ n, (w.drewN n).cell? ⟨gb, 1, none⟩ = _ := fun n => blk_cell hm 1
    have h2 : ∀ n, (w.drewN n).cell? ⟨ga, 2, none⟩ = _ := fun n => blk_cell hl 2
    have m2 : ∀ n, (w.drewN n).cell? ⟨gb, 2, none⟩ = _ := fun n => blk_cell hm 2
    have h3 : ∀ n, (w.drewN n).cell? ⟨ga, 3, none⟩ = _ := fun n => blk_cell hl 3
    have m3 : ∀ n, (w.drewN n).cell? ⟨gb, 3, none⟩ = _ := fun n => blk_cell hm 3
    have h4 : ∀ n, (w.drewN n).cell? ⟨ga, 4, none⟩ = _ := fun n => blk_cell hl 4
    have m4 : ∀ n, (w.drewN n).cell? ⟨gb, 4, none⟩ = _ := fun n => blk_cell hm 4
    have h5 : ∀ n, (w.drewN n).cell? ⟨ga, 5, none⟩ = _ := fun n => blk_cell hl 5
    have m5 : ∀ n, (w.drewN n).cell? ⟨gb, 5, none⟩ = _ := fun n => blk_cell hm 5
    have h6 : ∀ n, (w.drewN n).cell? ⟨ga, 6, none⟩ = _ := fun n => blk_cell hl 6
    have m6 : ∀ n, (w.drewN n).cell? ⟨gb, 6, none⟩ = _ := fun n => blk_cell hm 6
    have h7 : ∀ n, (w.drewN n).cell? ⟨ga, 7, none⟩ = _ := fun n => blk_cell hl 7
    have m7 : ∀ n, (w.drewN n).cell? ⟨gb, 7, none⟩ = _ := fun n => blk_cell hm 7
    have e1 := toL_no hne
    clear hl hm hne hD
    go_enter Try.func18, Try.ntmps18
    go_wp2
    go_loopg [5] 1 (fun kq v5 w' => ∃ i : Nat, v5 = .int .i64 i ∧ (i + kq = 1 ∧ i = 0) ∧ ∃ n, w' = w.drewN n)
    case atStart => exact ⟨0, rfl, ⟨by omega, rfl⟩, 0, rfl⟩
    case round =>
      obtain ⟨i, rfl, hik, nn, rfl⟩ := hrel
      cases gk with
      | zero =>
        exact absurd hik (by omega)
      | succ k1 =>
        obtain rfl : i = 0 := by omega
        go_upto_region 6 with (fail)
        go_quiet (fail)
        go_wp2
        go_ret
        rw [HD.out]
        first | exact ⟨rfl, pw_below_drewN (Below.refl _ _) _⟩ | exact ⟨rfl, pw_below_drewN (pw_below_drewN (Below.refl _ _) nn) _⟩
set_option maxHeartbeats 1600000 in
/-- Lists of unlike length, or two that are empty. -/
theorem ref_Same_len {w : World} {A B : Option Addr} {c d n m : Nat} (h : n ≠ m ∨ (n = 0 ∧ m = 0)) :
    Calls Try.prog 18 #[.slice A n c, .slice B m d] w fun e w' => e = .returned (.bool (decide (n = m))) ∧ Below w.heap.size w w' := by
  have HB := Aside0.mk (Below.refl w.heap.size w)
  rcases h with h | ⟨rfl, rfl⟩
  · have e1 : (n == m) = false := beq_eq_false_iff_ne.mpr h
    have HD := Aside0.mk (show decide (n = m) = false from decide_eq_false h)
    clear h
    go_enter Try.func18, Try.ntmps18
    go_wp2
    go_ret
    rw [HD.out]
    exact ⟨rfl, HB.out⟩
  · go_enter Try.func18, Try.ntmps18
    go_wp2
    go_loopg [5] 1 (fun kq v5 w' => v5 = .int .i64 0 ∧ w' = w)
    case atStart => exact ⟨rfl, rfl⟩
    case round =>
      obtain ⟨rfl, rfl⟩ := hrel
      go_wp2
      go_ret
      exact ⟨rfl, HB.out⟩
theorem ref_Same {w : World} {A B : Option Addr} {c d : Nat} {l m : List Alr} (hl : AlrsAt w A l) (hm : AlrsAt w B m) :
    Calls Try.prog 18 #[.slice A l.length c, .slice B m.length d] w fun e w' => e = .returned (.bool (decide (l = m))) ∧ Below w.heap.size w w' := by
  rcases hl with rfl | ⟨a, ga, rfl, rfl, ha⟩
  · rcases hm with rfl | ⟨b, gb, rfl, rfl, hb⟩
    · exact ref_Same_len (.inr ⟨rfl, rfl⟩)
    · refine (ref_Same_len (.inl (by simp))).mono ?_
      rintro e w' ⟨rfl, h⟩
      exact ⟨by simp, h⟩
  · rcases hm with rfl | ⟨b, gb, rfl, rfl, hb⟩
    · refine (ref_Same_len (.inl (by simp))).mono ?_
      rintro e w' ⟨rfl, h⟩
      exact ⟨by simp, h⟩
    · refine (ref_Same11 ha hb).mono ?_
      rintro e w' ⟨rfl, h⟩
      exact ⟨by simp, h⟩
end
end Go.Proofs.Ytadmigijbfdboaa.Q
