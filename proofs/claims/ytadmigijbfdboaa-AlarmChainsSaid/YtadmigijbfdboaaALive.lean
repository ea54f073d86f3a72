import Derived.Test.YtadmigijbfdboaaAAlive
namespace Go.Proofs.Ytadmigijbfdboaa.Q
open Go.RowKit Go.Proofs.YtadmigijbfdboaaW.PrintWords Go.Proofs.YtadmigijbfdboaaW.PrintLast Go.Proofs.YtadmigijbfdboaaW.PrintMore Go.Proofs.YtadmigijbfdboaaV
set_option linter.unusedVariables false
set_option linter.unusedSimpArgs false

theorem kRul_mk (w : World) (r : Rul) : kRul.K w r (ruleA r).toList :=
  ⟨[_], _, rfl, rfl, [_], _, rfl, rfl, [_], _, rfl, rfl, [_], _, rfl, rfl, [_], _, rfl, rfl, [_], _, rfl, rfl, [_], _, rfl, rfl, [_], _, rfl, rfl, [_], _, rfl, rfl, [_], [_], rfl, rfl, rfl⟩
theorem C_one {W : World} {g : Nat} {r : Rul} (h : W.heap[g]? = some (.cells (ruleA r) 26 (0, 0))) : Kd.C kRul W (some ⟨g, 0, none⟩) [r].length [r] := by
  refine ⟨rfl, by simp, fun _ => ⟨_, rfl, fun j p hp => ?_⟩⟩
  cases j with
  | succ j => simp at hp
  | zero =>
    injection hp with hp
    subst hp
    refine ⟨(ruleA r).toList, rfl, kRul_mk W r, fun i u hu => ?_⟩
    have hb := blk_cell h i
    have e : (⟨g, 0, none⟩ : Addr).add (0 * kRul.sz + i) = ⟨g, i, none⟩ := by
      rw [Nat.zero_mul, Nat.zero_add]
      unfold Addr.add
      split
      · rename_i e; rw [e]
      · simp
    rw [e, hb, ← hu]
    simp
theorem New_up {W : World} {g n : Nat} (hn : W.heap.size = n) (h : W.heap[g]? = some (.cells (ruleA upR) 26 (0, 0))) :
    Calls Try.prog 15 #[.slice (some ⟨g, 0, none⟩) 1 1] W fun e w' => e = .returned (.tuple #[.pointer (some ⟨n, 0, none⟩), .int .i64 0, .int .i64 0]) ∧ Below W.heap.size W w' ∧ ∃ A c g', BookAt w' n n A c [(g', upR, stt0)] := by
  subst hn
  refine (alarm_New (rs := [upR]) (C_one h) (fun r hr => by rw [List.mem_singleton] at hr; subst hr; exact up_in) none up_new).mono ?_
  rintro e w' ⟨hb, h⟩
  rcases h with ⟨q, -⟩ | ⟨-, i, q, -⟩ | ⟨-, -, rfl, A, c, L, hbk, hL⟩
  · simp at q
  · cases q
  · obtain ⟨g', rfl⟩ := up_one hL
    exact ⟨rfl, hb, A, c, g', hbk⟩
theorem up_ok : RulOk upR := up_may.ok
theorem stt0_ok : SttOk stt0 := ⟨by decide, by decide, by decide⟩
theorem sttB_ok : SttOk sttB := ⟨by decide, by decide, by decide⟩
theorem Feed1_up {w : World} {B gb : Nat} {A : Option Addr} {c g : Nat} (h : BookAt w B gb A c [(g, upR, stt0)]) (hB : B ≤ w.heap.size) :
    Calls Try.prog 11 #[.pointer (some ⟨gb, 0, none⟩), .string ⟨#[117, 112]⟩, .int .i64 1, .agg #[.bool true, .int .i64 0, .int .u64 25]] w fun e w' => ∃ ga c', e = .returned (.tuple #[.slice (some ⟨ga, 0, none⟩) 1 c', .int .i64 0]) ∧ w'.heap[ga]? = some (.cells (alrCells ⟨upN, 1, 1, 3, false, true, 25⟩).toArray 48 (0, 0)) ∧ BookAt w' B gb A c [(g, upR, sttB)] ∧ Keep w w' (fun k => B ≤ k) := by
  have := book_Feed h hB upN 1 true 25 (by simp) (fun x hx => by rw [List.mem_singleton] at hx; subst hx; exact ⟨up_ok, stt0_ok⟩) (by unfold inW; decide)
  rw [up_feed1] at this
  refine this.mono ?_
  rintro e w' ⟨A', c', rfl, h1, h2, h3, h4⟩
  rcases h1 with h1 | ⟨a, ga, e, rfl, hg⟩
  · cases h1
  · injection e with e
    subst e
    exact ⟨ga, c', rfl, hg, h3, h4.mono (fun k _ q => by obtain ⟨x, hx, e⟩ := q; rw [List.mem_singleton] at hx; subst hx; subst e; exact (h.rules _ (List.mem_singleton.2 rfl)).2)⟩
theorem Feed2_up {w : World} {B gb : Nat} {A : Option Addr} {c g : Nat} (h : BookAt w B gb A c [(g, upR, sttB)]) (hB : B ≤ w.heap.size) :
    Calls Try.prog 11 #[.pointer (some ⟨gb, 0, none⟩), .string ⟨#[117, 112]⟩, .int .i64 2, .agg #[.bool true, .int .i64 0, .int .u64 19]] w fun e w' => ∃ A' c', e = .returned (.tuple #[.slice A' 0 c', .int .i64 0]) ∧ Keep w w' (fun k => B ≤ k) := by
  have := book_Feed h hB upN 2 true 19 (by simp) (fun x hx => by rw [List.mem_singleton] at hx; subst hx; exact ⟨up_ok, sttB_ok⟩) (by unfold inW; decide)
  obtain ⟨s, hs⟩ := up_feed2 g
  rw [hs] at this
  refine this.mono ?_
  rintro e w' ⟨A', c', rfl, h1, h2, h3, h4⟩
  exact ⟨A', c', rfl, h4.mono (fun k _ q => by obtain ⟨x, hx, e⟩ := q; rw [List.mem_singleton] at hx; subst hx; subst e; exact (h.rules _ (List.mem_singleton.2 rfl)).2)⟩
theorem State_up {w : World} {B gb : Nat} {A : Option Addr} {c g : Nat} (h : BookAt w B gb A c [(g, upR, sttB)]) :
    Calls Try.prog 12 #[.pointer (some ⟨gb, 0, none⟩), .string ⟨#[117, 112]⟩] w fun e w' => e = .returned (.tuple #[.int .i64 3, .bool true]) ∧ w = w' := by
  have := book_State h upN (by simp)
  rw [up_state] at this
  exact this

set_option maxHeartbeats 3200000 in
set_option maxRecDepth 4000 in
theorem law_alive (w : World) : Calls Try.prog 10 #[] w fun e w' => e = .returned (.bool true) ∧ Below w.heap.size w w' := by
  have HU := Aside0.mk (fun W => law_up W)
  have H25 := Aside0.mk (fun W => wide_Of 25 W (by omega))
  have H19 := Aside0.mk (fun W => wide_Of 19 W (by omega))
  rw [show WV 25 = .agg #[.int .i64 0, .int .u64 25] from rfl] at H25
  rw [show WV 19 = .agg #[.int .i64 0, .int .u64 19] from rfl] at H19
  rw [show ruleA upR = #[.string ⟨#[117, 112]⟩, .bool true, .int .i64 0, .int .u64 10, .int .i64 0, .int .u64 20, .int .i64 0, .int .u64 2, .int .i64 1, .int .i64 0, .int .i64 0] from rfl] at HU
  have HNew := Aside0.mk (fun W1 : World => New_up (W := W1.alloc (.cells #[.string ⟨#[117, 112]⟩, .bool true, .int .i64 0, .int .u64 10, .int .i64 0, .int .u64 20, .int .i64 0, .int .u64 2, .int .i64 1, .int .i64 0, .int .i64 0] 26 (0, 0))) (g := W1.heap.size) (n := W1.heap.size + 1) (by simp) (heap_alloc_new W1 _))
  go_enter Try.func10, Try.ntmps10
  go_wp2_with (first
    | (go_at_call 23; (with_reducible refine (HU.out _).mono ?_); rintro e w1 ⟨rfl, hb1⟩; have HB1 := Aside0.mk hb1; clear hb1)
    | (go_at_call 15; (with_reducible refine (HNew.out w1).mono ?_); rintro e w2 ⟨rfl, hb2, A, c, g', hbk⟩; have s1 := HB1.out.size; have s2 := hb2.size; have HBk := Aside0.mk hbk; have HB2 := Aside0.mk (hop (HB1.out.alloc HB1.out.size _) hb2); clear hb2 hbk)
    | (go_at_call 24; (with_reducible refine (H25.out _).mono ?_); rintro e w3 ⟨rfl, hb3⟩; have HBk3 := Aside0.mk (HBk.out.quiet (below_keep hb3)); have HB3 := Aside0.mk (hop HB2.out hb3); have s3 := hb3.size; clear hb3)
    | (go_at_call 11; (with_reducible refine (Feed1_up HBk3.out (Nat.le_of_lt (blk_lt HBk3.out.blk))).mono ?_); rintro e w4 ⟨ga, ca, rfl, h4, hbk4, hk4⟩; have HBk4 := Aside0.mk hbk4; have t2 : w4.cell? ⟨ga, 2, none⟩ = some (.int .i64 1) := blk_cell h4 2; have t3 : w4.cell? ⟨ga, 3, none⟩ = some (.int .i64 3) := blk_cell h4 3; have HB4 := Aside0.mk (HB3.out.trans (hk4.below HB3.out.size (fun k hk => (by have := HB1.out.size; have hk' : w1.heap.size + 1 ≤ k := hk; omega)))); have s4 := hk4.size; clear hbk4 hk4 h4)
    | (go_at_call 12; (with_reducible refine (State_up HBk4.out).mono ?_); rintro e w' ⟨rfl, rfl⟩)
    | (go_at_call 24; (with_reducible refine (H19.out _).mono ?_); rintro e w5 ⟨rfl, hb5⟩; have HBk5 := Aside0.mk (HBk4.out.quiet (below_keep hb5)); have HB5 := Aside0.mk (hop HB4.out hb5); have s5 := hb5.size; clear hb5)
    | (go_at_call 11; (with_reducible refine (Feed2_up HBk5.out (Nat.le_of_lt (blk_lt HBk5.out.blk))).mono ?_); rintro e w6 ⟨A6, c6, rfl, hk6⟩; have HB6 := Aside0.mk (HB5.out.trans (hk6.below HB5.out.size (fun k hk => (by have := HB1.out.size; have hk' : w1.heap.size + 1 ≤ k := hk; omega)))); clear hk6))
  go_ret
  exact ⟨rfl, HB6.out⟩
end Go.Proofs.Ytadmigijbfdboaa.Q
