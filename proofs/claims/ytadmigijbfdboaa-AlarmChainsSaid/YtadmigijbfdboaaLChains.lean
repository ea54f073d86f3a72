import Derived.Test.YtadmigijbfdboaaLBook
import Derived.Test.YtadmigijbfdboaaRSame
namespace Go.Proofs.Ytadmigijbfdboaa.Q
open Go.RowKit Go.Proofs.YtadmigijbfdboaaW.PrintWords Go.Proofs.YtadmigijbfdboaaW.PrintLast Go.Proofs.YtadmigijbfdboaaW.PrintMore Go.Proofs.YtadmigijbfdboaaV
set_option linter.unusedVariables false
set_option linter.unusedSimpArgs false
section
attribute [local go_sem high] eqA24 eqA37

set_option maxHeartbeats 800000 in
set_option maxRecDepth 4000 in
theorem law_AlarmChains_not (w : World) {r : Rul} (hin : RulIn r) (hm : ¬ MayP r) (S0 : Option Addr) (c0 : Nat) (n0 : Nat) :
    Calls Try.prog 6 #[.agg (ruleA r), .slice S0 n0 c0] w fun e w' => e = .returned (.bool true) ∧ Below w.heap.size w w' := by
  have HOne := Aside0.mk (fun W => law_one_not W hin hm)
  have HB := Aside0.mk ((Below.refl w.heap.size w).alloc (Nat.le_refl _) (.cells (ruleA r) 26 (0, 0)))
  unfold ruleA at HOne HB ⊢
  clear hm hin
  go_enter Try.func6, Try.ntmps6
  go_wp2_with (first
    | (go_at_call 9; (with_reducible refine (HOne.out _).mono ?_); rintro e w1 ⟨hb, rfl⟩; have HB1 := Aside0.mk (hop HB.out hb); clear hb)
    | (go_at_call 10; (with_reducible refine (law_alive _).mono ?_); rintro e w2 ⟨rfl, hb⟩; have HB2 := Aside0.mk (hop HB1.out hb); clear hb))
  go_ret
  exact ⟨rfl, HB2.out⟩

set_option maxHeartbeats 51200000 in
set_option maxRecDepth 4000 in
theorem law_AlarmChains_may (w : World) {r : Rul} (hin : RulIn r) (hm : MayP r) {S0 : Option Addr} {c0 : Nat} {os : List OpR} (hC : Kd.C kOp w S0 os.length os) (hos : ∀ o ∈ os, inW o.val) :
    Calls Try.prog 6 #[.agg (ruleA r), .slice S0 os.length c0] w fun e w' => e = .returned (.bool true) ∧ Below w.heap.size w w' := by
  have ok : RulOk r := hm.ok
  have HOne := Aside0.mk (fun W => law_one_may W hin hm)
  have HB := Aside0.mk ((Below.refl w.heap.size w).alloc (Nat.le_refl _) (.cells (ruleA r) 26 (0, 0)))
  have N0 := Aside0.mk (heap_alloc_new w (.cells (ruleA r) 26 (0, 0)))
  have HC := Aside0.mk hC
  have HOK := Aside0.mk ok
  have HOS := Aside0.mk hos
  have hlen := hC.2.1
  unfold ruleA at HOne HB N0 ⊢
  clear hm hin hC hos ok
  go_enter Try.func6, Try.ntmps6
  go_wp2_with (first
    | (go_at_call 9; (with_reducible refine (HOne.out _).mono ?_); rintro e w1 ⟨gb, A, c, g, hb, hgb, hg, rfl, hbk⟩; have HB1 := Aside0.mk (hop HB.out hb); have HBk1 := Aside0.mk hbk; have N1 := Aside0.mk ((hb.block _ (blk_lt N0.out)).trans N0.out); have hgw : w.heap.size < g := (by have := blk_lt N0.out; omega); clear hb hbk))
  go_loopg [8, 9, 10, 11] os.length (fun kq v8 v9 v10 v11 w' => ∃ (i : Nat) (s : Stt) (la : Int), v8 = .int .i64 s.said ∧ v9 = .int .i64 s.muted ∧ v10 = .int .i64 la ∧ v11 = .int .i64 i ∧ i + kq = os.length ∧ Aside0 (la = lastP s) ∧ Aside0 (BookAt w' gb gb A c [(g, r, s)]) ∧ Aside0 (RInv r s) ∧ Aside0 (Below w.heap.size w w') ∧ Aside0 (w'.heap[w.heap.size]? = some (.cells #[.string r.name, .bool r.above, .int .i64 (hiW r.warn), .int .u64 (loW r.warn), .int .i64 (hiW r.crit), .int .u64 (loW r.crit), .int .i64 (hiW r.slack), .int .u64 (loW r.slack), .int .i64 r.for_, .int .i64 r.absent, .int .i64 r.again] 26 (0, 0))))
  case atStart => exact ⟨0, stt0, -1, rfl, rfl, rfl, rfl, by omega, ⟨rfl⟩, HBk1, ⟨stt0_inv HOK.out⟩, HB1, N1⟩
  case round =>
    obtain ⟨i, s, la, rfl, rfl, rfl, rfl, hik, HLA, HBk, HIv, HBel, HN⟩ := hrel
    cases gk with
    | zero =>
      have d1 : decide (i < os.length) = false := decide_eq_false (by omega)
      go_wp2_with (first
        | (go_at_call 10; (with_reducible refine (law_alive _).mono ?_); rintro e w2 ⟨rfl, hb⟩; have HB2 := Aside0.mk (hop HBel.out hb); clear hb))
      go_ret
      exact ⟨rfl, HB2.out⟩
    | succ k1 =>
      have hlt : i < os.length := by omega
      have d1 : decide (i < os.length) = true := decide_eq_true hlt
      obtain ⟨o, ho⟩ : ∃ o, os[i]? = some o := ⟨os[i], List.getElem?_eq_getElem hlt⟩
      have hov := HOS.out o (List.mem_of_getElem? ho)
      obtain ⟨ad, rfl, x0, x1, x2, x3, x4, x5⟩ := at_Op (Kd.C_below HC.out HBel.out) i o ho
      obtain ⟨kd, nm, at_, is, val⟩ := o
      have hgl : g < wr.heap.size := blk_lt (HBk.out.rules _ (List.mem_singleton.2 rfl)).1
      have HNO := Aside0.mk (blk_alloc HN.out (.cells #[.int .i64 kd, .string nm, .int .i64 at_, .bool is, .int .i64 (hiW val), .int .u64 (loW val)] 39 (0, 0)))
      have q0 := blk_cell HNO.out 0
      have HBkO := Aside0.mk (HBk.out.quiet (Keep.of_below (S := fun _ => False) ((Below.refl wr.heap.size wr).alloc (Nat.le_refl _) (.cells #[.int .i64 kd, .string nm, .int .i64 at_, .bool is, .int .i64 (hiW val), .int .u64 (loW val)] 39 (0, 0)))))
      have HBelO := Aside0.mk (HBel.out.alloc HBel.out.size (.cells #[.int .i64 kd, .string nm, .int .i64 at_, .bool is, .int .i64 (hiW val), .int .u64 (loW val)] 39 (0, 0)))
      have hov' : inW val := hov
      have HV := Aside0.mk hov'
      clear ho hov hov'
      by_cases hk : kd = 2
      · have eK : (kd == 2) = true := beq_iff_eq.mpr hk
        clear hk
        by_cases ht : inT at_
        · have HMu := Aside0.mk (one_Mute HBkO.out ht)
          have d2 : decide (0 ≤ at_) = true := decide_eq_true ht.1
          have d3 : decide (at_ ≤ 1099511627775) = true := decide_eq_true ht.2
          clear ht
          as_aux_lemma =>
            go_wp2_with (first
              | (go_at_call 19; (with_reducible refine (HMu.out).mono ?_); rintro e w2 ⟨rfl, hbk2, hk2⟩; have hO2 := (hk2.block wr.heap.size (by simp) (by omega)).trans (heap_alloc_new wr (.cells #[.int .i64 kd, .string nm, .int .i64 at_, .bool is, .int .i64 (hiW val), .int .u64 (loW val)] 39 (0, 0))); have HN2 := Aside0.mk ((hk2.block w.heap.size (blk_lt HNO.out) (by omega)).trans HNO.out); have p2 := blk_cell hO2 2; have r0 := blk_cell HN2.out 0; clear x0 x1 x2 x3 x4 x5 q0 d1 eK; have HBk2 := Aside0.mk hbk2; have HBel2 := Aside0.mk (HBelO.out.trans (hk2.below HBelO.out.size (fun k hk => (by have hk' : k = g := hk; omega)))); clear hk2 hbk2 hO2))
            go_roundg k1
            case rel =>
              refine ⟨i + 1, { s with muted := at_ }, la, rfl, rfl, rfl, by go_num, by omega, ⟨HLA.out⟩, ⟨HBk2.out⟩, ⟨HIv.out.mute at_⟩, ⟨HBel2.out⟩, ⟨HN2.out⟩⟩
            case measure => omega
        · have HMu := Aside0.mk (one_Mute_bad HBkO.out ht)
          have dd : decide (0 ≤ at_) = false ∨ (decide (0 ≤ at_) = true ∧ decide (at_ ≤ 1099511627775) = false) := by
            unfold inT at ht
            simp only [decide_eq_true_eq, decide_eq_false_iff_not]
            omega
          clear ht
          rcases dd with d2 | ⟨d2, d3⟩
          · as_aux_lemma =>
              go_wp2_with (first
                | (go_at_call 19; (with_reducible refine (HMu.out).mono ?_); rintro e w2 ⟨rfl, hbk2, hk2⟩; have hO2 := (hk2.block wr.heap.size (by simp) (by omega)).trans (heap_alloc_new wr (.cells #[.int .i64 kd, .string nm, .int .i64 at_, .bool is, .int .i64 (hiW val), .int .u64 (loW val)] 39 (0, 0))); have HN2 := Aside0.mk ((hk2.block w.heap.size (blk_lt HNO.out) (by omega)).trans HNO.out); have p2 := blk_cell hO2 2; have r0 := blk_cell HN2.out 0; clear x0 x1 x2 x3 x4 x5 q0 d1 eK; have HBk2 := Aside0.mk hbk2; have HBel2 := Aside0.mk (HBelO.out.trans (hk2.below HBelO.out.size (fun k hk => (by have hk' : k = g := hk; omega)))); clear hk2 hbk2 hO2))
              go_roundg k1
              case rel =>
                refine ⟨i + 1, s, la, rfl, rfl, rfl, by go_num, by omega, HLA, ⟨HBk2.out⟩, ⟨HIv.out⟩, ⟨HBel2.out⟩, ⟨HN2.out⟩⟩
              case measure => omega
          · as_aux_lemma =>
              go_wp2_with (first
                | (go_at_call 19; (with_reducible refine (HMu.out).mono ?_); rintro e w2 ⟨rfl, hbk2, hk2⟩; have hO2 := (hk2.block wr.heap.size (by simp) (by omega)).trans (heap_alloc_new wr (.cells #[.int .i64 kd, .string nm, .int .i64 at_, .bool is, .int .i64 (hiW val), .int .u64 (loW val)] 39 (0, 0))); have HN2 := Aside0.mk ((hk2.block w.heap.size (blk_lt HNO.out) (by omega)).trans HNO.out); have p2 := blk_cell hO2 2; have r0 := blk_cell HN2.out 0; clear x0 x1 x2 x3 x4 x5 q0 d1 eK; have HBk2 := Aside0.mk hbk2; have HBel2 := Aside0.mk (HBelO.out.trans (hk2.below HBelO.out.size (fun k hk => (by have hk' : k = g := hk; omega)))); clear hk2 hbk2 hO2))
              go_roundg k1
              case rel =>
                refine ⟨i + 1, s, la, rfl, rfl, rfl, by go_num, by omega, HLA, ⟨HBk2.out⟩, ⟨HIv.out⟩, ⟨HBel2.out⟩, ⟨HN2.out⟩⟩
              case measure => omega
      · have eK : (kd == 2) = false := beq_eq_false_iff_ne.mpr hk
        clear hk
        by_cases ht : inT at_
        · by_cases hp : at_ ≤ la
          · have HFe := Aside0.mk (one_Feed_bad HBkO.out HIv.out HOK.out is HV.out (.inr ⟨ht, by rw [← HLA.out]; exact hp, rfl⟩))
            have d2 : decide (0 ≤ at_) = true := decide_eq_true ht.1
            have d3 : decide (at_ ≤ 1099511627775) = true := decide_eq_true ht.2
            have d4 : decide (la < at_) = false := decide_eq_false (by omega)
            clear ht hp
            as_aux_lemma =>
              go_wp2_with (first
                | (go_at_call 11; (with_reducible refine (HFe.out).mono ?_); rintro e w2 ⟨A2, c2, rfl, hbk2, hk2⟩; have hO2 := (hk2.block wr.heap.size (by simp) (by omega)).trans (heap_alloc_new wr (.cells #[.int .i64 kd, .string nm, .int .i64 at_, .bool is, .int .i64 (hiW val), .int .u64 (loW val)] 39 (0, 0))); have HN2 := Aside0.mk ((hk2.block w.heap.size (blk_lt HNO.out) (by omega)).trans HNO.out); have p2 := blk_cell hO2 2; have r0 := blk_cell HN2.out 0; clear x0 x1 x2 x3 x4 x5 q0 d1 eK; have HBk2 := Aside0.mk hbk2; have HBel2 := Aside0.mk (HBelO.out.trans (hk2.below HBelO.out.size (fun k hk => (by have hk' : k = g := hk; omega)))); clear hk2 hbk2 hO2))
              go_roundg k1
              case rel =>
                refine ⟨i + 1, s, la, rfl, rfl, rfl, by go_num, by omega, HLA, ⟨HBk2.out⟩, ⟨HIv.out⟩, ⟨HBel2.out⟩, ⟨HN2.out⟩⟩
              case measure => omega
          · have hp2 : lastP s < at_ := by rw [← HLA.out]; omega
            obtain ⟨s1, h1⟩ : ∃ s1, s1 = stepP r s at_ is val := ⟨_, rfl⟩
            obtain ⟨e1, e2, e3, e4, e5⟩ := step_eq r s at_ is val
            have HI1 := Aside0.mk (HIv.out.step HOK.out ht hp2 is val)
            rw [← h1] at e1 e2 e3 e4 e5 HI1
            have HL1 := Aside0.mk (show at_ = lastP s1 by unfold lastP; rw [e3, e4]; rfl)
            have d2 : decide (0 ≤ at_) = true := decide_eq_true ht.1
            have d3 : decide (at_ ≤ 1099511627775) = true := decide_eq_true ht.2
            have d4 : decide (la < at_) = true := decide_eq_true (by omega)
            have d5 : decide (s1.state < 1) = false := decide_eq_false (by have := HI1.out.state; omega)
            have d6 : decide (4 < s1.state) = false := decide_eq_false (by have := HI1.out.state; omega)
            have HE1 := Aside0.mk e1
            have HE5 := Aside0.mk e5
            have HT := Aside0.mk ht
            cases hq : sayP r s1 at_ with
            | none =>
              have HFe := Aside0.mk (one_Feed_none HBkO.out HIv.out HOK.out HV.out ht hp2 h1 hq)
              rcases say_none hq with m1 | ⟨m1, m2⟩
              · have d7 : decide (at_ < s.muted) = true := decide_eq_true (by rw [← e5]; exact m1)
                have d8 : decide (s.muted ≤ at_) = false := decide_eq_false (by rw [← e5]; omega)
                clear h1 e1 e2 e3 e4 e5 ht hp2 hp hq m1
                as_aux_lemma =>
                  go_wp2_with (first
                    | (go_at_call 11; (with_reducible refine (HFe.out).mono ?_); rintro e w2 ⟨A2, c2, rfl, hbk2, hk2⟩; have hO2 := (hk2.block wr.heap.size (by simp) (by omega)).trans (heap_alloc_new wr (.cells #[.int .i64 kd, .string nm, .int .i64 at_, .bool is, .int .i64 (hiW val), .int .u64 (loW val)] 39 (0, 0))); have HN2 := Aside0.mk ((hk2.block w.heap.size (blk_lt HNO.out) (by omega)).trans HNO.out); have p2 := blk_cell hO2 2; have r0 := blk_cell HN2.out 0; clear x0 x1 x2 x3 x4 x5 q0 d1 eK; have HBk2 := Aside0.mk hbk2; have HBel2 := Aside0.mk (HBelO.out.trans (hk2.below HBelO.out.size (fun k hk => (by have hk' : k = g := hk; omega)))); clear hk2 hbk2 hO2)
                    | (go_at_call 12; (with_reducible refine (one_State HBk2.out).mono ?_); rintro e w' ⟨rfl, rfl⟩))
                  go_roundg k1
                  case rel =>
                    refine ⟨i + 1, s1, at_, by rw [HE1.out], by rw [HE5.out], rfl, by go_num, by omega, HL1, HBk2, HI1, HBel2, HN2⟩
                  case measure => omega
              · have d7 : decide (at_ < s.muted) = false := decide_eq_false (by rw [← e5]; exact m1)
                have d8 : decide (s.muted ≤ at_) = true := decide_eq_true (by rw [← e5]; omega)
                have d9 : (s1.state != s.said) = false := by rw [m2, e1]; simp
                clear h1 e1 e2 e3 e4 e5 ht hp2 hp hq m1 m2
                as_aux_lemma =>
                  go_wp2_with (first
                    | (go_at_call 11; (with_reducible refine (HFe.out).mono ?_); rintro e w2 ⟨A2, c2, rfl, hbk2, hk2⟩; have hO2 := (hk2.block wr.heap.size (by simp) (by omega)).trans (heap_alloc_new wr (.cells #[.int .i64 kd, .string nm, .int .i64 at_, .bool is, .int .i64 (hiW val), .int .u64 (loW val)] 39 (0, 0))); have HN2 := Aside0.mk ((hk2.block w.heap.size (blk_lt HNO.out) (by omega)).trans HNO.out); have p2 := blk_cell hO2 2; have r0 := blk_cell HN2.out 0; clear x0 x1 x2 x3 x4 x5 q0 d1 eK; have HBk2 := Aside0.mk hbk2; have HBel2 := Aside0.mk (HBelO.out.trans (hk2.below HBelO.out.size (fun k hk => (by have hk' : k = g := hk; omega)))); clear hk2 hbk2 hO2)
                    | (go_at_call 12; (with_reducible refine (one_State HBk2.out).mono ?_); rintro e w' ⟨rfl, rfl⟩))
                  go_roundg k1
                  case rel =>
                    refine ⟨i + 1, s1, at_, by rw [HE1.out], by rw [HE5.out], rfl, by go_num, by omega, HL1, HBk2, HI1, HBel2, HN2⟩
                  case measure => omega
            | some q =>
              obtain ⟨m1, m2⟩ := say_some hq
              have d7 : decide (at_ < s.muted) = false := decide_eq_false (by rw [← e5]; exact m1)
              have d8 : decide (s.muted ≤ at_) = true := decide_eq_true (by rw [← e5]; omega)
              obtain ⟨xa, hxa⟩ : ∃ a, a = hiW (if is then val else 0) := ⟨_, rfl⟩
              obtain ⟨xb, hxb⟩ : ∃ a, a = loW (if is then val else 0) := ⟨_, rfl⟩
              have HFe := Aside0.mk (one_Feed_some HBkO.out HIv.out HOK.out HV.out ht hp2 h1 hq (x := if is then val else 0) rfl)
              rw [e1] at HFe
              rw [← hxa, ← hxb] at HFe
              have HXA := Aside0.mk hxa
              have HXB := Aside0.mk hxb
              have HM2 := Aside0.mk m2
              clear h1 e1 e2 e3 e4 e5 ht hp2 hp hq m1 m2 hxa hxb
              go_upto_region 27 with (first
                | (go_at_call 11; (with_reducible refine (HFe.out).mono ?_); rintro e w2 ⟨ga, c2, rfl, hga, hga2, hbk2, hk2⟩; have hO2 := (hk2.block wr.heap.size (by simp) (by omega)).trans (heap_alloc_new wr (.cells #[.int .i64 kd, .string nm, .int .i64 at_, .bool is, .int .i64 (hiW val), .int .u64 (loW val)] 39 (0, 0))); have HN2 := Aside0.mk ((hk2.block w.heap.size (blk_lt HNO.out) (by omega)).trans HNO.out); have p2 := blk_cell hO2 2; have r0 := blk_cell HN2.out 0; clear x0 x1 x2 x3 x4 x5 q0 d1 eK; have HBk2 := Aside0.mk hbk2; have HBel2 := Aside0.mk (HBelO.out.trans (hk2.below HBelO.out.size (fun k hk => (by have hk' : k = g := hk; omega)))); have ka0 := blk_cell hga 0; have ka1 := blk_cell hga 1; have ka2 := blk_cell hga 2; have ka3 := blk_cell hga 3; have ka4 := blk_cell hga 4; have ka5 := blk_cell hga 5; have ka6 := blk_cell hga 6; have ka7 := blk_cell hga 7; have hO3 := blk_alloc hO2 (.cells #[.string r.name, .int .i64 at_, .int .i64 s.said, .int .i64 s1.state, .bool q, .bool is, .int .i64 xa, .int .u64 xb] 48 (0, 0)); have hN3 := blk_alloc HN2.out (.cells #[.string r.name, .int .i64 at_, .int .i64 s.said, .int .i64 s1.state, .bool q, .bool is, .int .i64 xa, .int .u64 xb] 48 (0, 0)); have y0 := blk_cell hN3 0; have y10 := blk_cell hN3 10; have z2 := blk_cell hO3 2; have z3 := blk_cell hO3 3; have z4 := blk_cell hO3 4; have z5 := blk_cell hO3 5; clear hga hga2 hO3 hN3; clear hk2 hbk2 hO2)
                | (go_at_call 12; (with_reducible refine (one_State HBk2.out).mono ?_); rintro e w' ⟨rfl, rfl⟩))
              go_step
              dsimp only [List.append]
              rcases HM2.out with ⟨rfl, m2, m3, m4⟩ | ⟨rfl, m2⟩
              · have f1 : (s1.state != 1) = true := by simpa using m3
                have f2 : (s1.state == 1) = false := beq_eq_false_iff_ne.mpr m3
                have f3 : (r.again == 0) = false := beq_eq_false_iff_ne.mpr (by omega)
                have f4 : (s.said == s1.state) = true := by rw [m2, HE1.out]; simp
                clear m2 m3 m4
                cases is with
                | true =>
                  obtain rfl : xa = hiW val := HXA.out
                  obtain rfl : xb = loW val := HXB.out
                  clear HXA HXB HM2 HFe
                  as_aux_lemma =>
                    go_wp2_with (fail)
                    go_roundg k1
                    case rel =>
                      refine ⟨i + 1, { s1 with said := s1.state, saidAt := at_ }, at_, rfl, by rw [← HE5.out], rfl, by go_num, by omega, HL1, ⟨HBk2.out.quiet (Keep.of_below (S := fun _ => False) ((Below.refl w2.heap.size w2).alloc (Nat.le_refl _) (.cells #[.string r.name, .int .i64 at_, .int .i64 s.said, .int .i64 s1.state, .bool true, .bool true, .int .i64 (hiW val), .int .u64 (loW val)] 48 (0, 0))))⟩, ⟨⟨HI1.out.state, HI1.out.state, HI1.out.points, HI1.out.gaps, HT.out, HI1.out.last⟩⟩, ⟨HBel2.out.alloc HBel2.out.size _⟩, ⟨blk_alloc HN2.out _⟩⟩
                    case measure => omega
                | false =>
                  obtain rfl : xa = 0 := HXA.out
                  obtain rfl : xb = 0 := HXB.out
                  clear HXA HXB HM2 HFe
                  as_aux_lemma =>
                    go_wp2_with (fail)
                    go_roundg k1
                    case rel =>
                      refine ⟨i + 1, { s1 with said := s1.state, saidAt := at_ }, at_, rfl, by rw [← HE5.out], rfl, by go_num, by omega, HL1, ⟨HBk2.out.quiet (Keep.of_below (S := fun _ => False) ((Below.refl w2.heap.size w2).alloc (Nat.le_refl _) (.cells #[.string r.name, .int .i64 at_, .int .i64 s.said, .int .i64 s1.state, .bool true, .bool false, .int .i64 0, .int .u64 0] 48 (0, 0))))⟩, ⟨⟨HI1.out.state, HI1.out.state, HI1.out.points, HI1.out.gaps, HT.out, HI1.out.last⟩⟩, ⟨HBel2.out.alloc HBel2.out.size _⟩, ⟨blk_alloc HN2.out _⟩⟩
                    case measure => omega
              · have f4 : (s.said == s1.state) = false := beq_eq_false_iff_ne.mpr (fun z => m2 (by rw [HE1.out]; exact z.symm))
                clear m2
                cases is with
                | true =>
                  obtain rfl : xa = hiW val := HXA.out
                  obtain rfl : xb = loW val := HXB.out
                  clear HXA HXB HM2 HFe
                  as_aux_lemma =>
                    go_wp2_with (fail)
                    go_roundg k1
                    case rel =>
                      refine ⟨i + 1, { s1 with said := s1.state, saidAt := at_ }, at_, rfl, by rw [← HE5.out], rfl, by go_num, by omega, HL1, ⟨HBk2.out.quiet (Keep.of_below (S := fun _ => False) ((Below.refl w2.heap.size w2).alloc (Nat.le_refl _) (.cells #[.string r.name, .int .i64 at_, .int .i64 s.said, .int .i64 s1.state, .bool false, .bool true, .int .i64 (hiW val), .int .u64 (loW val)] 48 (0, 0))))⟩, ⟨⟨HI1.out.state, HI1.out.state, HI1.out.points, HI1.out.gaps, HT.out, HI1.out.last⟩⟩, ⟨HBel2.out.alloc HBel2.out.size _⟩, ⟨blk_alloc HN2.out _⟩⟩
                    case measure => omega
                | false =>
                  obtain rfl : xa = 0 := HXA.out
                  obtain rfl : xb = 0 := HXB.out
                  clear HXA HXB HM2 HFe
                  as_aux_lemma =>
                    go_wp2_with (fail)
                    go_roundg k1
                    case rel =>
                      refine ⟨i + 1, { s1 with said := s1.state, saidAt := at_ }, at_, rfl, by rw [← HE5.out], rfl, by go_num, by omega, HL1, ⟨HBk2.out.quiet (Keep.of_below (S := fun _ => False) ((Below.refl w2.heap.size w2).alloc (Nat.le_refl _) (.cells #[.string r.name, .int .i64 at_, .int .i64 s.said, .int .i64 s1.state, .bool false, .bool false, .int .i64 0, .int .u64 0] 48 (0, 0))))⟩, ⟨⟨HI1.out.state, HI1.out.state, HI1.out.points, HI1.out.gaps, HT.out, HI1.out.last⟩⟩, ⟨HBel2.out.alloc HBel2.out.size _⟩, ⟨blk_alloc HN2.out _⟩⟩
                    case measure => omega
        · have HFe := Aside0.mk (one_Feed_bad HBkO.out HIv.out HOK.out is HV.out (.inl ⟨ht, rfl⟩))
          have dd : decide (0 ≤ at_) = false ∨ (decide (0 ≤ at_) = true ∧ decide (at_ ≤ 1099511627775) = false) := by
            unfold inT at ht
            simp only [decide_eq_true_eq, decide_eq_false_iff_not]
            omega
          clear ht
          rcases dd with d2 | ⟨d2, d3⟩
          · as_aux_lemma =>
              go_wp2_with (first
                | (go_at_call 11; (with_reducible refine (HFe.out).mono ?_); rintro e w2 ⟨A2, c2, rfl, hbk2, hk2⟩; have hO2 := (hk2.block wr.heap.size (by simp) (by omega)).trans (heap_alloc_new wr (.cells #[.int .i64 kd, .string nm, .int .i64 at_, .bool is, .int .i64 (hiW val), .int .u64 (loW val)] 39 (0, 0))); have HN2 := Aside0.mk ((hk2.block w.heap.size (blk_lt HNO.out) (by omega)).trans HNO.out); have p2 := blk_cell hO2 2; have r0 := blk_cell HN2.out 0; clear x0 x1 x2 x3 x4 x5 q0 d1 eK; have HBk2 := Aside0.mk hbk2; have HBel2 := Aside0.mk (HBelO.out.trans (hk2.below HBelO.out.size (fun k hk => (by have hk' : k = g := hk; omega)))); clear hk2 hbk2 hO2))
              go_roundg k1
              case rel =>
                refine ⟨i + 1, s, la, rfl, rfl, rfl, by go_num, by omega, HLA, ⟨HBk2.out⟩, ⟨HIv.out⟩, ⟨HBel2.out⟩, ⟨HN2.out⟩⟩
              case measure => omega
          · as_aux_lemma =>
              go_wp2_with (first
                | (go_at_call 11; (with_reducible refine (HFe.out).mono ?_); rintro e w2 ⟨A2, c2, rfl, hbk2, hk2⟩; have hO2 := (hk2.block wr.heap.size (by simp) (by omega)).trans (heap_alloc_new wr (.cells #[.int .i64 kd, .string nm, .int .i64 at_, .bool is, .int .i64 (hiW val), .int .u64 (loW val)] 39 (0, 0))); have HN2 := Aside0.mk ((hk2.block w.heap.size (blk_lt HNO.out) (by omega)).trans HNO.out); have p2 := blk_cell hO2 2; have r0 := blk_cell HN2.out 0; clear x0 x1 x2 x3 x4 x5 q0 d1 eK; have HBk2 := Aside0.mk hbk2; have HBel2 := Aside0.mk (HBelO.out.trans (hk2.below HBelO.out.size (fun k hk => (by have hk' : k = g := hk; omega)))); clear hk2 hbk2 hO2))
              go_roundg k1
              case rel =>
                refine ⟨i + 1, s, la, rfl, rfl, rfl, by go_num, by omega, HLA, ⟨HBk2.out⟩, ⟨HIv.out⟩, ⟨HBel2.out⟩, ⟨HN2.out⟩⟩
              case measure => omega

end
/-- Every rule and script. -/
theorem law_AlarmChains (w : World) {r : Rul} (hin : RulIn r) {S0 : Option Addr} {c0 : Nat} {os : List OpR} (hC : Kd.C kOp w S0 os.length os) (hos : ∀ o ∈ os, inW o.val) :
    Calls Try.prog 6 #[.agg (ruleA r), .slice S0 os.length c0] w fun e w' => e = .returned (.bool true) ∧ Below w.heap.size w w' := by
  by_cases hm : MayP r
  · exact law_AlarmChains_may w hin hm hC hos
  · exact law_AlarmChains_not w hin hm S0 c0 _
end Go.Proofs.Ytadmigijbfdboaa.Q
