import Derived.Test.YtadmigijbfdboaaLBook
import Derived.Test.YtadmigijbfdboaaRBeyond
import Derived.StillTailTactics
namespace Go.Proofs.Ytadmigijbfdboaa.Q
open Go.RowKit Go.Proofs.YtadmigijbfdboaaW.PrintWords Go.Proofs.YtadmigijbfdboaaW.PrintLast Go.Proofs.YtadmigijbfdboaaW.PrintMore Go.Proofs.YtadmigijbfdboaaV
set_option linter.unusedVariables false
set_option linter.unusedSimpArgs false

theorem slack_fine {r : Rul} {s : Stt} (ok : RulOk r) {v at_ : Int} (h1 : beyondP r v r.warn r.slack = false) (h2 : beyondP r v r.crit r.slack = false) (hs : 1 ≤ s.state) : (stepP r s at_ true v).state = 1 := by
  have hk := ok.slack
  have mono : ∀ t c, (c = 0 ∨ c = r.slack) → beyondP r v t r.slack = false → beyondP r v t c = false := by
    intro t c hc h
    unfold beyondP at h ⊢
    split at h <;> rename_i q
    · rw [if_pos q]
      rw [decide_eq_false_iff_not] at h ⊢
      omega
    · rw [if_neg q]
      rw [decide_eq_false_iff_not] at h ⊢
      omega
  have l1 : levelP r v (wsP r s.state) (csP r s.state) = 1 := by
    unfold levelP
    rw [mono r.crit _ (by unfold csP; split <;> simp) h2, mono r.warn _ (by unfold wsP; split <;> simp) h1]
    rfl
  unfold stepP
  rw [if_pos rfl, l1]
  unfold comeP
  split
  · rename_i q; exact q.symm
  · rename_i q
    have q' : ¬ 1 = s.state := q
    rw [if_pos]
    · rfl
    · right; show (1:Int) < s.state; omega
/-- On the way to critical. -/
def toCrit (r : Rul) (j : Nat) (s : Stt) : Prop := s.state = 3 ∨ j = 0 ∨ (s.next = 3 ∧ (j : Int) ≤ s.points ∧ s.points < r.for_)
theorem toCrit_step {r : Rul} {s : Stt} (ok : RulOk r) (iv : RInv r s) {j : Nat} (h : toCrit r j s) (at_ : Int) : toCrit r (j + 1) (stepP r s at_ true r.crit) := by
  have hk := ok.slack
  have l1 : levelP r r.crit (wsP r s.state) (csP r s.state) = 3 := by
    unfold levelP
    have : beyondP r r.crit r.crit (csP r s.state) = true := by
      unfold beyondP
      have : csP r s.state = 0 ∨ csP r s.state = r.slack := by unfold csP; split <;> simp
      split <;> rw [decide_eq_true_eq] <;> omega
    rw [this]
    rfl
  unfold stepP
  rw [if_pos rfl, l1]
  unfold comeP
  split
  · rename_i q; exact .inl q.symm
  · split
    · exact .inl rfl
    · split
      · exact .inl rfl
      · rename_i q1 q2 q3
        refine .inr (.inr ⟨?_, ?_, by omega⟩)
        · unfold moreS
          split
          · rename_i q; exact q
          · rfl
        · unfold moreS
          have hp := iv.points
          rcases h with h | h | h
          · exact (q1 h.symm).elim
          · subst h
            show ((0 + 1 : Nat) : Int) ≤ (if s.next = 3 then s.points else 0) + 1
            split <;> omega
          · show ((j + 1 : Nat) : Int) ≤ (if s.next = 3 then s.points else 0) + 1
            rw [if_pos h.1]
            omega
theorem toCrit_said {r : Rul} {s : Stt} {j : Nat} (h : toCrit r j s) (at_ : Int) : toCrit r j (saidP r s at_) := by
  unfold saidP
  split <;> exact h
theorem toCrit_end {r : Rul} {s : Stt} (ok : RulOk r) {j : Nat} (hj : (j : Int) = r.for_) (h : toCrit r j s) : s.state = 3 := by
  have := ok.for_
  rcases h with h | h | h
  · exact h
  · omega
  · omega
theorem said_state (r : Rul) (s : Stt) (t : Int) : (saidP r s t).state = s.state := by unfold saidP; split <;> rfl
theorem said_last (r : Rul) (s : Stt) (t : Int) : lastP (saidP r s t) = lastP s := by unfold saidP; split <;> rfl
theorem step_last (r : Rul) (s : Stt) (t : Int) (is : Bool) (v : Int) : lastP (stepP r s t is v) = t := by
  obtain ⟨-, -, e3, e4, -⟩ := step_eq r s t is v
  unfold lastP
  rw [e3, e4]
  rfl

theorem one_Feed_go {w : World} {gb : Nat} {A : Option Addr} {c g : Nat} {r : Rul} {s : Stt} (h : BookAt w gb gb A c [(g, r, s)]) (iv : RInv r s) (ok : RulOk r) {at_ : Int} {is : Bool} {val : Int} (hv : inW val) (ht : inT at_) (hp : lastP s < at_) :
    Calls Try.prog 11 #[.pointer (some ⟨gb, 0, none⟩), .string r.name, .int .i64 at_, .agg #[.bool is, .int .i64 (hiW val), .int .u64 (loW val)]] w fun e w' => ∃ A' n' c', e = .returned (.tuple #[.slice A' n' c', .int .i64 0]) ∧ BookAt w' gb gb A c [(g, r, saidP r (stepP r s at_ is val) at_)] ∧ Keep w w' (fun k => k = g) := by
  refine (one_Feed_ok h iv ok hv ht hp rfl).mono ?_
  rintro e w' ⟨A', c', rfl, h2, h3, h4, h5⟩
  exact ⟨A', _, c', rfl, h4, h5⟩
set_option maxHeartbeats 800000 in
theorem law_AlarmSlack_not (w : World) {r : Rul} (hin : RulIn r) (hm : ¬ MayP r) (S0 : Option Addr) (c0 : Nat) (n0 : Nat) (fa fb : Int) :
    Calls Try.prog 3 #[.agg (ruleA r), .slice S0 n0 c0, .agg #[.int .i64 fa, .int .u64 fb]] w fun e w' => e = .returned (.bool true) ∧ Below w.heap.size w w' := by
  have HOne := Aside0.mk (fun W => law_one_not W hin hm)
  have hb0 := (Below.refl w.heap.size w).alloc (Nat.le_refl _) (.cells (ruleA r) 26 (0, 0))
  have HB := Aside0.mk (hb0.alloc hb0.size (.cells #[.int .i64 fa, .int .u64 fb] 24 (0, 0)))
  have N0 := Aside0.mk (blk_alloc (heap_alloc_new w (.cells (ruleA r) 26 (0, 0))) (.cells #[.int .i64 fa, .int .u64 fb] 24 (0, 0)))
  unfold ruleA at HOne HB N0 ⊢
  have x0 := blk_cell N0.out 0
  have x1 := blk_cell N0.out 1
  have x2 := blk_cell N0.out 2
  have x3 := blk_cell N0.out 3
  have x4 := blk_cell N0.out 4
  have x5 := blk_cell N0.out 5
  have x6 := blk_cell N0.out 6
  have x7 := blk_cell N0.out 7
  have x8 := blk_cell N0.out 8
  have x9 := blk_cell N0.out 9
  have x10 := blk_cell N0.out 10
  clear hm hin hb0
  go_enter Try.func3, Try.ntmps3
  go_wp2_with (first
    | (go_at_call 9; (with_reducible refine (HOne.out _).mono ?_); rintro e w1 ⟨hb, rfl⟩; have HB1 := Aside0.mk (hop HB.out hb); clear hb)
    | (go_at_call 10; (with_reducible refine (law_alive _).mono ?_); rintro e w2 ⟨rfl, hb⟩; have HB2 := Aside0.mk (hop HB1.out hb); clear hb))
  go_ret
  exact ⟨rfl, HB2.out⟩

set_option maxHeartbeats 12800000 in
set_option maxRecDepth 4000 in
theorem law_AlarmSlack_may (w : World) {r : Rul} (hin : RulIn r) (hm : MayP r) {S0 : Option Addr} {c0 : Nat} {os : List OpR} (hC : Kd.C kOp w S0 os.length os) (hos : ∀ o ∈ os, inW o.val) (h20 : os.length ≤ 1048576) {far : Int} (hfar : inW far) :
    Calls Try.prog 3 #[.agg (ruleA r), .slice S0 os.length c0, WV far] w fun e w' => e = .returned (.bool true) ∧ Below w.heap.size w w' := by
  have ok : RulOk r := hm.ok
  have HOne := Aside0.mk (fun W => law_one_may W hin hm)
  have HBw := Aside0.mk (fun W => ref_Beyond W r far r.warn r.slack hfar hin.warn hin.slack)
  have HBc := Aside0.mk (fun W => ref_Beyond W r far r.crit r.slack hfar hin.crit hin.slack)
  have HCI := Aside0.mk hin.crit
  have HFI := Aside0.mk hfar
  unfold WV at HBw HBc ⊢
  obtain ⟨fa, hfa⟩ : ∃ a, a = hiW far := ⟨_, rfl⟩
  obtain ⟨fb, hfb⟩ : ∃ a, a = loW far := ⟨_, rfl⟩
  rw [← hfa, ← hfb] at HBw HBc ⊢
  obtain ⟨bw, hbw⟩ : ∃ b, b = beyondP r far r.warn r.slack := ⟨_, rfl⟩
  obtain ⟨bc, hbc⟩ : ∃ b, b = beyondP r far r.crit r.slack := ⟨_, rfl⟩
  rw [← hbw] at HBw
  rw [← hbc] at HBc
  have HFA := Aside0.mk hfa
  have HFB := Aside0.mk hfb
  have HBW := Aside0.mk hbw
  have HBC := Aside0.mk hbc
  have hb0 := (Below.refl w.heap.size w).alloc (Nat.le_refl _) (.cells (ruleA r) 26 (0, 0))
  have HB := Aside0.mk (hb0.alloc hb0.size (.cells #[.int .i64 fa, .int .u64 fb] 24 (0, 0)))
  have N0 := Aside0.mk (blk_alloc (heap_alloc_new w (.cells (ruleA r) 26 (0, 0))) (.cells #[.int .i64 fa, .int .u64 fb] 24 (0, 0)))
  have F0 := Aside0.mk (heap_alloc2_new w (.cells (ruleA r) 26 (0, 0)) (.cells #[.int .i64 fa, .int .u64 fb] 24 (0, 0)))
  have HC := Aside0.mk hC
  have HOK := Aside0.mk ok
  have HOS := Aside0.mk hos
  have hlen := hC.2.1
  unfold ruleA at HOne HB N0 F0 HBw HBc ⊢
  have x0 := blk_cell N0.out 0
  have x1 := blk_cell N0.out 1
  have x2 := blk_cell N0.out 2
  have x3 := blk_cell N0.out 3
  have x4 := blk_cell N0.out 4
  have x5 := blk_cell N0.out 5
  have x6 := blk_cell N0.out 6
  have x7 := blk_cell N0.out 7
  have x8 := blk_cell N0.out 8
  have x9 := blk_cell N0.out 9
  have x10 := blk_cell N0.out 10
  clear hm hin hC hos ok hfar hfa hfb hbw hbc hb0
  go_enter Try.func3, Try.ntmps3
  go_wp2_with (first
    | (go_at_call 9; (with_reducible refine (HOne.out _).mono ?_); rintro e w1 ⟨gb, A, c, g, hb, hgb, hg, rfl, hbk⟩; have HB1 := Aside0.mk (hop HB.out hb); have HBk1 := Aside0.mk hbk; have N1 := Aside0.mk ((hb.block _ (blk_lt N0.out)).trans N0.out); have F1 := Aside0.mk ((hb.block _ (blk_lt F0.out)).trans F0.out); have hgw : w.heap.size + 1 < g := (by have := blk_lt F0.out; omega); clear hb hbk))
  go_loopg [10, 11] os.length (fun kq v10 v11 w' => ∃ (i : Nat) (s : Stt), v10 = .int .i64 i ∧ v11 = .int .i64 i ∧ i + kq = os.length ∧ Aside0 (lastP s ≤ (i : Int)) ∧ Aside0 (BookAt w' gb gb A c [(g, r, s)]) ∧ Aside0 (RInv r s) ∧ Aside0 (Below w.heap.size w w') ∧ Aside0 (w'.heap[w.heap.size]? = some (.cells #[.string r.name, .bool r.above, .int .i64 (hiW r.warn), .int .u64 (loW r.warn), .int .i64 (hiW r.crit), .int .u64 (loW r.crit), .int .i64 (hiW r.slack), .int .u64 (loW r.slack), .int .i64 r.for_, .int .i64 r.absent, .int .i64 r.again] 26 (0, 0))) ∧ Aside0 (w'.heap[w.heap.size + 1]? = some (.cells #[.int .i64 fa, .int .u64 fb] 24 (0, 0))))
  case atStart => exact ⟨0, stt0, rfl, rfl, by omega, ⟨by decide⟩, HBk1, ⟨stt0_inv HOK.out⟩, HB1, N1, F1⟩
  case round =>
    obtain ⟨i, s, rfl, rfl, hik, HLA, HBk, HIv, HBel, HN, HF⟩ := hrel
    have q0 := blk_cell HN.out 0
    cases gk with
    | succ k1 =>
      have hlt : i < os.length := by omega
      have d1 : decide (i < os.length) = true := decide_eq_true hlt
      obtain ⟨o, ho⟩ : ∃ o, os[i]? = some o := ⟨os[i], List.getElem?_eq_getElem hlt⟩
      have hov := HOS.out o (List.mem_of_getElem? ho)
      obtain ⟨ad, rfl, x0, x1, x2, x3, x4, x5⟩ := at_Op (Kd.C_below HC.out HBel.out) i o ho
      obtain ⟨kd, nm, at_, is, val⟩ := o
      have hov' : inW val := hov
      have ht : inT ((i : Int) + 1) := by unfold inT; omega
      have hl := HLA.out
      have HFe := Aside0.mk (fun (W : World) (HW : BookAt W gb gb A c [(g, r, s)]) => one_Feed_go HW HIv.out HOK.out (is := is) hov' ht (by omega))
      have HI2 := Aside0.mk ((HIv.out.step HOK.out ht (by omega) is val).sayd ht)
      have HL2 := Aside0.mk (show lastP (saidP r (stepP r s ((i : Int) + 1) is val) ((i : Int) + 1)) ≤ ((i + 1 : Nat) : Int) by rw [said_last, step_last]; omega)
      have HBkd := Aside0.mk (show BookAt wr.drew gb gb A c [(g, r, s)] from HBk.out.quiet (below_keep ((Below.refl wr.heap.size wr).drew)))
      have q0d : wr.drew.cell? ⟨w.heap.size, 0, none⟩ = some (.string r.name) := q0
      clear ho hov hov' ht hl x0 x1 x2
      have x3d : wr.drew.cell? _ = _ := x3
      have x4d : wr.drew.cell? _ = _ := x4
      have x5d : wr.drew.cell? _ = _ := x5
      have hgl : g < wr.heap.size := blk_lt (HBk.out.rules (g, r, s) (List.mem_singleton.2 rfl)).1
      have hwl : w.heap.size + 1 < wr.heap.size := blk_lt HF.out
      go_upto_region 9 with (fail)
      go_still_tail 9, (by kernel_rfl)
      change wpList _ _ _ _ _ wr.drew
      go_wp2_with (first
        | (go_at_call 11; (with_reducible refine (HFe.out _ HBkd.out).mono ?_); rintro e w2 ⟨A2, n2, c2, rfl, hbk, hk⟩; have HBk2 := Aside0.mk hbk; have HN2 := Aside0.mk ((hk.block w.heap.size (blk_lt (show wr.drew.heap[w.heap.size]? = _ from HN.out)) (by omega)).trans HN.out); have HF2 := Aside0.mk ((hk.block (w.heap.size + 1) (blk_lt (show wr.drew.heap[w.heap.size + 1]? = _ from HF.out)) (by omega)).trans HF.out); have HBel2 := Aside0.mk (HBel.out.drew.trans (hk.below HBel.out.size (fun k hk => (by have hk' : k = g := hk; omega)))); clear hbk hk))
      go_roundg k1
      case rel => exact ⟨i + 1, _, by go_num, by go_num, by omega, HL2, HBk2, HI2, HBel2, HN2, HF2⟩
      case measure => omega
    | zero =>
      have HIE := Aside0.mk (show i = os.length by omega)
      have d1 : decide (i < os.length) = false := decide_eq_false (by omega)
      have ht : inT ((i : Int) + 1) := by unfold inT; omega
      have hl := HLA.out
      have HI2 := HIv.out.step HOK.out ht (by omega) true far
      have HS1 := Aside0.mk (fun (e1 : bw = false) (e2 : bc = false) => slack_fine HOK.out (at_ := (i : Int) + 1) (by rw [← HBW.out]; exact e1) (by rw [← HBC.out]; exact e2) HIv.out.state.1)
      obtain ⟨s1, hs1⟩ : ∃ x, x = saidP r (stepP r s ((i : Int) + 1) true far) ((i : Int) + 1) := ⟨_, rfl⟩
      have HFe := Aside0.mk (one_Feed_go HBk.out HIv.out HOK.out (is := true) HFI.out ht (by omega))
      rw [← hs1] at HFe
      have HI3 := Aside0.mk (show RInv r s1 by rw [hs1]; exact HI2.sayd ht)
      have HL3 := Aside0.mk (show lastP s1 ≤ (i : Int) + 1 by rw [hs1, said_last, step_last]; omega)
      have hst1 : s1.state = (stepP r s ((i : Int) + 1) true far).state := by rw [hs1, said_state]
      rw [← hst1] at HS1
      rw [← HFA.out, ← HFB.out] at HFe
      have hgl : g < wr.heap.size := blk_lt (HBk.out.rules (g, r, s) (List.mem_singleton.2 rfl)).1
      have hwl : w.heap.size + 1 < wr.heap.size := blk_lt HF.out
      have f0 := blk_cell HF.out 0
      have f1 := blk_cell HF.out 1
      clear hl HI2 hst1 hs1 ht
      cases bw with
      | true =>
        go_wp2_with (first
          | (go_at_call 11; (with_reducible refine (HFe.out).mono ?_); rintro e w2 ⟨A2, n2, c2, rfl, hbk, hk⟩; have HBk2 := Aside0.mk hbk; have HN2 := Aside0.mk ((hk.block w.heap.size (blk_lt HN.out) (by omega)).trans HN.out); have HF2 := Aside0.mk ((hk.block (w.heap.size + 1) (blk_lt HF.out) (by omega)).trans HF.out); have HBel2 := Aside0.mk (HBel.out.trans (hk.below HBel.out.size (fun k hk => (by have hk' : k = g := hk; omega)))); have u0 := blk_cell HN2.out 0; have u1 := blk_cell HN2.out 1; have u2 := blk_cell HN2.out 2; have u3 := blk_cell HN2.out 3; have u4 := blk_cell HN2.out 4; have u5 := blk_cell HN2.out 5; have u6 := blk_cell HN2.out 6; have u7 := blk_cell HN2.out 7; have u8 := blk_cell HN2.out 8; have u9 := blk_cell HN2.out 9; have u10 := blk_cell HN2.out 10; have g0 := blk_cell HF2.out 0; have g1 := blk_cell HF2.out 1; clear hbk hk)
          | (go_at_call 12; (with_reducible refine (one_State HBk2.out).mono ?_); rintro e w' ⟨rfl, rfl⟩)
          | (go_at_call 13; (with_reducible refine (HBw.out _).mono ?_); rintro e w3 ⟨rfl, hb⟩; have HB_ := Aside0.mk (HBk2.out.quiet (below_keep hb)); have HN_ := Aside0.mk ((hb.block _ (blk_lt HN2.out)).trans HN2.out); have HF_ := Aside0.mk ((hb.block _ (blk_lt HF2.out)).trans HF2.out); have HBel_ := Aside0.mk (hop HBel2.out hb); clear HBk2 HN2 HF2 HBel2 hb; have HBk2 := HB_; have HN2 := HN_; have HF2 := HF_; have HBel2 := HBel_; clear HB_ HN_ HF_ HBel_; have u0 := blk_cell HN2.out 0; have u1 := blk_cell HN2.out 1; have u2 := blk_cell HN2.out 2; have u3 := blk_cell HN2.out 3; have u4 := blk_cell HN2.out 4; have u5 := blk_cell HN2.out 5; have u6 := blk_cell HN2.out 6; have u7 := blk_cell HN2.out 7; have u8 := blk_cell HN2.out 8; have u9 := blk_cell HN2.out 9; have u10 := blk_cell HN2.out 10; have g0 := blk_cell HF2.out 0; have g1 := blk_cell HF2.out 1)
          | (go_at_call 13; (with_reducible refine (HBc.out _).mono ?_); rintro e w3 ⟨rfl, hb⟩; have HB_ := Aside0.mk (HBk2.out.quiet (below_keep hb)); have HN_ := Aside0.mk ((hb.block _ (blk_lt HN2.out)).trans HN2.out); have HF_ := Aside0.mk ((hb.block _ (blk_lt HF2.out)).trans HF2.out); have HBel_ := Aside0.mk (hop HBel2.out hb); clear HBk2 HN2 HF2 HBel2 hb; have HBk2 := HB_; have HN2 := HN_; have HF2 := HF_; have HBel2 := HBel_; clear HB_ HN_ HF_ HBel_; have u0 := blk_cell HN2.out 0; have u1 := blk_cell HN2.out 1; have u2 := blk_cell HN2.out 2; have u3 := blk_cell HN2.out 3; have u4 := blk_cell HN2.out 4; have u5 := blk_cell HN2.out 5; have u6 := blk_cell HN2.out 6; have u7 := blk_cell HN2.out 7; have u8 := blk_cell HN2.out 8; have u9 := blk_cell HN2.out 9; have u10 := blk_cell HN2.out 10; have g0 := blk_cell HF2.out 0; have g1 := blk_cell HF2.out 1))
        go_loopg [10, 14] r.for_.toNat (fun kq v10 v14 w' => ∃ (j : Nat) (s2 : Stt), v10 = .int .i64 ((i : Int) + 1 + j) ∧ v14 = .int .i64 j ∧ j + kq = r.for_.toNat ∧ Aside0 (lastP s2 ≤ (i : Int) + 1 + j) ∧ Aside0 (toCrit r j s2) ∧ Aside0 (BookAt w' gb gb A c [(g, r, s2)]) ∧ Aside0 (RInv r s2) ∧ Aside0 (Below w.heap.size w w') ∧ Aside0 (w'.heap[w.heap.size]? = some (.cells #[.string r.name, .bool r.above, .int .i64 (hiW r.warn), .int .u64 (loW r.warn), .int .i64 (hiW r.crit), .int .u64 (loW r.crit), .int .i64 (hiW r.slack), .int .u64 (loW r.slack), .int .i64 r.for_, .int .i64 r.absent, .int .i64 r.again] 26 (0, 0))))
        case atStart => exact ⟨0, s1, by simp, rfl, by omega, ⟨by have := HL3.out; simpa using this⟩, ⟨.inr (.inl rfl)⟩, HBk2, HI3, HBel2, HN2⟩
        case round =>
          clear HBk2 HI3 HBel2 HN2 HF2 HL3
          obtain ⟨j, s2, rfl, rfl, hjk, HLj, HCj, HBj, HIj, HBelj, HNj⟩ := hrel
          have hf := HOK.out.for_
          have y0 := blk_cell HNj.out 0
          have y4 := blk_cell HNj.out 4
          have y5 := blk_cell HNj.out 5
          have y8 := blk_cell HNj.out 8
          cases gk with
          | zero =>
            have e1 : decide ((j : Int) < r.for_) = false := decide_eq_false (by omega)
            have e2 : (s2.state == 3) = true := beq_iff_eq.mpr (toCrit_end HOK.out (by omega) HCj.out)
            go_wp2_with (first
              | (go_at_call 12; (with_reducible refine (one_State HBj.out).mono ?_); rintro e w' ⟨rfl, rfl⟩)
              | (go_at_call 10; (with_reducible refine (law_alive _).mono ?_); rintro e w5 ⟨rfl, hb⟩; have HB5 := Aside0.mk (hop HBelj.out hb); clear hb))
            go_ret
            exact ⟨rfl, HB5.out⟩
          | succ k1 =>
            have e1 : decide ((j : Int) < r.for_) = true := decide_eq_true (by omega)
            have ht : inT ((i : Int) + 1 + j + 1) := by unfold inT; omega
            have hl := HLj.out
            have HFe2 := Aside0.mk (one_Feed_go HBj.out HIj.out HOK.out (is := true) HCI.out ht (by omega))
            have HI4 := Aside0.mk ((HIj.out.step HOK.out ht (by omega) true r.crit).sayd ht)
            have HL4 := Aside0.mk (show lastP (saidP r (stepP r s2 ((i : Int) + 1 + j + 1) true r.crit) ((i : Int) + 1 + j + 1)) ≤ (i : Int) + 1 + ((j + 1 : Nat) : Int) by rw [said_last, step_last]; omega)
            have HC4 := Aside0.mk (toCrit_said (toCrit_step HOK.out HIj.out HCj.out ((i : Int) + 1 + j + 1)) ((i : Int) + 1 + j + 1))
            have hgj : g < wr.heap.size := blk_lt (HBj.out.rules (g, r, s2) (List.mem_singleton.2 rfl)).1
            clear ht hl
            go_wp2_with (first
              | (go_at_call 11; (with_reducible refine (HFe2.out).mono ?_); rintro e w6 ⟨A6, n6, c6, rfl, hbk, hk⟩; have HBk6 := Aside0.mk hbk; have HN6 := Aside0.mk ((hk.block w.heap.size (blk_lt HNj.out) (by omega)).trans HNj.out); have HBel6 := Aside0.mk (HBelj.out.trans (hk.below HBelj.out.size (fun k hk => (by have hk' : k = g := hk; omega)))); clear hbk hk))
            go_roundg k1
            case rel => exact ⟨j + 1, _, by go_num, by go_num, by omega, HL4, HC4, HBk6, HI4, HBel6, HN6⟩
            case measure => omega
      | false =>
        cases bc with
        | true =>
          go_wp2_with (first
            | (go_at_call 11; (with_reducible refine (HFe.out).mono ?_); rintro e w2 ⟨A2, n2, c2, rfl, hbk, hk⟩; have HBk2 := Aside0.mk hbk; have HN2 := Aside0.mk ((hk.block w.heap.size (blk_lt HN.out) (by omega)).trans HN.out); have HF2 := Aside0.mk ((hk.block (w.heap.size + 1) (blk_lt HF.out) (by omega)).trans HF.out); have HBel2 := Aside0.mk (HBel.out.trans (hk.below HBel.out.size (fun k hk => (by have hk' : k = g := hk; omega)))); have u0 := blk_cell HN2.out 0; have u1 := blk_cell HN2.out 1; have u2 := blk_cell HN2.out 2; have u3 := blk_cell HN2.out 3; have u4 := blk_cell HN2.out 4; have u5 := blk_cell HN2.out 5; have u6 := blk_cell HN2.out 6; have u7 := blk_cell HN2.out 7; have u8 := blk_cell HN2.out 8; have u9 := blk_cell HN2.out 9; have u10 := blk_cell HN2.out 10; have g0 := blk_cell HF2.out 0; have g1 := blk_cell HF2.out 1; clear hbk hk)
            | (go_at_call 12; (with_reducible refine (one_State HBk2.out).mono ?_); rintro e w' ⟨rfl, rfl⟩)
            | (go_at_call 13; (with_reducible refine (HBw.out _).mono ?_); rintro e w3 ⟨rfl, hb⟩; have HB_ := Aside0.mk (HBk2.out.quiet (below_keep hb)); have HN_ := Aside0.mk ((hb.block _ (blk_lt HN2.out)).trans HN2.out); have HF_ := Aside0.mk ((hb.block _ (blk_lt HF2.out)).trans HF2.out); have HBel_ := Aside0.mk (hop HBel2.out hb); clear HBk2 HN2 HF2 HBel2 hb; have HBk2 := HB_; have HN2 := HN_; have HF2 := HF_; have HBel2 := HBel_; clear HB_ HN_ HF_ HBel_; have u0 := blk_cell HN2.out 0; have u1 := blk_cell HN2.out 1; have u2 := blk_cell HN2.out 2; have u3 := blk_cell HN2.out 3; have u4 := blk_cell HN2.out 4; have u5 := blk_cell HN2.out 5; have u6 := blk_cell HN2.out 6; have u7 := blk_cell HN2.out 7; have u8 := blk_cell HN2.out 8; have u9 := blk_cell HN2.out 9; have u10 := blk_cell HN2.out 10; have g0 := blk_cell HF2.out 0; have g1 := blk_cell HF2.out 1)
            | (go_at_call 13; (with_reducible refine (HBc.out _).mono ?_); rintro e w3 ⟨rfl, hb⟩; have HB_ := Aside0.mk (HBk2.out.quiet (below_keep hb)); have HN_ := Aside0.mk ((hb.block _ (blk_lt HN2.out)).trans HN2.out); have HF_ := Aside0.mk ((hb.block _ (blk_lt HF2.out)).trans HF2.out); have HBel_ := Aside0.mk (hop HBel2.out hb); clear HBk2 HN2 HF2 HBel2 hb; have HBk2 := HB_; have HN2 := HN_; have HF2 := HF_; have HBel2 := HBel_; clear HB_ HN_ HF_ HBel_; have u0 := blk_cell HN2.out 0; have u1 := blk_cell HN2.out 1; have u2 := blk_cell HN2.out 2; have u3 := blk_cell HN2.out 3; have u4 := blk_cell HN2.out 4; have u5 := blk_cell HN2.out 5; have u6 := blk_cell HN2.out 6; have u7 := blk_cell HN2.out 7; have u8 := blk_cell HN2.out 8; have u9 := blk_cell HN2.out 9; have u10 := blk_cell HN2.out 10; have g0 := blk_cell HF2.out 0; have g1 := blk_cell HF2.out 1))
          go_loopg [10, 14] r.for_.toNat (fun kq v10 v14 w' => ∃ (j : Nat) (s2 : Stt), v10 = .int .i64 ((i : Int) + 1 + j) ∧ v14 = .int .i64 j ∧ j + kq = r.for_.toNat ∧ Aside0 (lastP s2 ≤ (i : Int) + 1 + j) ∧ Aside0 (toCrit r j s2) ∧ Aside0 (BookAt w' gb gb A c [(g, r, s2)]) ∧ Aside0 (RInv r s2) ∧ Aside0 (Below w.heap.size w w') ∧ Aside0 (w'.heap[w.heap.size]? = some (.cells #[.string r.name, .bool r.above, .int .i64 (hiW r.warn), .int .u64 (loW r.warn), .int .i64 (hiW r.crit), .int .u64 (loW r.crit), .int .i64 (hiW r.slack), .int .u64 (loW r.slack), .int .i64 r.for_, .int .i64 r.absent, .int .i64 r.again] 26 (0, 0))))
          case atStart => exact ⟨0, s1, by simp, rfl, by omega, ⟨by have := HL3.out; simpa using this⟩, ⟨.inr (.inl rfl)⟩, HBk2, HI3, HBel2, HN2⟩
          case round =>
            clear HBk2 HI3 HBel2 HN2 HF2 HL3
            obtain ⟨j, s2, rfl, rfl, hjk, HLj, HCj, HBj, HIj, HBelj, HNj⟩ := hrel
            have hf := HOK.out.for_
            have y0 := blk_cell HNj.out 0
            have y4 := blk_cell HNj.out 4
            have y5 := blk_cell HNj.out 5
            have y8 := blk_cell HNj.out 8
            cases gk with
            | zero =>
              have e1 : decide ((j : Int) < r.for_) = false := decide_eq_false (by omega)
              have e2 : (s2.state == 3) = true := beq_iff_eq.mpr (toCrit_end HOK.out (by omega) HCj.out)
              go_wp2_with (first
                | (go_at_call 12; (with_reducible refine (one_State HBj.out).mono ?_); rintro e w' ⟨rfl, rfl⟩)
                | (go_at_call 10; (with_reducible refine (law_alive _).mono ?_); rintro e w5 ⟨rfl, hb⟩; have HB5 := Aside0.mk (hop HBelj.out hb); clear hb))
              go_ret
              exact ⟨rfl, HB5.out⟩
            | succ k1 =>
              have e1 : decide ((j : Int) < r.for_) = true := decide_eq_true (by omega)
              have ht : inT ((i : Int) + 1 + j + 1) := by unfold inT; omega
              have hl := HLj.out
              have HFe2 := Aside0.mk (one_Feed_go HBj.out HIj.out HOK.out (is := true) HCI.out ht (by omega))
              have HI4 := Aside0.mk ((HIj.out.step HOK.out ht (by omega) true r.crit).sayd ht)
              have HL4 := Aside0.mk (show lastP (saidP r (stepP r s2 ((i : Int) + 1 + j + 1) true r.crit) ((i : Int) + 1 + j + 1)) ≤ (i : Int) + 1 + ((j + 1 : Nat) : Int) by rw [said_last, step_last]; omega)
              have HC4 := Aside0.mk (toCrit_said (toCrit_step HOK.out HIj.out HCj.out ((i : Int) + 1 + j + 1)) ((i : Int) + 1 + j + 1))
              have hgj : g < wr.heap.size := blk_lt (HBj.out.rules (g, r, s2) (List.mem_singleton.2 rfl)).1
              clear ht hl
              go_wp2_with (first
                | (go_at_call 11; (with_reducible refine (HFe2.out).mono ?_); rintro e w6 ⟨A6, n6, c6, rfl, hbk, hk⟩; have HBk6 := Aside0.mk hbk; have HN6 := Aside0.mk ((hk.block w.heap.size (blk_lt HNj.out) (by omega)).trans HNj.out); have HBel6 := Aside0.mk (HBelj.out.trans (hk.below HBelj.out.size (fun k hk => (by have hk' : k = g := hk; omega)))); clear hbk hk))
              go_roundg k1
              case rel => exact ⟨j + 1, _, by go_num, by go_num, by omega, HL4, HC4, HBk6, HI4, HBel6, HN6⟩
              case measure => omega
        | false =>
          have e9 : (s1.state != 1) = false := by rw [HS1.out rfl rfl]; rfl
          go_wp2_with (first
            | (go_at_call 11; (with_reducible refine (HFe.out).mono ?_); rintro e w2 ⟨A2, n2, c2, rfl, hbk, hk⟩; have HBk2 := Aside0.mk hbk; have HN2 := Aside0.mk ((hk.block w.heap.size (blk_lt HN.out) (by omega)).trans HN.out); have HF2 := Aside0.mk ((hk.block (w.heap.size + 1) (blk_lt HF.out) (by omega)).trans HF.out); have HBel2 := Aside0.mk (HBel.out.trans (hk.below HBel.out.size (fun k hk => (by have hk' : k = g := hk; omega)))); have u0 := blk_cell HN2.out 0; have u1 := blk_cell HN2.out 1; have u2 := blk_cell HN2.out 2; have u3 := blk_cell HN2.out 3; have u4 := blk_cell HN2.out 4; have u5 := blk_cell HN2.out 5; have u6 := blk_cell HN2.out 6; have u7 := blk_cell HN2.out 7; have u8 := blk_cell HN2.out 8; have u9 := blk_cell HN2.out 9; have u10 := blk_cell HN2.out 10; have g0 := blk_cell HF2.out 0; have g1 := blk_cell HF2.out 1; clear hbk hk)
            | (go_at_call 12; (with_reducible refine (one_State HBk2.out).mono ?_); rintro e w' ⟨rfl, rfl⟩)
            | (go_at_call 13; (with_reducible refine (HBw.out _).mono ?_); rintro e w3 ⟨rfl, hb⟩; have HB_ := Aside0.mk (HBk2.out.quiet (below_keep hb)); have HN_ := Aside0.mk ((hb.block _ (blk_lt HN2.out)).trans HN2.out); have HF_ := Aside0.mk ((hb.block _ (blk_lt HF2.out)).trans HF2.out); have HBel_ := Aside0.mk (hop HBel2.out hb); clear HBk2 HN2 HF2 HBel2 hb; have HBk2 := HB_; have HN2 := HN_; have HF2 := HF_; have HBel2 := HBel_; clear HB_ HN_ HF_ HBel_; have u0 := blk_cell HN2.out 0; have u1 := blk_cell HN2.out 1; have u2 := blk_cell HN2.out 2; have u3 := blk_cell HN2.out 3; have u4 := blk_cell HN2.out 4; have u5 := blk_cell HN2.out 5; have u6 := blk_cell HN2.out 6; have u7 := blk_cell HN2.out 7; have u8 := blk_cell HN2.out 8; have u9 := blk_cell HN2.out 9; have u10 := blk_cell HN2.out 10; have g0 := blk_cell HF2.out 0; have g1 := blk_cell HF2.out 1)
            | (go_at_call 13; (with_reducible refine (HBc.out _).mono ?_); rintro e w3 ⟨rfl, hb⟩; have HB_ := Aside0.mk (HBk2.out.quiet (below_keep hb)); have HN_ := Aside0.mk ((hb.block _ (blk_lt HN2.out)).trans HN2.out); have HF_ := Aside0.mk ((hb.block _ (blk_lt HF2.out)).trans HF2.out); have HBel_ := Aside0.mk (hop HBel2.out hb); clear HBk2 HN2 HF2 HBel2 hb; have HBk2 := HB_; have HN2 := HN_; have HF2 := HF_; have HBel2 := HBel_; clear HB_ HN_ HF_ HBel_; have u0 := blk_cell HN2.out 0; have u1 := blk_cell HN2.out 1; have u2 := blk_cell HN2.out 2; have u3 := blk_cell HN2.out 3; have u4 := blk_cell HN2.out 4; have u5 := blk_cell HN2.out 5; have u6 := blk_cell HN2.out 6; have u7 := blk_cell HN2.out 7; have u8 := blk_cell HN2.out 8; have u9 := blk_cell HN2.out 9; have u10 := blk_cell HN2.out 10; have g0 := blk_cell HF2.out 0; have g1 := blk_cell HF2.out 1))
          go_loopg [10, 14] r.for_.toNat (fun kq v10 v14 w' => ∃ (j : Nat) (s2 : Stt), v10 = .int .i64 ((i : Int) + 1 + j) ∧ v14 = .int .i64 j ∧ j + kq = r.for_.toNat ∧ Aside0 (lastP s2 ≤ (i : Int) + 1 + j) ∧ Aside0 (toCrit r j s2) ∧ Aside0 (BookAt w' gb gb A c [(g, r, s2)]) ∧ Aside0 (RInv r s2) ∧ Aside0 (Below w.heap.size w w') ∧ Aside0 (w'.heap[w.heap.size]? = some (.cells #[.string r.name, .bool r.above, .int .i64 (hiW r.warn), .int .u64 (loW r.warn), .int .i64 (hiW r.crit), .int .u64 (loW r.crit), .int .i64 (hiW r.slack), .int .u64 (loW r.slack), .int .i64 r.for_, .int .i64 r.absent, .int .i64 r.again] 26 (0, 0))))
          case atStart => exact ⟨0, s1, by simp, rfl, by omega, ⟨by have := HL3.out; simpa using this⟩, ⟨.inr (.inl rfl)⟩, HBk2, HI3, HBel2, HN2⟩
          case round =>
            clear HBk2 HI3 HBel2 HN2 HF2 HL3
            obtain ⟨j, s2, rfl, rfl, hjk, HLj, HCj, HBj, HIj, HBelj, HNj⟩ := hrel
            have hf := HOK.out.for_
            have y0 := blk_cell HNj.out 0
            have y4 := blk_cell HNj.out 4
            have y5 := blk_cell HNj.out 5
            have y8 := blk_cell HNj.out 8
            cases gk with
            | zero =>
              have e1 : decide ((j : Int) < r.for_) = false := decide_eq_false (by omega)
              have e2 : (s2.state == 3) = true := beq_iff_eq.mpr (toCrit_end HOK.out (by omega) HCj.out)
              go_wp2_with (first
                | (go_at_call 12; (with_reducible refine (one_State HBj.out).mono ?_); rintro e w' ⟨rfl, rfl⟩)
                | (go_at_call 10; (with_reducible refine (law_alive _).mono ?_); rintro e w5 ⟨rfl, hb⟩; have HB5 := Aside0.mk (hop HBelj.out hb); clear hb))
              go_ret
              exact ⟨rfl, HB5.out⟩
            | succ k1 =>
              have e1 : decide ((j : Int) < r.for_) = true := decide_eq_true (by omega)
              have ht : inT ((i : Int) + 1 + j + 1) := by unfold inT; omega
              have hl := HLj.out
              have HFe2 := Aside0.mk (one_Feed_go HBj.out HIj.out HOK.out (is := true) HCI.out ht (by omega))
              have HI4 := Aside0.mk ((HIj.out.step HOK.out ht (by omega) true r.crit).sayd ht)
              have HL4 := Aside0.mk (show lastP (saidP r (stepP r s2 ((i : Int) + 1 + j + 1) true r.crit) ((i : Int) + 1 + j + 1)) ≤ (i : Int) + 1 + ((j + 1 : Nat) : Int) by rw [said_last, step_last]; omega)
              have HC4 := Aside0.mk (toCrit_said (toCrit_step HOK.out HIj.out HCj.out ((i : Int) + 1 + j + 1)) ((i : Int) + 1 + j + 1))
              have hgj : g < wr.heap.size := blk_lt (HBj.out.rules (g, r, s2) (List.mem_singleton.2 rfl)).1
              clear ht hl
              go_wp2_with (first
                | (go_at_call 11; (with_reducible refine (HFe2.out).mono ?_); rintro e w6 ⟨A6, n6, c6, rfl, hbk, hk⟩; have HBk6 := Aside0.mk hbk; have HN6 := Aside0.mk ((hk.block w.heap.size (blk_lt HNj.out) (by omega)).trans HNj.out); have HBel6 := Aside0.mk (HBelj.out.trans (hk.below HBelj.out.size (fun k hk => (by have hk' : k = g := hk; omega)))); clear hbk hk))
              go_roundg k1
              case rel => exact ⟨j + 1, _, by go_num, by go_num, by omega, HL4, HC4, HBk6, HI4, HBel6, HN6⟩
              case measure => omega

/-- Every rule, script and value. -/
theorem law_AlarmSlack (w : World) {r : Rul} (hin : RulIn r) {S0 : Option Addr} {c0 : Nat} {os : List OpR} (hC : Kd.C kOp w S0 os.length os) (hos : ∀ o ∈ os, inW o.val) (h20 : os.length ≤ 1048576) {far : Int} (hfar : inW far) :
    Calls Try.prog 3 #[.agg (ruleA r), .slice S0 os.length c0, WV far] w fun e w' => e = .returned (.bool true) ∧ Below w.heap.size w w' := by
  by_cases hm : MayP r
  · exact law_AlarmSlack_may w hin hm hC hos h20 hfar
  · exact law_AlarmSlack_not w hin hm S0 c0 _ _ _
end Go.Proofs.Ytadmigijbfdboaa.Q
