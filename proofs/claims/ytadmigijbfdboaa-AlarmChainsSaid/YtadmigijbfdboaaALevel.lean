import Derived.Test.YtadmigijbfdboaaARule
namespace Go.Proofs.Ytadmigijbfdboaa.Q
open Go.RowKit Go.Proofs.YtadmigijbfdboaaW.PrintWords Go.Proofs.YtadmigijbfdboaaW.PrintLast Go.Proofs.YtadmigijbfdboaaW.PrintMore Go.Proofs.YtadmigijbfdboaaV
set_option linter.unusedVariables false
set_option linter.unusedSimpArgs false

/-- A rule that may be, as far as numbers go. -/
structure RulOk (r : Rul) : Prop where
  warn : -1267650600228229401496703205376 ≤ r.warn ∧ r.warn ≤ 1267650600228229401496703205376
  crit : -1267650600228229401496703205376 ≤ r.crit ∧ r.crit ≤ 1267650600228229401496703205376
  slack : 0 ≤ r.slack ∧ r.slack ≤ 1267650600228229401496703205376
  for_ : 1 ≤ r.for_ ∧ r.for_ ≤ 1000
  absent : 0 ≤ r.absent ∧ r.absent ≤ 1000
  again : 0 ≤ r.again ∧ r.again ≤ 1099511627775
theorem RuleAt.below {w w' : World} {g : Nat} {r : Rul} {s : Stt} {u : Value} (h : RuleAt w g r s u) (hb : Below w.heap.size w w') : RuleAt w' g r s u := (hb.block g (blk_lt h)).trans h
theorem undrew {w w' : World} (h : Below w.drew.heap.size w.drew w') : Below w.heap.size w w' := ⟨h.os, h.tape, h.output, h.size, h.block⟩
set_option maxHeartbeats 3200000 in
set_option maxRecDepth 4000 in
theorem rule_level (w : World) (g : Nat) (r : Rul) (s : Stt) (u : Value) (h : RuleAt w g r s u) (ok : RulOk r) (v ws cs : Int) (hv : inW v) (hw : ws = 0 ∨ ws = r.slack) (hc : cs = 0 ∨ cs = r.slack) :
    Calls Try.prog 53 #[.pointer (some ⟨g, 0, none⟩), WV v, WV ws, WV cs] w fun e w' => e = .returned (.int .i64 (levelP r v ws cs)) ∧ Below w.heap.size w w' := by
  have k1 := ok.warn
  have k2 := ok.crit
  have k3 := ok.slack
  have iw : inW ws := by unfold inW; omega
  have ic : inW cs := by unfold inW; omega
  have HBc := Aside0.mk (fun W (hR : RuleAt W g r s u) => rule_beyond W g r s u hR v r.crit cs hv (by unfold inW; omega) ic (by unfold inW; omega) (by unfold inW; omega))
  have HBw := Aside0.mk (fun W (hR : RuleAt W g r s u) => rule_beyond W g r s u hR v r.warn ws hv (by unfold inW; omega) iw (by unfold inW; omega) (by unfold inW; omega))
  unfold WV at HBc HBw ⊢
  obtain ⟨va, hva⟩ : ∃ a, a = hiW v := ⟨_, rfl⟩
  obtain ⟨vb, hvb⟩ : ∃ a, a = loW v := ⟨_, rfl⟩
  obtain ⟨wa, hwa⟩ : ∃ a, a = hiW ws := ⟨_, rfl⟩
  obtain ⟨wb, hwb⟩ : ∃ a, a = loW ws := ⟨_, rfl⟩
  obtain ⟨ca, hca⟩ : ∃ a, a = hiW cs := ⟨_, rfl⟩
  obtain ⟨cb, hcb⟩ : ∃ a, a = loW cs := ⟨_, rfl⟩
  rw [← hva, ← hvb, ← hca, ← hcb] at HBc
  rw [← hva, ← hvb, ← hwa, ← hwb] at HBw
  rw [← hva, ← hvb, ← hca, ← hcb, ← hwa, ← hwb]
  obtain ⟨W, hW⟩ : ∃ W, W = ((w.alloc (.cells #[.int .i64 va, .int .u64 vb] 24 (0, 0))).alloc (.cells #[.int .i64 wa, .int .u64 wb] 24 (0, 0))).alloc (.cells #[.int .i64 ca, .int .u64 cb] 24 (0, 0)) := ⟨_, rfl⟩
  obtain ⟨n0, n1, n2, nb, ns⟩ := new3 w (.cells #[.int .i64 va, .int .u64 vb] 24 (0, 0)) (.cells #[.int .i64 wa, .int .u64 wb] 24 (0, 0)) (.cells #[.int .i64 ca, .int .u64 cb] 24 (0, 0))
  rw [← hW] at n0 n1 n2 nb
  have hR := h.below nb
  have q0 := blk_cell n0 0
  have q1 := blk_cell n0 1
  have q2 := blk_cell n1 0
  have q3 := blk_cell n1 1
  have q4 := blk_cell n2 0
  have q5 := blk_cell n2 1
  have r2 : W.cell? ⟨g, 2, none⟩ = some (.int .i64 (hiW r.warn)) := blk_cell hR 2
  have r3 : W.cell? ⟨g, 3, none⟩ = some (.int .u64 (loW r.warn)) := blk_cell hR 3
  have r4 : W.cell? ⟨g, 4, none⟩ = some (.int .i64 (hiW r.crit)) := blk_cell hR 4
  have r5 : W.cell? ⟨g, 5, none⟩ = some (.int .u64 (loW r.crit)) := blk_cell hR 5
  have N0 := Aside0.mk n0
  have N1 := Aside0.mk n1
  have NB := Aside0.mk nb
  have HR := Aside0.mk hR
  have HRd := Aside0.mk (show RuleAt W.drew g r s u from hR)
  have HW := Aside0.mk hW
  obtain ⟨bc, hbc⟩ : ∃ b, b = beyondP r v r.crit cs := ⟨_, rfl⟩
  obtain ⟨bw, hbw⟩ : ∃ b, b = beyondP r v r.warn ws := ⟨_, rfl⟩
  have HP := Aside0.mk (show levelP r v ws cs = if bc then 3 else if bw then 2 else 1 by unfold levelP; rw [hbc, hbw])
  rw [← hbc] at HBc
  rw [← hbw] at HBw
  clear n0 n1 n2 nb ns h hR hva hvb hwa hwb hca hcb hW hbc hbw k1 k2 k3 iw ic hw hc hv ok
  go_enter Try.func53, Try.ntmps53
  go_wp2
  rw [← HW.out]
  go_cut [9] from 10 to 18 (fun v9 wx => v9 = .bool bc ∧ Aside0 (Below W.heap.size W wx))
  case first =>
    have p0 : W.drew.cell? ⟨w.heap.size, 0, none⟩ = some (.int .i64 va) := q0
    have p1 : W.drew.cell? ⟨w.heap.size, 1, none⟩ = some (.int .u64 vb) := q1
    have p4 : W.drew.cell? ⟨w.heap.size + 2, 0, none⟩ = some (.int .i64 ca) := q4
    have p5 : W.drew.cell? ⟨w.heap.size + 2, 1, none⟩ = some (.int .u64 cb) := q5
    have p6 : W.drew.cell? ⟨g, 4, none⟩ = some (.int .i64 (hiW r.crit)) := r4
    have p7 : W.drew.cell? ⟨g, 5, none⟩ = some (.int .u64 (loW r.crit)) := r5
    clear q0 q1 q2 q3 q4 q5 r2 r3 r4 r5
    go_region_with (first
      | (go_at_call 57; (with_reducible refine (HBc.out _ HRd.out).mono ?_); rintro e w1 ⟨rfl, hb1⟩; have HB1 := Aside0.mk (undrew hb1); clear hb1))
    all_goals
      go_wp2_with (fail)
      go_meet
      exact ⟨rfl, HB1⟩
  case rest =>
    obtain ⟨rfl, HB1⟩ := hcut
    have HR1 := Aside0.mk (show RuleAt wc.drew g r s u from (show RuleAt wc g r s u from HR.out.below HB1.out))
    have M0 := (HB1.out.block _ (blk_lt N0.out)).trans N0.out
    have M1 := (HB1.out.block _ (blk_lt N1.out)).trans N1.out
    have HBW := Aside0.mk (hop NB.out HB1.out)
    have HPP := HP
    clear HP HR HRd NB N0 N1 HB1 HBc q0 q1 q2 q3 q4 q5 r2 r3 r4 r5
    cases bc with
    | true =>
      go_wp2
      go_ret
      rw [HPP.out]
      exact ⟨rfl, HBW.out⟩
    | false =>
      go_upto_region 3 with (fail)
      go_cut [19] from 20 to 28 (fun v19 wx => v19 = .bool bw ∧ Aside0 (Below wc.heap.size wc wx))
      case first =>
        have p0 : wc.drew.cell? ⟨w.heap.size, 0, none⟩ = some (.int .i64 va) := blk_cell M0 0
        have p1 : wc.drew.cell? ⟨w.heap.size, 1, none⟩ = some (.int .u64 vb) := blk_cell M0 1
        have p4 : wc.drew.cell? ⟨w.heap.size + 1, 0, none⟩ = some (.int .i64 wa) := blk_cell M1 0
        have p5 : wc.drew.cell? ⟨w.heap.size + 1, 1, none⟩ = some (.int .u64 wb) := blk_cell M1 1
        have p6 : wc.drew.cell? ⟨g, 2, none⟩ = some (.int .i64 (hiW r.warn)) := blk_cell HR1.out 2
        have p7 : wc.drew.cell? ⟨g, 3, none⟩ = some (.int .u64 (loW r.warn)) := blk_cell HR1.out 3
        clear M0 M1
        go_region_with (first
          | (go_at_call 57; (with_reducible refine (HBw.out _ HR1.out).mono ?_); rintro e w2 ⟨rfl, hb2⟩; have HB2 := Aside0.mk (undrew hb2); clear hb2))
        all_goals
          go_wp2_with (fail)
          go_meet
          exact ⟨rfl, HB2⟩
      case rest =>
        obtain ⟨rfl, HB2⟩ := hcut
        have HBX := Aside0.mk (hop HBW.out HB2.out)
        clear HB2 HBW M0 M1
        cases bw with
        | true =>
          go_wp2
          go_ret
          rw [HPP.out]
          exact ⟨rfl, HBX.out⟩
        | false =>
          go_wp2
          go_ret
          rw [HPP.out]
          exact ⟨rfl, HBX.out⟩
end Go.Proofs.Ytadmigijbfdboaa.Q
