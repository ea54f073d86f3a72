import Derived.Test.YtadmigijbfdboaaLTwo
namespace Go.Proofs.Ytadmigijbfdboaa.Q
open Go.RowKit Go.Proofs.YtadmigijbfdboaaW.PrintWords Go.Proofs.YtadmigijbfdboaaW.PrintLast Go.Proofs.YtadmigijbfdboaaW.PrintMore Go.Proofs.YtadmigijbfdboaaV
set_option linter.unusedVariables false
set_option linter.unusedSimpArgs false

/-- The rule turned round. -/
def mirR (r : Rul) : Rul := { r with above := !r.above, warn := negW r.warn, crit := negW r.crit }
theorem mir_in {r : Rul} (h : RulIn r) : RulIn (mirR r) := ⟨inW_neg h.warn, inW_neg h.crit, h.slack⟩
theorem neg_far {x : Int} (h : (x.natAbs : Int) ≤ FAR) : negW x = -x ∧ negE x = 0 := by
  have hf : FAR = 1267650600228229401496703205376 := rfl
  unfold negW negE
  rw [if_neg (by omega), if_neg (by omega)]
  exact ⟨rfl, rfl⟩
theorem mir_may {r : Rul} (h : MayP r) : MayP (mirR r) ∧ negE r.warn = 0 ∧ negE r.crit = 0 ∧ (mirR r).warn = -r.warn ∧ (mirR r).crit = -r.crit := by
  obtain ⟨h1, h2, h3, h4, h5, h6, h7, h8, h9⟩ := h
  obtain ⟨a1, a2⟩ := neg_far h3
  obtain ⟨b1, b2⟩ := neg_far h4
  refine ⟨⟨h1, h2, ?_, ?_, h5, h6, ?_, ?_, h9⟩, a2, b2, a1, b1⟩
  · show ((negW r.warn).natAbs : Int) ≤ FAR
    rw [a1]; omega
  · show ((negW r.crit).natAbs : Int) ≤ FAR
    rw [b1]; omega
  · intro ha
    show negW r.warn ≤ negW r.crit
    rw [a1, b1]
    have := h8 (by cases hx : r.above with | true => (have ha' : (!r.above) = true := ha; rw [hx] at ha'; cases ha') | false => rfl)
    omega
  · intro ha
    show negW r.crit ≤ negW r.warn
    rw [a1, b1]
    have := h7 (by cases hx : r.above with | false => (have ha' : (!r.above) = false := ha; rw [hx] at ha'; cases ha') | true => rfl)
    omega
theorem mir_beyond {r : Rul} {v t t' sl : Int} (ht : t' = -t) : beyondP (mirR r) (-v) t' sl = beyondP r v t sl := by
  subst ht
  unfold beyondP mirR
  cases r.above <;> simp only [Bool.not_true, Bool.not_false, if_true, if_false, Bool.false_eq_true, decide_eq_decide] <;> omega
theorem mir_level {r : Rul} (hw : (mirR r).warn = -r.warn) (hc : (mirR r).crit = -r.crit) (v ws cs : Int) : levelP (mirR r) (-v) ws cs = levelP r v ws cs := by
  unfold levelP
  rw [mir_beyond hc, mir_beyond hw]
theorem mir_step {r : Rul} (hw : (mirR r).warn = -r.warn) (hc : (mirR r).crit = -r.crit) (s : Stt) (at_ : Int) (is : Bool) (v v' : Int) (hv : is = true → v' = -v) : stepP (mirR r) s at_ is v' = stepP r s at_ is v := by
  unfold stepP
  cases is with
  | false => rfl
  | true =>
    rw [if_pos rfl, if_pos rfl, hv rfl, mir_level hw hc]
    rfl
theorem mir_inv {r : Rul} {s : Stt} (h : RInv r s) : RInv (mirR r) s := ⟨h.state, h.said, h.points, h.gaps, h.saidAt, h.last⟩
/-- What the two books say behind one point. -/
theorem mir_feed {r : Rul} {s : Stt} (iv : RInv r s) (ok : RulOk r) (hw : (mirR r).warn = -r.warn) (hc : (mirR r).crit = -r.crit) (g g' : Nat) (at_ : Int) (is : Bool) (v v' : Int) (hv : is = true → v' = -v) :
    ∃ er s', RInv r s' ∧ ((feedP [(g, r, s)] r.name at_ is v = ([], er, [(g, r, s')]) ∧ feedP [(g', mirR r, s)] r.name at_ is v' = ([], er, [(g', mirR r, s')])) ∨
      (∃ (f t : Int) (q : Bool) (x x' : Int), feedP [(g, r, s)] r.name at_ is v = ([⟨r.name, at_, f, t, q, is, x⟩], er, [(g, r, s')]) ∧ feedP [(g', mirR r, s)] r.name at_ is v' = ([⟨r.name, at_, f, t, q, is, x'⟩], er, [(g', mirR r, s')]))) := by
  obtain ⟨l, er, s', hi, h1, h2, hf⟩ := feed_any iv ok at_ is v
  have hf0 := hf [(g, r, s)] 0 g r.name (idxP_one g r s) rfl
  have hm : idxP [(g', mirR r, s)] r.name = some 0 := idxP_one g' (mirR r) s
  refine ⟨er, s', hi, ?_⟩
  by_cases ht : inT at_ ∧ lastP s < at_
  · obtain ⟨e1, e2, e3⟩ := h1 ht
    have hf1 := feedP_ok (r := mirR r) hm rfl ht.1 ht.2 is v'
    rw [mir_step hw hc s at_ is v v' hv] at hf1
    have hs : sayP (mirR r) (stepP r s at_ is v) at_ = sayP r (stepP r s at_ is v) at_ := rfl
    have hsd : saidP (mirR r) (stepP r s at_ is v) at_ = s' := by rw [e3]; rfl
    cases hq : sayP r (stepP r s at_ is v) at_ with
    | none =>
      left
      have l0 : l = [] := by rw [e2]; unfold alertsP; rw [hq]
      refine ⟨by rw [hf0, l0]; rfl, ?_⟩
      rw [hf1, hsd, e1]
      unfold alertsP
      rw [hs, hq]
      rfl
    | some q =>
      right
      refine ⟨(stepP r s at_ is v).said, (stepP r s at_ is v).state, q, if is then v else 0, if is then v' else 0, ?_, ?_⟩
      · rw [hf0, e2]
        unfold alertsP
        rw [hq]
        rfl
      · rw [hf1, hsd, e1]
        unfold alertsP
        rw [hs, hq]
        rfl
  · obtain ⟨e1, e2, e3⟩ := h2 ht
    left
    refine ⟨by rw [hf0, e1]; rfl, ?_⟩
    rw [e2, e3]
    by_cases hT : inT at_
    · rw [if_pos hT]
      exact feedP_past (r := mirR r) hm rfl hT (by by_cases hp : lastP s < at_; exact absurd ⟨hT, hp⟩ ht; omega) is v'
    · rw [if_neg hT]
      exact feedP_bad (r := mirR r) hm rfl hT is v'
theorem any_Feed0 {w : World} {gb : Nat} {A : Option Addr} {c : Nat} {L : List Ent} (h : BookAt w gb gb A c L) (hL : L.length ≤ 1000000) (hok : ∀ x ∈ L, RulOk x.2.1 ∧ RInv x.2.1 x.2.2) {name : ByteArray} {at_ : Int} {is : Bool} {val : Int} (hv : inW val) {er : Int} {L' : List Ent} (hf : feedP L name at_ is val = ([], er, L')) :
    Calls Try.prog 11 #[.pointer (some ⟨gb, 0, none⟩), .string name, .int .i64 at_, .agg #[.bool is, .int .i64 (hiW val), .int .u64 (loW val)]] w fun e w' => ∃ A' c', e = .returned (.tuple #[.slice A' 0 c', .int .i64 er]) ∧ BookAt w' gb gb A c L' ∧ Keep w w' (fun k => ∃ x ∈ L, k = x.1) := by
  refine (any_Feed h hL hok hv hf).mono ?_
  rintro e w' ⟨A', c', rfl, h2, h3, h4, h5⟩
  exact ⟨A', c', rfl, h4, h5⟩
theorem any_Feed1 {w : World} {gb : Nat} {A : Option Addr} {c : Nat} {L : List Ent} (h : BookAt w gb gb A c L) (hL : L.length ≤ 1000000) (hok : ∀ x ∈ L, RulOk x.2.1 ∧ RInv x.2.1 x.2.2) {name : ByteArray} {at_ : Int} {is : Bool} {val : Int} (hv : inW val) {er : Int} {L' : List Ent} {n : ByteArray} {t f u : Int} {q b : Bool} {x : Int} (hf : feedP L name at_ is val = ([⟨n, t, f, u, q, b, x⟩], er, L')) :
    Calls Try.prog 11 #[.pointer (some ⟨gb, 0, none⟩), .string name, .int .i64 at_, .agg #[.bool is, .int .i64 (hiW val), .int .u64 (loW val)]] w fun e w' => ∃ ga c', e = .returned (.tuple #[.slice (some ⟨ga, 0, none⟩) 1 c', .int .i64 er]) ∧ w'.heap[ga]? = some (.cells #[.string n, .int .i64 t, .int .i64 f, .int .i64 u, .bool q, .bool b, .int .i64 (hiW x), .int .u64 (loW x)] 48 (0, 0)) ∧ w.heap.size ≤ ga ∧ BookAt w' gb gb A c L' ∧ Keep w w' (fun k => ∃ x ∈ L, k = x.1) := by
  refine (any_Feed h hL hok hv hf).mono ?_
  rintro e w' ⟨A', c', rfl, h2, h3, h4, h5⟩
  rcases h2 with h2 | ⟨a, ga, e, rfl, hg⟩
  · cases h2
  · injection e with e
    subst e
    exact ⟨ga, c', rfl, hg, h3 _ rfl, h4, h5⟩
theorem neg_ok {v : Int} (h : negE v = 0) (hv : inW v) : negW v = -v := by
  unfold negE at h
  split at h
  · cases h
  · rename_i q; unfold negW; rw [if_neg q]

set_option maxHeartbeats 3200000 in
set_option maxRecDepth 4000 in
theorem law_AlarmSides_not (w : World) {r : Rul} (hin : RulIn r) (hm : ¬ MayP r) (S0 : Option Addr) (c0 n0 : Nat) :
    Calls Try.prog 4 #[.agg (ruleA r), .slice S0 n0 c0] w fun e w' => e = .returned (.bool true) ∧ Below w.heap.size w w' := by
  have HOne := Aside0.mk (fun W => law_one_not W hin hm)
  unfold ruleA at HOne
  have HNw := Aside0.mk (fun W => wide_Neg (x := r.warn) W hin.warn)
  have HNc := Aside0.mk (fun W => wide_Neg (x := r.crit) W hin.crit)
  unfold WV at HNw HNc
  have N0 := Aside0.mk (heap_alloc_new w (.cells #[.string r.name, .bool r.above, .int .i64 (hiW r.warn), .int .u64 (loW r.warn), .int .i64 (hiW r.crit), .int .u64 (loW r.crit), .int .i64 (hiW r.slack), .int .u64 (loW r.slack), .int .i64 r.for_, .int .i64 r.absent, .int .i64 r.again] 26 (0, 0)))
  have hb0 := (Below.refl w.heap.size w).alloc (Nat.le_refl _) (.cells #[.string r.name, .bool r.above, .int .i64 (hiW r.warn), .int .u64 (loW r.warn), .int .i64 (hiW r.crit), .int .u64 (loW r.crit), .int .i64 (hiW r.slack), .int .u64 (loW r.slack), .int .i64 r.for_, .int .i64 r.absent, .int .i64 r.again] 26 (0, 0))
  have HB := Aside0.mk hb0
  have n0 := blk_alloc N0.out (.cells #[.string r.name, .bool r.above, .int .i64 (hiW r.warn), .int .u64 (loW r.warn), .int .i64 (hiW r.crit), .int .u64 (loW r.crit), .int .i64 (hiW r.slack), .int .u64 (loW r.slack), .int .i64 r.for_, .int .i64 r.absent, .int .i64 r.again] 26 (0, 0))
  have n1 := blk_alloc N0.out (.cells #[.string r.name, .bool (!r.above), .int .i64 (hiW r.warn), .int .u64 (loW r.warn), .int .i64 (hiW r.crit), .int .u64 (loW r.crit), .int .i64 (hiW r.slack), .int .u64 (loW r.slack), .int .i64 r.for_, .int .i64 r.absent, .int .i64 r.again] 26 (0, 0))
  have n3 := heap_alloc2_new w (.cells #[.string r.name, .bool r.above, .int .i64 (hiW r.warn), .int .u64 (loW r.warn), .int .i64 (hiW r.crit), .int .u64 (loW r.crit), .int .i64 (hiW r.slack), .int .u64 (loW r.slack), .int .i64 r.for_, .int .i64 r.absent, .int .i64 r.again] 26 (0, 0)) (.cells #[.string r.name, .bool (!r.above), .int .i64 (hiW r.warn), .int .u64 (loW r.warn), .int .i64 (hiW r.crit), .int .u64 (loW r.crit), .int .i64 (hiW r.slack), .int .u64 (loW r.slack), .int .i64 r.for_, .int .i64 r.absent, .int .i64 r.again] 26 (0, 0))
  have x0 := blk_cell N0.out 0
  have x1 := blk_cell N0.out 1
  have x2 := blk_cell N0.out 2
  have x3 := blk_cell N0.out 3
  have x4 := blk_cell N0.out 4
  have x5 := blk_cell N0.out 5
  have x6 := blk_cell N0.out 6
  have x7 := blk_cell N0.out 7
  have x8 := blk_cell N0.out 8
  have x9 := blk_cell N0.out 9
  have x10 := blk_cell N0.out 10
  have y1 := blk_cell n0 1
  unfold ruleA
  go_enter Try.func4, Try.ntmps4
  go_upto_region 5 with (first
    | (go_at_call 14; (with_reducible refine (HNw.out _).mono ?_); rintro e w1 ⟨rfl, hb⟩; have M1 := Aside0.mk ((hb.block _ (blk_lt n3)).trans n3); have hN := (hb.block _ (blk_lt n1)).trans n1; have N1 := Aside0.mk hN; have hN2 := blk_alloc hN (.cells #[.int .i64 (hiW (negW r.warn)), .int .u64 (loW (negW r.warn))] 24 (0, 0)); have k4 := blk_cell hN2 4; have k5 := blk_cell hN2 5; have HB1 := Aside0.mk (hop (hb0.alloc hb0.size _) hb); clear hb hN hN2)
    | (go_at_call 14; (with_reducible refine (HNc.out _).mono ?_); rintro e w2 ⟨rfl, hb⟩; have M2 := Aside0.mk (blk_alloc ((hb.block _ (blk_lt (blk_alloc M1.out (.cells #[.int .i64 (hiW (negW r.warn)), .int .u64 (loW (negW r.warn))] 24 (0, 0))))).trans (blk_alloc M1.out (.cells #[.int .i64 (hiW (negW r.warn)), .int .u64 (loW (negW r.warn))] 24 (0, 0)))) (.cells #[.int .i64 (hiW (negW r.crit)), .int .u64 (loW (negW r.crit))] 24 (0, 0))); have N2 := Aside0.mk (blk_alloc ((hb.block _ (blk_lt (blk_alloc N1.out (.cells #[.int .i64 (hiW (negW r.warn)), .int .u64 (loW (negW r.warn))] 24 (0, 0))))).trans (blk_alloc N1.out (.cells #[.int .i64 (hiW (negW r.warn)), .int .u64 (loW (negW r.warn))] 24 (0, 0)))) (.cells #[.int .i64 (hiW (negW r.crit)), .int .u64 (loW (negW r.crit))] 24 (0, 0))); have T6 := Aside0.mk (blk_alloc ((hb.block w1.heap.size (by simp)).trans (heap_alloc_new w1 (.cells #[.int .i64 (hiW (negW r.warn)), .int .u64 (loW (negW r.warn))] 24 (0, 0)))) (.cells #[.int .i64 (hiW (negW r.crit)), .int .u64 (loW (negW r.crit))] 24 (0, 0))); have HB2 := Aside0.mk ((hop (HB1.out.alloc HB1.out.size (.cells #[.int .i64 (hiW (negW r.warn)), .int .u64 (loW (negW r.warn))] 24 (0, 0))) hb).alloc (hop (HB1.out.alloc HB1.out.size (.cells #[.int .i64 (hiW (negW r.warn)), .int .u64 (loW (negW r.warn))] 24 (0, 0))) hb).size (.cells #[.int .i64 (hiW (negW r.crit)), .int .u64 (loW (negW r.crit))] 24 (0, 0))); clear hb))
  go_cut [] from 47 to 51 (fun wx => Aside0 (wx.heap[w.heap.size + 1]? = some (.cells #[.string r.name, .bool (!r.above), .int .i64 (hiW (negW r.warn)), .int .u64 (loW (negW r.warn)), .int .i64 (hiW (negW r.crit)), .int .u64 (loW (negW r.crit)), .int .i64 (hiW r.slack), .int .u64 (loW r.slack), .int .i64 r.for_, .int .i64 r.absent, .int .i64 r.again] 26 (0, 0))) ∧ Aside0 (wx.heap[w.heap.size]? = some (.cells #[.string r.name, .bool r.above, .int .i64 (hiW r.warn), .int .u64 (loW r.warn), .int .i64 (hiW r.crit), .int .u64 (loW r.crit), .int .i64 (hiW r.slack), .int .u64 (loW r.slack), .int .i64 r.for_, .int .i64 r.absent, .int .i64 r.again] 26 (0, 0))) ∧ Aside0 (Below w.heap.size w wx))
  case first =>
    have t0 : (w2.alloc (.cells #[.int .i64 (hiW (negW r.crit)), .int .u64 (loW (negW r.crit))] 24 (0, 0))).cell? ⟨w1.heap.size, 0, none⟩ = _ := blk_cell T6.out 0
    have t1 : (w2.alloc (.cells #[.int .i64 (hiW (negW r.crit)), .int .u64 (loW (negW r.crit))] 24 (0, 0))).cell? ⟨w1.heap.size, 1, none⟩ = _ := blk_cell T6.out 1
    have t2 : (w2.alloc (.cells #[.int .i64 (hiW (negW r.crit)), .int .u64 (loW (negW r.crit))] 24 (0, 0))).cell? ⟨w2.heap.size, 0, none⟩ = _ := blk_cell (heap_alloc_new w2 (.cells #[.int .i64 (hiW (negW r.crit)), .int .u64 (loW (negW r.crit))] 24 (0, 0))) 0
    have t3 : (w2.alloc (.cells #[.int .i64 (hiW (negW r.crit)), .int .u64 (loW (negW r.crit))] 24 (0, 0))).cell? ⟨w2.heap.size, 1, none⟩ = _ := blk_cell (heap_alloc_new w2 (.cells #[.int .i64 (hiW (negW r.crit)), .int .u64 (loW (negW r.crit))] 24 (0, 0))) 1
    have hM : (w2.alloc (.cells #[.int .i64 (hiW (negW r.crit)), .int .u64 (loW (negW r.crit))] 24 (0, 0))).heap[w.heap.size + 1]? = _ := M2.out
    have a2 := blk_put hM 2 (.int .i64 (hiW (negW r.warn))) rfl
    have a3 := blk_put a2 3 (.int .u64 (loW (negW r.warn))) rfl
    have a4 := blk_put a3 4 (.int .i64 (hiW (negW r.crit))) rfl
    have a5 := blk_put a4 5 (.int .u64 (loW (negW r.crit))) rfl
    have b4 := blk_put hM 4 (.int .i64 (hiW (negW r.crit))) rfl
    have b5 := blk_put b4 5 (.int .u64 (loW (negW r.crit))) rfl
    have b2 := blk_put b5 2 (.int .i64 (hiW (negW r.warn))) rfl
    have b3 := blk_put b2 3 (.int .u64 (loW (negW r.warn))) rfl
    have p1 := blk_cell hM 2
    have p2 := blk_frozen hM 2
    have p3 := blk_cell a2 3
    have p4 := blk_frozen a2 3
    have p5 := blk_cell a3 4
    have p6 := blk_frozen a3 4
    have p7 := blk_cell a4 5
    have p8 := blk_frozen a4 5
    have z3 := blk_cell hM 3
    have z4 := blk_frozen hM 3
    have z5 := blk_cell hM 5
    have z6 := blk_frozen hM 5
    have q1 := blk_cell hM 4
    have q2 := blk_frozen hM 4
    have q3 := blk_cell b4 5
    have q4 := blk_frozen b4 5
    have q5 := blk_cell b5 2
    have q6 := blk_frozen b5 2
    have q7 := blk_cell b2 3
    have q8 := blk_frozen b2 3
    have HA5 := Aside0.mk a5
    have HB5 := Aside0.mk b3
    have hne : w.heap.size ≠ w.heap.size + 1 := by omega
    have HS := Aside0.mk (fun (v2 v3 v4 v5 : Value) (i2 i3 i4 i5 : Nat) => (((((Keep.refl (w2.alloc (.cells #[.int .i64 (hiW (negW r.crit)), .int .u64 (loW (negW r.crit))] 24 (0, 0))) (fun k => k = w.heap.size + 1)).set ⟨w.heap.size + 1, i2, none⟩ v2 (.inl rfl)).set ⟨w.heap.size + 1, i3, none⟩ v3 (.inl rfl)).set ⟨w.heap.size + 1, i4, none⟩ v4 (.inl rfl)).set ⟨w.heap.size + 1, i5, none⟩ v5 (.inl rfl)))
    have HBd := HB2
    have ND : (w2.alloc (.cells #[.int .i64 (hiW (negW r.crit)), .int .u64 (loW (negW r.crit))] 24 (0, 0))).heap[w.heap.size]? = _ := N2.out
    have HND := Aside0.mk ND
    clear hM a2 a3 a4 a5 b2 b3 b4 b5 ND
    go_region
    all_goals
      go_wp2_with (fail)
      go_meet
      first
        | exact ⟨⟨HA5.out⟩, ⟨((HS.out _ _ _ _ 2 3 4 5).block _ (blk_lt HND.out) hne).trans HND.out⟩, ⟨(HBd.out.trans ((HS.out _ _ _ _ 2 3 4 5).below HBd.out.size (fun k hk => by have hk' : k = w.heap.size + 1 := hk; omega))).drew⟩⟩
        | exact ⟨⟨HB5.out⟩, ⟨((HS.out _ _ _ _ 4 5 2 3).block _ (blk_lt HND.out) hne).trans HND.out⟩, ⟨(HBd.out.trans ((HS.out _ _ _ _ 4 5 2 3).below HBd.out.size (fun k hk => by have hk' : k = w.heap.size + 1 := hk; omega))).drew⟩⟩
  case rest =>
    obtain ⟨H5, N0, HB⟩ := hcut
    have u0 := blk_cell N0.out 0
    have u1 := blk_cell N0.out 1
    have u2 := blk_cell N0.out 2
    have u3 := blk_cell N0.out 3
    have u4 := blk_cell N0.out 4
    have u5 := blk_cell N0.out 5
    have u6 := blk_cell N0.out 6
    have u7 := blk_cell N0.out 7
    have u8 := blk_cell N0.out 8
    have u9 := blk_cell N0.out 9
    have u10 := blk_cell N0.out 10
    go_wp2_with (first
      | (go_at_call 9; (with_reducible refine (HOne.out _).mono ?_); rintro e w3 ⟨hb, rfl⟩; have HB3 := Aside0.mk (hop HB.out hb); clear hb)
      | (go_at_call 10; (with_reducible refine (law_alive _).mono ?_); rintro e w4 ⟨rfl, hb⟩; have HB4 := Aside0.mk (hop HB3.out hb); clear hb))
    go_ret
    exact ⟨rfl, HB4.out⟩

set_option maxHeartbeats 12800000 in
set_option maxRecDepth 4000 in
theorem law_AlarmSides_may (w : World) {r : Rul} (hin : RulIn r) (hm : MayP r) {S0 : Option Addr} {c0 : Nat} {os : List OpR} (hC : Kd.C kOp w S0 os.length os) (hos : ∀ o ∈ os, inW o.val) :
    Calls Try.prog 4 #[.agg (ruleA r), .slice S0 os.length c0] w fun e w' => e = .returned (.bool true) ∧ Below w.heap.size w w' := by
  obtain ⟨hm2, hE1, hE2, hM1, hM2⟩ := mir_may hm
  have HOne := Aside0.mk (fun W => law_one_may W hin hm)
  have HOne2 := Aside0.mk (show ∀ W : World, Calls Try.prog 9 #[.agg #[.string r.name, .bool (!r.above), .int .i64 (hiW (negW r.warn)), .int .u64 (loW (negW r.warn)), .int .i64 (hiW (negW r.crit)), .int .u64 (loW (negW r.crit)), .int .i64 (hiW r.slack), .int .u64 (loW r.slack), .int .i64 r.for_, .int .i64 r.absent, .int .i64 r.again]] W (fun e w' => ∃ gb A c g, Below W.heap.size W w' ∧ W.heap.size ≤ gb ∧ gb ≤ g ∧ e = .returned (.tuple #[.pointer (some ⟨gb, 0, none⟩), .bool true, .bool true]) ∧ BookAt w' gb gb A c [(g, mirR r, stt0)]) from fun W => law_one_may W (mir_in hin) hm2)
  have HW1 := Aside0.mk hM1
  have HW2 := Aside0.mk hM2
  have HOK := Aside0.mk hm.ok
  have HOK2 := Aside0.mk hm2.ok
  have HC := Aside0.mk hC
  have HOS := Aside0.mk hos
  have hlen := hC.2.1
  unfold ruleA at HOne
  have HNw := Aside0.mk (fun W => wide_Neg (x := r.warn) W hin.warn)
  have HNc := Aside0.mk (fun W => wide_Neg (x := r.crit) W hin.crit)
  unfold WV at HNw HNc
  have N0 := Aside0.mk (heap_alloc_new w (.cells #[.string r.name, .bool r.above, .int .i64 (hiW r.warn), .int .u64 (loW r.warn), .int .i64 (hiW r.crit), .int .u64 (loW r.crit), .int .i64 (hiW r.slack), .int .u64 (loW r.slack), .int .i64 r.for_, .int .i64 r.absent, .int .i64 r.again] 26 (0, 0)))
  have hb0 := (Below.refl w.heap.size w).alloc (Nat.le_refl _) (.cells #[.string r.name, .bool r.above, .int .i64 (hiW r.warn), .int .u64 (loW r.warn), .int .i64 (hiW r.crit), .int .u64 (loW r.crit), .int .i64 (hiW r.slack), .int .u64 (loW r.slack), .int .i64 r.for_, .int .i64 r.absent, .int .i64 r.again] 26 (0, 0))
  have HB := Aside0.mk hb0
  have n0 := blk_alloc N0.out (.cells #[.string r.name, .bool r.above, .int .i64 (hiW r.warn), .int .u64 (loW r.warn), .int .i64 (hiW r.crit), .int .u64 (loW r.crit), .int .i64 (hiW r.slack), .int .u64 (loW r.slack), .int .i64 r.for_, .int .i64 r.absent, .int .i64 r.again] 26 (0, 0))
  have n1 := blk_alloc N0.out (.cells #[.string r.name, .bool (!r.above), .int .i64 (hiW r.warn), .int .u64 (loW r.warn), .int .i64 (hiW r.crit), .int .u64 (loW r.crit), .int .i64 (hiW r.slack), .int .u64 (loW r.slack), .int .i64 r.for_, .int .i64 r.absent, .int .i64 r.again] 26 (0, 0))
  have n3 := heap_alloc2_new w (.cells #[.string r.name, .bool r.above, .int .i64 (hiW r.warn), .int .u64 (loW r.warn), .int .i64 (hiW r.crit), .int .u64 (loW r.crit), .int .i64 (hiW r.slack), .int .u64 (loW r.slack), .int .i64 r.for_, .int .i64 r.absent, .int .i64 r.again] 26 (0, 0)) (.cells #[.string r.name, .bool (!r.above), .int .i64 (hiW r.warn), .int .u64 (loW r.warn), .int .i64 (hiW r.crit), .int .u64 (loW r.crit), .int .i64 (hiW r.slack), .int .u64 (loW r.slack), .int .i64 r.for_, .int .i64 r.absent, .int .i64 r.again] 26 (0, 0))
  have x0 := blk_cell N0.out 0
  have x1 := blk_cell N0.out 1
  have x2 := blk_cell N0.out 2
  have x3 := blk_cell N0.out 3
  have x4 := blk_cell N0.out 4
  have x5 := blk_cell N0.out 5
  have x6 := blk_cell N0.out 6
  have x7 := blk_cell N0.out 7
  have x8 := blk_cell N0.out 8
  have x9 := blk_cell N0.out 9
  have x10 := blk_cell N0.out 10
  have y1 := blk_cell n0 1
  rw [hE1] at HNw
  rw [hE2] at HNc
  clear hm hm2 hin hC hos hE1 hE2 hM1 hM2
  unfold ruleA
  go_enter Try.func4, Try.ntmps4
  go_upto_region 5 with (first
    | (go_at_call 14; (with_reducible refine (HNw.out _).mono ?_); rintro e w1 ⟨rfl, hb⟩; have M1 := Aside0.mk ((hb.block _ (blk_lt n3)).trans n3); have hN := (hb.block _ (blk_lt n1)).trans n1; have N1 := Aside0.mk hN; have hN2 := blk_alloc hN (.cells #[.int .i64 (hiW (negW r.warn)), .int .u64 (loW (negW r.warn))] 24 (0, 0)); have k4 := blk_cell hN2 4; have k5 := blk_cell hN2 5; have HB1 := Aside0.mk (hop (hb0.alloc hb0.size _) hb); clear hb hN hN2)
    | (go_at_call 14; (with_reducible refine (HNc.out _).mono ?_); rintro e w2 ⟨rfl, hb⟩; have M2 := Aside0.mk (blk_alloc ((hb.block _ (blk_lt (blk_alloc M1.out (.cells #[.int .i64 (hiW (negW r.warn)), .int .u64 (loW (negW r.warn))] 24 (0, 0))))).trans (blk_alloc M1.out (.cells #[.int .i64 (hiW (negW r.warn)), .int .u64 (loW (negW r.warn))] 24 (0, 0)))) (.cells #[.int .i64 (hiW (negW r.crit)), .int .u64 (loW (negW r.crit))] 24 (0, 0))); have N2 := Aside0.mk (blk_alloc ((hb.block _ (blk_lt (blk_alloc N1.out (.cells #[.int .i64 (hiW (negW r.warn)), .int .u64 (loW (negW r.warn))] 24 (0, 0))))).trans (blk_alloc N1.out (.cells #[.int .i64 (hiW (negW r.warn)), .int .u64 (loW (negW r.warn))] 24 (0, 0)))) (.cells #[.int .i64 (hiW (negW r.crit)), .int .u64 (loW (negW r.crit))] 24 (0, 0))); have T6 := Aside0.mk (blk_alloc ((hb.block w1.heap.size (by simp)).trans (heap_alloc_new w1 (.cells #[.int .i64 (hiW (negW r.warn)), .int .u64 (loW (negW r.warn))] 24 (0, 0)))) (.cells #[.int .i64 (hiW (negW r.crit)), .int .u64 (loW (negW r.crit))] 24 (0, 0))); have HB2 := Aside0.mk ((hop (HB1.out.alloc HB1.out.size (.cells #[.int .i64 (hiW (negW r.warn)), .int .u64 (loW (negW r.warn))] 24 (0, 0))) hb).alloc (hop (HB1.out.alloc HB1.out.size (.cells #[.int .i64 (hiW (negW r.warn)), .int .u64 (loW (negW r.warn))] 24 (0, 0))) hb).size (.cells #[.int .i64 (hiW (negW r.crit)), .int .u64 (loW (negW r.crit))] 24 (0, 0))); clear hb))
  go_cut [] from 47 to 51 (fun wx => Aside0 (wx.heap[w.heap.size + 1]? = some (.cells #[.string r.name, .bool (!r.above), .int .i64 (hiW (negW r.warn)), .int .u64 (loW (negW r.warn)), .int .i64 (hiW (negW r.crit)), .int .u64 (loW (negW r.crit)), .int .i64 (hiW r.slack), .int .u64 (loW r.slack), .int .i64 r.for_, .int .i64 r.absent, .int .i64 r.again] 26 (0, 0))) ∧ Aside0 (wx.heap[w.heap.size]? = some (.cells #[.string r.name, .bool r.above, .int .i64 (hiW r.warn), .int .u64 (loW r.warn), .int .i64 (hiW r.crit), .int .u64 (loW r.crit), .int .i64 (hiW r.slack), .int .u64 (loW r.slack), .int .i64 r.for_, .int .i64 r.absent, .int .i64 r.again] 26 (0, 0))) ∧ Aside0 (Below w.heap.size w wx))
  case first =>
    have t0 : (w2.alloc (.cells #[.int .i64 (hiW (negW r.crit)), .int .u64 (loW (negW r.crit))] 24 (0, 0))).cell? ⟨w1.heap.size, 0, none⟩ = _ := blk_cell T6.out 0
    have t1 : (w2.alloc (.cells #[.int .i64 (hiW (negW r.crit)), .int .u64 (loW (negW r.crit))] 24 (0, 0))).cell? ⟨w1.heap.size, 1, none⟩ = _ := blk_cell T6.out 1
    have t2 : (w2.alloc (.cells #[.int .i64 (hiW (negW r.crit)), .int .u64 (loW (negW r.crit))] 24 (0, 0))).cell? ⟨w2.heap.size, 0, none⟩ = _ := blk_cell (heap_alloc_new w2 (.cells #[.int .i64 (hiW (negW r.crit)), .int .u64 (loW (negW r.crit))] 24 (0, 0))) 0
    have t3 : (w2.alloc (.cells #[.int .i64 (hiW (negW r.crit)), .int .u64 (loW (negW r.crit))] 24 (0, 0))).cell? ⟨w2.heap.size, 1, none⟩ = _ := blk_cell (heap_alloc_new w2 (.cells #[.int .i64 (hiW (negW r.crit)), .int .u64 (loW (negW r.crit))] 24 (0, 0))) 1
    have hM : (w2.alloc (.cells #[.int .i64 (hiW (negW r.crit)), .int .u64 (loW (negW r.crit))] 24 (0, 0))).heap[w.heap.size + 1]? = _ := M2.out
    have a2 := blk_put hM 2 (.int .i64 (hiW (negW r.warn))) rfl
    have a3 := blk_put a2 3 (.int .u64 (loW (negW r.warn))) rfl
    have a4 := blk_put a3 4 (.int .i64 (hiW (negW r.crit))) rfl
    have a5 := blk_put a4 5 (.int .u64 (loW (negW r.crit))) rfl
    have b4 := blk_put hM 4 (.int .i64 (hiW (negW r.crit))) rfl
    have b5 := blk_put b4 5 (.int .u64 (loW (negW r.crit))) rfl
    have b2 := blk_put b5 2 (.int .i64 (hiW (negW r.warn))) rfl
    have b3 := blk_put b2 3 (.int .u64 (loW (negW r.warn))) rfl
    have p1 := blk_cell hM 2
    have p2 := blk_frozen hM 2
    have p3 := blk_cell a2 3
    have p4 := blk_frozen a2 3
    have p5 := blk_cell a3 4
    have p6 := blk_frozen a3 4
    have p7 := blk_cell a4 5
    have p8 := blk_frozen a4 5
    have z3 := blk_cell hM 3
    have z4 := blk_frozen hM 3
    have z5 := blk_cell hM 5
    have z6 := blk_frozen hM 5
    have q1 := blk_cell hM 4
    have q2 := blk_frozen hM 4
    have q3 := blk_cell b4 5
    have q4 := blk_frozen b4 5
    have q5 := blk_cell b5 2
    have q6 := blk_frozen b5 2
    have q7 := blk_cell b2 3
    have q8 := blk_frozen b2 3
    have HA5 := Aside0.mk a5
    have HB5 := Aside0.mk b3
    have hne : w.heap.size ≠ w.heap.size + 1 := by omega
    have HS := Aside0.mk (fun (v2 v3 v4 v5 : Value) (i2 i3 i4 i5 : Nat) => (((((Keep.refl (w2.alloc (.cells #[.int .i64 (hiW (negW r.crit)), .int .u64 (loW (negW r.crit))] 24 (0, 0))) (fun k => k = w.heap.size + 1)).set ⟨w.heap.size + 1, i2, none⟩ v2 (.inl rfl)).set ⟨w.heap.size + 1, i3, none⟩ v3 (.inl rfl)).set ⟨w.heap.size + 1, i4, none⟩ v4 (.inl rfl)).set ⟨w.heap.size + 1, i5, none⟩ v5 (.inl rfl)))
    have HBd := HB2
    have ND : (w2.alloc (.cells #[.int .i64 (hiW (negW r.crit)), .int .u64 (loW (negW r.crit))] 24 (0, 0))).heap[w.heap.size]? = _ := N2.out
    have HND := Aside0.mk ND
    clear hM a2 a3 a4 a5 b2 b3 b4 b5 ND
    go_region
    all_goals
      go_wp2_with (fail)
      go_meet
      first
        | exact ⟨⟨HA5.out⟩, ⟨((HS.out _ _ _ _ 2 3 4 5).block _ (blk_lt HND.out) hne).trans HND.out⟩, ⟨(HBd.out.trans ((HS.out _ _ _ _ 2 3 4 5).below HBd.out.size (fun k hk => by have hk' : k = w.heap.size + 1 := hk; omega))).drew⟩⟩
        | exact ⟨⟨HB5.out⟩, ⟨((HS.out _ _ _ _ 4 5 2 3).block _ (blk_lt HND.out) hne).trans HND.out⟩, ⟨(HBd.out.trans ((HS.out _ _ _ _ 4 5 2 3).below HBd.out.size (fun k hk => by have hk' : k = w.heap.size + 1 := hk; omega))).drew⟩⟩
  case rest =>
    obtain ⟨H5, N0, HB⟩ := hcut
    have u0 := blk_cell N0.out 0
    have u1 := blk_cell N0.out 1
    have u2 := blk_cell N0.out 2
    have u3 := blk_cell N0.out 3
    have u4 := blk_cell N0.out 4
    have u5 := blk_cell N0.out 5
    have u6 := blk_cell N0.out 6
    have u7 := blk_cell N0.out 7
    have u8 := blk_cell N0.out 8
    have u9 := blk_cell N0.out 9
    have u10 := blk_cell N0.out 10
    go_wp2_with (first
      | (go_at_call 9; (with_reducible refine (HOne.out _).mono ?_); rintro e w3 ⟨gb1, A1, c1, g1, hb, hgb1, hg1, rfl, hbk⟩; have HB3 := Aside0.mk (hop HB.out hb); have hlo : w.heap.size + 1 < g1 := (by have := blk_lt H5.out; omega); have HK1 := Aside0.mk hbk; have hg1l := blk_lt (hbk.rules (g1, r, stt0) (List.mem_cons_self ..)).1; have N03 := Aside0.mk ((hb.block _ (blk_lt N0.out)).trans N0.out); have h53 := (hb.block _ (blk_lt H5.out)).trans H5.out; have v0 := blk_cell h53 0; have v1 := blk_cell h53 1; have v2 := blk_cell h53 2; have v3 := blk_cell h53 3; have v4 := blk_cell h53 4; have v5 := blk_cell h53 5; have v6 := blk_cell h53 6; have v7 := blk_cell h53 7; have v8 := blk_cell h53 8; have v9 := blk_cell h53 9; have v10 := blk_cell h53 10; clear hb hbk h53)
      | (go_at_call 9; (with_reducible refine (HOne2.out _).mono ?_); rintro e w4 ⟨gb2, A2, c2, g2, hb, hgb2, hg2, rfl, hbk⟩; have HB4 := Aside0.mk (hop HB3.out hb); have HK2 := Aside0.mk hbk; have HK1_ := Aside0.mk (HK1.out.quiet (below_keep hb)); have N04 := Aside0.mk ((hb.block _ (blk_lt N03.out)).trans N03.out); have g21 : g2 ≠ g1 := (by omega); have hlo2 : w.heap.size + 1 < g2 := (by omega); clear hb hbk HK1; have HK1 := HK1_; clear HK1_))
    clear u0 u1 u2 u3 u4 u5 u6 u7 u8 u9 u10 v0 v1 v2 v3 v4 v5 v6 v7 v8 v9 v10 H5 HOne HOne2
    clear hgb1 hg1 hgb2 hg2 hg1l
    go_loopg [16] os.length (fun kq v16 w' => ∃ (i : Nat) (s : Stt), v16 = .int .i64 i ∧ i + kq = os.length ∧ Aside0 (BookAt w' gb1 gb1 A1 c1 [(g1, r, s)]) ∧ Aside0 (BookAt w' gb2 gb2 A2 c2 [(g2, mirR r, s)]) ∧ Aside0 (RInv r s) ∧ Aside0 (Below w.heap.size w w') ∧ Aside0 (w'.heap[w.heap.size]? = some (.cells #[.string r.name, .bool r.above, .int .i64 (hiW r.warn), .int .u64 (loW r.warn), .int .i64 (hiW r.crit), .int .u64 (loW r.crit), .int .i64 (hiW r.slack), .int .u64 (loW r.slack), .int .i64 r.for_, .int .i64 r.absent, .int .i64 r.again] 26 (0, 0))))
    case atStart => exact ⟨0, stt0, rfl, by omega, HK1, HK2, ⟨stt0_inv HOK.out⟩, HB4, N04⟩
    case round =>
      clear HK1 HK2 HB3 HB4 N03 N04 HB N0
      obtain ⟨i, s, rfl, hik, HK1, HK2, HI, HB, N0⟩ := hrel
      have u0 := blk_cell N0.out 0
      cases gk with
      | zero =>
        have d1 : decide (i < os.length) = false := decide_eq_false (by omega)
        have d2 : decide (1 ≤ s.state) = true := decide_eq_true HI.out.state.1
        have hid2 : idxP [(g2, mirR r, s)] r.name = some 0 := idxP_one g2 (mirR r) s
        go_wp2_with (first
          | (go_at_call 12; (with_reducible refine (any_State HK1.out (by simp) (idxP_one g1 r s) rfl).mono ?_); rintro e w' ⟨rfl, rfl⟩)
          | (go_at_call 12; (with_reducible refine (any_State HK2.out (by simp) hid2 rfl).mono ?_); rintro e w' ⟨rfl, rfl⟩)
          | (go_at_call 10; (with_reducible refine (law_alive _).mono ?_); rintro e w9 ⟨rfl, hb⟩; have HB9 := Aside0.mk (hop HB.out hb); clear hb))
        go_ret
        exact ⟨rfl, HB9.out⟩
      | succ k1 =>
        have hlt : i < os.length := by omega
        have d1 : decide (i < os.length) = true := decide_eq_true hlt
        obtain ⟨o, ho⟩ : ∃ o, os[i]? = some o := ⟨os[i], List.getElem?_eq_getElem hlt⟩
        have hov := HOS.out o (List.mem_of_getElem? ho)
        obtain ⟨ad, rfl, x0, x1, x2, x3, x4, x5⟩ := at_Op (Kd.C_below HC.out HB.out) i o ho
        obtain ⟨kd, nm, at_, is, val⟩ := o
        have hov' : inW val := hov
        have HV := Aside0.mk hov'
        have hr1 : g1 < wr.heap.size := blk_lt (HK1.out.rules (g1, r, s) (List.mem_cons_self ..)).1
        have hr2 : g2 < wr.heap.size := blk_lt (HK2.out.rules (g2, mirR r, s) (List.mem_cons_self ..)).1
        have hr5 : w.heap.size < wr.heap.size := blk_lt N0.out
        clear ho hov hov'
        cases is with
        | false =>
          have o3 := blk_cell (blk_alloc (heap_alloc_new wr (.cells #[.int .i64 kd, .string nm, .int .i64 at_, .bool false, .int .i64 (hiW val), .int .u64 (loW val)] 39 (0, 0))) (.cells #[.bool false, .int .i64 (hiW val), .int .u64 (loW val)] 37 (0, 0))) 3
          have hbE : Below wr.heap.size wr ((wr.alloc (.cells #[.int .i64 kd, .string nm, .int .i64 at_, .bool false, .int .i64 (hiW val), .int .u64 (loW val)] 39 (0, 0))).alloc (.cells #[.bool false, .int .i64 (hiW val), .int .u64 (loW val)] 37 (0, 0))) := ((Below.refl wr.heap.size wr).alloc (Nat.le_refl _) (.cells #[.int .i64 kd, .string nm, .int .i64 at_, .bool false, .int .i64 (hiW val), .int .u64 (loW val)] 39 (0, 0))).alloc (by simp) (.cells #[.bool false, .int .i64 (hiW val), .int .u64 (loW val)] 37 (0, 0))
          have HK1_ := Aside0.mk (HK1.out.quiet (below_keep hbE))
          have HK2_ := Aside0.mk (HK2.out.quiet (below_keep hbE))
          have HB_ := Aside0.mk (hop HB.out hbE)
          have N0_ := Aside0.mk ((hbE.block _ (blk_lt N0.out)).trans N0.out)
          have O1 := Aside0.mk (blk_alloc (heap_alloc_new wr (.cells #[.int .i64 kd, .string nm, .int .i64 at_, .bool false, .int .i64 (hiW val), .int .u64 (loW val)] 39 (0, 0))) (.cells #[.bool false, .int .i64 (hiW val), .int .u64 (loW val)] 37 (0, 0)))
          have D1 := Aside0.mk (heap_alloc2_new wr (.cells #[.int .i64 kd, .string nm, .int .i64 at_, .bool false, .int .i64 (hiW val), .int .u64 (loW val)] 39 (0, 0)) (.cells #[.bool false, .int .i64 (hiW val), .int .u64 (loW val)] 37 (0, 0)))
          clear HK1 HK2 HB N0 hbE
          have HK1 := HK1_
          have HK2 := HK2_
          have HB := HB_
          have N0 := N0_
          clear HK1_ HK2_ HB_ N0_
          have HV2 := HV
          have u0 := blk_cell N0.out 0
          have o2 := blk_cell O1.out 2
          have o3 := blk_cell O1.out 3
          have o4 := blk_cell O1.out 4
          have o5 := blk_cell O1.out 5
          have HO1 := Aside0.mk (show ∀ x ∈ [(g1, r, s)], RulOk x.2.1 ∧ RInv x.2.1 x.2.2 from ok1 ⟨HOK.out, HI.out⟩)
          have HO2 := Aside0.mk (show ∀ x ∈ [(g2, mirR r, s)], RulOk x.2.1 ∧ RInv x.2.1 x.2.2 from ok1 ⟨HOK2.out, mir_inv HI.out⟩)
          obtain ⟨er, s', hi', hmf⟩ := mir_feed HI.out HOK.out HW1.out HW2.out g1 g2 at_ false val val (fun h => by cases h)
          have HI' := Aside0.mk hi'
          clear hi'
          rcases hmf with ⟨hf1, hf2⟩ | ⟨f, t, q, x, x', hf1, hf2⟩
          · have HF1 := Aside0.mk hf1
            have HF2 := Aside0.mk hf2
            clear hf1 hf2
            (try clear hneg)
            go_wp2_with (first
              | (go_at_call 11; (with_reducible refine (any_Feed0 HK1.out (by simp) HO1.out HV.out HF1.out).mono ?_); rintro e w5 ⟨A5, c5, rfl, hbk, hk⟩; have N0_ := Aside0.mk ((hk.block _ (blk_lt N0.out) (nS1 (by omega))).trans N0.out); have O_ := Aside0.mk ((hk.block _ (blk_lt O1.out) (nS1 (by omega))).trans O1.out); have D_ := Aside0.mk ((hk.block _ (blk_lt D1.out) (nS1 (by omega))).trans D1.out); have HB_ := Aside0.mk (HB.out.trans (hk.below HB.out.size (ge1 (by omega)))); have oth_ := Aside0.mk (HK2.out.beside HK1.out hk (ne11 g21)); have new_ := Aside0.mk hbk; clear HK1 HK2 N0 O1 D1 HB hk hbk; have N0 := N0_; have O1 := O_; have D1 := D_; have HB := HB_; have HK1 := new_; have HK2 := oth_; clear N0_ O_ D_ HB_ oth_ new_; have u0 := blk_cell N0.out 0; have o2 := blk_cell O1.out 2; have m0 := blk_cell D1.out 0; have m1 := blk_cell D1.out 1; have m2 := blk_cell D1.out 2)
              | (go_at_call 11; (with_reducible refine (any_Feed0 HK2.out (by simp) HO2.out HV2.out HF2.out).mono ?_); rintro e w6 ⟨A6, c6, rfl, hbk, hk⟩; have N0_ := Aside0.mk ((hk.block _ (blk_lt N0.out) (nS1 (by omega))).trans N0.out); have O_ := Aside0.mk ((hk.block _ (blk_lt O1.out) (nS1 (by omega))).trans O1.out); have D_ := Aside0.mk ((hk.block _ (blk_lt D1.out) (nS1 (by omega))).trans D1.out); have HB_ := Aside0.mk (HB.out.trans (hk.below HB.out.size (ge1 (by omega)))); have oth_ := Aside0.mk (HK1.out.beside HK2.out hk (ne11 (Ne.symm g21))); have new_ := Aside0.mk hbk; clear HK1 HK2 N0 O1 D1 HB hk hbk; have N0 := N0_; have O1 := O_; have D1 := D_; have HB := HB_; have HK2 := new_; have HK1 := oth_; clear N0_ O_ D_ HB_ oth_ new_; have u0 := blk_cell N0.out 0; have o2 := blk_cell O1.out 2; have m0 := blk_cell D1.out 0; have m1 := blk_cell D1.out 1; have m2 := blk_cell D1.out 2))
            go_loopg [25] 0 (fun kq v25 w' => v25 = .int .i64 0 ∧ w' = w6)
            case atStart => exact ⟨rfl, rfl⟩
            case round =>
              obtain ⟨rfl, rfl⟩ := hrel
              go_wp2
              go_roundg k1
              case rel => exact ⟨i + 1, s', by go_num, by omega, HK1, HK2, HI', HB, N0⟩
              case measure => omega
          · have HF1 := Aside0.mk hf1
            have HF2 := Aside0.mk hf2
            clear hf1 hf2
            (try clear hneg)
            go_wp2_with (first
              | (go_at_call 11; (with_reducible refine (any_Feed1 HK1.out (by simp) HO1.out HV.out HF1.out).mono ?_); rintro e w5 ⟨ga, c5, rfl, hga, hga2, hbk, hk⟩; have hgs : wr.heap.size < ga := (by have := blk_lt O1.out; omega); have HGA := Aside0.mk hga; clear hga hga2; have N0_ := Aside0.mk ((hk.block _ (blk_lt N0.out) (nS1 (by omega))).trans N0.out); have O_ := Aside0.mk ((hk.block _ (blk_lt O1.out) (nS1 (by omega))).trans O1.out); have D_ := Aside0.mk ((hk.block _ (blk_lt D1.out) (nS1 (by omega))).trans D1.out); have HB_ := Aside0.mk (HB.out.trans (hk.below HB.out.size (ge1 (by omega)))); have oth_ := Aside0.mk (HK2.out.beside HK1.out hk (ne11 g21)); have new_ := Aside0.mk hbk; clear HK1 HK2 N0 O1 D1 HB hk hbk; have N0 := N0_; have O1 := O_; have D1 := D_; have HB := HB_; have HK1 := new_; have HK2 := oth_; clear N0_ O_ D_ HB_ oth_ new_; have u0 := blk_cell N0.out 0; have o2 := blk_cell O1.out 2; have m0 := blk_cell D1.out 0; have m1 := blk_cell D1.out 1; have m2 := blk_cell D1.out 2)
              | (go_at_call 11; (with_reducible refine (any_Feed1 HK2.out (by simp) HO2.out HV2.out HF2.out).mono ?_); rintro e w6 ⟨gc, c6, rfl, hgc, hgc2, hbk, hk⟩; have HGA2 := Aside0.mk ((hk.block _ (blk_lt HGA.out) (nS1 (by omega))).trans HGA.out); have a1 := blk_cell HGA2.out 1; have a2 := blk_cell HGA2.out 2; have a3 := blk_cell HGA2.out 3; have a4 := blk_cell HGA2.out 4; have b1 := blk_cell hgc 1; have b2 := blk_cell hgc 2; have b3 := blk_cell hgc 3; have b4 := blk_cell hgc 4; clear hgc hgc2; have N0_ := Aside0.mk ((hk.block _ (blk_lt N0.out) (nS1 (by omega))).trans N0.out); have O_ := Aside0.mk ((hk.block _ (blk_lt O1.out) (nS1 (by omega))).trans O1.out); have D_ := Aside0.mk ((hk.block _ (blk_lt D1.out) (nS1 (by omega))).trans D1.out); have HB_ := Aside0.mk (HB.out.trans (hk.below HB.out.size (ge1 (by omega)))); have oth_ := Aside0.mk (HK1.out.beside HK2.out hk (ne11 (Ne.symm g21))); have new_ := Aside0.mk hbk; clear HK1 HK2 N0 O1 D1 HB hk hbk; have N0 := N0_; have O1 := O_; have D1 := D_; have HB := HB_; have HK2 := new_; have HK1 := oth_; clear N0_ O_ D_ HB_ oth_ new_; have u0 := blk_cell N0.out 0; have o2 := blk_cell O1.out 2; have m0 := blk_cell D1.out 0; have m1 := blk_cell D1.out 1; have m2 := blk_cell D1.out 2))
            go_loopg [25] 1 (fun kq v25 w' => ∃ j : Nat, v25 = .int .i64 j ∧ j + kq = 1 ∧ ∃ n, w' = w6.drewN n)
            case atStart => exact ⟨0, rfl, by omega, 0, rfl⟩
            case round =>
              obtain ⟨j, rfl, hj, nn, rfl⟩ := hrel
              cases gk with
              | zero =>
                obtain rfl : j = 1 := by omega
                have hqn : Keep w6 (w6.drewN nn) (fun _ => False) := below_keep (pw_below_drewN (Below.refl _ _) nn)
                have HK1_ := Aside0.mk (HK1.out.quiet hqn)
                have HK2_ := Aside0.mk (HK2.out.quiet hqn)
                have HB_ := Aside0.mk (show Below w.heap.size w (w6.drewN nn) from pw_below_drewN HB.out nn)
                have N0_ := Aside0.mk (show (w6.drewN nn).heap[w.heap.size]? = _ from N0.out)
                clear HK1 HK2 HB N0 hqn
                have HK1 := HK1_
                have HK2 := HK2_
                have HB := HB_
                have N0 := N0_
                clear HK1_ HK2_ HB_ N0_
                go_wp2
                go_roundg k1
                case rel => exact ⟨i + 1, s', by go_num, by omega, HK1, HK2, HI', HB, N0⟩
                case measure => omega
              | succ k2 =>
                obtain rfl : j = 0 := by omega
                go_upto_region 28 with (fail)
                go_quiet (fail)
                go_wp2
                go_roundg k2
                case rel => exact ⟨1, by go_num, by omega, _, rfl⟩
                case measure => omega
        | true =>
          by_cases he : negE val = 0
          · have hneg := neg_ok he HV.out
            have HV2 := Aside0.mk (inW_neg HV.out)
            have HNv := Aside0.mk (fun W => wide_Neg (x := val) W HV.out)
            unfold WV at HNv
            rw [he] at HNv
            have o3 := blk_cell (blk_alloc (heap_alloc_new wr (.cells #[.int .i64 kd, .string nm, .int .i64 at_, .bool true, .int .i64 (hiW val), .int .u64 (loW val)] 39 (0, 0))) (.cells #[.bool true, .int .i64 (hiW val), .int .u64 (loW val)] 37 (0, 0))) 3
            have o4 := blk_cell (blk_alloc (heap_alloc_new wr (.cells #[.int .i64 kd, .string nm, .int .i64 at_, .bool true, .int .i64 (hiW val), .int .u64 (loW val)] 39 (0, 0))) (.cells #[.bool true, .int .i64 (hiW val), .int .u64 (loW val)] 37 (0, 0))) 4
            have o5 := blk_cell (blk_alloc (heap_alloc_new wr (.cells #[.int .i64 kd, .string nm, .int .i64 at_, .bool true, .int .i64 (hiW val), .int .u64 (loW val)] 39 (0, 0))) (.cells #[.bool true, .int .i64 (hiW val), .int .u64 (loW val)] 37 (0, 0))) 5
            have HD0 := Aside0.mk (heap_alloc2_new wr (.cells #[.int .i64 kd, .string nm, .int .i64 at_, .bool true, .int .i64 (hiW val), .int .u64 (loW val)] 39 (0, 0)) (.cells #[.bool true, .int .i64 (hiW val), .int .u64 (loW val)] 37 (0, 0)))
            have HO0 := Aside0.mk (blk_alloc (heap_alloc_new wr (.cells #[.int .i64 kd, .string nm, .int .i64 at_, .bool true, .int .i64 (hiW val), .int .u64 (loW val)] 39 (0, 0))) (.cells #[.bool true, .int .i64 (hiW val), .int .u64 (loW val)] 37 (0, 0)))
            have HBE := Aside0.mk (((Below.refl wr.heap.size wr).alloc (Nat.le_refl _) (.cells #[.int .i64 kd, .string nm, .int .i64 at_, .bool true, .int .i64 (hiW val), .int .u64 (loW val)] 39 (0, 0))).alloc (by simp) (.cells #[.bool true, .int .i64 (hiW val), .int .u64 (loW val)] 37 (0, 0)))
            clear he
            have HO1 := Aside0.mk (show ∀ x ∈ [(g1, r, s)], RulOk x.2.1 ∧ RInv x.2.1 x.2.2 from ok1 ⟨HOK.out, HI.out⟩)
            have HO2 := Aside0.mk (show ∀ x ∈ [(g2, mirR r, s)], RulOk x.2.1 ∧ RInv x.2.1 x.2.2 from ok1 ⟨HOK2.out, mir_inv HI.out⟩)
            obtain ⟨er, s', hi', hmf⟩ := mir_feed HI.out HOK.out HW1.out HW2.out g1 g2 at_ true val (negW val) (fun _ => hneg)
            have HI' := Aside0.mk hi'
            clear hi'
            rcases hmf with ⟨hf1, hf2⟩ | ⟨f, t, q, x, x', hf1, hf2⟩
            · have HF1 := Aside0.mk hf1
              have HF2 := Aside0.mk hf2
              clear hf1 hf2
              (try clear hneg)
              go_wp2_with (first
                | (go_at_call 14; (with_reducible refine (HNv.out _).mono ?_); rintro e w7 ⟨rfl, hb⟩; have hbN := (hop HBE.out hb).alloc (hop HBE.out hb).size (.cells #[.int .i64 (hiW (negW val)), .int .u64 (loW (negW val))] 24 (0, 0)); have hD := blk_alloc ((hb.block _ (blk_lt HD0.out)).trans HD0.out) (.cells #[.int .i64 (hiW (negW val)), .int .u64 (loW (negW val))] 24 (0, 0)); have hO := blk_alloc ((hb.block _ (blk_lt HO0.out)).trans HO0.out) (.cells #[.int .i64 (hiW (negW val)), .int .u64 (loW (negW val))] 24 (0, 0)); have dd1 := blk_cell hD 1; have df1 := blk_frozen hD 1; have dd2 := blk_cell hD 2; have df2 := blk_frozen hD 2; have hD1 := blk_put hD 1 (.int .i64 (hiW (negW val))) rfl; have hD2 := blk_put hD1 2 (.int .u64 (loW (negW val))) rfl; have hS := ((Keep.refl (w7.alloc (.cells #[.int .i64 (hiW (negW val)), .int .u64 (loW (negW val))] 24 (0, 0))) (fun k => k = wr.heap.size + 1)).set ⟨wr.heap.size + 1, 1, none⟩ (.int .i64 (hiW (negW val))) (.inl rfl)).set ⟨wr.heap.size + 1, 2, none⟩ (.int .u64 (loW (negW val))) (.inl rfl); have hbE := hbN.trans (hS.below hbN.size (fun k hk => (by have hk2 : k = wr.heap.size + 1 := hk; omega))); have HK1_ := Aside0.mk (HK1.out.quiet (below_keep hbE)); have HK2_ := Aside0.mk (HK2.out.quiet (below_keep hbE)); have HB_ := Aside0.mk (hop HB.out hbE); have N0_ := Aside0.mk ((hbE.block _ (blk_lt N0.out)).trans N0.out); have O1 := Aside0.mk ((hS.block _ (blk_lt hO) (fun (hn : wr.heap.size = wr.heap.size + 1) => absurd hn (by omega))).trans hO); have D1 := Aside0.mk hD2; clear HK1 HK2 HB N0 hbE hbN hD hO hD1 hD2 hS; have HK1 := HK1_; have HK2 := HK2_; have HB := HB_; have N0 := N0_; clear HK1_ HK2_ HB_ N0_; have u0 := blk_cell N0.out 0; have o2 := blk_cell O1.out 2; have o3 := blk_cell O1.out 3; have o4 := blk_cell O1.out 4; have o5 := blk_cell O1.out 5; clear hb)
                | (go_at_call 11; (with_reducible refine (any_Feed0 HK1.out (by simp) HO1.out HV.out HF1.out).mono ?_); rintro e w5 ⟨A5, c5, rfl, hbk, hk⟩; have N0_ := Aside0.mk ((hk.block _ (blk_lt N0.out) (nS1 (by omega))).trans N0.out); have O_ := Aside0.mk ((hk.block _ (blk_lt O1.out) (nS1 (by omega))).trans O1.out); have D_ := Aside0.mk ((hk.block _ (blk_lt D1.out) (nS1 (by omega))).trans D1.out); have HB_ := Aside0.mk (HB.out.trans (hk.below HB.out.size (ge1 (by omega)))); have oth_ := Aside0.mk (HK2.out.beside HK1.out hk (ne11 g21)); have new_ := Aside0.mk hbk; clear HK1 HK2 N0 O1 D1 HB hk hbk; have N0 := N0_; have O1 := O_; have D1 := D_; have HB := HB_; have HK1 := new_; have HK2 := oth_; clear N0_ O_ D_ HB_ oth_ new_; have u0 := blk_cell N0.out 0; have o2 := blk_cell O1.out 2; have m0 := blk_cell D1.out 0; have m1 := blk_cell D1.out 1; have m2 := blk_cell D1.out 2)
                | (go_at_call 11; (with_reducible refine (any_Feed0 HK2.out (by simp) HO2.out HV2.out HF2.out).mono ?_); rintro e w6 ⟨A6, c6, rfl, hbk, hk⟩; have N0_ := Aside0.mk ((hk.block _ (blk_lt N0.out) (nS1 (by omega))).trans N0.out); have O_ := Aside0.mk ((hk.block _ (blk_lt O1.out) (nS1 (by omega))).trans O1.out); have D_ := Aside0.mk ((hk.block _ (blk_lt D1.out) (nS1 (by omega))).trans D1.out); have HB_ := Aside0.mk (HB.out.trans (hk.below HB.out.size (ge1 (by omega)))); have oth_ := Aside0.mk (HK1.out.beside HK2.out hk (ne11 (Ne.symm g21))); have new_ := Aside0.mk hbk; clear HK1 HK2 N0 O1 D1 HB hk hbk; have N0 := N0_; have O1 := O_; have D1 := D_; have HB := HB_; have HK2 := new_; have HK1 := oth_; clear N0_ O_ D_ HB_ oth_ new_; have u0 := blk_cell N0.out 0; have o2 := blk_cell O1.out 2; have m0 := blk_cell D1.out 0; have m1 := blk_cell D1.out 1; have m2 := blk_cell D1.out 2))
              go_loopg [25] 0 (fun kq v25 w' => v25 = .int .i64 0 ∧ w' = w6)
              case atStart => exact ⟨rfl, rfl⟩
              case round =>
                obtain ⟨rfl, rfl⟩ := hrel
                go_wp2
                go_roundg k1
                case rel => exact ⟨i + 1, s', by go_num, by omega, HK1, HK2, HI', HB, N0⟩
                case measure => omega
            · have HF1 := Aside0.mk hf1
              have HF2 := Aside0.mk hf2
              clear hf1 hf2
              (try clear hneg)
              go_wp2_with (first
                | (go_at_call 14; (with_reducible refine (HNv.out _).mono ?_); rintro e w7 ⟨rfl, hb⟩; have hbN := (hop HBE.out hb).alloc (hop HBE.out hb).size (.cells #[.int .i64 (hiW (negW val)), .int .u64 (loW (negW val))] 24 (0, 0)); have hD := blk_alloc ((hb.block _ (blk_lt HD0.out)).trans HD0.out) (.cells #[.int .i64 (hiW (negW val)), .int .u64 (loW (negW val))] 24 (0, 0)); have hO := blk_alloc ((hb.block _ (blk_lt HO0.out)).trans HO0.out) (.cells #[.int .i64 (hiW (negW val)), .int .u64 (loW (negW val))] 24 (0, 0)); have dd1 := blk_cell hD 1; have df1 := blk_frozen hD 1; have dd2 := blk_cell hD 2; have df2 := blk_frozen hD 2; have hD1 := blk_put hD 1 (.int .i64 (hiW (negW val))) rfl; have hD2 := blk_put hD1 2 (.int .u64 (loW (negW val))) rfl; have hS := ((Keep.refl (w7.alloc (.cells #[.int .i64 (hiW (negW val)), .int .u64 (loW (negW val))] 24 (0, 0))) (fun k => k = wr.heap.size + 1)).set ⟨wr.heap.size + 1, 1, none⟩ (.int .i64 (hiW (negW val))) (.inl rfl)).set ⟨wr.heap.size + 1, 2, none⟩ (.int .u64 (loW (negW val))) (.inl rfl); have hbE := hbN.trans (hS.below hbN.size (fun k hk => (by have hk2 : k = wr.heap.size + 1 := hk; omega))); have HK1_ := Aside0.mk (HK1.out.quiet (below_keep hbE)); have HK2_ := Aside0.mk (HK2.out.quiet (below_keep hbE)); have HB_ := Aside0.mk (hop HB.out hbE); have N0_ := Aside0.mk ((hbE.block _ (blk_lt N0.out)).trans N0.out); have O1 := Aside0.mk ((hS.block _ (blk_lt hO) (fun (hn : wr.heap.size = wr.heap.size + 1) => absurd hn (by omega))).trans hO); have D1 := Aside0.mk hD2; clear HK1 HK2 HB N0 hbE hbN hD hO hD1 hD2 hS; have HK1 := HK1_; have HK2 := HK2_; have HB := HB_; have N0 := N0_; clear HK1_ HK2_ HB_ N0_; have u0 := blk_cell N0.out 0; have o2 := blk_cell O1.out 2; have o3 := blk_cell O1.out 3; have o4 := blk_cell O1.out 4; have o5 := blk_cell O1.out 5; clear hb)
                | (go_at_call 11; (with_reducible refine (any_Feed1 HK1.out (by simp) HO1.out HV.out HF1.out).mono ?_); rintro e w5 ⟨ga, c5, rfl, hga, hga2, hbk, hk⟩; have hgs : wr.heap.size < ga := (by have := blk_lt O1.out; omega); have HGA := Aside0.mk hga; clear hga hga2; have N0_ := Aside0.mk ((hk.block _ (blk_lt N0.out) (nS1 (by omega))).trans N0.out); have O_ := Aside0.mk ((hk.block _ (blk_lt O1.out) (nS1 (by omega))).trans O1.out); have D_ := Aside0.mk ((hk.block _ (blk_lt D1.out) (nS1 (by omega))).trans D1.out); have HB_ := Aside0.mk (HB.out.trans (hk.below HB.out.size (ge1 (by omega)))); have oth_ := Aside0.mk (HK2.out.beside HK1.out hk (ne11 g21)); have new_ := Aside0.mk hbk; clear HK1 HK2 N0 O1 D1 HB hk hbk; have N0 := N0_; have O1 := O_; have D1 := D_; have HB := HB_; have HK1 := new_; have HK2 := oth_; clear N0_ O_ D_ HB_ oth_ new_; have u0 := blk_cell N0.out 0; have o2 := blk_cell O1.out 2; have m0 := blk_cell D1.out 0; have m1 := blk_cell D1.out 1; have m2 := blk_cell D1.out 2)
                | (go_at_call 11; (with_reducible refine (any_Feed1 HK2.out (by simp) HO2.out HV2.out HF2.out).mono ?_); rintro e w6 ⟨gc, c6, rfl, hgc, hgc2, hbk, hk⟩; have HGA2 := Aside0.mk ((hk.block _ (blk_lt HGA.out) (nS1 (by omega))).trans HGA.out); have a1 := blk_cell HGA2.out 1; have a2 := blk_cell HGA2.out 2; have a3 := blk_cell HGA2.out 3; have a4 := blk_cell HGA2.out 4; have b1 := blk_cell hgc 1; have b2 := blk_cell hgc 2; have b3 := blk_cell hgc 3; have b4 := blk_cell hgc 4; clear hgc hgc2; have N0_ := Aside0.mk ((hk.block _ (blk_lt N0.out) (nS1 (by omega))).trans N0.out); have O_ := Aside0.mk ((hk.block _ (blk_lt O1.out) (nS1 (by omega))).trans O1.out); have D_ := Aside0.mk ((hk.block _ (blk_lt D1.out) (nS1 (by omega))).trans D1.out); have HB_ := Aside0.mk (HB.out.trans (hk.below HB.out.size (ge1 (by omega)))); have oth_ := Aside0.mk (HK1.out.beside HK2.out hk (ne11 (Ne.symm g21))); have new_ := Aside0.mk hbk; clear HK1 HK2 N0 O1 D1 HB hk hbk; have N0 := N0_; have O1 := O_; have D1 := D_; have HB := HB_; have HK2 := new_; have HK1 := oth_; clear N0_ O_ D_ HB_ oth_ new_; have u0 := blk_cell N0.out 0; have o2 := blk_cell O1.out 2; have m0 := blk_cell D1.out 0; have m1 := blk_cell D1.out 1; have m2 := blk_cell D1.out 2))
              go_loopg [25] 1 (fun kq v25 w' => ∃ j : Nat, v25 = .int .i64 j ∧ j + kq = 1 ∧ ∃ n, w' = w6.drewN n)
              case atStart => exact ⟨0, rfl, by omega, 0, rfl⟩
              case round =>
                obtain ⟨j, rfl, hj, nn, rfl⟩ := hrel
                cases gk with
                | zero =>
                  obtain rfl : j = 1 := by omega
                  have hqn : Keep w6 (w6.drewN nn) (fun _ => False) := below_keep (pw_below_drewN (Below.refl _ _) nn)
                  have HK1_ := Aside0.mk (HK1.out.quiet hqn)
                  have HK2_ := Aside0.mk (HK2.out.quiet hqn)
                  have HB_ := Aside0.mk (show Below w.heap.size w (w6.drewN nn) from pw_below_drewN HB.out nn)
                  have N0_ := Aside0.mk (show (w6.drewN nn).heap[w.heap.size]? = _ from N0.out)
                  clear HK1 HK2 HB N0 hqn
                  have HK1 := HK1_
                  have HK2 := HK2_
                  have HB := HB_
                  have N0 := N0_
                  clear HK1_ HK2_ HB_ N0_
                  go_wp2
                  go_roundg k1
                  case rel => exact ⟨i + 1, s', by go_num, by omega, HK1, HK2, HI', HB, N0⟩
                  case measure => omega
                | succ k2 =>
                  obtain rfl : j = 0 := by omega
                  go_upto_region 28 with (fail)
                  go_quiet (fail)
                  go_wp2
                  go_roundg k2
                  case rel => exact ⟨1, by go_num, by omega, _, rfl⟩
                  case measure => omega
          · have hne := he
            clear he
            have hbE : Below wr.heap.size wr ((wr.alloc (.cells #[.int .i64 kd, .string nm, .int .i64 at_, .bool true, .int .i64 (hiW val), .int .u64 (loW val)] 39 (0, 0))).alloc (.cells #[.bool true, .int .i64 (hiW val), .int .u64 (loW val)] 37 (0, 0))) := ((Below.refl wr.heap.size wr).alloc (Nat.le_refl _) (.cells #[.int .i64 kd, .string nm, .int .i64 at_, .bool true, .int .i64 (hiW val), .int .u64 (loW val)] 39 (0, 0))).alloc (by simp) (.cells #[.bool true, .int .i64 (hiW val), .int .u64 (loW val)] 37 (0, 0))
            have HNv := Aside0.mk (fun W => wide_Neg (x := val) W HV.out)
            unfold WV at HNv
            have eE : (negE val == 0) = false := beq_eq_false_iff_ne.mpr hne
            have o3 := blk_cell (blk_alloc (heap_alloc_new wr (.cells #[.int .i64 kd, .string nm, .int .i64 at_, .bool true, .int .i64 (hiW val), .int .u64 (loW val)] 39 (0, 0))) (.cells #[.bool true, .int .i64 (hiW val), .int .u64 (loW val)] 37 (0, 0))) 3
            have HBE := Aside0.mk hbE
            clear hne hbE
            go_wp2_with (first
              | (go_at_call 14; (with_reducible refine (HNv.out _).mono ?_); rintro e w5 ⟨rfl, hb⟩; have HBN := Aside0.mk ((hop HBE.out hb).alloc (hop HBE.out hb).size (.cells #[.int .i64 (hiW (negW val)), .int .u64 (loW (negW val))] 24 (0, 0))); clear hb))
            go_roundg k1
            case rel => exact ⟨i + 1, s, by go_num, by omega, ⟨HK1.out.quiet (below_keep HBN.out)⟩, ⟨HK2.out.quiet (below_keep HBN.out)⟩, HI, ⟨hop HB.out HBN.out⟩, ⟨(HBN.out.block _ (blk_lt N0.out)).trans N0.out⟩⟩
            case measure => omega
/-- Every rule and script. -/
theorem law_AlarmSides (w : World) {r : Rul} (hin : RulIn r) {S0 : Option Addr} {c0 : Nat} {os : List OpR} (hC : Kd.C kOp w S0 os.length os) (hos : ∀ o ∈ os, inW o.val) :
    Calls Try.prog 4 #[.agg (ruleA r), .slice S0 os.length c0] w fun e w' => e = .returned (.bool true) ∧ Below w.heap.size w w' := by
  by_cases hm : MayP r
  · exact law_AlarmSides_may w hin hm hC hos
  · exact law_AlarmSides_not w hin hm S0 c0 _
end Go.Proofs.Ytadmigijbfdboaa.Q
