import Derived.Test.YtadmigijbfdboaaAValue
namespace Go.Proofs.Ytadmigijbfdboaa.Q
open Go.RowKit Go.Proofs.YtadmigijbfdboaaW.PrintWords Go.Proofs.YtadmigijbfdboaaW.PrintLast Go.Proofs.YtadmigijbfdboaaW.PrintMore Go.Proofs.YtadmigijbfdboaaV
set_option linter.unusedVariables false
set_option linter.unusedSimpArgs false

/-- What is said. -/
structure Alr where
  name : ByteArray
  at_ : Int
  frm : Int
  to_ : Int
  again : Bool
  is : Bool
  val : Int
def alrCells (a : Alr) : List Value := [.string a.name, .int .i64 a.at_, .int .i64 a.frm, .int .i64 a.to_, .bool a.again, .bool a.is, .int .i64 (hiW a.val), .int .u64 (loW a.val)]
/-- Behind a point: is something said, and again? -/
def sayP (r : Rul) (s : Stt) (at_ : Int) : Option Bool :=
  if at_ < s.muted then none
  else if s.state = s.said then (if s.state ≠ 1 ∧ 0 < r.again ∧ r.again ≤ at_ - s.saidAt then some true else none)
  else some false
def saidP (r : Rul) (s : Stt) (at_ : Int) : Stt := match sayP r s at_ with | none => s | some _ => { s with said := s.state, saidAt := at_ }
def alertsP (r : Rul) (s : Stt) (at_ : Int) (is : Bool) (val : Int) : List Alr := match sayP r s at_ with | none => [] | some q => [⟨r.name, at_, s.said, s.state, q, is, val⟩]

/-- A list of at most one alert, as it lies. -/
def AlrsAt (w : World) (A : Option Addr) (l : List Alr) : Prop := l = [] ∨ ∃ a g, l = [a] ∧ A = some ⟨g, 0, none⟩ ∧ w.heap[g]? = some (.cells (alrCells a).toArray 48 (0, 0))
theorem AlrsAt.keep {w w' : World} {A : Option Addr} {l : List Alr} {S : Nat → Prop} (h : AlrsAt w A l) (hk : Keep w w' S) (hA : ∀ ad, A = some ad → ¬ S ad.block) : AlrsAt w' A l := by
  rcases h with h | ⟨a, g, e, rfl, hb⟩
  · exact .inl h
  · exact .inr ⟨a, g, e, rfl, (hk.block g (blk_lt hb) (hA _ rfl)).trans hb⟩
theorem set_aside {V : World} {g ga i : Nat} {o : Obj} (h : V.heap[ga]? = some o) (hne : ga ≠ g) (u : Value) : (V.setCell ⟨g, i, none⟩ u).heap[ga]? = some o := (Below.heap_setCell _ _ _ _ (fun e => hne e)).trans h
theorem said_two {V : World} {g ga : Nat} {r : Rul} {s : Stt} {u : Value} {al : List Value} {at_ : Int} (hg : RuleAt V g r s u) (ha : V.heap[ga]? = some (.cells al.toArray 48 (0, 0))) :
    RuleAt ((V.setCell ⟨g, 12, none⟩ (.int .i64 s.state)).setCell ⟨g, 13, none⟩ (.int .i64 at_)) g r { s with said := s.state, saidAt := at_ } u ∧
    ((V.setCell ⟨g, 12, none⟩ (.int .i64 s.state)).setCell ⟨g, 13, none⟩ (.int .i64 at_)).heap[ga]? = some (.cells al.toArray 48 (0, 0)) ∧
    V.cell? ⟨g, 11, none⟩ = some (.int .i64 s.state) ∧ V.cell? ⟨g, 12, none⟩ = some (.int .i64 s.said) ∧ V.frozen? ⟨g, 12, none⟩ = false ∧ (V.setCell ⟨g, 12, none⟩ (.int .i64 s.state)).cell? ⟨g, 13, none⟩ = some (.int .i64 s.saidAt) ∧ (V.setCell ⟨g, 12, none⟩ (.int .i64 s.state)).frozen? ⟨g, 13, none⟩ = false ∧
    Keep V ((V.setCell ⟨g, 12, none⟩ (.int .i64 s.state)).setCell ⟨g, 13, none⟩ (.int .i64 at_)) (fun k => k = g) := by
  have hne : ga ≠ g := ne_typed ha hg (by decide)
  have h1 := blk_put hg 12 (.int .i64 s.state) rfl
  exact ⟨blk_put h1 13 (.int .i64 at_) rfl, set_aside (set_aside ha hne _) hne _, blk_cell hg 11, blk_cell hg 12, blk_frozen hg 12, blk_cell h1 13, blk_frozen h1 13, ((Keep.refl V (fun k => k = g)).set ⟨g, 12, none⟩ _ (.inl rfl)).set ⟨g, 13, none⟩ _ (.inl rfl)⟩
set_option maxHeartbeats 6400000 in
set_option maxRecDepth 4000 in
theorem rule_say (w : World) (g : Nat) (r : Rul) (s : Stt) (h : RuleS w g r s) (at_ : Int) (is : Bool) (val : Int) (hat : 0 ≤ at_ ∧ at_ ≤ 1099511627775) (hsa : 0 ≤ s.saidAt ∧ s.saidAt ≤ 1099511627775) :
    Calls Try.prog 27 #[.pointer (some ⟨g, 0, none⟩), .int .i64 at_, .agg #[.bool is, .int .i64 (hiW val), .int .u64 (loW val)]] w fun e w' => ∃ A c, e = .returned (.slice A (alertsP r s at_ is val).length c) ∧ AlrsAt w' A (alertsP r s at_ is val) ∧ (∀ ad, A = some ad → w.heap.size ≤ ad.block) ∧ RuleS w' g r (saidP r s at_) ∧ Keep w w' (fun k => k = g) := by
  obtain ⟨va, hva⟩ : ∃ a, a = hiW val := ⟨_, rfl⟩
  obtain ⟨vb, hvb⟩ : ∃ a, a = loW val := ⟨_, rfl⟩
  rw [← hva, ← hvb]
  have HVA := Aside0.mk hva
  have HVB := Aside0.mk hvb
  obtain ⟨W, hW⟩ : ∃ W, W = w.alloc (.cells #[.bool is, .int .i64 va, .int .u64 vb] 37 (0, 0)) := ⟨_, rfl⟩
  have n0 : W.heap[w.heap.size]? = some (.cells #[.bool is, .int .i64 va, .int .u64 vb] 37 (0, 0)) := by rw [hW]; exact heap_alloc_new _ _
  have hb : Below w.heap.size w W := by rw [hW]; exact (Below.refl _ _).alloc (Nat.le_refl _) _
  have hR : RuleAt W g r s (respV g s.state) := RuleAt.below h hb
  have HW := Aside0.mk hW
  have HR := Aside0.mk hR
  have HB := Aside0.mk hb
  have N0 := Aside0.mk n0
  clear h hva hvb hW n0 hb hR
  go_enter Try.func27, Try.ntmps27
  go_upto_region 1 with (fail)
  rw [← HW.out]
  go_cut [7] from 8 to 23 (fun v7 wx => v7 = .pointer (some ⟨W.heap.size, 0, none⟩) ∧ Aside0 (wx.heap[W.heap.size]? = some (.cells #[.string r.name, .int .i64 at_, .int .i64 s.said, .int .i64 s.state, .bool false, .bool is, .int .i64 va, .int .u64 vb] 48 (0, 0))) ∧ Aside0 (Below W.heap.size W wx))
  case first =>
    have p0 : W.drew.cell? ⟨w.heap.size, 0, none⟩ = some (.bool is) := blk_cell N0.out 0
    have p1 : W.drew.cell? ⟨w.heap.size, 1, none⟩ = some (.int .i64 va) := blk_cell N0.out 1
    have p2 : W.drew.cell? ⟨w.heap.size, 2, none⟩ = some (.int .u64 vb) := blk_cell N0.out 2
    have p3 : W.drew.cell? ⟨g, 0, none⟩ = some (.string r.name) := blk_cell HR.out 0
    have p4 : W.drew.cell? ⟨g, 11, none⟩ = some (.int .i64 s.state) := blk_cell HR.out 11
    have p5 : W.drew.cell? ⟨g, 12, none⟩ = some (.int .i64 s.said) := blk_cell HR.out 12
    have o0 : (W.alloc (.cells #[.string ⟨#[]⟩, .int .i64 0, .int .i64 0, .int .i64 0, .bool false, .bool false, .int .i64 0, .int .u64 0] 48 (0, 0))).drew.cell? ⟨w.heap.size, 0, none⟩ = some (.bool is) := blk_cell (blk_alloc N0.out _) 0
    have o1 : (W.alloc (.cells #[.string ⟨#[]⟩, .int .i64 0, .int .i64 0, .int .i64 0, .bool false, .bool false, .int .i64 0, .int .u64 0] 48 (0, 0))).drew.cell? ⟨w.heap.size, 1, none⟩ = some (.int .i64 va) := blk_cell (blk_alloc N0.out _) 1
    have o2 : (W.alloc (.cells #[.string ⟨#[]⟩, .int .i64 0, .int .i64 0, .int .i64 0, .bool false, .bool false, .int .i64 0, .int .u64 0] 48 (0, 0))).drew.cell? ⟨w.heap.size, 2, none⟩ = some (.int .u64 vb) := blk_cell (blk_alloc N0.out _) 2
    have o3 : (W.alloc (.cells #[.string ⟨#[]⟩, .int .i64 0, .int .i64 0, .int .i64 0, .bool false, .bool false, .int .i64 0, .int .u64 0] 48 (0, 0))).drew.cell? ⟨g, 0, none⟩ = some (.string r.name) := blk_cell (blk_alloc HR.out _) 0
    have o4 : (W.alloc (.cells #[.string ⟨#[]⟩, .int .i64 0, .int .i64 0, .int .i64 0, .bool false, .bool false, .int .i64 0, .int .u64 0] 48 (0, 0))).drew.cell? ⟨g, 11, none⟩ = some (.int .i64 s.state) := blk_cell (blk_alloc HR.out _) 11
    have o5 : (W.alloc (.cells #[.string ⟨#[]⟩, .int .i64 0, .int .i64 0, .int .i64 0, .bool false, .bool false, .int .i64 0, .int .u64 0] 48 (0, 0))).drew.cell? ⟨g, 12, none⟩ = some (.int .i64 s.said) := blk_cell (blk_alloc HR.out _) 12
    go_region
    all_goals
      go_wp2_with (fail)
      go_meet
      exact ⟨rfl, ⟨heap_alloc_new W _⟩, ⟨((Below.refl W.heap.size W).alloc (Nat.le_refl _) _).drew⟩⟩
  case rest =>
    obtain ⟨rfl, HWC, HBW⟩ := hcut
    have HRc := Aside0.mk (show RuleAt wc g r s (respV g s.state) from HR.out.below HBW.out)
    have HKc := Aside0.mk (Keep.of_below (S := fun k => k = g) (hop HB.out HBW.out))
    have hgw : g < W.heap.size := blk_lt HR.out
    have hww := HB.out.size
    have q1 : wc.cell? ⟨g, 11, none⟩ = some (.int .i64 s.state) := blk_cell HRc.out 11
    have q2 : wc.cell? ⟨g, 12, none⟩ = some (.int .i64 s.said) := blk_cell HRc.out 12
    have q3 : wc.cell? ⟨g, 19, none⟩ = some (.int .i64 s.muted) := blk_cell HRc.out 19
    have q4 : wc.cell? ⟨g, 10, none⟩ = some (.int .i64 r.again) := blk_cell HRc.out 10
    have q5 : wc.cell? ⟨g, 13, none⟩ = some (.int .i64 s.saidAt) := blk_cell HRc.out 13
    clear HR N0 HB HW
    by_cases hm : at_ < s.muted
    · have e1 : decide (at_ < s.muted) = true := decide_eq_true hm
      have HP := Aside0.mk (show sayP r s at_ = none by unfold sayP; rw [if_pos hm])
      clear hm
      go_wp2
      go_ret
      unfold alertsP saidP
      rw [HP.out]
      exact ⟨none, 0, rfl, .inl rfl, (fun ad e => by cases e), HRc.out, HKc.out⟩
    · have e1 : decide (at_ < s.muted) = false := decide_eq_false hm
      by_cases hs : s.state = s.said
      · have e2 : (s.state == s.said) = true := beq_iff_eq.mpr hs
        by_cases h1 : s.state = 1
        · have e3 : (s.state != 1) = false := by rw [h1]; rfl
          have HP := Aside0.mk (show sayP r s at_ = none by unfold sayP; rw [if_neg hm, if_pos hs, if_neg (by omega)])
          clear hm hs h1
          go_wp2
          go_quiet (fail)
          go_wp2
          go_quiet (fail)
          go_wp2
          go_ret
          unfold alertsP saidP
          rw [HP.out]
          exact ⟨none, 0, rfl, .inl rfl, (fun ad e => by cases e), HRc.out, (HKc.out.drewN _).drewN _⟩
        · have e3 : (s.state != 1) = true := bne_iff_ne.mpr h1
          by_cases h2 : 0 < r.again
          · have e4 : decide (0 < r.again) = true := decide_eq_true h2
            by_cases h3 : r.again ≤ at_ - s.saidAt
            · have e5 : decide (r.again ≤ at_ - s.saidAt) = true := decide_eq_true h3
              have HP := Aside0.mk (show sayP r s at_ = some true by unfold sayP; rw [if_neg hm, if_pos hs, if_pos ⟨h1, h2, h3⟩])
              have HT := Aside0.mk (show alrCells ⟨r.name, at_, s.said, s.state, true, is, val⟩ = [.string r.name, .int .i64 at_, .int .i64 s.said, .int .i64 s.state, .bool true, .bool is, .int .i64 va, .int .u64 vb] by unfold alrCells; rw [HVA.out, HVB.out])
              clear hm hs h1 h2 h3
              go_wp2
              go_quiet (fail)
              obtain ⟨nq0, hnq0⟩ : ∃ n, n = nq := ⟨_, rfl⟩
              rw [← hnq0]
              clear hnq0
              go_wp2
              go_quiet (fail)
              obtain ⟨V0, hV⟩ : ∃ V0, V0 = (wc.drewN nq0).drewN nq := ⟨_, rfl⟩
              rw [← hV]
              have hVg0 : RuleAt V0 g r s (respV g s.state) := by rw [hV]; exact HRc.out
              have hVa0 : V0.heap[W.heap.size]? = some (.cells #[.string r.name, .int .i64 at_, .int .i64 s.said, .int .i64 s.state, .bool false, .bool is, .int .i64 va, .int .u64 vb] 48 (0, 0)) := by rw [hV]; exact HWC.out
              have hne : g ≠ W.heap.size := by omega
              have hVg := set_aside (i := 4) hVg0 hne (.bool true)
              have hVa : (V0.setCell ⟨W.heap.size, 4, none⟩ (.bool true)).heap[W.heap.size]? = some (.cells [.string r.name, .int .i64 at_, .int .i64 s.said, .int .i64 s.state, .bool true, .bool is, .int .i64 va, .int .u64 vb].toArray 48 (0, 0)) := blk_put hVa0 4 (.bool true) rfl
              have c4 := blk_cell hVa0 4
              have f4 := blk_frozen hVa0 4
              have HKV := Aside0.mk (show Keep w (V0.setCell ⟨W.heap.size, 4, none⟩ (.bool true)) (fun k => k = g) by rw [hV]; exact ((HKc.out.drewN nq0).drewN nq).set _ _ (.inr hww))
              clear hV q1 q2 q3 q4 q5 HRc HWC HKc hVg0 hVa0
              obtain ⟨t1, t2, t3, t4, t5, t6, t7, t8⟩ := said_two (at_ := at_) hVg hVa
              have b0 := blk_cell t2 0
              have b1 := blk_cell t2 1
              have b2 := blk_cell t2 2
              have b3 := blk_cell t2 3
              have b4 := blk_cell t2 4
              have b5 := blk_cell t2 5
              have b6 := blk_cell t2 6
              have b7 := blk_cell t2 7
              have T1 := Aside0.mk t1
              have HSZ := Aside0.mk (show (((V0.setCell ⟨W.heap.size, 4, none⟩ (.bool true)).setCell ⟨g, 12, none⟩ (.int .i64 s.state)).setCell ⟨g, 13, none⟩ (.int .i64 at_)).heap.size = V0.heap.size by simp [World.setCell])
              have T8 := Aside0.mk (HKV.out.trans t8 (fun k _ h => h) (fun k _ h => h))
              clear t1 t2 t8 hVg hVa
              go_wp2
              refine bodyPost_ret (results_tmp rfl _ _ _) rfl ?_
              unfold alertsP saidP
              rw [HP.out]
              refine ⟨_, _, rfl, .inr ⟨_, _, rfl, rfl, ?_⟩, ?_, blk_alloc T1.out _, T8.out.alloc _⟩
              · rw [HT.out]
                have hn := heap_alloc_new (((V0.setCell ⟨W.heap.size, 4, none⟩ (.bool true)).setCell ⟨g, 12, none⟩ (.int .i64 s.state)).setCell ⟨g, 13, none⟩ (.int .i64 at_)) (.cells [.string r.name, .int .i64 at_, .int .i64 s.said, .int .i64 s.state, .bool true, .bool is, .int .i64 va, .int .u64 vb].toArray 48 (0, 0))
                rw [HSZ.out] at hn
                exact hn
              · intro ad e
                injection e with e
                subst e
                have := T8.out.size
                rw [HSZ.out] at this
                exact this
            · have e5 : decide (r.again ≤ at_ - s.saidAt) = false := decide_eq_false h3
              have HP := Aside0.mk (show sayP r s at_ = none by unfold sayP; rw [if_neg hm, if_pos hs, if_neg (fun h => h3 h.2.2)])
              clear hm hs h1 h2 h3
              go_wp2
              go_quiet (fail)
              go_wp2
              go_quiet (fail)
              go_wp2
              go_ret
              unfold alertsP saidP
              rw [HP.out]
              exact ⟨none, 0, rfl, .inl rfl, (fun ad e => by cases e), HRc.out, (HKc.out.drewN _).drewN _⟩
          · have e4 : decide (0 < r.again) = false := decide_eq_false h2
            have HP := Aside0.mk (show sayP r s at_ = none by unfold sayP; rw [if_neg hm, if_pos hs, if_neg (fun h => h2 h.2.1)])
            clear hm hs h1 h2
            go_wp2
            go_quiet (fail)
            go_wp2
            go_quiet (fail)
            go_wp2
            go_ret
            unfold alertsP saidP
            rw [HP.out]
            exact ⟨none, 0, rfl, .inl rfl, (fun ad e => by cases e), HRc.out, (HKc.out.drewN _).drewN _⟩
      · have e2 : (s.state == s.said) = false := beq_eq_false_iff_ne.mpr hs
        have HP := Aside0.mk (show sayP r s at_ = some false by unfold sayP; rw [if_neg hm, if_neg hs])
        have HT := Aside0.mk (show alrCells ⟨r.name, at_, s.said, s.state, false, is, val⟩ = [.string r.name, .int .i64 at_, .int .i64 s.said, .int .i64 s.state, .bool false, .bool is, .int .i64 va, .int .u64 vb] by unfold alrCells; rw [HVA.out, HVB.out])
        clear hm hs
        go_wp2
        go_quiet (fail)
        obtain ⟨V, hV⟩ : ∃ V, V = wc.drewN nq := ⟨_, rfl⟩
        rw [← hV]
        have hVg : RuleAt V g r s (respV g s.state) := by rw [hV]; exact HRc.out
        have hVa : V.heap[W.heap.size]? = some (.cells [.string r.name, .int .i64 at_, .int .i64 s.said, .int .i64 s.state, .bool false, .bool is, .int .i64 va, .int .u64 vb].toArray 48 (0, 0)) := by rw [hV]; exact HWC.out
        have HKV := Aside0.mk (show Keep w V (fun k => k = g) by rw [hV]; exact HKc.out.drewN nq)
        clear hV q1 q2 q3 q4 q5 HRc HWC HKc
        obtain ⟨t1, t2, t3, t4, t5, t6, t7, t8⟩ := said_two (at_ := at_) hVg hVa
        have b0 := blk_cell t2 0
        have b1 := blk_cell t2 1
        have b2 := blk_cell t2 2
        have b3 := blk_cell t2 3
        have b4 := blk_cell t2 4
        have b5 := blk_cell t2 5
        have b6 := blk_cell t2 6
        have b7 := blk_cell t2 7
        have T1 := Aside0.mk t1
        have HSZ := Aside0.mk (show ((V.setCell ⟨g, 12, none⟩ (.int .i64 s.state)).setCell ⟨g, 13, none⟩ (.int .i64 at_)).heap.size = V.heap.size by simp [World.setCell])
        have T8 := Aside0.mk (HKV.out.trans t8 (fun k _ h => h) (fun k _ h => h))
        clear t1 t2 t8 hVg hVa
        go_wp2
        refine bodyPost_ret (results_tmp rfl _ _ _) rfl ?_
        unfold alertsP saidP
        rw [HP.out]
        refine ⟨_, _, rfl, .inr ⟨_, _, rfl, rfl, ?_⟩, ?_, blk_alloc T1.out _, T8.out.alloc _⟩
        · rw [HT.out]
          have hn := heap_alloc_new ((V.setCell ⟨g, 12, none⟩ (.int .i64 s.state)).setCell ⟨g, 13, none⟩ (.int .i64 at_)) (.cells [.string r.name, .int .i64 at_, .int .i64 s.said, .int .i64 s.state, .bool false, .bool is, .int .i64 va, .int .u64 vb].toArray 48 (0, 0))
          rw [HSZ.out] at hn
          exact hn
        · intro ad e
          injection e with e
          subst e
          have := T8.out.size
          rw [HSZ.out] at this
          exact this
end Go.Proofs.Ytadmigijbfdboaa.Q
