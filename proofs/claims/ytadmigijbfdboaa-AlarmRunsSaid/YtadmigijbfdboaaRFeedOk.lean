import Derived.Test.YtadmigijbfdboaaMB
import Derived.Test.YtadmigijbfdboaaLBook
namespace Go.Proofs.Ytadmigijbfdboaa.Q
open Go.RowKit Go.Proofs.YtadmigijbfdboaaW.PrintWords Go.Proofs.YtadmigijbfdboaaW.PrintLast Go.Proofs.YtadmigijbfdboaaW.PrintMore Go.Proofs.YtadmigijbfdboaaV
set_option linter.unusedVariables false
set_option linter.unusedSimpArgs false

theorem KeptC.keep {w w' : World} {g o : Nat} {cs : List Value} {S : Nat → Prop} (h : KeptC w g o cs) (hg : g < w.heap.size) (hk : Keep w w' S) (hS : ¬ S g) : KeptC w' g o cs :=
  ⟨fun j u hu => (cell_same (hk.block g hg hS)).trans (h.cell j u hu), fun j hj => by
    have := h.free j hj
    unfold World.frozen? at this ⊢
    rw [show w'.heap[({ block := g, off := o + j, spot := none } : Addr).block]? = w.heap[({ block := g, off := o + j, spot := none } : Addr).block]? from hk.block g hg hS]
    exact this⟩
theorem Frm.past {w w1 w2 : World} {g o n ga : Nat} (h : Frm w w1 g o n) (hg : g < w1.heap.size) (hk : Keep w1 w2 (fun k => k = ga)) (hga : w.heap.size ≤ ga) (hne : ga ≠ g) : Frm w w2 g o n :=
  ⟨h.keep.trans hk (fun _ _ q => q) (fun k hlt q => by have q' : k = ga := q; omega), fun p hp => by
    obtain ⟨a, b⟩ := h.out p hp
    have hb := hk.block g hg (fun e => hne e.symm)
    refine ⟨(cell_same hb).trans a, ?_⟩
    rw [← b]
    unfold World.frozen?
    rw [show w2.heap[({ block := g, off := p, spot := none } : Addr).block]? = w1.heap[({ block := g, off := p, spot := none } : Addr).block]? from hb]⟩
theorem Frm.trans {w w1 w2 : World} {g o n : Nat} (h : Frm w w1 g o n) (h2 : Frm w1 w2 g o n) : Frm w w2 g o n :=
  ⟨h.keep.trans h2.keep (fun _ _ q => q) (fun _ _ q => q), fun p hp => ⟨(h2.out p hp).1.trans (h.out p hp).1, (h2.out p hp).2.trans (h.out p hp).2⟩⟩
theorem Frm.alloc {w w1 : World} {g o n : Nat} (h : Frm w w1 g o n) (hg : g < w1.heap.size) (x : Obj) : Frm w (w1.alloc x) g o n := h.below hg ((Below.refl w1.heap.size w1).alloc (Nat.le_refl _) x)
theorem KeptC.alloc {w : World} {g o : Nat} {cs : List Value} (h : KeptC w g o cs) (hg : g < w.heap.size) (x : Obj) : KeptC (w.alloc x) g o cs := h.below hg ((Below.refl w.heap.size w).alloc (Nat.le_refl _) x)
/-- A word has been said. -/
theorem rsaid_two {V : World} {g O ga : Nat} {r : Rul} {s : Stt} {al : List Value} {at_ : Int} (hg : KeptC V g O (kc r s)) (ha : V.heap[ga]? = some (.cells al.toArray 48 (0, 0))) (hne : ga ≠ g) :
    KeptC ((V.setCell ⟨g, O + 12, none⟩ (.int .i64 s.state)).setCell ⟨g, O + 13, none⟩ (.int .i64 at_)) g O (kc r { s with said := s.state, saidAt := at_ }) ∧
    ((V.setCell ⟨g, O + 12, none⟩ (.int .i64 s.state)).setCell ⟨g, O + 13, none⟩ (.int .i64 at_)).heap[ga]? = some (.cells al.toArray 48 (0, 0)) ∧
    Frm V ((V.setCell ⟨g, O + 12, none⟩ (.int .i64 s.state)).setCell ⟨g, O + 13, none⟩ (.int .i64 at_)) g O 19 :=
  ⟨(hg.set 12 (by show 12 < 19; decide) (.int .i64 s.state) rfl).set 13 (by show 13 < 19; decide) (.int .i64 at_) rfl, set_aside (set_aside ha hne _) hne _, ((Frm.refl V g O 19).set 12 (by decide) _).set 13 (by decide) _⟩
theorem step_true (r : Rul) (s : Stt) (at_ val : Int) : comeP r { ({ s with any := true, last := at_ } : Stt) with gaps := 0 } (levelP r val (wsP r s.state) (csP r s.state)) = stepP r s at_ true val := rfl
theorem step_false (r : Rul) (s : Stt) (at_ val : Int) : gapS r { s with any := true, last := at_ } = stepP r s at_ false val := rfl

set_option maxHeartbeats 12800000 in
set_option maxRecDepth 4000 in
theorem refb_Feed_ok {w : World} {gb g o : Nat} {A : Option Addr} {c : Nat} {L : List Ent} (h : RBookAt w gb g o A c L) (name : ByteArray) (at_ : Int) (is : Bool) (val : Int) (hL : L.length ≤ 1000000) {i n : Nat} {r : Rul} {s : Stt} (hi : idxP L name = some i) (hx : L[i]? = some (n, r, s)) (ok : RulOk r) (hin : RulIn r) (sok : SttOk s) (ht : inT at_) (hp : lastP s < at_) (hv : inW val) {s1 : Stt} (hs1 : s1 = stepP r s at_ is val) (x : Int) (hxv : x = if is then val else 0) :
    Calls Try.prog 17 #[.pointer (some ⟨gb, 0, none⟩), .string name, .int .i64 at_, .agg #[.bool is, .int .i64 (hiW val), .int .u64 (loW val)]] w fun e w' => ∃ A' c', e = .returned (.tuple #[.slice A' (alertsP r s1 at_ is x).length c', .int .i64 0]) ∧ AlrsAt w' A' (alertsP r s1 at_ is x) ∧ (∀ ad, A' = some ad → w.heap.size ≤ ad.block) ∧ RBookAt w' gb g o A c (L.set i (n, r, saidP r s1 at_)) ∧ Keep w w' (fun k => k = g) := by
  have H0 := Aside0.mk h
  obtain ⟨W, hW⟩ : ∃ W, W = w.alloc (.cells #[.bool is, .int .i64 (hiW val), .int .u64 (loW val)] 37 (0, 0)) := ⟨_, rfl⟩
  have n0 : W.heap[w.heap.size]? = some (.cells #[.bool is, .int .i64 (hiW val), .int .u64 (loW val)] 37 (0, 0)) := by rw [hW]; exact heap_alloc_new _ _
  have hWs : W.heap.size = w.heap.size + 1 := by rw [hW]; simp
  have hb : Below w.heap.size w W := by rw [hW]; exact (Below.refl _ _).alloc (Nat.le_refl _) _
  have hBW := h.below hb
  have HF := Aside0.mk (refb_find hBW name hL)
  unfold idxI at HF
  rw [hi] at HF
  obtain ⟨x', hx', hnm, -⟩ := idxP_lt hi
  rw [hx] at hx'
  injection hx' with hx'
  subst hx'
  have hnm : r.name = name := hnm
  have hA := h.at_ (ne_of_get hx)
  subst hA
  have hadd := add_none g o (i * 19)
  have hr0 := h.row i _ hx
  have hgl : g < w.heap.size := hr0.lt rfl
  have hr := hr0.below hgl hb
  have c0 : W.cell? ⟨gb, 0, none⟩ = some (.slice (some ⟨g, o, none⟩) L.length c) := blk_cell hBW.blk 0
  have q17 := hr.cell 17 _ rfl
  have f17 := hr.free 17 (by show 17 < 19; decide)
  have hlt : i < L.length := (List.getElem?_eq_some_iff.1 hx).1
  have d0 : decide ((i : Int) < 0) = false := decide_eq_false (by omega)
  have d1 : decide (at_ < 0) = false := decide_eq_false (by have := ht.1; omega)
  have d2 : decide (1099511627775 < at_) = false := decide_eq_false (by have := ht.2; omega)
  have d3 : decide (at_ ≤ lastP s) = false := decide_eq_false (by omega)
  have hne2 : w.heap.size ≠ g := by omega
  have hr1 : KeptC (W.setCell ⟨g, o + i * 19 + 17, none⟩ (.int .i64 at_)) g (o + i * 19) (kc r { s with any := true, last := at_ }) := hr.set 17 (by show 17 < 19; decide) (.int .i64 at_) rfl
  have hf1 := ((Frm.refl w g (o + i * 19) 19).below hgl hb).set 17 (by decide) (.int .i64 at_)
  have hW1s : (W.setCell ⟨g, o + i * 19 + 17, none⟩ (.int .i64 at_)).heap.size = W.heap.size := by simp
  have hg1 : g < (W.setCell ⟨g, o + i * 19 + 17, none⟩ (.int .i64 at_)).heap.size := by rw [hW1s, hWs]; omega
  obtain ⟨W2, hW2⟩ : ∃ W2, W2 = (W.setCell ⟨g, o + i * 19 + 17, none⟩ (.int .i64 at_)).alloc (.cells #[.string name, .int .i64 at_, .int .i64 0, .int .i64 0, .bool false, .bool false, .int .i64 0, .int .u64 0] 48 (0, 0)) := ⟨_, rfl⟩
  have hk2 : KeptC W2 g (o + i * 19) (kc r { s with any := true, last := at_ }) := by rw [hW2]; exact hr1.alloc hg1 _
  have hf2 : Frm w W2 g (o + i * 19) 19 := by rw [hW2]; exact hf1.alloc hg1 _
  have hn2 : W2.heap[w.heap.size + 1]? = some (.cells #[.string name, .int .i64 at_, .int .i64 0, .int .i64 0, .bool false, .bool false, .int .i64 0, .int .u64 0] 48 (0, 0)) := by
    have := heap_alloc_new (W.setCell ⟨g, o + i * 19 + 17, none⟩ (.int .i64 at_)) (.cells #[.string name, .int .i64 at_, .int .i64 0, .int .i64 0, .bool false, .bool false, .int .i64 0, .int .u64 0] 48 (0, 0))
    rw [hW1s, hWs] at this
    rw [hW2]; exact this
  have hc2 : W2.heap[w.heap.size]? = some (.cells #[.bool is, .int .i64 (hiW val), .int .u64 (loW val)] 37 (0, 0)) := by rw [hW2]; exact blk_alloc (set_aside n0 hne2 _) _
  have hs2 : W2.heap.size = w.heap.size + 2 := by rw [hW2]; simp; omega
  have hgW2 : g < W2.heap.size := by omega
  have HV := Aside0.mk (kept_value hk2 ok hin (s := { s with any := true, last := at_ }) sok.points val hv)
  have HG := Aside0.mk (kept_gap hk2 (s := { s with any := true, last := at_ }) sok.gaps)
  unfold WV at HV
  have HK2 := Aside0.mk hk2
  have HF2 := Aside0.mk hf2
  have HN2 := Aside0.mk hn2
  have HC2 := Aside0.mk hc2
  have HW := Aside0.mk hW
  have HW2 := Aside0.mk hW2
  have HT := Aside0.mk ht
  have hl1 : lastP s1 = at_ := by rw [hs1]; unfold lastP; obtain ⟨-, -, e3, e4, -⟩ := step_eq r s at_ is val; rw [e3, e4]; rfl
  have hsa : inT s1.saidAt := by rw [hs1, stepP_saidAt]; exact sok.saidAt
  have HSA := Aside0.mk hsa
  have HAG := Aside0.mk ok.again
  have HS1 := Aside0.mk hs1
  have HXV := Aside0.mk hxv
  have HHX := Aside0.mk hx
  have HNM := Aside0.mk hnm
  have vc0 : W.cell? ⟨w.heap.size, 0, none⟩ = _ := blk_cell n0 0
  have vd0 : W2.cell? ⟨w.heap.size, 0, none⟩ = _ := blk_cell hc2 0
  obtain ⟨va, hva⟩ : ∃ a, a = hiW x := ⟨_, rfl⟩
  obtain ⟨vb, hvb⟩ : ∃ a, a = loW x := ⟨_, rfl⟩
  have HVA := Aside0.mk hva
  have HVB := Aside0.mk hvb
  have hgl2 : w.heap.size + 1 ≠ g := by omega
  clear h hW hb hBW hi hr0 hr hr1 hf1 hk2 hf2 hn2 hc2 hs1 hxv hx hnm hva hvb n0 hl1 hsa ok sok hin hv ht hp hW2
  go_enter Try.func17, Try.ntmps17
  go_upto_region 1 with (fail)
  rw [← HW.out]
  go_upto_if 44 with (first
    | (go_at_call 34; (with_reducible refine (HF.out).mono ?_); rintro e w1 ⟨rfl, rfl⟩))
  rw [← HW2.out]
  clear c0 q17 f17 d0 d1 d2 d3 hadd vc0 HF
  go_cut [] from 45 to 52 (fun wx => Aside0 (KeptC wx g (o + i * 19) (kc r s1)) ∧ Aside0 (Frm w wx g (o + i * 19) 19) ∧ Aside0 (wx.heap[w.heap.size + 1]? = some (.cells #[.string name, .int .i64 at_, .int .i64 0, .int .i64 0, .bool false, .bool is, .int .i64 va, .int .u64 vb] 48 (0, 0))))
  case first =>
    cases is with
    | true =>
      have v1 : W2.cell? ⟨w.heap.size, 1, none⟩ = _ := blk_cell HC2.out 1
      have v2 : W2.cell? ⟨w.heap.size, 2, none⟩ = _ := blk_cell HC2.out 2
      go_wp2_with (first
        | (go_at_call 35; (with_reducible refine (HV.out).mono ?_); rintro e w2 ⟨rfl, hk2, hf3⟩; have HK3 := Aside0.mk (show KeptC w2 g (o + i * 19) (kc r s1) by rw [HS1.out]; exact hk2); have HF3 := Aside0.mk hf3; have hab := (hf3.keep.block (w.heap.size + 1) (by omega) (by omega)).trans HN2.out; have hcb := (hf3.keep.block w.heap.size (by omega) (by omega)).trans HC2.out; have HAB := Aside0.mk hab; have y0 := blk_cell hcb 0; have y1 := blk_cell hcb 1; have y2 := blk_cell hcb 2; have z5 := blk_cell hab 5; have z6 := blk_cell hab 6; have z7 := blk_cell hab 7; have zf5 := blk_frozen hab 5; have zf6 := blk_frozen hab 6; have zf7 := blk_frozen hab 7; clear hk2 hf3 hab hcb))
      go_meet
      have hx1 : x = val := HXV.out
      have e1 : va = hiW val := by rw [HVA.out, hx1]
      have e2 : vb = loW val := by rw [HVB.out, hx1]
      rw [e1, e2]
      have hs5 := (((Keep.refl w2 (fun k => k = w.heap.size + 1)).set ⟨w.heap.size + 1, 5, none⟩ (.bool true) (.inl rfl)).set ⟨w.heap.size + 1, 6, none⟩ (.int .i64 (hiW val)) (.inl rfl)).set ⟨w.heap.size + 1, 7, none⟩ (.int .u64 (loW val)) (.inl rfl)
      exact ⟨⟨HK3.out.keep (HK3.out.lt rfl) hs5 (fun e => hgl2 e.symm)⟩, ⟨(HF2.out.trans HF3.out).past (HK3.out.lt rfl) hs5 (by omega) hgl2⟩, ⟨blk_put (blk_put (blk_put HAB.out 5 (.bool true) rfl) 6 (.int .i64 (hiW val)) rfl) 7 (.int .u64 (loW val)) rfl⟩⟩
    | false =>
      go_wp2_with (first
        | (go_at_call 36; (with_reducible refine (HG.out).mono ?_); rintro e w2 ⟨rfl, hk2, hf3⟩; have HK3 := Aside0.mk (show KeptC w2 g (o + i * 19) (kc r s1) by rw [HS1.out]; exact hk2); have HF3 := Aside0.mk hf3; have HAB := Aside0.mk ((hf3.keep.block (w.heap.size + 1) (by omega) (by omega)).trans HN2.out); clear hk2 hf3))
      go_meet
      have hx1 : x = 0 := HXV.out
      have e1 : va = 0 := by rw [HVA.out, hx1]; rfl
      have e2 : vb = 0 := by rw [HVB.out, hx1]; rfl
      rw [e1, e2]
      exact ⟨HK3, ⟨HF2.out.trans HF3.out⟩, HAB⟩
  case rest =>
    obtain ⟨HK, HFR, HAB⟩ := hcut
    clear HV HG HK2 HF2 HN2 HC2 HW HW2 vd0
    obtain ⟨ga, hga⟩ : ∃ ga, ga = w.heap.size + 1 := ⟨_, rfl⟩
    rw [← hga] at HAB hgl2
    rw [← hga]
    have hga1 : w.heap.size ≤ ga := by omega
    clear hga hW1s hg1 hs2 hgW2 hWs hne2
    have m18 := HK.out.cell 18 _ rfl
    by_cases hm : at_ < s1.muted
    · have d4 : decide (at_ < s1.muted) = true := decide_eq_true hm
      have HP := Aside0.mk (show sayP r s1 at_ = none by unfold sayP; rw [if_pos hm])
      have HKK := HK
      have HFF := HFR
      clear hm
      go_wp2
      go_ret2
      have e1 : alertsP r s1 at_ is x = [] := by unfold alertsP; rw [HP.out]
      have e2 : saidP r s1 at_ = s1 := by unfold saidP; rw [HP.out]
      rw [e1, e2]
      first
        | exact ⟨none, 0, rfl, .inl rfl, (fun ad e => by cases e), H0.out.set HHX.out HKK.out HFF.out, HFF.out.keep⟩
        | exact ⟨none, ⟨0, rfl⟩, .inl rfl, (fun ad e => by cases e), H0.out.set HHX.out HKK.out HFF.out, HFF.out.keep⟩
    · have d4 : decide (at_ < s1.muted) = false := decide_eq_false hm
      have HM := Aside0.mk hm
      clear hm
      go_upto_region 17 with (fail)
      obtain ⟨W5, hW5⟩ : ∃ W5, W5 = wc := ⟨_, rfl⟩
      rw [← hW5] at HK HFR HAB m18 ⊢
      clear hW5
      go_cut [] from 59 to 68 (fun wx => Aside0 (wx.heap[ga]? = some (.cells #[.string name, .int .i64 at_, .int .i64 s1.said, .int .i64 s1.state, .bool false, .bool is, .int .i64 va, .int .u64 vb] 48 (0, 0))) ∧ Aside0 (KeptC wx g (o + i * 19) (kc r s1)) ∧ Aside0 (Keep W5 wx (fun k => k = ga)))
      case first =>
        have b11 : W5.drew.cell? ⟨g, o + i * 19 + 11, none⟩ = _ := HK.out.cell 11 _ rfl
        have b12 : W5.drew.cell? ⟨g, o + i * 19 + 12, none⟩ = _ := HK.out.cell 12 _ rfl
        have hM := HAB.out
        have b11w := HK.out.cell 11 _ rfl
        have b12w := HK.out.cell 12 _ rfl
        have p1 := blk_cell hM 2
        have p2 := blk_frozen hM 2
        have p3 := blk_cell hM 3
        have p4 := blk_frozen hM 3
        have HA := Aside0.mk (blk_put (blk_put hM 2 (.int .i64 s1.said) rfl) 3 (.int .i64 s1.state) rfl)
        have HA2 := Aside0.mk (blk_put (blk_put hM 3 (.int .i64 s1.state) rfl) 2 (.int .i64 s1.said) rfl)
        have HSS := Aside0.mk (fun (a b : Nat) (u v : Value) => (((Keep.refl W5 (fun k => k = ga)).set ⟨ga, a, none⟩ u (.inl rfl)).set ⟨ga, b, none⟩ v (.inl rfl)).drew)
        have HGG := Aside0.mk hgl2
        clear hM
        go_region
        all_goals
          go_wp2_with (fail)
          go_meet
          first
            | exact ⟨⟨HA.out⟩, ⟨HK.out.keep (HK.out.lt rfl) (HSS.out 2 3 _ _) (fun e => HGG.out e.symm)⟩, ⟨HSS.out 2 3 _ _⟩⟩
            | exact ⟨⟨HA2.out⟩, ⟨HK.out.keep (HK.out.lt rfl) (HSS.out 3 2 _ _) (fun e => HGG.out e.symm)⟩, ⟨HSS.out 3 2 _ _⟩⟩
      case rest =>
        obtain ⟨HAx, HKx, HSx⟩ := hcut
        have HFx := Aside0.mk (HFR.out.past (HK.out.lt rfl) HSx.out hga1 hgl2)
        clear HAB HFR HK HSx m18 d4
        have c11 := HKx.out.cell 11 _ rfl
        have c12 := HKx.out.cell 12 _ rfl
        go_upto_region 18 with (fail)
        by_cases hs : s1.state = s1.said
        · have e18 : (s1.state == s1.said) = true := beq_iff_eq.mpr hs
          have HS := Aside0.mk hs
          clear hs
          go_quiet (fail)
          obtain ⟨wy, hwy⟩ : ∃ wy, wy = wc.drewN nq := ⟨_, rfl⟩
          have HKy := Aside0.mk (show KeptC wy g (o + i * 19) (kc r s1) by rw [hwy]; exact HKx.out.drewN nq)
          have HFy := Aside0.mk (show Frm w wy g (o + i * 19) 19 by rw [hwy]; exact HFx.out.drewN nq)
          have HAy := Aside0.mk (show wy.heap[ga]? = some (.cells #[.string name, .int .i64 at_, .int .i64 s1.said, .int .i64 s1.state, .bool false, .bool is, .int .i64 va, .int .u64 vb] 48 (0, 0)) by rw [hwy]; exact HAx.out)
          rw [← hwy]
          clear hwy c11 c12 HKx HFx HAx
          have c10 := HKy.out.cell 10 _ rfl
          have c11 := HKy.out.cell 11 _ rfl
          have c13 := HKy.out.cell 13 _ rfl
          by_cases h1 : s1.state = 1
          · have e3 : (s1.state == 1) = true := beq_iff_eq.mpr h1
            have HP := Aside0.mk (show sayP r s1 at_ = none by unfold sayP; rw [if_neg HM.out, if_pos HS.out, if_neg (fun q => q.1 h1)])
            clear h1
            go_upto_region 19 with (fail)
            go_quiet (fail)
            obtain ⟨V0, hV⟩ : ∃ V0, V0 = wy.drewN nq := ⟨_, rfl⟩
            have HVg := Aside0.mk (show KeptC V0 g (o + i * 19) (kc r s1) by rw [hV]; exact HKy.out.drewN nq)
            have HVf := Aside0.mk (show Frm w V0 g (o + i * 19) 19 by rw [hV]; exact HFy.out.drewN nq)
            have HVa := Aside0.mk (show V0.heap[ga]? = some (.cells #[.string name, .int .i64 at_, .int .i64 s1.said, .int .i64 s1.state, .bool false, .bool is, .int .i64 va, .int .u64 vb] 48 (0, 0)) by rw [hV]; exact HAy.out)
            rw [← hV]
            clear hV HKy HFy HAy c10 c11 c13
            have HKK := HVg
            have HFF := HVf
            go_wp2
            go_ret2
            have e1 : alertsP r s1 at_ is x = [] := by unfold alertsP; rw [HP.out]
            have e2 : saidP r s1 at_ = s1 := by unfold saidP; rw [HP.out]
            rw [e1, e2]
            first
              | exact ⟨none, 0, rfl, .inl rfl, (fun ad e => by cases e), H0.out.set HHX.out HKK.out HFF.out, HFF.out.keep⟩
              | exact ⟨none, ⟨0, rfl⟩, .inl rfl, (fun ad e => by cases e), H0.out.set HHX.out HKK.out HFF.out, HFF.out.keep⟩
          · have e3 : (s1.state == 1) = false := beq_eq_false_iff_ne.mpr h1
            by_cases h2 : r.again = 0
            · have e4 : (r.again == 0) = true := beq_iff_eq.mpr h2
              have HP := Aside0.mk (show sayP r s1 at_ = none by unfold sayP; rw [if_neg HM.out, if_pos HS.out, if_neg (fun q => by have := q.2.1; omega)])
              clear h1 h2
              go_upto_region 19 with (fail)
              go_quiet (fail)
              obtain ⟨V0, hV⟩ : ∃ V0, V0 = wy.drewN nq := ⟨_, rfl⟩
              have HVg := Aside0.mk (show KeptC V0 g (o + i * 19) (kc r s1) by rw [hV]; exact HKy.out.drewN nq)
              have HVf := Aside0.mk (show Frm w V0 g (o + i * 19) 19 by rw [hV]; exact HFy.out.drewN nq)
              have HVa := Aside0.mk (show V0.heap[ga]? = some (.cells #[.string name, .int .i64 at_, .int .i64 s1.said, .int .i64 s1.state, .bool false, .bool is, .int .i64 va, .int .u64 vb] 48 (0, 0)) by rw [hV]; exact HAy.out)
              rw [← hV]
              clear hV HKy HFy HAy c10 c11 c13
              have HKK := HVg
              have HFF := HVf
              go_wp2
              go_ret2
              have e1 : alertsP r s1 at_ is x = [] := by unfold alertsP; rw [HP.out]
              have e2 : saidP r s1 at_ = s1 := by unfold saidP; rw [HP.out]
              rw [e1, e2]
              first
                | exact ⟨none, 0, rfl, .inl rfl, (fun ad e => by cases e), H0.out.set HHX.out HKK.out HFF.out, HFF.out.keep⟩
                | exact ⟨none, ⟨0, rfl⟩, .inl rfl, (fun ad e => by cases e), H0.out.set HHX.out HKK.out HFF.out, HFF.out.keep⟩
            · have e4 : (r.again == 0) = false := beq_eq_false_iff_ne.mpr h2
              have ba0 : 0 ≤ at_ := HT.out.1
              have ba1 : at_ ≤ 1099511627775 := HT.out.2
              have bs0 : 0 ≤ s1.saidAt := HSA.out.1
              have bs1 : s1.saidAt ≤ 1099511627775 := HSA.out.2
              by_cases h3 : at_ - s1.saidAt < r.again
              · have e5 : decide (at_ - s1.saidAt < r.again) = true := decide_eq_true h3
                have HP := Aside0.mk (show sayP r s1 at_ = none by unfold sayP; rw [if_neg HM.out, if_pos HS.out, if_neg (fun q => by have := q.2.2; omega)])
                clear h1 h2 h3
                go_upto_region 19 with (fail)
                go_quiet (fail)
                obtain ⟨V0, hV⟩ : ∃ V0, V0 = wy.drewN nq := ⟨_, rfl⟩
                have HVg := Aside0.mk (show KeptC V0 g (o + i * 19) (kc r s1) by rw [hV]; exact HKy.out.drewN nq)
                have HVf := Aside0.mk (show Frm w V0 g (o + i * 19) 19 by rw [hV]; exact HFy.out.drewN nq)
                have HVa := Aside0.mk (show V0.heap[ga]? = some (.cells #[.string name, .int .i64 at_, .int .i64 s1.said, .int .i64 s1.state, .bool false, .bool is, .int .i64 va, .int .u64 vb] 48 (0, 0)) by rw [hV]; exact HAy.out)
                rw [← hV]
                clear hV HKy HFy HAy c10 c11 c13
                have HKK := HVg
                have HFF := HVf
                go_wp2
                go_ret2
                have e1 : alertsP r s1 at_ is x = [] := by unfold alertsP; rw [HP.out]
                have e2 : saidP r s1 at_ = s1 := by unfold saidP; rw [HP.out]
                rw [e1, e2]
                first
                  | exact ⟨none, 0, rfl, .inl rfl, (fun ad e => by cases e), H0.out.set HHX.out HKK.out HFF.out, HFF.out.keep⟩
                  | exact ⟨none, ⟨0, rfl⟩, .inl rfl, (fun ad e => by cases e), H0.out.set HHX.out HKK.out HFF.out, HFF.out.keep⟩
              · have e5 : decide (at_ - s1.saidAt < r.again) = false := decide_eq_false h3
                have HP := Aside0.mk (show sayP r s1 at_ = some true by unfold sayP; rw [if_neg HM.out, if_pos HS.out, if_pos ⟨h1, by have := HAG.out.1; omega, by omega⟩])
                clear h1 h2 h3
                go_upto_region 19 with (fail)
                go_quiet (fail)
                obtain ⟨V0, hV⟩ : ∃ V0, V0 = wy.drewN nq := ⟨_, rfl⟩
                have HVg := Aside0.mk (show KeptC V0 g (o + i * 19) (kc r s1) by rw [hV]; exact HKy.out.drewN nq)
                have HVf := Aside0.mk (show Frm w V0 g (o + i * 19) 19 by rw [hV]; exact HFy.out.drewN nq)
                have HVa := Aside0.mk (show V0.heap[ga]? = some (.cells #[.string name, .int .i64 at_, .int .i64 s1.said, .int .i64 s1.state, .bool false, .bool is, .int .i64 va, .int .u64 vb] 48 (0, 0)) by rw [hV]; exact HAy.out)
                rw [← hV]
                clear hV HKy HFy HAy c10 c11 c13
                have c4 := blk_cell HVa.out 4
                have f4 := blk_frozen HVa.out 4
                have hs4 := (Keep.refl V0 (fun k => k = ga)).set ⟨ga, 4, none⟩ (.bool true) (.inl rfl)
                have HVg2 := Aside0.mk (HVg.out.keep (HVg.out.lt rfl) hs4 (fun e => hgl2 e.symm))
                have HVf2 := Aside0.mk (HVf.out.past (HVg.out.lt rfl) hs4 hga1 hgl2)
                have HVa2 := Aside0.mk (show (V0.setCell ⟨ga, 4, none⟩ (.bool true)).heap[ga]? = some (.cells [.string name, .int .i64 at_, .int .i64 s1.said, .int .i64 s1.state, .bool true, .bool is, .int .i64 va, .int .u64 vb].toArray 48 (0, 0)) from blk_put HVa.out 4 (.bool true) rfl)
                clear hs4
                obtain ⟨t1, t2, t3⟩ := rsaid_two (at_ := at_) HVg2.out HVa2.out hgl2
                have k11 : (V0.setCell ⟨ga, 4, none⟩ (.bool true)).cell? ⟨g, o + i * 19 + 11, none⟩ = _ := HVg2.out.cell 11 _ rfl
                have k12 : (V0.setCell ⟨ga, 4, none⟩ (.bool true)).cell? ⟨g, o + i * 19 + 12, none⟩ = _ := HVg2.out.cell 12 _ rfl
                have k13 : (V0.setCell ⟨ga, 4, none⟩ (.bool true)).cell? ⟨g, o + i * 19 + 13, none⟩ = _ := HVg2.out.cell 13 _ rfl
                have f12 : (V0.setCell ⟨ga, 4, none⟩ (.bool true)).frozen? ⟨g, o + i * 19 + 12, none⟩ = _ := HVg2.out.free 12 (by show 12 < 19; decide)
                have f13 : (V0.setCell ⟨ga, 4, none⟩ (.bool true)).frozen? ⟨g, o + i * 19 + 13, none⟩ = _ := HVg2.out.free 13 (by show 13 < 19; decide)
                have b0 := blk_cell t2 0
                have b1 := blk_cell t2 1
                have b2 := blk_cell t2 2
                have b3 := blk_cell t2 3
                have b4 := blk_cell t2 4
                have b5 := blk_cell t2 5
                have b6 := blk_cell t2 6
                have b7 := blk_cell t2 7
                have T1 := Aside0.mk t1
                have T3 := Aside0.mk (HVf2.out.trans t3)
                have HSZ := Aside0.mk (show (((V0.setCell ⟨ga, 4, none⟩ (.bool true)).setCell ⟨g, o + i * 19 + 12, none⟩ (.int .i64 s1.state)).setCell ⟨g, o + i * 19 + 13, none⟩ (.int .i64 at_)).heap.size = V0.heap.size by simp [World.setCell])
                clear t1 t2 t3 HVg HVf HVa HVg2 HVf2 HVa2
                go_wp2
                go_ret2
                have e1 : alertsP r s1 at_ is x = [⟨r.name, at_, s1.said, s1.state, true, is, x⟩] := by unfold alertsP; rw [HP.out]
                have e2 : saidP r s1 at_ = { s1 with said := s1.state, saidAt := at_ } := by unfold saidP; rw [HP.out]
                rw [e1, e2]
                have hgT := T1.out.lt rfl
                first
                  | refine ⟨_, _, rfl, .inr ⟨_, _, rfl, rfl, ?_⟩, ?_, H0.out.set HHX.out (T1.out.alloc hgT _) (T3.out.alloc hgT _), T3.out.keep.alloc _⟩
                  | refine ⟨_, ⟨_, rfl⟩, .inr ⟨_, _, rfl, rfl, ?_⟩, ?_, H0.out.set HHX.out (T1.out.alloc hgT _) (T3.out.alloc hgT _), T3.out.keep.alloc _⟩
                · rw [show alrCells ⟨r.name, at_, s1.said, s1.state, true, is, x⟩ = [.string name, .int .i64 at_, .int .i64 s1.said, .int .i64 s1.state, .bool true, .bool is, .int .i64 va, .int .u64 vb] by unfold alrCells; rw [HVA.out, HVB.out, HNM.out]]
                  have hn := heap_alloc_new (((V0.setCell ⟨ga, 4, none⟩ (.bool true)).setCell ⟨g, o + i * 19 + 12, none⟩ (.int .i64 s1.state)).setCell ⟨g, o + i * 19 + 13, none⟩ (.int .i64 at_)) (.cells [.string name, .int .i64 at_, .int .i64 s1.said, .int .i64 s1.state, .bool true, .bool is, .int .i64 va, .int .u64 vb].toArray 48 (0, 0))
                  rw [HSZ.out] at hn
                  exact hn
                · intro ad e
                  injection e with e
                  subst e
                  have := T3.out.keep.size
                  rw [HSZ.out] at this
                  exact this
        · have e18 : (s1.state == s1.said) = false := beq_eq_false_iff_ne.mpr hs
          have HP := Aside0.mk (show sayP r s1 at_ = some false by unfold sayP; rw [if_neg HM.out, if_neg hs])
          clear hs
          go_quiet (fail)
          obtain ⟨V0, hV⟩ : ∃ V0, V0 = wc.drewN nq := ⟨_, rfl⟩
          have HVg := Aside0.mk (show KeptC V0 g (o + i * 19) (kc r s1) by rw [hV]; exact HKx.out.drewN nq)
          have HVf := Aside0.mk (show Frm w V0 g (o + i * 19) 19 by rw [hV]; exact HFx.out.drewN nq)
          have HVa := Aside0.mk (show V0.heap[ga]? = some (.cells #[.string name, .int .i64 at_, .int .i64 s1.said, .int .i64 s1.state, .bool false, .bool is, .int .i64 va, .int .u64 vb] 48 (0, 0)) by rw [hV]; exact HAx.out)
          rw [← hV]
          clear hV HKx HFx HAx c11 c12
          have HVg2 := HVg
          have HVf2 := HVf
          have HVa2 := Aside0.mk (show V0.heap[ga]? = some (.cells [.string name, .int .i64 at_, .int .i64 s1.said, .int .i64 s1.state, .bool false, .bool is, .int .i64 va, .int .u64 vb].toArray 48 (0, 0)) from HVa.out)
          obtain ⟨t1, t2, t3⟩ := rsaid_two (at_ := at_) HVg2.out HVa2.out hgl2
          have k11 : V0.cell? ⟨g, o + i * 19 + 11, none⟩ = _ := HVg2.out.cell 11 _ rfl
          have k12 : V0.cell? ⟨g, o + i * 19 + 12, none⟩ = _ := HVg2.out.cell 12 _ rfl
          have k13 : V0.cell? ⟨g, o + i * 19 + 13, none⟩ = _ := HVg2.out.cell 13 _ rfl
          have f12 : V0.frozen? ⟨g, o + i * 19 + 12, none⟩ = _ := HVg2.out.free 12 (by show 12 < 19; decide)
          have f13 : V0.frozen? ⟨g, o + i * 19 + 13, none⟩ = _ := HVg2.out.free 13 (by show 13 < 19; decide)
          have b0 := blk_cell t2 0
          have b1 := blk_cell t2 1
          have b2 := blk_cell t2 2
          have b3 := blk_cell t2 3
          have b4 := blk_cell t2 4
          have b5 := blk_cell t2 5
          have b6 := blk_cell t2 6
          have b7 := blk_cell t2 7
          have T1 := Aside0.mk t1
          have T3 := Aside0.mk (HVf2.out.trans t3)
          have HSZ := Aside0.mk (show ((V0.setCell ⟨g, o + i * 19 + 12, none⟩ (.int .i64 s1.state)).setCell ⟨g, o + i * 19 + 13, none⟩ (.int .i64 at_)).heap.size = V0.heap.size by simp [World.setCell])
          clear t1 t2 t3 HVg HVf HVa HVg2 HVf2 HVa2
          go_wp2
          go_ret2
          have e1 : alertsP r s1 at_ is x = [⟨r.name, at_, s1.said, s1.state, false, is, x⟩] := by unfold alertsP; rw [HP.out]
          have e2 : saidP r s1 at_ = { s1 with said := s1.state, saidAt := at_ } := by unfold saidP; rw [HP.out]
          rw [e1, e2]
          have hgT := T1.out.lt rfl
          first
            | refine ⟨_, _, rfl, .inr ⟨_, _, rfl, rfl, ?_⟩, ?_, H0.out.set HHX.out (T1.out.alloc hgT _) (T3.out.alloc hgT _), T3.out.keep.alloc _⟩
            | refine ⟨_, ⟨_, rfl⟩, .inr ⟨_, _, rfl, rfl, ?_⟩, ?_, H0.out.set HHX.out (T1.out.alloc hgT _) (T3.out.alloc hgT _), T3.out.keep.alloc _⟩
          · rw [show alrCells ⟨r.name, at_, s1.said, s1.state, false, is, x⟩ = [.string name, .int .i64 at_, .int .i64 s1.said, .int .i64 s1.state, .bool false, .bool is, .int .i64 va, .int .u64 vb] by unfold alrCells; rw [HVA.out, HVB.out, HNM.out]]
            have hn := heap_alloc_new ((V0.setCell ⟨g, o + i * 19 + 12, none⟩ (.int .i64 s1.state)).setCell ⟨g, o + i * 19 + 13, none⟩ (.int .i64 at_)) (.cells [.string name, .int .i64 at_, .int .i64 s1.said, .int .i64 s1.state, .bool false, .bool is, .int .i64 va, .int .u64 vb].toArray 48 (0, 0))
            rw [HSZ.out] at hn
            exact hn
          · intro ad e
            injection e with e
            subst e
            have := T3.out.keep.size
            rw [HSZ.out] at this
            exact this
end Go.Proofs.Ytadmigijbfdboaa.Q
