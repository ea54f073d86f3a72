import Derived.Test.YtadmigijbfdboaaAMute
namespace Go.Proofs.Ytadmigijbfdboaa.Q
open Go.RowKit Go.Proofs.YtadmigijbfdboaaW.PrintWords Go.Proofs.YtadmigijbfdboaaW.PrintLast Go.Proofs.YtadmigijbfdboaaW.PrintMore Go.Proofs.YtadmigijbfdboaaV
set_option linter.unusedVariables false
set_option linter.unusedSimpArgs false

/-- What a point does to a rule. -/
def stepP (r : Rul) (s : Stt) (at_ : Int) (is : Bool) (val : Int) : Stt :=
  if is then comeP r { s with any := true, last := at_, gaps := 0 } (levelP r val (wsP r s.state) (csP r s.state))
  else if 0 < r.absent ∧ r.absent ≤ s.gaps + 1 then enterS { s with any := true, last := at_, gaps := s.gaps + 1, next := 0, points := 0 } 4
  else { s with any := true, last := at_, gaps := s.gaps + 1, next := 0, points := 0 }
/-- Feed: alerts, error, the rules behind it. -/
def feedP (L : List Ent) (name : ByteArray) (at_ : Int) (is : Bool) (val : Int) : List Alr × Int × List Ent :=
  match idxP L name with
  | none => ([], 231, L)
  | some i => match L[i]? with
    | none => ([], 231, L)
    | some x =>
      if ¬ inT at_ then ([], 1, L)
      else if x.2.2.any = true ∧ at_ ≤ x.2.2.last then ([], 232, L)
      else (alertsP x.2.1 (stepP x.2.1 x.2.2 at_ is val) at_ is (if is then val else 0), 0, L.set i (x.1, x.2.1, saidP x.2.1 (stepP x.2.1 x.2.2 at_ is val) at_))
/-- What the walk needs of a rule's numbers. -/
structure SttOk (s : Stt) : Prop where
  points : 0 ≤ s.points ∧ s.points ≤ 1000000
  gaps : 0 ≤ s.gaps ∧ s.gaps ≤ 9000000000000
  saidAt : inT s.saidAt
theorem stepP_saidAt (r : Rul) (s : Stt) (at_ : Int) (is : Bool) (val : Int) : (stepP r s at_ is val).saidAt = s.saidAt := by
  unfold stepP
  split
  · unfold comeP
    split
    · rfl
    · split
      · rfl
      · split <;> (simp only [enterS, moreS]; split <;> rfl)
  · split <;> rfl

set_option maxHeartbeats 6400000 in
set_option maxRecDepth 4000 in
theorem book_Feed_is {w : World} {B gb : Nat} {A : Option Addr} {c : Nat} {L : List Ent} (h : BookAt w B gb A c L) (hB : B ≤ w.heap.size) (name : ByteArray) (at_ val : Int) (hL : L.length ≤ 1000000) {i : Nat} {g : Nat} {r : Rul} {s : Stt} (hi : idxP L name = some i) (hx : L[i]? = some (g, r, s)) (ok : RulOk r) (sok : SttOk s) (hat : inT at_) (hpast : (s.any && decide (at_ ≤ s.last)) = false) (hv : inW val) :
    Calls Try.prog 11 #[.pointer (some ⟨gb, 0, none⟩), .string name, .int .i64 at_, .agg #[.bool true, .int .i64 (hiW val), .int .u64 (loW val)]] w fun e w' => ∃ A' c', e = .returned (.tuple #[.slice A' (alertsP r (stepP r s at_ true val) at_ true val).length c', .int .i64 0]) ∧ AlrsAt w' A' (alertsP r (stepP r s at_ true val) at_ true val) ∧ (∀ ad, A' = some ad → w.heap.size ≤ ad.block) ∧ BookAt w' B gb A c (L.set i (g, r, saidP r (stepP r s at_ true val) at_)) ∧ Keep w w' (fun k => ∃ x ∈ L, k = x.1) := by
  obtain ⟨W, hW⟩ : ∃ W, W = w.alloc (.cells #[.bool true, .int .i64 (hiW val), .int .u64 (loW val)] 37 (0, 0)) := ⟨_, rfl⟩
  have n0 : W.heap[w.heap.size]? = some (.cells #[.bool true, .int .i64 (hiW val), .int .u64 (loW val)] 37 (0, 0)) := by rw [hW]; exact heap_alloc_new _ _
  have hb : Below w.heap.size w W := by rw [hW]; exact (Below.refl _ _).alloc (Nat.le_refl _) _
  have hBW := h.quiet (below_keep hb)
  have HF := Aside0.mk (book_find hBW name hL)
  obtain ⟨x', hx', hn, hvv⟩ := idxP_lt hi
  rw [hx] at hx'
  injection hx' with hx'
  subst hx'
  rw [hvv] at HF
  have hxm : (g, r, s) ∈ L := List.mem_of_getElem? hx
  have hR : RuleAt W g r s (respV g s.state) := (hBW.rules _ hxm).1
  have hge : B ≤ g := (h.rules _ hxm).2
  have hgl : g < w.heap.size := blk_lt (h.rules _ hxm).1
  have hR2 : W.heap[g]? = some (.cells (ruleCells r s (respV g s.state)) 76 (0, 0)) := hR
  have c1 : W.cell? ⟨gb, 1, none⟩ = some (.bool true) := blk_cell hBW.blk 1
  have q1 : W.cell? ⟨g, 18, none⟩ = some (.bool s.any) := blk_cell hR2 18
  have q2 : W.cell? ⟨g, 17, none⟩ = some (.int .i64 s.last) := blk_cell hR2 17
  have f1 := blk_frozen hR2 18
  unfold ruleCells at hR2
  have h2 := blk_put hR2 18 (.bool true) rfl
  have q3 := blk_cell h2 17
  have f3 := blk_frozen h2 17
  have h3 := blk_put h2 17 (.int .i64 at_) rfl
  have q4 := blk_cell h3 16
  have f4 := blk_frozen h3 16
  have h4 := blk_put h3 16 (.int .i64 0) rfl
  have m1 := set_aside (i := 18) n0 (show w.heap.size ≠ g by omega) (.bool true)
  have m2 := set_aside (i := 17) m1 (show w.heap.size ≠ g by omega) (.int .i64 at_)
  have m3 := set_aside (i := 16) m2 (show w.heap.size ≠ g by omega) (.int .i64 0)
  have b0 := blk_cell m2 0
  obtain ⟨V, hV⟩ : ∃ V, V = ((W.setCell ⟨g, 18, none⟩ (.bool true)).setCell ⟨g, 17, none⟩ (.int .i64 at_)).setCell ⟨g, 16, none⟩ (.int .i64 0) := ⟨_, rfl⟩
  rw [← hV] at h4 m3
  have HRV := Aside0.mk (show RuleS V g r { s with any := true, last := at_, gaps := 0 } from h4)
  have HKV := Aside0.mk (show Keep w V (fun k => k = g) by
    rw [hV]
    exact (((Keep.of_below (S := fun k => k = g) hb).set ⟨g, 18, none⟩ _ (.inl rfl)).set ⟨g, 17, none⟩ _ (.inl rfl)).set ⟨g, 16, none⟩ _ (.inl rfl))
  have d1 : decide (at_ < 0) = false := decide_eq_false (by have := hat.1; omega)
  have d2 : decide (1099511627775 < at_) = false := decide_eq_false (by have := hat.2; omega)
  have HM3 := Aside0.mk m3
  have HV := Aside0.mk hV
  have HW := Aside0.mk hW
  have HB := Aside0.mk h
  have HX := Aside0.mk hx
  have HST := Aside0.mk (show stepP r s at_ true val = comeP r { s with any := true, last := at_, gaps := 0 } (levelP r val (wsP r s.state) (csP r s.state)) from if_pos rfl)
  obtain ⟨t, ht⟩ : ∃ t, t = comeP r { s with any := true, last := at_, gaps := 0 } (levelP r val (wsP r s.state) (csP r s.state)) := ⟨_, rfl⟩
  have hts : t.saidAt = s.saidAt := by rw [ht, ← HST.out]; exact stepP_saidAt r s at_ true val
  rw [← ht] at HST
  have HVAL := Aside0.mk (fun W' (hh : RuleS W' g r { s with any := true, last := at_, gaps := 0 }) => rule_value W' g r { s with any := true, last := at_, gaps := 0 } hh ok val hv sok.points)
  have HSAY := Aside0.mk (fun W' (hh : RuleS W' g r t) => rule_say W' g r t hh at_ true val hat (by rw [hts]; exact sok.saidAt))
  rw [show comeP r { s with any := true, last := at_, gaps := 0 } (levelP r val (wsP r ({ s with any := true, last := at_, gaps := 0 } : Stt).state) (csP r ({ s with any := true, last := at_, gaps := 0 } : Stt).state)) = t from ht.symm] at HVAL
  unfold WV at HVAL
  obtain ⟨va, hva⟩ : ∃ a, a = hiW val := ⟨_, rfl⟩
  obtain ⟨vb, hvb⟩ : ∃ a, a = loW val := ⟨_, rfl⟩
  rw [← hva, ← hvb] at HVAL HSAY HM3 HW
  rw [← hva, ← hvb]
  have e0 := blk_cell HM3.out 0
  have e1 := blk_cell HM3.out 1
  have e2 := blk_cell HM3.out 2
  have e5 : V.cell? ⟨g, 20, none⟩ = some (respV g s.state) := blk_cell h4 20
  unfold respV at e5
  obtain ⟨fn, hfn⟩ : ∃ fn, fn = respF s.state := ⟨_, rfl⟩
  rw [← hfn] at e5
  rw [show respF ({ s with any := true, last := at_, gaps := 0 } : Stt).state = fn from hfn.symm] at HVAL
  have hfn3 : fn = 40 ∨ fn = 41 ∨ fn = 42 := by
    rw [hfn]; unfold respF
    split
    · exact .inl rfl
    · split
      · exact .inr (.inl rfl)
      · exact .inr (.inr rfl)
  have dp : s.any = false ∨ (s.any = true ∧ decide (at_ ≤ s.last) = false) := by
    cases ha : s.any with
    | false => exact .inl rfl
    | true => rw [ha] at hpast; exact .inr ⟨rfl, by simpa using hpast⟩
  clear h hW n0 hb hBW hn hvv hR hR2 h2 h3 h4 m1 m2 m3 hV ht hva hvb hfn hpast hx hi hat hv
  rcases dp with dp | ⟨dp, dp2⟩ <;> rcases hfn3 with rfl | rfl | rfl
  all_goals
    rw [dp] at q1
    go_enter Try.func11, Try.ntmps11
    go_upto_region 1 with (fail)
    rw [← HW.out]
    go_upto_region 13 with (first | (go_at_call 25; (with_reducible refine (HF.out).mono ?_); rintro e w1 ⟨rfl, rfl⟩))
    rw [← HV.out]
    go_cut [] from 59 to 65 (fun wx => Aside0 (RuleS wx g r t) ∧ Aside0 (Keep V wx (fun k => k = g)))
    case first =>
      have y1 : V.drew.cell? ⟨w.heap.size, 1, none⟩ = some (.int .i64 va) := e1
      have y2 : V.drew.cell? ⟨w.heap.size, 2, none⟩ = some (.int .u64 vb) := e2
      have y5 := (show V.drew.cell? ⟨g, 20, none⟩ = some (.func (.func _) #[.pointer (some ⟨g, 0, none⟩)] #[]) from e5)
      have HRd := Aside0.mk (show RuleS V.drew g r { s with any := true, last := at_, gaps := 0 } from HRV.out)
      clear e0 e1 e2 e5 q3 q4 f3 f4 b0
      go_region_with (first
        | (go_at_call 40; (with_reducible refine (HVAL.out _ HRd.out).mono ?_); rintro e w2 ⟨rfl, h2, hk2⟩; have HS2 := Aside0.mk h2; have HK2 := Aside0.mk (show Keep V w2 (fun k => k = g) from ⟨hk2.os, hk2.tape, hk2.output, hk2.size, hk2.block⟩); clear h2 hk2)
        | (go_at_call 41; (with_reducible refine (HVAL.out _ HRd.out).mono ?_); rintro e w2 ⟨rfl, h2, hk2⟩; have HS2 := Aside0.mk h2; have HK2 := Aside0.mk (show Keep V w2 (fun k => k = g) from ⟨hk2.os, hk2.tape, hk2.output, hk2.size, hk2.block⟩); clear h2 hk2)
        | (go_at_call 42; (with_reducible refine (HVAL.out _ HRd.out).mono ?_); rintro e w2 ⟨rfl, h2, hk2⟩; have HS2 := Aside0.mk h2; have HK2 := Aside0.mk (show Keep V w2 (fun k => k = g) from ⟨hk2.os, hk2.tape, hk2.output, hk2.size, hk2.block⟩); clear h2 hk2))
      all_goals
        go_wp2_with (fail)
        go_meet
        exact ⟨HS2, HK2⟩
    case rest =>
      obtain ⟨HS2, HK2⟩ := hcut
      have hbx := (HK2.out.block w.heap.size (blk_lt HM3.out) (by omega)).trans HM3.out
      have y0 : wc.cell? ⟨w.heap.size, 0, none⟩ = some (.bool true) := blk_cell hbx 0
      have y1 : wc.cell? ⟨w.heap.size, 1, none⟩ = some (.int .i64 va) := blk_cell hbx 1
      have y2 : wc.cell? ⟨w.heap.size, 2, none⟩ = some (.int .u64 vb) := blk_cell hbx 2
      have HKW := Aside0.mk (HKV.out.trans HK2.out (fun k _ h => h) (fun k _ h => h))
      clear hbx e0 e1 e2 e5 q3 q4 f3 f4 b0
      go_wp2_with (first
        | (go_at_call 27; (with_reducible refine (HSAY.out _ HS2.out).mono ?_); rintro e w3 ⟨A', c', rfl, h3, hf3, hr3, hk3⟩; have HA3 := Aside0.mk h3; have HF3 := Aside0.mk hf3; have HS3 := Aside0.mk hr3; have HK3 := Aside0.mk (HKW.out.trans hk3 (fun k _ h => h) (fun k _ h => h)); have hz := HKW.out.size; clear h3 hf3 hr3 hk3))
      go_ret2
      rw [HST.out]
      refine ⟨A', c', rfl, HA3.out, fun ad e => Nat.le_trans hz (HF3.out ad e), HB.out.set HX.out HK3.out HS3.out, HK3.out.mono (fun k _ e => ⟨_, List.mem_of_getElem? HX.out, e⟩)⟩
end Go.Proofs.Ytadmigijbfdboaa.Q
