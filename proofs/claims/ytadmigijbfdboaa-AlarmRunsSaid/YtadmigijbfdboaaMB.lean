/- Texts of this claim, laid in one: contracts of functions that the claim reaches, and the plain laws that they want; under no condition beyond those that each theorem states. -/
import Derived.Test.YtadmigijbfdboaaRLevel
import Derived.Test.YtadmigijbfdboaaLInv
import Derived.BigQuiet
import Derived.Test.YtadmigijbfdboaaMC
namespace Go.Proofs.Ytadmigijbfdboaa.Q
open Go.RowKit Go.Proofs.YtadmigijbfdboaaW.PrintWords Go.Proofs.YtadmigijbfdboaaW.PrintLast Go.Proofs.YtadmigijbfdboaaW.PrintMore Go.Proofs.YtadmigijbfdboaaV
set_option linter.unusedVariables false
set_option linter.unusedSimpArgs false

/-- Cells from a place of a block on, that may be written. -/
structure KeptC (w : World) (g o : Nat) (cs : List Value) : Prop where
  cell : ∀ j u, cs[j]? = some u → w.cell? ⟨g, o + j, none⟩ = some u
  free : ∀ j, j < cs.length → w.frozen? ⟨g, o + j, none⟩ = false
theorem KeptC.set {w : World} {g o : Nat} {cs : List Value} (h : KeptC w g o cs) (j : Nat) (hj : j < cs.length) (u : Value) {cs' : List Value} (e : cs.set j u = cs') : KeptC (w.setCell ⟨g, o + j, none⟩ u) g o cs' := by
  subst e
  refine ⟨fun i v hv => ?_, fun i hi => ?_⟩
  · by_cases hij : j = i
    · subst hij
      rw [List.getElem?_set_self hj] at hv
      injection hv with hv
      subst hv
      exact World.cell?_setCell_same (h := h.cell j _ (List.getElem?_eq_getElem hj)) ..
    · rw [List.getElem?_set_ne hij] at hv
      rw [World.cell?_setCell_other (h := by intro q; injection q with q1 q2; omega)]
      exact h.cell i v hv
  · rw [World.frozen?_setCell]
    rw [List.length_set] at hi
    exact h.free i hi
/-- What is written lies in n cells of a block. -/
structure Frm (w w' : World) (g o n : Nat) : Prop where
  keep : Keep w w' (fun k => k = g)
  out : ∀ p, p < o ∨ o + n ≤ p → w'.cell? ⟨g, p, none⟩ = w.cell? ⟨g, p, none⟩ ∧ w'.frozen? ⟨g, p, none⟩ = w.frozen? ⟨g, p, none⟩
theorem Frm.refl (w : World) (g o n : Nat) : Frm w w g o n := ⟨Keep.refl w _, fun _ _ => ⟨rfl, rfl⟩⟩
theorem Frm.set {w w' : World} {g o n : Nat} (h : Frm w w' g o n) (j : Nat) (hj : j < n) (u : Value) : Frm w (w'.setCell ⟨g, o + j, none⟩ u) g o n := by
  refine ⟨h.keep.set _ _ (.inl rfl), fun p hp => ?_⟩
  rw [World.frozen?_setCell, World.cell?_setCell_other (h := by intro q; injection q with q1 q2; omega)]
  exact h.out p hp
theorem Frm.drewN {w w' : World} {g o n : Nat} (h : Frm w w' g o n) (m : Nat) : Frm w (w'.drewN m) g o n := ⟨h.keep.drewN m, fun p hp => h.out p hp⟩
theorem KeptC.drewN {w : World} {g o : Nat} {cs : List Value} (h : KeptC w g o cs) (m : Nat) : KeptC (w.drewN m) g o cs := ⟨fun j u hu => h.cell j u hu, fun j hj => h.free j hj⟩
def kc (r : Rul) (s : Stt) : List Value := [.string r.name, .bool r.above, .int .i64 (hiW r.warn), .int .u64 (loW r.warn), .int .i64 (hiW r.crit), .int .u64 (loW r.crit), .int .i64 (hiW r.slack), .int .u64 (loW r.slack), .int .i64 r.for_, .int .i64 r.absent, .int .i64 r.again, .int .i64 s.state, .int .i64 s.said, .int .i64 s.saidAt, .int .i64 s.next, .int .i64 s.points, .int .i64 s.gaps, .int .i64 (lastP s), .int .i64 s.muted]
/-- A gap. -/
def gapS (r : Rul) (s : Stt) : Stt := if 0 < r.absent ∧ r.absent ≤ s.gaps + 1 then enterS { s with gaps := s.gaps + 1, next := 0, points := 0 } 4 else { s with gaps := s.gaps + 1, next := 0, points := 0 }
set_option maxHeartbeats 3200000 in
theorem kept_gap {w : World} {g o : Nat} {r : Rul} {s : Stt} (h : KeptC w g o (kc r s)) (hg : 0 ≤ s.gaps ∧ s.gaps ≤ 9000000000000) :
    Calls Try.prog 36 #[.pointer (some ⟨g, o, none⟩)] w fun e w' => e = .returned (.tuple #[]) ∧ KeptC w' g o (kc r (gapS r s)) ∧ Frm w w' g o 19 := by
  have c9 := h.cell 9 _ rfl
  have c11 := h.cell 11 _ rfl
  have c14 := h.cell 14 _ rfl
  have c15 := h.cell 15 _ rfl
  have c16 := h.cell 16 _ rfl
  have f11 := h.free 11 (by show 11 < 19; decide)
  have f14 := h.free 14 (by show 14 < 19; decide)
  have f15 := h.free 15 (by show 15 < 19; decide)
  have f16 := h.free 16 (by show 16 < 19; decide)
  have h1 := h.set 16 (by show 16 < 19; decide) (.int .i64 (s.gaps + 1)) rfl
  have h2 := h1.set 14 (by show 14 < 19; decide) (.int .i64 0) rfl
  have h3 := h2.set 15 (by show 15 < 19; decide) (.int .i64 0) rfl
  have k3 := (((Frm.refl w g o 19).set 16 (by decide) (.int .i64 (s.gaps + 1))).set 14 (by decide) (.int .i64 0)).set 15 (by decide) (.int .i64 0)
  have K3 := Aside0.mk k3
  have K4 := Aside0.mk (fun m => (k3.drewN m).set 11 (by decide) (.int .i64 4))
  have H3 := Aside0.mk h3
  have H4 := Aside0.mk (fun m => (h3.drewN m).set 11 (by show 11 < 19; decide) (.int .i64 4) rfl)
  clear h h1 h2 h3 k3
  by_cases ha : 0 < r.absent
  · have d1 : decide (0 < r.absent) = true := decide_eq_true ha
    by_cases hb : r.absent ≤ s.gaps + 1
    · have d2 : decide (r.absent ≤ s.gaps + 1) = true := decide_eq_true hb
      have HG := Aside0.mk (show gapS r s = enterS { s with gaps := s.gaps + 1, next := 0, points := 0 } 4 by unfold gapS; rw [if_pos ⟨ha, hb⟩])
      clear ha hb
      go_enter Try.func36, Try.ntmps36
      go_upto_region 2 with (fail)
      go_quiet (fail)
      go_wp2
      go_end0
      rw [HG.out]
      exact ⟨rfl, H4.out nq, K4.out nq⟩
    · have d2 : decide (r.absent ≤ s.gaps + 1) = false := decide_eq_false hb
      have HG := Aside0.mk (show gapS r s = { s with gaps := s.gaps + 1, next := 0, points := 0 } by unfold gapS; rw [if_neg (fun q => hb q.2)])
      clear ha hb
      go_enter Try.func36, Try.ntmps36
      go_upto_region 2 with (fail)
      go_quiet (fail)
      go_wp2
      go_end0
      rw [HG.out]
      exact ⟨rfl, H3.out.drewN nq, K3.out.drewN nq⟩
  · have d1 : decide (0 < r.absent) = false := decide_eq_false ha
    have HG := Aside0.mk (show gapS r s = { s with gaps := s.gaps + 1, next := 0, points := 0 } by unfold gapS; rw [if_neg (fun q => ha q.1)])
    clear ha
    go_enter Try.func36, Try.ntmps36
    go_upto_region 2 with (fail)
    go_quiet (fail)
    go_wp2
    go_end0
    rw [HG.out]
    exact ⟨rfl, H3.out.drewN nq, K3.out.drewN nq⟩
end Go.Proofs.Ytadmigijbfdboaa.Q

namespace Go.Proofs.Ytadmigijbfdboaa.Q
open Go.RowKit Go.Proofs.YtadmigijbfdboaaW.PrintWords Go.Proofs.YtadmigijbfdboaaW.PrintLast Go.Proofs.YtadmigijbfdboaaW.PrintMore Go.Proofs.YtadmigijbfdboaaV
set_option linter.unusedVariables false
set_option linter.unusedSimpArgs false

theorem KeptC.lt {w : World} {g o : Nat} {cs : List Value} (h : KeptC w g o cs) {u : Value} (hu : cs[0]? = some u) : g < w.heap.size := cell_lt (h.cell 0 u hu)
theorem KeptC.below {w w' : World} {g o : Nat} {cs : List Value} (h : KeptC w g o cs) (hg : g < w.heap.size) (hb : Below w.heap.size w w') : KeptC w' g o cs :=
  ⟨fun j u hu => (cell_same (hb.block g hg)).trans (h.cell j u hu), fun j hj => by
    have := h.free j hj
    unfold World.frozen? at this ⊢
    rw [show w'.heap[({ block := g, off := o + j, spot := none } : Addr).block]? = w.heap[({ block := g, off := o + j, spot := none } : Addr).block]? from hb.block g hg]
    exact this⟩
theorem Frm.below {w w1 w2 : World} {g o n : Nat} (h : Frm w w1 g o n) (hg : g < w1.heap.size) (hb : Below w1.heap.size w1 w2) : Frm w w2 g o n :=
  ⟨h.keep.trans (Keep.of_below hb) (fun _ _ q => q) (fun _ _ q => q), fun p hp => by
    obtain ⟨a, b⟩ := h.out p hp
    refine ⟨(cell_same (hb.block g hg)).trans a, ?_⟩
    rw [← b]
    unfold World.frozen?
    rw [show w2.heap[({ block := g, off := p, spot := none } : Addr).block]? = w1.heap[({ block := g, off := p, spot := none } : Addr).block]? from hb.block g hg]⟩
set_option maxHeartbeats 6400000 in
set_option maxRecDepth 4000 in
theorem kept_value {w : World} {g o : Nat} {r : Rul} {s : Stt} (h : KeptC w g o (kc r s)) (ok : RulOk r) (hin : RulIn r) (hp : 0 ≤ s.points ∧ s.points ≤ 1000000) (v : Int) (hv : inW v) :
    Calls Try.prog 35 #[.pointer (some ⟨g, o, none⟩), WV v] w fun e w' => e = .returned (.tuple #[]) ∧ KeptC w' g o (kc r (comeP r { s with gaps := 0 } (levelP r v (wsP r s.state) (csP r s.state)))) ∧ Frm w w' g o 19 := by
  have HLv := Aside0.mk (fun W => ref_Level W r hin ok.slack.1 s.state v hv)
  obtain ⟨lv, hlv⟩ : ∃ l, l = levelP r v (wsP r s.state) (csP r s.state) := ⟨_, rfl⟩
  rw [← hlv] at HLv ⊢
  unfold WV ruleA at HLv
  unfold WV
  obtain ⟨va, hva⟩ : ∃ a, a = hiW v := ⟨_, rfl⟩
  obtain ⟨vb, hvb⟩ : ∃ a, a = loW v := ⟨_, rfl⟩
  rw [← hva, ← hvb] at HLv ⊢
  have hgl : g < w.heap.size := h.lt rfl
  have hb0 := (Below.refl w.heap.size w).alloc (Nat.le_refl _) (.cells #[.int .i64 va, .int .u64 vb] 24 (0, 0))
  have hW := h.below hgl hb0
  have h1 := hW.set 16 (by show 16 < 19; decide) (.int .i64 0) rfl
  have k1 := ((Frm.refl w g o 19).below hgl hb0).set 16 (by decide) (.int .i64 0)
  obtain ⟨W, hWe⟩ : ∃ W, W = w.alloc (.cells #[.int .i64 va, .int .u64 vb] 24 (0, 0)) := ⟨_, rfl⟩
  have n0 : W.heap[w.heap.size]? = some (.cells #[.int .i64 va, .int .u64 vb] 24 (0, 0)) := by rw [hWe]; exact heap_alloc_new _ _
  have v0 := blk_cell n0 0
  have v1 := blk_cell n0 1
  rw [← hWe] at hW h1 k1
  have hgW : g < (W.setCell ⟨g, o + 16, none⟩ (.int .i64 0)).heap.size := h1.lt rfl
  have hne : w.heap.size ≠ g := by omega
  have c0 : W.cell? ⟨g, o, none⟩ = _ := hW.cell 0 _ rfl
  have c1 := hW.cell 1 _ rfl
  have c2 := hW.cell 2 _ rfl
  have c3 := hW.cell 3 _ rfl
  have c4 := hW.cell 4 _ rfl
  have c5 := hW.cell 5 _ rfl
  have c6 := hW.cell 6 _ rfl
  have c7 := hW.cell 7 _ rfl
  have c8 := hW.cell 8 _ rfl
  have c9 := hW.cell 9 _ rfl
  have c10 := hW.cell 10 _ rfl
  have c11 := hW.cell 11 _ rfl
  have c16 := hW.cell 16 _ rfl
  have f16 := hW.free 16 (by show 16 < 19; decide)
  have HW := Aside0.mk hWe
  have H1 := Aside0.mk h1
  have K1 := Aside0.mk k1
  clear hW h1 k1 hWe n0 hb0 h hva hvb hin hv hlv
  go_enter Try.func35, Try.ntmps35
  go_upto_region 1 with (fail)
  rw [← HW.out]
  go_upto_region 2 with (fail)
  go_cut [4] from 8 to 18 (fun v4 wx => v4 = .int .i64 lv ∧ Aside0 (KeptC wx g o (kc r { s with gaps := 0 })) ∧ Aside0 (Frm w wx g o 19))
  case first =>
    go_region_with (first
      | (go_at_call 51; (with_reducible refine (HLv.out _).mono ?_); rintro e w2 ⟨rfl, hb⟩; have HB := Aside0.mk (undrew hb); clear hb))
    all_goals
      go_wp2_with (fail)
      go_meet
      exact ⟨rfl, ⟨H1.out.below hgW HB.out⟩, ⟨K1.out.below hgW HB.out⟩⟩
  case rest =>
    obtain ⟨rfl, HX, KX⟩ := hcut
    clear c0 c1 c2 c3 c4 c5 c6 c7 c8 c9 c10 c11 c16 f16 v0 v1 H1 K1 HLv HW hgW hne
    have h2 := HX.out
    have k2 := KX.out
    have c8 := h2.cell 8 _ rfl
    have c11 := h2.cell 11 _ rfl
    have c14 := h2.cell 14 _ rfl
    have c15 := h2.cell 15 _ rfl
    have f11 := h2.free 11 (by show 11 < 19; decide)
    have f14 := h2.free 14 (by show 14 < 19; decide)
    have f15 := h2.free 15 (by show 15 < 19; decide)
    clear h2 k2
    by_cases q1 : lv = s.state
    · have e1 : (lv == s.state) = true := beq_iff_eq.mpr q1
      have HC := Aside0.mk (show comeP r { s with gaps := 0 } lv = { s with gaps := 0, next := 0, points := 0 } by unfold comeP; rw [if_pos q1])
      (try clear hmore)
      (try clear q6)
      (try clear q5)
      (try clear q4)
      (try clear q3)
      (try clear q2)
      (try clear q1)
      go_wp2
      first | go_end0 | (refine bodyPost_ret (results_none rfl _ _ _) rfl ?_)
      rw [HC.out]
      exact ⟨rfl, ((HX.out.set 14 (by show 14 < 19; decide) (.int .i64 0) rfl).set 15 (by show 15 < 19; decide) (.int .i64 0) rfl), ((KX.out.set 14 (by decide) (.int .i64 0)).set 15 (by decide) (.int .i64 0))⟩
    · have e1 : (lv == s.state) = false := beq_eq_false_iff_ne.mpr q1
      by_cases q2 : s.state = 4
      · have e2 : (s.state != 4) = false := by rw [q2]; rfl
        have HC := Aside0.mk (show comeP r { s with gaps := 0 } lv = { s with gaps := 0, state := lv, next := 0, points := 0 } by unfold comeP; rw [if_neg q1, if_pos (.inl q2)]; rfl)
        (try clear hmore)
        (try clear q6)
        (try clear q5)
        (try clear q4)
        (try clear q3)
        (try clear q2)
        (try clear q1)
        go_wp2
        first | go_end0 | (refine bodyPost_ret (results_none rfl _ _ _) rfl ?_)
        rw [HC.out]
        exact ⟨rfl, (((HX.out.set 11 (by show 11 < 19; decide) (.int .i64 lv) rfl).set 14 (by show 14 < 19; decide) (.int .i64 0) rfl).set 15 (by show 15 < 19; decide) (.int .i64 0) rfl), (((KX.out.set 11 (by decide) (.int .i64 lv)).set 14 (by decide) (.int .i64 0)).set 15 (by decide) (.int .i64 0))⟩
      · by_cases q3 : lv < s.state
        · have e2 : (s.state != 4) = true := by simpa using q2
          have e3 : decide (s.state < lv) = false := decide_eq_false (by omega)
          have HC := Aside0.mk (show comeP r { s with gaps := 0 } lv = { s with gaps := 0, state := lv, next := 0, points := 0 } by unfold comeP; rw [if_neg q1, if_pos (.inr q3)]; rfl)
          (try clear hmore)
          (try clear q6)
          (try clear q5)
          (try clear q4)
          (try clear q3)
          (try clear q2)
          (try clear q1)
          go_wp2
          first | go_end0 | (refine bodyPost_ret (results_none rfl _ _ _) rfl ?_)
          rw [HC.out]
          exact ⟨rfl, (((HX.out.set 11 (by show 11 < 19; decide) (.int .i64 lv) rfl).set 14 (by show 14 < 19; decide) (.int .i64 0) rfl).set 15 (by show 15 < 19; decide) (.int .i64 0) rfl), (((KX.out.set 11 (by decide) (.int .i64 lv)).set 14 (by decide) (.int .i64 0)).set 15 (by decide) (.int .i64 0))⟩
        · have e2 : (s.state != 4) = true := by simpa using q2
          have e3 : decide (s.state < lv) = true := decide_eq_true (by omega)
          have q4 : ¬ (s.state = 4 ∨ lv < s.state) := fun q => q.elim q2 q3
          by_cases q5 : s.next = lv
          · have e5 : (s.next != lv) = false := by rw [q5]; simp
            have hmore : (moreS { s with gaps := 0 } lv) = { s with gaps := 0, points := s.points + 1 } := by unfold moreS; rw [if_pos (show ({ s with gaps := 0 } : Stt).next = lv from q5), if_pos (show ({ s with gaps := 0 } : Stt).next = lv from q5)]
            by_cases q6 : r.for_ ≤ s.points + 1
            · have e6 : decide (s.points + 1 < r.for_) = false := decide_eq_false (by omega)
              have HC := Aside0.mk (show comeP r { s with gaps := 0 } lv = { s with gaps := 0, state := lv, next := 0, points := 0 } by unfold comeP; rw [if_neg q1, if_neg q4, hmore, if_pos q6]; rfl)
              (try clear hmore)
              (try clear q6)
              (try clear q5)
              (try clear q4)
              (try clear q3)
              (try clear q2)
              (try clear q1)
              go_upto_region 9 with (fail)
              go_quiet (fail)
              go_wp2
              first | go_end0 | (refine bodyPost_ret (results_none rfl _ _ _) rfl ?_)
              rw [HC.out]
              exact ⟨rfl, (((((HX.out.set 15 (by show 15 < 19; decide) (.int .i64 (s.points + 1)) rfl).drewN nq).set 11 (by show 11 < 19; decide) (.int .i64 lv) rfl).set 14 (by show 14 < 19; decide) (.int .i64 0) rfl).set 15 (by show 15 < 19; decide) (.int .i64 0) rfl), (((((KX.out.set 15 (by decide) (.int .i64 (s.points + 1))).drewN nq).set 11 (by decide) (.int .i64 lv)).set 14 (by decide) (.int .i64 0)).set 15 (by decide) (.int .i64 0))⟩
            · have e6 : decide (s.points + 1 < r.for_) = true := decide_eq_true (by omega)
              have HC := Aside0.mk (show comeP r { s with gaps := 0 } lv = { s with gaps := 0, points := s.points + 1 } by unfold comeP; rw [if_neg q1, if_neg q4, hmore, if_neg q6])
              (try clear hmore)
              (try clear q6)
              (try clear q5)
              (try clear q4)
              (try clear q3)
              (try clear q2)
              (try clear q1)
              go_upto_region 9 with (fail)
              go_quiet (fail)
              go_wp2
              first | go_end0 | (refine bodyPost_ret (results_none rfl _ _ _) rfl ?_)
              rw [HC.out]
              exact ⟨rfl, ((HX.out.set 15 (by show 15 < 19; decide) (.int .i64 (s.points + 1)) rfl).drewN nq), ((KX.out.set 15 (by decide) (.int .i64 (s.points + 1))).drewN nq)⟩
          · have e5 : (s.next != lv) = true := by simpa using q5
            have hmore : (moreS { s with gaps := 0 } lv) = { s with gaps := 0, next := lv, points := 1 } := by unfold moreS; rw [if_neg (show ¬ ({ s with gaps := 0 } : Stt).next = lv from q5), if_neg (show ¬ ({ s with gaps := 0 } : Stt).next = lv from q5)]; rfl
            have hfin := (((HX.out.set 14 (by show 14 < 19; decide) (.int .i64 lv) rfl).set 15 (by show 15 < 19; decide) (.int .i64 0) rfl).set 15 (by show 15 < 19; decide) (.int .i64 (1)) rfl)
            have z15 := hfin.cell 15 _ rfl
            have z15n := fun n => (hfin.drewN n).cell 15 _ rfl
            clear hfin
            by_cases q6 : r.for_ ≤ 1
            · have e6 : decide (1 < r.for_) = false := decide_eq_false (by omega)
              have HC := Aside0.mk (show comeP r { s with gaps := 0 } lv = { s with gaps := 0, state := lv, next := 0, points := 0 } by unfold comeP; rw [if_neg q1, if_neg q4, hmore, if_pos q6]; rfl)
              (try clear hmore)
              (try clear q6)
              (try clear q5)
              (try clear q4)
              (try clear q3)
              (try clear q2)
              (try clear q1)
              go_upto_region 9 with (fail)
              go_quiet (fail)
              go_wp2
              first | go_end0 | (refine bodyPost_ret (results_none rfl _ _ _) rfl ?_)
              rw [HC.out]
              exact ⟨rfl, (((((((HX.out.set 14 (by show 14 < 19; decide) (.int .i64 lv) rfl).set 15 (by show 15 < 19; decide) (.int .i64 0) rfl).set 15 (by show 15 < 19; decide) (.int .i64 (1)) rfl).drewN nq).set 11 (by show 11 < 19; decide) (.int .i64 lv) rfl).set 14 (by show 14 < 19; decide) (.int .i64 0) rfl).set 15 (by show 15 < 19; decide) (.int .i64 0) rfl), (((((((KX.out.set 14 (by decide) (.int .i64 lv)).set 15 (by decide) (.int .i64 0)).set 15 (by decide) (.int .i64 (1))).drewN nq).set 11 (by decide) (.int .i64 lv)).set 14 (by decide) (.int .i64 0)).set 15 (by decide) (.int .i64 0))⟩
            · have e6 : decide (1 < r.for_) = true := decide_eq_true (by omega)
              have HC := Aside0.mk (show comeP r { s with gaps := 0 } lv = { s with gaps := 0, next := lv, points := 1 } by unfold comeP; rw [if_neg q1, if_neg q4, hmore, if_neg q6])
              (try clear hmore)
              (try clear q6)
              (try clear q5)
              (try clear q4)
              (try clear q3)
              (try clear q2)
              (try clear q1)
              go_upto_region 9 with (fail)
              go_quiet (fail)
              go_wp2
              first | go_end0 | (refine bodyPost_ret (results_none rfl _ _ _) rfl ?_)
              rw [HC.out]
              exact ⟨rfl, ((((HX.out.set 14 (by show 14 < 19; decide) (.int .i64 lv) rfl).set 15 (by show 15 < 19; decide) (.int .i64 0) rfl).set 15 (by show 15 < 19; decide) (.int .i64 (1)) rfl).drewN nq), ((((KX.out.set 14 (by decide) (.int .i64 lv)).set 15 (by decide) (.int .i64 0)).set 15 (by decide) (.int .i64 (1))).drewN nq)⟩
end Go.Proofs.Ytadmigijbfdboaa.Q

namespace Go.Proofs.Ytadmigijbfdboaa.Q
open Go.RowKit Go.Proofs.YtadmigijbfdboaaW.PrintWords Go.Proofs.YtadmigijbfdboaaW.PrintLast Go.Proofs.YtadmigijbfdboaaW.PrintMore Go.Proofs.YtadmigijbfdboaaV
set_option linter.unusedVariables false
set_option linter.unusedSimpArgs false

/-- The reference's book: its block gb, its rules side by side from place o of block g on. (The entries' block numbers tell nothing here.) -/
structure RBookAt (w : World) (gb g o : Nat) (A : Option Addr) (c : Nat) (L : List Ent) : Prop where
  blk : w.heap[gb]? = some (.cells #[.slice A L.length c] 55 (0, 0))
  at_ : L ≠ [] → A = some ⟨g, o, none⟩
  row : ∀ i x, L[i]? = some x → KeptC w g (o + i * 19) (kc x.2.1 x.2.2)
  ne : L ≠ [] → gb ≠ g
theorem add_none (g o k : Nat) : (⟨g, o, none⟩ : Addr).add k = ⟨g, o + k, none⟩ := by
  unfold Addr.add
  split
  · rename_i e; rw [e]; rfl
  · rfl
def idxI (L : List Ent) (name : ByteArray) : Int := match idxP L name with | none => -1 | some i => (i : Int)
set_option maxHeartbeats 3200000 in
theorem refb_find {w : World} {gb g o : Nat} {A : Option Addr} {c : Nat} {L : List Ent} (h : RBookAt w gb g o A c L) (name : ByteArray) (hL : L.length ≤ 1000000) :
    Calls Try.prog 34 #[.pointer (some ⟨gb, 0, none⟩), .string name] w fun e w' => e = .returned (.int .i64 (idxI L name)) ∧ w = w' := by
  have c0 : w.cell? ⟨gb, 0, none⟩ = some (.slice A L.length c) := blk_cell h.blk 0
  have HB := Aside0.mk h
  clear h
  go_enter Try.func34, Try.ntmps34
  go_wp2
  go_loopg [5] L.length (fun kq v5 w' => ∃ i : Nat, v5 = .int .i64 i ∧ i + kq = L.length ∧ Aside0 (∀ j, j < i → ∀ x, L[j]? = some x → x.2.1.name ≠ name) ∧ w' = w)
  case atStart => exact ⟨0, rfl, by omega, ⟨fun j hj => by omega⟩, rfl⟩
  case round =>
    obtain ⟨i, rfl, hik, HN, rfl⟩ := hrel
    cases gk with
    | zero =>
      have d1 : decide (i < L.length) = false := decide_eq_false (by omega)
      have HI := Aside0.mk (show idxI L name = -1 by
        have hn : idxP L name = none := List.findIdx?_eq_none_iff.2 (fun x hx => by
          obtain ⟨j, hj⟩ := List.mem_iff_getElem?.1 hx
          have := HN.out j (by have := (List.getElem?_eq_some_iff.1 hj).1; omega) x hj
          simp [this])
        unfold idxI
        rw [hn])
      go_wp2
      go_ret
      rw [HI.out]
      exact ⟨rfl, rfl⟩
    | succ k1 =>
      have hlt : i < L.length := by omega
      have d1 : decide (i < L.length) = true := decide_eq_true hlt
      obtain ⟨x, hx⟩ : ∃ x, L[i]? = some x := ⟨L[i], List.getElem?_eq_getElem hlt⟩
      have hA := HB.out.at_ (by intro q; rw [q] at hlt; simp at hlt)
      subst hA
      have hadd := add_none g o (i * 19)
      have q1 : wr.cell? ⟨g, o + i * 19, none⟩ = _ := (HB.out.row i x hx).cell 0 _ rfl
      by_cases he : x.2.1.name = name
      · have e1 := toL_yes he
        have HV := Aside0.mk (show idxI L name = (i : Int) by
          unfold idxI
          rw [idxP_some hx he HN.out])
        clear he hx
        go_wp2
        go_ret
        rw [HV.out]
        exact ⟨rfl, rfl⟩
      · have e1 := toL_no he
        have HN2 := Aside0.mk (show ∀ j, j < i + 1 → ∀ x, L[j]? = some x → x.2.1.name ≠ name from fun j hj y hy => by
          by_cases hji : j = i
          · subst hji
            rw [hx] at hy
            injection hy with hy
            subst hy
            exact he
          · exact HN.out j (by omega) y hy)
        clear he hx HN
        go_wp2
        go_roundg k1
        case rel => exact ⟨i + 1, by go_num, by omega, HN2, rfl⟩
        case measure => omega
theorem ne_of_get {L : List Ent} {i : Nat} {x : Ent} (h : L[i]? = some x) : L ≠ [] := by
  rintro rfl
  simp at h
theorem RBookAt.below {w w' : World} {gb g o : Nat} {A : Option Addr} {c : Nat} {L : List Ent} (h : RBookAt w gb g o A c L) (hb : Below w.heap.size w w') : RBookAt w' gb g o A c L :=
  ⟨(hb.block gb (blk_lt h.blk)).trans h.blk, h.at_, fun i x hx => (h.row i x hx).below ((h.row i x hx).lt rfl) hb, h.ne⟩
/-- One rule has moved on. -/
theorem RBookAt.set {w w' : World} {gb g o : Nat} {A : Option Addr} {c : Nat} {L : List Ent} (h : RBookAt w gb g o A c L) {i : Nat} {n : Nat} {r : Rul} {s s' : Stt} (hi : L[i]? = some (n, r, s)) (hk : KeptC w' g (o + i * 19) (kc r s')) (hf : Frm w w' g (o + i * 19) 19) : RBookAt w' gb g o A c (L.set i (n, r, s')) := by
  have hn := ne_of_get hi
  have hl := (List.getElem?_eq_some_iff.1 hi).1
  refine ⟨?_, fun _ => h.at_ hn, fun j x hx => ?_, fun _ => h.ne hn⟩
  · rw [List.length_set]
    exact (hf.keep.block gb (blk_lt h.blk) (h.ne hn)).trans h.blk
  · rw [List.getElem?_set] at hx
    split at hx
    · rename_i e
      subst e
      injection hx with hx
      subst hx
      exact hk
    · rename_i hij
      have hr := h.row j x hx
      have hlen : (kc x.2.1 x.2.2).length = 19 := rfl
      refine ⟨fun m u hu => ?_, fun m hm => ?_⟩
      · have hm : m < 19 := by rw [← hlen]; exact (List.getElem?_eq_some_iff.1 hu).1
        rw [(hf.out (o + j * 19 + m) (by omega)).1]
        exact hr.cell m u hu
      · have hm' : m < 19 := by rw [← hlen]; exact hm
        rw [(hf.out (o + j * 19 + m) (by omega)).2]
        exact hr.free m hm
set_option maxHeartbeats 1600000 in
theorem refb_State {w : World} {gb g o : Nat} {A : Option Addr} {c : Nat} {L : List Ent} (h : RBookAt w gb g o A c L) (name : ByteArray) (hL : L.length ≤ 1000000) :
    Calls Try.prog 21 #[.pointer (some ⟨gb, 0, none⟩), .string name] w fun e w' => e = .returned (.tuple #[.int .i64 (stateP L name).1, .bool (stateP L name).2]) ∧ w = w' := by
  have HF := Aside0.mk (refb_find h name hL)
  unfold idxI at HF
  cases hi : idxP L name with
  | none =>
    rw [hi] at HF
    have HM := Aside0.mk (show stateP L name = (0, false) by unfold stateP; rw [hi])
    clear h hi
    go_enter Try.func21, Try.ntmps21
    go_wp2_with (first | (go_at_call 34; (with_reducible refine (HF.out).mono ?_); rintro e w1 ⟨rfl, rfl⟩))
    go_ret2
    rw [HM.out]
    exact ⟨rfl, rfl⟩
  | some i =>
    obtain ⟨x, hx, hn, -⟩ := idxP_lt hi
    rw [hi] at HF
    have c0 : w.cell? ⟨gb, 0, none⟩ = some (.slice A L.length c) := blk_cell h.blk 0
    have hA := h.at_ (ne_of_get hx)
    subst hA
    have hadd := add_none g o (i * 19)
    have q1 := (h.row i x hx).cell 11 _ rfl
    have hlt : i < L.length := (List.getElem?_eq_some_iff.1 hx).1
    have d0 : decide ((i : Int) < 0) = false := decide_eq_false (by omega)
    have HM := Aside0.mk (show stateP L name = (x.2.2.state, true) by unfold stateP; rw [hi]; simp only [hx])
    clear h hi hx hn
    go_enter Try.func21, Try.ntmps21
    go_wp2_with (first | (go_at_call 34; (with_reducible refine (HF.out).mono ?_); rintro e w1 ⟨rfl, rfl⟩))
    go_ret2
    rw [HM.out]
    exact ⟨rfl, rfl⟩
set_option maxHeartbeats 1600000 in
theorem refb_Mute {w : World} {gb g o : Nat} {A : Option Addr} {c : Nat} {L : List Ent} (h : RBookAt w gb g o A c L) (name : ByteArray) (t : Int) (hL : L.length ≤ 1000000) :
    Calls Try.prog 20 #[.pointer (some ⟨gb, 0, none⟩), .string name, .int .i64 t] w fun e w' => e = .returned (.int .i64 (muteP L name t).1) ∧ RBookAt w' gb g o A c (muteP L name t).2 ∧ Keep w w' (fun k => L ≠ [] ∧ k = g) := by
  have HF := Aside0.mk (refb_find h name hL)
  unfold idxI at HF
  have HB := Aside0.mk h
  cases hi : idxP L name with
  | none =>
    rw [hi] at HF
    have HM := Aside0.mk (show muteP L name t = (231, L) by unfold muteP; rw [hi])
    clear h hi
    go_enter Try.func20, Try.ntmps20
    go_wp2_with (first | (go_at_call 34; (with_reducible refine (HF.out).mono ?_); rintro e w1 ⟨rfl, rfl⟩))
    go_ret
    rw [HM.out]
    exact ⟨rfl, HB.out, Keep.refl _ _⟩
  | some i =>
    obtain ⟨x, hx, hn, -⟩ := idxP_lt hi
    obtain ⟨nb, r, s⟩ := x
    rw [hi] at HF
    have c0 : w.cell? ⟨gb, 0, none⟩ = some (.slice A L.length c) := blk_cell h.blk 0
    have hne := ne_of_get hx
    have hA := h.at_ hne
    subst hA
    have hadd := add_none g o (i * 19)
    have hr := h.row i _ hx
    have q1 := hr.cell 18 _ rfl
    have q2 := hr.free 18 (by show 18 < 19; decide)
    have hlt : i < L.length := (List.getElem?_eq_some_iff.1 hx).1
    have d0 : decide ((i : Int) < 0) = false := decide_eq_false (by omega)
    have hfr := (Frm.refl w g (o + i * 19) 19).set 18 (by decide) (.int .i64 t)
    have HN := Aside0.mk (h.set hx (hr.set 18 (by show 18 < 19; decide) (.int .i64 t) (show _ = kc r { s with muted := t } from rfl)) hfr)
    have HK := Aside0.mk (hfr.keep.mono (fun k _ e => (⟨hne, e⟩ : L ≠ [] ∧ k = g)))
    by_cases ht : inT t
    · have HM := Aside0.mk (show muteP L name t = (0, L.set i (nb, r, { s with muted := t })) by unfold muteP; rw [hi]; simp only [if_pos ht, hx])
      have d1 : decide (t < 0) = false := decide_eq_false (by have := ht.1; omega)
      have d2 : decide (1099511627775 < t) = false := decide_eq_false (by have := ht.2; omega)
      clear h hi hx hn hr hfr hne ht
      go_enter Try.func20, Try.ntmps20
      go_wp2_with (first | (go_at_call 34; (with_reducible refine (HF.out).mono ?_); rintro e w1 ⟨rfl, rfl⟩))
      go_ret
      rw [HM.out]
      exact ⟨rfl, HN.out, HK.out⟩
    · have HM := Aside0.mk (show muteP L name t = (1, L) by unfold muteP; rw [hi]; simp only [if_neg ht])
      have dd : decide (t < 0) = true ∨ (decide (t < 0) = false ∧ decide (1099511627775 < t) = true) := by
        unfold inT at ht
        simp only [decide_eq_true_eq, decide_eq_false_iff_not]
        omega
      clear h hi hx hn hr hfr hne ht
      rcases dd with d1 | ⟨d1, d2⟩
      all_goals
        go_enter Try.func20, Try.ntmps20
        go_wp2_with (first | (go_at_call 34; (with_reducible refine (HF.out).mono ?_); rintro e w1 ⟨rfl, rfl⟩))
        go_ret
        rw [HM.out]
        exact ⟨rfl, HB.out, Keep.refl _ _⟩
end Go.Proofs.Ytadmigijbfdboaa.Q

namespace Go.Proofs.Ytadmigijbfdboaa.Q
open Go.RowKit Go.Proofs.YtadmigijbfdboaaW.PrintWords Go.Proofs.YtadmigijbfdboaaW.PrintLast Go.Proofs.YtadmigijbfdboaaW.PrintMore Go.Proofs.YtadmigijbfdboaaV
set_option linter.unusedVariables false
set_option linter.unusedSimpArgs false

set_option maxHeartbeats 3200000 in
set_option maxRecDepth 4000 in
theorem refb_Feed_err {w : World} {gb g o : Nat} {A : Option Addr} {c : Nat} {L : List Ent} (h : RBookAt w gb g o A c L) (name : ByteArray) (at_ : Int) (is : Bool) (va vb : Int) (hL : L.length ≤ 1000000) (er : Int)
    (her : (idxP L name = none ∧ er = 231) ∨ (∃ i n r s, idxP L name = some i ∧ L[i]? = some (n, r, s) ∧ ((¬ inT at_ ∧ er = 1) ∨ (inT at_ ∧ at_ ≤ lastP s ∧ er = 232)))) :
    Calls Try.prog 17 #[.pointer (some ⟨gb, 0, none⟩), .string name, .int .i64 at_, .agg #[.bool is, .int .i64 va, .int .u64 vb]] w fun e w' => e = .returned (.tuple #[.slice none 0 0, .int .i64 er]) ∧ Below w.heap.size w w' := by
  obtain ⟨W, hW⟩ : ∃ W, W = w.alloc (.cells #[.bool is, .int .i64 va, .int .u64 vb] 37 (0, 0)) := ⟨_, rfl⟩
  have hb : Below w.heap.size w W := by rw [hW]; exact (Below.refl _ _).alloc (Nat.le_refl _) _
  have hBW := h.below hb
  have HF := Aside0.mk (refb_find hBW name hL)
  unfold idxI at HF
  have HB := Aside0.mk hb
  have HW := Aside0.mk hW
  rcases her with ⟨hi, rfl⟩ | ⟨i, n, r, s, hi, hx, her⟩
  · rw [hi] at HF
    clear h hW hb hBW hi
    go_enter Try.func17, Try.ntmps17
    go_upto_region 1 with (fail)
    rw [← HW.out]
    go_wp2_with (first | (go_at_call 34; (with_reducible refine (HF.out).mono ?_); rintro e w1 ⟨rfl, rfl⟩))
    go_ret2
    exact ⟨rfl, HB.out⟩
  · rw [hi] at HF
    have c0 : W.cell? ⟨gb, 0, none⟩ = some (.slice A L.length c) := blk_cell hBW.blk 0
    have hA := h.at_ (ne_of_get hx)
    subst hA
    have hadd := add_none g o (i * 19)
    have q1 := (hBW.row i _ hx).cell 17 _ rfl
    have hlt : i < L.length := (List.getElem?_eq_some_iff.1 hx).1
    have d0 : decide ((i : Int) < 0) = false := decide_eq_false (by omega)
    rcases her with ⟨ht, rfl⟩ | ⟨ht, hp, rfl⟩
    · have dd : decide (at_ < 0) = true ∨ (decide (at_ < 0) = false ∧ decide (1099511627775 < at_) = true) := by
        unfold inT at ht
        simp only [decide_eq_true_eq, decide_eq_false_iff_not]
        omega
      clear h hW hb hBW hi hx ht q1
      rcases dd with d1 | ⟨d1, d2⟩
      all_goals
        go_enter Try.func17, Try.ntmps17
        go_upto_region 1 with (fail)
        rw [← HW.out]
        go_wp2_with (first | (go_at_call 34; (with_reducible refine (HF.out).mono ?_); rintro e w1 ⟨rfl, rfl⟩))
        go_ret2
        exact ⟨rfl, HB.out⟩
    · have d1 : decide (at_ < 0) = false := decide_eq_false (by have := ht.1; omega)
      have d2 : decide (1099511627775 < at_) = false := decide_eq_false (by have := ht.2; omega)
      have d3 : decide (at_ ≤ lastP s) = true := decide_eq_true hp
      clear h hW hb hBW hi hx ht hp
      go_enter Try.func17, Try.ntmps17
      go_upto_region 1 with (fail)
      rw [← HW.out]
      go_wp2_with (first | (go_at_call 34; (with_reducible refine (HF.out).mono ?_); rintro e w1 ⟨rfl, rfl⟩))
      go_ret2
      exact ⟨rfl, HB.out⟩
end Go.Proofs.Ytadmigijbfdboaa.Q
