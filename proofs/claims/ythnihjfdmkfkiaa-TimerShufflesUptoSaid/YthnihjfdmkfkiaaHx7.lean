/- A text of this claim: functions of the program as Lean functions, each with its contract; written by a program of the session's own over the kit's print. -/
import Derived.Test.YthnihjfdmkfkiaaHx0
import Derived.Test.YthnihjfdmkfkiaaHx2
import Derived.Test.YthnihjfdmkfkiaaHx3
import Derived.Test.YthnihjfdmkfkiaaHx4
import Derived.Test.YthnihjfdmkfkiaaHx5
import Derived.Test.YthnihjfdmkfkiaaHx6
namespace Go.Proofs.Ythnihjfdmkfkiaa.H
open Go.RowKit Go.Proofs.YthnihjfdmkfkiaaW.PrintWords Go.Proofs.YthnihjfdmkfkiaaW.PrintLast Go.Proofs.YthnihjfdmkfkiaaW.PrintMore
attribute [local go_sem] max2_int min2_int max_two min_two max_three min_three max_four min_four   -- for this text's walks alone
set_option linter.unusedVariables false
set_option linter.unusedSimpArgs false

attribute [local go_sem high] eqA27 eqA53
/-! ### tumblerlaw09_TimerShuffles: function 9 -/
mutual
def tumblerlaw09_TimerShuffles.j0 : Nat → List Int → Int → Int → List Int → Bool → Option (Bool)
  | 0, _, _, _, _, _ => none
  | k + 1, x0, x1, x2, x3, x32 => if x32 = true then (tumblerlaw09_TimerShuffles.j1 k x0 (wrap64 ((x0.length : Int) / 2)) x2 x3) else (tumblerlaw09_TimerShuffles.j1 k x0 x1 x2 x3)
def tumblerlaw09_TimerShuffles.j1 : Nat → List Int → Int → Int → List Int → Option (Bool)
  | 0, _, _, _, _ => none
  | k + 1, x0, x1, x2, x3 => tumblerlaw09_TimerShuffles.l0 k x0 x1 x2 x3 ([] : List Int) (wrap64 ((x0.length : Int) - 1))
def tumblerlaw09_TimerShuffles.l0 : Nat → List Int → Int → Int → List Int → List Int → Int → Option (Bool)
  | 0, _, _, _, _, _, _ => none
  | k + 1, x0, x1, x2, x3, x9, x10 => if x10 ≥ x1 then (if 0 ≤ x10 then (if x10 < (x0.length : Int) then (if x9.length < 17592186044416 then (tumblerlaw09_TimerShuffles.l0 k x0 x1 x2 x3 (x9 ++ [rd x0 x10]) (wrap64 (x10 - 1))) else (none)) else (none)) else (none)) else (if 0 ≤ x1 then (if x1 ≤ (x0.length : Int) then (if x9.length + (x0.take (x1 : Int).toNat).length < 17592186044416 then ((some (x9 ++ (x0.take (x1 : Int).toNat) : List Int)).bind fun y174 => ((timer_Of.f x0).bind fun bt177 => ((timer_Of.f y174).bind fun bt187 => ((timer_Upto.f k x0 x2).bind fun bt197 => ((timer_Upto.f k y174 x2).bind fun bt204 => ((timer_Bins.f x0 x3).bind fun bt211 => ((timer_Bins.f y174 x3).bind fun bt215 => (if (!(bt177.1 == bt187.1) || ((!(bt177.2.1 == bt187.2.1) || (!(bt177.2.2.1 == bt187.2.2.1))) || (!(bt177.2.2.2.1 == bt187.2.2.2.1) || (!(bt177.2.2.2.2.1 == bt187.2.2.2.2.1) || (!(bt177.2.2.2.2.2.1 == bt187.2.2.2.2.2.1) || (!(bt177.2.2.2.2.2.2.1 == bt187.2.2.2.2.2.2.1) || (!(bt177.2.2.2.2.2.2.2.1 == bt187.2.2.2.2.2.2.2.1)))))))) = true then (tumblerlaw09_TimerShuffles.j3 k x0 bt211.1 bt211.2 bt215.1 true) else (if bt177.2.2.2.2.2.2.2.2 = bt187.2.2.2.2.2.2.2.2 then (if (!(bt197.1 == bt204.1) || ((!(bt197.2.1 == bt204.2.1) || (!(bt197.2.2.1 == bt204.2.2.1))) || (!(bt197.2.2.2.1 == bt204.2.2.2.1) || (!(bt197.2.2.2.2.1 == bt204.2.2.2.2.1))))) = true then (tumblerlaw09_TimerShuffles.j3 k x0 bt211.1 bt211.2 bt215.1 true) else (if bt197.2.2.2.2.2 = bt204.2.2.2.2.2 then (if bt211.2 = bt215.2 then (tumblerlaw09_TimerShuffles.j3 k x0 bt211.1 bt211.2 bt215.1 ((bt211.1.length : Int) != (bt215.1.length : Int))) else (tumblerlaw09_TimerShuffles.j3 k x0 bt211.1 bt211.2 bt215.1 true)) else (tumblerlaw09_TimerShuffles.j3 k x0 bt211.1 bt211.2 bt215.1 true))) else (tumblerlaw09_TimerShuffles.j3 k x0 bt211.1 bt211.2 bt215.1 true)))))))))) else (none)) else (none)) else (none))
def tumblerlaw09_TimerShuffles.j3 : Nat → List Int → List Int → Int → List Int → Bool → Option (Bool)
  | 0, _, _, _, _, _ => none
  | k + 1, x0, x19, x20, x21, x119 => if x119 = true then (some false) else (tumblerlaw09_TimerShuffles.l1 k x0 x19 x20 x21 0 0)
def tumblerlaw09_TimerShuffles.l1 : Nat → List Int → List Int → Int → List Int → Int → Int → Option (Bool)
  | 0, _, _, _, _, _, _ => none
  | k + 1, x0, x19, x20, x21, x23, x24 => if x24 < (x19.length : Int) then (if 0 ≤ x24 then (if x24 < (x21.length : Int) then (if (rd x19 x24) = (rd x21 x24) then (tumblerlaw09_TimerShuffles.l1 k x0 x19 x20 x21 (wrap64 (x23 + (rd x19 x24))) (wrap64 (x24 + 1))) else (some false)) else (none)) else (none)) else (if x20 = 0 then (if x23 = (x0.length : Int) then ((tumblerlaw09_alive.f).bind fun t222 => (some t222)) else (some false)) else ((tumblerlaw09_alive.f).bind fun t223 => (some t223)))
end
def tumblerlaw09_TimerShuffles.f (k : Nat) (l0 : List Int) (a1 : Int) (a2 : Int) (l3 : List Int) : Option (Bool) := if a1 < 0 then (tumblerlaw09_TimerShuffles.j0 k l0 a1 a2 l3 true) else (tumblerlaw09_TimerShuffles.j0 k l0 a1 a2 l3 (decide (a1 > (l0.length : Int))))
theorem tumblerlaw09_TimerShuffles.mono_l : ∀ k, (∀ y0 y1 y2 y3 y4, LeO (tumblerlaw09_TimerShuffles.j0 k y0 y1 y2 y3 y4) (tumblerlaw09_TimerShuffles.j0 (k + 1) y0 y1 y2 y3 y4)) ∧ (∀ y0 y1 y2 y3, LeO (tumblerlaw09_TimerShuffles.j1 k y0 y1 y2 y3) (tumblerlaw09_TimerShuffles.j1 (k + 1) y0 y1 y2 y3)) ∧ (∀ y0 y1 y2 y3 y4 y5, LeO (tumblerlaw09_TimerShuffles.l0 k y0 y1 y2 y3 y4 y5) (tumblerlaw09_TimerShuffles.l0 (k + 1) y0 y1 y2 y3 y4 y5)) ∧ (∀ y0 y1 y2 y3 y4, LeO (tumblerlaw09_TimerShuffles.j3 k y0 y1 y2 y3 y4) (tumblerlaw09_TimerShuffles.j3 (k + 1) y0 y1 y2 y3 y4)) ∧ (∀ y0 y1 y2 y3 y4 y5, LeO (tumblerlaw09_TimerShuffles.l1 k y0 y1 y2 y3 y4 y5) (tumblerlaw09_TimerShuffles.l1 (k + 1) y0 y1 y2 y3 y4 y5))
  | 0 => ⟨fun _ _ _ _ _ r h => by simp [tumblerlaw09_TimerShuffles.j0] at h, fun _ _ _ _ r h => by simp [tumblerlaw09_TimerShuffles.j1] at h, fun _ _ _ _ _ _ r h => by simp [tumblerlaw09_TimerShuffles.l0] at h, fun _ _ _ _ _ r h => by simp [tumblerlaw09_TimerShuffles.j3] at h, fun _ _ _ _ _ _ r h => by simp [tumblerlaw09_TimerShuffles.l1] at h⟩
  | k + 1 => by
    obtain ⟨ih0, ih1, ih2, ih3, ih4⟩ := tumblerlaw09_TimerShuffles.mono_l k
    refine ⟨?_, ?_, ?_, ?_, ?_⟩
    · intro y0 y1 y2 y3 y4
      unfold tumblerlaw09_TimerShuffles.j0
      repeat' first
      | (with_reducible exact ih0 _ _ _ _ _)
      | (with_reducible exact ih1 _ _ _ _)
      | (with_reducible exact ih2 _ _ _ _ _ _)
      | (with_reducible exact ih3 _ _ _ _ _)
      | (with_reducible exact ih4 _ _ _ _ _ _)
      | (with_reducible exact timer_Upto.mono _ _ _)
      | (with_reducible exact LeO.refl _)
      | (with_reducible exact LeO.none _)
      | (with_reducible refine LeO.ite ?_ ?_)
      | (with_reducible refine LeO.bind ?_ (fun _ => ?_))
      | exact ih0 _ _ _ _ _
      | exact ih1 _ _ _ _
      | exact ih2 _ _ _ _ _ _
      | exact ih3 _ _ _ _ _
      | exact ih4 _ _ _ _ _ _
      | exact timer_Upto.mono _ _ _
      | exact LeO.none _
      | refine LeO.ite ?_ ?_
      | refine LeO.bind ?_ (fun _ => ?_)
    · intro y0 y1 y2 y3
      unfold tumblerlaw09_TimerShuffles.j1
      repeat' first
      | (with_reducible exact ih0 _ _ _ _ _)
      | (with_reducible exact ih1 _ _ _ _)
      | (with_reducible exact ih2 _ _ _ _ _ _)
      | (with_reducible exact ih3 _ _ _ _ _)
      | (with_reducible exact ih4 _ _ _ _ _ _)
      | (with_reducible exact timer_Upto.mono _ _ _)
      | (with_reducible exact LeO.refl _)
      | (with_reducible exact LeO.none _)
      | (with_reducible refine LeO.ite ?_ ?_)
      | (with_reducible refine LeO.bind ?_ (fun _ => ?_))
      | exact ih0 _ _ _ _ _
      | exact ih1 _ _ _ _
      | exact ih2 _ _ _ _ _ _
      | exact ih3 _ _ _ _ _
      | exact ih4 _ _ _ _ _ _
      | exact timer_Upto.mono _ _ _
      | exact LeO.none _
      | refine LeO.ite ?_ ?_
      | refine LeO.bind ?_ (fun _ => ?_)
    · intro y0 y1 y2 y3 y4 y5
      unfold tumblerlaw09_TimerShuffles.l0
      repeat' first
      | (with_reducible exact ih0 _ _ _ _ _)
      | (with_reducible exact ih1 _ _ _ _)
      | (with_reducible exact ih2 _ _ _ _ _ _)
      | (with_reducible exact ih3 _ _ _ _ _)
      | (with_reducible exact ih4 _ _ _ _ _ _)
      | (with_reducible exact timer_Upto.mono _ _ _)
      | (with_reducible exact LeO.refl _)
      | (with_reducible exact LeO.none _)
      | (with_reducible refine LeO.ite ?_ ?_)
      | (with_reducible refine LeO.bind ?_ (fun _ => ?_))
      | exact ih0 _ _ _ _ _
      | exact ih1 _ _ _ _
      | exact ih2 _ _ _ _ _ _
      | exact ih3 _ _ _ _ _
      | exact ih4 _ _ _ _ _ _
      | exact timer_Upto.mono _ _ _
      | exact LeO.none _
      | refine LeO.ite ?_ ?_
      | refine LeO.bind ?_ (fun _ => ?_)
    · intro y0 y1 y2 y3 y4
      unfold tumblerlaw09_TimerShuffles.j3
      repeat' first
      | (with_reducible exact ih0 _ _ _ _ _)
      | (with_reducible exact ih1 _ _ _ _)
      | (with_reducible exact ih2 _ _ _ _ _ _)
      | (with_reducible exact ih3 _ _ _ _ _)
      | (with_reducible exact ih4 _ _ _ _ _ _)
      | (with_reducible exact timer_Upto.mono _ _ _)
      | (with_reducible exact LeO.refl _)
      | (with_reducible exact LeO.none _)
      | (with_reducible refine LeO.ite ?_ ?_)
      | (with_reducible refine LeO.bind ?_ (fun _ => ?_))
      | exact ih0 _ _ _ _ _
      | exact ih1 _ _ _ _
      | exact ih2 _ _ _ _ _ _
      | exact ih3 _ _ _ _ _
      | exact ih4 _ _ _ _ _ _
      | exact timer_Upto.mono _ _ _
      | exact LeO.none _
      | refine LeO.ite ?_ ?_
      | refine LeO.bind ?_ (fun _ => ?_)
    · intro y0 y1 y2 y3 y4 y5
      unfold tumblerlaw09_TimerShuffles.l1
      repeat' first
      | (with_reducible exact ih0 _ _ _ _ _)
      | (with_reducible exact ih1 _ _ _ _)
      | (with_reducible exact ih2 _ _ _ _ _ _)
      | (with_reducible exact ih3 _ _ _ _ _)
      | (with_reducible exact ih4 _ _ _ _ _ _)
      | (with_reducible exact timer_Upto.mono _ _ _)
      | (with_reducible exact LeO.refl _)
      | (with_reducible exact LeO.none _)
      | (with_reducible refine LeO.ite ?_ ?_)
      | (with_reducible refine LeO.bind ?_ (fun _ => ?_))
      | exact ih0 _ _ _ _ _
      | exact ih1 _ _ _ _
      | exact ih2 _ _ _ _ _ _
      | exact ih3 _ _ _ _ _
      | exact ih4 _ _ _ _ _ _
      | exact timer_Upto.mono _ _ _
      | exact LeO.none _
      | refine LeO.ite ?_ ?_
      | refine LeO.bind ?_ (fun _ => ?_)
theorem tumblerlaw09_TimerShuffles.mono : ∀ a0 a1 a2 a3 k, LeO (tumblerlaw09_TimerShuffles.f k a0 a1 a2 a3) (tumblerlaw09_TimerShuffles.f (k + 1) a0 a1 a2 a3) := by
  intro a0 a1 a2 a3 k
  obtain ⟨ih0, ih1, ih2, ih3, ih4⟩ := tumblerlaw09_TimerShuffles.mono_l k
  unfold tumblerlaw09_TimerShuffles.f
  repeat' first
      | (with_reducible exact ih0 _ _ _ _ _)
      | (with_reducible exact ih1 _ _ _ _)
      | (with_reducible exact ih2 _ _ _ _ _ _)
      | (with_reducible exact ih3 _ _ _ _ _)
      | (with_reducible exact ih4 _ _ _ _ _ _)
      | (with_reducible exact timer_Upto.mono _ _ _)
      | (with_reducible exact LeO.refl _)
      | (with_reducible exact LeO.none _)
      | (with_reducible refine LeO.ite ?_ ?_)
      | (with_reducible refine LeO.bind ?_ (fun _ => ?_))
      | exact ih0 _ _ _ _ _
      | exact ih1 _ _ _ _
      | exact ih2 _ _ _ _ _ _
      | exact ih3 _ _ _ _ _
      | exact ih4 _ _ _ _ _ _
      | exact timer_Upto.mono _ _ _
      | exact LeO.none _
      | refine LeO.ite ?_ ?_
      | refine LeO.bind ?_ (fun _ => ?_)
set_option maxHeartbeats 8000000 in
set_option maxRecDepth 100000 in
theorem tumblerlaw09_TimerShuffles.calls (k : Nat) (A0 : Option Addr) (c0 : Nat) (l0 : List Int) (a1 : Int) (a2 : Int) (A3 : Option Addr) (c3 : Nat) (l3 : List Int) (r : Bool) (w : World) (hr0 : Kd.C (Kd.int .i64) w A0 l0.length l0) (hc0 : l0.length ≤ c0) (hr3 : Kd.C (Kd.int .i64) w A3 l3.length l3) (hc3 : l3.length ≤ c3) (h : tumblerlaw09_TimerShuffles.f k l0 a1 a2 l3 = some r) :
    Calls Try.prog 9 #[.slice A0 l0.length c0, .int .i64 a1, .int .i64 a2, .slice A3 l3.length c3] w fun e w' => e = .returned (.bool r) ∧ Below w.heap.size w w' := by
  have hu27 := Try.underlying27
  have hu53 := Try.underlying53
  have HR0 := Aside0.mk hr0
  have HC0 := Aside0.mk hc0
  clear hr0 hc0
  have HR3 := Aside0.mk hr3
  have HC3 := Aside0.mk hc3
  clear hr3 hc3
  have HB := Aside0.mk (Below.refl w.heap.size w)
  have H : (if a1 < 0 then (tumblerlaw09_TimerShuffles.j0 k l0 a1 a2 l3 true) else (tumblerlaw09_TimerShuffles.j0 k l0 a1 a2 l3 (decide (a1 > (l0.length : Int))))) = some r := h
  clear h
  have HC5 := Aside0.mk H
  clear H
  go_enter Try.func9, Try.ntmps9
  go_upto_region 1 with (fail)
  repeat (go_quiet (fail); go_upto_region 1 with (fail))
  go_cut [32] (fun v32 wc => ∃ (kq : Nat) (x32_4 : Bool), v32 = .bool x32_4 ∧ Aside0 (tumblerlaw09_TimerShuffles.j0 kq l0 a1 a2 l3 x32_4 = some r) ∧ Aside0 (kq ≤ k) ∧ Aside0 (Below w.heap.size w wc))
  case first =>
    have H := HC5.out
    clear HC5
    by_cases c6 : a1 < 0
    · rw [if_pos c6] at H
      have c6b0 : decide (a1 < 0) = true := decide_eq_true c6
      clear c6
      (first | rw [c6b0] | (simp only [i64_w, i32_w]; rw [c6b0]) | skip)
      have H' := Aside0.mk H
      clear H
      go_wp2
      repeat (go_quiet (fail); try go_wp2)
      go_meet
      case rel => exact ⟨_, (true), (by first | rfl | (simp; done) | (simp [*]; done)), H', ⟨by first | omega | exact Nat.le_refl _⟩, ⟨by repeat (first | (with_reducible first | exact HB.out | apply below_alloc | apply pw_below_drewN | apply below_drew1) | exact HB.out)⟩⟩
    · rw [if_neg c6] at H
      have c6b0 : decide (a1 < 0) = false := decide_eq_false c6
      clear c6
      (first | rw [c6b0] | (simp only [i64_w, i32_w]; rw [c6b0]) | skip)
      have H' := Aside0.mk H
      clear H
      go_wp2
      repeat (go_quiet (fail); try go_wp2)
      go_meet
      case rel => exact ⟨_, (decide (a1 > (l0.length : Int))), (by first | rfl | (simp; done) | (simp [*]; done)), H', ⟨by first | omega | exact Nat.le_refl _⟩, ⟨by repeat (first | (with_reducible first | exact HB.out | apply below_alloc | apply pw_below_drewN | apply below_drew1) | exact HB.out)⟩⟩
  case rest =>
    clear HC5
    try clear p2
    try clear c3
    try clear c6
    try clear c6b0
    obtain ⟨kq, x32_4, rfl, HA, HJ4, HB⟩ := hcut
    cases kq with
    | zero => exact absurd HA.out (by simp [tumblerlaw09_TimerShuffles.j0])
    | succ kj4 =>
      have H := HA.out
      clear HA
      simp only [tumblerlaw09_TimerShuffles.j0] at H
      have HC7 := Aside0.mk H
      clear H
      go_upto_if 32 with (fail)
      repeat (go_quiet (fail); go_upto_if 32 with (fail))
      go_cut [1] (fun v1 wc => ∃ (kq : Nat) (x1_6 : Int), v1 = .int .i64 x1_6 ∧ Aside0 (tumblerlaw09_TimerShuffles.j1 kq l0 x1_6 a2 l3 = some r) ∧ Aside0 (kq ≤ kj4) ∧ Aside0 (Below w.heap.size w wc))
      case first =>
        have H := HC7.out
        clear HC7
        by_cases c8 : x32_4 = true
        · subst c8
          have H1 : (tumblerlaw09_TimerShuffles.j1 kj4 l0 (wrap64 ((l0.length : Int) / 2)) a2 l3) = some r := by rw [if_pos rfl] at H; exact H
          clear H
          have H := H1
          clear H1
          have H' := Aside0.mk H
          clear H
          go_wp2
          repeat (go_quiet (fail); try go_wp2)
          go_meet
          case rel => exact ⟨_, (wrap64 ((l0.length : Int) / 2)), (by first | rfl | (simp; done) | (simp [*]; done)), H', ⟨by have := HJ4.out; first | omega | exact Nat.le_refl _⟩, ⟨by repeat (first | (with_reducible first | exact HB.out | apply below_alloc | apply pw_below_drewN | apply below_drew1) | exact HB.out)⟩⟩
        · replace c8 := Bool.eq_false_iff.mpr c8
          subst c8
          have H1 : (tumblerlaw09_TimerShuffles.j1 kj4 l0 a1 a2 l3) = some r := by rw [if_neg (show ¬ (false = true) by decide)] at H; exact H
          clear H
          have H := H1
          clear H1
          have H' := Aside0.mk H
          clear H
          go_wp2
          repeat (go_quiet (fail); try go_wp2)
          go_meet
          case rel => exact ⟨_, (a1), (by first | rfl | (simp; done) | (simp [*]; done)), H', ⟨by have := HJ4.out; first | omega | exact Nat.le_refl _⟩, ⟨by repeat (first | (with_reducible first | exact HB.out | apply below_alloc | apply pw_below_drewN | apply below_drew1) | exact HB.out)⟩⟩
      case rest =>
        clear HC7
        try clear p2
        try clear c3
        try clear c6
        try clear c6b0
        try clear p6
        try clear c8
        try clear p2
        obtain ⟨kq, x1_6, rfl, HA, HJ6, HB⟩ := hcut
        cases kq with
        | zero => exact absurd HA.out (by simp [tumblerlaw09_TimerShuffles.j1])
        | succ kj6 =>
          have H := HA.out
          clear HA
          simp only [tumblerlaw09_TimerShuffles.j1] at H
          have H' := Aside0.mk H
          clear H
          go_wp2
          repeat (go_quiet (fail); try go_wp2)
          go_loopg [9, 10] kj6 (fun kq v9 v10 w' => ∃ (x9_3 : List Int) (x10_3 : Int), v10 = .int .i64 x10_3 ∧ Aside0 (tumblerlaw09_TimerShuffles.l0 kq l0 x1_6 a2 l3 x9_3 x10_3 = some r) ∧ Aside0 (kq ≤ kj6) ∧ Aside0 (Kd.R (Kd.int .i64) 2 w' w.heap.size (fun _ => True) v9 x9_3) ∧ Aside0 (Below w.heap.size w w'))
          case atStart => exact ⟨(([] : List Int)), (wrap64 ((l0.length : Int) - 1)), (by first | rfl | (simp; done) | (simp [*]; done)), H', ⟨Nat.le_refl _⟩, ⟨by first | exact Kd.R_nil _ _ _ _ _ | exact Kd.N_nil _ _ _ _ _ | exact Kd.V_nil _ _ _ _ _ | exact Kd.Q_nil _ _ _ _ _ | exact Kd.S_nil _ _ _ _ _⟩, ⟨by repeat (first | (with_reducible first | exact HB.out | apply below_alloc | apply pw_below_drewN | apply below_drew1) | exact HB.out)⟩⟩
          case round =>
            clear H'
            try clear p2
            try clear c3
            try clear c6
            try clear c6b0
            try clear p6
            try clear c8
            try clear p2
            try clear p6
            obtain ⟨x9_3, x10_3, rfl, HA, HK3, HO_9, HB⟩ := hrel
            cases gk with
            | zero => exact absurd HA.out (by simp [tumblerlaw09_TimerShuffles.l0])
            | succ k3 =>
              have H := HA.out
              clear HA
              simp only [tumblerlaw09_TimerShuffles.l0] at H
              by_cases c9 : x10_3 ≥ x1_6
              · rw [if_pos c9] at H
                have c9b0 : decide (x1_6 ≤ x10_3) = true := decide_eq_true c9
                clear c9
                by_cases c10 : 0 ≤ x10_3
                · rw [if_pos c10] at H
                  have c10b0 : decide (0 ≤ x10_3) = true := decide_eq_true c10
                  clear c10
                  by_cases c11 : x10_3 < (l0.length : Int)
                  · rw [if_pos c11] at H
                    have c11b0 : decide (x10_3 < (l0.length : Int)) = true := decide_eq_true c11
                    clear c11
                    by_cases c12 : x9_3.length < 17592186044416
                    · rw [if_pos c12] at H
                      have LMc12 := Aside0.mk c12
                      clear c12
                      obtain ⟨y170, hy170⟩ : ∃ y_ : List Int, y_ = (x9_3 ++ [rd l0 x10_3]) := ⟨_, rfl⟩
                      replace H : (tumblerlaw09_TimerShuffles.l0 k3 l0 x1_6 a2 l3 y170 (wrap64 (x10_3 - 1))) = some r := by first | (rw [hy170]; with_reducible exact H) | (have H2_ := (Option.bind_some _ _).symm.trans H; rw [hy170]; with_reducible exact H2_) | (have H2_ := (Option.bind_some _ _).symm.trans H; with_reducible exact H2_) | with_reducible exact H | (rw [hy170]; exact H) | exact H
                      have Ny170 := Aside0.mk hy170
                      clear hy170
                      have H' := Aside0.mk H
                      clear H
                      have p169 : 0 ≤ (x10_3 : Int) := of_decide_eq_true (by first | (with_reducible assumption) | assumption)
                      have q169 : x10_3 < (l0.length : Int) := of_decide_eq_true (by first | (with_reducible assumption) | assumption)
                      obtain ⟨ad169, e169, hx169_0⟩ := Kd.at_int HR0.out x10_3 p169 q169
                      cases e169
                      replace hx169_0 := (HB.out.cell (World.block_lt_of_cell? w _ hx169_0)).trans hx169_0
                      replace p169 := eq_true p169
                      replace q169 := eq_true q169
                      go_wp2_with (first | ((with_reducible refine gate_builtin (b := .append) (xs := #[.tmp 44, .tmp 49]) rfl ?_); (try (refine gate_guard (by rfl) ?_; dsimp only)); at_builtin; refine Kd.R_append (Kd.int .i64) (w0 := w) w.heap.size rfl (.tmp 44) (.tmp 49) 22 2 (.int .i64 0) 8 rfl Try.underlying22 info2 rfl (by decide) (by omega) u9 x9_3 (rd l0 x10_3) [.int .i64 (rd l0 x10_3)] (fun _ => True) (fun _ => False) rfl rfl ?aP (fun _ hk => hk.elim) ?aF ?aO ?aB ?aS ?aL ?_; (case aP => exact rfl); (case aB => exact (by repeat (first | (with_reducible first | exact HB.out | apply below_alloc | apply pw_below_drewN | apply below_drew1) | exact HB.out))); (case aF => exact (fun _ _ => trivial)); (case aO => exact (by (with_reducible repeat (first | apply Kd.R_alloc | apply Kd.R_drewN | apply Kd.R_drew)); exact HO_9.out)); (case aS => exact (below_size (by repeat (first | (with_reducible first | exact HB.out | apply below_alloc | apply pw_below_drewN | apply below_drew1) | exact HB.out)))); (case aL => have := LMc12.out; omega); intro v171 w13 ho hb hg hat; rw [← Ny170.out] at ho; have n0_ := Aside0.mk (hb); have n1_ := Aside0.mk (ho); clear HB; clear HO_9; have HB := n0_; have HO172 := n1_; clear n0_ n1_; clear ho hb hg hat))
                      repeat (go_quiet (first | ((with_reducible refine gate_builtin (b := .append) (xs := #[.tmp 44, .tmp 49]) rfl ?_); (try (refine gate_guard (by rfl) ?_; dsimp only)); at_builtin; refine Kd.R_append (Kd.int .i64) (w0 := w) w.heap.size rfl (.tmp 44) (.tmp 49) 22 2 (.int .i64 0) 8 rfl Try.underlying22 info2 rfl (by decide) (by omega) u9 x9_3 (rd l0 x10_3) [.int .i64 (rd l0 x10_3)] (fun _ => True) (fun _ => False) rfl rfl ?aP (fun _ hk => hk.elim) ?aF ?aO ?aB ?aS ?aL ?_; (case aP => exact rfl); (case aB => exact (by repeat (first | (with_reducible first | exact HB.out | apply below_alloc | apply pw_below_drewN | apply below_drew1) | exact HB.out))); (case aF => exact (fun _ _ => trivial)); (case aO => exact (by (with_reducible repeat (first | apply Kd.R_alloc | apply Kd.R_drewN | apply Kd.R_drew)); exact HO_9.out)); (case aS => exact (below_size (by repeat (first | (with_reducible first | exact HB.out | apply below_alloc | apply pw_below_drewN | apply below_drew1) | exact HB.out)))); (case aL => have := LMc12.out; omega); intro v171 w13 ho hb hg hat; rw [← Ny170.out] at ho; have n0_ := Aside0.mk (hb); have n1_ := Aside0.mk (ho); clear HB; clear HO_9; have HB := n0_; have HO172 := n1_; clear n0_ n1_; clear ho hb hg hat)); try go_wp2_with (first | ((with_reducible refine gate_builtin (b := .append) (xs := #[.tmp 44, .tmp 49]) rfl ?_); (try (refine gate_guard (by rfl) ?_; dsimp only)); at_builtin; refine Kd.R_append (Kd.int .i64) (w0 := w) w.heap.size rfl (.tmp 44) (.tmp 49) 22 2 (.int .i64 0) 8 rfl Try.underlying22 info2 rfl (by decide) (by omega) u9 x9_3 (rd l0 x10_3) [.int .i64 (rd l0 x10_3)] (fun _ => True) (fun _ => False) rfl rfl ?aP (fun _ hk => hk.elim) ?aF ?aO ?aB ?aS ?aL ?_; (case aP => exact rfl); (case aB => exact (by repeat (first | (with_reducible first | exact HB.out | apply below_alloc | apply pw_below_drewN | apply below_drew1) | exact HB.out))); (case aF => exact (fun _ _ => trivial)); (case aO => exact (by (with_reducible repeat (first | apply Kd.R_alloc | apply Kd.R_drewN | apply Kd.R_drew)); exact HO_9.out)); (case aS => exact (below_size (by repeat (first | (with_reducible first | exact HB.out | apply below_alloc | apply pw_below_drewN | apply below_drew1) | exact HB.out)))); (case aL => have := LMc12.out; omega); intro v171 w13 ho hb hg hat; rw [← Ny170.out] at ho; have n0_ := Aside0.mk (hb); have n1_ := Aside0.mk (ho); clear HB; clear HO_9; have HB := n0_; have HO172 := n1_; clear n0_ n1_; clear ho hb hg hat)))
                      go_roundg k3
                      case measure => have := HJ4.out; have := HJ6.out; have := HK3.out; omega
                      case rel => exact ⟨(y170), (wrap64 (x10_3 - 1)), (by first | rfl | (simp; done) | (simp [*]; done)), H', ⟨by have := HJ4.out; have := HJ6.out; have := HK3.out; omega⟩, ⟨by (with_reducible repeat (first | apply Kd.R_alloc | apply Kd.R_drewN | apply Kd.R_drew)); exact HO172.out⟩, ⟨by repeat (first | (with_reducible first | exact HB.out | apply below_alloc | apply pw_below_drewN | apply below_drew1) | exact HB.out)⟩⟩
                    · rw [if_neg c12] at H
                      exact absurd H (by simp)
                  · rw [if_neg c11] at H
                    exact absurd H (by simp)
                · rw [if_neg c10] at H
                  exact absurd H (by simp)
              · rw [if_neg c9] at H
                have c9b0 : decide (x1_6 ≤ x10_3) = false := decide_eq_false c9
                clear c9
                by_cases c14 : 0 ≤ x1_6
                · rw [if_pos c14] at H
                  have c14b0 := eq_true c14
                  have c14b1 : decide (0 ≤ x1_6) = true := decide_eq_true c14
                  clear c14
                  by_cases c15 : x1_6 ≤ (l0.length : Int)
                  · rw [if_pos c15] at H
                    have c15b0 := eq_true c15
                    have c15b1 : decide (x1_6 ≤ (l0.length : Int)) = true := decide_eq_true c15
                    clear c15
                    by_cases c16 : x9_3.length + (l0.take (x1_6 : Int).toNat).length < 17592186044416
                    · rw [if_pos c16] at H
                      have LMc16 := Aside0.mk c16
                      clear c16
                      obtain ⟨y174, hy174⟩ : ∃ y_ : List Int, y_ = (x9_3 ++ (l0.take (x1_6 : Int).toNat)) := ⟨_, rfl⟩
                      replace H : ((timer_Of.f l0).bind fun bt177 => ((timer_Of.f y174).bind fun bt187 => ((timer_Upto.f k3 l0 a2).bind fun bt197 => ((timer_Upto.f k3 y174 a2).bind fun bt204 => ((timer_Bins.f l0 l3).bind fun bt211 => ((timer_Bins.f y174 l3).bind fun bt215 => (if (!(bt177.1 == bt187.1) || ((!(bt177.2.1 == bt187.2.1) || (!(bt177.2.2.1 == bt187.2.2.1))) || (!(bt177.2.2.2.1 == bt187.2.2.2.1) || (!(bt177.2.2.2.2.1 == bt187.2.2.2.2.1) || (!(bt177.2.2.2.2.2.1 == bt187.2.2.2.2.2.1) || (!(bt177.2.2.2.2.2.2.1 == bt187.2.2.2.2.2.2.1) || (!(bt177.2.2.2.2.2.2.2.1 == bt187.2.2.2.2.2.2.2.1)))))))) = true then (tumblerlaw09_TimerShuffles.j3 k3 l0 bt211.1 bt211.2 bt215.1 true) else (if bt177.2.2.2.2.2.2.2.2 = bt187.2.2.2.2.2.2.2.2 then (if (!(bt197.1 == bt204.1) || ((!(bt197.2.1 == bt204.2.1) || (!(bt197.2.2.1 == bt204.2.2.1))) || (!(bt197.2.2.2.1 == bt204.2.2.2.1) || (!(bt197.2.2.2.2.1 == bt204.2.2.2.2.1))))) = true then (tumblerlaw09_TimerShuffles.j3 k3 l0 bt211.1 bt211.2 bt215.1 true) else (if bt197.2.2.2.2.2 = bt204.2.2.2.2.2 then (if bt211.2 = bt215.2 then (tumblerlaw09_TimerShuffles.j3 k3 l0 bt211.1 bt211.2 bt215.1 ((bt211.1.length : Int) != (bt215.1.length : Int))) else (tumblerlaw09_TimerShuffles.j3 k3 l0 bt211.1 bt211.2 bt215.1 true)) else (tumblerlaw09_TimerShuffles.j3 k3 l0 bt211.1 bt211.2 bt215.1 true))) else (tumblerlaw09_TimerShuffles.j3 k3 l0 bt211.1 bt211.2 bt215.1 true))))))))) = some r := by first | (rw [hy174]; with_reducible exact H) | (have H2_ := (Option.bind_some _ _).symm.trans H; rw [hy174]; with_reducible exact H2_) | (have H2_ := (Option.bind_some _ _).symm.trans H; with_reducible exact H2_) | with_reducible exact H | (rw [hy174]; exact H) | exact H
                      have Ny174 := Aside0.mk hy174
                      clear hy174
                      replace H := Option.bind_eq_some_iff.mp H
                      obtain ⟨⟨t177, t178, t179, t180, t181, t182, t183, t184, t185⟩, A170, H⟩ := H
                      replace H : ((timer_Of.f y174).bind fun bt187 => ((timer_Upto.f k3 l0 a2).bind fun bt197 => ((timer_Upto.f k3 y174 a2).bind fun bt204 => ((timer_Bins.f l0 l3).bind fun bt211 => ((timer_Bins.f y174 l3).bind fun bt215 => (if (!(t177 == bt187.1) || ((!(t178 == bt187.2.1) || (!(t179 == bt187.2.2.1))) || (!(t180 == bt187.2.2.2.1) || (!(t181 == bt187.2.2.2.2.1) || (!(t182 == bt187.2.2.2.2.2.1) || (!(t183 == bt187.2.2.2.2.2.2.1) || (!(t184 == bt187.2.2.2.2.2.2.2.1)))))))) = true then (tumblerlaw09_TimerShuffles.j3 k3 l0 bt211.1 bt211.2 bt215.1 true) else (if t185 = bt187.2.2.2.2.2.2.2.2 then (if (!(bt197.1 == bt204.1) || ((!(bt197.2.1 == bt204.2.1) || (!(bt197.2.2.1 == bt204.2.2.1))) || (!(bt197.2.2.2.1 == bt204.2.2.2.1) || (!(bt197.2.2.2.2.1 == bt204.2.2.2.2.1))))) = true then (tumblerlaw09_TimerShuffles.j3 k3 l0 bt211.1 bt211.2 bt215.1 true) else (if bt197.2.2.2.2.2 = bt204.2.2.2.2.2 then (if bt211.2 = bt215.2 then (tumblerlaw09_TimerShuffles.j3 k3 l0 bt211.1 bt211.2 bt215.1 ((bt211.1.length : Int) != (bt215.1.length : Int))) else (tumblerlaw09_TimerShuffles.j3 k3 l0 bt211.1 bt211.2 bt215.1 true)) else (tumblerlaw09_TimerShuffles.j3 k3 l0 bt211.1 bt211.2 bt215.1 true))) else (tumblerlaw09_TimerShuffles.j3 k3 l0 bt211.1 bt211.2 bt215.1 true)))))))) = some r := H
                      have A17 := Aside0.mk A170
                      clear A170
                      replace H := Option.bind_eq_some_iff.mp H
                      obtain ⟨⟨t187, t188, t189, t190, t191, t192, t193, t194, t195⟩, A180, H⟩ := H
                      replace H : ((timer_Upto.f k3 l0 a2).bind fun bt197 => ((timer_Upto.f k3 y174 a2).bind fun bt204 => ((timer_Bins.f l0 l3).bind fun bt211 => ((timer_Bins.f y174 l3).bind fun bt215 => (if (!(t177 == t187) || ((!(t178 == t188) || (!(t179 == t189))) || (!(t180 == t190) || (!(t181 == t191) || (!(t182 == t192) || (!(t183 == t193) || (!(t184 == t194)))))))) = true then (tumblerlaw09_TimerShuffles.j3 k3 l0 bt211.1 bt211.2 bt215.1 true) else (if t185 = t195 then (if (!(bt197.1 == bt204.1) || ((!(bt197.2.1 == bt204.2.1) || (!(bt197.2.2.1 == bt204.2.2.1))) || (!(bt197.2.2.2.1 == bt204.2.2.2.1) || (!(bt197.2.2.2.2.1 == bt204.2.2.2.2.1))))) = true then (tumblerlaw09_TimerShuffles.j3 k3 l0 bt211.1 bt211.2 bt215.1 true) else (if bt197.2.2.2.2.2 = bt204.2.2.2.2.2 then (if bt211.2 = bt215.2 then (tumblerlaw09_TimerShuffles.j3 k3 l0 bt211.1 bt211.2 bt215.1 ((bt211.1.length : Int) != (bt215.1.length : Int))) else (tumblerlaw09_TimerShuffles.j3 k3 l0 bt211.1 bt211.2 bt215.1 true)) else (tumblerlaw09_TimerShuffles.j3 k3 l0 bt211.1 bt211.2 bt215.1 true))) else (tumblerlaw09_TimerShuffles.j3 k3 l0 bt211.1 bt211.2 bt215.1 true))))))) = some r := H
                      have A18 := Aside0.mk A180
                      clear A180
                      replace H := Option.bind_eq_some_iff.mp H
                      obtain ⟨⟨t197, t198, t199, t200, t201, t202⟩, A190, H⟩ := H
                      replace H : ((timer_Upto.f k3 y174 a2).bind fun bt204 => ((timer_Bins.f l0 l3).bind fun bt211 => ((timer_Bins.f y174 l3).bind fun bt215 => (if (!(t177 == t187) || ((!(t178 == t188) || (!(t179 == t189))) || (!(t180 == t190) || (!(t181 == t191) || (!(t182 == t192) || (!(t183 == t193) || (!(t184 == t194)))))))) = true then (tumblerlaw09_TimerShuffles.j3 k3 l0 bt211.1 bt211.2 bt215.1 true) else (if t185 = t195 then (if (!(t197 == bt204.1) || ((!(t198 == bt204.2.1) || (!(t199 == bt204.2.2.1))) || (!(t200 == bt204.2.2.2.1) || (!(t201 == bt204.2.2.2.2.1))))) = true then (tumblerlaw09_TimerShuffles.j3 k3 l0 bt211.1 bt211.2 bt215.1 true) else (if t202 = bt204.2.2.2.2.2 then (if bt211.2 = bt215.2 then (tumblerlaw09_TimerShuffles.j3 k3 l0 bt211.1 bt211.2 bt215.1 ((bt211.1.length : Int) != (bt215.1.length : Int))) else (tumblerlaw09_TimerShuffles.j3 k3 l0 bt211.1 bt211.2 bt215.1 true)) else (tumblerlaw09_TimerShuffles.j3 k3 l0 bt211.1 bt211.2 bt215.1 true))) else (tumblerlaw09_TimerShuffles.j3 k3 l0 bt211.1 bt211.2 bt215.1 true)))))) = some r := H
                      have A19 := Aside0.mk A190
                      clear A190
                      replace H := Option.bind_eq_some_iff.mp H
                      obtain ⟨⟨t204, t205, t206, t207, t208, t209⟩, A200, H⟩ := H
                      replace H : ((timer_Bins.f l0 l3).bind fun bt211 => ((timer_Bins.f y174 l3).bind fun bt215 => (if (!(t177 == t187) || ((!(t178 == t188) || (!(t179 == t189))) || (!(t180 == t190) || (!(t181 == t191) || (!(t182 == t192) || (!(t183 == t193) || (!(t184 == t194)))))))) = true then (tumblerlaw09_TimerShuffles.j3 k3 l0 bt211.1 bt211.2 bt215.1 true) else (if t185 = t195 then (if (!(t197 == t204) || ((!(t198 == t205) || (!(t199 == t206))) || (!(t200 == t207) || (!(t201 == t208))))) = true then (tumblerlaw09_TimerShuffles.j3 k3 l0 bt211.1 bt211.2 bt215.1 true) else (if t202 = t209 then (if bt211.2 = bt215.2 then (tumblerlaw09_TimerShuffles.j3 k3 l0 bt211.1 bt211.2 bt215.1 ((bt211.1.length : Int) != (bt215.1.length : Int))) else (tumblerlaw09_TimerShuffles.j3 k3 l0 bt211.1 bt211.2 bt215.1 true)) else (tumblerlaw09_TimerShuffles.j3 k3 l0 bt211.1 bt211.2 bt215.1 true))) else (tumblerlaw09_TimerShuffles.j3 k3 l0 bt211.1 bt211.2 bt215.1 true))))) = some r := H
                      have A20 := Aside0.mk A200
                      clear A200
                      replace H := Option.bind_eq_some_iff.mp H
                      obtain ⟨⟨t211, t212⟩, A210, H⟩ := H
                      replace H : ((timer_Bins.f y174 l3).bind fun bt215 => (if (!(t177 == t187) || ((!(t178 == t188) || (!(t179 == t189))) || (!(t180 == t190) || (!(t181 == t191) || (!(t182 == t192) || (!(t183 == t193) || (!(t184 == t194)))))))) = true then (tumblerlaw09_TimerShuffles.j3 k3 l0 t211 t212 bt215.1 true) else (if t185 = t195 then (if (!(t197 == t204) || ((!(t198 == t205) || (!(t199 == t206))) || (!(t200 == t207) || (!(t201 == t208))))) = true then (tumblerlaw09_TimerShuffles.j3 k3 l0 t211 t212 bt215.1 true) else (if t202 = t209 then (if t212 = bt215.2 then (tumblerlaw09_TimerShuffles.j3 k3 l0 t211 t212 bt215.1 ((t211.length : Int) != (bt215.1.length : Int))) else (tumblerlaw09_TimerShuffles.j3 k3 l0 t211 t212 bt215.1 true)) else (tumblerlaw09_TimerShuffles.j3 k3 l0 t211 t212 bt215.1 true))) else (tumblerlaw09_TimerShuffles.j3 k3 l0 t211 t212 bt215.1 true)))) = some r := H
                      have A21 := Aside0.mk A210
                      clear A210
                      replace H := Option.bind_eq_some_iff.mp H
                      obtain ⟨⟨t215, t216⟩, A220, H⟩ := H
                      replace H : (if (!(t177 == t187) || ((!(t178 == t188) || (!(t179 == t189))) || (!(t180 == t190) || (!(t181 == t191) || (!(t182 == t192) || (!(t183 == t193) || (!(t184 == t194)))))))) = true then (tumblerlaw09_TimerShuffles.j3 k3 l0 t211 t212 t215 true) else (if t185 = t195 then (if (!(t197 == t204) || ((!(t198 == t205) || (!(t199 == t206))) || (!(t200 == t207) || (!(t201 == t208))))) = true then (tumblerlaw09_TimerShuffles.j3 k3 l0 t211 t212 t215 true) else (if t202 = t209 then (if t212 = t216 then (tumblerlaw09_TimerShuffles.j3 k3 l0 t211 t212 t215 ((t211.length : Int) != (t215.length : Int))) else (tumblerlaw09_TimerShuffles.j3 k3 l0 t211 t212 t215 true)) else (tumblerlaw09_TimerShuffles.j3 k3 l0 t211 t212 t215 true))) else (tumblerlaw09_TimerShuffles.j3 k3 l0 t211 t212 t215 true))) = some r := H
                      have A22 := Aside0.mk A220
                      clear A220
                      have HC23 := Aside0.mk H
                      clear H
                      obtain ⟨i024, hi024, _, hsz24, _⟩ := info_parts info2
                      obtain ⟨hcut24, hA24, hC24⟩ := print_take_of (P := Try.prog) (Value.int .i64) 0 22 2 .i64 Try.underlying22 hi024 hsz24 A0 c0 l0 x1_6 (of_decide_eq_true (by first | (with_reducible assumption) | assumption)) (of_decide_eq_true (by first | (with_reducible assumption) | assumption)) HC0.out
                      have HR173 := Aside0.mk (Kd.C_of_reads (h1 := fun _ => rfl) (hA24 _ (Kd.reads_of_C HR0.out)))
                      have HC173 := Aside0.mk hC24
                      clear hA24 hC24 hi024 hsz24
                      go_upto_region 15 with (first | ((with_reducible refine gate_builtin (b := .append) (xs := #[.tmp 51, .tmp 54]) rfl ?_); (try (refine gate_guard (by rfl) ?_; dsimp only)); at_builtin; refine Kd.R_append_rows (Kd.int .i64) (w0 := w) w.heap.size rfl (.tmp 51) (.tmp 54) 22 2 (.int .i64 0) 8 rfl Try.underlying22 info2 rfl (by decide) (by omega) u9 x9_3 (l0.take (x1_6 : Int).toNat) _ _ _ (fun _ => True) (fun _ => False) rfl rfl ?aO ?aR (fun _ _ h => h) (fun _ h => h.elim) ?aF ?aB ?aS ?aL ?_; (case aR => first | (have hl2_ : (l0.take (x1_6 : Int).toNat).length = x1_6.toNat := (by rw [List.length_take]; have h_ : (x1_6 : Int) ≤ (l0.length : Int) := of_decide_eq_true (by first | (with_reducible assumption) | assumption); omega); have q_ := (Kd.C_below HR173.out HB.out); rw [hl2_] at q_; exact q_) | (rw [← show (l0.take (x1_6 : Int).toNat).length = x1_6.toNat from (by rw [List.length_take]; have h_ : (x1_6 : Int) ≤ (l0.length : Int) := of_decide_eq_true (by first | (with_reducible assumption) | assumption); omega)]; repeat (first | exact (Kd.C_below HR173.out HB.out) | (with_reducible refine Kd.C_alloc ?_ _) | (with_reducible refine Kd.C_drewN ?_ _) | (with_reducible refine Kd.C_drew ?_))) | (repeat (first | exact (Kd.C_below HR173.out HB.out) | (with_reducible refine Kd.C_alloc ?_ _) | (with_reducible refine Kd.C_drewN ?_ _) | (with_reducible refine Kd.C_drew ?_)))); (case aB => exact (by repeat (first | (with_reducible first | exact HB.out | apply below_alloc | apply pw_below_drewN | apply below_drew1) | exact HB.out))); (case aF => exact (fun _ _ => trivial)); (case aO => exact (by (with_reducible repeat (first | apply Kd.R_alloc | apply Kd.R_drewN | apply Kd.R_drew)); exact HO_9.out)); (case aS => exact (below_size (by repeat (first | (with_reducible first | exact HB.out | apply below_alloc | apply pw_below_drewN | apply below_drew1) | exact HB.out)))); (case aL => have := LMc16.out; have hlx_ := (show (l0.take (x1_6 : Int).toNat).length = x1_6.toNat from (by rw [List.length_take]; have h_ : (x1_6 : Int) ≤ (l0.length : Int) := of_decide_eq_true (by first | (with_reducible assumption) | assumption); omega)); omega); intro v175 w25 ho hb hg hat; rw [← Ny174.out] at ho; have n0_ := Aside0.mk (hb); have n1_ := Aside0.mk (ho); clear HB; clear HO_9; have HB := n0_; have HO176 := n1_; clear n0_ n1_; clear ho hb hg hat) | (go_at_call 12; (with_reducible refine (timer_Of.calls _ _ l0 t177 t178 t179 t180 t181 t182 t183 t184 t185 _ ?side1 ?side2 A17.out).mono ?_); (case side1 => repeat (first | exact (Kd.C_below HR0.out HB.out) | (with_reducible refine Kd.C_alloc ?_ _) | (with_reducible refine Kd.C_drewN ?_ _) | (with_reducible refine Kd.C_drew ?_))); (case side2 => exact HC0.out); rintro e w26 ⟨rfl, hb⟩; have n0_ := Aside0.mk (Kd.R_below (by (with_reducible repeat (first | apply Kd.R_alloc | apply Kd.R_drewN | apply Kd.R_drew)); exact HO176.out) hb); have n1_ := Aside0.mk (below_step (by repeat (first | (with_reducible first | exact HB.out | apply below_alloc | apply pw_below_drewN | apply below_drew1) | exact HB.out)) hb); clear HO176; clear HB; have HO176 := n0_; have HB := n1_; clear n0_ n1_; (try clear hb); (try clear hb2); (try clear hk); (try clear hi)) | ((with_reducible refine gate_dst (N := 11) rfl ?_); (try (refine gate_guard (by rfl) ?_; dsimp only)); refine box_event ?hg (N := 11) ?hd (cs := #[.int .i64 0, .int .i64 0, .int .u64 0, .int .i64 0, .int .i64 0, .int .i64 0, .int .i64 0, .int .i64 0]) (t := 27) ?hr ?_; (case hd => rfl); (case hg => rfl); (case hr => first | (go_simp; done) | (go_simp; rfl)); intro gb186 hg w27 hbox hb; have n0_ := Aside0.mk (Kd.R_below (by (with_reducible repeat (first | apply Kd.R_alloc | apply Kd.R_drewN | apply Kd.R_drew)); exact HO176.out) hb); have n1_ := Aside0.mk (below_step (by repeat (first | (with_reducible first | exact HB.out | apply below_alloc | apply pw_below_drewN | apply below_drew1) | exact HB.out)) hb); have n2_ := Aside0.mk (hbox); have n3_ := Aside0.mk ((by rw [hg]; exact (below_size (by repeat (first | (with_reducible first | exact HB.out | apply below_alloc | apply pw_below_drewN | apply below_drew1) | exact HB.out))) : w.heap.size ≤ gb186)); have n4_ := Aside0.mk ((by rw [hg]; exact (below_size (by repeat (first | (with_reducible first | exact HB.out | apply below_alloc | apply pw_below_drewN | apply below_drew1) | exact HB.out))) : w.heap.size ≤ gb186)); clear HO176; clear HB; have HO176 := n0_; have HB := n1_; have BK186 := n2_; have GW186 := n3_; have GE186 := n4_; clear n0_ n1_ n2_ n3_ n4_; clear hb hbox hg; have hcz28_0 : w27.cell? ⟨gb186, 0, none⟩ = some (.int .i64 0) := (blk_cell BK186.out 0).trans rfl; have hcz28_1 : w27.cell? ⟨gb186, 1, none⟩ = some (.int .i64 0) := (blk_cell BK186.out 1).trans rfl; have hcz28_2 : w27.cell? ⟨gb186, 2, none⟩ = some (.int .u64 0) := (blk_cell BK186.out 2).trans rfl; have hcz28_3 : w27.cell? ⟨gb186, 3, none⟩ = some (.int .i64 0) := (blk_cell BK186.out 3).trans rfl; have hcz28_4 : w27.cell? ⟨gb186, 4, none⟩ = some (.int .i64 0) := (blk_cell BK186.out 4).trans rfl; have hcz28_5 : w27.cell? ⟨gb186, 5, none⟩ = some (.int .i64 0) := (blk_cell BK186.out 5).trans rfl; have hcz28_6 : w27.cell? ⟨gb186, 6, none⟩ = some (.int .i64 0) := (blk_cell BK186.out 6).trans rfl; have hcz28_7 : w27.cell? ⟨gb186, 7, none⟩ = some (.int .i64 0) := (blk_cell BK186.out 7).trans rfl; have hfz28_0 := blk_frozen BK186.out 0; have hfz28_1 := blk_frozen BK186.out 1; have hfz28_2 := blk_frozen BK186.out 2; have hfz28_3 := blk_frozen BK186.out 3; have hfz28_4 := blk_frozen BK186.out 4; have hfz28_5 := blk_frozen BK186.out 5; have hfz28_6 := blk_frozen BK186.out 6; have hfz28_7 := blk_frozen BK186.out 7; obtain ⟨Ao29, co29, eo29⟩ := Kd.R_slice HO176.out; subst eo29) | (go_at_call 12; (with_reducible refine (timer_Of.calls _ _ y174 t187 t188 t189 t190 t191 t192 t193 t194 t195 _ ?side1 ?side2 A18.out).mono ?_); (case side1 => refine (Kd.R_reads' (e := 2) (base := w.heap.size) (ok := fun k_ => True) (n := y174.length) (c := co29) ?_).2.2; exact (by (with_reducible repeat (first | apply Kd.R_alloc | apply Kd.R_drewN | apply Kd.R_drew)); exact (Kd.R_mono (Kd.R_far (p := ⟨gb186, 7, none⟩) (Kd.R_far (p := ⟨gb186, 6, none⟩) (Kd.R_far (p := ⟨gb186, 5, none⟩) (Kd.R_far (p := ⟨gb186, 4, none⟩) (Kd.R_far (p := ⟨gb186, 3, none⟩) (Kd.R_far (p := ⟨gb186, 2, none⟩) (Kd.R_far (p := ⟨gb186, 1, none⟩) (Kd.R_far (p := ⟨gb186, 0, none⟩) (Kd.R_types HO176.out BK186.out (by decide)) (fun _ hk => hk.2) (.int .i64 t177)) (fun _ hk => hk.2) (.int .i64 t178)) (fun _ hk => hk.2) (.int .u64 t179)) (fun _ hk => hk.2) (.int .i64 t180)) (fun _ hk => hk.2) (.int .i64 t181)) (fun _ hk => hk.2) (.int .i64 t182)) (fun _ hk => hk.2) (.int .i64 t183)) (fun _ hk => hk.2) (.int .i64 t184)) (fun _ h_ => h_.1)))); (case side2 => exact (Kd.R_reads' HO176.out).2.1); rintro e w30 ⟨rfl, hb⟩; have n0_ := Aside0.mk (Kd.R_below (by (with_reducible repeat (first | apply Kd.R_alloc | apply Kd.R_drewN | apply Kd.R_drew)); exact (Kd.R_mono (Kd.R_far (p := ⟨gb186, 7, none⟩) (Kd.R_far (p := ⟨gb186, 6, none⟩) (Kd.R_far (p := ⟨gb186, 5, none⟩) (Kd.R_far (p := ⟨gb186, 4, none⟩) (Kd.R_far (p := ⟨gb186, 3, none⟩) (Kd.R_far (p := ⟨gb186, 2, none⟩) (Kd.R_far (p := ⟨gb186, 1, none⟩) (Kd.R_far (p := ⟨gb186, 0, none⟩) (Kd.R_types HO176.out BK186.out (by decide)) (fun _ hk => hk.2) (.int .i64 t177)) (fun _ hk => hk.2) (.int .i64 t178)) (fun _ hk => hk.2) (.int .u64 t179)) (fun _ hk => hk.2) (.int .i64 t180)) (fun _ hk => hk.2) (.int .i64 t181)) (fun _ hk => hk.2) (.int .i64 t182)) (fun _ hk => hk.2) (.int .i64 t183)) (fun _ hk => hk.2) (.int .i64 t184)) (fun _ h_ => h_.1))) hb); have n1_ := Aside0.mk (blk_below (g := gb186) (o := .cells #[.int .i64 t177, .int .i64 t178, .int .u64 t179, .int .i64 t180, .int .i64 t181, .int .i64 t182, .int .i64 t183, .int .i64 t184] 27 (0, 0)) (by (with_reducible repeat (first | refine blk_drewN ?_ _ | refine blk_drew ?_ | refine blk_alloc ?_ _)); refine blk_put (cs := #[.int .i64 t177, .int .i64 t178, .int .u64 t179, .int .i64 t180, .int .i64 t181, .int .i64 t182, .int .i64 t183, .int .i64 0]) ?_ 7 _ rfl; (with_reducible repeat (first | refine blk_drewN ?_ _ | refine blk_drew ?_ | refine blk_alloc ?_ _)); refine blk_put (cs := #[.int .i64 t177, .int .i64 t178, .int .u64 t179, .int .i64 t180, .int .i64 t181, .int .i64 t182, .int .i64 0, .int .i64 0]) ?_ 6 _ rfl; (with_reducible repeat (first | refine blk_drewN ?_ _ | refine blk_drew ?_ | refine blk_alloc ?_ _)); refine blk_put (cs := #[.int .i64 t177, .int .i64 t178, .int .u64 t179, .int .i64 t180, .int .i64 t181, .int .i64 0, .int .i64 0, .int .i64 0]) ?_ 5 _ rfl; (with_reducible repeat (first | refine blk_drewN ?_ _ | refine blk_drew ?_ | refine blk_alloc ?_ _)); refine blk_put (cs := #[.int .i64 t177, .int .i64 t178, .int .u64 t179, .int .i64 t180, .int .i64 0, .int .i64 0, .int .i64 0, .int .i64 0]) ?_ 4 _ rfl; (with_reducible repeat (first | refine blk_drewN ?_ _ | refine blk_drew ?_ | refine blk_alloc ?_ _)); refine blk_put (cs := #[.int .i64 t177, .int .i64 t178, .int .u64 t179, .int .i64 0, .int .i64 0, .int .i64 0, .int .i64 0, .int .i64 0]) ?_ 3 _ rfl; (with_reducible repeat (first | refine blk_drewN ?_ _ | refine blk_drew ?_ | refine blk_alloc ?_ _)); refine blk_put (cs := #[.int .i64 t177, .int .i64 t178, .int .u64 0, .int .i64 0, .int .i64 0, .int .i64 0, .int .i64 0, .int .i64 0]) ?_ 2 _ rfl; (with_reducible repeat (first | refine blk_drewN ?_ _ | refine blk_drew ?_ | refine blk_alloc ?_ _)); refine blk_put (cs := #[.int .i64 t177, .int .i64 0, .int .u64 0, .int .i64 0, .int .i64 0, .int .i64 0, .int .i64 0, .int .i64 0]) ?_ 1 _ rfl; (with_reducible repeat (first | refine blk_drewN ?_ _ | refine blk_drew ?_ | refine blk_alloc ?_ _)); refine blk_put (cs := #[.int .i64 0, .int .i64 0, .int .u64 0, .int .i64 0, .int .i64 0, .int .i64 0, .int .i64 0, .int .i64 0]) ?_ 0 _ rfl; (with_reducible repeat (first | refine blk_drewN ?_ _ | refine blk_drew ?_ | refine blk_alloc ?_ _)); exact BK186.out) hb); have n2_ := Aside0.mk (below_step (by repeat (first | (with_reducible first | exact HB.out | apply below_alloc | apply pw_below_drewN | apply below_drew1 | refine below_set ?_ GE186.out) | exact HB.out)) hb); clear HO176; clear BK186; clear HB; have HO176 := n0_; have BK186 := n1_; have HB := n2_; clear n0_ n1_ n2_; (try clear hb); (try clear hb2); (try clear hk); (try clear hi)) | ((with_reducible refine gate_dst (N := 13) rfl ?_); (try (refine gate_guard (by rfl) ?_; dsimp only)); refine box_event ?hg (N := 13) ?hd (cs := #[.int .i64 0, .int .i64 0, .int .u64 0, .int .i64 0, .int .i64 0, .int .i64 0, .int .i64 0, .int .i64 0]) (t := 27) ?hr ?_; (case hd => rfl); (case hg => rfl); (case hr => first | (go_simp; done) | (go_simp; rfl)); intro gb196 hg w31 hbox hb; have n0_ := Aside0.mk (Kd.R_below (by (with_reducible repeat (first | apply Kd.R_alloc | apply Kd.R_drewN | apply Kd.R_drew)); exact HO176.out) hb); have n1_ := Aside0.mk (blk_below (g := gb186) (o := .cells #[.int .i64 t177, .int .i64 t178, .int .u64 t179, .int .i64 t180, .int .i64 t181, .int .i64 t182, .int .i64 t183, .int .i64 t184] 27 (0, 0)) (by (with_reducible repeat (first | refine blk_drewN ?_ _ | refine blk_drew ?_ | refine blk_alloc ?_ _)); exact BK186.out) hb); have n2_ := Aside0.mk (below_step (by repeat (first | (with_reducible first | exact HB.out | apply below_alloc | apply pw_below_drewN | apply below_drew1 | refine below_set ?_ GE186.out) | exact HB.out)) hb); have n3_ := Aside0.mk (hbox); have n4_ := Aside0.mk ((by rw [hg]; exact (below_size (by repeat (first | (with_reducible first | exact HB.out | apply below_alloc | apply pw_below_drewN | apply below_drew1 | refine below_set ?_ GE186.out) | exact HB.out))) : w.heap.size ≤ gb196)); have n5_ := Aside0.mk ((by rw [hg]; exact (below_size (by repeat (first | (with_reducible first | exact HB.out | apply below_alloc | apply pw_below_drewN | apply below_drew1 | refine below_set ?_ GE186.out) | exact HB.out))) : w.heap.size ≤ gb196)); have n6_ := Aside0.mk ((by rw [hg]; exact Nat.ne_of_lt (blk_lt (g := gb186) (o := .cells #[.int .i64 t177, .int .i64 t178, .int .u64 t179, .int .i64 t180, .int .i64 t181, .int .i64 t182, .int .i64 t183, .int .i64 t184] 27 (0, 0)) (by (with_reducible repeat (first | refine blk_drewN ?_ _ | refine blk_drew ?_ | refine blk_alloc ?_ _)); exact BK186.out)) : gb186 ≠ gb196)); have n7_ := Aside0.mk ((by rw [hg]; exact Nat.ne_of_gt (blk_lt (g := gb186) (o := .cells #[.int .i64 t177, .int .i64 t178, .int .u64 t179, .int .i64 t180, .int .i64 t181, .int .i64 t182, .int .i64 t183, .int .i64 t184] 27 (0, 0)) (by (with_reducible repeat (first | refine blk_drewN ?_ _ | refine blk_drew ?_ | refine blk_alloc ?_ _)); exact BK186.out)) : gb196 ≠ gb186)); clear HO176; clear BK186; clear HB; have HO176 := n0_; have BK186 := n1_; have HB := n2_; have BK196 := n3_; have GW196 := n4_; have GE196 := n5_; have NB186_196 := n6_; have NB196_186 := n7_; clear n0_ n1_ n2_ n3_ n4_ n5_ n6_ n7_; clear hb hbox hg; have hnb32 := NB196_186.out; have hnc32 := NB186_196.out; have hcz33_0 : w31.cell? ⟨gb196, 0, none⟩ = some (.int .i64 0) := (blk_cell BK196.out 0).trans rfl; have hcz33_1 : w31.cell? ⟨gb196, 1, none⟩ = some (.int .i64 0) := (blk_cell BK196.out 1).trans rfl; have hcz33_2 : w31.cell? ⟨gb196, 2, none⟩ = some (.int .u64 0) := (blk_cell BK196.out 2).trans rfl; have hcz33_3 : w31.cell? ⟨gb196, 3, none⟩ = some (.int .i64 0) := (blk_cell BK196.out 3).trans rfl; have hcz33_4 : w31.cell? ⟨gb196, 4, none⟩ = some (.int .i64 0) := (blk_cell BK196.out 4).trans rfl; have hcz33_5 : w31.cell? ⟨gb196, 5, none⟩ = some (.int .i64 0) := (blk_cell BK196.out 5).trans rfl; have hcz33_6 : w31.cell? ⟨gb196, 6, none⟩ = some (.int .i64 0) := (blk_cell BK196.out 6).trans rfl; have hcz33_7 : w31.cell? ⟨gb196, 7, none⟩ = some (.int .i64 0) := (blk_cell BK196.out 7).trans rfl; have hfz33_0 := blk_frozen BK196.out 0; have hfz33_1 := blk_frozen BK196.out 1; have hfz33_2 := blk_frozen BK196.out 2; have hfz33_3 := blk_frozen BK196.out 3; have hfz33_4 := blk_frozen BK196.out 4; have hfz33_5 := blk_frozen BK196.out 5; have hfz33_6 := blk_frozen BK196.out 6; have hfz33_7 := blk_frozen BK196.out 7) | (go_at_call 25; (with_reducible refine (timer_Upto.calls k3 _ _ l0 a2 t197 t198 t199 t200 t201 t202 _ ?side1 ?side2 A19.out).mono ?_); (case side1 => exact Kd.C_below HR0.out (by repeat (first | (with_reducible first | exact HB.out | apply below_alloc | apply pw_below_drewN | apply below_drew1 | refine below_set ?_ GE186.out | refine below_set ?_ GE196.out) | exact HB.out))); (case side2 => exact HC0.out); rintro e w34 ⟨rfl, hb⟩; have n0_ := Aside0.mk (Kd.R_below (by (with_reducible repeat (first | apply Kd.R_alloc | apply Kd.R_drewN | apply Kd.R_drew)); exact (Kd.R_mono (Kd.R_far (p := ⟨gb196, 7, none⟩) (Kd.R_far (p := ⟨gb196, 6, none⟩) (Kd.R_far (p := ⟨gb196, 5, none⟩) (Kd.R_far (p := ⟨gb196, 4, none⟩) (Kd.R_far (p := ⟨gb196, 3, none⟩) (Kd.R_far (p := ⟨gb196, 2, none⟩) (Kd.R_far (p := ⟨gb196, 1, none⟩) (Kd.R_far (p := ⟨gb196, 0, none⟩) (Kd.R_types HO176.out BK196.out (by decide)) (fun _ hk => hk.2) (.int .i64 t187)) (fun _ hk => hk.2) (.int .i64 t188)) (fun _ hk => hk.2) (.int .u64 t189)) (fun _ hk => hk.2) (.int .i64 t190)) (fun _ hk => hk.2) (.int .i64 t191)) (fun _ hk => hk.2) (.int .i64 t192)) (fun _ hk => hk.2) (.int .i64 t193)) (fun _ hk => hk.2) (.int .i64 t194)) (fun _ h_ => h_.1))) hb); have n1_ := Aside0.mk (blk_below (g := gb186) (o := .cells #[.int .i64 t177, .int .i64 t178, .int .u64 t179, .int .i64 t180, .int .i64 t181, .int .i64 t182, .int .i64 t183, .int .i64 t184] 27 (0, 0)) (by (with_reducible repeat (first | refine blk_drewN ?_ _ | refine blk_drew ?_ | refine blk_alloc ?_ _)); refine blk_far ?_ NB186_196.out _; (with_reducible repeat (first | refine blk_drewN ?_ _ | refine blk_drew ?_ | refine blk_alloc ?_ _)); refine blk_far ?_ NB186_196.out _; (with_reducible repeat (first | refine blk_drewN ?_ _ | refine blk_drew ?_ | refine blk_alloc ?_ _)); refine blk_far ?_ NB186_196.out _; (with_reducible repeat (first | refine blk_drewN ?_ _ | refine blk_drew ?_ | refine blk_alloc ?_ _)); refine blk_far ?_ NB186_196.out _; (with_reducible repeat (first | refine blk_drewN ?_ _ | refine blk_drew ?_ | refine blk_alloc ?_ _)); refine blk_far ?_ NB186_196.out _; (with_reducible repeat (first | refine blk_drewN ?_ _ | refine blk_drew ?_ | refine blk_alloc ?_ _)); refine blk_far ?_ NB186_196.out _; (with_reducible repeat (first | refine blk_drewN ?_ _ | refine blk_drew ?_ | refine blk_alloc ?_ _)); refine blk_far ?_ NB186_196.out _; (with_reducible repeat (first | refine blk_drewN ?_ _ | refine blk_drew ?_ | refine blk_alloc ?_ _)); refine blk_far ?_ NB186_196.out _; (with_reducible repeat (first | refine blk_drewN ?_ _ | refine blk_drew ?_ | refine blk_alloc ?_ _)); exact BK186.out) hb); have n2_ := Aside0.mk (blk_below (g := gb196) (o := .cells #[.int .i64 t187, .int .i64 t188, .int .u64 t189, .int .i64 t190, .int .i64 t191, .int .i64 t192, .int .i64 t193, .int .i64 t194] 27 (0, 0)) (by (with_reducible repeat (first | refine blk_drewN ?_ _ | refine blk_drew ?_ | refine blk_alloc ?_ _)); refine blk_put (cs := #[.int .i64 t187, .int .i64 t188, .int .u64 t189, .int .i64 t190, .int .i64 t191, .int .i64 t192, .int .i64 t193, .int .i64 0]) ?_ 7 _ rfl; (with_reducible repeat (first | refine blk_drewN ?_ _ | refine blk_drew ?_ | refine blk_alloc ?_ _)); refine blk_put (cs := #[.int .i64 t187, .int .i64 t188, .int .u64 t189, .int .i64 t190, .int .i64 t191, .int .i64 t192, .int .i64 0, .int .i64 0]) ?_ 6 _ rfl; (with_reducible repeat (first | refine blk_drewN ?_ _ | refine blk_drew ?_ | refine blk_alloc ?_ _)); refine blk_put (cs := #[.int .i64 t187, .int .i64 t188, .int .u64 t189, .int .i64 t190, .int .i64 t191, .int .i64 0, .int .i64 0, .int .i64 0]) ?_ 5 _ rfl; (with_reducible repeat (first | refine blk_drewN ?_ _ | refine blk_drew ?_ | refine blk_alloc ?_ _)); refine blk_put (cs := #[.int .i64 t187, .int .i64 t188, .int .u64 t189, .int .i64 t190, .int .i64 0, .int .i64 0, .int .i64 0, .int .i64 0]) ?_ 4 _ rfl; (with_reducible repeat (first | refine blk_drewN ?_ _ | refine blk_drew ?_ | refine blk_alloc ?_ _)); refine blk_put (cs := #[.int .i64 t187, .int .i64 t188, .int .u64 t189, .int .i64 0, .int .i64 0, .int .i64 0, .int .i64 0, .int .i64 0]) ?_ 3 _ rfl; (with_reducible repeat (first | refine blk_drewN ?_ _ | refine blk_drew ?_ | refine blk_alloc ?_ _)); refine blk_put (cs := #[.int .i64 t187, .int .i64 t188, .int .u64 0, .int .i64 0, .int .i64 0, .int .i64 0, .int .i64 0, .int .i64 0]) ?_ 2 _ rfl; (with_reducible repeat (first | refine blk_drewN ?_ _ | refine blk_drew ?_ | refine blk_alloc ?_ _)); refine blk_put (cs := #[.int .i64 t187, .int .i64 0, .int .u64 0, .int .i64 0, .int .i64 0, .int .i64 0, .int .i64 0, .int .i64 0]) ?_ 1 _ rfl; (with_reducible repeat (first | refine blk_drewN ?_ _ | refine blk_drew ?_ | refine blk_alloc ?_ _)); refine blk_put (cs := #[.int .i64 0, .int .i64 0, .int .u64 0, .int .i64 0, .int .i64 0, .int .i64 0, .int .i64 0, .int .i64 0]) ?_ 0 _ rfl; (with_reducible repeat (first | refine blk_drewN ?_ _ | refine blk_drew ?_ | refine blk_alloc ?_ _)); exact BK196.out) hb); have n3_ := Aside0.mk (below_step (by repeat (first | (with_reducible first | exact HB.out | apply below_alloc | apply pw_below_drewN | apply below_drew1 | refine below_set ?_ GE186.out | refine below_set ?_ GE196.out) | exact HB.out)) hb); clear HO176; clear BK186; clear BK196; clear HB; have HO176 := n0_; have BK186 := n1_; have BK196 := n2_; have HB := n3_; clear n0_ n1_ n2_ n3_; (try clear hb); (try clear hb2); (try clear hk); (try clear hi)) | ((with_reducible refine gate_dst (N := 15) rfl ?_); (try (refine gate_guard (by rfl) ?_; dsimp only)); refine box_event ?hg (N := 15) ?hd (cs := #[.int .i64 0, .int .i64 0, .int .u64 0, .int .i64 0, .int .i64 0]) (t := 53) ?hr ?_; (case hd => rfl); (case hg => rfl); (case hr => first | (go_simp; done) | (go_simp; rfl)); intro gb203 hg w35 hbox hb; have n0_ := Aside0.mk (Kd.R_below (by (with_reducible repeat (first | apply Kd.R_alloc | apply Kd.R_drewN | apply Kd.R_drew)); exact HO176.out) hb); have n1_ := Aside0.mk (blk_below (g := gb186) (o := .cells #[.int .i64 t177, .int .i64 t178, .int .u64 t179, .int .i64 t180, .int .i64 t181, .int .i64 t182, .int .i64 t183, .int .i64 t184] 27 (0, 0)) (by (with_reducible repeat (first | refine blk_drewN ?_ _ | refine blk_drew ?_ | refine blk_alloc ?_ _)); exact BK186.out) hb); have n2_ := Aside0.mk (blk_below (g := gb196) (o := .cells #[.int .i64 t187, .int .i64 t188, .int .u64 t189, .int .i64 t190, .int .i64 t191, .int .i64 t192, .int .i64 t193, .int .i64 t194] 27 (0, 0)) (by (with_reducible repeat (first | refine blk_drewN ?_ _ | refine blk_drew ?_ | refine blk_alloc ?_ _)); exact BK196.out) hb); have n3_ := Aside0.mk (below_step (by repeat (first | (with_reducible first | exact HB.out | apply below_alloc | apply pw_below_drewN | apply below_drew1 | refine below_set ?_ GE186.out | refine below_set ?_ GE196.out) | exact HB.out)) hb); have n4_ := Aside0.mk (hbox); have n5_ := Aside0.mk ((by rw [hg]; exact (below_size (by repeat (first | (with_reducible first | exact HB.out | apply below_alloc | apply pw_below_drewN | apply below_drew1 | refine below_set ?_ GE186.out | refine below_set ?_ GE196.out) | exact HB.out))) : w.heap.size ≤ gb203)); have n6_ := Aside0.mk ((by rw [hg]; exact (below_size (by repeat (first | (with_reducible first | exact HB.out | apply below_alloc | apply pw_below_drewN | apply below_drew1 | refine below_set ?_ GE186.out | refine below_set ?_ GE196.out) | exact HB.out))) : w.heap.size ≤ gb203)); have n7_ := Aside0.mk ((by rw [hg]; exact Nat.ne_of_lt (blk_lt (g := gb186) (o := .cells #[.int .i64 t177, .int .i64 t178, .int .u64 t179, .int .i64 t180, .int .i64 t181, .int .i64 t182, .int .i64 t183, .int .i64 t184] 27 (0, 0)) (by (with_reducible repeat (first | refine blk_drewN ?_ _ | refine blk_drew ?_ | refine blk_alloc ?_ _)); exact BK186.out)) : gb186 ≠ gb203)); have n8_ := Aside0.mk ((by rw [hg]; exact Nat.ne_of_gt (blk_lt (g := gb186) (o := .cells #[.int .i64 t177, .int .i64 t178, .int .u64 t179, .int .i64 t180, .int .i64 t181, .int .i64 t182, .int .i64 t183, .int .i64 t184] 27 (0, 0)) (by (with_reducible repeat (first | refine blk_drewN ?_ _ | refine blk_drew ?_ | refine blk_alloc ?_ _)); exact BK186.out)) : gb203 ≠ gb186)); have n9_ := Aside0.mk ((by rw [hg]; exact Nat.ne_of_lt (blk_lt (g := gb196) (o := .cells #[.int .i64 t187, .int .i64 t188, .int .u64 t189, .int .i64 t190, .int .i64 t191, .int .i64 t192, .int .i64 t193, .int .i64 t194] 27 (0, 0)) (by (with_reducible repeat (first | refine blk_drewN ?_ _ | refine blk_drew ?_ | refine blk_alloc ?_ _)); exact BK196.out)) : gb196 ≠ gb203)); have n10_ := Aside0.mk ((by rw [hg]; exact Nat.ne_of_gt (blk_lt (g := gb196) (o := .cells #[.int .i64 t187, .int .i64 t188, .int .u64 t189, .int .i64 t190, .int .i64 t191, .int .i64 t192, .int .i64 t193, .int .i64 t194] 27 (0, 0)) (by (with_reducible repeat (first | refine blk_drewN ?_ _ | refine blk_drew ?_ | refine blk_alloc ?_ _)); exact BK196.out)) : gb203 ≠ gb196)); clear HO176; clear BK186; clear BK196; clear HB; have HO176 := n0_; have BK186 := n1_; have BK196 := n2_; have HB := n3_; have BK203 := n4_; have GW203 := n5_; have GE203 := n6_; have NB186_203 := n7_; have NB203_186 := n8_; have NB196_203 := n9_; have NB203_196 := n10_; clear n0_ n1_ n2_ n3_ n4_ n5_ n6_ n7_ n8_ n9_ n10_; clear hb hbox hg; have hnb36 := NB203_186.out; have hnc36 := NB186_203.out; have hnb37 := NB203_196.out; have hnc37 := NB196_203.out; have hcz38_0 : w35.cell? ⟨gb203, 0, none⟩ = some (.int .i64 0) := (blk_cell BK203.out 0).trans rfl; have hcz38_1 : w35.cell? ⟨gb203, 1, none⟩ = some (.int .i64 0) := (blk_cell BK203.out 1).trans rfl; have hcz38_2 : w35.cell? ⟨gb203, 2, none⟩ = some (.int .u64 0) := (blk_cell BK203.out 2).trans rfl; have hcz38_3 : w35.cell? ⟨gb203, 3, none⟩ = some (.int .i64 0) := (blk_cell BK203.out 3).trans rfl; have hcz38_4 : w35.cell? ⟨gb203, 4, none⟩ = some (.int .i64 0) := (blk_cell BK203.out 4).trans rfl; have hfz38_0 := blk_frozen BK203.out 0; have hfz38_1 := blk_frozen BK203.out 1; have hfz38_2 := blk_frozen BK203.out 2; have hfz38_3 := blk_frozen BK203.out 3; have hfz38_4 := blk_frozen BK203.out 4) | (go_at_call 25; (with_reducible refine (timer_Upto.calls k3 _ _ y174 a2 t204 t205 t206 t207 t208 t209 _ ?side1 ?side2 A20.out).mono ?_); (case side1 => refine (Kd.R_reads' (e := 2) (base := w.heap.size) (ok := fun k_ => True) (n := y174.length) (c := co29) ?_).2.2; exact (by (with_reducible repeat (first | apply Kd.R_alloc | apply Kd.R_drewN | apply Kd.R_drew)); exact (Kd.R_mono (Kd.R_far (p := ⟨gb203, 4, none⟩) (Kd.R_far (p := ⟨gb203, 3, none⟩) (Kd.R_far (p := ⟨gb203, 2, none⟩) (Kd.R_far (p := ⟨gb203, 1, none⟩) (Kd.R_far (p := ⟨gb203, 0, none⟩) (Kd.R_types HO176.out BK203.out (by decide)) (fun _ hk => hk.2) (.int .i64 t197)) (fun _ hk => hk.2) (.int .i64 t198)) (fun _ hk => hk.2) (.int .u64 t199)) (fun _ hk => hk.2) (.int .i64 t200)) (fun _ hk => hk.2) (.int .i64 t201)) (fun _ h_ => h_.1)))); (case side2 => exact (Kd.R_reads' HO176.out).2.1); rintro e w39 ⟨rfl, hb⟩; have n0_ := Aside0.mk (Kd.R_below (by (with_reducible repeat (first | apply Kd.R_alloc | apply Kd.R_drewN | apply Kd.R_drew)); exact (Kd.R_mono (Kd.R_far (p := ⟨gb203, 4, none⟩) (Kd.R_far (p := ⟨gb203, 3, none⟩) (Kd.R_far (p := ⟨gb203, 2, none⟩) (Kd.R_far (p := ⟨gb203, 1, none⟩) (Kd.R_far (p := ⟨gb203, 0, none⟩) (Kd.R_types HO176.out BK203.out (by decide)) (fun _ hk => hk.2) (.int .i64 t197)) (fun _ hk => hk.2) (.int .i64 t198)) (fun _ hk => hk.2) (.int .u64 t199)) (fun _ hk => hk.2) (.int .i64 t200)) (fun _ hk => hk.2) (.int .i64 t201)) (fun _ h_ => h_.1))) hb); have n1_ := Aside0.mk (blk_below (g := gb186) (o := .cells #[.int .i64 t177, .int .i64 t178, .int .u64 t179, .int .i64 t180, .int .i64 t181, .int .i64 t182, .int .i64 t183, .int .i64 t184] 27 (0, 0)) (by (with_reducible repeat (first | refine blk_drewN ?_ _ | refine blk_drew ?_ | refine blk_alloc ?_ _)); refine blk_far ?_ NB186_203.out _; (with_reducible repeat (first | refine blk_drewN ?_ _ | refine blk_drew ?_ | refine blk_alloc ?_ _)); refine blk_far ?_ NB186_203.out _; (with_reducible repeat (first | refine blk_drewN ?_ _ | refine blk_drew ?_ | refine blk_alloc ?_ _)); refine blk_far ?_ NB186_203.out _; (with_reducible repeat (first | refine blk_drewN ?_ _ | refine blk_drew ?_ | refine blk_alloc ?_ _)); refine blk_far ?_ NB186_203.out _; (with_reducible repeat (first | refine blk_drewN ?_ _ | refine blk_drew ?_ | refine blk_alloc ?_ _)); refine blk_far ?_ NB186_203.out _; (with_reducible repeat (first | refine blk_drewN ?_ _ | refine blk_drew ?_ | refine blk_alloc ?_ _)); exact BK186.out) hb); have n2_ := Aside0.mk (blk_below (g := gb196) (o := .cells #[.int .i64 t187, .int .i64 t188, .int .u64 t189, .int .i64 t190, .int .i64 t191, .int .i64 t192, .int .i64 t193, .int .i64 t194] 27 (0, 0)) (by (with_reducible repeat (first | refine blk_drewN ?_ _ | refine blk_drew ?_ | refine blk_alloc ?_ _)); refine blk_far ?_ NB196_203.out _; (with_reducible repeat (first | refine blk_drewN ?_ _ | refine blk_drew ?_ | refine blk_alloc ?_ _)); refine blk_far ?_ NB196_203.out _; (with_reducible repeat (first | refine blk_drewN ?_ _ | refine blk_drew ?_ | refine blk_alloc ?_ _)); refine blk_far ?_ NB196_203.out _; (with_reducible repeat (first | refine blk_drewN ?_ _ | refine blk_drew ?_ | refine blk_alloc ?_ _)); refine blk_far ?_ NB196_203.out _; (with_reducible repeat (first | refine blk_drewN ?_ _ | refine blk_drew ?_ | refine blk_alloc ?_ _)); refine blk_far ?_ NB196_203.out _; (with_reducible repeat (first | refine blk_drewN ?_ _ | refine blk_drew ?_ | refine blk_alloc ?_ _)); exact BK196.out) hb); have n3_ := Aside0.mk (blk_below (g := gb203) (o := .cells #[.int .i64 t197, .int .i64 t198, .int .u64 t199, .int .i64 t200, .int .i64 t201] 53 (0, 0)) (by (with_reducible repeat (first | refine blk_drewN ?_ _ | refine blk_drew ?_ | refine blk_alloc ?_ _)); refine blk_put (cs := #[.int .i64 t197, .int .i64 t198, .int .u64 t199, .int .i64 t200, .int .i64 0]) ?_ 4 _ rfl; (with_reducible repeat (first | refine blk_drewN ?_ _ | refine blk_drew ?_ | refine blk_alloc ?_ _)); refine blk_put (cs := #[.int .i64 t197, .int .i64 t198, .int .u64 t199, .int .i64 0, .int .i64 0]) ?_ 3 _ rfl; (with_reducible repeat (first | refine blk_drewN ?_ _ | refine blk_drew ?_ | refine blk_alloc ?_ _)); refine blk_put (cs := #[.int .i64 t197, .int .i64 t198, .int .u64 0, .int .i64 0, .int .i64 0]) ?_ 2 _ rfl; (with_reducible repeat (first | refine blk_drewN ?_ _ | refine blk_drew ?_ | refine blk_alloc ?_ _)); refine blk_put (cs := #[.int .i64 t197, .int .i64 0, .int .u64 0, .int .i64 0, .int .i64 0]) ?_ 1 _ rfl; (with_reducible repeat (first | refine blk_drewN ?_ _ | refine blk_drew ?_ | refine blk_alloc ?_ _)); refine blk_put (cs := #[.int .i64 0, .int .i64 0, .int .u64 0, .int .i64 0, .int .i64 0]) ?_ 0 _ rfl; (with_reducible repeat (first | refine blk_drewN ?_ _ | refine blk_drew ?_ | refine blk_alloc ?_ _)); exact BK203.out) hb); have n4_ := Aside0.mk (below_step (by repeat (first | (with_reducible first | exact HB.out | apply below_alloc | apply pw_below_drewN | apply below_drew1 | refine below_set ?_ GE186.out | refine below_set ?_ GE196.out | refine below_set ?_ GE203.out) | exact HB.out)) hb); clear HO176; clear BK186; clear BK196; clear BK203; clear HB; have HO176 := n0_; have BK186 := n1_; have BK196 := n2_; have BK203 := n3_; have HB := n4_; clear n0_ n1_ n2_ n3_ n4_; (try clear hb); (try clear hb2); (try clear hk); (try clear hi)) | ((with_reducible refine gate_dst (N := 17) rfl ?_); (try (refine gate_guard (by rfl) ?_; dsimp only)); refine box_event ?hg (N := 17) ?hd (cs := #[.int .i64 0, .int .i64 0, .int .u64 0, .int .i64 0, .int .i64 0]) (t := 53) ?hr ?_; (case hd => rfl); (case hg => rfl); (case hr => first | (go_simp; done) | (go_simp; rfl)); intro gb210 hg w40 hbox hb; have n0_ := Aside0.mk (Kd.R_below (by (with_reducible repeat (first | apply Kd.R_alloc | apply Kd.R_drewN | apply Kd.R_drew)); exact HO176.out) hb); have n1_ := Aside0.mk (blk_below (g := gb186) (o := .cells #[.int .i64 t177, .int .i64 t178, .int .u64 t179, .int .i64 t180, .int .i64 t181, .int .i64 t182, .int .i64 t183, .int .i64 t184] 27 (0, 0)) (by (with_reducible repeat (first | refine blk_drewN ?_ _ | refine blk_drew ?_ | refine blk_alloc ?_ _)); exact BK186.out) hb); have n2_ := Aside0.mk (blk_below (g := gb196) (o := .cells #[.int .i64 t187, .int .i64 t188, .int .u64 t189, .int .i64 t190, .int .i64 t191, .int .i64 t192, .int .i64 t193, .int .i64 t194] 27 (0, 0)) (by (with_reducible repeat (first | refine blk_drewN ?_ _ | refine blk_drew ?_ | refine blk_alloc ?_ _)); exact BK196.out) hb); have n3_ := Aside0.mk (blk_below (g := gb203) (o := .cells #[.int .i64 t197, .int .i64 t198, .int .u64 t199, .int .i64 t200, .int .i64 t201] 53 (0, 0)) (by (with_reducible repeat (first | refine blk_drewN ?_ _ | refine blk_drew ?_ | refine blk_alloc ?_ _)); exact BK203.out) hb); have n4_ := Aside0.mk (below_step (by repeat (first | (with_reducible first | exact HB.out | apply below_alloc | apply pw_below_drewN | apply below_drew1 | refine below_set ?_ GE186.out | refine below_set ?_ GE196.out | refine below_set ?_ GE203.out) | exact HB.out)) hb); have n5_ := Aside0.mk (hbox); have n6_ := Aside0.mk ((by rw [hg]; exact (below_size (by repeat (first | (with_reducible first | exact HB.out | apply below_alloc | apply pw_below_drewN | apply below_drew1 | refine below_set ?_ GE186.out | refine below_set ?_ GE196.out | refine below_set ?_ GE203.out) | exact HB.out))) : w.heap.size ≤ gb210)); have n7_ := Aside0.mk ((by rw [hg]; exact (below_size (by repeat (first | (with_reducible first | exact HB.out | apply below_alloc | apply pw_below_drewN | apply below_drew1 | refine below_set ?_ GE186.out | refine below_set ?_ GE196.out | refine below_set ?_ GE203.out) | exact HB.out))) : w.heap.size ≤ gb210)); have n8_ := Aside0.mk ((by rw [hg]; exact Nat.ne_of_lt (blk_lt (g := gb186) (o := .cells #[.int .i64 t177, .int .i64 t178, .int .u64 t179, .int .i64 t180, .int .i64 t181, .int .i64 t182, .int .i64 t183, .int .i64 t184] 27 (0, 0)) (by (with_reducible repeat (first | refine blk_drewN ?_ _ | refine blk_drew ?_ | refine blk_alloc ?_ _)); exact BK186.out)) : gb186 ≠ gb210)); have n9_ := Aside0.mk ((by rw [hg]; exact Nat.ne_of_gt (blk_lt (g := gb186) (o := .cells #[.int .i64 t177, .int .i64 t178, .int .u64 t179, .int .i64 t180, .int .i64 t181, .int .i64 t182, .int .i64 t183, .int .i64 t184] 27 (0, 0)) (by (with_reducible repeat (first | refine blk_drewN ?_ _ | refine blk_drew ?_ | refine blk_alloc ?_ _)); exact BK186.out)) : gb210 ≠ gb186)); have n10_ := Aside0.mk ((by rw [hg]; exact Nat.ne_of_lt (blk_lt (g := gb196) (o := .cells #[.int .i64 t187, .int .i64 t188, .int .u64 t189, .int .i64 t190, .int .i64 t191, .int .i64 t192, .int .i64 t193, .int .i64 t194] 27 (0, 0)) (by (with_reducible repeat (first | refine blk_drewN ?_ _ | refine blk_drew ?_ | refine blk_alloc ?_ _)); exact BK196.out)) : gb196 ≠ gb210)); have n11_ := Aside0.mk ((by rw [hg]; exact Nat.ne_of_gt (blk_lt (g := gb196) (o := .cells #[.int .i64 t187, .int .i64 t188, .int .u64 t189, .int .i64 t190, .int .i64 t191, .int .i64 t192, .int .i64 t193, .int .i64 t194] 27 (0, 0)) (by (with_reducible repeat (first | refine blk_drewN ?_ _ | refine blk_drew ?_ | refine blk_alloc ?_ _)); exact BK196.out)) : gb210 ≠ gb196)); have n12_ := Aside0.mk ((by rw [hg]; exact Nat.ne_of_lt (blk_lt (g := gb203) (o := .cells #[.int .i64 t197, .int .i64 t198, .int .u64 t199, .int .i64 t200, .int .i64 t201] 53 (0, 0)) (by (with_reducible repeat (first | refine blk_drewN ?_ _ | refine blk_drew ?_ | refine blk_alloc ?_ _)); exact BK203.out)) : gb203 ≠ gb210)); have n13_ := Aside0.mk ((by rw [hg]; exact Nat.ne_of_gt (blk_lt (g := gb203) (o := .cells #[.int .i64 t197, .int .i64 t198, .int .u64 t199, .int .i64 t200, .int .i64 t201] 53 (0, 0)) (by (with_reducible repeat (first | refine blk_drewN ?_ _ | refine blk_drew ?_ | refine blk_alloc ?_ _)); exact BK203.out)) : gb210 ≠ gb203)); clear HO176; clear BK186; clear BK196; clear BK203; clear HB; have HO176 := n0_; have BK186 := n1_; have BK196 := n2_; have BK203 := n3_; have HB := n4_; have BK210 := n5_; have GW210 := n6_; have GE210 := n7_; have NB186_210 := n8_; have NB210_186 := n9_; have NB196_210 := n10_; have NB210_196 := n11_; have NB203_210 := n12_; have NB210_203 := n13_; clear n0_ n1_ n2_ n3_ n4_ n5_ n6_ n7_ n8_ n9_ n10_ n11_ n12_ n13_; clear hb hbox hg; have hnb41 := NB210_186.out; have hnc41 := NB186_210.out; have hnb42 := NB210_196.out; have hnc42 := NB196_210.out; have hnb43 := NB210_203.out; have hnc43 := NB203_210.out; have hcz44_0 : w40.cell? ⟨gb210, 0, none⟩ = some (.int .i64 0) := (blk_cell BK210.out 0).trans rfl; have hcz44_1 : w40.cell? ⟨gb210, 1, none⟩ = some (.int .i64 0) := (blk_cell BK210.out 1).trans rfl; have hcz44_2 : w40.cell? ⟨gb210, 2, none⟩ = some (.int .u64 0) := (blk_cell BK210.out 2).trans rfl; have hcz44_3 : w40.cell? ⟨gb210, 3, none⟩ = some (.int .i64 0) := (blk_cell BK210.out 3).trans rfl; have hcz44_4 : w40.cell? ⟨gb210, 4, none⟩ = some (.int .i64 0) := (blk_cell BK210.out 4).trans rfl; have hfz44_0 := blk_frozen BK210.out 0; have hfz44_1 := blk_frozen BK210.out 1; have hfz44_2 := blk_frozen BK210.out 2; have hfz44_3 := blk_frozen BK210.out 3; have hfz44_4 := blk_frozen BK210.out 4) | (go_at_call 23; (with_reducible refine (timer_Bins.calls _ _ l0 _ _ l3 t211 t212 _ ?side1 ?side2 ?side3 ?side4 A21.out).mono ?_); (case side1 => exact Kd.C_below HR0.out (by repeat (first | (with_reducible first | exact HB.out | apply below_alloc | apply pw_below_drewN | apply below_drew1 | refine below_set ?_ GE186.out | refine below_set ?_ GE196.out | refine below_set ?_ GE203.out | refine below_set ?_ GE210.out) | exact HB.out))); (case side2 => exact HC0.out); (case side3 => exact Kd.C_below HR3.out (by repeat (first | (with_reducible first | exact HB.out | apply below_alloc | apply pw_below_drewN | apply below_drew1 | refine below_set ?_ GE186.out | refine below_set ?_ GE196.out | refine below_set ?_ GE203.out | refine below_set ?_ GE210.out) | exact HB.out))); (case side4 => exact HC3.out); rintro e w45 ⟨v213, rfl, ho0, hb⟩; have n0_ := Aside0.mk (Kd.R_below (by (with_reducible repeat (first | apply Kd.R_alloc | apply Kd.R_drewN | apply Kd.R_drew)); exact (Kd.R_mono (Kd.R_far (p := ⟨gb210, 4, none⟩) (Kd.R_far (p := ⟨gb210, 3, none⟩) (Kd.R_far (p := ⟨gb210, 2, none⟩) (Kd.R_far (p := ⟨gb210, 1, none⟩) (Kd.R_far (p := ⟨gb210, 0, none⟩) (Kd.R_types HO176.out BK210.out (by decide)) (fun _ hk => hk.2) (.int .i64 t204)) (fun _ hk => hk.2) (.int .i64 t205)) (fun _ hk => hk.2) (.int .u64 t206)) (fun _ hk => hk.2) (.int .i64 t207)) (fun _ hk => hk.2) (.int .i64 t208)) (fun _ h_ => h_.1))) hb); have n1_ := Aside0.mk (Kd.R_lower ho0 (below_size (by repeat (first | (with_reducible first | exact HB.out | apply below_alloc | apply pw_below_drewN | apply below_drew1 | refine below_set ?_ GE186.out | refine below_set ?_ GE196.out | refine below_set ?_ GE203.out | refine below_set ?_ GE210.out) | exact HB.out)))); have n2_ := Aside0.mk (blk_below (g := gb186) (o := .cells #[.int .i64 t177, .int .i64 t178, .int .u64 t179, .int .i64 t180, .int .i64 t181, .int .i64 t182, .int .i64 t183, .int .i64 t184] 27 (0, 0)) (by (with_reducible repeat (first | refine blk_drewN ?_ _ | refine blk_drew ?_ | refine blk_alloc ?_ _)); refine blk_far ?_ NB186_210.out _; (with_reducible repeat (first | refine blk_drewN ?_ _ | refine blk_drew ?_ | refine blk_alloc ?_ _)); refine blk_far ?_ NB186_210.out _; (with_reducible repeat (first | refine blk_drewN ?_ _ | refine blk_drew ?_ | refine blk_alloc ?_ _)); refine blk_far ?_ NB186_210.out _; (with_reducible repeat (first | refine blk_drewN ?_ _ | refine blk_drew ?_ | refine blk_alloc ?_ _)); refine blk_far ?_ NB186_210.out _; (with_reducible repeat (first | refine blk_drewN ?_ _ | refine blk_drew ?_ | refine blk_alloc ?_ _)); refine blk_far ?_ NB186_210.out _; (with_reducible repeat (first | refine blk_drewN ?_ _ | refine blk_drew ?_ | refine blk_alloc ?_ _)); exact BK186.out) hb); have n3_ := Aside0.mk (blk_below (g := gb196) (o := .cells #[.int .i64 t187, .int .i64 t188, .int .u64 t189, .int .i64 t190, .int .i64 t191, .int .i64 t192, .int .i64 t193, .int .i64 t194] 27 (0, 0)) (by (with_reducible repeat (first | refine blk_drewN ?_ _ | refine blk_drew ?_ | refine blk_alloc ?_ _)); refine blk_far ?_ NB196_210.out _; (with_reducible repeat (first | refine blk_drewN ?_ _ | refine blk_drew ?_ | refine blk_alloc ?_ _)); refine blk_far ?_ NB196_210.out _; (with_reducible repeat (first | refine blk_drewN ?_ _ | refine blk_drew ?_ | refine blk_alloc ?_ _)); refine blk_far ?_ NB196_210.out _; (with_reducible repeat (first | refine blk_drewN ?_ _ | refine blk_drew ?_ | refine blk_alloc ?_ _)); refine blk_far ?_ NB196_210.out _; (with_reducible repeat (first | refine blk_drewN ?_ _ | refine blk_drew ?_ | refine blk_alloc ?_ _)); refine blk_far ?_ NB196_210.out _; (with_reducible repeat (first | refine blk_drewN ?_ _ | refine blk_drew ?_ | refine blk_alloc ?_ _)); exact BK196.out) hb); have n4_ := Aside0.mk (blk_below (g := gb203) (o := .cells #[.int .i64 t197, .int .i64 t198, .int .u64 t199, .int .i64 t200, .int .i64 t201] 53 (0, 0)) (by (with_reducible repeat (first | refine blk_drewN ?_ _ | refine blk_drew ?_ | refine blk_alloc ?_ _)); refine blk_far ?_ NB203_210.out _; (with_reducible repeat (first | refine blk_drewN ?_ _ | refine blk_drew ?_ | refine blk_alloc ?_ _)); refine blk_far ?_ NB203_210.out _; (with_reducible repeat (first | refine blk_drewN ?_ _ | refine blk_drew ?_ | refine blk_alloc ?_ _)); refine blk_far ?_ NB203_210.out _; (with_reducible repeat (first | refine blk_drewN ?_ _ | refine blk_drew ?_ | refine blk_alloc ?_ _)); refine blk_far ?_ NB203_210.out _; (with_reducible repeat (first | refine blk_drewN ?_ _ | refine blk_drew ?_ | refine blk_alloc ?_ _)); refine blk_far ?_ NB203_210.out _; (with_reducible repeat (first | refine blk_drewN ?_ _ | refine blk_drew ?_ | refine blk_alloc ?_ _)); exact BK203.out) hb); have n5_ := Aside0.mk (blk_below (g := gb210) (o := .cells #[.int .i64 t204, .int .i64 t205, .int .u64 t206, .int .i64 t207, .int .i64 t208] 53 (0, 0)) (by (with_reducible repeat (first | refine blk_drewN ?_ _ | refine blk_drew ?_ | refine blk_alloc ?_ _)); refine blk_put (cs := #[.int .i64 t204, .int .i64 t205, .int .u64 t206, .int .i64 t207, .int .i64 0]) ?_ 4 _ rfl; (with_reducible repeat (first | refine blk_drewN ?_ _ | refine blk_drew ?_ | refine blk_alloc ?_ _)); refine blk_put (cs := #[.int .i64 t204, .int .i64 t205, .int .u64 t206, .int .i64 0, .int .i64 0]) ?_ 3 _ rfl; (with_reducible repeat (first | refine blk_drewN ?_ _ | refine blk_drew ?_ | refine blk_alloc ?_ _)); refine blk_put (cs := #[.int .i64 t204, .int .i64 t205, .int .u64 0, .int .i64 0, .int .i64 0]) ?_ 2 _ rfl; (with_reducible repeat (first | refine blk_drewN ?_ _ | refine blk_drew ?_ | refine blk_alloc ?_ _)); refine blk_put (cs := #[.int .i64 t204, .int .i64 0, .int .u64 0, .int .i64 0, .int .i64 0]) ?_ 1 _ rfl; (with_reducible repeat (first | refine blk_drewN ?_ _ | refine blk_drew ?_ | refine blk_alloc ?_ _)); refine blk_put (cs := #[.int .i64 0, .int .i64 0, .int .u64 0, .int .i64 0, .int .i64 0]) ?_ 0 _ rfl; (with_reducible repeat (first | refine blk_drewN ?_ _ | refine blk_drew ?_ | refine blk_alloc ?_ _)); exact BK210.out) hb); have n6_ := Aside0.mk (below_step (by repeat (first | (with_reducible first | exact HB.out | apply below_alloc | apply pw_below_drewN | apply below_drew1 | refine below_set ?_ GE186.out | refine below_set ?_ GE196.out | refine below_set ?_ GE203.out | refine below_set ?_ GE210.out) | exact HB.out)) hb); clear HO176; clear BK186; clear BK196; clear BK203; clear BK210; clear HB; have HO176 := n0_; have HO214 := n1_; have BK186 := n2_; have BK196 := n3_; have BK203 := n4_; have BK210 := n5_; have HB := n6_; clear n0_ n1_ n2_ n3_ n4_ n5_ n6_; (try clear hb); (try clear hb2); (try clear hk); (try clear hi); (try clear ho0)) | (go_at_call 23; (with_reducible refine (timer_Bins.calls _ _ y174 _ _ l3 t215 t216 _ ?side1 ?side2 ?side3 ?side4 A22.out).mono ?_); (case side1 => repeat (first | exact (Kd.R_reads' HO176.out).2.2 | (with_reducible refine Kd.C_alloc ?_ _) | (with_reducible refine Kd.C_drewN ?_ _) | (with_reducible refine Kd.C_drew ?_))); (case side2 => exact (Kd.R_reads' HO176.out).2.1); (case side3 => repeat (first | exact (Kd.C_below HR3.out HB.out) | (with_reducible refine Kd.C_alloc ?_ _) | (with_reducible refine Kd.C_drewN ?_ _) | (with_reducible refine Kd.C_drew ?_))); (case side4 => exact HC3.out); rintro e w46 ⟨v217, rfl, ho0, hb⟩; have n0_ := Aside0.mk (Kd.R_below (by (with_reducible repeat (first | apply Kd.R_alloc | apply Kd.R_drewN | apply Kd.R_drew)); exact HO176.out) hb); have n1_ := Aside0.mk (Kd.R_elder' (by (with_reducible repeat (first | apply Kd.R_alloc | apply Kd.R_drewN | apply Kd.R_drew)); exact HO214.out) (Kd.R_base ho0) hb); have n2_ := Aside0.mk (Kd.R_lower (Kd.R_new' ho0 (Kd.R_lt (by (with_reducible repeat (first | apply Kd.R_alloc | apply Kd.R_drewN | apply Kd.R_drew)); exact HO214.out))) (below_size (by repeat (first | (with_reducible first | exact HB.out | apply below_alloc | apply pw_below_drewN | apply below_drew1 | refine below_set ?_ GE186.out | refine below_set ?_ GE196.out | refine below_set ?_ GE203.out | refine below_set ?_ GE210.out) | exact HB.out)))); have n3_ := Aside0.mk (blk_below (g := gb186) (o := .cells #[.int .i64 t177, .int .i64 t178, .int .u64 t179, .int .i64 t180, .int .i64 t181, .int .i64 t182, .int .i64 t183, .int .i64 t184] 27 (0, 0)) (by (with_reducible repeat (first | refine blk_drewN ?_ _ | refine blk_drew ?_ | refine blk_alloc ?_ _)); exact BK186.out) hb); have n4_ := Aside0.mk (blk_below (g := gb196) (o := .cells #[.int .i64 t187, .int .i64 t188, .int .u64 t189, .int .i64 t190, .int .i64 t191, .int .i64 t192, .int .i64 t193, .int .i64 t194] 27 (0, 0)) (by (with_reducible repeat (first | refine blk_drewN ?_ _ | refine blk_drew ?_ | refine blk_alloc ?_ _)); exact BK196.out) hb); have n5_ := Aside0.mk (blk_below (g := gb203) (o := .cells #[.int .i64 t197, .int .i64 t198, .int .u64 t199, .int .i64 t200, .int .i64 t201] 53 (0, 0)) (by (with_reducible repeat (first | refine blk_drewN ?_ _ | refine blk_drew ?_ | refine blk_alloc ?_ _)); exact BK203.out) hb); have n6_ := Aside0.mk (blk_below (g := gb210) (o := .cells #[.int .i64 t204, .int .i64 t205, .int .u64 t206, .int .i64 t207, .int .i64 t208] 53 (0, 0)) (by (with_reducible repeat (first | refine blk_drewN ?_ _ | refine blk_drew ?_ | refine blk_alloc ?_ _)); exact BK210.out) hb); have n7_ := Aside0.mk (below_step (by repeat (first | (with_reducible first | exact HB.out | apply below_alloc | apply pw_below_drewN | apply below_drew1 | refine below_set ?_ GE186.out | refine below_set ?_ GE196.out | refine below_set ?_ GE203.out | refine below_set ?_ GE210.out) | exact HB.out)) hb); clear HO176; clear HO214; clear BK186; clear BK196; clear BK203; clear BK210; clear HB; have HO176 := n0_; have HO214 := n1_; have HO218 := n2_; have BK186 := n3_; have BK196 := n4_; have BK203 := n5_; have BK210 := n6_; have HB := n7_; clear n0_ n1_ n2_ n3_ n4_ n5_ n6_ n7_; (try clear hb); (try clear hb2); (try clear hk); (try clear hi); (try clear ho0)))
                      repeat (go_quiet (first | ((with_reducible refine gate_builtin (b := .append) (xs := #[.tmp 51, .tmp 54]) rfl ?_); (try (refine gate_guard (by rfl) ?_; dsimp only)); at_builtin; refine Kd.R_append_rows (Kd.int .i64) (w0 := w) w.heap.size rfl (.tmp 51) (.tmp 54) 22 2 (.int .i64 0) 8 rfl Try.underlying22 info2 rfl (by decide) (by omega) u9 x9_3 (l0.take (x1_6 : Int).toNat) _ _ _ (fun _ => True) (fun _ => False) rfl rfl ?aO ?aR (fun _ _ h => h) (fun _ h => h.elim) ?aF ?aB ?aS ?aL ?_; (case aR => first | (have hl2_ : (l0.take (x1_6 : Int).toNat).length = x1_6.toNat := (by rw [List.length_take]; have h_ : (x1_6 : Int) ≤ (l0.length : Int) := of_decide_eq_true (by first | (with_reducible assumption) | assumption); omega); have q_ := (Kd.C_below HR173.out HB.out); rw [hl2_] at q_; exact q_) | (rw [← show (l0.take (x1_6 : Int).toNat).length = x1_6.toNat from (by rw [List.length_take]; have h_ : (x1_6 : Int) ≤ (l0.length : Int) := of_decide_eq_true (by first | (with_reducible assumption) | assumption); omega)]; repeat (first | exact (Kd.C_below HR173.out HB.out) | (with_reducible refine Kd.C_alloc ?_ _) | (with_reducible refine Kd.C_drewN ?_ _) | (with_reducible refine Kd.C_drew ?_))) | (repeat (first | exact (Kd.C_below HR173.out HB.out) | (with_reducible refine Kd.C_alloc ?_ _) | (with_reducible refine Kd.C_drewN ?_ _) | (with_reducible refine Kd.C_drew ?_)))); (case aB => exact (by repeat (first | (with_reducible first | exact HB.out | apply below_alloc | apply pw_below_drewN | apply below_drew1) | exact HB.out))); (case aF => exact (fun _ _ => trivial)); (case aO => exact (by (with_reducible repeat (first | apply Kd.R_alloc | apply Kd.R_drewN | apply Kd.R_drew)); exact HO_9.out)); (case aS => exact (below_size (by repeat (first | (with_reducible first | exact HB.out | apply below_alloc | apply pw_below_drewN | apply below_drew1) | exact HB.out)))); (case aL => have := LMc16.out; have hlx_ := (show (l0.take (x1_6 : Int).toNat).length = x1_6.toNat from (by rw [List.length_take]; have h_ : (x1_6 : Int) ≤ (l0.length : Int) := of_decide_eq_true (by first | (with_reducible assumption) | assumption); omega)); omega); intro v175 w25 ho hb hg hat; rw [← Ny174.out] at ho; have n0_ := Aside0.mk (hb); have n1_ := Aside0.mk (ho); clear HB; clear HO_9; have HB := n0_; have HO176 := n1_; clear n0_ n1_; clear ho hb hg hat) | (go_at_call 12; (with_reducible refine (timer_Of.calls _ _ l0 t177 t178 t179 t180 t181 t182 t183 t184 t185 _ ?side1 ?side2 A17.out).mono ?_); (case side1 => repeat (first | exact (Kd.C_below HR0.out HB.out) | (with_reducible refine Kd.C_alloc ?_ _) | (with_reducible refine Kd.C_drewN ?_ _) | (with_reducible refine Kd.C_drew ?_))); (case side2 => exact HC0.out); rintro e w26 ⟨rfl, hb⟩; have n0_ := Aside0.mk (Kd.R_below (by (with_reducible repeat (first | apply Kd.R_alloc | apply Kd.R_drewN | apply Kd.R_drew)); exact HO176.out) hb); have n1_ := Aside0.mk (below_step (by repeat (first | (with_reducible first | exact HB.out | apply below_alloc | apply pw_below_drewN | apply below_drew1) | exact HB.out)) hb); clear HO176; clear HB; have HO176 := n0_; have HB := n1_; clear n0_ n1_; (try clear hb); (try clear hb2); (try clear hk); (try clear hi)) | ((with_reducible refine gate_dst (N := 11) rfl ?_); (try (refine gate_guard (by rfl) ?_; dsimp only)); refine box_event ?hg (N := 11) ?hd (cs := #[.int .i64 0, .int .i64 0, .int .u64 0, .int .i64 0, .int .i64 0, .int .i64 0, .int .i64 0, .int .i64 0]) (t := 27) ?hr ?_; (case hd => rfl); (case hg => rfl); (case hr => first | (go_simp; done) | (go_simp; rfl)); intro gb186 hg w27 hbox hb; have n0_ := Aside0.mk (Kd.R_below (by (with_reducible repeat (first | apply Kd.R_alloc | apply Kd.R_drewN | apply Kd.R_drew)); exact HO176.out) hb); have n1_ := Aside0.mk (below_step (by repeat (first | (with_reducible first | exact HB.out | apply below_alloc | apply pw_below_drewN | apply below_drew1) | exact HB.out)) hb); have n2_ := Aside0.mk (hbox); have n3_ := Aside0.mk ((by rw [hg]; exact (below_size (by repeat (first | (with_reducible first | exact HB.out | apply below_alloc | apply pw_below_drewN | apply below_drew1) | exact HB.out))) : w.heap.size ≤ gb186)); have n4_ := Aside0.mk ((by rw [hg]; exact (below_size (by repeat (first | (with_reducible first | exact HB.out | apply below_alloc | apply pw_below_drewN | apply below_drew1) | exact HB.out))) : w.heap.size ≤ gb186)); clear HO176; clear HB; have HO176 := n0_; have HB := n1_; have BK186 := n2_; have GW186 := n3_; have GE186 := n4_; clear n0_ n1_ n2_ n3_ n4_; clear hb hbox hg; have hcz28_0 : w27.cell? ⟨gb186, 0, none⟩ = some (.int .i64 0) := (blk_cell BK186.out 0).trans rfl; have hcz28_1 : w27.cell? ⟨gb186, 1, none⟩ = some (.int .i64 0) := (blk_cell BK186.out 1).trans rfl; have hcz28_2 : w27.cell? ⟨gb186, 2, none⟩ = some (.int .u64 0) := (blk_cell BK186.out 2).trans rfl; have hcz28_3 : w27.cell? ⟨gb186, 3, none⟩ = some (.int .i64 0) := (blk_cell BK186.out 3).trans rfl; have hcz28_4 : w27.cell? ⟨gb186, 4, none⟩ = some (.int .i64 0) := (blk_cell BK186.out 4).trans rfl; have hcz28_5 : w27.cell? ⟨gb186, 5, none⟩ = some (.int .i64 0) := (blk_cell BK186.out 5).trans rfl; have hcz28_6 : w27.cell? ⟨gb186, 6, none⟩ = some (.int .i64 0) := (blk_cell BK186.out 6).trans rfl; have hcz28_7 : w27.cell? ⟨gb186, 7, none⟩ = some (.int .i64 0) := (blk_cell BK186.out 7).trans rfl; have hfz28_0 := blk_frozen BK186.out 0; have hfz28_1 := blk_frozen BK186.out 1; have hfz28_2 := blk_frozen BK186.out 2; have hfz28_3 := blk_frozen BK186.out 3; have hfz28_4 := blk_frozen BK186.out 4; have hfz28_5 := blk_frozen BK186.out 5; have hfz28_6 := blk_frozen BK186.out 6; have hfz28_7 := blk_frozen BK186.out 7; obtain ⟨Ao29, co29, eo29⟩ := Kd.R_slice HO176.out; subst eo29) | (go_at_call 12; (with_reducible refine (timer_Of.calls _ _ y174 t187 t188 t189 t190 t191 t192 t193 t194 t195 _ ?side1 ?side2 A18.out).mono ?_); (case side1 => refine (Kd.R_reads' (e := 2) (base := w.heap.size) (ok := fun k_ => True) (n := y174.length) (c := co29) ?_).2.2; exact (by (with_reducible repeat (first | apply Kd.R_alloc | apply Kd.R_drewN | apply Kd.R_drew)); exact (Kd.R_mono (Kd.R_far (p := ⟨gb186, 7, none⟩) (Kd.R_far (p := ⟨gb186, 6, none⟩) (Kd.R_far (p := ⟨gb186, 5, none⟩) (Kd.R_far (p := ⟨gb186, 4, none⟩) (Kd.R_far (p := ⟨gb186, 3, none⟩) (Kd.R_far (p := ⟨gb186, 2, none⟩) (Kd.R_far (p := ⟨gb186, 1, none⟩) (Kd.R_far (p := ⟨gb186, 0, none⟩) (Kd.R_types HO176.out BK186.out (by decide)) (fun _ hk => hk.2) (.int .i64 t177)) (fun _ hk => hk.2) (.int .i64 t178)) (fun _ hk => hk.2) (.int .u64 t179)) (fun _ hk => hk.2) (.int .i64 t180)) (fun _ hk => hk.2) (.int .i64 t181)) (fun _ hk => hk.2) (.int .i64 t182)) (fun _ hk => hk.2) (.int .i64 t183)) (fun _ hk => hk.2) (.int .i64 t184)) (fun _ h_ => h_.1)))); (case side2 => exact (Kd.R_reads' HO176.out).2.1); rintro e w30 ⟨rfl, hb⟩; have n0_ := Aside0.mk (Kd.R_below (by (with_reducible repeat (first | apply Kd.R_alloc | apply Kd.R_drewN | apply Kd.R_drew)); exact (Kd.R_mono (Kd.R_far (p := ⟨gb186, 7, none⟩) (Kd.R_far (p := ⟨gb186, 6, none⟩) (Kd.R_far (p := ⟨gb186, 5, none⟩) (Kd.R_far (p := ⟨gb186, 4, none⟩) (Kd.R_far (p := ⟨gb186, 3, none⟩) (Kd.R_far (p := ⟨gb186, 2, none⟩) (Kd.R_far (p := ⟨gb186, 1, none⟩) (Kd.R_far (p := ⟨gb186, 0, none⟩) (Kd.R_types HO176.out BK186.out (by decide)) (fun _ hk => hk.2) (.int .i64 t177)) (fun _ hk => hk.2) (.int .i64 t178)) (fun _ hk => hk.2) (.int .u64 t179)) (fun _ hk => hk.2) (.int .i64 t180)) (fun _ hk => hk.2) (.int .i64 t181)) (fun _ hk => hk.2) (.int .i64 t182)) (fun _ hk => hk.2) (.int .i64 t183)) (fun _ hk => hk.2) (.int .i64 t184)) (fun _ h_ => h_.1))) hb); have n1_ := Aside0.mk (blk_below (g := gb186) (o := .cells #[.int .i64 t177, .int .i64 t178, .int .u64 t179, .int .i64 t180, .int .i64 t181, .int .i64 t182, .int .i64 t183, .int .i64 t184] 27 (0, 0)) (by (with_reducible repeat (first | refine blk_drewN ?_ _ | refine blk_drew ?_ | refine blk_alloc ?_ _)); refine blk_put (cs := #[.int .i64 t177, .int .i64 t178, .int .u64 t179, .int .i64 t180, .int .i64 t181, .int .i64 t182, .int .i64 t183, .int .i64 0]) ?_ 7 _ rfl; (with_reducible repeat (first | refine blk_drewN ?_ _ | refine blk_drew ?_ | refine blk_alloc ?_ _)); refine blk_put (cs := #[.int .i64 t177, .int .i64 t178, .int .u64 t179, .int .i64 t180, .int .i64 t181, .int .i64 t182, .int .i64 0, .int .i64 0]) ?_ 6 _ rfl; (with_reducible repeat (first | refine blk_drewN ?_ _ | refine blk_drew ?_ | refine blk_alloc ?_ _)); refine blk_put (cs := #[.int .i64 t177, .int .i64 t178, .int .u64 t179, .int .i64 t180, .int .i64 t181, .int .i64 0, .int .i64 0, .int .i64 0]) ?_ 5 _ rfl; (with_reducible repeat (first | refine blk_drewN ?_ _ | refine blk_drew ?_ | refine blk_alloc ?_ _)); refine blk_put (cs := #[.int .i64 t177, .int .i64 t178, .int .u64 t179, .int .i64 t180, .int .i64 0, .int .i64 0, .int .i64 0, .int .i64 0]) ?_ 4 _ rfl; (with_reducible repeat (first | refine blk_drewN ?_ _ | refine blk_drew ?_ | refine blk_alloc ?_ _)); refine blk_put (cs := #[.int .i64 t177, .int .i64 t178, .int .u64 t179, .int .i64 0, .int .i64 0, .int .i64 0, .int .i64 0, .int .i64 0]) ?_ 3 _ rfl; (with_reducible repeat (first | refine blk_drewN ?_ _ | refine blk_drew ?_ | refine blk_alloc ?_ _)); refine blk_put (cs := #[.int .i64 t177, .int .i64 t178, .int .u64 0, .int .i64 0, .int .i64 0, .int .i64 0, .int .i64 0, .int .i64 0]) ?_ 2 _ rfl; (with_reducible repeat (first | refine blk_drewN ?_ _ | refine blk_drew ?_ | refine blk_alloc ?_ _)); refine blk_put (cs := #[.int .i64 t177, .int .i64 0, .int .u64 0, .int .i64 0, .int .i64 0, .int .i64 0, .int .i64 0, .int .i64 0]) ?_ 1 _ rfl; (with_reducible repeat (first | refine blk_drewN ?_ _ | refine blk_drew ?_ | refine blk_alloc ?_ _)); refine blk_put (cs := #[.int .i64 0, .int .i64 0, .int .u64 0, .int .i64 0, .int .i64 0, .int .i64 0, .int .i64 0, .int .i64 0]) ?_ 0 _ rfl; (with_reducible repeat (first | refine blk_drewN ?_ _ | refine blk_drew ?_ | refine blk_alloc ?_ _)); exact BK186.out) hb); have n2_ := Aside0.mk (below_step (by repeat (first | (with_reducible first | exact HB.out | apply below_alloc | apply pw_below_drewN | apply below_drew1 | refine below_set ?_ GE186.out) | exact HB.out)) hb); clear HO176; clear BK186; clear HB; have HO176 := n0_; have BK186 := n1_; have HB := n2_; clear n0_ n1_ n2_; (try clear hb); (try clear hb2); (try clear hk); (try clear hi)) | ((with_reducible refine gate_dst (N := 13) rfl ?_); (try (refine gate_guard (by rfl) ?_; dsimp only)); refine box_event ?hg (N := 13) ?hd (cs := #[.int .i64 0, .int .i64 0, .int .u64 0, .int .i64 0, .int .i64 0, .int .i64 0, .int .i64 0, .int .i64 0]) (t := 27) ?hr ?_; (case hd => rfl); (case hg => rfl); (case hr => first | (go_simp; done) | (go_simp; rfl)); intro gb196 hg w31 hbox hb; have n0_ := Aside0.mk (Kd.R_below (by (with_reducible repeat (first | apply Kd.R_alloc | apply Kd.R_drewN | apply Kd.R_drew)); exact HO176.out) hb); have n1_ := Aside0.mk (blk_below (g := gb186) (o := .cells #[.int .i64 t177, .int .i64 t178, .int .u64 t179, .int .i64 t180, .int .i64 t181, .int .i64 t182, .int .i64 t183, .int .i64 t184] 27 (0, 0)) (by (with_reducible repeat (first | refine blk_drewN ?_ _ | refine blk_drew ?_ | refine blk_alloc ?_ _)); exact BK186.out) hb); have n2_ := Aside0.mk (below_step (by repeat (first | (with_reducible first | exact HB.out | apply below_alloc | apply pw_below_drewN | apply below_drew1 | refine below_set ?_ GE186.out) | exact HB.out)) hb); have n3_ := Aside0.mk (hbox); have n4_ := Aside0.mk ((by rw [hg]; exact (below_size (by repeat (first | (with_reducible first | exact HB.out | apply below_alloc | apply pw_below_drewN | apply below_drew1 | refine below_set ?_ GE186.out) | exact HB.out))) : w.heap.size ≤ gb196)); have n5_ := Aside0.mk ((by rw [hg]; exact (below_size (by repeat (first | (with_reducible first | exact HB.out | apply below_alloc | apply pw_below_drewN | apply below_drew1 | refine below_set ?_ GE186.out) | exact HB.out))) : w.heap.size ≤ gb196)); have n6_ := Aside0.mk ((by rw [hg]; exact Nat.ne_of_lt (blk_lt (g := gb186) (o := .cells #[.int .i64 t177, .int .i64 t178, .int .u64 t179, .int .i64 t180, .int .i64 t181, .int .i64 t182, .int .i64 t183, .int .i64 t184] 27 (0, 0)) (by (with_reducible repeat (first | refine blk_drewN ?_ _ | refine blk_drew ?_ | refine blk_alloc ?_ _)); exact BK186.out)) : gb186 ≠ gb196)); have n7_ := Aside0.mk ((by rw [hg]; exact Nat.ne_of_gt (blk_lt (g := gb186) (o := .cells #[.int .i64 t177, .int .i64 t178, .int .u64 t179, .int .i64 t180, .int .i64 t181, .int .i64 t182, .int .i64 t183, .int .i64 t184] 27 (0, 0)) (by (with_reducible repeat (first | refine blk_drewN ?_ _ | refine blk_drew ?_ | refine blk_alloc ?_ _)); exact BK186.out)) : gb196 ≠ gb186)); clear HO176; clear BK186; clear HB; have HO176 := n0_; have BK186 := n1_; have HB := n2_; have BK196 := n3_; have GW196 := n4_; have GE196 := n5_; have NB186_196 := n6_; have NB196_186 := n7_; clear n0_ n1_ n2_ n3_ n4_ n5_ n6_ n7_; clear hb hbox hg; have hnb32 := NB196_186.out; have hnc32 := NB186_196.out; have hcz33_0 : w31.cell? ⟨gb196, 0, none⟩ = some (.int .i64 0) := (blk_cell BK196.out 0).trans rfl; have hcz33_1 : w31.cell? ⟨gb196, 1, none⟩ = some (.int .i64 0) := (blk_cell BK196.out 1).trans rfl; have hcz33_2 : w31.cell? ⟨gb196, 2, none⟩ = some (.int .u64 0) := (blk_cell BK196.out 2).trans rfl; have hcz33_3 : w31.cell? ⟨gb196, 3, none⟩ = some (.int .i64 0) := (blk_cell BK196.out 3).trans rfl; have hcz33_4 : w31.cell? ⟨gb196, 4, none⟩ = some (.int .i64 0) := (blk_cell BK196.out 4).trans rfl; have hcz33_5 : w31.cell? ⟨gb196, 5, none⟩ = some (.int .i64 0) := (blk_cell BK196.out 5).trans rfl; have hcz33_6 : w31.cell? ⟨gb196, 6, none⟩ = some (.int .i64 0) := (blk_cell BK196.out 6).trans rfl; have hcz33_7 : w31.cell? ⟨gb196, 7, none⟩ = some (.int .i64 0) := (blk_cell BK196.out 7).trans rfl; have hfz33_0 := blk_frozen BK196.out 0; have hfz33_1 := blk_frozen BK196.out 1; have hfz33_2 := blk_frozen BK196.out 2; have hfz33_3 := blk_frozen BK196.out 3; have hfz33_4 := blk_frozen BK196.out 4; have hfz33_5 := blk_frozen BK196.out 5; have hfz33_6 := blk_frozen BK196.out 6; have hfz33_7 := blk_frozen BK196.out 7) | (go_at_call 25; (with_reducible refine (timer_Upto.calls k3 _ _ l0 a2 t197 t198 t199 t200 t201 t202 _ ?side1 ?side2 A19.out).mono ?_); (case side1 => exact Kd.C_below HR0.out (by repeat (first | (with_reducible first | exact HB.out | apply below_alloc | apply pw_below_drewN | apply below_drew1 | refine below_set ?_ GE186.out | refine below_set ?_ GE196.out) | exact HB.out))); (case side2 => exact HC0.out); rintro e w34 ⟨rfl, hb⟩; have n0_ := Aside0.mk (Kd.R_below (by (with_reducible repeat (first | apply Kd.R_alloc | apply Kd.R_drewN | apply Kd.R_drew)); exact (Kd.R_mono (Kd.R_far (p := ⟨gb196, 7, none⟩) (Kd.R_far (p := ⟨gb196, 6, none⟩) (Kd.R_far (p := ⟨gb196, 5, none⟩) (Kd.R_far (p := ⟨gb196, 4, none⟩) (Kd.R_far (p := ⟨gb196, 3, none⟩) (Kd.R_far (p := ⟨gb196, 2, none⟩) (Kd.R_far (p := ⟨gb196, 1, none⟩) (Kd.R_far (p := ⟨gb196, 0, none⟩) (Kd.R_types HO176.out BK196.out (by decide)) (fun _ hk => hk.2) (.int .i64 t187)) (fun _ hk => hk.2) (.int .i64 t188)) (fun _ hk => hk.2) (.int .u64 t189)) (fun _ hk => hk.2) (.int .i64 t190)) (fun _ hk => hk.2) (.int .i64 t191)) (fun _ hk => hk.2) (.int .i64 t192)) (fun _ hk => hk.2) (.int .i64 t193)) (fun _ hk => hk.2) (.int .i64 t194)) (fun _ h_ => h_.1))) hb); have n1_ := Aside0.mk (blk_below (g := gb186) (o := .cells #[.int .i64 t177, .int .i64 t178, .int .u64 t179, .int .i64 t180, .int .i64 t181, .int .i64 t182, .int .i64 t183, .int .i64 t184] 27 (0, 0)) (by (with_reducible repeat (first | refine blk_drewN ?_ _ | refine blk_drew ?_ | refine blk_alloc ?_ _)); refine blk_far ?_ NB186_196.out _; (with_reducible repeat (first | refine blk_drewN ?_ _ | refine blk_drew ?_ | refine blk_alloc ?_ _)); refine blk_far ?_ NB186_196.out _; (with_reducible repeat (first | refine blk_drewN ?_ _ | refine blk_drew ?_ | refine blk_alloc ?_ _)); refine blk_far ?_ NB186_196.out _; (with_reducible repeat (first | refine blk_drewN ?_ _ | refine blk_drew ?_ | refine blk_alloc ?_ _)); refine blk_far ?_ NB186_196.out _; (with_reducible repeat (first | refine blk_drewN ?_ _ | refine blk_drew ?_ | refine blk_alloc ?_ _)); refine blk_far ?_ NB186_196.out _; (with_reducible repeat (first | refine blk_drewN ?_ _ | refine blk_drew ?_ | refine blk_alloc ?_ _)); refine blk_far ?_ NB186_196.out _; (with_reducible repeat (first | refine blk_drewN ?_ _ | refine blk_drew ?_ | refine blk_alloc ?_ _)); refine blk_far ?_ NB186_196.out _; (with_reducible repeat (first | refine blk_drewN ?_ _ | refine blk_drew ?_ | refine blk_alloc ?_ _)); refine blk_far ?_ NB186_196.out _; (with_reducible repeat (first | refine blk_drewN ?_ _ | refine blk_drew ?_ | refine blk_alloc ?_ _)); exact BK186.out) hb); have n2_ := Aside0.mk (blk_below (g := gb196) (o := .cells #[.int .i64 t187, .int .i64 t188, .int .u64 t189, .int .i64 t190, .int .i64 t191, .int .i64 t192, .int .i64 t193, .int .i64 t194] 27 (0, 0)) (by (with_reducible repeat (first | refine blk_drewN ?_ _ | refine blk_drew ?_ | refine blk_alloc ?_ _)); refine blk_put (cs := #[.int .i64 t187, .int .i64 t188, .int .u64 t189, .int .i64 t190, .int .i64 t191, .int .i64 t192, .int .i64 t193, .int .i64 0]) ?_ 7 _ rfl; (with_reducible repeat (first | refine blk_drewN ?_ _ | refine blk_drew ?_ | refine blk_alloc ?_ _)); refine blk_put (cs := #[.int .i64 t187, .int .i64 t188, .int .u64 t189, .int .i64 t190, .int .i64 t191, .int .i64 t192, .int .i64 0, .int .i64 0]) ?_ 6 _ rfl; (with_reducible repeat (first | refine blk_drewN ?_ _ | refine blk_drew ?_ | refine blk_alloc ?_ _)); refine blk_put (cs := #[.int .i64 t187, .int .i64 t188, .int .u64 t189, .int .i64 t190, .int .i64 t191, .int .i64 0, .int .i64 0, .int .i64 0]) ?_ 5 _ rfl; (with_reducible repeat (first | refine blk_drewN ?_ _ | refine blk_drew ?_ | refine blk_alloc ?_ _)); refine blk_put (cs := #[.int .i64 t187, .int .i64 t188, .int .u64 t189, .int .i64 t190, .int .i64 0, .int .i64 0, .int .i64 0, .int .i64 0]) ?_ 4 _ rfl; (with_reducible repeat (first | refine blk_drewN ?_ _ | refine blk_drew ?_ | refine blk_alloc ?_ _)); refine blk_put (cs := #[.int .i64 t187, .int .i64 t188, .int .u64 t189, .int .i64 0, .int .i64 0, .int .i64 0, .int .i64 0, .int .i64 0]) ?_ 3 _ rfl; (with_reducible repeat (first | refine blk_drewN ?_ _ | refine blk_drew ?_ | refine blk_alloc ?_ _)); refine blk_put (cs := #[.int .i64 t187, .int .i64 t188, .int .u64 0, .int .i64 0, .int .i64 0, .int .i64 0, .int .i64 0, .int .i64 0]) ?_ 2 _ rfl; (with_reducible repeat (first | refine blk_drewN ?_ _ | refine blk_drew ?_ | refine blk_alloc ?_ _)); refine blk_put (cs := #[.int .i64 t187, .int .i64 0, .int .u64 0, .int .i64 0, .int .i64 0, .int .i64 0, .int .i64 0, .int .i64 0]) ?_ 1 _ rfl; (with_reducible repeat (first | refine blk_drewN ?_ _ | refine blk_drew ?_ | refine blk_alloc ?_ _)); refine blk_put (cs := #[.int .i64 0, .int .i64 0, .int .u64 0, .int .i64 0, .int .i64 0, .int .i64 0, .int .i64 0, .int .i64 0]) ?_ 0 _ rfl; (with_reducible repeat (first | refine blk_drewN ?_ _ | refine blk_drew ?_ | refine blk_alloc ?_ _)); exact BK196.out) hb); have n3_ := Aside0.mk (below_step (by repeat (first | (with_reducible first | exact HB.out | apply below_alloc | apply pw_below_drewN | apply below_drew1 | refine below_set ?_ GE186.out | refine below_set ?_ GE196.out) | exact HB.out)) hb); clear HO176; clear BK186; clear BK196; clear HB; have HO176 := n0_; have BK186 := n1_; have BK196 := n2_; have HB := n3_; clear n0_ n1_ n2_ n3_; (try clear hb); (try clear hb2); (try clear hk); (try clear hi)) | ((with_reducible refine gate_dst (N := 15) rfl ?_); (try (refine gate_guard (by rfl) ?_; dsimp only)); refine box_event ?hg (N := 15) ?hd (cs := #[.int .i64 0, .int .i64 0, .int .u64 0, .int .i64 0, .int .i64 0]) (t := 53) ?hr ?_; (case hd => rfl); (case hg => rfl); (case hr => first | (go_simp; done) | (go_simp; rfl)); intro gb203 hg w35 hbox hb; have n0_ := Aside0.mk (Kd.R_below (by (with_reducible repeat (first | apply Kd.R_alloc | apply Kd.R_drewN | apply Kd.R_drew)); exact HO176.out) hb); have n1_ := Aside0.mk (blk_below (g := gb186) (o := .cells #[.int .i64 t177, .int .i64 t178, .int .u64 t179, .int .i64 t180, .int .i64 t181, .int .i64 t182, .int .i64 t183, .int .i64 t184] 27 (0, 0)) (by (with_reducible repeat (first | refine blk_drewN ?_ _ | refine blk_drew ?_ | refine blk_alloc ?_ _)); exact BK186.out) hb); have n2_ := Aside0.mk (blk_below (g := gb196) (o := .cells #[.int .i64 t187, .int .i64 t188, .int .u64 t189, .int .i64 t190, .int .i64 t191, .int .i64 t192, .int .i64 t193, .int .i64 t194] 27 (0, 0)) (by (with_reducible repeat (first | refine blk_drewN ?_ _ | refine blk_drew ?_ | refine blk_alloc ?_ _)); exact BK196.out) hb); have n3_ := Aside0.mk (below_step (by repeat (first | (with_reducible first | exact HB.out | apply below_alloc | apply pw_below_drewN | apply below_drew1 | refine below_set ?_ GE186.out | refine below_set ?_ GE196.out) | exact HB.out)) hb); have n4_ := Aside0.mk (hbox); have n5_ := Aside0.mk ((by rw [hg]; exact (below_size (by repeat (first | (with_reducible first | exact HB.out | apply below_alloc | apply pw_below_drewN | apply below_drew1 | refine below_set ?_ GE186.out | refine below_set ?_ GE196.out) | exact HB.out))) : w.heap.size ≤ gb203)); have n6_ := Aside0.mk ((by rw [hg]; exact (below_size (by repeat (first | (with_reducible first | exact HB.out | apply below_alloc | apply pw_below_drewN | apply below_drew1 | refine below_set ?_ GE186.out | refine below_set ?_ GE196.out) | exact HB.out))) : w.heap.size ≤ gb203)); have n7_ := Aside0.mk ((by rw [hg]; exact Nat.ne_of_lt (blk_lt (g := gb186) (o := .cells #[.int .i64 t177, .int .i64 t178, .int .u64 t179, .int .i64 t180, .int .i64 t181, .int .i64 t182, .int .i64 t183, .int .i64 t184] 27 (0, 0)) (by (with_reducible repeat (first | refine blk_drewN ?_ _ | refine blk_drew ?_ | refine blk_alloc ?_ _)); exact BK186.out)) : gb186 ≠ gb203)); have n8_ := Aside0.mk ((by rw [hg]; exact Nat.ne_of_gt (blk_lt (g := gb186) (o := .cells #[.int .i64 t177, .int .i64 t178, .int .u64 t179, .int .i64 t180, .int .i64 t181, .int .i64 t182, .int .i64 t183, .int .i64 t184] 27 (0, 0)) (by (with_reducible repeat (first | refine blk_drewN ?_ _ | refine blk_drew ?_ | refine blk_alloc ?_ _)); exact BK186.out)) : gb203 ≠ gb186)); have n9_ := Aside0.mk ((by rw [hg]; exact Nat.ne_of_lt (blk_lt (g := gb196) (o := .cells #[.int .i64 t187, .int .i64 t188, .int .u64 t189, .int .i64 t190, .int .i64 t191, .int .i64 t192, .int .i64 t193, .int .i64 t194] 27 (0, 0)) (by (with_reducible repeat (first | refine blk_drewN ?_ _ | refine blk_drew ?_ | refine blk_alloc ?_ _)); exact BK196.out)) : gb196 ≠ gb203)); have n10_ := Aside0.mk ((by rw [hg]; exact Nat.ne_of_gt (blk_lt (g := gb196) (o := .cells #[.int .i64 t187, .int .i64 t188, .int .u64 t189, .int .i64 t190, .int .i64 t191, .int .i64 t192, .int .i64 t193, .int .i64 t194] 27 (0, 0)) (by (with_reducible repeat (first | refine blk_drewN ?_ _ | refine blk_drew ?_ | refine blk_alloc ?_ _)); exact BK196.out)) : gb203 ≠ gb196)); clear HO176; clear BK186; clear BK196; clear HB; have HO176 := n0_; have BK186 := n1_; have BK196 := n2_; have HB := n3_; have BK203 := n4_; have GW203 := n5_; have GE203 := n6_; have NB186_203 := n7_; have NB203_186 := n8_; have NB196_203 := n9_; have NB203_196 := n10_; clear n0_ n1_ n2_ n3_ n4_ n5_ n6_ n7_ n8_ n9_ n10_; clear hb hbox hg; have hnb36 := NB203_186.out; have hnc36 := NB186_203.out; have hnb37 := NB203_196.out; have hnc37 := NB196_203.out; have hcz38_0 : w35.cell? ⟨gb203, 0, none⟩ = some (.int .i64 0) := (blk_cell BK203.out 0).trans rfl; have hcz38_1 : w35.cell? ⟨gb203, 1, none⟩ = some (.int .i64 0) := (blk_cell BK203.out 1).trans rfl; have hcz38_2 : w35.cell? ⟨gb203, 2, none⟩ = some (.int .u64 0) := (blk_cell BK203.out 2).trans rfl; have hcz38_3 : w35.cell? ⟨gb203, 3, none⟩ = some (.int .i64 0) := (blk_cell BK203.out 3).trans rfl; have hcz38_4 : w35.cell? ⟨gb203, 4, none⟩ = some (.int .i64 0) := (blk_cell BK203.out 4).trans rfl; have hfz38_0 := blk_frozen BK203.out 0; have hfz38_1 := blk_frozen BK203.out 1; have hfz38_2 := blk_frozen BK203.out 2; have hfz38_3 := blk_frozen BK203.out 3; have hfz38_4 := blk_frozen BK203.out 4) | (go_at_call 25; (with_reducible refine (timer_Upto.calls k3 _ _ y174 a2 t204 t205 t206 t207 t208 t209 _ ?side1 ?side2 A20.out).mono ?_); (case side1 => refine (Kd.R_reads' (e := 2) (base := w.heap.size) (ok := fun k_ => True) (n := y174.length) (c := co29) ?_).2.2; exact (by (with_reducible repeat (first | apply Kd.R_alloc | apply Kd.R_drewN | apply Kd.R_drew)); exact (Kd.R_mono (Kd.R_far (p := ⟨gb203, 4, none⟩) (Kd.R_far (p := ⟨gb203, 3, none⟩) (Kd.R_far (p := ⟨gb203, 2, none⟩) (Kd.R_far (p := ⟨gb203, 1, none⟩) (Kd.R_far (p := ⟨gb203, 0, none⟩) (Kd.R_types HO176.out BK203.out (by decide)) (fun _ hk => hk.2) (.int .i64 t197)) (fun _ hk => hk.2) (.int .i64 t198)) (fun _ hk => hk.2) (.int .u64 t199)) (fun _ hk => hk.2) (.int .i64 t200)) (fun _ hk => hk.2) (.int .i64 t201)) (fun _ h_ => h_.1)))); (case side2 => exact (Kd.R_reads' HO176.out).2.1); rintro e w39 ⟨rfl, hb⟩; have n0_ := Aside0.mk (Kd.R_below (by (with_reducible repeat (first | apply Kd.R_alloc | apply Kd.R_drewN | apply Kd.R_drew)); exact (Kd.R_mono (Kd.R_far (p := ⟨gb203, 4, none⟩) (Kd.R_far (p := ⟨gb203, 3, none⟩) (Kd.R_far (p := ⟨gb203, 2, none⟩) (Kd.R_far (p := ⟨gb203, 1, none⟩) (Kd.R_far (p := ⟨gb203, 0, none⟩) (Kd.R_types HO176.out BK203.out (by decide)) (fun _ hk => hk.2) (.int .i64 t197)) (fun _ hk => hk.2) (.int .i64 t198)) (fun _ hk => hk.2) (.int .u64 t199)) (fun _ hk => hk.2) (.int .i64 t200)) (fun _ hk => hk.2) (.int .i64 t201)) (fun _ h_ => h_.1))) hb); have n1_ := Aside0.mk (blk_below (g := gb186) (o := .cells #[.int .i64 t177, .int .i64 t178, .int .u64 t179, .int .i64 t180, .int .i64 t181, .int .i64 t182, .int .i64 t183, .int .i64 t184] 27 (0, 0)) (by (with_reducible repeat (first | refine blk_drewN ?_ _ | refine blk_drew ?_ | refine blk_alloc ?_ _)); refine blk_far ?_ NB186_203.out _; (with_reducible repeat (first | refine blk_drewN ?_ _ | refine blk_drew ?_ | refine blk_alloc ?_ _)); refine blk_far ?_ NB186_203.out _; (with_reducible repeat (first | refine blk_drewN ?_ _ | refine blk_drew ?_ | refine blk_alloc ?_ _)); refine blk_far ?_ NB186_203.out _; (with_reducible repeat (first | refine blk_drewN ?_ _ | refine blk_drew ?_ | refine blk_alloc ?_ _)); refine blk_far ?_ NB186_203.out _; (with_reducible repeat (first | refine blk_drewN ?_ _ | refine blk_drew ?_ | refine blk_alloc ?_ _)); refine blk_far ?_ NB186_203.out _; (with_reducible repeat (first | refine blk_drewN ?_ _ | refine blk_drew ?_ | refine blk_alloc ?_ _)); exact BK186.out) hb); have n2_ := Aside0.mk (blk_below (g := gb196) (o := .cells #[.int .i64 t187, .int .i64 t188, .int .u64 t189, .int .i64 t190, .int .i64 t191, .int .i64 t192, .int .i64 t193, .int .i64 t194] 27 (0, 0)) (by (with_reducible repeat (first | refine blk_drewN ?_ _ | refine blk_drew ?_ | refine blk_alloc ?_ _)); refine blk_far ?_ NB196_203.out _; (with_reducible repeat (first | refine blk_drewN ?_ _ | refine blk_drew ?_ | refine blk_alloc ?_ _)); refine blk_far ?_ NB196_203.out _; (with_reducible repeat (first | refine blk_drewN ?_ _ | refine blk_drew ?_ | refine blk_alloc ?_ _)); refine blk_far ?_ NB196_203.out _; (with_reducible repeat (first | refine blk_drewN ?_ _ | refine blk_drew ?_ | refine blk_alloc ?_ _)); refine blk_far ?_ NB196_203.out _; (with_reducible repeat (first | refine blk_drewN ?_ _ | refine blk_drew ?_ | refine blk_alloc ?_ _)); refine blk_far ?_ NB196_203.out _; (with_reducible repeat (first | refine blk_drewN ?_ _ | refine blk_drew ?_ | refine blk_alloc ?_ _)); exact BK196.out) hb); have n3_ := Aside0.mk (blk_below (g := gb203) (o := .cells #[.int .i64 t197, .int .i64 t198, .int .u64 t199, .int .i64 t200, .int .i64 t201] 53 (0, 0)) (by (with_reducible repeat (first | refine blk_drewN ?_ _ | refine blk_drew ?_ | refine blk_alloc ?_ _)); refine blk_put (cs := #[.int .i64 t197, .int .i64 t198, .int .u64 t199, .int .i64 t200, .int .i64 0]) ?_ 4 _ rfl; (with_reducible repeat (first | refine blk_drewN ?_ _ | refine blk_drew ?_ | refine blk_alloc ?_ _)); refine blk_put (cs := #[.int .i64 t197, .int .i64 t198, .int .u64 t199, .int .i64 0, .int .i64 0]) ?_ 3 _ rfl; (with_reducible repeat (first | refine blk_drewN ?_ _ | refine blk_drew ?_ | refine blk_alloc ?_ _)); refine blk_put (cs := #[.int .i64 t197, .int .i64 t198, .int .u64 0, .int .i64 0, .int .i64 0]) ?_ 2 _ rfl; (with_reducible repeat (first | refine blk_drewN ?_ _ | refine blk_drew ?_ | refine blk_alloc ?_ _)); refine blk_put (cs := #[.int .i64 t197, .int .i64 0, .int .u64 0, .int .i64 0, .int .i64 0]) ?_ 1 _ rfl; (with_reducible repeat (first | refine blk_drewN ?_ _ | refine blk_drew ?_ | refine blk_alloc ?_ _)); refine blk_put (cs := #[.int .i64 0, .int .i64 0, .int .u64 0, .int .i64 0, .int .i64 0]) ?_ 0 _ rfl; (with_reducible repeat (first | refine blk_drewN ?_ _ | refine blk_drew ?_ | refine blk_alloc ?_ _)); exact BK203.out) hb); have n4_ := Aside0.mk (below_step (by repeat (first | (with_reducible first | exact HB.out | apply below_alloc | apply pw_below_drewN | apply below_drew1 | refine below_set ?_ GE186.out | refine below_set ?_ GE196.out | refine below_set ?_ GE203.out) | exact HB.out)) hb); clear HO176; clear BK186; clear BK196; clear BK203; clear HB; have HO176 := n0_; have BK186 := n1_; have BK196 := n2_; have BK203 := n3_; have HB := n4_; clear n0_ n1_ n2_ n3_ n4_; (try clear hb); (try clear hb2); (try clear hk); (try clear hi)) | ((with_reducible refine gate_dst (N := 17) rfl ?_); (try (refine gate_guard (by rfl) ?_; dsimp only)); refine box_event ?hg (N := 17) ?hd (cs := #[.int .i64 0, .int .i64 0, .int .u64 0, .int .i64 0, .int .i64 0]) (t := 53) ?hr ?_; (case hd => rfl); (case hg => rfl); (case hr => first | (go_simp; done) | (go_simp; rfl)); intro gb210 hg w40 hbox hb; have n0_ := Aside0.mk (Kd.R_below (by (with_reducible repeat (first | apply Kd.R_alloc | apply Kd.R_drewN | apply Kd.R_drew)); exact HO176.out) hb); have n1_ := Aside0.mk (blk_below (g := gb186) (o := .cells #[.int .i64 t177, .int .i64 t178, .int .u64 t179, .int .i64 t180, .int .i64 t181, .int .i64 t182, .int .i64 t183, .int .i64 t184] 27 (0, 0)) (by (with_reducible repeat (first | refine blk_drewN ?_ _ | refine blk_drew ?_ | refine blk_alloc ?_ _)); exact BK186.out) hb); have n2_ := Aside0.mk (blk_below (g := gb196) (o := .cells #[.int .i64 t187, .int .i64 t188, .int .u64 t189, .int .i64 t190, .int .i64 t191, .int .i64 t192, .int .i64 t193, .int .i64 t194] 27 (0, 0)) (by (with_reducible repeat (first | refine blk_drewN ?_ _ | refine blk_drew ?_ | refine blk_alloc ?_ _)); exact BK196.out) hb); have n3_ := Aside0.mk (blk_below (g := gb203) (o := .cells #[.int .i64 t197, .int .i64 t198, .int .u64 t199, .int .i64 t200, .int .i64 t201] 53 (0, 0)) (by (with_reducible repeat (first | refine blk_drewN ?_ _ | refine blk_drew ?_ | refine blk_alloc ?_ _)); exact BK203.out) hb); have n4_ := Aside0.mk (below_step (by repeat (first | (with_reducible first | exact HB.out | apply below_alloc | apply pw_below_drewN | apply below_drew1 | refine below_set ?_ GE186.out | refine below_set ?_ GE196.out | refine below_set ?_ GE203.out) | exact HB.out)) hb); have n5_ := Aside0.mk (hbox); have n6_ := Aside0.mk ((by rw [hg]; exact (below_size (by repeat (first | (with_reducible first | exact HB.out | apply below_alloc | apply pw_below_drewN | apply below_drew1 | refine below_set ?_ GE186.out | refine below_set ?_ GE196.out | refine below_set ?_ GE203.out) | exact HB.out))) : w.heap.size ≤ gb210)); have n7_ := Aside0.mk ((by rw [hg]; exact (below_size (by repeat (first | (with_reducible first | exact HB.out | apply below_alloc | apply pw_below_drewN | apply below_drew1 | refine below_set ?_ GE186.out | refine below_set ?_ GE196.out | refine below_set ?_ GE203.out) | exact HB.out))) : w.heap.size ≤ gb210)); have n8_ := Aside0.mk ((by rw [hg]; exact Nat.ne_of_lt (blk_lt (g := gb186) (o := .cells #[.int .i64 t177, .int .i64 t178, .int .u64 t179, .int .i64 t180, .int .i64 t181, .int .i64 t182, .int .i64 t183, .int .i64 t184] 27 (0, 0)) (by (with_reducible repeat (first | refine blk_drewN ?_ _ | refine blk_drew ?_ | refine blk_alloc ?_ _)); exact BK186.out)) : gb186 ≠ gb210)); have n9_ := Aside0.mk ((by rw [hg]; exact Nat.ne_of_gt (blk_lt (g := gb186) (o := .cells #[.int .i64 t177, .int .i64 t178, .int .u64 t179, .int .i64 t180, .int .i64 t181, .int .i64 t182, .int .i64 t183, .int .i64 t184] 27 (0, 0)) (by (with_reducible repeat (first | refine blk_drewN ?_ _ | refine blk_drew ?_ | refine blk_alloc ?_ _)); exact BK186.out)) : gb210 ≠ gb186)); have n10_ := Aside0.mk ((by rw [hg]; exact Nat.ne_of_lt (blk_lt (g := gb196) (o := .cells #[.int .i64 t187, .int .i64 t188, .int .u64 t189, .int .i64 t190, .int .i64 t191, .int .i64 t192, .int .i64 t193, .int .i64 t194] 27 (0, 0)) (by (with_reducible repeat (first | refine blk_drewN ?_ _ | refine blk_drew ?_ | refine blk_alloc ?_ _)); exact BK196.out)) : gb196 ≠ gb210)); have n11_ := Aside0.mk ((by rw [hg]; exact Nat.ne_of_gt (blk_lt (g := gb196) (o := .cells #[.int .i64 t187, .int .i64 t188, .int .u64 t189, .int .i64 t190, .int .i64 t191, .int .i64 t192, .int .i64 t193, .int .i64 t194] 27 (0, 0)) (by (with_reducible repeat (first | refine blk_drewN ?_ _ | refine blk_drew ?_ | refine blk_alloc ?_ _)); exact BK196.out)) : gb210 ≠ gb196)); have n12_ := Aside0.mk ((by rw [hg]; exact Nat.ne_of_lt (blk_lt (g := gb203) (o := .cells #[.int .i64 t197, .int .i64 t198, .int .u64 t199, .int .i64 t200, .int .i64 t201] 53 (0, 0)) (by (with_reducible repeat (first | refine blk_drewN ?_ _ | refine blk_drew ?_ | refine blk_alloc ?_ _)); exact BK203.out)) : gb203 ≠ gb210)); have n13_ := Aside0.mk ((by rw [hg]; exact Nat.ne_of_gt (blk_lt (g := gb203) (o := .cells #[.int .i64 t197, .int .i64 t198, .int .u64 t199, .int .i64 t200, .int .i64 t201] 53 (0, 0)) (by (with_reducible repeat (first | refine blk_drewN ?_ _ | refine blk_drew ?_ | refine blk_alloc ?_ _)); exact BK203.out)) : gb210 ≠ gb203)); clear HO176; clear BK186; clear BK196; clear BK203; clear HB; have HO176 := n0_; have BK186 := n1_; have BK196 := n2_; have BK203 := n3_; have HB := n4_; have BK210 := n5_; have GW210 := n6_; have GE210 := n7_; have NB186_210 := n8_; have NB210_186 := n9_; have NB196_210 := n10_; have NB210_196 := n11_; have NB203_210 := n12_; have NB210_203 := n13_; clear n0_ n1_ n2_ n3_ n4_ n5_ n6_ n7_ n8_ n9_ n10_ n11_ n12_ n13_; clear hb hbox hg; have hnb41 := NB210_186.out; have hnc41 := NB186_210.out; have hnb42 := NB210_196.out; have hnc42 := NB196_210.out; have hnb43 := NB210_203.out; have hnc43 := NB203_210.out; have hcz44_0 : w40.cell? ⟨gb210, 0, none⟩ = some (.int .i64 0) := (blk_cell BK210.out 0).trans rfl; have hcz44_1 : w40.cell? ⟨gb210, 1, none⟩ = some (.int .i64 0) := (blk_cell BK210.out 1).trans rfl; have hcz44_2 : w40.cell? ⟨gb210, 2, none⟩ = some (.int .u64 0) := (blk_cell BK210.out 2).trans rfl; have hcz44_3 : w40.cell? ⟨gb210, 3, none⟩ = some (.int .i64 0) := (blk_cell BK210.out 3).trans rfl; have hcz44_4 : w40.cell? ⟨gb210, 4, none⟩ = some (.int .i64 0) := (blk_cell BK210.out 4).trans rfl; have hfz44_0 := blk_frozen BK210.out 0; have hfz44_1 := blk_frozen BK210.out 1; have hfz44_2 := blk_frozen BK210.out 2; have hfz44_3 := blk_frozen BK210.out 3; have hfz44_4 := blk_frozen BK210.out 4) | (go_at_call 23; (with_reducible refine (timer_Bins.calls _ _ l0 _ _ l3 t211 t212 _ ?side1 ?side2 ?side3 ?side4 A21.out).mono ?_); (case side1 => exact Kd.C_below HR0.out (by repeat (first | (with_reducible first | exact HB.out | apply below_alloc | apply pw_below_drewN | apply below_drew1 | refine below_set ?_ GE186.out | refine below_set ?_ GE196.out | refine below_set ?_ GE203.out | refine below_set ?_ GE210.out) | exact HB.out))); (case side2 => exact HC0.out); (case side3 => exact Kd.C_below HR3.out (by repeat (first | (with_reducible first | exact HB.out | apply below_alloc | apply pw_below_drewN | apply below_drew1 | refine below_set ?_ GE186.out | refine below_set ?_ GE196.out | refine below_set ?_ GE203.out | refine below_set ?_ GE210.out) | exact HB.out))); (case side4 => exact HC3.out); rintro e w45 ⟨v213, rfl, ho0, hb⟩; have n0_ := Aside0.mk (Kd.R_below (by (with_reducible repeat (first | apply Kd.R_alloc | apply Kd.R_drewN | apply Kd.R_drew)); exact (Kd.R_mono (Kd.R_far (p := ⟨gb210, 4, none⟩) (Kd.R_far (p := ⟨gb210, 3, none⟩) (Kd.R_far (p := ⟨gb210, 2, none⟩) (Kd.R_far (p := ⟨gb210, 1, none⟩) (Kd.R_far (p := ⟨gb210, 0, none⟩) (Kd.R_types HO176.out BK210.out (by decide)) (fun _ hk => hk.2) (.int .i64 t204)) (fun _ hk => hk.2) (.int .i64 t205)) (fun _ hk => hk.2) (.int .u64 t206)) (fun _ hk => hk.2) (.int .i64 t207)) (fun _ hk => hk.2) (.int .i64 t208)) (fun _ h_ => h_.1))) hb); have n1_ := Aside0.mk (Kd.R_lower ho0 (below_size (by repeat (first | (with_reducible first | exact HB.out | apply below_alloc | apply pw_below_drewN | apply below_drew1 | refine below_set ?_ GE186.out | refine below_set ?_ GE196.out | refine below_set ?_ GE203.out | refine below_set ?_ GE210.out) | exact HB.out)))); have n2_ := Aside0.mk (blk_below (g := gb186) (o := .cells #[.int .i64 t177, .int .i64 t178, .int .u64 t179, .int .i64 t180, .int .i64 t181, .int .i64 t182, .int .i64 t183, .int .i64 t184] 27 (0, 0)) (by (with_reducible repeat (first | refine blk_drewN ?_ _ | refine blk_drew ?_ | refine blk_alloc ?_ _)); refine blk_far ?_ NB186_210.out _; (with_reducible repeat (first | refine blk_drewN ?_ _ | refine blk_drew ?_ | refine blk_alloc ?_ _)); refine blk_far ?_ NB186_210.out _; (with_reducible repeat (first | refine blk_drewN ?_ _ | refine blk_drew ?_ | refine blk_alloc ?_ _)); refine blk_far ?_ NB186_210.out _; (with_reducible repeat (first | refine blk_drewN ?_ _ | refine blk_drew ?_ | refine blk_alloc ?_ _)); refine blk_far ?_ NB186_210.out _; (with_reducible repeat (first | refine blk_drewN ?_ _ | refine blk_drew ?_ | refine blk_alloc ?_ _)); refine blk_far ?_ NB186_210.out _; (with_reducible repeat (first | refine blk_drewN ?_ _ | refine blk_drew ?_ | refine blk_alloc ?_ _)); exact BK186.out) hb); have n3_ := Aside0.mk (blk_below (g := gb196) (o := .cells #[.int .i64 t187, .int .i64 t188, .int .u64 t189, .int .i64 t190, .int .i64 t191, .int .i64 t192, .int .i64 t193, .int .i64 t194] 27 (0, 0)) (by (with_reducible repeat (first | refine blk_drewN ?_ _ | refine blk_drew ?_ | refine blk_alloc ?_ _)); refine blk_far ?_ NB196_210.out _; (with_reducible repeat (first | refine blk_drewN ?_ _ | refine blk_drew ?_ | refine blk_alloc ?_ _)); refine blk_far ?_ NB196_210.out _; (with_reducible repeat (first | refine blk_drewN ?_ _ | refine blk_drew ?_ | refine blk_alloc ?_ _)); refine blk_far ?_ NB196_210.out _; (with_reducible repeat (first | refine blk_drewN ?_ _ | refine blk_drew ?_ | refine blk_alloc ?_ _)); refine blk_far ?_ NB196_210.out _; (with_reducible repeat (first | refine blk_drewN ?_ _ | refine blk_drew ?_ | refine blk_alloc ?_ _)); refine blk_far ?_ NB196_210.out _; (with_reducible repeat (first | refine blk_drewN ?_ _ | refine blk_drew ?_ | refine blk_alloc ?_ _)); exact BK196.out) hb); have n4_ := Aside0.mk (blk_below (g := gb203) (o := .cells #[.int .i64 t197, .int .i64 t198, .int .u64 t199, .int .i64 t200, .int .i64 t201] 53 (0, 0)) (by (with_reducible repeat (first | refine blk_drewN ?_ _ | refine blk_drew ?_ | refine blk_alloc ?_ _)); refine blk_far ?_ NB203_210.out _; (with_reducible repeat (first | refine blk_drewN ?_ _ | refine blk_drew ?_ | refine blk_alloc ?_ _)); refine blk_far ?_ NB203_210.out _; (with_reducible repeat (first | refine blk_drewN ?_ _ | refine blk_drew ?_ | refine blk_alloc ?_ _)); refine blk_far ?_ NB203_210.out _; (with_reducible repeat (first | refine blk_drewN ?_ _ | refine blk_drew ?_ | refine blk_alloc ?_ _)); refine blk_far ?_ NB203_210.out _; (with_reducible repeat (first | refine blk_drewN ?_ _ | refine blk_drew ?_ | refine blk_alloc ?_ _)); refine blk_far ?_ NB203_210.out _; (with_reducible repeat (first | refine blk_drewN ?_ _ | refine blk_drew ?_ | refine blk_alloc ?_ _)); exact BK203.out) hb); have n5_ := Aside0.mk (blk_below (g := gb210) (o := .cells #[.int .i64 t204, .int .i64 t205, .int .u64 t206, .int .i64 t207, .int .i64 t208] 53 (0, 0)) (by (with_reducible repeat (first | refine blk_drewN ?_ _ | refine blk_drew ?_ | refine blk_alloc ?_ _)); refine blk_put (cs := #[.int .i64 t204, .int .i64 t205, .int .u64 t206, .int .i64 t207, .int .i64 0]) ?_ 4 _ rfl; (with_reducible repeat (first | refine blk_drewN ?_ _ | refine blk_drew ?_ | refine blk_alloc ?_ _)); refine blk_put (cs := #[.int .i64 t204, .int .i64 t205, .int .u64 t206, .int .i64 0, .int .i64 0]) ?_ 3 _ rfl; (with_reducible repeat (first | refine blk_drewN ?_ _ | refine blk_drew ?_ | refine blk_alloc ?_ _)); refine blk_put (cs := #[.int .i64 t204, .int .i64 t205, .int .u64 0, .int .i64 0, .int .i64 0]) ?_ 2 _ rfl; (with_reducible repeat (first | refine blk_drewN ?_ _ | refine blk_drew ?_ | refine blk_alloc ?_ _)); refine blk_put (cs := #[.int .i64 t204, .int .i64 0, .int .u64 0, .int .i64 0, .int .i64 0]) ?_ 1 _ rfl; (with_reducible repeat (first | refine blk_drewN ?_ _ | refine blk_drew ?_ | refine blk_alloc ?_ _)); refine blk_put (cs := #[.int .i64 0, .int .i64 0, .int .u64 0, .int .i64 0, .int .i64 0]) ?_ 0 _ rfl; (with_reducible repeat (first | refine blk_drewN ?_ _ | refine blk_drew ?_ | refine blk_alloc ?_ _)); exact BK210.out) hb); have n6_ := Aside0.mk (below_step (by repeat (first | (with_reducible first | exact HB.out | apply below_alloc | apply pw_below_drewN | apply below_drew1 | refine below_set ?_ GE186.out | refine below_set ?_ GE196.out | refine below_set ?_ GE203.out | refine below_set ?_ GE210.out) | exact HB.out)) hb); clear HO176; clear BK186; clear BK196; clear BK203; clear BK210; clear HB; have HO176 := n0_; have HO214 := n1_; have BK186 := n2_; have BK196 := n3_; have BK203 := n4_; have BK210 := n5_; have HB := n6_; clear n0_ n1_ n2_ n3_ n4_ n5_ n6_; (try clear hb); (try clear hb2); (try clear hk); (try clear hi); (try clear ho0)) | (go_at_call 23; (with_reducible refine (timer_Bins.calls _ _ y174 _ _ l3 t215 t216 _ ?side1 ?side2 ?side3 ?side4 A22.out).mono ?_); (case side1 => repeat (first | exact (Kd.R_reads' HO176.out).2.2 | (with_reducible refine Kd.C_alloc ?_ _) | (with_reducible refine Kd.C_drewN ?_ _) | (with_reducible refine Kd.C_drew ?_))); (case side2 => exact (Kd.R_reads' HO176.out).2.1); (case side3 => repeat (first | exact (Kd.C_below HR3.out HB.out) | (with_reducible refine Kd.C_alloc ?_ _) | (with_reducible refine Kd.C_drewN ?_ _) | (with_reducible refine Kd.C_drew ?_))); (case side4 => exact HC3.out); rintro e w46 ⟨v217, rfl, ho0, hb⟩; have n0_ := Aside0.mk (Kd.R_below (by (with_reducible repeat (first | apply Kd.R_alloc | apply Kd.R_drewN | apply Kd.R_drew)); exact HO176.out) hb); have n1_ := Aside0.mk (Kd.R_elder' (by (with_reducible repeat (first | apply Kd.R_alloc | apply Kd.R_drewN | apply Kd.R_drew)); exact HO214.out) (Kd.R_base ho0) hb); have n2_ := Aside0.mk (Kd.R_lower (Kd.R_new' ho0 (Kd.R_lt (by (with_reducible repeat (first | apply Kd.R_alloc | apply Kd.R_drewN | apply Kd.R_drew)); exact HO214.out))) (below_size (by repeat (first | (with_reducible first | exact HB.out | apply below_alloc | apply pw_below_drewN | apply below_drew1 | refine below_set ?_ GE186.out | refine below_set ?_ GE196.out | refine below_set ?_ GE203.out | refine below_set ?_ GE210.out) | exact HB.out)))); have n3_ := Aside0.mk (blk_below (g := gb186) (o := .cells #[.int .i64 t177, .int .i64 t178, .int .u64 t179, .int .i64 t180, .int .i64 t181, .int .i64 t182, .int .i64 t183, .int .i64 t184] 27 (0, 0)) (by (with_reducible repeat (first | refine blk_drewN ?_ _ | refine blk_drew ?_ | refine blk_alloc ?_ _)); exact BK186.out) hb); have n4_ := Aside0.mk (blk_below (g := gb196) (o := .cells #[.int .i64 t187, .int .i64 t188, .int .u64 t189, .int .i64 t190, .int .i64 t191, .int .i64 t192, .int .i64 t193, .int .i64 t194] 27 (0, 0)) (by (with_reducible repeat (first | refine blk_drewN ?_ _ | refine blk_drew ?_ | refine blk_alloc ?_ _)); exact BK196.out) hb); have n5_ := Aside0.mk (blk_below (g := gb203) (o := .cells #[.int .i64 t197, .int .i64 t198, .int .u64 t199, .int .i64 t200, .int .i64 t201] 53 (0, 0)) (by (with_reducible repeat (first | refine blk_drewN ?_ _ | refine blk_drew ?_ | refine blk_alloc ?_ _)); exact BK203.out) hb); have n6_ := Aside0.mk (blk_below (g := gb210) (o := .cells #[.int .i64 t204, .int .i64 t205, .int .u64 t206, .int .i64 t207, .int .i64 t208] 53 (0, 0)) (by (with_reducible repeat (first | refine blk_drewN ?_ _ | refine blk_drew ?_ | refine blk_alloc ?_ _)); exact BK210.out) hb); have n7_ := Aside0.mk (below_step (by repeat (first | (with_reducible first | exact HB.out | apply below_alloc | apply pw_below_drewN | apply below_drew1 | refine below_set ?_ GE186.out | refine below_set ?_ GE196.out | refine below_set ?_ GE203.out | refine below_set ?_ GE210.out) | exact HB.out)) hb); clear HO176; clear HO214; clear BK186; clear BK196; clear BK203; clear BK210; clear HB; have HO176 := n0_; have HO214 := n1_; have HO218 := n2_; have BK186 := n3_; have BK196 := n4_; have BK203 := n5_; have BK210 := n6_; have HB := n7_; clear n0_ n1_ n2_ n3_ n4_ n5_ n6_ n7_; (try clear hb); (try clear hb2); (try clear hk); (try clear hi); (try clear ho0))); go_upto_region 15 with (first | ((with_reducible refine gate_builtin (b := .append) (xs := #[.tmp 51, .tmp 54]) rfl ?_); (try (refine gate_guard (by rfl) ?_; dsimp only)); at_builtin; refine Kd.R_append_rows (Kd.int .i64) (w0 := w) w.heap.size rfl (.tmp 51) (.tmp 54) 22 2 (.int .i64 0) 8 rfl Try.underlying22 info2 rfl (by decide) (by omega) u9 x9_3 (l0.take (x1_6 : Int).toNat) _ _ _ (fun _ => True) (fun _ => False) rfl rfl ?aO ?aR (fun _ _ h => h) (fun _ h => h.elim) ?aF ?aB ?aS ?aL ?_; (case aR => first | (have hl2_ : (l0.take (x1_6 : Int).toNat).length = x1_6.toNat := (by rw [List.length_take]; have h_ : (x1_6 : Int) ≤ (l0.length : Int) := of_decide_eq_true (by first | (with_reducible assumption) | assumption); omega); have q_ := (Kd.C_below HR173.out HB.out); rw [hl2_] at q_; exact q_) | (rw [← show (l0.take (x1_6 : Int).toNat).length = x1_6.toNat from (by rw [List.length_take]; have h_ : (x1_6 : Int) ≤ (l0.length : Int) := of_decide_eq_true (by first | (with_reducible assumption) | assumption); omega)]; repeat (first | exact (Kd.C_below HR173.out HB.out) | (with_reducible refine Kd.C_alloc ?_ _) | (with_reducible refine Kd.C_drewN ?_ _) | (with_reducible refine Kd.C_drew ?_))) | (repeat (first | exact (Kd.C_below HR173.out HB.out) | (with_reducible refine Kd.C_alloc ?_ _) | (with_reducible refine Kd.C_drewN ?_ _) | (with_reducible refine Kd.C_drew ?_)))); (case aB => exact (by repeat (first | (with_reducible first | exact HB.out | apply below_alloc | apply pw_below_drewN | apply below_drew1) | exact HB.out))); (case aF => exact (fun _ _ => trivial)); (case aO => exact (by (with_reducible repeat (first | apply Kd.R_alloc | apply Kd.R_drewN | apply Kd.R_drew)); exact HO_9.out)); (case aS => exact (below_size (by repeat (first | (with_reducible first | exact HB.out | apply below_alloc | apply pw_below_drewN | apply below_drew1) | exact HB.out)))); (case aL => have := LMc16.out; have hlx_ := (show (l0.take (x1_6 : Int).toNat).length = x1_6.toNat from (by rw [List.length_take]; have h_ : (x1_6 : Int) ≤ (l0.length : Int) := of_decide_eq_true (by first | (with_reducible assumption) | assumption); omega)); omega); intro v175 w25 ho hb hg hat; rw [← Ny174.out] at ho; have n0_ := Aside0.mk (hb); have n1_ := Aside0.mk (ho); clear HB; clear HO_9; have HB := n0_; have HO176 := n1_; clear n0_ n1_; clear ho hb hg hat) | (go_at_call 12; (with_reducible refine (timer_Of.calls _ _ l0 t177 t178 t179 t180 t181 t182 t183 t184 t185 _ ?side1 ?side2 A17.out).mono ?_); (case side1 => repeat (first | exact (Kd.C_below HR0.out HB.out) | (with_reducible refine Kd.C_alloc ?_ _) | (with_reducible refine Kd.C_drewN ?_ _) | (with_reducible refine Kd.C_drew ?_))); (case side2 => exact HC0.out); rintro e w26 ⟨rfl, hb⟩; have n0_ := Aside0.mk (Kd.R_below (by (with_reducible repeat (first | apply Kd.R_alloc | apply Kd.R_drewN | apply Kd.R_drew)); exact HO176.out) hb); have n1_ := Aside0.mk (below_step (by repeat (first | (with_reducible first | exact HB.out | apply below_alloc | apply pw_below_drewN | apply below_drew1) | exact HB.out)) hb); clear HO176; clear HB; have HO176 := n0_; have HB := n1_; clear n0_ n1_; (try clear hb); (try clear hb2); (try clear hk); (try clear hi)) | ((with_reducible refine gate_dst (N := 11) rfl ?_); (try (refine gate_guard (by rfl) ?_; dsimp only)); refine box_event ?hg (N := 11) ?hd (cs := #[.int .i64 0, .int .i64 0, .int .u64 0, .int .i64 0, .int .i64 0, .int .i64 0, .int .i64 0, .int .i64 0]) (t := 27) ?hr ?_; (case hd => rfl); (case hg => rfl); (case hr => first | (go_simp; done) | (go_simp; rfl)); intro gb186 hg w27 hbox hb; have n0_ := Aside0.mk (Kd.R_below (by (with_reducible repeat (first | apply Kd.R_alloc | apply Kd.R_drewN | apply Kd.R_drew)); exact HO176.out) hb); have n1_ := Aside0.mk (below_step (by repeat (first | (with_reducible first | exact HB.out | apply below_alloc | apply pw_below_drewN | apply below_drew1) | exact HB.out)) hb); have n2_ := Aside0.mk (hbox); have n3_ := Aside0.mk ((by rw [hg]; exact (below_size (by repeat (first | (with_reducible first | exact HB.out | apply below_alloc | apply pw_below_drewN | apply below_drew1) | exact HB.out))) : w.heap.size ≤ gb186)); have n4_ := Aside0.mk ((by rw [hg]; exact (below_size (by repeat (first | (with_reducible first | exact HB.out | apply below_alloc | apply pw_below_drewN | apply below_drew1) | exact HB.out))) : w.heap.size ≤ gb186)); clear HO176; clear HB; have HO176 := n0_; have HB := n1_; have BK186 := n2_; have GW186 := n3_; have GE186 := n4_; clear n0_ n1_ n2_ n3_ n4_; clear hb hbox hg; have hcz28_0 : w27.cell? ⟨gb186, 0, none⟩ = some (.int .i64 0) := (blk_cell BK186.out 0).trans rfl; have hcz28_1 : w27.cell? ⟨gb186, 1, none⟩ = some (.int .i64 0) := (blk_cell BK186.out 1).trans rfl; have hcz28_2 : w27.cell? ⟨gb186, 2, none⟩ = some (.int .u64 0) := (blk_cell BK186.out 2).trans rfl; have hcz28_3 : w27.cell? ⟨gb186, 3, none⟩ = some (.int .i64 0) := (blk_cell BK186.out 3).trans rfl; have hcz28_4 : w27.cell? ⟨gb186, 4, none⟩ = some (.int .i64 0) := (blk_cell BK186.out 4).trans rfl; have hcz28_5 : w27.cell? ⟨gb186, 5, none⟩ = some (.int .i64 0) := (blk_cell BK186.out 5).trans rfl; have hcz28_6 : w27.cell? ⟨gb186, 6, none⟩ = some (.int .i64 0) := (blk_cell BK186.out 6).trans rfl; have hcz28_7 : w27.cell? ⟨gb186, 7, none⟩ = some (.int .i64 0) := (blk_cell BK186.out 7).trans rfl; have hfz28_0 := blk_frozen BK186.out 0; have hfz28_1 := blk_frozen BK186.out 1; have hfz28_2 := blk_frozen BK186.out 2; have hfz28_3 := blk_frozen BK186.out 3; have hfz28_4 := blk_frozen BK186.out 4; have hfz28_5 := blk_frozen BK186.out 5; have hfz28_6 := blk_frozen BK186.out 6; have hfz28_7 := blk_frozen BK186.out 7; obtain ⟨Ao29, co29, eo29⟩ := Kd.R_slice HO176.out; subst eo29) | (go_at_call 12; (with_reducible refine (timer_Of.calls _ _ y174 t187 t188 t189 t190 t191 t192 t193 t194 t195 _ ?side1 ?side2 A18.out).mono ?_); (case side1 => refine (Kd.R_reads' (e := 2) (base := w.heap.size) (ok := fun k_ => True) (n := y174.length) (c := co29) ?_).2.2; exact (by (with_reducible repeat (first | apply Kd.R_alloc | apply Kd.R_drewN | apply Kd.R_drew)); exact (Kd.R_mono (Kd.R_far (p := ⟨gb186, 7, none⟩) (Kd.R_far (p := ⟨gb186, 6, none⟩) (Kd.R_far (p := ⟨gb186, 5, none⟩) (Kd.R_far (p := ⟨gb186, 4, none⟩) (Kd.R_far (p := ⟨gb186, 3, none⟩) (Kd.R_far (p := ⟨gb186, 2, none⟩) (Kd.R_far (p := ⟨gb186, 1, none⟩) (Kd.R_far (p := ⟨gb186, 0, none⟩) (Kd.R_types HO176.out BK186.out (by decide)) (fun _ hk => hk.2) (.int .i64 t177)) (fun _ hk => hk.2) (.int .i64 t178)) (fun _ hk => hk.2) (.int .u64 t179)) (fun _ hk => hk.2) (.int .i64 t180)) (fun _ hk => hk.2) (.int .i64 t181)) (fun _ hk => hk.2) (.int .i64 t182)) (fun _ hk => hk.2) (.int .i64 t183)) (fun _ hk => hk.2) (.int .i64 t184)) (fun _ h_ => h_.1)))); (case side2 => exact (Kd.R_reads' HO176.out).2.1); rintro e w30 ⟨rfl, hb⟩; have n0_ := Aside0.mk (Kd.R_below (by (with_reducible repeat (first | apply Kd.R_alloc | apply Kd.R_drewN | apply Kd.R_drew)); exact (Kd.R_mono (Kd.R_far (p := ⟨gb186, 7, none⟩) (Kd.R_far (p := ⟨gb186, 6, none⟩) (Kd.R_far (p := ⟨gb186, 5, none⟩) (Kd.R_far (p := ⟨gb186, 4, none⟩) (Kd.R_far (p := ⟨gb186, 3, none⟩) (Kd.R_far (p := ⟨gb186, 2, none⟩) (Kd.R_far (p := ⟨gb186, 1, none⟩) (Kd.R_far (p := ⟨gb186, 0, none⟩) (Kd.R_types HO176.out BK186.out (by decide)) (fun _ hk => hk.2) (.int .i64 t177)) (fun _ hk => hk.2) (.int .i64 t178)) (fun _ hk => hk.2) (.int .u64 t179)) (fun _ hk => hk.2) (.int .i64 t180)) (fun _ hk => hk.2) (.int .i64 t181)) (fun _ hk => hk.2) (.int .i64 t182)) (fun _ hk => hk.2) (.int .i64 t183)) (fun _ hk => hk.2) (.int .i64 t184)) (fun _ h_ => h_.1))) hb); have n1_ := Aside0.mk (blk_below (g := gb186) (o := .cells #[.int .i64 t177, .int .i64 t178, .int .u64 t179, .int .i64 t180, .int .i64 t181, .int .i64 t182, .int .i64 t183, .int .i64 t184] 27 (0, 0)) (by (with_reducible repeat (first | refine blk_drewN ?_ _ | refine blk_drew ?_ | refine blk_alloc ?_ _)); refine blk_put (cs := #[.int .i64 t177, .int .i64 t178, .int .u64 t179, .int .i64 t180, .int .i64 t181, .int .i64 t182, .int .i64 t183, .int .i64 0]) ?_ 7 _ rfl; (with_reducible repeat (first | refine blk_drewN ?_ _ | refine blk_drew ?_ | refine blk_alloc ?_ _)); refine blk_put (cs := #[.int .i64 t177, .int .i64 t178, .int .u64 t179, .int .i64 t180, .int .i64 t181, .int .i64 t182, .int .i64 0, .int .i64 0]) ?_ 6 _ rfl; (with_reducible repeat (first | refine blk_drewN ?_ _ | refine blk_drew ?_ | refine blk_alloc ?_ _)); refine blk_put (cs := #[.int .i64 t177, .int .i64 t178, .int .u64 t179, .int .i64 t180, .int .i64 t181, .int .i64 0, .int .i64 0, .int .i64 0]) ?_ 5 _ rfl; (with_reducible repeat (first | refine blk_drewN ?_ _ | refine blk_drew ?_ | refine blk_alloc ?_ _)); refine blk_put (cs := #[.int .i64 t177, .int .i64 t178, .int .u64 t179, .int .i64 t180, .int .i64 0, .int .i64 0, .int .i64 0, .int .i64 0]) ?_ 4 _ rfl; (with_reducible repeat (first | refine blk_drewN ?_ _ | refine blk_drew ?_ | refine blk_alloc ?_ _)); refine blk_put (cs := #[.int .i64 t177, .int .i64 t178, .int .u64 t179, .int .i64 0, .int .i64 0, .int .i64 0, .int .i64 0, .int .i64 0]) ?_ 3 _ rfl; (with_reducible repeat (first | refine blk_drewN ?_ _ | refine blk_drew ?_ | refine blk_alloc ?_ _)); refine blk_put (cs := #[.int .i64 t177, .int .i64 t178, .int .u64 0, .int .i64 0, .int .i64 0, .int .i64 0, .int .i64 0, .int .i64 0]) ?_ 2 _ rfl; (with_reducible repeat (first | refine blk_drewN ?_ _ | refine blk_drew ?_ | refine blk_alloc ?_ _)); refine blk_put (cs := #[.int .i64 t177, .int .i64 0, .int .u64 0, .int .i64 0, .int .i64 0, .int .i64 0, .int .i64 0, .int .i64 0]) ?_ 1 _ rfl; (with_reducible repeat (first | refine blk_drewN ?_ _ | refine blk_drew ?_ | refine blk_alloc ?_ _)); refine blk_put (cs := #[.int .i64 0, .int .i64 0, .int .u64 0, .int .i64 0, .int .i64 0, .int .i64 0, .int .i64 0, .int .i64 0]) ?_ 0 _ rfl; (with_reducible repeat (first | refine blk_drewN ?_ _ | refine blk_drew ?_ | refine blk_alloc ?_ _)); exact BK186.out) hb); have n2_ := Aside0.mk (below_step (by repeat (first | (with_reducible first | exact HB.out | apply below_alloc | apply pw_below_drewN | apply below_drew1 | refine below_set ?_ GE186.out) | exact HB.out)) hb); clear HO176; clear BK186; clear HB; have HO176 := n0_; have BK186 := n1_; have HB := n2_; clear n0_ n1_ n2_; (try clear hb); (try clear hb2); (try clear hk); (try clear hi)) | ((with_reducible refine gate_dst (N := 13) rfl ?_); (try (refine gate_guard (by rfl) ?_; dsimp only)); refine box_event ?hg (N := 13) ?hd (cs := #[.int .i64 0, .int .i64 0, .int .u64 0, .int .i64 0, .int .i64 0, .int .i64 0, .int .i64 0, .int .i64 0]) (t := 27) ?hr ?_; (case hd => rfl); (case hg => rfl); (case hr => first | (go_simp; done) | (go_simp; rfl)); intro gb196 hg w31 hbox hb; have n0_ := Aside0.mk (Kd.R_below (by (with_reducible repeat (first | apply Kd.R_alloc | apply Kd.R_drewN | apply Kd.R_drew)); exact HO176.out) hb); have n1_ := Aside0.mk (blk_below (g := gb186) (o := .cells #[.int .i64 t177, .int .i64 t178, .int .u64 t179, .int .i64 t180, .int .i64 t181, .int .i64 t182, .int .i64 t183, .int .i64 t184] 27 (0, 0)) (by (with_reducible repeat (first | refine blk_drewN ?_ _ | refine blk_drew ?_ | refine blk_alloc ?_ _)); exact BK186.out) hb); have n2_ := Aside0.mk (below_step (by repeat (first | (with_reducible first | exact HB.out | apply below_alloc | apply pw_below_drewN | apply below_drew1 | refine below_set ?_ GE186.out) | exact HB.out)) hb); have n3_ := Aside0.mk (hbox); have n4_ := Aside0.mk ((by rw [hg]; exact (below_size (by repeat (first | (with_reducible first | exact HB.out | apply below_alloc | apply pw_below_drewN | apply below_drew1 | refine below_set ?_ GE186.out) | exact HB.out))) : w.heap.size ≤ gb196)); have n5_ := Aside0.mk ((by rw [hg]; exact (below_size (by repeat (first | (with_reducible first | exact HB.out | apply below_alloc | apply pw_below_drewN | apply below_drew1 | refine below_set ?_ GE186.out) | exact HB.out))) : w.heap.size ≤ gb196)); have n6_ := Aside0.mk ((by rw [hg]; exact Nat.ne_of_lt (blk_lt (g := gb186) (o := .cells #[.int .i64 t177, .int .i64 t178, .int .u64 t179, .int .i64 t180, .int .i64 t181, .int .i64 t182, .int .i64 t183, .int .i64 t184] 27 (0, 0)) (by (with_reducible repeat (first | refine blk_drewN ?_ _ | refine blk_drew ?_ | refine blk_alloc ?_ _)); exact BK186.out)) : gb186 ≠ gb196)); have n7_ := Aside0.mk ((by rw [hg]; exact Nat.ne_of_gt (blk_lt (g := gb186) (o := .cells #[.int .i64 t177, .int .i64 t178, .int .u64 t179, .int .i64 t180, .int .i64 t181, .int .i64 t182, .int .i64 t183, .int .i64 t184] 27 (0, 0)) (by (with_reducible repeat (first | refine blk_drewN ?_ _ | refine blk_drew ?_ | refine blk_alloc ?_ _)); exact BK186.out)) : gb196 ≠ gb186)); clear HO176; clear BK186; clear HB; have HO176 := n0_; have BK186 := n1_; have HB := n2_; have BK196 := n3_; have GW196 := n4_; have GE196 := n5_; have NB186_196 := n6_; have NB196_186 := n7_; clear n0_ n1_ n2_ n3_ n4_ n5_ n6_ n7_; clear hb hbox hg; have hnb32 := NB196_186.out; have hnc32 := NB186_196.out; have hcz33_0 : w31.cell? ⟨gb196, 0, none⟩ = some (.int .i64 0) := (blk_cell BK196.out 0).trans rfl; have hcz33_1 : w31.cell? ⟨gb196, 1, none⟩ = some (.int .i64 0) := (blk_cell BK196.out 1).trans rfl; have hcz33_2 : w31.cell? ⟨gb196, 2, none⟩ = some (.int .u64 0) := (blk_cell BK196.out 2).trans rfl; have hcz33_3 : w31.cell? ⟨gb196, 3, none⟩ = some (.int .i64 0) := (blk_cell BK196.out 3).trans rfl; have hcz33_4 : w31.cell? ⟨gb196, 4, none⟩ = some (.int .i64 0) := (blk_cell BK196.out 4).trans rfl; have hcz33_5 : w31.cell? ⟨gb196, 5, none⟩ = some (.int .i64 0) := (blk_cell BK196.out 5).trans rfl; have hcz33_6 : w31.cell? ⟨gb196, 6, none⟩ = some (.int .i64 0) := (blk_cell BK196.out 6).trans rfl; have hcz33_7 : w31.cell? ⟨gb196, 7, none⟩ = some (.int .i64 0) := (blk_cell BK196.out 7).trans rfl; have hfz33_0 := blk_frozen BK196.out 0; have hfz33_1 := blk_frozen BK196.out 1; have hfz33_2 := blk_frozen BK196.out 2; have hfz33_3 := blk_frozen BK196.out 3; have hfz33_4 := blk_frozen BK196.out 4; have hfz33_5 := blk_frozen BK196.out 5; have hfz33_6 := blk_frozen BK196.out 6; have hfz33_7 := blk_frozen BK196.out 7) | (go_at_call 25; (with_reducible refine (timer_Upto.calls k3 _ _ l0 a2 t197 t198 t199 t200 t201 t202 _ ?side1 ?side2 A19.out).mono ?_); (case side1 => exact Kd.C_below HR0.out (by repeat (first | (with_reducible first | exact HB.out | apply below_alloc | apply pw_below_drewN | apply below_drew1 | refine below_set ?_ GE186.out | refine below_set ?_ GE196.out) | exact HB.out))); (case side2 => exact HC0.out); rintro e w34 ⟨rfl, hb⟩; have n0_ := Aside0.mk (Kd.R_below (by (with_reducible repeat (first | apply Kd.R_alloc | apply Kd.R_drewN | apply Kd.R_drew)); exact (Kd.R_mono (Kd.R_far (p := ⟨gb196, 7, none⟩) (Kd.R_far (p := ⟨gb196, 6, none⟩) (Kd.R_far (p := ⟨gb196, 5, none⟩) (Kd.R_far (p := ⟨gb196, 4, none⟩) (Kd.R_far (p := ⟨gb196, 3, none⟩) (Kd.R_far (p := ⟨gb196, 2, none⟩) (Kd.R_far (p := ⟨gb196, 1, none⟩) (Kd.R_far (p := ⟨gb196, 0, none⟩) (Kd.R_types HO176.out BK196.out (by decide)) (fun _ hk => hk.2) (.int .i64 t187)) (fun _ hk => hk.2) (.int .i64 t188)) (fun _ hk => hk.2) (.int .u64 t189)) (fun _ hk => hk.2) (.int .i64 t190)) (fun _ hk => hk.2) (.int .i64 t191)) (fun _ hk => hk.2) (.int .i64 t192)) (fun _ hk => hk.2) (.int .i64 t193)) (fun _ hk => hk.2) (.int .i64 t194)) (fun _ h_ => h_.1))) hb); have n1_ := Aside0.mk (blk_below (g := gb186) (o := .cells #[.int .i64 t177, .int .i64 t178, .int .u64 t179, .int .i64 t180, .int .i64 t181, .int .i64 t182, .int .i64 t183, .int .i64 t184] 27 (0, 0)) (by (with_reducible repeat (first | refine blk_drewN ?_ _ | refine blk_drew ?_ | refine blk_alloc ?_ _)); refine blk_far ?_ NB186_196.out _; (with_reducible repeat (first | refine blk_drewN ?_ _ | refine blk_drew ?_ | refine blk_alloc ?_ _)); refine blk_far ?_ NB186_196.out _; (with_reducible repeat (first | refine blk_drewN ?_ _ | refine blk_drew ?_ | refine blk_alloc ?_ _)); refine blk_far ?_ NB186_196.out _; (with_reducible repeat (first | refine blk_drewN ?_ _ | refine blk_drew ?_ | refine blk_alloc ?_ _)); refine blk_far ?_ NB186_196.out _; (with_reducible repeat (first | refine blk_drewN ?_ _ | refine blk_drew ?_ | refine blk_alloc ?_ _)); refine blk_far ?_ NB186_196.out _; (with_reducible repeat (first | refine blk_drewN ?_ _ | refine blk_drew ?_ | refine blk_alloc ?_ _)); refine blk_far ?_ NB186_196.out _; (with_reducible repeat (first | refine blk_drewN ?_ _ | refine blk_drew ?_ | refine blk_alloc ?_ _)); refine blk_far ?_ NB186_196.out _; (with_reducible repeat (first | refine blk_drewN ?_ _ | refine blk_drew ?_ | refine blk_alloc ?_ _)); refine blk_far ?_ NB186_196.out _; (with_reducible repeat (first | refine blk_drewN ?_ _ | refine blk_drew ?_ | refine blk_alloc ?_ _)); exact BK186.out) hb); have n2_ := Aside0.mk (blk_below (g := gb196) (o := .cells #[.int .i64 t187, .int .i64 t188, .int .u64 t189, .int .i64 t190, .int .i64 t191, .int .i64 t192, .int .i64 t193, .int .i64 t194] 27 (0, 0)) (by (with_reducible repeat (first | refine blk_drewN ?_ _ | refine blk_drew ?_ | refine blk_alloc ?_ _)); refine blk_put (cs := #[.int .i64 t187, .int .i64 t188, .int .u64 t189, .int .i64 t190, .int .i64 t191, .int .i64 t192, .int .i64 t193, .int .i64 0]) ?_ 7 _ rfl; (with_reducible repeat (first | refine blk_drewN ?_ _ | refine blk_drew ?_ | refine blk_alloc ?_ _)); refine blk_put (cs := #[.int .i64 t187, .int .i64 t188, .int .u64 t189, .int .i64 t190, .int .i64 t191, .int .i64 t192, .int .i64 0, .int .i64 0]) ?_ 6 _ rfl; (with_reducible repeat (first | refine blk_drewN ?_ _ | refine blk_drew ?_ | refine blk_alloc ?_ _)); refine blk_put (cs := #[.int .i64 t187, .int .i64 t188, .int .u64 t189, .int .i64 t190, .int .i64 t191, .int .i64 0, .int .i64 0, .int .i64 0]) ?_ 5 _ rfl; (with_reducible repeat (first | refine blk_drewN ?_ _ | refine blk_drew ?_ | refine blk_alloc ?_ _)); refine blk_put (cs := #[.int .i64 t187, .int .i64 t188, .int .u64 t189, .int .i64 t190, .int .i64 0, .int .i64 0, .int .i64 0, .int .i64 0]) ?_ 4 _ rfl; (with_reducible repeat (first | refine blk_drewN ?_ _ | refine blk_drew ?_ | refine blk_alloc ?_ _)); refine blk_put (cs := #[.int .i64 t187, .int .i64 t188, .int .u64 t189, .int .i64 0, .int .i64 0, .int .i64 0, .int .i64 0, .int .i64 0]) ?_ 3 _ rfl; (with_reducible repeat (first | refine blk_drewN ?_ _ | refine blk_drew ?_ | refine blk_alloc ?_ _)); refine blk_put (cs := #[.int .i64 t187, .int .i64 t188, .int .u64 0, .int .i64 0, .int .i64 0, .int .i64 0, .int .i64 0, .int .i64 0]) ?_ 2 _ rfl; (with_reducible repeat (first | refine blk_drewN ?_ _ | refine blk_drew ?_ | refine blk_alloc ?_ _)); refine blk_put (cs := #[.int .i64 t187, .int .i64 0, .int .u64 0, .int .i64 0, .int .i64 0, .int .i64 0, .int .i64 0, .int .i64 0]) ?_ 1 _ rfl; (with_reducible repeat (first | refine blk_drewN ?_ _ | refine blk_drew ?_ | refine blk_alloc ?_ _)); refine blk_put (cs := #[.int .i64 0, .int .i64 0, .int .u64 0, .int .i64 0, .int .i64 0, .int .i64 0, .int .i64 0, .int .i64 0]) ?_ 0 _ rfl; (with_reducible repeat (first | refine blk_drewN ?_ _ | refine blk_drew ?_ | refine blk_alloc ?_ _)); exact BK196.out) hb); have n3_ := Aside0.mk (below_step (by repeat (first | (with_reducible first | exact HB.out | apply below_alloc | apply pw_below_drewN | apply below_drew1 | refine below_set ?_ GE186.out | refine below_set ?_ GE196.out) | exact HB.out)) hb); clear HO176; clear BK186; clear BK196; clear HB; have HO176 := n0_; have BK186 := n1_; have BK196 := n2_; have HB := n3_; clear n0_ n1_ n2_ n3_; (try clear hb); (try clear hb2); (try clear hk); (try clear hi)) | ((with_reducible refine gate_dst (N := 15) rfl ?_); (try (refine gate_guard (by rfl) ?_; dsimp only)); refine box_event ?hg (N := 15) ?hd (cs := #[.int .i64 0, .int .i64 0, .int .u64 0, .int .i64 0, .int .i64 0]) (t := 53) ?hr ?_; (case hd => rfl); (case hg => rfl); (case hr => first | (go_simp; done) | (go_simp; rfl)); intro gb203 hg w35 hbox hb; have n0_ := Aside0.mk (Kd.R_below (by (with_reducible repeat (first | apply Kd.R_alloc | apply Kd.R_drewN | apply Kd.R_drew)); exact HO176.out) hb); have n1_ := Aside0.mk (blk_below (g := gb186) (o := .cells #[.int .i64 t177, .int .i64 t178, .int .u64 t179, .int .i64 t180, .int .i64 t181, .int .i64 t182, .int .i64 t183, .int .i64 t184] 27 (0, 0)) (by (with_reducible repeat (first | refine blk_drewN ?_ _ | refine blk_drew ?_ | refine blk_alloc ?_ _)); exact BK186.out) hb); have n2_ := Aside0.mk (blk_below (g := gb196) (o := .cells #[.int .i64 t187, .int .i64 t188, .int .u64 t189, .int .i64 t190, .int .i64 t191, .int .i64 t192, .int .i64 t193, .int .i64 t194] 27 (0, 0)) (by (with_reducible repeat (first | refine blk_drewN ?_ _ | refine blk_drew ?_ | refine blk_alloc ?_ _)); exact BK196.out) hb); have n3_ := Aside0.mk (below_step (by repeat (first | (with_reducible first | exact HB.out | apply below_alloc | apply pw_below_drewN | apply below_drew1 | refine below_set ?_ GE186.out | refine below_set ?_ GE196.out) | exact HB.out)) hb); have n4_ := Aside0.mk (hbox); have n5_ := Aside0.mk ((by rw [hg]; exact (below_size (by repeat (first | (with_reducible first | exact HB.out | apply below_alloc | apply pw_below_drewN | apply below_drew1 | refine below_set ?_ GE186.out | refine below_set ?_ GE196.out) | exact HB.out))) : w.heap.size ≤ gb203)); have n6_ := Aside0.mk ((by rw [hg]; exact (below_size (by repeat (first | (with_reducible first | exact HB.out | apply below_alloc | apply pw_below_drewN | apply below_drew1 | refine below_set ?_ GE186.out | refine below_set ?_ GE196.out) | exact HB.out))) : w.heap.size ≤ gb203)); have n7_ := Aside0.mk ((by rw [hg]; exact Nat.ne_of_lt (blk_lt (g := gb186) (o := .cells #[.int .i64 t177, .int .i64 t178, .int .u64 t179, .int .i64 t180, .int .i64 t181, .int .i64 t182, .int .i64 t183, .int .i64 t184] 27 (0, 0)) (by (with_reducible repeat (first | refine blk_drewN ?_ _ | refine blk_drew ?_ | refine blk_alloc ?_ _)); exact BK186.out)) : gb186 ≠ gb203)); have n8_ := Aside0.mk ((by rw [hg]; exact Nat.ne_of_gt (blk_lt (g := gb186) (o := .cells #[.int .i64 t177, .int .i64 t178, .int .u64 t179, .int .i64 t180, .int .i64 t181, .int .i64 t182, .int .i64 t183, .int .i64 t184] 27 (0, 0)) (by (with_reducible repeat (first | refine blk_drewN ?_ _ | refine blk_drew ?_ | refine blk_alloc ?_ _)); exact BK186.out)) : gb203 ≠ gb186)); have n9_ := Aside0.mk ((by rw [hg]; exact Nat.ne_of_lt (blk_lt (g := gb196) (o := .cells #[.int .i64 t187, .int .i64 t188, .int .u64 t189, .int .i64 t190, .int .i64 t191, .int .i64 t192, .int .i64 t193, .int .i64 t194] 27 (0, 0)) (by (with_reducible repeat (first | refine blk_drewN ?_ _ | refine blk_drew ?_ | refine blk_alloc ?_ _)); exact BK196.out)) : gb196 ≠ gb203)); have n10_ := Aside0.mk ((by rw [hg]; exact Nat.ne_of_gt (blk_lt (g := gb196) (o := .cells #[.int .i64 t187, .int .i64 t188, .int .u64 t189, .int .i64 t190, .int .i64 t191, .int .i64 t192, .int .i64 t193, .int .i64 t194] 27 (0, 0)) (by (with_reducible repeat (first | refine blk_drewN ?_ _ | refine blk_drew ?_ | refine blk_alloc ?_ _)); exact BK196.out)) : gb203 ≠ gb196)); clear HO176; clear BK186; clear BK196; clear HB; have HO176 := n0_; have BK186 := n1_; have BK196 := n2_; have HB := n3_; have BK203 := n4_; have GW203 := n5_; have GE203 := n6_; have NB186_203 := n7_; have NB203_186 := n8_; have NB196_203 := n9_; have NB203_196 := n10_; clear n0_ n1_ n2_ n3_ n4_ n5_ n6_ n7_ n8_ n9_ n10_; clear hb hbox hg; have hnb36 := NB203_186.out; have hnc36 := NB186_203.out; have hnb37 := NB203_196.out; have hnc37 := NB196_203.out; have hcz38_0 : w35.cell? ⟨gb203, 0, none⟩ = some (.int .i64 0) := (blk_cell BK203.out 0).trans rfl; have hcz38_1 : w35.cell? ⟨gb203, 1, none⟩ = some (.int .i64 0) := (blk_cell BK203.out 1).trans rfl; have hcz38_2 : w35.cell? ⟨gb203, 2, none⟩ = some (.int .u64 0) := (blk_cell BK203.out 2).trans rfl; have hcz38_3 : w35.cell? ⟨gb203, 3, none⟩ = some (.int .i64 0) := (blk_cell BK203.out 3).trans rfl; have hcz38_4 : w35.cell? ⟨gb203, 4, none⟩ = some (.int .i64 0) := (blk_cell BK203.out 4).trans rfl; have hfz38_0 := blk_frozen BK203.out 0; have hfz38_1 := blk_frozen BK203.out 1; have hfz38_2 := blk_frozen BK203.out 2; have hfz38_3 := blk_frozen BK203.out 3; have hfz38_4 := blk_frozen BK203.out 4) | (go_at_call 25; (with_reducible refine (timer_Upto.calls k3 _ _ y174 a2 t204 t205 t206 t207 t208 t209 _ ?side1 ?side2 A20.out).mono ?_); (case side1 => refine (Kd.R_reads' (e := 2) (base := w.heap.size) (ok := fun k_ => True) (n := y174.length) (c := co29) ?_).2.2; exact (by (with_reducible repeat (first | apply Kd.R_alloc | apply Kd.R_drewN | apply Kd.R_drew)); exact (Kd.R_mono (Kd.R_far (p := ⟨gb203, 4, none⟩) (Kd.R_far (p := ⟨gb203, 3, none⟩) (Kd.R_far (p := ⟨gb203, 2, none⟩) (Kd.R_far (p := ⟨gb203, 1, none⟩) (Kd.R_far (p := ⟨gb203, 0, none⟩) (Kd.R_types HO176.out BK203.out (by decide)) (fun _ hk => hk.2) (.int .i64 t197)) (fun _ hk => hk.2) (.int .i64 t198)) (fun _ hk => hk.2) (.int .u64 t199)) (fun _ hk => hk.2) (.int .i64 t200)) (fun _ hk => hk.2) (.int .i64 t201)) (fun _ h_ => h_.1)))); (case side2 => exact (Kd.R_reads' HO176.out).2.1); rintro e w39 ⟨rfl, hb⟩; have n0_ := Aside0.mk (Kd.R_below (by (with_reducible repeat (first | apply Kd.R_alloc | apply Kd.R_drewN | apply Kd.R_drew)); exact (Kd.R_mono (Kd.R_far (p := ⟨gb203, 4, none⟩) (Kd.R_far (p := ⟨gb203, 3, none⟩) (Kd.R_far (p := ⟨gb203, 2, none⟩) (Kd.R_far (p := ⟨gb203, 1, none⟩) (Kd.R_far (p := ⟨gb203, 0, none⟩) (Kd.R_types HO176.out BK203.out (by decide)) (fun _ hk => hk.2) (.int .i64 t197)) (fun _ hk => hk.2) (.int .i64 t198)) (fun _ hk => hk.2) (.int .u64 t199)) (fun _ hk => hk.2) (.int .i64 t200)) (fun _ hk => hk.2) (.int .i64 t201)) (fun _ h_ => h_.1))) hb); have n1_ := Aside0.mk (blk_below (g := gb186) (o := .cells #[.int .i64 t177, .int .i64 t178, .int .u64 t179, .int .i64 t180, .int .i64 t181, .int .i64 t182, .int .i64 t183, .int .i64 t184] 27 (0, 0)) (by (with_reducible repeat (first | refine blk_drewN ?_ _ | refine blk_drew ?_ | refine blk_alloc ?_ _)); refine blk_far ?_ NB186_203.out _; (with_reducible repeat (first | refine blk_drewN ?_ _ | refine blk_drew ?_ | refine blk_alloc ?_ _)); refine blk_far ?_ NB186_203.out _; (with_reducible repeat (first | refine blk_drewN ?_ _ | refine blk_drew ?_ | refine blk_alloc ?_ _)); refine blk_far ?_ NB186_203.out _; (with_reducible repeat (first | refine blk_drewN ?_ _ | refine blk_drew ?_ | refine blk_alloc ?_ _)); refine blk_far ?_ NB186_203.out _; (with_reducible repeat (first | refine blk_drewN ?_ _ | refine blk_drew ?_ | refine blk_alloc ?_ _)); refine blk_far ?_ NB186_203.out _; (with_reducible repeat (first | refine blk_drewN ?_ _ | refine blk_drew ?_ | refine blk_alloc ?_ _)); exact BK186.out) hb); have n2_ := Aside0.mk (blk_below (g := gb196) (o := .cells #[.int .i64 t187, .int .i64 t188, .int .u64 t189, .int .i64 t190, .int .i64 t191, .int .i64 t192, .int .i64 t193, .int .i64 t194] 27 (0, 0)) (by (with_reducible repeat (first | refine blk_drewN ?_ _ | refine blk_drew ?_ | refine blk_alloc ?_ _)); refine blk_far ?_ NB196_203.out _; (with_reducible repeat (first | refine blk_drewN ?_ _ | refine blk_drew ?_ | refine blk_alloc ?_ _)); refine blk_far ?_ NB196_203.out _; (with_reducible repeat (first | refine blk_drewN ?_ _ | refine blk_drew ?_ | refine blk_alloc ?_ _)); refine blk_far ?_ NB196_203.out _; (with_reducible repeat (first | refine blk_drewN ?_ _ | refine blk_drew ?_ | refine blk_alloc ?_ _)); refine blk_far ?_ NB196_203.out _; (with_reducible repeat (first | refine blk_drewN ?_ _ | refine blk_drew ?_ | refine blk_alloc ?_ _)); refine blk_far ?_ NB196_203.out _; (with_reducible repeat (first | refine blk_drewN ?_ _ | refine blk_drew ?_ | refine blk_alloc ?_ _)); exact BK196.out) hb); have n3_ := Aside0.mk (blk_below (g := gb203) (o := .cells #[.int .i64 t197, .int .i64 t198, .int .u64 t199, .int .i64 t200, .int .i64 t201] 53 (0, 0)) (by (with_reducible repeat (first | refine blk_drewN ?_ _ | refine blk_drew ?_ | refine blk_alloc ?_ _)); refine blk_put (cs := #[.int .i64 t197, .int .i64 t198, .int .u64 t199, .int .i64 t200, .int .i64 0]) ?_ 4 _ rfl; (with_reducible repeat (first | refine blk_drewN ?_ _ | refine blk_drew ?_ | refine blk_alloc ?_ _)); refine blk_put (cs := #[.int .i64 t197, .int .i64 t198, .int .u64 t199, .int .i64 0, .int .i64 0]) ?_ 3 _ rfl; (with_reducible repeat (first | refine blk_drewN ?_ _ | refine blk_drew ?_ | refine blk_alloc ?_ _)); refine blk_put (cs := #[.int .i64 t197, .int .i64 t198, .int .u64 0, .int .i64 0, .int .i64 0]) ?_ 2 _ rfl; (with_reducible repeat (first | refine blk_drewN ?_ _ | refine blk_drew ?_ | refine blk_alloc ?_ _)); refine blk_put (cs := #[.int .i64 t197, .int .i64 0, .int .u64 0, .int .i64 0, .int .i64 0]) ?_ 1 _ rfl; (with_reducible repeat (first | refine blk_drewN ?_ _ | refine blk_drew ?_ | refine blk_alloc ?_ _)); refine blk_put (cs := #[.int .i64 0, .int .i64 0, .int .u64 0, .int .i64 0, .int .i64 0]) ?_ 0 _ rfl; (with_reducible repeat (first | refine blk_drewN ?_ _ | refine blk_drew ?_ | refine blk_alloc ?_ _)); exact BK203.out) hb); have n4_ := Aside0.mk (below_step (by repeat (first | (with_reducible first | exact HB.out | apply below_alloc | apply pw_below_drewN | apply below_drew1 | refine below_set ?_ GE186.out | refine below_set ?_ GE196.out | refine below_set ?_ GE203.out) | exact HB.out)) hb); clear HO176; clear BK186; clear BK196; clear BK203; clear HB; have HO176 := n0_; have BK186 := n1_; have BK196 := n2_; have BK203 := n3_; have HB := n4_; clear n0_ n1_ n2_ n3_ n4_; (try clear hb); (try clear hb2); (try clear hk); (try clear hi)) | ((with_reducible refine gate_dst (N := 17) rfl ?_); (try (refine gate_guard (by rfl) ?_; dsimp only)); refine box_event ?hg (N := 17) ?hd (cs := #[.int .i64 0, .int .i64 0, .int .u64 0, .int .i64 0, .int .i64 0]) (t := 53) ?hr ?_; (case hd => rfl); (case hg => rfl); (case hr => first | (go_simp; done) | (go_simp; rfl)); intro gb210 hg w40 hbox hb; have n0_ := Aside0.mk (Kd.R_below (by (with_reducible repeat (first | apply Kd.R_alloc | apply Kd.R_drewN | apply Kd.R_drew)); exact HO176.out) hb); have n1_ := Aside0.mk (blk_below (g := gb186) (o := .cells #[.int .i64 t177, .int .i64 t178, .int .u64 t179, .int .i64 t180, .int .i64 t181, .int .i64 t182, .int .i64 t183, .int .i64 t184] 27 (0, 0)) (by (with_reducible repeat (first | refine blk_drewN ?_ _ | refine blk_drew ?_ | refine blk_alloc ?_ _)); exact BK186.out) hb); have n2_ := Aside0.mk (blk_below (g := gb196) (o := .cells #[.int .i64 t187, .int .i64 t188, .int .u64 t189, .int .i64 t190, .int .i64 t191, .int .i64 t192, .int .i64 t193, .int .i64 t194] 27 (0, 0)) (by (with_reducible repeat (first | refine blk_drewN ?_ _ | refine blk_drew ?_ | refine blk_alloc ?_ _)); exact BK196.out) hb); have n3_ := Aside0.mk (blk_below (g := gb203) (o := .cells #[.int .i64 t197, .int .i64 t198, .int .u64 t199, .int .i64 t200, .int .i64 t201] 53 (0, 0)) (by (with_reducible repeat (first | refine blk_drewN ?_ _ | refine blk_drew ?_ | refine blk_alloc ?_ _)); exact BK203.out) hb); have n4_ := Aside0.mk (below_step (by repeat (first | (with_reducible first | exact HB.out | apply below_alloc | apply pw_below_drewN | apply below_drew1 | refine below_set ?_ GE186.out | refine below_set ?_ GE196.out | refine below_set ?_ GE203.out) | exact HB.out)) hb); have n5_ := Aside0.mk (hbox); have n6_ := Aside0.mk ((by rw [hg]; exact (below_size (by repeat (first | (with_reducible first | exact HB.out | apply below_alloc | apply pw_below_drewN | apply below_drew1 | refine below_set ?_ GE186.out | refine below_set ?_ GE196.out | refine below_set ?_ GE203.out) | exact HB.out))) : w.heap.size ≤ gb210)); have n7_ := Aside0.mk ((by rw [hg]; exact (below_size (by repeat (first | (with_reducible first | exact HB.out | apply below_alloc | apply pw_below_drewN | apply below_drew1 | refine below_set ?_ GE186.out | refine below_set ?_ GE196.out | refine below_set ?_ GE203.out) | exact HB.out))) : w.heap.size ≤ gb210)); have n8_ := Aside0.mk ((by rw [hg]; exact Nat.ne_of_lt (blk_lt (g := gb186) (o := .cells #[.int .i64 t177, .int .i64 t178, .int .u64 t179, .int .i64 t180, .int .i64 t181, .int .i64 t182, .int .i64 t183, .int .i64 t184] 27 (0, 0)) (by (with_reducible repeat (first | refine blk_drewN ?_ _ | refine blk_drew ?_ | refine blk_alloc ?_ _)); exact BK186.out)) : gb186 ≠ gb210)); have n9_ := Aside0.mk ((by rw [hg]; exact Nat.ne_of_gt (blk_lt (g := gb186) (o := .cells #[.int .i64 t177, .int .i64 t178, .int .u64 t179, .int .i64 t180, .int .i64 t181, .int .i64 t182, .int .i64 t183, .int .i64 t184] 27 (0, 0)) (by (with_reducible repeat (first | refine blk_drewN ?_ _ | refine blk_drew ?_ | refine blk_alloc ?_ _)); exact BK186.out)) : gb210 ≠ gb186)); have n10_ := Aside0.mk ((by rw [hg]; exact Nat.ne_of_lt (blk_lt (g := gb196) (o := .cells #[.int .i64 t187, .int .i64 t188, .int .u64 t189, .int .i64 t190, .int .i64 t191, .int .i64 t192, .int .i64 t193, .int .i64 t194] 27 (0, 0)) (by (with_reducible repeat (first | refine blk_drewN ?_ _ | refine blk_drew ?_ | refine blk_alloc ?_ _)); exact BK196.out)) : gb196 ≠ gb210)); have n11_ := Aside0.mk ((by rw [hg]; exact Nat.ne_of_gt (blk_lt (g := gb196) (o := .cells #[.int .i64 t187, .int .i64 t188, .int .u64 t189, .int .i64 t190, .int .i64 t191, .int .i64 t192, .int .i64 t193, .int .i64 t194] 27 (0, 0)) (by (with_reducible repeat (first | refine blk_drewN ?_ _ | refine blk_drew ?_ | refine blk_alloc ?_ _)); exact BK196.out)) : gb210 ≠ gb196)); have n12_ := Aside0.mk ((by rw [hg]; exact Nat.ne_of_lt (blk_lt (g := gb203) (o := .cells #[.int .i64 t197, .int .i64 t198, .int .u64 t199, .int .i64 t200, .int .i64 t201] 53 (0, 0)) (by (with_reducible repeat (first | refine blk_drewN ?_ _ | refine blk_drew ?_ | refine blk_alloc ?_ _)); exact BK203.out)) : gb203 ≠ gb210)); have n13_ := Aside0.mk ((by rw [hg]; exact Nat.ne_of_gt (blk_lt (g := gb203) (o := .cells #[.int .i64 t197, .int .i64 t198, .int .u64 t199, .int .i64 t200, .int .i64 t201] 53 (0, 0)) (by (with_reducible repeat (first | refine blk_drewN ?_ _ | refine blk_drew ?_ | refine blk_alloc ?_ _)); exact BK203.out)) : gb210 ≠ gb203)); clear HO176; clear BK186; clear BK196; clear BK203; clear HB; have HO176 := n0_; have BK186 := n1_; have BK196 := n2_; have BK203 := n3_; have HB := n4_; have BK210 := n5_; have GW210 := n6_; have GE210 := n7_; have NB186_210 := n8_; have NB210_186 := n9_; have NB196_210 := n10_; have NB210_196 := n11_; have NB203_210 := n12_; have NB210_203 := n13_; clear n0_ n1_ n2_ n3_ n4_ n5_ n6_ n7_ n8_ n9_ n10_ n11_ n12_ n13_; clear hb hbox hg; have hnb41 := NB210_186.out; have hnc41 := NB186_210.out; have hnb42 := NB210_196.out; have hnc42 := NB196_210.out; have hnb43 := NB210_203.out; have hnc43 := NB203_210.out; have hcz44_0 : w40.cell? ⟨gb210, 0, none⟩ = some (.int .i64 0) := (blk_cell BK210.out 0).trans rfl; have hcz44_1 : w40.cell? ⟨gb210, 1, none⟩ = some (.int .i64 0) := (blk_cell BK210.out 1).trans rfl; have hcz44_2 : w40.cell? ⟨gb210, 2, none⟩ = some (.int .u64 0) := (blk_cell BK210.out 2).trans rfl; have hcz44_3 : w40.cell? ⟨gb210, 3, none⟩ = some (.int .i64 0) := (blk_cell BK210.out 3).trans rfl; have hcz44_4 : w40.cell? ⟨gb210, 4, none⟩ = some (.int .i64 0) := (blk_cell BK210.out 4).trans rfl; have hfz44_0 := blk_frozen BK210.out 0; have hfz44_1 := blk_frozen BK210.out 1; have hfz44_2 := blk_frozen BK210.out 2; have hfz44_3 := blk_frozen BK210.out 3; have hfz44_4 := blk_frozen BK210.out 4) | (go_at_call 23; (with_reducible refine (timer_Bins.calls _ _ l0 _ _ l3 t211 t212 _ ?side1 ?side2 ?side3 ?side4 A21.out).mono ?_); (case side1 => exact Kd.C_below HR0.out (by repeat (first | (with_reducible first | exact HB.out | apply below_alloc | apply pw_below_drewN | apply below_drew1 | refine below_set ?_ GE186.out | refine below_set ?_ GE196.out | refine below_set ?_ GE203.out | refine below_set ?_ GE210.out) | exact HB.out))); (case side2 => exact HC0.out); (case side3 => exact Kd.C_below HR3.out (by repeat (first | (with_reducible first | exact HB.out | apply below_alloc | apply pw_below_drewN | apply below_drew1 | refine below_set ?_ GE186.out | refine below_set ?_ GE196.out | refine below_set ?_ GE203.out | refine below_set ?_ GE210.out) | exact HB.out))); (case side4 => exact HC3.out); rintro e w45 ⟨v213, rfl, ho0, hb⟩; have n0_ := Aside0.mk (Kd.R_below (by (with_reducible repeat (first | apply Kd.R_alloc | apply Kd.R_drewN | apply Kd.R_drew)); exact (Kd.R_mono (Kd.R_far (p := ⟨gb210, 4, none⟩) (Kd.R_far (p := ⟨gb210, 3, none⟩) (Kd.R_far (p := ⟨gb210, 2, none⟩) (Kd.R_far (p := ⟨gb210, 1, none⟩) (Kd.R_far (p := ⟨gb210, 0, none⟩) (Kd.R_types HO176.out BK210.out (by decide)) (fun _ hk => hk.2) (.int .i64 t204)) (fun _ hk => hk.2) (.int .i64 t205)) (fun _ hk => hk.2) (.int .u64 t206)) (fun _ hk => hk.2) (.int .i64 t207)) (fun _ hk => hk.2) (.int .i64 t208)) (fun _ h_ => h_.1))) hb); have n1_ := Aside0.mk (Kd.R_lower ho0 (below_size (by repeat (first | (with_reducible first | exact HB.out | apply below_alloc | apply pw_below_drewN | apply below_drew1 | refine below_set ?_ GE186.out | refine below_set ?_ GE196.out | refine below_set ?_ GE203.out | refine below_set ?_ GE210.out) | exact HB.out)))); have n2_ := Aside0.mk (blk_below (g := gb186) (o := .cells #[.int .i64 t177, .int .i64 t178, .int .u64 t179, .int .i64 t180, .int .i64 t181, .int .i64 t182, .int .i64 t183, .int .i64 t184] 27 (0, 0)) (by (with_reducible repeat (first | refine blk_drewN ?_ _ | refine blk_drew ?_ | refine blk_alloc ?_ _)); refine blk_far ?_ NB186_210.out _; (with_reducible repeat (first | refine blk_drewN ?_ _ | refine blk_drew ?_ | refine blk_alloc ?_ _)); refine blk_far ?_ NB186_210.out _; (with_reducible repeat (first | refine blk_drewN ?_ _ | refine blk_drew ?_ | refine blk_alloc ?_ _)); refine blk_far ?_ NB186_210.out _; (with_reducible repeat (first | refine blk_drewN ?_ _ | refine blk_drew ?_ | refine blk_alloc ?_ _)); refine blk_far ?_ NB186_210.out _; (with_reducible repeat (first | refine blk_drewN ?_ _ | refine blk_drew ?_ | refine blk_alloc ?_ _)); refine blk_far ?_ NB186_210.out _; (with_reducible repeat (first | refine blk_drewN ?_ _ | refine blk_drew ?_ | refine blk_alloc ?_ _)); exact BK186.out) hb); have n3_ := Aside0.mk (blk_below (g := gb196) (o := .cells #[.int .i64 t187, .int .i64 t188, .int .u64 t189, .int .i64 t190, .int .i64 t191, .int .i64 t192, .int .i64 t193, .int .i64 t194] 27 (0, 0)) (by (with_reducible repeat (first | refine blk_drewN ?_ _ | refine blk_drew ?_ | refine blk_alloc ?_ _)); refine blk_far ?_ NB196_210.out _; (with_reducible repeat (first | refine blk_drewN ?_ _ | refine blk_drew ?_ | refine blk_alloc ?_ _)); refine blk_far ?_ NB196_210.out _; (with_reducible repeat (first | refine blk_drewN ?_ _ | refine blk_drew ?_ | refine blk_alloc ?_ _)); refine blk_far ?_ NB196_210.out _; (with_reducible repeat (first | refine blk_drewN ?_ _ | refine blk_drew ?_ | refine blk_alloc ?_ _)); refine blk_far ?_ NB196_210.out _; (with_reducible repeat (first | refine blk_drewN ?_ _ | refine blk_drew ?_ | refine blk_alloc ?_ _)); refine blk_far ?_ NB196_210.out _; (with_reducible repeat (first | refine blk_drewN ?_ _ | refine blk_drew ?_ | refine blk_alloc ?_ _)); exact BK196.out) hb); have n4_ := Aside0.mk (blk_below (g := gb203) (o := .cells #[.int .i64 t197, .int .i64 t198, .int .u64 t199, .int .i64 t200, .int .i64 t201] 53 (0, 0)) (by (with_reducible repeat (first | refine blk_drewN ?_ _ | refine blk_drew ?_ | refine blk_alloc ?_ _)); refine blk_far ?_ NB203_210.out _; (with_reducible repeat (first | refine blk_drewN ?_ _ | refine blk_drew ?_ | refine blk_alloc ?_ _)); refine blk_far ?_ NB203_210.out _; (with_reducible repeat (first | refine blk_drewN ?_ _ | refine blk_drew ?_ | refine blk_alloc ?_ _)); refine blk_far ?_ NB203_210.out _; (with_reducible repeat (first | refine blk_drewN ?_ _ | refine blk_drew ?_ | refine blk_alloc ?_ _)); refine blk_far ?_ NB203_210.out _; (with_reducible repeat (first | refine blk_drewN ?_ _ | refine blk_drew ?_ | refine blk_alloc ?_ _)); refine blk_far ?_ NB203_210.out _; (with_reducible repeat (first | refine blk_drewN ?_ _ | refine blk_drew ?_ | refine blk_alloc ?_ _)); exact BK203.out) hb); have n5_ := Aside0.mk (blk_below (g := gb210) (o := .cells #[.int .i64 t204, .int .i64 t205, .int .u64 t206, .int .i64 t207, .int .i64 t208] 53 (0, 0)) (by (with_reducible repeat (first | refine blk_drewN ?_ _ | refine blk_drew ?_ | refine blk_alloc ?_ _)); refine blk_put (cs := #[.int .i64 t204, .int .i64 t205, .int .u64 t206, .int .i64 t207, .int .i64 0]) ?_ 4 _ rfl; (with_reducible repeat (first | refine blk_drewN ?_ _ | refine blk_drew ?_ | refine blk_alloc ?_ _)); refine blk_put (cs := #[.int .i64 t204, .int .i64 t205, .int .u64 t206, .int .i64 0, .int .i64 0]) ?_ 3 _ rfl; (with_reducible repeat (first | refine blk_drewN ?_ _ | refine blk_drew ?_ | refine blk_alloc ?_ _)); refine blk_put (cs := #[.int .i64 t204, .int .i64 t205, .int .u64 0, .int .i64 0, .int .i64 0]) ?_ 2 _ rfl; (with_reducible repeat (first | refine blk_drewN ?_ _ | refine blk_drew ?_ | refine blk_alloc ?_ _)); refine blk_put (cs := #[.int .i64 t204, .int .i64 0, .int .u64 0, .int .i64 0, .int .i64 0]) ?_ 1 _ rfl; (with_reducible repeat (first | refine blk_drewN ?_ _ | refine blk_drew ?_ | refine blk_alloc ?_ _)); refine blk_put (cs := #[.int .i64 0, .int .i64 0, .int .u64 0, .int .i64 0, .int .i64 0]) ?_ 0 _ rfl; (with_reducible repeat (first | refine blk_drewN ?_ _ | refine blk_drew ?_ | refine blk_alloc ?_ _)); exact BK210.out) hb); have n6_ := Aside0.mk (below_step (by repeat (first | (with_reducible first | exact HB.out | apply below_alloc | apply pw_below_drewN | apply below_drew1 | refine below_set ?_ GE186.out | refine below_set ?_ GE196.out | refine below_set ?_ GE203.out | refine below_set ?_ GE210.out) | exact HB.out)) hb); clear HO176; clear BK186; clear BK196; clear BK203; clear BK210; clear HB; have HO176 := n0_; have HO214 := n1_; have BK186 := n2_; have BK196 := n3_; have BK203 := n4_; have BK210 := n5_; have HB := n6_; clear n0_ n1_ n2_ n3_ n4_ n5_ n6_; (try clear hb); (try clear hb2); (try clear hk); (try clear hi); (try clear ho0)) | (go_at_call 23; (with_reducible refine (timer_Bins.calls _ _ y174 _ _ l3 t215 t216 _ ?side1 ?side2 ?side3 ?side4 A22.out).mono ?_); (case side1 => repeat (first | exact (Kd.R_reads' HO176.out).2.2 | (with_reducible refine Kd.C_alloc ?_ _) | (with_reducible refine Kd.C_drewN ?_ _) | (with_reducible refine Kd.C_drew ?_))); (case side2 => exact (Kd.R_reads' HO176.out).2.1); (case side3 => repeat (first | exact (Kd.C_below HR3.out HB.out) | (with_reducible refine Kd.C_alloc ?_ _) | (with_reducible refine Kd.C_drewN ?_ _) | (with_reducible refine Kd.C_drew ?_))); (case side4 => exact HC3.out); rintro e w46 ⟨v217, rfl, ho0, hb⟩; have n0_ := Aside0.mk (Kd.R_below (by (with_reducible repeat (first | apply Kd.R_alloc | apply Kd.R_drewN | apply Kd.R_drew)); exact HO176.out) hb); have n1_ := Aside0.mk (Kd.R_elder' (by (with_reducible repeat (first | apply Kd.R_alloc | apply Kd.R_drewN | apply Kd.R_drew)); exact HO214.out) (Kd.R_base ho0) hb); have n2_ := Aside0.mk (Kd.R_lower (Kd.R_new' ho0 (Kd.R_lt (by (with_reducible repeat (first | apply Kd.R_alloc | apply Kd.R_drewN | apply Kd.R_drew)); exact HO214.out))) (below_size (by repeat (first | (with_reducible first | exact HB.out | apply below_alloc | apply pw_below_drewN | apply below_drew1 | refine below_set ?_ GE186.out | refine below_set ?_ GE196.out | refine below_set ?_ GE203.out | refine below_set ?_ GE210.out) | exact HB.out)))); have n3_ := Aside0.mk (blk_below (g := gb186) (o := .cells #[.int .i64 t177, .int .i64 t178, .int .u64 t179, .int .i64 t180, .int .i64 t181, .int .i64 t182, .int .i64 t183, .int .i64 t184] 27 (0, 0)) (by (with_reducible repeat (first | refine blk_drewN ?_ _ | refine blk_drew ?_ | refine blk_alloc ?_ _)); exact BK186.out) hb); have n4_ := Aside0.mk (blk_below (g := gb196) (o := .cells #[.int .i64 t187, .int .i64 t188, .int .u64 t189, .int .i64 t190, .int .i64 t191, .int .i64 t192, .int .i64 t193, .int .i64 t194] 27 (0, 0)) (by (with_reducible repeat (first | refine blk_drewN ?_ _ | refine blk_drew ?_ | refine blk_alloc ?_ _)); exact BK196.out) hb); have n5_ := Aside0.mk (blk_below (g := gb203) (o := .cells #[.int .i64 t197, .int .i64 t198, .int .u64 t199, .int .i64 t200, .int .i64 t201] 53 (0, 0)) (by (with_reducible repeat (first | refine blk_drewN ?_ _ | refine blk_drew ?_ | refine blk_alloc ?_ _)); exact BK203.out) hb); have n6_ := Aside0.mk (blk_below (g := gb210) (o := .cells #[.int .i64 t204, .int .i64 t205, .int .u64 t206, .int .i64 t207, .int .i64 t208] 53 (0, 0)) (by (with_reducible repeat (first | refine blk_drewN ?_ _ | refine blk_drew ?_ | refine blk_alloc ?_ _)); exact BK210.out) hb); have n7_ := Aside0.mk (below_step (by repeat (first | (with_reducible first | exact HB.out | apply below_alloc | apply pw_below_drewN | apply below_drew1 | refine below_set ?_ GE186.out | refine below_set ?_ GE196.out | refine below_set ?_ GE203.out | refine below_set ?_ GE210.out) | exact HB.out)) hb); clear HO176; clear HO214; clear BK186; clear BK196; clear BK203; clear BK210; clear HB; have HO176 := n0_; have HO214 := n1_; have HO218 := n2_; have BK186 := n3_; have BK196 := n4_; have BK203 := n5_; have BK210 := n6_; have HB := n7_; clear n0_ n1_ n2_ n3_ n4_ n5_ n6_ n7_; (try clear hb); (try clear hb2); (try clear hk); (try clear hi); (try clear ho0))))
                      (try simp only [Act.put, List.setIfInBounds_toArray, List.set_cons_zero, List.set_cons_succ])
                      go_cut [119] (fun v119 wc => ∃ (kq : Nat) (x119_22 : Bool), v119 = .bool x119_22 ∧ Aside0 (tumblerlaw09_TimerShuffles.j3 kq l0 t211 t212 t215 x119_22 = some r) ∧ Aside0 (kq ≤ k3) ∧ Aside0 (Kd.R (Kd.int .i64) 3 wc w.heap.size (fun k_ => some k_ ≠ (v217 : Value).ownBlock) v213 t211) ∧ Aside0 (Kd.R (Kd.int .i64) 3 wc w.heap.size (fun k_ => some k_ ≠ (v213 : Value).ownBlock) v217 t215) ∧ Aside0 (wc.heap[gb186]? = some (.cells #[.int .i64 t177, .int .i64 t178, .int .u64 t179, .int .i64 t180, .int .i64 t181, .int .i64 t182, .int .i64 t183, .int .i64 t184] 27 (0, 0))) ∧ Aside0 (wc.heap[gb196]? = some (.cells #[.int .i64 t187, .int .i64 t188, .int .u64 t189, .int .i64 t190, .int .i64 t191, .int .i64 t192, .int .i64 t193, .int .i64 t194] 27 (0, 0))) ∧ Aside0 (wc.heap[gb203]? = some (.cells #[.int .i64 t197, .int .i64 t198, .int .u64 t199, .int .i64 t200, .int .i64 t201] 53 (0, 0))) ∧ Aside0 (wc.heap[gb210]? = some (.cells #[.int .i64 t204, .int .i64 t205, .int .u64 t206, .int .i64 t207, .int .i64 t208] 53 (0, 0))) ∧ Aside0 (Below w.heap.size w wc))
                      case first =>
                        have H := HC23.out
                        clear HC23
                        by_cases c47 : (!(t177 == t187) || ((!(t178 == t188) || (!(t179 == t189))) || (!(t180 == t190) || (!(t181 == t191) || (!(t182 == t192) || (!(t183 == t193) || (!(t184 == t194)))))))) = true
                        · rw [if_pos c47] at H
                          have c47b0 : (!(t177 == t187) || ((!(t178 == t188) || (!(t179 == t189))) || (!(t180 == t190) || (!(t181 == t191) || (!(t182 == t192) || (!(t183 == t193) || (!(t184 == t194)))))))) = true := c47
                          clear c47
                          (first | rw [c47b0] | (simp only [i64_w, i32_w]; rw [c47b0]) | skip)
                          have H' := Aside0.mk H
                          clear H
                          have hnb48 := NB186_196.out
                          have hnc48 := NB196_186.out
                          have hnb49 := NB186_203.out
                          have hnc49 := NB203_186.out
                          have hnb50 := NB186_210.out
                          have hnc50 := NB210_186.out
                          have hcz51_0 : w46.cell? ⟨gb186, 0, none⟩ = some (.int .i64 t177) := (blk_cell BK186.out 0).trans rfl
                          have hcz51_1 : w46.cell? ⟨gb186, 1, none⟩ = some (.int .i64 t178) := (blk_cell BK186.out 1).trans rfl
                          have hcz51_2 : w46.cell? ⟨gb186, 2, none⟩ = some (.int .u64 t179) := (blk_cell BK186.out 2).trans rfl
                          have hcz51_3 : w46.cell? ⟨gb186, 3, none⟩ = some (.int .i64 t180) := (blk_cell BK186.out 3).trans rfl
                          have hcz51_4 : w46.cell? ⟨gb186, 4, none⟩ = some (.int .i64 t181) := (blk_cell BK186.out 4).trans rfl
                          have hcz51_5 : w46.cell? ⟨gb186, 5, none⟩ = some (.int .i64 t182) := (blk_cell BK186.out 5).trans rfl
                          have hcz51_6 : w46.cell? ⟨gb186, 6, none⟩ = some (.int .i64 t183) := (blk_cell BK186.out 6).trans rfl
                          have hcz51_7 : w46.cell? ⟨gb186, 7, none⟩ = some (.int .i64 t184) := (blk_cell BK186.out 7).trans rfl
                          have hfz51_0 := blk_frozen BK186.out 0
                          have hfz51_1 := blk_frozen BK186.out 1
                          have hfz51_2 := blk_frozen BK186.out 2
                          have hfz51_3 := blk_frozen BK186.out 3
                          have hfz51_4 := blk_frozen BK186.out 4
                          have hfz51_5 := blk_frozen BK186.out 5
                          have hfz51_6 := blk_frozen BK186.out 6
                          have hfz51_7 := blk_frozen BK186.out 7
                          have hnb52 := NB196_203.out
                          have hnc52 := NB203_196.out
                          have hnb53 := NB196_210.out
                          have hnc53 := NB210_196.out
                          have hcz54_0 : w46.cell? ⟨gb196, 0, none⟩ = some (.int .i64 t187) := (blk_cell BK196.out 0).trans rfl
                          have hcz54_1 : w46.cell? ⟨gb196, 1, none⟩ = some (.int .i64 t188) := (blk_cell BK196.out 1).trans rfl
                          have hcz54_2 : w46.cell? ⟨gb196, 2, none⟩ = some (.int .u64 t189) := (blk_cell BK196.out 2).trans rfl
                          have hcz54_3 : w46.cell? ⟨gb196, 3, none⟩ = some (.int .i64 t190) := (blk_cell BK196.out 3).trans rfl
                          have hcz54_4 : w46.cell? ⟨gb196, 4, none⟩ = some (.int .i64 t191) := (blk_cell BK196.out 4).trans rfl
                          have hcz54_5 : w46.cell? ⟨gb196, 5, none⟩ = some (.int .i64 t192) := (blk_cell BK196.out 5).trans rfl
                          have hcz54_6 : w46.cell? ⟨gb196, 6, none⟩ = some (.int .i64 t193) := (blk_cell BK196.out 6).trans rfl
                          have hcz54_7 : w46.cell? ⟨gb196, 7, none⟩ = some (.int .i64 t194) := (blk_cell BK196.out 7).trans rfl
                          have hfz54_0 := blk_frozen BK196.out 0
                          have hfz54_1 := blk_frozen BK196.out 1
                          have hfz54_2 := blk_frozen BK196.out 2
                          have hfz54_3 := blk_frozen BK196.out 3
                          have hfz54_4 := blk_frozen BK196.out 4
                          have hfz54_5 := blk_frozen BK196.out 5
                          have hfz54_6 := blk_frozen BK196.out 6
                          have hfz54_7 := blk_frozen BK196.out 7
                          go_wp2
                          repeat (go_quiet (fail); try go_wp2)
                          go_meet
                          case rel => exact ⟨_, (true), (by first | rfl | (simp; done) | (simp [*]; done)), H', ⟨by have := HJ4.out; have := HJ6.out; have := HK3.out; first | omega | exact Nat.le_refl _⟩, ⟨by (with_reducible repeat (first | apply Kd.R_alloc | apply Kd.R_drewN | apply Kd.R_drew)); exact Kd.R_mono HO214.out (fun _ hk => hk.2)⟩, ⟨by (with_reducible repeat (first | apply Kd.R_alloc | apply Kd.R_drewN | apply Kd.R_drew)); exact Kd.R_mono HO218.out (fun _ hk => hk.2)⟩, ⟨by (with_reducible repeat (first | refine blk_drewN ?_ _ | refine blk_drew ?_ | refine blk_alloc ?_ _)); exact BK186.out⟩, ⟨by (with_reducible repeat (first | refine blk_drewN ?_ _ | refine blk_drew ?_ | refine blk_alloc ?_ _)); exact BK196.out⟩, ⟨by (with_reducible repeat (first | refine blk_drewN ?_ _ | refine blk_drew ?_ | refine blk_alloc ?_ _)); exact BK203.out⟩, ⟨by (with_reducible repeat (first | refine blk_drewN ?_ _ | refine blk_drew ?_ | refine blk_alloc ?_ _)); exact BK210.out⟩, ⟨by repeat (first | (with_reducible first | exact HB.out | apply below_alloc | apply pw_below_drewN | apply below_drew1 | refine below_set ?_ GE186.out | refine below_set ?_ GE196.out | refine below_set ?_ GE203.out | refine below_set ?_ GE210.out) | exact HB.out)⟩⟩
                        · rw [if_neg c47] at H
                          have c47b0 : (!(t177 == t187) || ((!(t178 == t188) || (!(t179 == t189))) || (!(t180 == t190) || (!(t181 == t191) || (!(t182 == t192) || (!(t183 == t193) || (!(t184 == t194)))))))) = false := by simpa using c47
                          clear c47
                          (first | rw [c47b0] | (simp only [i64_w, i32_w]; rw [c47b0]) | skip)
                          by_cases c55 : t185 = t195
                          · rw [if_pos c55] at H
                            have c55b0 : (t185 == t195) = true := beq_iff_eq.mpr c55
                            have c55b1 : (t185 != t195) = false := bne_eq_false_iff_eq.mpr c55
                            clear c55
                            by_cases c56 : (!(t197 == t204) || ((!(t198 == t205) || (!(t199 == t206))) || (!(t200 == t207) || (!(t201 == t208))))) = true
                            · rw [if_pos c56] at H
                              have c56b0 : (!(t197 == t204) || ((!(t198 == t205) || (!(t199 == t206))) || (!(t200 == t207) || (!(t201 == t208))))) = true := c56
                              clear c56
                              have H' := Aside0.mk H
                              clear H
                              have hnb57 := NB186_196.out
                              have hnc57 := NB196_186.out
                              have hnb58 := NB186_203.out
                              have hnc58 := NB203_186.out
                              have hnb59 := NB186_210.out
                              have hnc59 := NB210_186.out
                              have hcz60_0 : w46.cell? ⟨gb186, 0, none⟩ = some (.int .i64 t177) := (blk_cell BK186.out 0).trans rfl
                              have hcz60_1 : w46.cell? ⟨gb186, 1, none⟩ = some (.int .i64 t178) := (blk_cell BK186.out 1).trans rfl
                              have hcz60_2 : w46.cell? ⟨gb186, 2, none⟩ = some (.int .u64 t179) := (blk_cell BK186.out 2).trans rfl
                              have hcz60_3 : w46.cell? ⟨gb186, 3, none⟩ = some (.int .i64 t180) := (blk_cell BK186.out 3).trans rfl
                              have hcz60_4 : w46.cell? ⟨gb186, 4, none⟩ = some (.int .i64 t181) := (blk_cell BK186.out 4).trans rfl
                              have hcz60_5 : w46.cell? ⟨gb186, 5, none⟩ = some (.int .i64 t182) := (blk_cell BK186.out 5).trans rfl
                              have hcz60_6 : w46.cell? ⟨gb186, 6, none⟩ = some (.int .i64 t183) := (blk_cell BK186.out 6).trans rfl
                              have hcz60_7 : w46.cell? ⟨gb186, 7, none⟩ = some (.int .i64 t184) := (blk_cell BK186.out 7).trans rfl
                              have hfz60_0 := blk_frozen BK186.out 0
                              have hfz60_1 := blk_frozen BK186.out 1
                              have hfz60_2 := blk_frozen BK186.out 2
                              have hfz60_3 := blk_frozen BK186.out 3
                              have hfz60_4 := blk_frozen BK186.out 4
                              have hfz60_5 := blk_frozen BK186.out 5
                              have hfz60_6 := blk_frozen BK186.out 6
                              have hfz60_7 := blk_frozen BK186.out 7
                              have hnb61 := NB196_203.out
                              have hnc61 := NB203_196.out
                              have hnb62 := NB196_210.out
                              have hnc62 := NB210_196.out
                              have hcz63_0 : w46.cell? ⟨gb196, 0, none⟩ = some (.int .i64 t187) := (blk_cell BK196.out 0).trans rfl
                              have hcz63_1 : w46.cell? ⟨gb196, 1, none⟩ = some (.int .i64 t188) := (blk_cell BK196.out 1).trans rfl
                              have hcz63_2 : w46.cell? ⟨gb196, 2, none⟩ = some (.int .u64 t189) := (blk_cell BK196.out 2).trans rfl
                              have hcz63_3 : w46.cell? ⟨gb196, 3, none⟩ = some (.int .i64 t190) := (blk_cell BK196.out 3).trans rfl
                              have hcz63_4 : w46.cell? ⟨gb196, 4, none⟩ = some (.int .i64 t191) := (blk_cell BK196.out 4).trans rfl
                              have hcz63_5 : w46.cell? ⟨gb196, 5, none⟩ = some (.int .i64 t192) := (blk_cell BK196.out 5).trans rfl
                              have hcz63_6 : w46.cell? ⟨gb196, 6, none⟩ = some (.int .i64 t193) := (blk_cell BK196.out 6).trans rfl
                              have hcz63_7 : w46.cell? ⟨gb196, 7, none⟩ = some (.int .i64 t194) := (blk_cell BK196.out 7).trans rfl
                              have hfz63_0 := blk_frozen BK196.out 0
                              have hfz63_1 := blk_frozen BK196.out 1
                              have hfz63_2 := blk_frozen BK196.out 2
                              have hfz63_3 := blk_frozen BK196.out 3
                              have hfz63_4 := blk_frozen BK196.out 4
                              have hfz63_5 := blk_frozen BK196.out 5
                              have hfz63_6 := blk_frozen BK196.out 6
                              have hfz63_7 := blk_frozen BK196.out 7
                              have hnb64 := NB203_210.out
                              have hnc64 := NB210_203.out
                              have hcz65_0 : w46.cell? ⟨gb203, 0, none⟩ = some (.int .i64 t197) := (blk_cell BK203.out 0).trans rfl
                              have hcz65_1 : w46.cell? ⟨gb203, 1, none⟩ = some (.int .i64 t198) := (blk_cell BK203.out 1).trans rfl
                              have hcz65_2 : w46.cell? ⟨gb203, 2, none⟩ = some (.int .u64 t199) := (blk_cell BK203.out 2).trans rfl
                              have hcz65_3 : w46.cell? ⟨gb203, 3, none⟩ = some (.int .i64 t200) := (blk_cell BK203.out 3).trans rfl
                              have hcz65_4 : w46.cell? ⟨gb203, 4, none⟩ = some (.int .i64 t201) := (blk_cell BK203.out 4).trans rfl
                              have hfz65_0 := blk_frozen BK203.out 0
                              have hfz65_1 := blk_frozen BK203.out 1
                              have hfz65_2 := blk_frozen BK203.out 2
                              have hfz65_3 := blk_frozen BK203.out 3
                              have hfz65_4 := blk_frozen BK203.out 4
                              have hcz66_0 : w46.cell? ⟨gb210, 0, none⟩ = some (.int .i64 t204) := (blk_cell BK210.out 0).trans rfl
                              have hcz66_1 : w46.cell? ⟨gb210, 1, none⟩ = some (.int .i64 t205) := (blk_cell BK210.out 1).trans rfl
                              have hcz66_2 : w46.cell? ⟨gb210, 2, none⟩ = some (.int .u64 t206) := (blk_cell BK210.out 2).trans rfl
                              have hcz66_3 : w46.cell? ⟨gb210, 3, none⟩ = some (.int .i64 t207) := (blk_cell BK210.out 3).trans rfl
                              have hcz66_4 : w46.cell? ⟨gb210, 4, none⟩ = some (.int .i64 t208) := (blk_cell BK210.out 4).trans rfl
                              have hfz66_0 := blk_frozen BK210.out 0
                              have hfz66_1 := blk_frozen BK210.out 1
                              have hfz66_2 := blk_frozen BK210.out 2
                              have hfz66_3 := blk_frozen BK210.out 3
                              have hfz66_4 := blk_frozen BK210.out 4
                              go_wp2
                              repeat (go_quiet (fail); try go_wp2)
                              go_meet
                              case rel => exact ⟨_, (true), (by first | rfl | (simp; done) | (simp [*]; done)), H', ⟨by have := HJ4.out; have := HJ6.out; have := HK3.out; first | omega | exact Nat.le_refl _⟩, ⟨by (with_reducible repeat (first | apply Kd.R_alloc | apply Kd.R_drewN | apply Kd.R_drew)); exact Kd.R_mono HO214.out (fun _ hk => hk.2)⟩, ⟨by (with_reducible repeat (first | apply Kd.R_alloc | apply Kd.R_drewN | apply Kd.R_drew)); exact Kd.R_mono HO218.out (fun _ hk => hk.2)⟩, ⟨by (with_reducible repeat (first | refine blk_drewN ?_ _ | refine blk_drew ?_ | refine blk_alloc ?_ _)); exact BK186.out⟩, ⟨by (with_reducible repeat (first | refine blk_drewN ?_ _ | refine blk_drew ?_ | refine blk_alloc ?_ _)); exact BK196.out⟩, ⟨by (with_reducible repeat (first | refine blk_drewN ?_ _ | refine blk_drew ?_ | refine blk_alloc ?_ _)); exact BK203.out⟩, ⟨by (with_reducible repeat (first | refine blk_drewN ?_ _ | refine blk_drew ?_ | refine blk_alloc ?_ _)); exact BK210.out⟩, ⟨by repeat (first | (with_reducible first | exact HB.out | apply below_alloc | apply pw_below_drewN | apply below_drew1 | refine below_set ?_ GE186.out | refine below_set ?_ GE196.out | refine below_set ?_ GE203.out | refine below_set ?_ GE210.out) | exact HB.out)⟩⟩
                            · rw [if_neg c56] at H
                              have c56b0 : (!(t197 == t204) || ((!(t198 == t205) || (!(t199 == t206))) || (!(t200 == t207) || (!(t201 == t208))))) = false := by simpa using c56
                              clear c56
                              by_cases c67 : t202 = t209
                              · rw [if_pos c67] at H
                                have c67b0 : (t202 == t209) = true := beq_iff_eq.mpr c67
                                have c67b1 : (t202 != t209) = false := bne_eq_false_iff_eq.mpr c67
                                clear c67
                                by_cases c68 : t212 = t216
                                · rw [if_pos c68] at H
                                  have c68b0 : (t212 == t216) = true := beq_iff_eq.mpr c68
                                  have c68b1 : (t212 != t216) = false := bne_eq_false_iff_eq.mpr c68
                                  clear c68
                                  have H' := Aside0.mk H
                                  clear H
                                  have hnb69 := NB186_196.out
                                  have hnc69 := NB196_186.out
                                  have hnb70 := NB186_203.out
                                  have hnc70 := NB203_186.out
                                  have hnb71 := NB186_210.out
                                  have hnc71 := NB210_186.out
                                  have hcz72_0 : w46.cell? ⟨gb186, 0, none⟩ = some (.int .i64 t177) := (blk_cell BK186.out 0).trans rfl
                                  have hcz72_1 : w46.cell? ⟨gb186, 1, none⟩ = some (.int .i64 t178) := (blk_cell BK186.out 1).trans rfl
                                  have hcz72_2 : w46.cell? ⟨gb186, 2, none⟩ = some (.int .u64 t179) := (blk_cell BK186.out 2).trans rfl
                                  have hcz72_3 : w46.cell? ⟨gb186, 3, none⟩ = some (.int .i64 t180) := (blk_cell BK186.out 3).trans rfl
                                  have hcz72_4 : w46.cell? ⟨gb186, 4, none⟩ = some (.int .i64 t181) := (blk_cell BK186.out 4).trans rfl
                                  have hcz72_5 : w46.cell? ⟨gb186, 5, none⟩ = some (.int .i64 t182) := (blk_cell BK186.out 5).trans rfl
                                  have hcz72_6 : w46.cell? ⟨gb186, 6, none⟩ = some (.int .i64 t183) := (blk_cell BK186.out 6).trans rfl
                                  have hcz72_7 : w46.cell? ⟨gb186, 7, none⟩ = some (.int .i64 t184) := (blk_cell BK186.out 7).trans rfl
                                  have hfz72_0 := blk_frozen BK186.out 0
                                  have hfz72_1 := blk_frozen BK186.out 1
                                  have hfz72_2 := blk_frozen BK186.out 2
                                  have hfz72_3 := blk_frozen BK186.out 3
                                  have hfz72_4 := blk_frozen BK186.out 4
                                  have hfz72_5 := blk_frozen BK186.out 5
                                  have hfz72_6 := blk_frozen BK186.out 6
                                  have hfz72_7 := blk_frozen BK186.out 7
                                  have hnb73 := NB196_203.out
                                  have hnc73 := NB203_196.out
                                  have hnb74 := NB196_210.out
                                  have hnc74 := NB210_196.out
                                  have hcz75_0 : w46.cell? ⟨gb196, 0, none⟩ = some (.int .i64 t187) := (blk_cell BK196.out 0).trans rfl
                                  have hcz75_1 : w46.cell? ⟨gb196, 1, none⟩ = some (.int .i64 t188) := (blk_cell BK196.out 1).trans rfl
                                  have hcz75_2 : w46.cell? ⟨gb196, 2, none⟩ = some (.int .u64 t189) := (blk_cell BK196.out 2).trans rfl
                                  have hcz75_3 : w46.cell? ⟨gb196, 3, none⟩ = some (.int .i64 t190) := (blk_cell BK196.out 3).trans rfl
                                  have hcz75_4 : w46.cell? ⟨gb196, 4, none⟩ = some (.int .i64 t191) := (blk_cell BK196.out 4).trans rfl
                                  have hcz75_5 : w46.cell? ⟨gb196, 5, none⟩ = some (.int .i64 t192) := (blk_cell BK196.out 5).trans rfl
                                  have hcz75_6 : w46.cell? ⟨gb196, 6, none⟩ = some (.int .i64 t193) := (blk_cell BK196.out 6).trans rfl
                                  have hcz75_7 : w46.cell? ⟨gb196, 7, none⟩ = some (.int .i64 t194) := (blk_cell BK196.out 7).trans rfl
                                  have hfz75_0 := blk_frozen BK196.out 0
                                  have hfz75_1 := blk_frozen BK196.out 1
                                  have hfz75_2 := blk_frozen BK196.out 2
                                  have hfz75_3 := blk_frozen BK196.out 3
                                  have hfz75_4 := blk_frozen BK196.out 4
                                  have hfz75_5 := blk_frozen BK196.out 5
                                  have hfz75_6 := blk_frozen BK196.out 6
                                  have hfz75_7 := blk_frozen BK196.out 7
                                  have hnb76 := NB203_210.out
                                  have hnc76 := NB210_203.out
                                  have hcz77_0 : w46.cell? ⟨gb203, 0, none⟩ = some (.int .i64 t197) := (blk_cell BK203.out 0).trans rfl
                                  have hcz77_1 : w46.cell? ⟨gb203, 1, none⟩ = some (.int .i64 t198) := (blk_cell BK203.out 1).trans rfl
                                  have hcz77_2 : w46.cell? ⟨gb203, 2, none⟩ = some (.int .u64 t199) := (blk_cell BK203.out 2).trans rfl
                                  have hcz77_3 : w46.cell? ⟨gb203, 3, none⟩ = some (.int .i64 t200) := (blk_cell BK203.out 3).trans rfl
                                  have hcz77_4 : w46.cell? ⟨gb203, 4, none⟩ = some (.int .i64 t201) := (blk_cell BK203.out 4).trans rfl
                                  have hfz77_0 := blk_frozen BK203.out 0
                                  have hfz77_1 := blk_frozen BK203.out 1
                                  have hfz77_2 := blk_frozen BK203.out 2
                                  have hfz77_3 := blk_frozen BK203.out 3
                                  have hfz77_4 := blk_frozen BK203.out 4
                                  have hcz78_0 : w46.cell? ⟨gb210, 0, none⟩ = some (.int .i64 t204) := (blk_cell BK210.out 0).trans rfl
                                  have hcz78_1 : w46.cell? ⟨gb210, 1, none⟩ = some (.int .i64 t205) := (blk_cell BK210.out 1).trans rfl
                                  have hcz78_2 : w46.cell? ⟨gb210, 2, none⟩ = some (.int .u64 t206) := (blk_cell BK210.out 2).trans rfl
                                  have hcz78_3 : w46.cell? ⟨gb210, 3, none⟩ = some (.int .i64 t207) := (blk_cell BK210.out 3).trans rfl
                                  have hcz78_4 : w46.cell? ⟨gb210, 4, none⟩ = some (.int .i64 t208) := (blk_cell BK210.out 4).trans rfl
                                  have hfz78_0 := blk_frozen BK210.out 0
                                  have hfz78_1 := blk_frozen BK210.out 1
                                  have hfz78_2 := blk_frozen BK210.out 2
                                  have hfz78_3 := blk_frozen BK210.out 3
                                  have hfz78_4 := blk_frozen BK210.out 4
                                  obtain ⟨Ao79, co79, eo79⟩ := Kd.R_slice HO214.out
                                  subst eo79
                                  obtain ⟨Ao80, co80, eo80⟩ := Kd.R_slice HO218.out
                                  subst eo80
                                  go_wp2
                                  repeat (go_quiet (fail); try go_wp2)
                                  go_meet
                                  case rel => exact ⟨_, (((t211.length : Int) != (t215.length : Int))), (by first | rfl | (simp; done) | (simp [*]; done)), H', ⟨by have := HJ4.out; have := HJ6.out; have := HK3.out; first | omega | exact Nat.le_refl _⟩, ⟨by (with_reducible repeat (first | apply Kd.R_alloc | apply Kd.R_drewN | apply Kd.R_drew)); exact Kd.R_mono HO214.out (fun _ hk => hk.2)⟩, ⟨by (with_reducible repeat (first | apply Kd.R_alloc | apply Kd.R_drewN | apply Kd.R_drew)); exact Kd.R_mono HO218.out (fun _ hk => hk.2)⟩, ⟨by (with_reducible repeat (first | refine blk_drewN ?_ _ | refine blk_drew ?_ | refine blk_alloc ?_ _)); exact BK186.out⟩, ⟨by (with_reducible repeat (first | refine blk_drewN ?_ _ | refine blk_drew ?_ | refine blk_alloc ?_ _)); exact BK196.out⟩, ⟨by (with_reducible repeat (first | refine blk_drewN ?_ _ | refine blk_drew ?_ | refine blk_alloc ?_ _)); exact BK203.out⟩, ⟨by (with_reducible repeat (first | refine blk_drewN ?_ _ | refine blk_drew ?_ | refine blk_alloc ?_ _)); exact BK210.out⟩, ⟨by repeat (first | (with_reducible first | exact HB.out | apply below_alloc | apply pw_below_drewN | apply below_drew1 | refine below_set ?_ GE186.out | refine below_set ?_ GE196.out | refine below_set ?_ GE203.out | refine below_set ?_ GE210.out) | exact HB.out)⟩⟩
                                · rw [if_neg c68] at H
                                  have c68b0 : (t212 == t216) = false := beq_eq_false_iff_ne.mpr c68
                                  have c68b1 : (t212 != t216) = true := bne_iff_ne.mpr c68
                                  have H' := Aside0.mk H
                                  clear H
                                  have hnb81 := NB186_196.out
                                  have hnc81 := NB196_186.out
                                  have hnb82 := NB186_203.out
                                  have hnc82 := NB203_186.out
                                  have hnb83 := NB186_210.out
                                  have hnc83 := NB210_186.out
                                  have hcz84_0 : w46.cell? ⟨gb186, 0, none⟩ = some (.int .i64 t177) := (blk_cell BK186.out 0).trans rfl
                                  have hcz84_1 : w46.cell? ⟨gb186, 1, none⟩ = some (.int .i64 t178) := (blk_cell BK186.out 1).trans rfl
                                  have hcz84_2 : w46.cell? ⟨gb186, 2, none⟩ = some (.int .u64 t179) := (blk_cell BK186.out 2).trans rfl
                                  have hcz84_3 : w46.cell? ⟨gb186, 3, none⟩ = some (.int .i64 t180) := (blk_cell BK186.out 3).trans rfl
                                  have hcz84_4 : w46.cell? ⟨gb186, 4, none⟩ = some (.int .i64 t181) := (blk_cell BK186.out 4).trans rfl
                                  have hcz84_5 : w46.cell? ⟨gb186, 5, none⟩ = some (.int .i64 t182) := (blk_cell BK186.out 5).trans rfl
                                  have hcz84_6 : w46.cell? ⟨gb186, 6, none⟩ = some (.int .i64 t183) := (blk_cell BK186.out 6).trans rfl
                                  have hcz84_7 : w46.cell? ⟨gb186, 7, none⟩ = some (.int .i64 t184) := (blk_cell BK186.out 7).trans rfl
                                  have hfz84_0 := blk_frozen BK186.out 0
                                  have hfz84_1 := blk_frozen BK186.out 1
                                  have hfz84_2 := blk_frozen BK186.out 2
                                  have hfz84_3 := blk_frozen BK186.out 3
                                  have hfz84_4 := blk_frozen BK186.out 4
                                  have hfz84_5 := blk_frozen BK186.out 5
                                  have hfz84_6 := blk_frozen BK186.out 6
                                  have hfz84_7 := blk_frozen BK186.out 7
                                  have hnb85 := NB196_203.out
                                  have hnc85 := NB203_196.out
                                  have hnb86 := NB196_210.out
                                  have hnc86 := NB210_196.out
                                  have hcz87_0 : w46.cell? ⟨gb196, 0, none⟩ = some (.int .i64 t187) := (blk_cell BK196.out 0).trans rfl
                                  have hcz87_1 : w46.cell? ⟨gb196, 1, none⟩ = some (.int .i64 t188) := (blk_cell BK196.out 1).trans rfl
                                  have hcz87_2 : w46.cell? ⟨gb196, 2, none⟩ = some (.int .u64 t189) := (blk_cell BK196.out 2).trans rfl
                                  have hcz87_3 : w46.cell? ⟨gb196, 3, none⟩ = some (.int .i64 t190) := (blk_cell BK196.out 3).trans rfl
                                  have hcz87_4 : w46.cell? ⟨gb196, 4, none⟩ = some (.int .i64 t191) := (blk_cell BK196.out 4).trans rfl
                                  have hcz87_5 : w46.cell? ⟨gb196, 5, none⟩ = some (.int .i64 t192) := (blk_cell BK196.out 5).trans rfl
                                  have hcz87_6 : w46.cell? ⟨gb196, 6, none⟩ = some (.int .i64 t193) := (blk_cell BK196.out 6).trans rfl
                                  have hcz87_7 : w46.cell? ⟨gb196, 7, none⟩ = some (.int .i64 t194) := (blk_cell BK196.out 7).trans rfl
                                  have hfz87_0 := blk_frozen BK196.out 0
                                  have hfz87_1 := blk_frozen BK196.out 1
                                  have hfz87_2 := blk_frozen BK196.out 2
                                  have hfz87_3 := blk_frozen BK196.out 3
                                  have hfz87_4 := blk_frozen BK196.out 4
                                  have hfz87_5 := blk_frozen BK196.out 5
                                  have hfz87_6 := blk_frozen BK196.out 6
                                  have hfz87_7 := blk_frozen BK196.out 7
                                  have hnb88 := NB203_210.out
                                  have hnc88 := NB210_203.out
                                  have hcz89_0 : w46.cell? ⟨gb203, 0, none⟩ = some (.int .i64 t197) := (blk_cell BK203.out 0).trans rfl
                                  have hcz89_1 : w46.cell? ⟨gb203, 1, none⟩ = some (.int .i64 t198) := (blk_cell BK203.out 1).trans rfl
                                  have hcz89_2 : w46.cell? ⟨gb203, 2, none⟩ = some (.int .u64 t199) := (blk_cell BK203.out 2).trans rfl
                                  have hcz89_3 : w46.cell? ⟨gb203, 3, none⟩ = some (.int .i64 t200) := (blk_cell BK203.out 3).trans rfl
                                  have hcz89_4 : w46.cell? ⟨gb203, 4, none⟩ = some (.int .i64 t201) := (blk_cell BK203.out 4).trans rfl
                                  have hfz89_0 := blk_frozen BK203.out 0
                                  have hfz89_1 := blk_frozen BK203.out 1
                                  have hfz89_2 := blk_frozen BK203.out 2
                                  have hfz89_3 := blk_frozen BK203.out 3
                                  have hfz89_4 := blk_frozen BK203.out 4
                                  have hcz90_0 : w46.cell? ⟨gb210, 0, none⟩ = some (.int .i64 t204) := (blk_cell BK210.out 0).trans rfl
                                  have hcz90_1 : w46.cell? ⟨gb210, 1, none⟩ = some (.int .i64 t205) := (blk_cell BK210.out 1).trans rfl
                                  have hcz90_2 : w46.cell? ⟨gb210, 2, none⟩ = some (.int .u64 t206) := (blk_cell BK210.out 2).trans rfl
                                  have hcz90_3 : w46.cell? ⟨gb210, 3, none⟩ = some (.int .i64 t207) := (blk_cell BK210.out 3).trans rfl
                                  have hcz90_4 : w46.cell? ⟨gb210, 4, none⟩ = some (.int .i64 t208) := (blk_cell BK210.out 4).trans rfl
                                  have hfz90_0 := blk_frozen BK210.out 0
                                  have hfz90_1 := blk_frozen BK210.out 1
                                  have hfz90_2 := blk_frozen BK210.out 2
                                  have hfz90_3 := blk_frozen BK210.out 3
                                  have hfz90_4 := blk_frozen BK210.out 4
                                  go_wp2
                                  repeat (go_quiet (fail); try go_wp2)
                                  go_meet
                                  case rel => exact ⟨_, (true), (by first | rfl | (simp; done) | (simp [*]; done)), H', ⟨by have := HJ4.out; have := HJ6.out; have := HK3.out; first | omega | exact Nat.le_refl _⟩, ⟨by (with_reducible repeat (first | apply Kd.R_alloc | apply Kd.R_drewN | apply Kd.R_drew)); exact Kd.R_mono HO214.out (fun _ hk => hk.2)⟩, ⟨by (with_reducible repeat (first | apply Kd.R_alloc | apply Kd.R_drewN | apply Kd.R_drew)); exact Kd.R_mono HO218.out (fun _ hk => hk.2)⟩, ⟨by (with_reducible repeat (first | refine blk_drewN ?_ _ | refine blk_drew ?_ | refine blk_alloc ?_ _)); exact BK186.out⟩, ⟨by (with_reducible repeat (first | refine blk_drewN ?_ _ | refine blk_drew ?_ | refine blk_alloc ?_ _)); exact BK196.out⟩, ⟨by (with_reducible repeat (first | refine blk_drewN ?_ _ | refine blk_drew ?_ | refine blk_alloc ?_ _)); exact BK203.out⟩, ⟨by (with_reducible repeat (first | refine blk_drewN ?_ _ | refine blk_drew ?_ | refine blk_alloc ?_ _)); exact BK210.out⟩, ⟨by repeat (first | (with_reducible first | exact HB.out | apply below_alloc | apply pw_below_drewN | apply below_drew1 | refine below_set ?_ GE186.out | refine below_set ?_ GE196.out | refine below_set ?_ GE203.out | refine below_set ?_ GE210.out) | exact HB.out)⟩⟩
                              · rw [if_neg c67] at H
                                have c67b0 : (t202 == t209) = false := beq_eq_false_iff_ne.mpr c67
                                have c67b1 : (t202 != t209) = true := bne_iff_ne.mpr c67
                                have H' := Aside0.mk H
                                clear H
                                have hnb91 := NB186_196.out
                                have hnc91 := NB196_186.out
                                have hnb92 := NB186_203.out
                                have hnc92 := NB203_186.out
                                have hnb93 := NB186_210.out
                                have hnc93 := NB210_186.out
                                have hcz94_0 : w46.cell? ⟨gb186, 0, none⟩ = some (.int .i64 t177) := (blk_cell BK186.out 0).trans rfl
                                have hcz94_1 : w46.cell? ⟨gb186, 1, none⟩ = some (.int .i64 t178) := (blk_cell BK186.out 1).trans rfl
                                have hcz94_2 : w46.cell? ⟨gb186, 2, none⟩ = some (.int .u64 t179) := (blk_cell BK186.out 2).trans rfl
                                have hcz94_3 : w46.cell? ⟨gb186, 3, none⟩ = some (.int .i64 t180) := (blk_cell BK186.out 3).trans rfl
                                have hcz94_4 : w46.cell? ⟨gb186, 4, none⟩ = some (.int .i64 t181) := (blk_cell BK186.out 4).trans rfl
                                have hcz94_5 : w46.cell? ⟨gb186, 5, none⟩ = some (.int .i64 t182) := (blk_cell BK186.out 5).trans rfl
                                have hcz94_6 : w46.cell? ⟨gb186, 6, none⟩ = some (.int .i64 t183) := (blk_cell BK186.out 6).trans rfl
                                have hcz94_7 : w46.cell? ⟨gb186, 7, none⟩ = some (.int .i64 t184) := (blk_cell BK186.out 7).trans rfl
                                have hfz94_0 := blk_frozen BK186.out 0
                                have hfz94_1 := blk_frozen BK186.out 1
                                have hfz94_2 := blk_frozen BK186.out 2
                                have hfz94_3 := blk_frozen BK186.out 3
                                have hfz94_4 := blk_frozen BK186.out 4
                                have hfz94_5 := blk_frozen BK186.out 5
                                have hfz94_6 := blk_frozen BK186.out 6
                                have hfz94_7 := blk_frozen BK186.out 7
                                have hnb95 := NB196_203.out
                                have hnc95 := NB203_196.out
                                have hnb96 := NB196_210.out
                                have hnc96 := NB210_196.out
                                have hcz97_0 : w46.cell? ⟨gb196, 0, none⟩ = some (.int .i64 t187) := (blk_cell BK196.out 0).trans rfl
                                have hcz97_1 : w46.cell? ⟨gb196, 1, none⟩ = some (.int .i64 t188) := (blk_cell BK196.out 1).trans rfl
                                have hcz97_2 : w46.cell? ⟨gb196, 2, none⟩ = some (.int .u64 t189) := (blk_cell BK196.out 2).trans rfl
                                have hcz97_3 : w46.cell? ⟨gb196, 3, none⟩ = some (.int .i64 t190) := (blk_cell BK196.out 3).trans rfl
                                have hcz97_4 : w46.cell? ⟨gb196, 4, none⟩ = some (.int .i64 t191) := (blk_cell BK196.out 4).trans rfl
                                have hcz97_5 : w46.cell? ⟨gb196, 5, none⟩ = some (.int .i64 t192) := (blk_cell BK196.out 5).trans rfl
                                have hcz97_6 : w46.cell? ⟨gb196, 6, none⟩ = some (.int .i64 t193) := (blk_cell BK196.out 6).trans rfl
                                have hcz97_7 : w46.cell? ⟨gb196, 7, none⟩ = some (.int .i64 t194) := (blk_cell BK196.out 7).trans rfl
                                have hfz97_0 := blk_frozen BK196.out 0
                                have hfz97_1 := blk_frozen BK196.out 1
                                have hfz97_2 := blk_frozen BK196.out 2
                                have hfz97_3 := blk_frozen BK196.out 3
                                have hfz97_4 := blk_frozen BK196.out 4
                                have hfz97_5 := blk_frozen BK196.out 5
                                have hfz97_6 := blk_frozen BK196.out 6
                                have hfz97_7 := blk_frozen BK196.out 7
                                have hnb98 := NB203_210.out
                                have hnc98 := NB210_203.out
                                have hcz99_0 : w46.cell? ⟨gb203, 0, none⟩ = some (.int .i64 t197) := (blk_cell BK203.out 0).trans rfl
                                have hcz99_1 : w46.cell? ⟨gb203, 1, none⟩ = some (.int .i64 t198) := (blk_cell BK203.out 1).trans rfl
                                have hcz99_2 : w46.cell? ⟨gb203, 2, none⟩ = some (.int .u64 t199) := (blk_cell BK203.out 2).trans rfl
                                have hcz99_3 : w46.cell? ⟨gb203, 3, none⟩ = some (.int .i64 t200) := (blk_cell BK203.out 3).trans rfl
                                have hcz99_4 : w46.cell? ⟨gb203, 4, none⟩ = some (.int .i64 t201) := (blk_cell BK203.out 4).trans rfl
                                have hfz99_0 := blk_frozen BK203.out 0
                                have hfz99_1 := blk_frozen BK203.out 1
                                have hfz99_2 := blk_frozen BK203.out 2
                                have hfz99_3 := blk_frozen BK203.out 3
                                have hfz99_4 := blk_frozen BK203.out 4
                                have hcz100_0 : w46.cell? ⟨gb210, 0, none⟩ = some (.int .i64 t204) := (blk_cell BK210.out 0).trans rfl
                                have hcz100_1 : w46.cell? ⟨gb210, 1, none⟩ = some (.int .i64 t205) := (blk_cell BK210.out 1).trans rfl
                                have hcz100_2 : w46.cell? ⟨gb210, 2, none⟩ = some (.int .u64 t206) := (blk_cell BK210.out 2).trans rfl
                                have hcz100_3 : w46.cell? ⟨gb210, 3, none⟩ = some (.int .i64 t207) := (blk_cell BK210.out 3).trans rfl
                                have hcz100_4 : w46.cell? ⟨gb210, 4, none⟩ = some (.int .i64 t208) := (blk_cell BK210.out 4).trans rfl
                                have hfz100_0 := blk_frozen BK210.out 0
                                have hfz100_1 := blk_frozen BK210.out 1
                                have hfz100_2 := blk_frozen BK210.out 2
                                have hfz100_3 := blk_frozen BK210.out 3
                                have hfz100_4 := blk_frozen BK210.out 4
                                go_wp2
                                repeat (go_quiet (fail); try go_wp2)
                                go_meet
                                case rel => exact ⟨_, (true), (by first | rfl | (simp; done) | (simp [*]; done)), H', ⟨by have := HJ4.out; have := HJ6.out; have := HK3.out; first | omega | exact Nat.le_refl _⟩, ⟨by (with_reducible repeat (first | apply Kd.R_alloc | apply Kd.R_drewN | apply Kd.R_drew)); exact Kd.R_mono HO214.out (fun _ hk => hk.2)⟩, ⟨by (with_reducible repeat (first | apply Kd.R_alloc | apply Kd.R_drewN | apply Kd.R_drew)); exact Kd.R_mono HO218.out (fun _ hk => hk.2)⟩, ⟨by (with_reducible repeat (first | refine blk_drewN ?_ _ | refine blk_drew ?_ | refine blk_alloc ?_ _)); exact BK186.out⟩, ⟨by (with_reducible repeat (first | refine blk_drewN ?_ _ | refine blk_drew ?_ | refine blk_alloc ?_ _)); exact BK196.out⟩, ⟨by (with_reducible repeat (first | refine blk_drewN ?_ _ | refine blk_drew ?_ | refine blk_alloc ?_ _)); exact BK203.out⟩, ⟨by (with_reducible repeat (first | refine blk_drewN ?_ _ | refine blk_drew ?_ | refine blk_alloc ?_ _)); exact BK210.out⟩, ⟨by repeat (first | (with_reducible first | exact HB.out | apply below_alloc | apply pw_below_drewN | apply below_drew1 | refine below_set ?_ GE186.out | refine below_set ?_ GE196.out | refine below_set ?_ GE203.out | refine below_set ?_ GE210.out) | exact HB.out)⟩⟩
                          · rw [if_neg c55] at H
                            have c55b0 : (t185 == t195) = false := beq_eq_false_iff_ne.mpr c55
                            have c55b1 : (t185 != t195) = true := bne_iff_ne.mpr c55
                            have H' := Aside0.mk H
                            clear H
                            have hnb101 := NB186_196.out
                            have hnc101 := NB196_186.out
                            have hnb102 := NB186_203.out
                            have hnc102 := NB203_186.out
                            have hnb103 := NB186_210.out
                            have hnc103 := NB210_186.out
                            have hcz104_0 : w46.cell? ⟨gb186, 0, none⟩ = some (.int .i64 t177) := (blk_cell BK186.out 0).trans rfl
                            have hcz104_1 : w46.cell? ⟨gb186, 1, none⟩ = some (.int .i64 t178) := (blk_cell BK186.out 1).trans rfl
                            have hcz104_2 : w46.cell? ⟨gb186, 2, none⟩ = some (.int .u64 t179) := (blk_cell BK186.out 2).trans rfl
                            have hcz104_3 : w46.cell? ⟨gb186, 3, none⟩ = some (.int .i64 t180) := (blk_cell BK186.out 3).trans rfl
                            have hcz104_4 : w46.cell? ⟨gb186, 4, none⟩ = some (.int .i64 t181) := (blk_cell BK186.out 4).trans rfl
                            have hcz104_5 : w46.cell? ⟨gb186, 5, none⟩ = some (.int .i64 t182) := (blk_cell BK186.out 5).trans rfl
                            have hcz104_6 : w46.cell? ⟨gb186, 6, none⟩ = some (.int .i64 t183) := (blk_cell BK186.out 6).trans rfl
                            have hcz104_7 : w46.cell? ⟨gb186, 7, none⟩ = some (.int .i64 t184) := (blk_cell BK186.out 7).trans rfl
                            have hfz104_0 := blk_frozen BK186.out 0
                            have hfz104_1 := blk_frozen BK186.out 1
                            have hfz104_2 := blk_frozen BK186.out 2
                            have hfz104_3 := blk_frozen BK186.out 3
                            have hfz104_4 := blk_frozen BK186.out 4
                            have hfz104_5 := blk_frozen BK186.out 5
                            have hfz104_6 := blk_frozen BK186.out 6
                            have hfz104_7 := blk_frozen BK186.out 7
                            have hnb105 := NB196_203.out
                            have hnc105 := NB203_196.out
                            have hnb106 := NB196_210.out
                            have hnc106 := NB210_196.out
                            have hcz107_0 : w46.cell? ⟨gb196, 0, none⟩ = some (.int .i64 t187) := (blk_cell BK196.out 0).trans rfl
                            have hcz107_1 : w46.cell? ⟨gb196, 1, none⟩ = some (.int .i64 t188) := (blk_cell BK196.out 1).trans rfl
                            have hcz107_2 : w46.cell? ⟨gb196, 2, none⟩ = some (.int .u64 t189) := (blk_cell BK196.out 2).trans rfl
                            have hcz107_3 : w46.cell? ⟨gb196, 3, none⟩ = some (.int .i64 t190) := (blk_cell BK196.out 3).trans rfl
                            have hcz107_4 : w46.cell? ⟨gb196, 4, none⟩ = some (.int .i64 t191) := (blk_cell BK196.out 4).trans rfl
                            have hcz107_5 : w46.cell? ⟨gb196, 5, none⟩ = some (.int .i64 t192) := (blk_cell BK196.out 5).trans rfl
                            have hcz107_6 : w46.cell? ⟨gb196, 6, none⟩ = some (.int .i64 t193) := (blk_cell BK196.out 6).trans rfl
                            have hcz107_7 : w46.cell? ⟨gb196, 7, none⟩ = some (.int .i64 t194) := (blk_cell BK196.out 7).trans rfl
                            have hfz107_0 := blk_frozen BK196.out 0
                            have hfz107_1 := blk_frozen BK196.out 1
                            have hfz107_2 := blk_frozen BK196.out 2
                            have hfz107_3 := blk_frozen BK196.out 3
                            have hfz107_4 := blk_frozen BK196.out 4
                            have hfz107_5 := blk_frozen BK196.out 5
                            have hfz107_6 := blk_frozen BK196.out 6
                            have hfz107_7 := blk_frozen BK196.out 7
                            go_wp2
                            repeat (go_quiet (fail); try go_wp2)
                            go_meet
                            case rel => exact ⟨_, (true), (by first | rfl | (simp; done) | (simp [*]; done)), H', ⟨by have := HJ4.out; have := HJ6.out; have := HK3.out; first | omega | exact Nat.le_refl _⟩, ⟨by (with_reducible repeat (first | apply Kd.R_alloc | apply Kd.R_drewN | apply Kd.R_drew)); exact Kd.R_mono HO214.out (fun _ hk => hk.2)⟩, ⟨by (with_reducible repeat (first | apply Kd.R_alloc | apply Kd.R_drewN | apply Kd.R_drew)); exact Kd.R_mono HO218.out (fun _ hk => hk.2)⟩, ⟨by (with_reducible repeat (first | refine blk_drewN ?_ _ | refine blk_drew ?_ | refine blk_alloc ?_ _)); exact BK186.out⟩, ⟨by (with_reducible repeat (first | refine blk_drewN ?_ _ | refine blk_drew ?_ | refine blk_alloc ?_ _)); exact BK196.out⟩, ⟨by (with_reducible repeat (first | refine blk_drewN ?_ _ | refine blk_drew ?_ | refine blk_alloc ?_ _)); exact BK203.out⟩, ⟨by (with_reducible repeat (first | refine blk_drewN ?_ _ | refine blk_drew ?_ | refine blk_alloc ?_ _)); exact BK210.out⟩, ⟨by repeat (first | (with_reducible first | exact HB.out | apply below_alloc | apply pw_below_drewN | apply below_drew1 | refine below_set ?_ GE186.out | refine below_set ?_ GE196.out | refine below_set ?_ GE203.out | refine below_set ?_ GE210.out) | exact HB.out)⟩⟩
                      case rest =>
                        clear HC23
                        try clear c1
                        try clear p1
                        try clear q1
                        try clear hx1
                        try clear p2
                        try clear c3
                        try clear c4
                        try clear c5
                        try clear c6
                        try clear c6b0
                        try clear p6
                        try clear c7
                        try clear c8
                        try clear c9
                        try clear c9b0
                        try clear c10
                        try clear c10b0
                        try clear c11
                        try clear c11b0
                        try clear c12
                        try clear c14
                        try clear c14b0
                        try clear c14b1
                        try clear c15
                        try clear c15b0
                        try clear c15b1
                        try clear c16
                        try clear p16
                        try clear q16
                        try clear hx16
                        try clear c32
                        try clear c36
                        try clear c37
                        try clear c41
                        try clear c42
                        try clear c43
                        try clear c47
                        try clear c47b0
                        try clear c48
                        try clear c49
                        try clear c50
                        try clear c52
                        try clear c53
                        try clear c55
                        try clear c55b0
                        try clear c55b1
                        try clear c56
                        try clear c56b0
                        try clear c57
                        try clear c58
                        try clear c59
                        try clear c61
                        try clear c62
                        try clear c64
                        try clear p64
                        try clear c67
                        try clear c67b0
                        try clear c67b1
                        try clear c68
                        try clear c68b0
                        try clear c68b1
                        try clear c69
                        try clear c70
                        try clear c71
                        try clear c73
                        try clear c74
                        try clear c76
                        try clear c81
                        try clear c82
                        try clear c83
                        try clear c85
                        try clear c86
                        try clear c88
                        try clear c91
                        try clear c92
                        try clear c93
                        try clear c95
                        try clear c96
                        try clear c98
                        try clear c101
                        try clear c102
                        try clear c103
                        try clear c105
                        try clear c106
                        try clear hcz100_0
                        try clear hcz100_1
                        try clear hcz100_2
                        try clear hcz100_3
                        try clear hcz100_4
                        try clear hcz104_0
                        try clear hcz104_1
                        try clear hcz104_2
                        try clear hcz104_3
                        try clear hcz104_4
                        try clear hcz104_5
                        try clear hcz104_6
                        try clear hcz104_7
                        try clear hcz107_0
                        try clear hcz107_1
                        try clear hcz107_2
                        try clear hcz107_3
                        try clear hcz107_4
                        try clear hcz107_5
                        try clear hcz107_6
                        try clear hcz107_7
                        try clear hcz28_0
                        try clear hcz28_1
                        try clear hcz28_2
                        try clear hcz28_3
                        try clear hcz28_4
                        try clear hcz28_5
                        try clear hcz28_6
                        try clear hcz28_7
                        try clear hcz33_0
                        try clear hcz33_1
                        try clear hcz33_2
                        try clear hcz33_3
                        try clear hcz33_4
                        try clear hcz33_5
                        try clear hcz33_6
                        try clear hcz33_7
                        try clear hcz38_0
                        try clear hcz38_1
                        try clear hcz38_2
                        try clear hcz38_3
                        try clear hcz38_4
                        try clear hcz44_0
                        try clear hcz44_1
                        try clear hcz44_2
                        try clear hcz44_3
                        try clear hcz44_4
                        try clear hcz51_0
                        try clear hcz51_1
                        try clear hcz51_2
                        try clear hcz51_3
                        try clear hcz51_4
                        try clear hcz51_5
                        try clear hcz51_6
                        try clear hcz51_7
                        try clear hcz54_0
                        try clear hcz54_1
                        try clear hcz54_2
                        try clear hcz54_3
                        try clear hcz54_4
                        try clear hcz54_5
                        try clear hcz54_6
                        try clear hcz54_7
                        try clear hcz60_0
                        try clear hcz60_1
                        try clear hcz60_2
                        try clear hcz60_3
                        try clear hcz60_4
                        try clear hcz60_5
                        try clear hcz60_6
                        try clear hcz60_7
                        try clear hcz63_0
                        try clear hcz63_1
                        try clear hcz63_2
                        try clear hcz63_3
                        try clear hcz63_4
                        try clear hcz63_5
                        try clear hcz63_6
                        try clear hcz63_7
                        try clear hcz65_0
                        try clear hcz65_1
                        try clear hcz65_2
                        try clear hcz65_3
                        try clear hcz65_4
                        try clear hcz66_0
                        try clear hcz66_1
                        try clear hcz66_2
                        try clear hcz66_3
                        try clear hcz66_4
                        try clear hcz72_0
                        try clear hcz72_1
                        try clear hcz72_2
                        try clear hcz72_3
                        try clear hcz72_4
                        try clear hcz72_5
                        try clear hcz72_6
                        try clear hcz72_7
                        try clear hcz75_0
                        try clear hcz75_1
                        try clear hcz75_2
                        try clear hcz75_3
                        try clear hcz75_4
                        try clear hcz75_5
                        try clear hcz75_6
                        try clear hcz75_7
                        try clear hcz77_0
                        try clear hcz77_1
                        try clear hcz77_2
                        try clear hcz77_3
                        try clear hcz77_4
                        try clear hcz78_0
                        try clear hcz78_1
                        try clear hcz78_2
                        try clear hcz78_3
                        try clear hcz78_4
                        try clear hcz84_0
                        try clear hcz84_1
                        try clear hcz84_2
                        try clear hcz84_3
                        try clear hcz84_4
                        try clear hcz84_5
                        try clear hcz84_6
                        try clear hcz84_7
                        try clear hcz87_0
                        try clear hcz87_1
                        try clear hcz87_2
                        try clear hcz87_3
                        try clear hcz87_4
                        try clear hcz87_5
                        try clear hcz87_6
                        try clear hcz87_7
                        try clear hcz89_0
                        try clear hcz89_1
                        try clear hcz89_2
                        try clear hcz89_3
                        try clear hcz89_4
                        try clear hcz90_0
                        try clear hcz90_1
                        try clear hcz90_2
                        try clear hcz90_3
                        try clear hcz90_4
                        try clear hcz94_0
                        try clear hcz94_1
                        try clear hcz94_2
                        try clear hcz94_3
                        try clear hcz94_4
                        try clear hcz94_5
                        try clear hcz94_6
                        try clear hcz94_7
                        try clear hcz97_0
                        try clear hcz97_1
                        try clear hcz97_2
                        try clear hcz97_3
                        try clear hcz97_4
                        try clear hcz97_5
                        try clear hcz97_6
                        try clear hcz97_7
                        try clear hcz99_0
                        try clear hcz99_1
                        try clear hcz99_2
                        try clear hcz99_3
                        try clear hcz99_4
                        try clear hfz100_0
                        try clear hfz100_1
                        try clear hfz100_2
                        try clear hfz100_3
                        try clear hfz100_4
                        try clear hfz104_0
                        try clear hfz104_1
                        try clear hfz104_2
                        try clear hfz104_3
                        try clear hfz104_4
                        try clear hfz104_5
                        try clear hfz104_6
                        try clear hfz104_7
                        try clear hfz107_0
                        try clear hfz107_1
                        try clear hfz107_2
                        try clear hfz107_3
                        try clear hfz107_4
                        try clear hfz107_5
                        try clear hfz107_6
                        try clear hfz107_7
                        try clear hfz28_0
                        try clear hfz28_1
                        try clear hfz28_2
                        try clear hfz28_3
                        try clear hfz28_4
                        try clear hfz28_5
                        try clear hfz28_6
                        try clear hfz28_7
                        try clear hfz33_0
                        try clear hfz33_1
                        try clear hfz33_2
                        try clear hfz33_3
                        try clear hfz33_4
                        try clear hfz33_5
                        try clear hfz33_6
                        try clear hfz33_7
                        try clear hfz38_0
                        try clear hfz38_1
                        try clear hfz38_2
                        try clear hfz38_3
                        try clear hfz38_4
                        try clear hfz44_0
                        try clear hfz44_1
                        try clear hfz44_2
                        try clear hfz44_3
                        try clear hfz44_4
                        try clear hfz51_0
                        try clear hfz51_1
                        try clear hfz51_2
                        try clear hfz51_3
                        try clear hfz51_4
                        try clear hfz51_5
                        try clear hfz51_6
                        try clear hfz51_7
                        try clear hfz54_0
                        try clear hfz54_1
                        try clear hfz54_2
                        try clear hfz54_3
                        try clear hfz54_4
                        try clear hfz54_5
                        try clear hfz54_6
                        try clear hfz54_7
                        try clear hfz60_0
                        try clear hfz60_1
                        try clear hfz60_2
                        try clear hfz60_3
                        try clear hfz60_4
                        try clear hfz60_5
                        try clear hfz60_6
                        try clear hfz60_7
                        try clear hfz63_0
                        try clear hfz63_1
                        try clear hfz63_2
                        try clear hfz63_3
                        try clear hfz63_4
                        try clear hfz63_5
                        try clear hfz63_6
                        try clear hfz63_7
                        try clear hfz65_0
                        try clear hfz65_1
                        try clear hfz65_2
                        try clear hfz65_3
                        try clear hfz65_4
                        try clear hfz66_0
                        try clear hfz66_1
                        try clear hfz66_2
                        try clear hfz66_3
                        try clear hfz66_4
                        try clear hfz72_0
                        try clear hfz72_1
                        try clear hfz72_2
                        try clear hfz72_3
                        try clear hfz72_4
                        try clear hfz72_5
                        try clear hfz72_6
                        try clear hfz72_7
                        try clear hfz75_0
                        try clear hfz75_1
                        try clear hfz75_2
                        try clear hfz75_3
                        try clear hfz75_4
                        try clear hfz75_5
                        try clear hfz75_6
                        try clear hfz75_7
                        try clear hfz77_0
                        try clear hfz77_1
                        try clear hfz77_2
                        try clear hfz77_3
                        try clear hfz77_4
                        try clear hfz78_0
                        try clear hfz78_1
                        try clear hfz78_2
                        try clear hfz78_3
                        try clear hfz78_4
                        try clear hfz84_0
                        try clear hfz84_1
                        try clear hfz84_2
                        try clear hfz84_3
                        try clear hfz84_4
                        try clear hfz84_5
                        try clear hfz84_6
                        try clear hfz84_7
                        try clear hfz87_0
                        try clear hfz87_1
                        try clear hfz87_2
                        try clear hfz87_3
                        try clear hfz87_4
                        try clear hfz87_5
                        try clear hfz87_6
                        try clear hfz87_7
                        try clear hfz89_0
                        try clear hfz89_1
                        try clear hfz89_2
                        try clear hfz89_3
                        try clear hfz89_4
                        try clear hfz90_0
                        try clear hfz90_1
                        try clear hfz90_2
                        try clear hfz90_3
                        try clear hfz90_4
                        try clear hfz94_0
                        try clear hfz94_1
                        try clear hfz94_2
                        try clear hfz94_3
                        try clear hfz94_4
                        try clear hfz94_5
                        try clear hfz94_6
                        try clear hfz94_7
                        try clear hfz97_0
                        try clear hfz97_1
                        try clear hfz97_2
                        try clear hfz97_3
                        try clear hfz97_4
                        try clear hfz97_5
                        try clear hfz97_6
                        try clear hfz97_7
                        try clear hfz99_0
                        try clear hfz99_1
                        try clear hfz99_2
                        try clear hfz99_3
                        try clear hfz99_4
                        try clear hx169_0
                        try clear p169
                        try clear p2
                        try clear p6
                        try clear q169
                        obtain ⟨kq, x119_22, rfl, HA, HJ22, HO_19, HO_21, BK186, BK196, BK203, BK210, HB⟩ := hcut
                        cases kq with
                        | zero => exact absurd HA.out (by simp [tumblerlaw09_TimerShuffles.j3])
                        | succ kj22 =>
                          have H := HA.out
                          clear HA
                          simp only [tumblerlaw09_TimerShuffles.j3] at H
                          by_cases c108 : x119_22 = true
                          · subst c108
                            have H1 : (some false) = some r := by rw [if_pos rfl] at H; exact H
                            clear H
                            have H := H1
                            clear H1
                            obtain rfl := Option.some.inj H
                            go_wp2
                            repeat (go_quiet (fail); try go_wp2)
                            go_ret
                            exact ⟨by first | rfl | (simp [errW_none, errW_some] <;> rfl) | (simp [*, errW_none, errW_some] <;> rfl), by repeat (first | (with_reducible first | exact HB.out | apply below_alloc | apply pw_below_drewN | apply below_drew1 | refine below_set ?_ GE186.out | refine below_set ?_ GE196.out | refine below_set ?_ GE203.out | refine below_set ?_ GE210.out) | exact HB.out)⟩
                          · replace c108 := Bool.eq_false_iff.mpr c108
                            subst c108
                            have H1 : (tumblerlaw09_TimerShuffles.l1 kj22 l0 t211 t212 t215 0 0) = some r := by rw [if_neg (show ¬ (false = true) by decide)] at H; exact H
                            clear H
                            have H := H1
                            clear H1
                            have H' := Aside0.mk H
                            clear H
                            go_wp2
                            repeat (go_quiet (fail); try go_wp2)
                            go_loopg [23, 24] kj22 (fun kq v23 v24 w' => ∃ (x23_5 : Int) (x24_5 : Int), v23 = .int .i64 x23_5 ∧ v24 = .int .i64 x24_5 ∧ Aside0 (tumblerlaw09_TimerShuffles.l1 kq l0 t211 t212 t215 x23_5 x24_5 = some r) ∧ Aside0 (kq ≤ kj22) ∧ Aside0 (Kd.R (Kd.int .i64) 3 w' w.heap.size (fun k_ => some k_ ≠ (v217 : Value).ownBlock) v213 t211) ∧ Aside0 (Kd.R (Kd.int .i64) 3 w' w.heap.size (fun k_ => some k_ ≠ (v213 : Value).ownBlock) v217 t215) ∧ Aside0 (w'.heap[gb186]? = some (.cells #[.int .i64 t177, .int .i64 t178, .int .u64 t179, .int .i64 t180, .int .i64 t181, .int .i64 t182, .int .i64 t183, .int .i64 t184] 27 (0, 0))) ∧ Aside0 (w'.heap[gb196]? = some (.cells #[.int .i64 t187, .int .i64 t188, .int .u64 t189, .int .i64 t190, .int .i64 t191, .int .i64 t192, .int .i64 t193, .int .i64 t194] 27 (0, 0))) ∧ Aside0 (w'.heap[gb203]? = some (.cells #[.int .i64 t197, .int .i64 t198, .int .u64 t199, .int .i64 t200, .int .i64 t201] 53 (0, 0))) ∧ Aside0 (w'.heap[gb210]? = some (.cells #[.int .i64 t204, .int .i64 t205, .int .u64 t206, .int .i64 t207, .int .i64 t208] 53 (0, 0))) ∧ Aside0 (Below w.heap.size w w'))
                            case atStart => exact ⟨(0), (0), (by first | rfl | (simp; done) | (simp [*]; done)), (by first | rfl | (simp; done) | (simp [*]; done)), H', ⟨Nat.le_refl _⟩, ⟨by (with_reducible repeat (first | apply Kd.R_alloc | apply Kd.R_drewN | apply Kd.R_drew)); exact HO_19.out⟩, ⟨by (with_reducible repeat (first | apply Kd.R_alloc | apply Kd.R_drewN | apply Kd.R_drew)); exact HO_21.out⟩, ⟨by (with_reducible repeat (first | refine blk_drewN ?_ _ | refine blk_drew ?_ | refine blk_alloc ?_ _)); exact BK186.out⟩, ⟨by (with_reducible repeat (first | refine blk_drewN ?_ _ | refine blk_drew ?_ | refine blk_alloc ?_ _)); exact BK196.out⟩, ⟨by (with_reducible repeat (first | refine blk_drewN ?_ _ | refine blk_drew ?_ | refine blk_alloc ?_ _)); exact BK203.out⟩, ⟨by (with_reducible repeat (first | refine blk_drewN ?_ _ | refine blk_drew ?_ | refine blk_alloc ?_ _)); exact BK210.out⟩, ⟨by repeat (first | (with_reducible first | exact HB.out | apply below_alloc | apply pw_below_drewN | apply below_drew1 | refine below_set ?_ GE186.out | refine below_set ?_ GE196.out | refine below_set ?_ GE203.out | refine below_set ?_ GE210.out) | exact HB.out)⟩⟩
                            case round =>
                              clear H'
                              try clear c1
                              try clear p1
                              try clear q1
                              try clear hx1
                              try clear p2
                              try clear c3
                              try clear c4
                              try clear c5
                              try clear c6
                              try clear c6b0
                              try clear p6
                              try clear c7
                              try clear c8
                              try clear c9
                              try clear c9b0
                              try clear c10
                              try clear c10b0
                              try clear c11
                              try clear c11b0
                              try clear c12
                              try clear c14
                              try clear c14b0
                              try clear c14b1
                              try clear c15
                              try clear c15b0
                              try clear c15b1
                              try clear c16
                              try clear p16
                              try clear q16
                              try clear hx16
                              try clear c32
                              try clear c36
                              try clear c37
                              try clear c41
                              try clear c42
                              try clear c43
                              try clear c47
                              try clear c47b0
                              try clear c48
                              try clear c49
                              try clear c50
                              try clear c52
                              try clear c53
                              try clear c55
                              try clear c55b0
                              try clear c55b1
                              try clear c56
                              try clear c56b0
                              try clear c57
                              try clear c58
                              try clear c59
                              try clear c61
                              try clear c62
                              try clear c64
                              try clear p64
                              try clear c67
                              try clear c67b0
                              try clear c67b1
                              try clear c68
                              try clear c68b0
                              try clear c68b1
                              try clear c69
                              try clear c70
                              try clear c71
                              try clear c73
                              try clear c74
                              try clear c76
                              try clear c81
                              try clear c82
                              try clear c83
                              try clear c85
                              try clear c86
                              try clear c88
                              try clear c91
                              try clear c92
                              try clear c93
                              try clear c95
                              try clear c96
                              try clear c98
                              try clear c101
                              try clear c102
                              try clear c103
                              try clear c105
                              try clear c106
                              try clear c108
                              try clear hcz100_0
                              try clear hcz100_1
                              try clear hcz100_2
                              try clear hcz100_3
                              try clear hcz100_4
                              try clear hcz104_0
                              try clear hcz104_1
                              try clear hcz104_2
                              try clear hcz104_3
                              try clear hcz104_4
                              try clear hcz104_5
                              try clear hcz104_6
                              try clear hcz104_7
                              try clear hcz107_0
                              try clear hcz107_1
                              try clear hcz107_2
                              try clear hcz107_3
                              try clear hcz107_4
                              try clear hcz107_5
                              try clear hcz107_6
                              try clear hcz107_7
                              try clear hcz28_0
                              try clear hcz28_1
                              try clear hcz28_2
                              try clear hcz28_3
                              try clear hcz28_4
                              try clear hcz28_5
                              try clear hcz28_6
                              try clear hcz28_7
                              try clear hcz33_0
                              try clear hcz33_1
                              try clear hcz33_2
                              try clear hcz33_3
                              try clear hcz33_4
                              try clear hcz33_5
                              try clear hcz33_6
                              try clear hcz33_7
                              try clear hcz38_0
                              try clear hcz38_1
                              try clear hcz38_2
                              try clear hcz38_3
                              try clear hcz38_4
                              try clear hcz44_0
                              try clear hcz44_1
                              try clear hcz44_2
                              try clear hcz44_3
                              try clear hcz44_4
                              try clear hcz51_0
                              try clear hcz51_1
                              try clear hcz51_2
                              try clear hcz51_3
                              try clear hcz51_4
                              try clear hcz51_5
                              try clear hcz51_6
                              try clear hcz51_7
                              try clear hcz54_0
                              try clear hcz54_1
                              try clear hcz54_2
                              try clear hcz54_3
                              try clear hcz54_4
                              try clear hcz54_5
                              try clear hcz54_6
                              try clear hcz54_7
                              try clear hcz60_0
                              try clear hcz60_1
                              try clear hcz60_2
                              try clear hcz60_3
                              try clear hcz60_4
                              try clear hcz60_5
                              try clear hcz60_6
                              try clear hcz60_7
                              try clear hcz63_0
                              try clear hcz63_1
                              try clear hcz63_2
                              try clear hcz63_3
                              try clear hcz63_4
                              try clear hcz63_5
                              try clear hcz63_6
                              try clear hcz63_7
                              try clear hcz65_0
                              try clear hcz65_1
                              try clear hcz65_2
                              try clear hcz65_3
                              try clear hcz65_4
                              try clear hcz66_0
                              try clear hcz66_1
                              try clear hcz66_2
                              try clear hcz66_3
                              try clear hcz66_4
                              try clear hcz72_0
                              try clear hcz72_1
                              try clear hcz72_2
                              try clear hcz72_3
                              try clear hcz72_4
                              try clear hcz72_5
                              try clear hcz72_6
                              try clear hcz72_7
                              try clear hcz75_0
                              try clear hcz75_1
                              try clear hcz75_2
                              try clear hcz75_3
                              try clear hcz75_4
                              try clear hcz75_5
                              try clear hcz75_6
                              try clear hcz75_7
                              try clear hcz77_0
                              try clear hcz77_1
                              try clear hcz77_2
                              try clear hcz77_3
                              try clear hcz77_4
                              try clear hcz78_0
                              try clear hcz78_1
                              try clear hcz78_2
                              try clear hcz78_3
                              try clear hcz78_4
                              try clear hcz84_0
                              try clear hcz84_1
                              try clear hcz84_2
                              try clear hcz84_3
                              try clear hcz84_4
                              try clear hcz84_5
                              try clear hcz84_6
                              try clear hcz84_7
                              try clear hcz87_0
                              try clear hcz87_1
                              try clear hcz87_2
                              try clear hcz87_3
                              try clear hcz87_4
                              try clear hcz87_5
                              try clear hcz87_6
                              try clear hcz87_7
                              try clear hcz89_0
                              try clear hcz89_1
                              try clear hcz89_2
                              try clear hcz89_3
                              try clear hcz89_4
                              try clear hcz90_0
                              try clear hcz90_1
                              try clear hcz90_2
                              try clear hcz90_3
                              try clear hcz90_4
                              try clear hcz94_0
                              try clear hcz94_1
                              try clear hcz94_2
                              try clear hcz94_3
                              try clear hcz94_4
                              try clear hcz94_5
                              try clear hcz94_6
                              try clear hcz94_7
                              try clear hcz97_0
                              try clear hcz97_1
                              try clear hcz97_2
                              try clear hcz97_3
                              try clear hcz97_4
                              try clear hcz97_5
                              try clear hcz97_6
                              try clear hcz97_7
                              try clear hcz99_0
                              try clear hcz99_1
                              try clear hcz99_2
                              try clear hcz99_3
                              try clear hcz99_4
                              try clear hfz100_0
                              try clear hfz100_1
                              try clear hfz100_2
                              try clear hfz100_3
                              try clear hfz100_4
                              try clear hfz104_0
                              try clear hfz104_1
                              try clear hfz104_2
                              try clear hfz104_3
                              try clear hfz104_4
                              try clear hfz104_5
                              try clear hfz104_6
                              try clear hfz104_7
                              try clear hfz107_0
                              try clear hfz107_1
                              try clear hfz107_2
                              try clear hfz107_3
                              try clear hfz107_4
                              try clear hfz107_5
                              try clear hfz107_6
                              try clear hfz107_7
                              try clear hfz28_0
                              try clear hfz28_1
                              try clear hfz28_2
                              try clear hfz28_3
                              try clear hfz28_4
                              try clear hfz28_5
                              try clear hfz28_6
                              try clear hfz28_7
                              try clear hfz33_0
                              try clear hfz33_1
                              try clear hfz33_2
                              try clear hfz33_3
                              try clear hfz33_4
                              try clear hfz33_5
                              try clear hfz33_6
                              try clear hfz33_7
                              try clear hfz38_0
                              try clear hfz38_1
                              try clear hfz38_2
                              try clear hfz38_3
                              try clear hfz38_4
                              try clear hfz44_0
                              try clear hfz44_1
                              try clear hfz44_2
                              try clear hfz44_3
                              try clear hfz44_4
                              try clear hfz51_0
                              try clear hfz51_1
                              try clear hfz51_2
                              try clear hfz51_3
                              try clear hfz51_4
                              try clear hfz51_5
                              try clear hfz51_6
                              try clear hfz51_7
                              try clear hfz54_0
                              try clear hfz54_1
                              try clear hfz54_2
                              try clear hfz54_3
                              try clear hfz54_4
                              try clear hfz54_5
                              try clear hfz54_6
                              try clear hfz54_7
                              try clear hfz60_0
                              try clear hfz60_1
                              try clear hfz60_2
                              try clear hfz60_3
                              try clear hfz60_4
                              try clear hfz60_5
                              try clear hfz60_6
                              try clear hfz60_7
                              try clear hfz63_0
                              try clear hfz63_1
                              try clear hfz63_2
                              try clear hfz63_3
                              try clear hfz63_4
                              try clear hfz63_5
                              try clear hfz63_6
                              try clear hfz63_7
                              try clear hfz65_0
                              try clear hfz65_1
                              try clear hfz65_2
                              try clear hfz65_3
                              try clear hfz65_4
                              try clear hfz66_0
                              try clear hfz66_1
                              try clear hfz66_2
                              try clear hfz66_3
                              try clear hfz66_4
                              try clear hfz72_0
                              try clear hfz72_1
                              try clear hfz72_2
                              try clear hfz72_3
                              try clear hfz72_4
                              try clear hfz72_5
                              try clear hfz72_6
                              try clear hfz72_7
                              try clear hfz75_0
                              try clear hfz75_1
                              try clear hfz75_2
                              try clear hfz75_3
                              try clear hfz75_4
                              try clear hfz75_5
                              try clear hfz75_6
                              try clear hfz75_7
                              try clear hfz77_0
                              try clear hfz77_1
                              try clear hfz77_2
                              try clear hfz77_3
                              try clear hfz77_4
                              try clear hfz78_0
                              try clear hfz78_1
                              try clear hfz78_2
                              try clear hfz78_3
                              try clear hfz78_4
                              try clear hfz84_0
                              try clear hfz84_1
                              try clear hfz84_2
                              try clear hfz84_3
                              try clear hfz84_4
                              try clear hfz84_5
                              try clear hfz84_6
                              try clear hfz84_7
                              try clear hfz87_0
                              try clear hfz87_1
                              try clear hfz87_2
                              try clear hfz87_3
                              try clear hfz87_4
                              try clear hfz87_5
                              try clear hfz87_6
                              try clear hfz87_7
                              try clear hfz89_0
                              try clear hfz89_1
                              try clear hfz89_2
                              try clear hfz89_3
                              try clear hfz89_4
                              try clear hfz90_0
                              try clear hfz90_1
                              try clear hfz90_2
                              try clear hfz90_3
                              try clear hfz90_4
                              try clear hfz94_0
                              try clear hfz94_1
                              try clear hfz94_2
                              try clear hfz94_3
                              try clear hfz94_4
                              try clear hfz94_5
                              try clear hfz94_6
                              try clear hfz94_7
                              try clear hfz97_0
                              try clear hfz97_1
                              try clear hfz97_2
                              try clear hfz97_3
                              try clear hfz97_4
                              try clear hfz97_5
                              try clear hfz97_6
                              try clear hfz97_7
                              try clear hfz99_0
                              try clear hfz99_1
                              try clear hfz99_2
                              try clear hfz99_3
                              try clear hfz99_4
                              try clear hx169_0
                              try clear p1
                              try clear p16
                              try clear p169
                              try clear p2
                              try clear p6
                              try clear p64
                              try clear q1
                              try clear q16
                              try clear q169
                              obtain ⟨x23_5, x24_5, rfl, rfl, HA, HK5, HO_19, HO_21, BK186, BK196, BK203, BK210, HB⟩ := hrel
                              cases gk with
                              | zero => exact absurd HA.out (by simp [tumblerlaw09_TimerShuffles.l1])
                              | succ k5 =>
                                have H := HA.out
                                clear HA
                                simp only [tumblerlaw09_TimerShuffles.l1] at H
                                by_cases c109 : x24_5 < (t211.length : Int)
                                · rw [if_pos c109] at H
                                  have c109b0 : decide (x24_5 < (t211.length : Int)) = true := decide_eq_true c109
                                  clear c109
                                  by_cases c110 : 0 ≤ x24_5
                                  · rw [if_pos c110] at H
                                    have c110b0 : decide (0 ≤ x24_5) = true := decide_eq_true c110
                                    clear c110
                                    by_cases c111 : x24_5 < (t215.length : Int)
                                    · rw [if_pos c111] at H
                                      have c111b0 : decide (x24_5 < (t215.length : Int)) = true := decide_eq_true c111
                                      clear c111
                                      by_cases c112 : (rd t211 x24_5) = (rd t215 x24_5)
                                      · rw [if_pos c112] at H
                                        have c112b0 : ((rd t211 x24_5) == (rd t215 x24_5)) = true := beq_iff_eq.mpr c112
                                        have c112b1 : ((rd t211 x24_5) != (rd t215 x24_5)) = false := bne_eq_false_iff_eq.mpr c112
                                        clear c112
                                        have H' := Aside0.mk H
                                        clear H
                                        obtain ⟨Ao113, co113, eo113⟩ := Kd.R_slice HO_19.out
                                        subst eo113
                                        have p219 : 0 ≤ (x24_5 : Int) := of_decide_eq_true (by first | (with_reducible assumption) | assumption)
                                        have q219 : x24_5 < (t211.length : Int) := of_decide_eq_true (by first | (with_reducible assumption) | assumption)
                                        obtain ⟨ad219, e219, hx219_0⟩ := Kd.at_int (Kd.R_reads' HO_19.out).2.2 x24_5 p219 q219
                                        cases e219
                                        replace p219 := eq_true p219
                                        replace q219 := eq_true q219
                                        obtain ⟨Ao114, co114, eo114⟩ := Kd.R_slice HO_21.out
                                        subst eo114
                                        have p220 : 0 ≤ (x24_5 : Int) := of_decide_eq_true (by first | (with_reducible assumption) | assumption)
                                        have q220 : x24_5 < (t215.length : Int) := of_decide_eq_true (by first | (with_reducible assumption) | assumption)
                                        obtain ⟨ad220, e220, hx220_0⟩ := Kd.at_int (Kd.R_reads' HO_21.out).2.2 x24_5 p220 q220
                                        cases e220
                                        replace p220 := eq_true p220
                                        replace q220 := eq_true q220
                                        have p221 : 0 ≤ (x24_5 : Int) := of_decide_eq_true (by first | (with_reducible assumption) | assumption)
                                        have q221 : x24_5 < (t211.length : Int) := of_decide_eq_true (by first | (with_reducible assumption) | assumption)
                                        obtain ⟨ad221, e221, hx221_0⟩ := Kd.at_int (Kd.R_reads' HO_19.out).2.2 x24_5 p221 q221
                                        obtain rfl : ad219 = ad221 := (by injection e221)
                                        replace p221 := eq_true p221
                                        replace q221 := eq_true q221
                                        go_wp2
                                        repeat (go_quiet (fail); try go_wp2)
                                        go_roundg k5
                                        case measure => have := HJ4.out; have := HJ6.out; have := HK3.out; have := HJ22.out; have := HK5.out; omega
                                        case rel => exact ⟨(wrap64 (x23_5 + (rd t211 x24_5))), (wrap64 (x24_5 + 1)), (by first | rfl | (simp; done) | (simp [*]; done)), (by first | rfl | (simp; done) | (simp [*]; done)), H', ⟨by have := HJ4.out; have := HJ6.out; have := HK3.out; have := HJ22.out; have := HK5.out; omega⟩, ⟨by (with_reducible repeat (first | apply Kd.R_alloc | apply Kd.R_drewN | apply Kd.R_drew)); exact HO_19.out⟩, ⟨by (with_reducible repeat (first | apply Kd.R_alloc | apply Kd.R_drewN | apply Kd.R_drew)); exact HO_21.out⟩, ⟨by (with_reducible repeat (first | refine blk_drewN ?_ _ | refine blk_drew ?_ | refine blk_alloc ?_ _)); exact BK186.out⟩, ⟨by (with_reducible repeat (first | refine blk_drewN ?_ _ | refine blk_drew ?_ | refine blk_alloc ?_ _)); exact BK196.out⟩, ⟨by (with_reducible repeat (first | refine blk_drewN ?_ _ | refine blk_drew ?_ | refine blk_alloc ?_ _)); exact BK203.out⟩, ⟨by (with_reducible repeat (first | refine blk_drewN ?_ _ | refine blk_drew ?_ | refine blk_alloc ?_ _)); exact BK210.out⟩, ⟨by repeat (first | (with_reducible first | exact HB.out | apply below_alloc | apply pw_below_drewN | apply below_drew1 | refine below_set ?_ GE186.out | refine below_set ?_ GE196.out | refine below_set ?_ GE203.out | refine below_set ?_ GE210.out) | exact HB.out)⟩⟩
                                      · rw [if_neg c112] at H
                                        have c112b0 : ((rd t211 x24_5) == (rd t215 x24_5)) = false := beq_eq_false_iff_ne.mpr c112
                                        have c112b1 : ((rd t211 x24_5) != (rd t215 x24_5)) = true := bne_iff_ne.mpr c112
                                        obtain rfl := Option.some.inj H
                                        obtain ⟨Ao115, co115, eo115⟩ := Kd.R_slice HO_19.out
                                        subst eo115
                                        have p219 : 0 ≤ (x24_5 : Int) := of_decide_eq_true (by first | (with_reducible assumption) | assumption)
                                        have q219 : x24_5 < (t211.length : Int) := of_decide_eq_true (by first | (with_reducible assumption) | assumption)
                                        obtain ⟨ad219, e219, hx219_0⟩ := Kd.at_int (Kd.R_reads' HO_19.out).2.2 x24_5 p219 q219
                                        cases e219
                                        replace p219 := eq_true p219
                                        replace q219 := eq_true q219
                                        obtain ⟨Ao116, co116, eo116⟩ := Kd.R_slice HO_21.out
                                        subst eo116
                                        have p220 : 0 ≤ (x24_5 : Int) := of_decide_eq_true (by first | (with_reducible assumption) | assumption)
                                        have q220 : x24_5 < (t215.length : Int) := of_decide_eq_true (by first | (with_reducible assumption) | assumption)
                                        obtain ⟨ad220, e220, hx220_0⟩ := Kd.at_int (Kd.R_reads' HO_21.out).2.2 x24_5 p220 q220
                                        cases e220
                                        replace p220 := eq_true p220
                                        replace q220 := eq_true q220
                                        go_wp2
                                        repeat (go_quiet (fail); try go_wp2)
                                        go_ret
                                        exact ⟨by first | rfl | (simp [errW_none, errW_some] <;> rfl) | (simp [*, errW_none, errW_some] <;> rfl), by repeat (first | (with_reducible first | exact HB.out | apply below_alloc | apply pw_below_drewN | apply below_drew1 | refine below_set ?_ GE186.out | refine below_set ?_ GE196.out | refine below_set ?_ GE203.out | refine below_set ?_ GE210.out) | exact HB.out)⟩
                                    · rw [if_neg c111] at H
                                      exact absurd H (by simp)
                                  · rw [if_neg c110] at H
                                    exact absurd H (by simp)
                                · rw [if_neg c109] at H
                                  have c109b0 : decide (x24_5 < (t211.length : Int)) = false := decide_eq_false c109
                                  clear c109
                                  by_cases c117 : t212 = 0
                                  · rw [if_pos c117] at H
                                    have c117b0 : (t212 == 0) = true := beq_iff_eq.mpr c117
                                    have c117b1 : (t212 != 0) = false := bne_eq_false_iff_eq.mpr c117
                                    clear c117
                                    by_cases c118 : x23_5 = (l0.length : Int)
                                    · rw [if_pos c118] at H
                                      have c118b0 : (x23_5 == (l0.length : Int)) = true := beq_iff_eq.mpr c118
                                      have c118b1 : (x23_5 != (l0.length : Int)) = false := bne_eq_false_iff_eq.mpr c118
                                      clear c118
                                      replace H := Option.bind_eq_some_iff.mp H
                                      obtain ⟨t222, A1190, H⟩ := H
                                      replace H : (some t222) = some r := H
                                      have A119 := Aside0.mk A1190
                                      clear A1190
                                      obtain rfl := Option.some.inj H
                                      obtain ⟨Ao120, co120, eo120⟩ := Kd.R_slice HO_19.out
                                      subst eo120
                                      go_wp2_with (first | (go_at_call 14; (with_reducible refine (tumblerlaw09_alive.calls  t222 _ A119.out).mono ?_); rintro e w121 ⟨rfl, hb⟩; have n0_ := Aside0.mk (Kd.R_below (by (with_reducible repeat (first | apply Kd.R_alloc | apply Kd.R_drewN | apply Kd.R_drew)); exact HO_19.out) hb); have n1_ := Aside0.mk (Kd.R_below (by (with_reducible repeat (first | apply Kd.R_alloc | apply Kd.R_drewN | apply Kd.R_drew)); exact HO_21.out) hb); have n2_ := Aside0.mk (blk_below (g := gb186) (o := .cells #[.int .i64 t177, .int .i64 t178, .int .u64 t179, .int .i64 t180, .int .i64 t181, .int .i64 t182, .int .i64 t183, .int .i64 t184] 27 (0, 0)) (by (with_reducible repeat (first | refine blk_drewN ?_ _ | refine blk_drew ?_ | refine blk_alloc ?_ _)); exact BK186.out) hb); have n3_ := Aside0.mk (blk_below (g := gb196) (o := .cells #[.int .i64 t187, .int .i64 t188, .int .u64 t189, .int .i64 t190, .int .i64 t191, .int .i64 t192, .int .i64 t193, .int .i64 t194] 27 (0, 0)) (by (with_reducible repeat (first | refine blk_drewN ?_ _ | refine blk_drew ?_ | refine blk_alloc ?_ _)); exact BK196.out) hb); have n4_ := Aside0.mk (blk_below (g := gb203) (o := .cells #[.int .i64 t197, .int .i64 t198, .int .u64 t199, .int .i64 t200, .int .i64 t201] 53 (0, 0)) (by (with_reducible repeat (first | refine blk_drewN ?_ _ | refine blk_drew ?_ | refine blk_alloc ?_ _)); exact BK203.out) hb); have n5_ := Aside0.mk (blk_below (g := gb210) (o := .cells #[.int .i64 t204, .int .i64 t205, .int .u64 t206, .int .i64 t207, .int .i64 t208] 53 (0, 0)) (by (with_reducible repeat (first | refine blk_drewN ?_ _ | refine blk_drew ?_ | refine blk_alloc ?_ _)); exact BK210.out) hb); have n6_ := Aside0.mk (below_step (by repeat (first | (with_reducible first | exact HB.out | apply below_alloc | apply pw_below_drewN | apply below_drew1 | refine below_set ?_ GE186.out | refine below_set ?_ GE196.out | refine below_set ?_ GE203.out | refine below_set ?_ GE210.out) | exact HB.out)) hb); clear HO_19; clear HO_21; clear BK186; clear BK196; clear BK203; clear BK210; clear HB; have HO_19 := n0_; have HO_21 := n1_; have BK186 := n2_; have BK196 := n3_; have BK203 := n4_; have BK210 := n5_; have HB := n6_; clear n0_ n1_ n2_ n3_ n4_ n5_ n6_; (try clear hb); (try clear hb2); (try clear hk); (try clear hi)))
                                      repeat (go_quiet (first | (go_at_call 14; (with_reducible refine (tumblerlaw09_alive.calls  t222 _ A119.out).mono ?_); rintro e w121 ⟨rfl, hb⟩; have n0_ := Aside0.mk (Kd.R_below (by (with_reducible repeat (first | apply Kd.R_alloc | apply Kd.R_drewN | apply Kd.R_drew)); exact HO_19.out) hb); have n1_ := Aside0.mk (Kd.R_below (by (with_reducible repeat (first | apply Kd.R_alloc | apply Kd.R_drewN | apply Kd.R_drew)); exact HO_21.out) hb); have n2_ := Aside0.mk (blk_below (g := gb186) (o := .cells #[.int .i64 t177, .int .i64 t178, .int .u64 t179, .int .i64 t180, .int .i64 t181, .int .i64 t182, .int .i64 t183, .int .i64 t184] 27 (0, 0)) (by (with_reducible repeat (first | refine blk_drewN ?_ _ | refine blk_drew ?_ | refine blk_alloc ?_ _)); exact BK186.out) hb); have n3_ := Aside0.mk (blk_below (g := gb196) (o := .cells #[.int .i64 t187, .int .i64 t188, .int .u64 t189, .int .i64 t190, .int .i64 t191, .int .i64 t192, .int .i64 t193, .int .i64 t194] 27 (0, 0)) (by (with_reducible repeat (first | refine blk_drewN ?_ _ | refine blk_drew ?_ | refine blk_alloc ?_ _)); exact BK196.out) hb); have n4_ := Aside0.mk (blk_below (g := gb203) (o := .cells #[.int .i64 t197, .int .i64 t198, .int .u64 t199, .int .i64 t200, .int .i64 t201] 53 (0, 0)) (by (with_reducible repeat (first | refine blk_drewN ?_ _ | refine blk_drew ?_ | refine blk_alloc ?_ _)); exact BK203.out) hb); have n5_ := Aside0.mk (blk_below (g := gb210) (o := .cells #[.int .i64 t204, .int .i64 t205, .int .u64 t206, .int .i64 t207, .int .i64 t208] 53 (0, 0)) (by (with_reducible repeat (first | refine blk_drewN ?_ _ | refine blk_drew ?_ | refine blk_alloc ?_ _)); exact BK210.out) hb); have n6_ := Aside0.mk (below_step (by repeat (first | (with_reducible first | exact HB.out | apply below_alloc | apply pw_below_drewN | apply below_drew1 | refine below_set ?_ GE186.out | refine below_set ?_ GE196.out | refine below_set ?_ GE203.out | refine below_set ?_ GE210.out) | exact HB.out)) hb); clear HO_19; clear HO_21; clear BK186; clear BK196; clear BK203; clear BK210; clear HB; have HO_19 := n0_; have HO_21 := n1_; have BK186 := n2_; have BK196 := n3_; have BK203 := n4_; have BK210 := n5_; have HB := n6_; clear n0_ n1_ n2_ n3_ n4_ n5_ n6_; (try clear hb); (try clear hb2); (try clear hk); (try clear hi))); try go_wp2_with (first | (go_at_call 14; (with_reducible refine (tumblerlaw09_alive.calls  t222 _ A119.out).mono ?_); rintro e w121 ⟨rfl, hb⟩; have n0_ := Aside0.mk (Kd.R_below (by (with_reducible repeat (first | apply Kd.R_alloc | apply Kd.R_drewN | apply Kd.R_drew)); exact HO_19.out) hb); have n1_ := Aside0.mk (Kd.R_below (by (with_reducible repeat (first | apply Kd.R_alloc | apply Kd.R_drewN | apply Kd.R_drew)); exact HO_21.out) hb); have n2_ := Aside0.mk (blk_below (g := gb186) (o := .cells #[.int .i64 t177, .int .i64 t178, .int .u64 t179, .int .i64 t180, .int .i64 t181, .int .i64 t182, .int .i64 t183, .int .i64 t184] 27 (0, 0)) (by (with_reducible repeat (first | refine blk_drewN ?_ _ | refine blk_drew ?_ | refine blk_alloc ?_ _)); exact BK186.out) hb); have n3_ := Aside0.mk (blk_below (g := gb196) (o := .cells #[.int .i64 t187, .int .i64 t188, .int .u64 t189, .int .i64 t190, .int .i64 t191, .int .i64 t192, .int .i64 t193, .int .i64 t194] 27 (0, 0)) (by (with_reducible repeat (first | refine blk_drewN ?_ _ | refine blk_drew ?_ | refine blk_alloc ?_ _)); exact BK196.out) hb); have n4_ := Aside0.mk (blk_below (g := gb203) (o := .cells #[.int .i64 t197, .int .i64 t198, .int .u64 t199, .int .i64 t200, .int .i64 t201] 53 (0, 0)) (by (with_reducible repeat (first | refine blk_drewN ?_ _ | refine blk_drew ?_ | refine blk_alloc ?_ _)); exact BK203.out) hb); have n5_ := Aside0.mk (blk_below (g := gb210) (o := .cells #[.int .i64 t204, .int .i64 t205, .int .u64 t206, .int .i64 t207, .int .i64 t208] 53 (0, 0)) (by (with_reducible repeat (first | refine blk_drewN ?_ _ | refine blk_drew ?_ | refine blk_alloc ?_ _)); exact BK210.out) hb); have n6_ := Aside0.mk (below_step (by repeat (first | (with_reducible first | exact HB.out | apply below_alloc | apply pw_below_drewN | apply below_drew1 | refine below_set ?_ GE186.out | refine below_set ?_ GE196.out | refine below_set ?_ GE203.out | refine below_set ?_ GE210.out) | exact HB.out)) hb); clear HO_19; clear HO_21; clear BK186; clear BK196; clear BK203; clear BK210; clear HB; have HO_19 := n0_; have HO_21 := n1_; have BK186 := n2_; have BK196 := n3_; have BK203 := n4_; have BK210 := n5_; have HB := n6_; clear n0_ n1_ n2_ n3_ n4_ n5_ n6_; (try clear hb); (try clear hb2); (try clear hk); (try clear hi))))
                                      go_ret
                                      exact ⟨by first | rfl | (simp [errW_none, errW_some] <;> rfl) | (simp [*, errW_none, errW_some] <;> rfl), by repeat (first | (with_reducible first | exact HB.out | apply below_alloc | apply pw_below_drewN | apply below_drew1 | refine below_set ?_ GE186.out | refine below_set ?_ GE196.out | refine below_set ?_ GE203.out | refine below_set ?_ GE210.out) | exact HB.out)⟩
                                    · rw [if_neg c118] at H
                                      have c118b0 : (x23_5 == (l0.length : Int)) = false := beq_eq_false_iff_ne.mpr c118
                                      have c118b1 : (x23_5 != (l0.length : Int)) = true := bne_iff_ne.mpr c118
                                      obtain rfl := Option.some.inj H
                                      obtain ⟨Ao122, co122, eo122⟩ := Kd.R_slice HO_19.out
                                      subst eo122
                                      go_wp2
                                      repeat (go_quiet (fail); try go_wp2)
                                      go_ret
                                      exact ⟨by first | rfl | (simp [errW_none, errW_some] <;> rfl) | (simp [*, errW_none, errW_some] <;> rfl), by repeat (first | (with_reducible first | exact HB.out | apply below_alloc | apply pw_below_drewN | apply below_drew1 | refine below_set ?_ GE186.out | refine below_set ?_ GE196.out | refine below_set ?_ GE203.out | refine below_set ?_ GE210.out) | exact HB.out)⟩
                                  · rw [if_neg c117] at H
                                    have c117b0 : (t212 == 0) = false := beq_eq_false_iff_ne.mpr c117
                                    have c117b1 : (t212 != 0) = true := bne_iff_ne.mpr c117
                                    replace H := Option.bind_eq_some_iff.mp H
                                    obtain ⟨t223, A1230, H⟩ := H
                                    replace H : (some t223) = some r := H
                                    have A123 := Aside0.mk A1230
                                    clear A1230
                                    obtain rfl := Option.some.inj H
                                    obtain ⟨Ao124, co124, eo124⟩ := Kd.R_slice HO_19.out
                                    subst eo124
                                    go_wp2_with (first | (go_at_call 14; (with_reducible refine (tumblerlaw09_alive.calls  t223 _ A123.out).mono ?_); rintro e w125 ⟨rfl, hb⟩; have n0_ := Aside0.mk (Kd.R_below (by (with_reducible repeat (first | apply Kd.R_alloc | apply Kd.R_drewN | apply Kd.R_drew)); exact HO_19.out) hb); have n1_ := Aside0.mk (Kd.R_below (by (with_reducible repeat (first | apply Kd.R_alloc | apply Kd.R_drewN | apply Kd.R_drew)); exact HO_21.out) hb); have n2_ := Aside0.mk (blk_below (g := gb186) (o := .cells #[.int .i64 t177, .int .i64 t178, .int .u64 t179, .int .i64 t180, .int .i64 t181, .int .i64 t182, .int .i64 t183, .int .i64 t184] 27 (0, 0)) (by (with_reducible repeat (first | refine blk_drewN ?_ _ | refine blk_drew ?_ | refine blk_alloc ?_ _)); exact BK186.out) hb); have n3_ := Aside0.mk (blk_below (g := gb196) (o := .cells #[.int .i64 t187, .int .i64 t188, .int .u64 t189, .int .i64 t190, .int .i64 t191, .int .i64 t192, .int .i64 t193, .int .i64 t194] 27 (0, 0)) (by (with_reducible repeat (first | refine blk_drewN ?_ _ | refine blk_drew ?_ | refine blk_alloc ?_ _)); exact BK196.out) hb); have n4_ := Aside0.mk (blk_below (g := gb203) (o := .cells #[.int .i64 t197, .int .i64 t198, .int .u64 t199, .int .i64 t200, .int .i64 t201] 53 (0, 0)) (by (with_reducible repeat (first | refine blk_drewN ?_ _ | refine blk_drew ?_ | refine blk_alloc ?_ _)); exact BK203.out) hb); have n5_ := Aside0.mk (blk_below (g := gb210) (o := .cells #[.int .i64 t204, .int .i64 t205, .int .u64 t206, .int .i64 t207, .int .i64 t208] 53 (0, 0)) (by (with_reducible repeat (first | refine blk_drewN ?_ _ | refine blk_drew ?_ | refine blk_alloc ?_ _)); exact BK210.out) hb); have n6_ := Aside0.mk (below_step (by repeat (first | (with_reducible first | exact HB.out | apply below_alloc | apply pw_below_drewN | apply below_drew1 | refine below_set ?_ GE186.out | refine below_set ?_ GE196.out | refine below_set ?_ GE203.out | refine below_set ?_ GE210.out) | exact HB.out)) hb); clear HO_19; clear HO_21; clear BK186; clear BK196; clear BK203; clear BK210; clear HB; have HO_19 := n0_; have HO_21 := n1_; have BK186 := n2_; have BK196 := n3_; have BK203 := n4_; have BK210 := n5_; have HB := n6_; clear n0_ n1_ n2_ n3_ n4_ n5_ n6_; (try clear hb); (try clear hb2); (try clear hk); (try clear hi)))
                                    repeat (go_quiet (first | (go_at_call 14; (with_reducible refine (tumblerlaw09_alive.calls  t223 _ A123.out).mono ?_); rintro e w125 ⟨rfl, hb⟩; have n0_ := Aside0.mk (Kd.R_below (by (with_reducible repeat (first | apply Kd.R_alloc | apply Kd.R_drewN | apply Kd.R_drew)); exact HO_19.out) hb); have n1_ := Aside0.mk (Kd.R_below (by (with_reducible repeat (first | apply Kd.R_alloc | apply Kd.R_drewN | apply Kd.R_drew)); exact HO_21.out) hb); have n2_ := Aside0.mk (blk_below (g := gb186) (o := .cells #[.int .i64 t177, .int .i64 t178, .int .u64 t179, .int .i64 t180, .int .i64 t181, .int .i64 t182, .int .i64 t183, .int .i64 t184] 27 (0, 0)) (by (with_reducible repeat (first | refine blk_drewN ?_ _ | refine blk_drew ?_ | refine blk_alloc ?_ _)); exact BK186.out) hb); have n3_ := Aside0.mk (blk_below (g := gb196) (o := .cells #[.int .i64 t187, .int .i64 t188, .int .u64 t189, .int .i64 t190, .int .i64 t191, .int .i64 t192, .int .i64 t193, .int .i64 t194] 27 (0, 0)) (by (with_reducible repeat (first | refine blk_drewN ?_ _ | refine blk_drew ?_ | refine blk_alloc ?_ _)); exact BK196.out) hb); have n4_ := Aside0.mk (blk_below (g := gb203) (o := .cells #[.int .i64 t197, .int .i64 t198, .int .u64 t199, .int .i64 t200, .int .i64 t201] 53 (0, 0)) (by (with_reducible repeat (first | refine blk_drewN ?_ _ | refine blk_drew ?_ | refine blk_alloc ?_ _)); exact BK203.out) hb); have n5_ := Aside0.mk (blk_below (g := gb210) (o := .cells #[.int .i64 t204, .int .i64 t205, .int .u64 t206, .int .i64 t207, .int .i64 t208] 53 (0, 0)) (by (with_reducible repeat (first | refine blk_drewN ?_ _ | refine blk_drew ?_ | refine blk_alloc ?_ _)); exact BK210.out) hb); have n6_ := Aside0.mk (below_step (by repeat (first | (with_reducible first | exact HB.out | apply below_alloc | apply pw_below_drewN | apply below_drew1 | refine below_set ?_ GE186.out | refine below_set ?_ GE196.out | refine below_set ?_ GE203.out | refine below_set ?_ GE210.out) | exact HB.out)) hb); clear HO_19; clear HO_21; clear BK186; clear BK196; clear BK203; clear BK210; clear HB; have HO_19 := n0_; have HO_21 := n1_; have BK186 := n2_; have BK196 := n3_; have BK203 := n4_; have BK210 := n5_; have HB := n6_; clear n0_ n1_ n2_ n3_ n4_ n5_ n6_; (try clear hb); (try clear hb2); (try clear hk); (try clear hi))); try go_wp2_with (first | (go_at_call 14; (with_reducible refine (tumblerlaw09_alive.calls  t223 _ A123.out).mono ?_); rintro e w125 ⟨rfl, hb⟩; have n0_ := Aside0.mk (Kd.R_below (by (with_reducible repeat (first | apply Kd.R_alloc | apply Kd.R_drewN | apply Kd.R_drew)); exact HO_19.out) hb); have n1_ := Aside0.mk (Kd.R_below (by (with_reducible repeat (first | apply Kd.R_alloc | apply Kd.R_drewN | apply Kd.R_drew)); exact HO_21.out) hb); have n2_ := Aside0.mk (blk_below (g := gb186) (o := .cells #[.int .i64 t177, .int .i64 t178, .int .u64 t179, .int .i64 t180, .int .i64 t181, .int .i64 t182, .int .i64 t183, .int .i64 t184] 27 (0, 0)) (by (with_reducible repeat (first | refine blk_drewN ?_ _ | refine blk_drew ?_ | refine blk_alloc ?_ _)); exact BK186.out) hb); have n3_ := Aside0.mk (blk_below (g := gb196) (o := .cells #[.int .i64 t187, .int .i64 t188, .int .u64 t189, .int .i64 t190, .int .i64 t191, .int .i64 t192, .int .i64 t193, .int .i64 t194] 27 (0, 0)) (by (with_reducible repeat (first | refine blk_drewN ?_ _ | refine blk_drew ?_ | refine blk_alloc ?_ _)); exact BK196.out) hb); have n4_ := Aside0.mk (blk_below (g := gb203) (o := .cells #[.int .i64 t197, .int .i64 t198, .int .u64 t199, .int .i64 t200, .int .i64 t201] 53 (0, 0)) (by (with_reducible repeat (first | refine blk_drewN ?_ _ | refine blk_drew ?_ | refine blk_alloc ?_ _)); exact BK203.out) hb); have n5_ := Aside0.mk (blk_below (g := gb210) (o := .cells #[.int .i64 t204, .int .i64 t205, .int .u64 t206, .int .i64 t207, .int .i64 t208] 53 (0, 0)) (by (with_reducible repeat (first | refine blk_drewN ?_ _ | refine blk_drew ?_ | refine blk_alloc ?_ _)); exact BK210.out) hb); have n6_ := Aside0.mk (below_step (by repeat (first | (with_reducible first | exact HB.out | apply below_alloc | apply pw_below_drewN | apply below_drew1 | refine below_set ?_ GE186.out | refine below_set ?_ GE196.out | refine below_set ?_ GE203.out | refine below_set ?_ GE210.out) | exact HB.out)) hb); clear HO_19; clear HO_21; clear BK186; clear BK196; clear BK203; clear BK210; clear HB; have HO_19 := n0_; have HO_21 := n1_; have BK186 := n2_; have BK196 := n3_; have BK203 := n4_; have BK210 := n5_; have HB := n6_; clear n0_ n1_ n2_ n3_ n4_ n5_ n6_; (try clear hb); (try clear hb2); (try clear hk); (try clear hi))))
                                    go_ret
                                    exact ⟨by first | rfl | (simp [errW_none, errW_some] <;> rfl) | (simp [*, errW_none, errW_some] <;> rfl), by repeat (first | (with_reducible first | exact HB.out | apply below_alloc | apply pw_below_drewN | apply below_drew1 | refine below_set ?_ GE186.out | refine below_set ?_ GE196.out | refine below_set ?_ GE203.out | refine below_set ?_ GE210.out) | exact HB.out)⟩
                    · rw [if_neg c16] at H
                      exact absurd H (by simp)
                  · rw [if_neg c15] at H
                    exact absurd H (by simp)
                · rw [if_neg c14] at H
                  exact absurd H (by simp)

/-- THE ONE PURE STATEMENT of tumblerlaw09_TimerShuffles: yours. -/
def tumblerlaw09_TimerShuffles.Pure : Prop := ∀ (l0 : List Int) (a1 : Int) (a2 : Int) (l3 : List Int), l0.length ≤ maxLen → l0.length * 8 ≤ 140737488351232 → (∀ x ∈ l0, (Lit.int .i64 x).wf = true) → (Lit.int .i64 a1).wf = true → (Lit.int .i64 a2).wf = true → l3.length ≤ maxLen → l3.length * 8 ≤ 140737488351232 → (∀ x ∈ l3, (Lit.int .i64 x).wf = true) → ∃ k, tumblerlaw09_TimerShuffles.f k l0 a1 a2 l3 = some true
theorem tumblerlaw09_TimerShuffles.walk (P : tumblerlaw09_TimerShuffles.Pure) (a0 : Option Addr) (len0 cap0 : Nat) (z0 : List Int) (a1 : Int) (a2 : Int) (a3 : Option Addr) (len3 cap3 : Nat) (z3 : List Int) (w : World) (w0 : (a0 = none ∧ len0 = 0 ∧ cap0 = 0 ∧ z0 = []) ∨ ∃ x, a0 = some x ∧ len0 ≤ cap0 ∧ cap0 ≤ maxLen ∧ z0.length = cap0 ∧ (∀ i, i < z0.length → w.cell? (x.add i) = some (.int .i64 (z0.getD i 0))) ∧ ∀ n ∈ z0, (Lit.int .i64 n).wf = true) (y0 : len0 * 8 ≤ 140737488351232) (w1 : (Lit.int .i64 a1).wf = true) (w2 : (Lit.int .i64 a2).wf = true) (w3 : (a3 = none ∧ len3 = 0 ∧ cap3 = 0 ∧ z3 = []) ∨ ∃ x, a3 = some x ∧ len3 ≤ cap3 ∧ cap3 ≤ maxLen ∧ z3.length = cap3 ∧ (∀ i, i < z3.length → w.cell? (x.add i) = some (.int .i64 (z3.getD i 0))) ∧ ∀ n ∈ z3, (Lit.int .i64 n).wf = true) (y3 : len3 * 8 ≤ 140737488351232) :
    Calls Try.prog 9 #[.slice a0 len0 cap0, .int .i64 a1, .int .i64 a2, .slice a3 len3 cap3] w fun e w' => e = .returned (.bool true) ∧ Below w.heap.size w w' := by
  obtain ⟨l0, rfl, hr0, hm0, hw0, hc0⟩ := ReadsInt.ofRowC w0
  obtain ⟨l3, rfl, hr3, hm3, hw3, hc3⟩ := ReadsInt.ofRowC w3
  obtain ⟨k, h⟩ := P l0 a1 a2 l3 hm0 y0 hw0 w1 w2 hm3 y3 hw3
  refine (tumblerlaw09_TimerShuffles.calls k _ _ l0 a1 a2 _ _ l3 true w (Kd.C_of_reads (d := (0 : Int)) (h1 := fun _ => rfl) hr0) hc0 (Kd.C_of_reads (d := (0 : Int)) (h1 := fun _ => rfl) hr3) hc3 h).mono ?_
  rintro e w' ⟨rfl, hd⟩
  exact ⟨rfl, hd⟩

end Go.Proofs.Ythnihjfdmkfkiaa.H
