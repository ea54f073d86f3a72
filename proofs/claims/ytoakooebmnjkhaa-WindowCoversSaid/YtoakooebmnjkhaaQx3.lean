/- A text of this claim: functions of the program as Lean functions, each with its contract; written by a program of the session's own over the kit's print. -/
import Derived.Test.YtoakooebmnjkhaaQx0
import Derived.Test.YtoakooebmnjkhaaQx1
import Derived.Test.YtoakooebmnjkhaaQx2
namespace Go.Proofs.Ytoakooebmnjkhaa.Q
open Go.RowKit Go.Proofs.YtoakooebmnjkhaaW.PrintWords Go.Proofs.YtoakooebmnjkhaaW.PrintLast Go.Proofs.YtoakooebmnjkhaaW.PrintMore
attribute [local go_sem] max2_int min2_int max_two min_two max_three min_three max_four min_four   -- for this text's walks alone
set_option linter.unusedVariables false
set_option linter.unusedSimpArgs false

/-! ### tumblerlaw06_WindowHolds: function 8 -/
mutual
def tumblerlaw06_WindowHolds.j0 : Nat → Int → Int → Int → Int → Bool → Option (Bool)
  | 0, _, _, _, _, _ => none
  | k + 1, x0, x1, x5, x6, x24 => if x24 = true then (if x6 = 61 then (some (x5 == 0)) else (some false)) else ((tumblerlaw06_awake.f).bind fun t182 => (if t182 = true then (tumblerlaw06_WindowHolds.j1 k x0 x1 x5 (x6 != 0)) else (tumblerlaw06_WindowHolds.j1 k x0 x1 x5 true)))
def tumblerlaw06_WindowHolds.j1 : Nat → Int → Int → Int → Bool → Option (Bool)
  | 0, _, _, _, _ => none
  | k + 1, x0, x1, x5, x36 => if x36 = true then (some false) else ((window_Begin.f x5 x1).bind fun bt183 => ((window_End.f x5 x1).bind fun bt185 => (if bt183.2 = 0 then (if bt183.1 > x0 then (tumblerlaw06_WindowHolds.j2 k x0 x1 x5 bt183.2 bt185.1 bt185.2 true) else (if bt185.2 = 0 then (if bt185.1 ≤ x0 then (tumblerlaw06_WindowHolds.j2 k x0 x1 x5 bt183.2 bt185.1 bt185.2 true) else (tumblerlaw06_WindowHolds.j2 k x0 x1 x5 bt183.2 bt185.1 bt185.2 ((wrap64 (bt185.1 - bt183.1)) != x1))) else (tumblerlaw06_WindowHolds.j2 k x0 x1 x5 bt183.2 bt185.1 bt185.2 false))) else (if bt185.2 = 0 then (if bt185.1 ≤ x0 then (tumblerlaw06_WindowHolds.j2 k x0 x1 x5 bt183.2 bt185.1 bt185.2 true) else (tumblerlaw06_WindowHolds.j2 k x0 x1 x5 bt183.2 bt185.1 bt185.2 false)) else (tumblerlaw06_WindowHolds.j2 k x0 x1 x5 bt183.2 bt185.1 bt185.2 false)))))
def tumblerlaw06_WindowHolds.j2 : Nat → Int → Int → Int → Int → Int → Int → Bool → Option (Bool)
  | 0, _, _, _, _, _, _, _ => none
  | k + 1, x0, x1, x5, x8, x9, x10, x79 => if x79 = true then (some false) else (if x8 = 0 then (if x10 = 0 then (tumblerlaw06_WindowHolds.j3 k x1 x5 x9 x10 false) else (if x10 = 60 then (tumblerlaw06_WindowHolds.j3 k x1 x5 x9 x10 (decide (x0 < (wrap64 (9223372036854775807 - x1))))) else (tumblerlaw06_WindowHolds.j3 k x1 x5 x9 x10 true))) else (if x8 = 60 then (if x0 > (wrap64 ((-9223372036854775808) + x1)) then (tumblerlaw06_WindowHolds.j3 k x1 x5 x9 x10 true) else (if x10 = 0 then (tumblerlaw06_WindowHolds.j3 k x1 x5 x9 x10 false) else (if x10 = 60 then (tumblerlaw06_WindowHolds.j3 k x1 x5 x9 x10 (decide (x0 < (wrap64 (9223372036854775807 - x1))))) else (tumblerlaw06_WindowHolds.j3 k x1 x5 x9 x10 true)))) else (tumblerlaw06_WindowHolds.j3 k x1 x5 x9 x10 true)))
def tumblerlaw06_WindowHolds.j3 : Nat → Int → Int → Int → Int → Bool → Option (Bool)
  | 0, _, _, _, _, _ => none
  | k + 1, x1, x5, x9, x10, x105 => if x105 = true then (some false) else (if x5 = 9223372036854775807 then (some true) else ((window_Begin.f (wrap64 (x5 + 1)) x1).bind fun bt187 => (if bt187.2 = x10 then (some (bt187.1 == x9)) else (some false))))
end
def tumblerlaw06_WindowHolds.f (k : Nat) (a0 : Int) (a1 : Int) : Option (Bool) := (window_Of.f a0 a1).bind fun bt180 => (if a1 < 1 then (tumblerlaw06_WindowHolds.j0 k a0 a1 bt180.1 bt180.2 true) else (tumblerlaw06_WindowHolds.j0 k a0 a1 bt180.1 bt180.2 (decide (a1 > 1048576))))
theorem tumblerlaw06_WindowHolds.mono_l : ∀ k, (∀ y0 y1 y2 y3 y4, LeO (tumblerlaw06_WindowHolds.j0 k y0 y1 y2 y3 y4) (tumblerlaw06_WindowHolds.j0 (k + 1) y0 y1 y2 y3 y4)) ∧ (∀ y0 y1 y2 y3, LeO (tumblerlaw06_WindowHolds.j1 k y0 y1 y2 y3) (tumblerlaw06_WindowHolds.j1 (k + 1) y0 y1 y2 y3)) ∧ (∀ y0 y1 y2 y3 y4 y5 y6, LeO (tumblerlaw06_WindowHolds.j2 k y0 y1 y2 y3 y4 y5 y6) (tumblerlaw06_WindowHolds.j2 (k + 1) y0 y1 y2 y3 y4 y5 y6)) ∧ (∀ y0 y1 y2 y3 y4, LeO (tumblerlaw06_WindowHolds.j3 k y0 y1 y2 y3 y4) (tumblerlaw06_WindowHolds.j3 (k + 1) y0 y1 y2 y3 y4))
  | 0 => ⟨fun _ _ _ _ _ r h => by simp [tumblerlaw06_WindowHolds.j0] at h, fun _ _ _ _ r h => by simp [tumblerlaw06_WindowHolds.j1] at h, fun _ _ _ _ _ _ _ r h => by simp [tumblerlaw06_WindowHolds.j2] at h, fun _ _ _ _ _ r h => by simp [tumblerlaw06_WindowHolds.j3] at h⟩
  | k + 1 => by
    obtain ⟨ih0, ih1, ih2, ih3⟩ := tumblerlaw06_WindowHolds.mono_l k
    refine ⟨?_, ?_, ?_, ?_⟩
    · intro y0 y1 y2 y3 y4
      unfold tumblerlaw06_WindowHolds.j0
      repeat' first
      | (with_reducible exact ih0 _ _ _ _ _)
      | (with_reducible exact ih1 _ _ _ _)
      | (with_reducible exact ih2 _ _ _ _ _ _ _)
      | (with_reducible exact ih3 _ _ _ _ _)
      | (with_reducible exact LeO.refl _)
      | (with_reducible exact LeO.none _)
      | (with_reducible refine LeO.ite ?_ ?_)
      | (with_reducible refine LeO.bind ?_ (fun _ => ?_))
      | exact ih0 _ _ _ _ _
      | exact ih1 _ _ _ _
      | exact ih2 _ _ _ _ _ _ _
      | exact ih3 _ _ _ _ _
      | exact LeO.none _
      | refine LeO.ite ?_ ?_
      | refine LeO.bind ?_ (fun _ => ?_)
    · intro y0 y1 y2 y3
      unfold tumblerlaw06_WindowHolds.j1
      repeat' first
      | (with_reducible exact ih0 _ _ _ _ _)
      | (with_reducible exact ih1 _ _ _ _)
      | (with_reducible exact ih2 _ _ _ _ _ _ _)
      | (with_reducible exact ih3 _ _ _ _ _)
      | (with_reducible exact LeO.refl _)
      | (with_reducible exact LeO.none _)
      | (with_reducible refine LeO.ite ?_ ?_)
      | (with_reducible refine LeO.bind ?_ (fun _ => ?_))
      | exact ih0 _ _ _ _ _
      | exact ih1 _ _ _ _
      | exact ih2 _ _ _ _ _ _ _
      | exact ih3 _ _ _ _ _
      | exact LeO.none _
      | refine LeO.ite ?_ ?_
      | refine LeO.bind ?_ (fun _ => ?_)
    · intro y0 y1 y2 y3 y4 y5 y6
      unfold tumblerlaw06_WindowHolds.j2
      repeat' first
      | (with_reducible exact ih0 _ _ _ _ _)
      | (with_reducible exact ih1 _ _ _ _)
      | (with_reducible exact ih2 _ _ _ _ _ _ _)
      | (with_reducible exact ih3 _ _ _ _ _)
      | (with_reducible exact LeO.refl _)
      | (with_reducible exact LeO.none _)
      | (with_reducible refine LeO.ite ?_ ?_)
      | (with_reducible refine LeO.bind ?_ (fun _ => ?_))
      | exact ih0 _ _ _ _ _
      | exact ih1 _ _ _ _
      | exact ih2 _ _ _ _ _ _ _
      | exact ih3 _ _ _ _ _
      | exact LeO.none _
      | refine LeO.ite ?_ ?_
      | refine LeO.bind ?_ (fun _ => ?_)
    · intro y0 y1 y2 y3 y4
      unfold tumblerlaw06_WindowHolds.j3
      repeat' first
      | (with_reducible exact ih0 _ _ _ _ _)
      | (with_reducible exact ih1 _ _ _ _)
      | (with_reducible exact ih2 _ _ _ _ _ _ _)
      | (with_reducible exact ih3 _ _ _ _ _)
      | (with_reducible exact LeO.refl _)
      | (with_reducible exact LeO.none _)
      | (with_reducible refine LeO.ite ?_ ?_)
      | (with_reducible refine LeO.bind ?_ (fun _ => ?_))
      | exact ih0 _ _ _ _ _
      | exact ih1 _ _ _ _
      | exact ih2 _ _ _ _ _ _ _
      | exact ih3 _ _ _ _ _
      | exact LeO.none _
      | refine LeO.ite ?_ ?_
      | refine LeO.bind ?_ (fun _ => ?_)
theorem tumblerlaw06_WindowHolds.mono : ∀ a0 a1 k, LeO (tumblerlaw06_WindowHolds.f k a0 a1) (tumblerlaw06_WindowHolds.f (k + 1) a0 a1) := by
  intro a0 a1 k
  obtain ⟨ih0, ih1, ih2, ih3⟩ := tumblerlaw06_WindowHolds.mono_l k
  unfold tumblerlaw06_WindowHolds.f
  repeat' first
      | (with_reducible exact ih0 _ _ _ _ _)
      | (with_reducible exact ih1 _ _ _ _)
      | (with_reducible exact ih2 _ _ _ _ _ _ _)
      | (with_reducible exact ih3 _ _ _ _ _)
      | (with_reducible exact LeO.refl _)
      | (with_reducible exact LeO.none _)
      | (with_reducible refine LeO.ite ?_ ?_)
      | (with_reducible refine LeO.bind ?_ (fun _ => ?_))
      | exact ih0 _ _ _ _ _
      | exact ih1 _ _ _ _
      | exact ih2 _ _ _ _ _ _ _
      | exact ih3 _ _ _ _ _
      | exact LeO.none _
      | refine LeO.ite ?_ ?_
      | refine LeO.bind ?_ (fun _ => ?_)
set_option maxHeartbeats 8000000 in
set_option maxRecDepth 100000 in
theorem tumblerlaw06_WindowHolds.calls (k : Nat) (a0 : Int) (a1 : Int) (r : Bool) (w : World) (h : tumblerlaw06_WindowHolds.f k a0 a1 = some r) :
    Calls Try.prog 8 #[.int .i64 a0, .int .i64 a1] w fun e w' => e = .returned (.bool r) ∧ Drawn0 w w' := by
  have H : ((window_Of.f a0 a1).bind fun bt180 => (if a1 < 1 then (tumblerlaw06_WindowHolds.j0 k a0 a1 bt180.1 bt180.2 true) else (tumblerlaw06_WindowHolds.j0 k a0 a1 bt180.1 bt180.2 (decide (a1 > 1048576))))) = some r := h
  clear h
  replace H := Option.bind_eq_some_iff.mp H
  obtain ⟨⟨t180, t181⟩, A30, H⟩ := H
  replace H : (if a1 < 1 then (tumblerlaw06_WindowHolds.j0 k a0 a1 t180 t181 true) else (tumblerlaw06_WindowHolds.j0 k a0 a1 t180 t181 (decide (a1 > 1048576)))) = some r := H
  have A3 := Aside0.mk A30
  clear A30
  have HC4 := Aside0.mk H
  clear H
  go_enter Try.func8, Try.ntmps8
  go_upto_region 2 with (first | ((with_reducible refine gate_callee (f := 14) rfl ?_); refine goesL_ (some 16) rfl rfl Try.func14 (by kernel_rfl) rfl #[.int .i64 a0, .int .i64 a1] rfl (by (try simp only [List.map_toArray, List.map_cons, List.map_nil]); first | done | rfl | (simp only [List.length_drop, List.length_take]; rfl)) ?_; (with_reducible refine (window_Of.calls a0 a1 t180 t181 _ A3.out).mono ?_); rintro e w' ⟨rfl, ⟨nd, rfl⟩⟩; refine ⟨_, rfl, ?_⟩))
  (try simp only [Act.put, List.setIfInBounds_toArray, List.set_cons_zero, List.set_cons_succ])
  go_cut [24] (fun v24 wc => ∃ (kq : Nat) (x24_3 : Bool), v24 = .bool x24_3 ∧ Aside0 (tumblerlaw06_WindowHolds.j0 kq a0 a1 t180 t181 x24_3 = some r) ∧ Aside0 (kq ≤ k) ∧ Drawn0 w wc)
  case first =>
    have H := HC4.out
    clear HC4
    by_cases c5 : a1 < 1
    · rw [if_pos c5] at H
      have c5b0 : decide (a1 < 1) = true := decide_eq_true c5
      clear c5
      (first | rw [c5b0] | (simp only [i64_w, i32_w]; rw [c5b0]) | skip)
      have H' := Aside0.mk H
      clear H
      go_wp2
      go_meet
      case rel => exact ⟨_, (true), (by first | rfl | (simp; done) | (simp [*]; done)), H', ⟨by first | omega | exact Nat.le_refl _⟩, by repeat (first | exact Drawn0.refl _ | apply Drawn0.step)⟩
    · rw [if_neg c5] at H
      have c5b0 : decide (a1 < 1) = false := decide_eq_false c5
      clear c5
      (first | rw [c5b0] | (simp only [i64_w, i32_w]; rw [c5b0]) | skip)
      have H' := Aside0.mk H
      clear H
      go_wp2
      go_meet
      case rel => exact ⟨_, (decide (a1 > 1048576)), (by first | rfl | (simp; done) | (simp [*]; done)), H', ⟨by first | omega | exact Nat.le_refl _⟩, by repeat (first | exact Drawn0.refl _ | apply Drawn0.step)⟩
  case rest =>
    clear HC4
    try clear c1
    try clear p2
    try clear c5
    try clear c5b0
    obtain ⟨kq, x24_3, rfl, HA, HJ3, ⟨mc3, rfl⟩⟩ := hcut
    cases kq with
    | zero => exact absurd HA.out (by simp [tumblerlaw06_WindowHolds.j0])
    | succ kj3 =>
      have H := HA.out
      clear HA
      simp only [tumblerlaw06_WindowHolds.j0] at H
      by_cases c6 : x24_3 = true
      · subst c6
        have H1 : (if t181 = 61 then (some (t180 == 0)) else (some false)) = some r := by rw [if_pos rfl] at H; exact H
        clear H
        have H := H1
        clear H1
        by_cases c7 : t181 = 61
        · rw [if_pos c7] at H
          have c7b0 : (t181 == 61) = true := beq_iff_eq.mpr c7
          have c7b1 : (t181 != 61) = false := bne_eq_false_iff_eq.mpr c7
          clear c7
          obtain rfl := Option.some.inj H
          go_wp2
          go_ret
          exact ⟨by first | rfl | (simp; done) | (simp [*]; done), by repeat (first | exact Drawn0.refl _ | apply Drawn0.step)⟩
        · rw [if_neg c7] at H
          have c7b0 : (t181 == 61) = false := beq_eq_false_iff_ne.mpr c7
          have c7b1 : (t181 != 61) = true := bne_iff_ne.mpr c7
          obtain rfl := Option.some.inj H
          go_wp2
          go_ret
          exact ⟨by first | rfl | (simp; done) | (simp [*]; done), by repeat (first | exact Drawn0.refl _ | apply Drawn0.step)⟩
      · replace c6 := Bool.eq_false_iff.mpr c6
        subst c6
        have H1 : ((tumblerlaw06_awake.f).bind fun t182 => (if t182 = true then (tumblerlaw06_WindowHolds.j1 kj3 a0 a1 t180 (t181 != 0)) else (tumblerlaw06_WindowHolds.j1 kj3 a0 a1 t180 true))) = some r := by rw [if_neg (show ¬ (false = true) by decide)] at H; exact H
        clear H
        have H := H1
        clear H1
        have HC8 := Aside0.mk H
        clear H
        go_upto_region 4 with (fail)
        go_cut [36] (fun v36 wc => ∃ (kq : Nat) (x36_7 : Bool), v36 = .bool x36_7 ∧ Aside0 (tumblerlaw06_WindowHolds.j1 kq a0 a1 t180 x36_7 = some r) ∧ Aside0 (kq ≤ kj3) ∧ Drawn0 w wc)
        case first =>
          have H := HC8.out
          clear HC8
          replace H := Option.bind_eq_some_iff.mp H
          obtain ⟨t182, A90, H⟩ := H
          replace H : (if t182 = true then (tumblerlaw06_WindowHolds.j1 kj3 a0 a1 t180 (t181 != 0)) else (tumblerlaw06_WindowHolds.j1 kj3 a0 a1 t180 true)) = some r := H
          have A9 := Aside0.mk A90
          clear A90
          by_cases c10 : t182 = true
          · subst c10
            have H1 : (tumblerlaw06_WindowHolds.j1 kj3 a0 a1 t180 (t181 != 0)) = some r := by rw [if_pos rfl] at H; exact H
            clear H
            have H := H1
            clear H1
            have H' := Aside0.mk H
            clear H
            go_wp2_with (first | ((with_reducible refine gate_callee (f := 13) rfl ?_); refine goesL_ (some 31) rfl rfl Try.func13 (by kernel_rfl) rfl #[] rfl (by (try simp only [List.map_toArray, List.map_cons, List.map_nil]); first | done | rfl | (simp only [List.length_drop, List.length_take]; rfl)) ?_; (with_reducible refine (tumblerlaw06_awake.calls  true _ A9.out).mono ?_); rintro e w' ⟨rfl, ⟨nd, rfl⟩⟩; refine ⟨_, rfl, ?_⟩))
            go_meet
            case rel => exact ⟨_, ((t181 != 0)), (by first | rfl | (simp; done) | (simp [*]; done)), H', ⟨by have := HJ3.out; first | omega | exact Nat.le_refl _⟩, by repeat (first | exact Drawn0.refl _ | apply Drawn0.step)⟩
          · replace c10 := Bool.eq_false_iff.mpr c10
            subst c10
            have H1 : (tumblerlaw06_WindowHolds.j1 kj3 a0 a1 t180 true) = some r := by rw [if_neg (show ¬ (false = true) by decide)] at H; exact H
            clear H
            have H := H1
            clear H1
            have H' := Aside0.mk H
            clear H
            go_wp2_with (first | ((with_reducible refine gate_callee (f := 13) rfl ?_); refine goesL_ (some 31) rfl rfl Try.func13 (by kernel_rfl) rfl #[] rfl (by (try simp only [List.map_toArray, List.map_cons, List.map_nil]); first | done | rfl | (simp only [List.length_drop, List.length_take]; rfl)) ?_; (with_reducible refine (tumblerlaw06_awake.calls  false _ A9.out).mono ?_); rintro e w' ⟨rfl, ⟨nd, rfl⟩⟩; refine ⟨_, rfl, ?_⟩))
            go_meet
            case rel => exact ⟨_, (true), (by first | rfl | (simp; done) | (simp [*]; done)), H', ⟨by have := HJ3.out; first | omega | exact Nat.le_refl _⟩, by repeat (first | exact Drawn0.refl _ | apply Drawn0.step)⟩
        case rest =>
          clear HC8
          try clear c1
          try clear p2
          try clear c3
          try clear c5
          try clear c5b0
          try clear c6
          try clear c7
          try clear c7b0
          try clear c7b1
          try clear c8
          try clear c10
          try clear p2
          obtain ⟨kq, x36_7, rfl, HA, HJ7, ⟨mc7, rfl⟩⟩ := hcut
          cases kq with
          | zero => exact absurd HA.out (by simp [tumblerlaw06_WindowHolds.j1])
          | succ kj7 =>
            have H := HA.out
            clear HA
            simp only [tumblerlaw06_WindowHolds.j1] at H
            by_cases c11 : x36_7 = true
            · subst c11
              have H1 : (some false) = some r := by rw [if_pos rfl] at H; exact H
              clear H
              have H := H1
              clear H1
              obtain rfl := Option.some.inj H
              go_wp2
              go_ret
              exact ⟨by first | rfl | (simp; done) | (simp [*]; done), by repeat (first | exact Drawn0.refl _ | apply Drawn0.step)⟩
            · replace c11 := Bool.eq_false_iff.mpr c11
              subst c11
              have H1 : ((window_Begin.f t180 a1).bind fun bt183 => ((window_End.f t180 a1).bind fun bt185 => (if bt183.2 = 0 then (if bt183.1 > a0 then (tumblerlaw06_WindowHolds.j2 kj7 a0 a1 t180 bt183.2 bt185.1 bt185.2 true) else (if bt185.2 = 0 then (if bt185.1 ≤ a0 then (tumblerlaw06_WindowHolds.j2 kj7 a0 a1 t180 bt183.2 bt185.1 bt185.2 true) else (tumblerlaw06_WindowHolds.j2 kj7 a0 a1 t180 bt183.2 bt185.1 bt185.2 ((wrap64 (bt185.1 - bt183.1)) != a1))) else (tumblerlaw06_WindowHolds.j2 kj7 a0 a1 t180 bt183.2 bt185.1 bt185.2 false))) else (if bt185.2 = 0 then (if bt185.1 ≤ a0 then (tumblerlaw06_WindowHolds.j2 kj7 a0 a1 t180 bt183.2 bt185.1 bt185.2 true) else (tumblerlaw06_WindowHolds.j2 kj7 a0 a1 t180 bt183.2 bt185.1 bt185.2 false)) else (tumblerlaw06_WindowHolds.j2 kj7 a0 a1 t180 bt183.2 bt185.1 bt185.2 false))))) = some r := by rw [if_neg (show ¬ (false = true) by decide)] at H; exact H
              clear H
              have H := H1
              clear H1
              replace H := Option.bind_eq_some_iff.mp H
              obtain ⟨⟨t183, t184⟩, A120, H⟩ := H
              replace H : ((window_End.f t180 a1).bind fun bt185 => (if t184 = 0 then (if t183 > a0 then (tumblerlaw06_WindowHolds.j2 kj7 a0 a1 t180 t184 bt185.1 bt185.2 true) else (if bt185.2 = 0 then (if bt185.1 ≤ a0 then (tumblerlaw06_WindowHolds.j2 kj7 a0 a1 t180 t184 bt185.1 bt185.2 true) else (tumblerlaw06_WindowHolds.j2 kj7 a0 a1 t180 t184 bt185.1 bt185.2 ((wrap64 (bt185.1 - t183)) != a1))) else (tumblerlaw06_WindowHolds.j2 kj7 a0 a1 t180 t184 bt185.1 bt185.2 false))) else (if bt185.2 = 0 then (if bt185.1 ≤ a0 then (tumblerlaw06_WindowHolds.j2 kj7 a0 a1 t180 t184 bt185.1 bt185.2 true) else (tumblerlaw06_WindowHolds.j2 kj7 a0 a1 t180 t184 bt185.1 bt185.2 false)) else (tumblerlaw06_WindowHolds.j2 kj7 a0 a1 t180 t184 bt185.1 bt185.2 false)))) = some r := H
              have A12 := Aside0.mk A120
              clear A120
              replace H := Option.bind_eq_some_iff.mp H
              obtain ⟨⟨t185, t186⟩, A130, H⟩ := H
              replace H : (if t184 = 0 then (if t183 > a0 then (tumblerlaw06_WindowHolds.j2 kj7 a0 a1 t180 t184 t185 t186 true) else (if t186 = 0 then (if t185 ≤ a0 then (tumblerlaw06_WindowHolds.j2 kj7 a0 a1 t180 t184 t185 t186 true) else (tumblerlaw06_WindowHolds.j2 kj7 a0 a1 t180 t184 t185 t186 ((wrap64 (t185 - t183)) != a1))) else (tumblerlaw06_WindowHolds.j2 kj7 a0 a1 t180 t184 t185 t186 false))) else (if t186 = 0 then (if t185 ≤ a0 then (tumblerlaw06_WindowHolds.j2 kj7 a0 a1 t180 t184 t185 t186 true) else (tumblerlaw06_WindowHolds.j2 kj7 a0 a1 t180 t184 t185 t186 false)) else (tumblerlaw06_WindowHolds.j2 kj7 a0 a1 t180 t184 t185 t186 false))) = some r := H
              have A13 := Aside0.mk A130
              clear A130
              have HC14 := Aside0.mk H
              clear H
              go_upto_region 8 with (first | ((with_reducible refine gate_callee (f := 21) rfl ?_); refine goesL_ (some 40) rfl rfl Try.func21 (by kernel_rfl) rfl #[.int .i64 t180, .int .i64 a1] rfl (by (try simp only [List.map_toArray, List.map_cons, List.map_nil]); first | done | rfl | (simp only [List.length_drop, List.length_take]; rfl)) ?_; (with_reducible refine (window_Begin.calls t180 a1 t183 t184 _ A12.out).mono ?_); rintro e w' ⟨rfl, ⟨nd, rfl⟩⟩; refine ⟨_, rfl, ?_⟩) | ((with_reducible refine gate_callee (f := 23) rfl ?_); refine goesL_ (some 46) rfl rfl Try.func23 (by kernel_rfl) rfl #[.int .i64 t180, .int .i64 a1] rfl (by (try simp only [List.map_toArray, List.map_cons, List.map_nil]); first | done | rfl | (simp only [List.length_drop, List.length_take]; rfl)) ?_; (with_reducible refine (window_End.calls t180 a1 t185 t186 _ A13.out).mono ?_); rintro e w' ⟨rfl, ⟨nd, rfl⟩⟩; refine ⟨_, rfl, ?_⟩))
              (try simp only [Act.put, List.setIfInBounds_toArray, List.set_cons_zero, List.set_cons_succ])
              go_cut [79] (fun v79 wc => ∃ (kq : Nat) (x79_13 : Bool), v79 = .bool x79_13 ∧ Aside0 (tumblerlaw06_WindowHolds.j2 kq a0 a1 t180 t184 t185 t186 x79_13 = some r) ∧ Aside0 (kq ≤ kj7) ∧ Drawn0 w wc)
              case first =>
                have H := HC14.out
                clear HC14
                by_cases c15 : t184 = 0
                · rw [if_pos c15] at H
                  have c15b0 : (t184 == 0) = true := beq_iff_eq.mpr c15
                  have c15b1 : (t184 != 0) = false := bne_eq_false_iff_eq.mpr c15
                  clear c15
                  (first | rw [c15b0] | (simp only [i64_w, i32_w]; rw [c15b0]) | skip)
                  by_cases c16 : t183 > a0
                  · rw [if_pos c16] at H
                    have c16b0 : decide (a0 < t183) = true := decide_eq_true c16
                    clear c16
                    have H' := Aside0.mk H
                    clear H
                    go_wp2
                    go_meet
                    case rel => exact ⟨_, (true), (by first | rfl | (simp; done) | (simp [*]; done)), H', ⟨by have := HJ3.out; have := HJ7.out; first | omega | exact Nat.le_refl _⟩, by repeat (first | exact Drawn0.refl _ | apply Drawn0.step)⟩
                  · rw [if_neg c16] at H
                    have c16b0 : decide (a0 < t183) = false := decide_eq_false c16
                    clear c16
                    by_cases c17 : t186 = 0
                    · rw [if_pos c17] at H
                      have c17b0 : (t186 == 0) = true := beq_iff_eq.mpr c17
                      have c17b1 : (t186 != 0) = false := bne_eq_false_iff_eq.mpr c17
                      clear c17
                      by_cases c18 : t185 ≤ a0
                      · rw [if_pos c18] at H
                        have c18b0 : decide (t185 ≤ a0) = true := decide_eq_true c18
                        clear c18
                        have H' := Aside0.mk H
                        clear H
                        go_wp2
                        go_meet
                        case rel => exact ⟨_, (true), (by first | rfl | (simp; done) | (simp [*]; done)), H', ⟨by have := HJ3.out; have := HJ7.out; first | omega | exact Nat.le_refl _⟩, by repeat (first | exact Drawn0.refl _ | apply Drawn0.step)⟩
                      · rw [if_neg c18] at H
                        have c18b0 : decide (t185 ≤ a0) = false := decide_eq_false c18
                        clear c18
                        have H' := Aside0.mk H
                        clear H
                        go_wp2
                        go_meet
                        case rel => exact ⟨_, (((wrap64 (t185 - t183)) != a1)), (by first | rfl | (simp; done) | (simp [*]; done)), H', ⟨by have := HJ3.out; have := HJ7.out; first | omega | exact Nat.le_refl _⟩, by repeat (first | exact Drawn0.refl _ | apply Drawn0.step)⟩
                    · rw [if_neg c17] at H
                      have c17b0 : (t186 == 0) = false := beq_eq_false_iff_ne.mpr c17
                      have c17b1 : (t186 != 0) = true := bne_iff_ne.mpr c17
                      have H' := Aside0.mk H
                      clear H
                      go_wp2
                      go_meet
                      case rel => exact ⟨_, (false), (by first | rfl | (simp; done) | (simp [*]; done)), H', ⟨by have := HJ3.out; have := HJ7.out; first | omega | exact Nat.le_refl _⟩, by repeat (first | exact Drawn0.refl _ | apply Drawn0.step)⟩
                · rw [if_neg c15] at H
                  have c15b0 : (t184 == 0) = false := beq_eq_false_iff_ne.mpr c15
                  have c15b1 : (t184 != 0) = true := bne_iff_ne.mpr c15
                  (first | rw [c15b0] | (simp only [i64_w, i32_w]; rw [c15b0]) | skip)
                  by_cases c19 : t186 = 0
                  · rw [if_pos c19] at H
                    have c19b0 : (t186 == 0) = true := beq_iff_eq.mpr c19
                    have c19b1 : (t186 != 0) = false := bne_eq_false_iff_eq.mpr c19
                    clear c19
                    by_cases c20 : t185 ≤ a0
                    · rw [if_pos c20] at H
                      have c20b0 : decide (t185 ≤ a0) = true := decide_eq_true c20
                      clear c20
                      have H' := Aside0.mk H
                      clear H
                      go_wp2
                      go_meet
                      case rel => exact ⟨_, (true), (by first | rfl | (simp; done) | (simp [*]; done)), H', ⟨by have := HJ3.out; have := HJ7.out; first | omega | exact Nat.le_refl _⟩, by repeat (first | exact Drawn0.refl _ | apply Drawn0.step)⟩
                    · rw [if_neg c20] at H
                      have c20b0 : decide (t185 ≤ a0) = false := decide_eq_false c20
                      clear c20
                      have H' := Aside0.mk H
                      clear H
                      go_wp2
                      go_meet
                      case rel => exact ⟨_, (false), (by first | rfl | (simp; done) | (simp [*]; done)), H', ⟨by have := HJ3.out; have := HJ7.out; first | omega | exact Nat.le_refl _⟩, by repeat (first | exact Drawn0.refl _ | apply Drawn0.step)⟩
                  · rw [if_neg c19] at H
                    have c19b0 : (t186 == 0) = false := beq_eq_false_iff_ne.mpr c19
                    have c19b1 : (t186 != 0) = true := bne_iff_ne.mpr c19
                    have H' := Aside0.mk H
                    clear H
                    go_wp2
                    go_meet
                    case rel => exact ⟨_, (false), (by first | rfl | (simp; done) | (simp [*]; done)), H', ⟨by have := HJ3.out; have := HJ7.out; first | omega | exact Nat.le_refl _⟩, by repeat (first | exact Drawn0.refl _ | apply Drawn0.step)⟩
              case rest =>
                clear HC14
                try clear c1
                try clear c2
                try clear p2
                try clear c3
                try clear c5
                try clear c5b0
                try clear c6
                try clear p6
                try clear c7
                try clear c7b0
                try clear c7b1
                try clear c8
                try clear c10
                try clear c11
                try clear c13
                try clear c14
                try clear c15
                try clear c15b0
                try clear c15b1
                try clear c16
                try clear c16b0
                try clear c17
                try clear c17b0
                try clear c17b1
                try clear c18
                try clear c18b0
                try clear c19
                try clear c19b0
                try clear c19b1
                try clear c20
                try clear c20b0
                try clear p2
                obtain ⟨kq, x79_13, rfl, HA, HJ13, ⟨mc13, rfl⟩⟩ := hcut
                cases kq with
                | zero => exact absurd HA.out (by simp [tumblerlaw06_WindowHolds.j2])
                | succ kj13 =>
                  have H := HA.out
                  clear HA
                  simp only [tumblerlaw06_WindowHolds.j2] at H
                  by_cases c21 : x79_13 = true
                  · subst c21
                    have H1 : (some false) = some r := by rw [if_pos rfl] at H; exact H
                    clear H
                    have H := H1
                    clear H1
                    obtain rfl := Option.some.inj H
                    go_wp2
                    go_ret
                    exact ⟨by first | rfl | (simp; done) | (simp [*]; done), by repeat (first | exact Drawn0.refl _ | apply Drawn0.step)⟩
                  · replace c21 := Bool.eq_false_iff.mpr c21
                    subst c21
                    have H1 : (if t184 = 0 then (if t186 = 0 then (tumblerlaw06_WindowHolds.j3 kj13 a1 t180 t185 t186 false) else (if t186 = 60 then (tumblerlaw06_WindowHolds.j3 kj13 a1 t180 t185 t186 (decide (a0 < (wrap64 (9223372036854775807 - a1))))) else (tumblerlaw06_WindowHolds.j3 kj13 a1 t180 t185 t186 true))) else (if t184 = 60 then (if a0 > (wrap64 ((-9223372036854775808) + a1)) then (tumblerlaw06_WindowHolds.j3 kj13 a1 t180 t185 t186 true) else (if t186 = 0 then (tumblerlaw06_WindowHolds.j3 kj13 a1 t180 t185 t186 false) else (if t186 = 60 then (tumblerlaw06_WindowHolds.j3 kj13 a1 t180 t185 t186 (decide (a0 < (wrap64 (9223372036854775807 - a1))))) else (tumblerlaw06_WindowHolds.j3 kj13 a1 t180 t185 t186 true)))) else (tumblerlaw06_WindowHolds.j3 kj13 a1 t180 t185 t186 true))) = some r := by rw [if_neg (show ¬ (false = true) by decide)] at H; exact H
                    clear H
                    have H := H1
                    clear H1
                    have HC22 := Aside0.mk H
                    clear H
                    go_upto_region 10 with (fail)
                    go_cut [105] (fun v105 wc => ∃ (kq : Nat) (x105_21 : Bool), v105 = .bool x105_21 ∧ Aside0 (tumblerlaw06_WindowHolds.j3 kq a1 t180 t185 t186 x105_21 = some r) ∧ Aside0 (kq ≤ kj13) ∧ Drawn0 w wc)
                    case first =>
                      have H := HC22.out
                      clear HC22
                      by_cases c23 : t184 = 0
                      · rw [if_pos c23] at H
                        have c23b0 : (t184 == 0) = true := beq_iff_eq.mpr c23
                        have c23b1 : (t184 != 0) = false := bne_eq_false_iff_eq.mpr c23
                        clear c23
                        (first | rw [c23b0] | (simp only [i64_w, i32_w]; rw [c23b0]) | skip)
                        by_cases c24 : t186 = 0
                        · rw [if_pos c24] at H
                          have c24b0 : (t186 == 0) = true := beq_iff_eq.mpr c24
                          have c24b1 : (t186 != 0) = false := bne_eq_false_iff_eq.mpr c24
                          clear c24
                          have H' := Aside0.mk H
                          clear H
                          go_wp2
                          go_meet
                          case rel => exact ⟨_, (false), (by first | rfl | (simp; done) | (simp [*]; done)), H', ⟨by have := HJ3.out; have := HJ7.out; have := HJ13.out; first | omega | exact Nat.le_refl _⟩, by repeat (first | exact Drawn0.refl _ | apply Drawn0.step)⟩
                        · rw [if_neg c24] at H
                          have c24b0 : (t186 == 0) = false := beq_eq_false_iff_ne.mpr c24
                          have c24b1 : (t186 != 0) = true := bne_iff_ne.mpr c24
                          by_cases c25 : t186 = 60
                          · rw [if_pos c25] at H
                            have c25b0 : (t186 == 60) = true := beq_iff_eq.mpr c25
                            have c25b1 : (t186 != 60) = false := bne_eq_false_iff_eq.mpr c25
                            clear c25
                            have H' := Aside0.mk H
                            clear H
                            go_wp2
                            go_meet
                            case rel => exact ⟨_, (decide (a0 < (wrap64 (9223372036854775807 - a1)))), (by first | rfl | (simp; done) | (simp [*]; done)), H', ⟨by have := HJ3.out; have := HJ7.out; have := HJ13.out; first | omega | exact Nat.le_refl _⟩, by repeat (first | exact Drawn0.refl _ | apply Drawn0.step)⟩
                          · rw [if_neg c25] at H
                            have c25b0 : (t186 == 60) = false := beq_eq_false_iff_ne.mpr c25
                            have c25b1 : (t186 != 60) = true := bne_iff_ne.mpr c25
                            have H' := Aside0.mk H
                            clear H
                            go_wp2
                            go_meet
                            case rel => exact ⟨_, (true), (by first | rfl | (simp; done) | (simp [*]; done)), H', ⟨by have := HJ3.out; have := HJ7.out; have := HJ13.out; first | omega | exact Nat.le_refl _⟩, by repeat (first | exact Drawn0.refl _ | apply Drawn0.step)⟩
                      · rw [if_neg c23] at H
                        have c23b0 : (t184 == 0) = false := beq_eq_false_iff_ne.mpr c23
                        have c23b1 : (t184 != 0) = true := bne_iff_ne.mpr c23
                        (first | rw [c23b0] | (simp only [i64_w, i32_w]; rw [c23b0]) | skip)
                        by_cases c26 : t184 = 60
                        · rw [if_pos c26] at H
                          have c26b0 : (t184 == 60) = true := beq_iff_eq.mpr c26
                          have c26b1 : (t184 != 60) = false := bne_eq_false_iff_eq.mpr c26
                          clear c26
                          by_cases c27 : a0 > (wrap64 ((-9223372036854775808) + a1))
                          · rw [if_pos c27] at H
                            have c27b0 : decide ((wrap64 ((-9223372036854775808) + a1)) < a0) = true := decide_eq_true c27
                            clear c27
                            have H' := Aside0.mk H
                            clear H
                            go_wp2
                            go_meet
                            case rel => exact ⟨_, (true), (by first | rfl | (simp; done) | (simp [*]; done)), H', ⟨by have := HJ3.out; have := HJ7.out; have := HJ13.out; first | omega | exact Nat.le_refl _⟩, by repeat (first | exact Drawn0.refl _ | apply Drawn0.step)⟩
                          · rw [if_neg c27] at H
                            have c27b0 : decide ((wrap64 ((-9223372036854775808) + a1)) < a0) = false := decide_eq_false c27
                            clear c27
                            by_cases c28 : t186 = 0
                            · rw [if_pos c28] at H
                              have c28b0 : (t186 == 0) = true := beq_iff_eq.mpr c28
                              have c28b1 : (t186 != 0) = false := bne_eq_false_iff_eq.mpr c28
                              clear c28
                              have H' := Aside0.mk H
                              clear H
                              go_wp2
                              go_meet
                              case rel => exact ⟨_, (false), (by first | rfl | (simp; done) | (simp [*]; done)), H', ⟨by have := HJ3.out; have := HJ7.out; have := HJ13.out; first | omega | exact Nat.le_refl _⟩, by repeat (first | exact Drawn0.refl _ | apply Drawn0.step)⟩
                            · rw [if_neg c28] at H
                              have c28b0 : (t186 == 0) = false := beq_eq_false_iff_ne.mpr c28
                              have c28b1 : (t186 != 0) = true := bne_iff_ne.mpr c28
                              by_cases c29 : t186 = 60
                              · rw [if_pos c29] at H
                                have c29b0 : (t186 == 60) = true := beq_iff_eq.mpr c29
                                have c29b1 : (t186 != 60) = false := bne_eq_false_iff_eq.mpr c29
                                clear c29
                                have H' := Aside0.mk H
                                clear H
                                go_wp2
                                go_meet
                                case rel => exact ⟨_, (decide (a0 < (wrap64 (9223372036854775807 - a1)))), (by first | rfl | (simp; done) | (simp [*]; done)), H', ⟨by have := HJ3.out; have := HJ7.out; have := HJ13.out; first | omega | exact Nat.le_refl _⟩, by repeat (first | exact Drawn0.refl _ | apply Drawn0.step)⟩
                              · rw [if_neg c29] at H
                                have c29b0 : (t186 == 60) = false := beq_eq_false_iff_ne.mpr c29
                                have c29b1 : (t186 != 60) = true := bne_iff_ne.mpr c29
                                have H' := Aside0.mk H
                                clear H
                                go_wp2
                                go_meet
                                case rel => exact ⟨_, (true), (by first | rfl | (simp; done) | (simp [*]; done)), H', ⟨by have := HJ3.out; have := HJ7.out; have := HJ13.out; first | omega | exact Nat.le_refl _⟩, by repeat (first | exact Drawn0.refl _ | apply Drawn0.step)⟩
                        · rw [if_neg c26] at H
                          have c26b0 : (t184 == 60) = false := beq_eq_false_iff_ne.mpr c26
                          have c26b1 : (t184 != 60) = true := bne_iff_ne.mpr c26
                          have H' := Aside0.mk H
                          clear H
                          go_wp2
                          go_meet
                          case rel => exact ⟨_, (true), (by first | rfl | (simp; done) | (simp [*]; done)), H', ⟨by have := HJ3.out; have := HJ7.out; have := HJ13.out; first | omega | exact Nat.le_refl _⟩, by repeat (first | exact Drawn0.refl _ | apply Drawn0.step)⟩
                    case rest =>
                      clear HC22
                      try clear c1
                      try clear c2
                      try clear p2
                      try clear c3
                      try clear c5
                      try clear c5b0
                      try clear c6
                      try clear p6
                      try clear c7
                      try clear c7b0
                      try clear c7b1
                      try clear c8
                      try clear c10
                      try clear c11
                      try clear c13
                      try clear c14
                      try clear c15
                      try clear c15b0
                      try clear c15b1
                      try clear c16
                      try clear c16b0
                      try clear c17
                      try clear c17b0
                      try clear c17b1
                      try clear c18
                      try clear c18b0
                      try clear c19
                      try clear c19b0
                      try clear c19b1
                      try clear c20
                      try clear c20b0
                      try clear c21
                      try clear c23
                      try clear c23b0
                      try clear c23b1
                      try clear c24
                      try clear c24b0
                      try clear c24b1
                      try clear c25
                      try clear c25b0
                      try clear c25b1
                      try clear c26
                      try clear c26b0
                      try clear c26b1
                      try clear c27
                      try clear c27b0
                      try clear c28
                      try clear c28b0
                      try clear c28b1
                      try clear c29
                      try clear c29b0
                      try clear c29b1
                      try clear p2
                      try clear p6
                      obtain ⟨kq, x105_21, rfl, HA, HJ21, ⟨mc21, rfl⟩⟩ := hcut
                      cases kq with
                      | zero => exact absurd HA.out (by simp [tumblerlaw06_WindowHolds.j3])
                      | succ kj21 =>
                        have H := HA.out
                        clear HA
                        simp only [tumblerlaw06_WindowHolds.j3] at H
                        by_cases c30 : x105_21 = true
                        · subst c30
                          have H1 : (some false) = some r := by rw [if_pos rfl] at H; exact H
                          clear H
                          have H := H1
                          clear H1
                          obtain rfl := Option.some.inj H
                          go_wp2
                          go_ret
                          exact ⟨by first | rfl | (simp; done) | (simp [*]; done), by repeat (first | exact Drawn0.refl _ | apply Drawn0.step)⟩
                        · replace c30 := Bool.eq_false_iff.mpr c30
                          subst c30
                          have H1 : (if t180 = 9223372036854775807 then (some true) else ((window_Begin.f (wrap64 (t180 + 1)) a1).bind fun bt187 => (if bt187.2 = t186 then (some (bt187.1 == t185)) else (some false)))) = some r := by rw [if_neg (show ¬ (false = true) by decide)] at H; exact H
                          clear H
                          have H := H1
                          clear H1
                          by_cases c31 : t180 = 9223372036854775807
                          · rw [if_pos c31] at H
                            have c31b0 : (t180 == 9223372036854775807) = true := beq_iff_eq.mpr c31
                            have c31b1 : (t180 != 9223372036854775807) = false := bne_eq_false_iff_eq.mpr c31
                            clear c31
                            obtain rfl := Option.some.inj H
                            go_wp2
                            go_ret
                            exact ⟨by first | rfl | (simp; done) | (simp [*]; done), by repeat (first | exact Drawn0.refl _ | apply Drawn0.step)⟩
                          · rw [if_neg c31] at H
                            have c31b0 : (t180 == 9223372036854775807) = false := beq_eq_false_iff_ne.mpr c31
                            have c31b1 : (t180 != 9223372036854775807) = true := bne_iff_ne.mpr c31
                            replace H := Option.bind_eq_some_iff.mp H
                            obtain ⟨⟨t187, t188⟩, A320, H⟩ := H
                            replace H : (if t188 = t186 then (some (t187 == t185)) else (some false)) = some r := H
                            have A32 := Aside0.mk A320
                            clear A320
                            by_cases c33 : t188 = t186
                            · rw [if_pos c33] at H
                              have c33b0 : (t188 == t186) = true := beq_iff_eq.mpr c33
                              have c33b1 : (t188 != t186) = false := bne_eq_false_iff_eq.mpr c33
                              clear c33
                              obtain rfl := Option.some.inj H
                              go_wp2_with (first | ((with_reducible refine gate_callee (f := 21) rfl ?_); refine goesL_ (some 112) rfl rfl Try.func21 (by kernel_rfl) rfl #[.int .i64 (wrap64 (t180 + 1)), .int .i64 a1] rfl (by (try simp only [List.map_toArray, List.map_cons, List.map_nil]); first | done | rfl | (simp only [List.length_drop, List.length_take]; rfl)) ?_; (with_reducible refine (window_Begin.calls (wrap64 (t180 + 1)) a1 t187 t188 _ A32.out).mono ?_); rintro e w' ⟨rfl, ⟨nd, rfl⟩⟩; refine ⟨_, rfl, ?_⟩))
                              go_ret
                              exact ⟨by first | rfl | (simp; done) | (simp [*]; done), by repeat (first | exact Drawn0.refl _ | apply Drawn0.step)⟩
                            · rw [if_neg c33] at H
                              have c33b0 : (t188 == t186) = false := beq_eq_false_iff_ne.mpr c33
                              have c33b1 : (t188 != t186) = true := bne_iff_ne.mpr c33
                              obtain rfl := Option.some.inj H
                              go_wp2_with (first | ((with_reducible refine gate_callee (f := 21) rfl ?_); refine goesL_ (some 112) rfl rfl Try.func21 (by kernel_rfl) rfl #[.int .i64 (wrap64 (t180 + 1)), .int .i64 a1] rfl (by (try simp only [List.map_toArray, List.map_cons, List.map_nil]); first | done | rfl | (simp only [List.length_drop, List.length_take]; rfl)) ?_; (with_reducible refine (window_Begin.calls (wrap64 (t180 + 1)) a1 t187 t188 _ A32.out).mono ?_); rintro e w' ⟨rfl, ⟨nd, rfl⟩⟩; refine ⟨_, rfl, ?_⟩))
                              go_ret
                              exact ⟨by first | rfl | (simp; done) | (simp [*]; done), by repeat (first | exact Drawn0.refl _ | apply Drawn0.step)⟩

/-- THE ONE PURE STATEMENT of tumblerlaw06_WindowHolds: yours. -/
def tumblerlaw06_WindowHolds.Pure : Prop := ∀ (a0 : Int) (a1 : Int), (Lit.int .i64 a0).wf = true → (Lit.int .i64 a1).wf = true → ∃ k, tumblerlaw06_WindowHolds.f k a0 a1 = some true
theorem tumblerlaw06_WindowHolds.walk (P : tumblerlaw06_WindowHolds.Pure) (a0 : Int) (a1 : Int) (w : World) (w0 : (Lit.int .i64 a0).wf = true) (w1 : (Lit.int .i64 a1).wf = true) :
    Calls Try.prog 8 #[.int .i64 a0, .int .i64 a1] w fun e w' => e = .returned (.bool true) ∧ Below w.heap.size w w' := by
  obtain ⟨k, h⟩ := P a0 a1 w0 w1
  refine (tumblerlaw06_WindowHolds.calls k a0 a1 true w h).mono ?_
  rintro e w' ⟨rfl, hd⟩
  exact ⟨rfl, hd.below⟩

/-! ### window_Through: function 15 -/
def window_Through.f (a0 : Int) (a1 : Int) : Option (Int × Int) := (window_wrong.f a1).bind fun t189 => (if t189 = true then (some (0, 61)) else ((window_floor.f a0 a1).bind fun t190 => (if t190 = (-9223372036854775808) then (some (0, 60)) else (some (wrap64 (t190 - 1), 0)))))
set_option maxHeartbeats 8000000 in
set_option maxRecDepth 100000 in
theorem window_Through.calls (a0 : Int) (a1 : Int) (r1 : Int) (r2 : Int) (w : World) (h : window_Through.f a0 a1 = some (r1, r2)) :
    Calls Try.prog 15 #[.int .i64 a0, .int .i64 a1] w fun e w' => e = .returned (.tuple #[.int .i64 r1, .int .i64 r2]) ∧ Drawn0 w w' := by
  have H : ((window_wrong.f a1).bind fun t189 => (if t189 = true then (some (0, 61)) else ((window_floor.f a0 a1).bind fun t190 => (if t190 = (-9223372036854775808) then (some (0, 60)) else (some (wrap64 (t190 - 1), 0)))))) = some (r1, r2) := h
  clear h
  replace H := Option.bind_eq_some_iff.mp H
  obtain ⟨t189, A30, H⟩ := H
  replace H : (if t189 = true then (some (0, 61)) else ((window_floor.f a0 a1).bind fun t190 => (if t190 = (-9223372036854775808) then (some (0, 60)) else (some (wrap64 (t190 - 1), 0))))) = some (r1, r2) := H
  have A3 := Aside0.mk A30
  clear A30
  by_cases c4 : t189 = true
  · subst c4
    have H1 : (some (0, 61)) = some (r1, r2) := by rw [if_pos rfl] at H; exact H
    clear H
    have H := H1
    clear H1
    simp only [Option.some.injEq, Prod.mk.injEq] at H
    obtain ⟨rfl, rfl⟩ := H
    go_enter Try.func15, Try.ntmps15
    go_wp2_with (first | ((with_reducible refine gate_callee (f := 34) rfl ?_); refine goesL_ (some 8) rfl rfl Try.func34 (by kernel_rfl) rfl #[.int .i64 a1] rfl (by (try simp only [List.map_toArray, List.map_cons, List.map_nil]); first | done | rfl | (simp only [List.length_drop, List.length_take]; rfl)) ?_; (with_reducible refine (window_wrong.calls a1 true _ A3.out).mono ?_); rintro e w' ⟨rfl, ⟨nd, rfl⟩⟩; refine ⟨_, rfl, ?_⟩))
    go_ret2
    exact ⟨by first | rfl | (simp; done) | (simp [*]; done), by repeat (first | exact Drawn0.refl _ | apply Drawn0.step)⟩
  · replace c4 := Bool.eq_false_iff.mpr c4
    subst c4
    have H1 : ((window_floor.f a0 a1).bind fun t190 => (if t190 = (-9223372036854775808) then (some (0, 60)) else (some (wrap64 (t190 - 1), 0)))) = some (r1, r2) := by rw [if_neg (show ¬ (false = true) by decide)] at H; exact H
    clear H
    have H := H1
    clear H1
    replace H := Option.bind_eq_some_iff.mp H
    obtain ⟨t190, A50, H⟩ := H
    replace H : (if t190 = (-9223372036854775808) then (some (0, 60)) else (some (wrap64 (t190 - 1), 0))) = some (r1, r2) := H
    have A5 := Aside0.mk A50
    clear A50
    by_cases c6 : t190 = (-9223372036854775808)
    · rw [if_pos c6] at H
      have c6b0 : (t190 == (-9223372036854775808)) = true := beq_iff_eq.mpr c6
      have c6b1 : (t190 != (-9223372036854775808)) = false := bne_eq_false_iff_eq.mpr c6
      clear c6
      simp only [Option.some.injEq, Prod.mk.injEq] at H
      obtain ⟨rfl, rfl⟩ := H
      go_enter Try.func15, Try.ntmps15
      go_wp2_with (first | ((with_reducible refine gate_callee (f := 34) rfl ?_); refine goesL_ (some 8) rfl rfl Try.func34 (by kernel_rfl) rfl #[.int .i64 a1] rfl (by (try simp only [List.map_toArray, List.map_cons, List.map_nil]); first | done | rfl | (simp only [List.length_drop, List.length_take]; rfl)) ?_; (with_reducible refine (window_wrong.calls a1 false _ A3.out).mono ?_); rintro e w' ⟨rfl, ⟨nd, rfl⟩⟩; refine ⟨_, rfl, ?_⟩) | ((with_reducible refine gate_callee (f := 35) rfl ?_); refine goesL_ (some 11) rfl rfl Try.func35 (by kernel_rfl) rfl #[.int .i64 a0, .int .i64 a1] rfl (by (try simp only [List.map_toArray, List.map_cons, List.map_nil]); first | done | rfl | (simp only [List.length_drop, List.length_take]; rfl)) ?_; (with_reducible refine (window_floor.calls a0 a1 t190 _ A5.out).mono ?_); rintro e w' ⟨rfl, ⟨nd, rfl⟩⟩; refine ⟨_, rfl, ?_⟩))
      go_ret2
      exact ⟨by first | rfl | (simp; done) | (simp [*]; done), by repeat (first | exact Drawn0.refl _ | apply Drawn0.step)⟩
    · rw [if_neg c6] at H
      have c6b0 : (t190 == (-9223372036854775808)) = false := beq_eq_false_iff_ne.mpr c6
      have c6b1 : (t190 != (-9223372036854775808)) = true := bne_iff_ne.mpr c6
      simp only [Option.some.injEq, Prod.mk.injEq] at H
      obtain ⟨rfl, rfl⟩ := H
      go_enter Try.func15, Try.ntmps15
      go_wp2_with (first | ((with_reducible refine gate_callee (f := 34) rfl ?_); refine goesL_ (some 8) rfl rfl Try.func34 (by kernel_rfl) rfl #[.int .i64 a1] rfl (by (try simp only [List.map_toArray, List.map_cons, List.map_nil]); first | done | rfl | (simp only [List.length_drop, List.length_take]; rfl)) ?_; (with_reducible refine (window_wrong.calls a1 false _ A3.out).mono ?_); rintro e w' ⟨rfl, ⟨nd, rfl⟩⟩; refine ⟨_, rfl, ?_⟩) | ((with_reducible refine gate_callee (f := 35) rfl ?_); refine goesL_ (some 11) rfl rfl Try.func35 (by kernel_rfl) rfl #[.int .i64 a0, .int .i64 a1] rfl (by (try simp only [List.map_toArray, List.map_cons, List.map_nil]); first | done | rfl | (simp only [List.length_drop, List.length_take]; rfl)) ?_; (with_reducible refine (window_floor.calls a0 a1 t190 _ A5.out).mono ?_); rintro e w' ⟨rfl, ⟨nd, rfl⟩⟩; refine ⟨_, rfl, ?_⟩))
      go_ret2
      exact ⟨by first | rfl | (simp; done) | (simp [*]; done), by repeat (first | exact Drawn0.refl _ | apply Drawn0.step)⟩

end Go.Proofs.Ytoakooebmnjkhaa.Q
