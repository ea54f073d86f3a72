import Derived.Test.YtadmigijbfdboaaBList
namespace Go.Proofs.Ytadmigijbfdboaa.Q
open Go.RowKit Go.Proofs.YtadmigijbfdboaaW.PrintWords Go.Proofs.YtadmigijbfdboaaW.PrintLast Go.Proofs.YtadmigijbfdboaaW.PrintMore Go.Proofs.YtadmigijbfdboaaV
set_option linter.unusedVariables false
set_option linter.unusedSimpArgs false

theorem valL_eq_of_drop (a b : List Int) (h : a.drop 0 = b.drop 0) : valL a - valL b = 0 := by
  simp only [List.drop_zero] at h; rw [h]; omega
theorem drews3 (w : World) (a b c : Nat) : ∃ n, ((w.drewN a).drewN b).drewN c = w.drewN n := ⟨a + b + c, by simp⟩
set_option maxHeartbeats 3200000 in
theorem ref_cmpL {w : World} {A B : Option Addr} {ca cb : Nat} {a b : List Int} (ha : Lm w A ca a) (hb : Lm w B cb b) :
    Calls Try.prog 44 #[.slice A a.length ca, .slice B b.length cb] w fun e w' => e = .returned (.int .i64 (sgn (valL a - valL b))) ∧ ∃ n, w' = w.drewN n := by
  have HA := Aside0.mk ha
  have HB := Aside0.mk hb
  have ta := ha.trim
  have tb := hb.trim
  have ka := limbs_can (valL a).toNat
  have kb := limbs_can (valL b).toNat
  have va := limbs_val (valL a).toNat
  have vb := limbs_val (valL b).toNat
  have pa := valL_nonneg ha.ok
  have pb := valL_nonneg hb.ok
  have HTA := Aside0.mk (ref_trim ha)
  have HTB := Aside0.mk (ref_trim hb)
  obtain ⟨a', hae⟩ : ∃ a', a' = limbs (valL a).toNat := ⟨_, rfl⟩
  obtain ⟨b', hbe⟩ : ∃ b', b' = limbs (valL b).toNat := ⟨_, rfl⟩
  rw [← hae] at ta ka va HTA
  rw [← hbe] at tb kb vb HTB
  have hval : valL a - valL b = valL a' - valL b' := by omega
  rw [hval]
  have LA := Aside0.mk ta
  have LB := Aside0.mk tb
  have KA := Aside0.mk ka
  have KB := Aside0.mk kb
  have na := ta.row.2.1
  have nb := tb.row.2.1
  have oka := ta.ok
  have okb := tb.ok
  clear ha hb ta tb va vb hae hbe hval pa pb
  by_cases h1 : a'.length < b'.length
  · have f1 : (a'.length == b'.length) = false := beq_eq_false_iff_ne.mpr (by omega)
    have f2 : decide (a'.length < b'.length) = true := decide_eq_true h1
    rw [sgn_neg (by have := valL_longer a' b' oka okb kb h1; omega)]
    clear oka okb h1 ka kb
    go_enter Try.func44, Try.ntmps44
    go_wp2_with (first
      | (go_at_call 54; (with_reducible refine (HTA.out).mono ?_); rintro e w1 ⟨rfl, h1, rfl⟩)
      | (go_at_call 54; (with_reducible refine (HTB.out).mono ?_); rintro e w1 ⟨rfl, h1, rfl⟩))
    go_ret
    exact ⟨rfl, 0, rfl⟩
  · by_cases h2 : b'.length < a'.length
    · have f1 : (a'.length == b'.length) = false := beq_eq_false_iff_ne.mpr (by omega)
      have f2 : decide (a'.length < b'.length) = false := decide_eq_false h1
      rw [sgn_pos (by have := valL_longer b' a' okb oka ka h2; omega)]
      clear oka okb h1 h2 ka kb
      go_enter Try.func44, Try.ntmps44
      go_wp2_with (first
        | (go_at_call 54; (with_reducible refine (HTA.out).mono ?_); rintro e w1 ⟨rfl, h1, rfl⟩)
        | (go_at_call 54; (with_reducible refine (HTB.out).mono ?_); rintro e w1 ⟨rfl, h1, rfl⟩))
      go_ret
      exact ⟨rfl, 0, rfl⟩
    · have hl : b'.length = a'.length := by omega
      obtain ⟨n, hn⟩ : ∃ n, n = a'.length := ⟨_, rfl⟩
      rw [← hn] at HTA hl
      rw [hl] at HTB
      have HN := Aside0.mk hn
      have HL := Aside0.mk hl
      have OA := Aside0.mk oka
      have OB := Aside0.mk okb
      have hn2 : n ≤ 9223372036854775807 := by omega
      clear h1 h2 hn hl oka okb na nb ka kb
      go_enter Try.func44, Try.ntmps44
      go_wp2_with (first
        | (go_at_call 54; (with_reducible refine (HTA.out).mono ?_); rintro e w1 ⟨rfl, h1, rfl⟩; clear h1)
        | (go_at_call 54; (with_reducible refine (HTB.out).mono ?_); rintro e w1 ⟨rfl, h1, rfl⟩; clear h1))
      go_loopg [5] n (fun kq v5 w' => ∃ k : Nat, v5 = .int .i64 ((k : Int) - 1) ∧ k = kq ∧ k ≤ n ∧ Aside0 (a'.drop k = b'.drop k) ∧ Aside0 (∃ m, w' = w.drewN m))
      case atStart => exact ⟨n, rfl, rfl, Nat.le_refl _, ⟨by rw [List.drop_eq_nil_of_le (by rw [HN.out]; omega), List.drop_eq_nil_of_le (by rw [HL.out]; omega)]⟩, ⟨0, rfl⟩⟩
      case round =>
        obtain ⟨k, rfl, rfl, hkn, HE, HW⟩ := hrel
        obtain ⟨m, rfl⟩ := HW.out
        cases k with
        | zero =>
          go_wp2
          go_ret
          rw [valL_eq_of_drop a' b' HE.out]
          exact ⟨rfl, m, rfl⟩
        | succ i =>
          obtain ⟨ada, rfl, q1⟩ := Kd.at_int LA.out.row (i : Int) (by omega) (by rw [← HN.out]; omega)
          obtain ⟨adb, rfl, q3⟩ := Kd.at_int LB.out.row (i : Int) (by omega) (by rw [HL.out]; omega)
          rw [Int.toNat_natCast] at q1 q3
          have ea : a'.drop i = rd a' (i : Int) :: a'.drop (i + 1) := by
            rw [List.drop_eq_getElem_cons (by rw [← HN.out]; omega)]; unfold rd; rw [Int.toNat_natCast, List.getD_eq_getElem?_getD, List.getElem?_eq_getElem (by rw [← HN.out]; omega)]; rfl
          have eb : b'.drop i = rd b' (i : Int) :: b'.drop (i + 1) := by
            rw [List.drop_eq_getElem_cons (by rw [HL.out]; omega)]; unfold rd; rw [Int.toNat_natCast, List.getD_eq_getElem?_getD, List.getElem?_eq_getElem (by rw [HL.out]; omega)]; rfl
          obtain ⟨x, hx⟩ : ∃ x, x = rd a' (i : Int) := ⟨_, rfl⟩
          obtain ⟨y, hy⟩ : ∃ y, y = rd b' (i : Int) := ⟨_, rfl⟩
          rw [← hx] at q1 ea
          rw [← hy] at q3 eb
          have hva : valL (a'.drop i) = x + 65536 * valL (a'.drop (i + 1)) := by rw [ea]; rfl
          have hvb : valL (b'.drop i) = y + 65536 * valL (b'.drop (i + 1)) := by rw [eb]; rfl
          rw [← HE.out] at hvb
          have t1 := valL_top i a' b' OA.out OB.out (by rw [← HN.out]; omega) (by rw [HL.out]; omega)
          have t2 := valL_top i b' a' OB.out OA.out (by rw [HL.out]; omega) (by rw [← HN.out]; omega)
          have hin : i < n := by omega
          by_cases hlt : x < y
          · have d1 : decide (x < y) = true := decide_eq_true hlt
            have HS := Aside0.mk (show sgn (valL a' - valL b') = -1 from sgn_neg (by omega))
            clear hx hy ea eb hva hvb t1 t2 hlt
            go_wp2
            go_quiet (fail)
            go_wp2
            go_ret
            rw [HS.out]
            exact ⟨rfl, m + nq, by simp⟩
          · have d1 : decide (x < y) = false := decide_eq_false hlt
            by_cases hgt : y < x
            · have d2 : decide (y < x) = true := decide_eq_true hgt
              have HS := Aside0.mk (show sgn (valL a' - valL b') = 1 from sgn_pos (by omega))
              clear hx hy ea eb hva hvb t1 t2 hlt hgt
              go_wp2
              go_quiet (fail)
              go_wp2
              go_quiet (fail)
              go_wp2
              go_ret
              rw [HS.out]
              refine ⟨rfl, ?_⟩
              exact drews3 w _ _ _
            · have d2 : decide (y < x) = false := decide_eq_false hgt
              have HE2 := Aside0.mk (show a'.drop i = b'.drop i by rw [ea, eb, show x = y by omega, HE.out])
              clear hx hy ea eb hva hvb t1 t2 hlt hgt
              go_wp2
              go_quiet (fail)
              go_wp2
              go_quiet (fail)
              go_wp2
              go_roundg i
              case rel => exact ⟨i, by go_num, rfl, by omega, HE2, ⟨_, rfl⟩⟩
              case measure => omega
end Go.Proofs.Ytadmigijbfdboaa.Q
