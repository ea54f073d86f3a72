/- The reference's classText. -/
import Derived.Test.YtecfmmalbehcnaaDoorNRPlain
import Derived.IntWalk
import Derived.Deep.CutBlock
import Derived.Deep.DeepCutAuto
namespace Go.Proofs.YtecfmmalbehcnaaDoor.Q
open Go.Shelf Go.RowKit Go.Proofs Go.Proofs.YtecfmmalbehcnaaDoorW.PrintWords Go.Proofs.YtecfmmalbehcnaaDoorW.PrintLast Go.Proofs.YtecfmmalbehcnaaDoorW.PrintMore Go.Proofs.YtecfmmalbehcnaaDoorV
set_option linter.unusedVariables false
set_option linter.unusedSimpArgs false

theorem run_not' {c d x : UInt8} (h : ¬ ((d.toNat : Int) = ((x.toNat : Int) + 1) % 256 ∧ sortB d = sortB c ∧ 0 < sortB c)) : ¬ (0 < sortB c ∧ sortB d = sortB c ∧ d.toNat = x.toNat + 1) := by
  rintro ⟨h1, h2, h3⟩
  have hd := d.toNat_lt
  exact h ⟨by omega, h2, h1⟩
theorem run_yes {c d x : UInt8} (h3 : (d.toNat : Int) = ((x.toNat : Int) + 1) % 256) (h2 : sortB d = sortB c) (h1 : 0 < sortB c) : d.toNat = x.toNat + 1 := by
  by_cases q : d.toNat = x.toNat + 1
  · exact q
  · exact absurd h3 (run_not h1 h2 q)
set_option maxHeartbeats 4000000 in
set_option maxRecDepth 100000 in
theorem ref_classText (s : ByteArray) (hs : s.size ≤ 1073741824) (w : World) : Calls Tryd.prog 80 #[.string s] w fun e w' => e = .returned (.string (strB (91 :: (rangedR s.data.toList ++ [93])))) ∧ Below w.heap.size w w' := by
  have HW := Aside0.mk (Below.refl w.heap.size w)
  go_enter Tryd.func80, Tryd.ntmps80
  go_wp2
  go_loopg [3, 4] (s.size) (fun kq v3 v4 w' => ∃ (i : Nat) (l : List UInt8), v3 = .string (strB (91 :: l)) ∧ v4 = .int .i64 (i : Int) ∧ i + kq = s.size ∧ l.length ≤ i ∧ Aside0 (l ++ rangedR (s.data.toList.drop i) = rangedR s.data.toList) ∧ Aside0 (Below w.heap.size w w'))
  case atStart => exact ⟨0, [], rfl, rfl, by omega, by simp, ⟨by simp⟩, HW⟩
  case round =>
    obtain ⟨i, l, rfl, rfl, hkq, hl, HC, HW⟩ := hrel
    have hXz : (strB (91 :: l)).size ≤ 1073741825 := by rw [strB_size, List.length_cons]; omega
    obtain ⟨X, hX⟩ : ∃ X, X = strB (91 :: l) := ⟨_, rfl⟩
    have HX := Aside0.mk hX
    rw [← hX] at hXz ⊢
    clear hX
    by_cases hi : i < s.size
    · have d1 : decide ((i : Int) < (s.size : Int)) = true := decide_eq_true (by omega)
      have d1n : decide (i < s.size) = true := decide_eq_true hi
      obtain ⟨c, hb⟩ := get_lt hi
      have HCb := Aside0.mk hb
      have HD := Aside0.mk (drop_at' hb)
      clear hb
      go_upto_block 2 with (fail)
      go_cut [5] (fun v5 wx => ∃ k : Nat, v5 = .int .i64 (k : Int) ∧ k < s.size ∧ Aside0 (k = i + runR c c (s.data.toList.drop (i + 1))) ∧ Aside0 (∃ m, wx = wr.drewN m))
      case first =>
        go_wp2_with (fail)
        go_loopg [5] (s.size - i) (fun kq v5 w' => ∃ (k : Nat) (x : UInt8), v5 = .int .i64 (k : Int) ∧ k + kq = s.size ∧ i ≤ k ∧ k < s.size ∧ Aside0 (s.data.toList[k]? = some x) ∧ Aside0 (runR c x (s.data.toList.drop (k + 1)) + (k - i) = runR c c (s.data.toList.drop (i + 1))) ∧ Aside0 (∃ m, w' = wr.drewN m))
        case atStart => exact ⟨i, c, rfl, by omega, Nat.le_refl _, hi, HCb, ⟨by omega⟩, ⟨0, rfl⟩⟩
        case round =>
          obtain ⟨k, x, rfl, hkq, hik, hks, HX1, HR, HM⟩ := hrel
          have cq : ∀ (n : Nat) (y : UInt8), Calls Tryd.prog 78 #[.int .u8 (y.toNat : Int)] (wr.drewN n) fun e w'' => e = .returned (.int .i64 (sortB y : Int)) ∧ ∃ m, w'' = wr.drewN m := fun n y => by
            refine (ref_Sort y _).mono ?_
            rintro e w' ⟨rfl, hd⟩
            exact ⟨rfl, n + hd.out.choose, hd.out.choose_spec.trans (World.drewN_drewN ..)⟩
          have hx := get_byte HX1.out
          have hc := get_byte HCb.out
          have pk0 : (0 ≤ (k : Int)) = True := eq_true (by omega)
          have pk1 : ((k : Int) < (s.size : Int)) = True := eq_true (by omega)
          have pi0 : (0 ≤ (i : Int)) = True := eq_true (by omega)
          have pi1 : ((i : Int) < (s.size : Int)) = True := eq_true (by omega)
          have wk : IntKind.i64.wrap ((k : Int) + 1) = (k : Int) + 1 := IntWalk.i64_in _ (by omega)
          by_cases hk1 : k + 1 < s.size
          · obtain ⟨d, hd⟩ := get_lt hk1
            have HDk := Aside0.mk (drop_at' hd)
            have hdx := get_byte hd
            have e1 : decide ((k : Int) + 1 < (s.size : Int)) = true := decide_eq_true (by omega)
            have pd0 : (0 ≤ (k : Int) + 1) = True := eq_true (by omega)
            have pd1 : ((k : Int) + 1 < (s.size : Int)) = True := eq_true (by omega)
            have pd2 : ((k : Int) + 1).toNat = k + 1 := by omega
            have HDD := Aside0.mk hd
            have HNot := Aside0.mk (fun (q : ¬ (0 < sortB c ∧ sortB d = sortB c ∧ d.toNat = x.toNat + 1)) => show k = i + runR c c (s.data.toList.drop (i + 1)) by
              have := HR.out
              rw [HDk.out, runR, if_neg q] at this
              omega)
            clear hd
            by_cases h3 : (d.toNat : Int) = ((x.toNat : Int) + 1) % 256
            · have e4 : ((d.toNat : Int) == ((x.toNat : Int) + 1) % 256) = true := beq_iff_eq.2 h3
              by_cases h2 : sortB d = sortB c
              · have e3 : ((sortB d : Int) == (sortB c : Int)) = true := beq_iff_eq.2 (by omega)
                have e3n : (sortB d == sortB c) = true := beq_iff_eq.2 h2
                by_cases h1 : 0 < sortB c
                · have e2 : decide (0 < sortB c) = true := decide_eq_true h1
                  have h4 := run_yes h3 h2 h1
                  have HR2 := Aside0.mk (show runR c d (s.data.toList.drop (k + 1 + 1)) + (k + 1 - i) = runR c c (s.data.toList.drop (i + 1)) by
                    have := HR.out
                    rw [HDk.out, runR, if_pos ⟨h1, h2, h4⟩] at this
                    omega)
                  clear h1 h2 h3 h4
                  cases gk with
                  | zero => omega
                  | succ k2 =>
                  go_wp2_with (fail)
                  go_quiet (exact cq _ _)
                  go_wp2_with (fail)
                  go_roundg k2
                  case rel => exact ⟨k + 1, d, by go_num, by omega, by omega, hk1, HDD, HR2, ⟨by obtain ⟨m, rfl⟩ := HM.out; exact ⟨m + nq, World.drewN_drewN ..⟩⟩⟩
                  case measure => omega
                · have e2 : decide (0 < sortB c) = false := decide_eq_false h1
                  have HK := Aside0.mk (HNot.out (fun q => h1 q.1))
                  clear h1 h2 h3
                  go_wp2_with (fail)
                  go_quiet (exact cq _ _)
                  go_wp2_with (fail)
                  go_meet
                  exact ⟨k, rfl, hks, HK, ⟨by obtain ⟨m, rfl⟩ := HM.out; exact ⟨m + nq, World.drewN_drewN ..⟩⟩⟩
              · have e3 : ((sortB d : Int) == (sortB c : Int)) = false := beq_eq_false_iff_ne.2 (by omega)
                have e3n : (sortB d == sortB c) = false := beq_eq_false_iff_ne.2 h2
                have e3p : (sortB d = sortB c) = False := eq_false h2
                have HK := Aside0.mk (HNot.out (fun q => h2 q.2.1))
                clear h2 h3
                go_wp2_with (fail)
                go_quiet (exact cq _ _)
                go_wp2_with (fail)
                go_meet
                exact ⟨k, rfl, hks, HK, ⟨by obtain ⟨m, rfl⟩ := HM.out; exact ⟨m + nq, World.drewN_drewN ..⟩⟩⟩
            · have e4 : ((d.toNat : Int) == ((x.toNat : Int) + 1) % 256) = false := beq_eq_false_iff_ne.2 h3
              have HK := Aside0.mk (HNot.out (fun q => h3 (by have := d.toNat_lt; have := q.2.2; omega)))
              clear h3
              go_wp2_with (fail)
              go_quiet (exact cq _ _)
              go_wp2_with (fail)
              go_meet
              exact ⟨k, rfl, hks, HK, ⟨by obtain ⟨m, rfl⟩ := HM.out; exact ⟨m + nq, World.drewN_drewN ..⟩⟩⟩
          · have e1 : decide ((k : Int) + 1 < (s.size : Int)) = false := decide_eq_false (by omega)
            have HK := Aside0.mk (show k = i + runR c c (s.data.toList.drop (i + 1)) by
              have := HR.out
              rw [List.drop_eq_nil_of_le (by rw [size_data]; omega), runR] at this
              omega)
            clear hk1
            go_wp2_with (fail)
            go_quiet (exact cq _ _)
            go_wp2_with (fail)
            go_meet
            exact ⟨k, rfl, hks, HK, ⟨by obtain ⟨m, rfl⟩ := HM.out; exact ⟨m + nq, World.drewN_drewN ..⟩⟩⟩
      case rest =>
        obtain ⟨k, rfl, hks, HK, HM⟩ := hcut
        obtain ⟨m, hm⟩ := HM.out
        subst hm
        have HWm := Aside0.mk (show Below w.heap.size w (wr.drewN m) from pw_below_drewN HW.out m)
        clear HM
        generalize wr.drewN m = w1 at HWm ⊢
        have HRD := Aside0.mk (ranged_step HD.out)
        obtain ⟨n, hn⟩ : ∃ n, n = runR c c (s.data.toList.drop (i + 1)) := ⟨_, rfl⟩
        have hkn : k = i + n := by rw [HK.out, hn]
        have HN := Aside0.mk hn
        obtain ⟨i1, hi1⟩ : ∃ i1, i1 = i + 1 := ⟨_, rfl⟩
        obtain ⟨k1, hk1⟩ : ∃ k1, k1 = k + 1 := ⟨_, rfl⟩
        have ei : (i : Int) + 1 = (i1 : Int) := by omega
        have ek : (k : Int) + 1 = (k1 : Int) := by omega
        have HI1 := Aside0.mk hi1
        have HK1 := Aside0.mk hk1
        have hik : i ≤ k := by omega
        have b0 : i ≤ i1 := by omega
        have b1 : k ≤ k1 := by omega
        have b2 : i1 ≤ s.size := by omega
        have b3 : k1 ≤ s.size := by omega
        have b4 : i ≤ k1 := by omega
        have hz1 : (s.extract i i1).size ≤ 1 := by rw [extract_eq, strB_size, List.length_take]; omega
        have hz2 : (s.extract k k1).size ≤ 1 := by rw [extract_eq, strB_size, List.length_take]; omega
        have hz3 : (s.extract i k1).size ≤ 1073741824 := by rw [extract_eq, strB_size, List.length_take, List.length_drop, size_data]; omega
        by_cases h2 : 2 ≤ n
        · have e1 : decide ((2 : Int) ≤ (k : Int) - (i : Int)) = true := decide_eq_true (by omega)
          obtain ⟨y, hy⟩ := get_lt hks
          have HL := Aside0.mk (show (l ++ [c] ++ [45] ++ [y]) ++ rangedR (s.data.toList.drop k1) = rangedR s.data.toList by
            rw [← HC.out, HRD.out, ← HN.out, if_pos h2, hk1, show k + 1 = i + 1 + n by omega]
            have : (s.data.toList.drop (i + 1))[n - 1]? = some y := by rw [List.getElem?_drop, show i + 1 + (n - 1) = k by omega]; exact hy
            rw [this]
            simp)
          have HS := Aside0.mk (show X ++ s.extract i i1 ++ ⟨#[45]⟩ ++ s.extract k k1 = strB (91 :: (l ++ [c] ++ [45] ++ [y])) by
            rw [extract_eq, extract_eq, HX.out, hi1, hk1, HD.out, drop_at' hy, show i + 1 - i = 1 by omega, show k + 1 - k = 1 by omega, show (⟨#[45]⟩ : ByteArray) = strB [45] from rfl, strB_append, strB_append, strB_append]
            simp)
          have HLn := Aside0.mk (show (l ++ [c] ++ [45] ++ [y]).length ≤ k1 by simp only [List.length_append, List.length_cons, List.length_nil]; omega)
          have HE := Aside0.mk (show k1 + (s.size - k1) = s.size by omega)
          have HQ := Aside0.mk (show s.size - k1 < gk by omega)
          clear h2 hn hy hkn hi1 hk1 hz3
          go_wp2_with (fail)
          go_quiet (fail)
          go_wp2_with (fail)
          go_roundg (s.size - k1)
          case rel => exact ⟨k1, _, by rw [← HS.out], by go_num, HE.out, HLn.out, HL, ⟨pw_below_drewN HWm.out _⟩⟩
          case measure => exact HQ.out
        · have e1 : decide ((2 : Int) ≤ (k : Int) - (i : Int)) = false := decide_eq_false (by omega)
          have HXe := Aside0.mk (show (s.data.toList.drop i).take (k1 - i) = c :: (s.data.toList.drop (i + 1)).take n by
            rw [HD.out, hk1, show k + 1 - i = n + 1 by omega, List.take_succ_cons])
          have HL := Aside0.mk (show (l ++ (s.data.toList.drop i).take (k1 - i)) ++ rangedR (s.data.toList.drop k1) = rangedR s.data.toList by
            rw [← HC.out, HRD.out, ← HN.out, if_neg h2, ← HXe.out, show i + 1 + n = k1 by omega, List.append_assoc])
          have HS := Aside0.mk (show X ++ s.extract i k1 = strB (91 :: (l ++ (s.data.toList.drop i).take (k1 - i))) by
            rw [extract_eq, HX.out, strB_append]
            simp)
          have HLn := Aside0.mk (show (l ++ (s.data.toList.drop i).take (k1 - i)).length ≤ k1 by rw [List.length_append, List.length_take]; omega)
          have HE := Aside0.mk (show k1 + (s.size - k1) = s.size by omega)
          have HQ := Aside0.mk (show s.size - k1 < gk by omega)
          clear h2 hn hkn hi1 hk1 hz1 hz2
          go_wp2_with (fail)
          go_roundg (s.size - k1)
          case rel => exact ⟨k1, _, by rw [← HS.out], by go_num, HE.out, HLn.out, HL, HWm⟩
          case measure => exact HQ.out
    · have hie : i = s.size := by omega
      have HL := Aside0.mk (show X ++ ⟨#[93]⟩ = strB (91 :: (rangedR s.data.toList ++ [93])) by
        rw [HX.out, ← HC.out, List.drop_eq_nil_of_le (by rw [size_data]; omega), rangedR, List.append_nil, show (⟨#[93]⟩ : ByteArray) = strB [93] from rfl, strB_append]
        rfl)
      have d1 : decide ((i : Int) < (s.size : Int)) = false := decide_eq_false (by omega)
      have d1n : decide (i < s.size) = false := decide_eq_false hi
      clear hi hie
      go_wp2_with (fail)
      go_ret
      exact ⟨by rw [← HL.out]; rfl, HW.out⟩
end Go.Proofs.YtecfmmalbehcnaaDoor.Q
