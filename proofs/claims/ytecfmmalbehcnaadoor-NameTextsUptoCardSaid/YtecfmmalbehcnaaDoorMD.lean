/- Contracts and plain laws that this claim wants, laid in one text; under no condition beyond those that each theorem states. -/
import Derived.Test.YtecfmmalbehcnaaDoorMB
import Derived.Shelf.Strings.OnBuilder
import Derived.Test.YtecfmmalbehcnaaDoorMA
import Derived.Test.YtecfmmalbehcnaaDoorMC
import Derived.Deep.CutBlock
import Derived.Deep.DeepCutAuto
import Derived.IntWalk
/- strings.Builder and strings.Join: their contracts, off the library, in words of lists of bytes. -/
namespace Go.Proofs.YtecfmmalbehcnaaDoor.Q
open Go.Shelf Go.RowKit Go.Proofs Go.Proofs.YtecfmmalbehcnaaDoorW.PrintWords Go.Proofs.YtecfmmalbehcnaaDoorW.PrintLast Go.Proofs.YtecfmmalbehcnaaDoorW.PrintMore Go.Proofs.YtecfmmalbehcnaaDoorV
set_option linter.unusedVariables false
set_option linter.unusedSimpArgs false

def layB_ren : Go.Shelf.Ren := ⟨fun | 156 => 57 | 165 => 84 | 166 => 85 | 167 => 52 | 169 => 55 | 240 => 82 | 241 => 104 | 276 => 103 | 277 => 112 | n => n, fun | 31 => 34 | 9 => 9 | 3 => 3 | 4 => 4 | 0 => 0 | 20 => 20 | 72 => 65 | 76 => 102 | 70 => 62 | 37 => 63 | 75 => 70 | 127 => 101 | 164 => 115 | 5 => 5 | 80 => 73 | n => n, fun | n => n⟩
theorem layB : Go.Proofs.Lays.n156 Tryd.prog layB_ren where
  mixed := by kernel_rfl
  f156 := Tryd.func57.trans (congrArg some (by kernel_rfl))
  f165 := Tryd.func84.trans (congrArg some (by kernel_rfl))
  f166 := Tryd.func85.trans (congrArg some (by kernel_rfl))
  f169 := Tryd.func55.trans (congrArg some (by kernel_rfl))
  f240 := Tryd.func82.trans (congrArg some (by kernel_rfl))
  f241 := Tryd.func104.trans (congrArg some (by kernel_rfl))
  f276 := Tryd.func103.trans (congrArg some (by kernel_rfl))
  f277 := Tryd.func112.trans (congrArg some (by kernel_rfl))
  t0 := Tryd.underlying0
  a0 := Tryd.isAgg0
  z0 := Tryd.sizeOf0
  v0 := Tryd.zeroValue0
  t3 := Tryd.underlying3
  a3 := Tryd.isAgg3
  z3 := Tryd.sizeOf3
  v3 := Tryd.zeroValue3
  t4 := Tryd.underlying4
  a4 := Tryd.isAgg4
  z4 := Tryd.sizeOf4
  v4 := Tryd.zeroValue4
  t9 := Tryd.underlying9
  a9 := Tryd.isAgg9
  z9 := Tryd.sizeOf9
  v9 := Tryd.zeroValue9
  t20 := Tryd.underlying20
  a20 := Tryd.isAgg20
  z20 := Tryd.sizeOf20
  v20 := Tryd.zeroValue20
  t31 := Tryd.underlying34
  a31 := Tryd.isAgg34
  z31 := Tryd.sizeOf34
  v31 := Tryd.zeroValue34
  t37 := Tryd.underlying63
  a37 := Tryd.isAgg63
  z37 := Tryd.sizeOf63
  v37 := Tryd.zeroValue63
  t70 := Tryd.underlying62
  a70 := Tryd.isAgg62
  z70 := Tryd.sizeOf62
  v70 := Tryd.zeroValue62
  t72 := Tryd.underlying65
  a72 := Tryd.isAgg65
  z72 := Tryd.sizeOf65
  v72 := Tryd.zeroValue65
  t75 := Tryd.underlying70
  a75 := Tryd.isAgg70
  z75 := Tryd.sizeOf70
  v75 := Tryd.zeroValue70
  t76 := Tryd.underlying102
  a76 := Tryd.isAgg102
  z76 := Tryd.sizeOf102
  v76 := Tryd.zeroValue102
  t127 := Tryd.underlying101
  a127 := Tryd.isAgg101
  z127 := Tryd.sizeOf101
  v127 := Tryd.zeroValue101
  t164 := Tryd.underlying115
  a164 := Tryd.isAgg115
  z164 := Tryd.sizeOf115
  v164 := Tryd.zeroValue115

theorem layB166 : Go.Proofs.Lays.n166 Tryd.prog layB_ren := { layB with }
theorem layB169 : Go.Proofs.Lays.n169 Tryd.prog layB_ren := { layB with }
theorem layB167 : Go.Proofs.Lays.n167 Tryd.prog layB_ren := { layB with f167 := Tryd.func52.trans (congrArg some (by kernel_rfl)), t5 := Tryd.underlying5, a5 := Tryd.isAgg5, z5 := Tryd.sizeOf5, v5 := Tryd.zeroValue5 }
theorem layBX : Builder.Extra Tryd.prog layB_ren where
  sizeBuilder := by kernel_rfl
  liesBuilder := by kernel_rfl
  t5 := Tryd.underlying5
  a5 := Tryd.isAgg5
  z5 := Tryd.sizeOf5
  v5 := Tryd.zeroValue5
  infoByte := by kernel_rfl
  cellsByte := by kernel_rfl
  sizeByte := by kernel_rfl
  neB5 := by decide
/-- A builder's block, and what it holds. -/
def BuAt (w : World) (B b : Nat) (l : List UInt8) : Prop := Lib.IsBuilder 65 5 B b (Lib.byteCells l) w
theorem BuAt.start (w : World) (B : Nat) (hB : B ≤ w.heap.size) : BuAt (w.alloc (.cells #[.pointer none, .slice none 0 0] 65)) B w.heap.size [] :=
  .inl ⟨hB, _, heap_alloc_new w _, own_nil _ _ _ _, by simp [Value.ownBlock]⟩
theorem bu_byte {w : World} {B b : Nat} {l : List UInt8} (h : BuAt w B b l) (hl : l.length + 1 ≤ 140737488355328) (hB : B ≤ w.heap.size) (c : UInt8) :
    Calls Tryd.prog 52 #[.pointer (some ⟨b, 0, none⟩), .int .u8 (c.toNat : Int)] w fun e w' => e = .returned .nilIface ∧ BuAt w' B b (l ++ [c]) ∧ Below B w w' := by
  refine (Any.Builder_WriteByte layB167 layBX B b (Lib.byteCells l) (c.toNat : Int) w h (by rw [Lib.byteCells_length]; exact hl) hB).mono ?_
  rintro e w' ⟨rfl, ha, hb⟩
  refine ⟨rfl, .inr ?_, hb⟩
  have e : Lib.byteCells (l ++ [c]) = Lib.byteCells l ++ [.int .u8 (c.toNat : Int)] := by simp [Lib.byteCells]
  rw [e]
  exact ha
theorem bu_text {w : World} {B b : Nat} {l : List UInt8} (h : BuAt w B b l) (s : ByteArray) (hl : l.length + s.size ≤ 140737488355328) (hB : B ≤ w.heap.size) :
    Calls Tryd.prog 85 #[.pointer (some ⟨b, 0, none⟩), .string s] w fun e w' => e = .returned (.tuple #[.int .i64 s.size, .nilIface]) ∧ BuAt w' B b (l ++ s.data.toList) ∧ Below B w w' := by
  refine (Any.Builder_WriteString layB166 layBX B b (Lib.byteCells l) s w h (by rw [Lib.byteCells_length]; exact hl) hB).mono ?_
  rintro e w' ⟨rfl, ha, hb⟩
  refine ⟨rfl, .inr ?_, hb⟩
  have e : Lib.byteCells (l ++ s.data.toList) = Lib.byteCells l ++ Lib.strCells s := by simp [Lib.byteCells, Lib.strCells]
  rw [e]
  exact ha
theorem bu_string {w : World} {B b : Nat} {l : List UInt8} (h : BuAt w B b l) (hB : B ≤ w.heap.size) :
    Calls Tryd.prog 55 #[.pointer (some ⟨b, 0, none⟩)] w fun e w' => e = .returned (.string (strB l)) ∧ Below B w w' := Any.Builder_String_any layB169 layBX B b l w h hB
theorem join_joinR (sep : UInt8) : ∀ l : List (List UInt8), Lib.join l [sep] = joinR sep l := by
  intro l
  induction l with
  | nil => rfl
  | cons a t ih =>
    cases t with
    | nil => exact Lib.join_one a [sep]
    | cons b u =>
      rw [joinR_cons, ← ih, Lib.join_cons, Lib.join_cons]
      simp [Lib.joinTail]
theorem add_none {ad : Addr} (h : ad.spot = none) (j : Nat) : ad.add j = ⟨ad.block, ad.off + j, none⟩ := by
  obtain ⟨b, o, s⟩ := ad
  subst h
  unfold Addr.add
  split <;> simp_all
theorem spot_none {w : World} {ad : Addr} {v : Value} (h : w.cell? ad = some v) : ad.spot = none := by
  unfold World.cell? at h
  split at h
  · split at h
    · cases h
    · rename_i h2
      cases hs : ad.spot with
      | none => rfl
      | some x => rw [hs] at h2; exact absurd rfl h2
  · cases h
/-- strings.Join at one byte between. -/
theorem join_calls {w : World} {A : Option Addr} {c : Nat} {X : List ByteArray} (h : Kd.string.C w A X.length X) (hc : X.length ≤ c) (sep : UInt8) (hX : X.length ≤ 1073741824) (hl : (joinR sep (X.map (·.data.toList))).length ≤ 140737488355328) :
    Calls Tryd.prog 57 #[.slice A X.length c, .string ⟨#[sep]⟩] w fun e w' => e = .returned (.string (strB (joinR sep (X.map (·.data.toList))))) ∧ Below w.heap.size w w' := by
  cases X with
  | nil => exact (Any.strings_Join_none layB layBX A c ⟨#[sep]⟩ w).mono fun e w' ⟨he, hw⟩ => ⟨he, hw ▸ Below.refl _ _⟩
  | cons x t =>
    obtain ⟨h1, h2, h3⟩ := h
    obtain ⟨ad, rfl, hcell⟩ := h3 (by simp)
    have hg : ∀ (j : Nat) y, (x :: t)[j]? = some y → w.cell? (ad.add j) = some (.string y) := fun j y hy => by
      obtain ⟨cs, hl, hK, hu⟩ := hcell j y hy
      have hK' : cs = [.string y] := hK
      have := hu 0 _ (by rw [hK']; rfl)
      have e : j * Kd.string.sz + 0 = j := by show j * 1 + 0 = j; omega
      rw [e] at this
      exact this
    have h0 := hg 0 x rfl
    rw [show ad.add 0 = ad from rfl] at h0
    have hs := spot_none h0
    have hlt := World.block_lt_of_cell? w ad h0
    obtain ⟨b, o, s⟩ := ad
    subst hs
    have c := Any.strings_Join layB layBX b o c (x :: t) ⟨#[sep]⟩ w (fun j y hy => by
      have := hg j y hy
      rw [add_none rfl] at this
      exact this) hlt (by omega) hc (by
        rw [show (⟨#[sep]⟩ : ByteArray).data.toList = [sep] from rfl, join_joinR]
        exact hl)
    rw [show (⟨#[sep]⟩ : ByteArray).data.toList = [sep] from rfl, join_joinR] at c
    exact c
end Go.Proofs.YtecfmmalbehcnaaDoor.Q

/- name.ranged: a class's text between its brackets. -/
namespace Go.Proofs.YtecfmmalbehcnaaDoor.Q
open Go.Shelf Go.RowKit Go.Proofs Go.Proofs.YtecfmmalbehcnaaDoorW.PrintWords Go.Proofs.YtecfmmalbehcnaaDoorW.PrintLast Go.Proofs.YtecfmmalbehcnaaDoorW.PrintMore Go.Proofs.YtecfmmalbehcnaaDoorV
set_option linter.unusedVariables false
set_option linter.unusedSimpArgs false

theorem ranged_step {s : ByteArray} {i : Nat} {c : UInt8} (h : s.data.toList.drop i = c :: s.data.toList.drop (i + 1)) :
    rangedR (s.data.toList.drop i) = (if 2 ≤ runR c c (s.data.toList.drop (i + 1)) then [c, 45, ((s.data.toList.drop (i + 1))[runR c c (s.data.toList.drop (i + 1)) - 1]?).getD c] else c :: (s.data.toList.drop (i + 1)).take (runR c c (s.data.toList.drop (i + 1)))) ++ rangedR (s.data.toList.drop (i + 1 + runR c c (s.data.toList.drop (i + 1)))) := by
  rw [h, rangedR, List.drop_drop]
theorem run_not {c d x : UInt8} (h1 : 0 < sortB c) (h2 : sortB d = sortB c) (h3 : ¬ d.toNat = x.toNat + 1) : ¬ (d.toNat : Int) = ((x.toNat : Int) + 1) % 256 := by
  intro e
  have hd := d.toNat_lt
  have hx := x.toNat_lt
  have h0 : d.toNat ≠ 0 := by
    intro q
    have : sortB d = 0 := by unfold sortB; rw [if_neg (by omega), if_neg (by omega), if_neg (by omega)]
    omega
  omega
theorem drop_at' {s : ByteArray} {j : Nat} {c : UInt8} (h : s.data.toList[j]? = some c) : s.data.toList.drop j = c :: s.data.toList.drop (j + 1) := by
  obtain ⟨h1, h2⟩ := List.getElem?_eq_some_iff.1 h
  rw [List.drop_eq_getElem_cons h1, h2]
set_option maxHeartbeats 4000000 in
set_option maxRecDepth 100000 in
theorem name_ranged (s : ByteArray) (hs : s.size ≤ 1073741824) (w : World) : Calls Tryd.prog 102 #[.string s] w fun e w' => e = .returned (.string (strB (rangedR s.data.toList))) ∧ Below w.heap.size w w' := by
  have HB := Aside0.mk (BuAt.start w w.heap.size (Nat.le_refl _))
  have HW := Aside0.mk (below_alloc (Below.refl w.heap.size w) (.cells #[.pointer none, .slice none 0 0] 65))
  go_enter Tryd.func102, Tryd.ntmps102
  go_wp2
  go_loopg [4] (s.size) (fun kq v4 w' => ∃ (i : Nat) (l : List UInt8), v4 = .int .i64 (i : Int) ∧ i + kq = s.size ∧ l.length ≤ i ∧ Aside0 (l ++ rangedR (s.data.toList.drop i) = rangedR s.data.toList) ∧ Aside0 (BuAt w' w.heap.size w.heap.size l) ∧ Aside0 (Below w.heap.size w w'))
  case atStart => exact ⟨0, [], rfl, by omega, by simp, ⟨by simp⟩, HB, HW⟩
  case round =>
    obtain ⟨i, l, rfl, hkq, hl, HC, HB, HW⟩ := hrel
    by_cases hi : i < s.size
    · have d1 : decide ((i : Int) < (s.size : Int)) = true := decide_eq_true (by omega)
      have d1n : decide (i < s.size) = true := decide_eq_true hi
      obtain ⟨c, hb⟩ := get_lt hi
      have HCb := Aside0.mk hb
      have HD := Aside0.mk (drop_at' hb)
      clear hb
      go_upto_block 2 with (fail)
      go_cut [5] (fun v5 wx => ∃ k : Nat, v5 = .int .i64 (k : Int) ∧ k < s.size ∧ Aside0 (k = i + runR c c (s.data.toList.drop (i + 1))) ∧ Aside0 (∃ m, wx = wr.drewN m))
      case first =>
        go_wp2_with (fail)
        go_loopg [5] (s.size - i) (fun kq v5 w' => ∃ (k : Nat) (x : UInt8), v5 = .int .i64 (k : Int) ∧ k + kq = s.size ∧ i ≤ k ∧ k < s.size ∧ Aside0 (s.data.toList[k]? = some x) ∧ Aside0 (runR c x (s.data.toList.drop (k + 1)) + (k - i) = runR c c (s.data.toList.drop (i + 1))) ∧ Aside0 (i < k → x.toNat ≤ 122) ∧ Aside0 (∃ m, w' = wr.drewN m))
        case atStart => exact ⟨i, c, rfl, by omega, Nat.le_refl _, hi, HCb, ⟨by omega⟩, ⟨fun q => by omega⟩, ⟨0, rfl⟩⟩
        case round =>
          obtain ⟨k, x, rfl, hkq, hik, hks, HX, HR, HX2, HM⟩ := hrel
          have cq : ∀ (n : Nat) (y : UInt8), Calls Tryd.prog 83 #[.int .u8 (y.toNat : Int)] (wr.drewN n) fun e w'' => e = .returned (.int .i64 (sortB y : Int)) ∧ ∃ m, w'' = wr.drewN m := fun n y => by
            refine (sort_calls y _).mono ?_
            rintro e w' ⟨rfl, hd⟩
            exact ⟨rfl, n + hd.out.choose, hd.out.choose_spec.trans (World.drewN_drewN ..)⟩
          have hx := get_byte HX.out
          have hc := get_byte HCb.out
          have pk0 : (0 ≤ (k : Int)) = True := eq_true (by omega)
          have pk1 : ((k : Int) < (s.size : Int)) = True := eq_true (by omega)
          have pi0 : (0 ≤ (i : Int)) = True := eq_true (by omega)
          have pi1 : ((i : Int) < (s.size : Int)) = True := eq_true (by omega)
          have wk : IntKind.i64.wrap ((k : Int) + 1) = (k : Int) + 1 := IntWalk.i64_in _ (by omega)
          by_cases hk1 : k + 1 < s.size
          · obtain ⟨d, hd⟩ := get_lt hk1
            have HDk := Aside0.mk (drop_at' hd)
            have hdx := get_byte hd
            have e1 : decide ((k : Int) + 1 < (s.size : Int)) = true := decide_eq_true (by omega)
            have pd0 : (0 ≤ (k : Int) + 1) = True := eq_true (by omega)
            have pd1 : ((k : Int) + 1 < (s.size : Int)) = True := eq_true (by omega)
            have pd2 : ((k : Int) + 1).toNat = k + 1 := by omega
            have hdd := hd
            clear hd
            by_cases h1 : 0 < sortB c
            · have e2 : decide (0 < sortB c) = true := decide_eq_true h1
              by_cases h2 : sortB d = sortB c
              · have e3 : ((sortB d : Int) == (sortB c : Int)) = true := beq_iff_eq.2 (by omega)
                by_cases h3 : d.toNat = x.toNat + 1
                · have hx122 : x.toNat ≤ 122 := by
                    rcases Nat.lt_or_ge i k with q | q
                    · exact HX2.out q
                    · have : k = i := by omega
                      subst this
                      have e := Option.some.inj (HX.out.symm.trans HCb.out)
                      rw [e]
                      exact cb_le (cb_of_sort h1)
                  have w8 : IntKind.u8.wrap ((x.toNat : Int) + 1) = (x.toNat : Int) + 1 := IntWalk.u8_in _ (by omega)
                  have e4 : ((d.toNat : Int) == (x.toNat : Int) + 1) = true := beq_iff_eq.2 (by omega)
                  have HR2 := Aside0.mk (show runR c d (s.data.toList.drop (k + 1 + 1)) + (k + 1 - i) = runR c c (s.data.toList.drop (i + 1)) by
                    have := HR.out
                    rw [HDk.out, runR, if_pos ⟨h1, h2, h3⟩] at this
                    omega)
                  have hd122 := cb_le (cb_of_sort (c := d) (by omega))
                  have HXd := Aside0.mk hdd
                  clear h1 h2 h3 hdd
                  cases gk with
                  | zero => omega
                  | succ k2 =>
                  go_wp2_with (fail)
                  go_quiet (exact cq _ _)
                  go_wp2_with (fail)
                  go_roundg k2
                  case rel => exact ⟨k + 1, d, by go_num, by omega, by omega, hk1, HXd, HR2, ⟨fun _ => hd122⟩, ⟨by obtain ⟨m, rfl⟩ := HM.out; exact ⟨m + nq, World.drewN_drewN ..⟩⟩⟩
                  case measure => omega
                · have w8 : ((d.toNat : Int) == ((x.toNat : Int) + 1) % 256) = false := beq_eq_false_iff_ne.2 (run_not h1 h2 h3)
                  have HK := Aside0.mk (show k = i + runR c c (s.data.toList.drop (i + 1)) by
                    have := HR.out
                    rw [HDk.out, runR, if_neg (fun q => h3 q.2.2)] at this
                    omega)
                  clear h1 h2 h3 hdd
                  go_wp2_with (fail)
                  go_quiet (exact cq _ _)
                  go_wp2_with (fail)
                  go_meet
                  exact ⟨k, rfl, hks, HK, ⟨by obtain ⟨m, rfl⟩ := HM.out; exact ⟨m + nq, World.drewN_drewN ..⟩⟩⟩
              · have e3 : ((sortB d : Int) == (sortB c : Int)) = false := beq_eq_false_iff_ne.2 (by omega)
                have HK := Aside0.mk (show k = i + runR c c (s.data.toList.drop (i + 1)) by
                  have := HR.out
                  rw [HDk.out, runR, if_neg (fun q => h2 q.2.1)] at this
                  omega)
                clear h1 h2 hdd
                go_wp2_with (fail)
                go_quiet (exact cq _ _)
                go_wp2_with (fail)
                go_meet
                exact ⟨k, rfl, hks, HK, ⟨by obtain ⟨m, rfl⟩ := HM.out; exact ⟨m + nq, World.drewN_drewN ..⟩⟩⟩
            · have e2 : decide (0 < sortB c) = false := decide_eq_false h1
              have HK := Aside0.mk (show k = i + runR c c (s.data.toList.drop (i + 1)) by
                have := HR.out
                rw [HDk.out, runR, if_neg (fun q => h1 q.1)] at this
                omega)
              clear h1 hdd
              go_wp2_with (fail)
              go_quiet (exact cq _ _)
              go_wp2_with (fail)
              go_meet
              exact ⟨k, rfl, hks, HK, ⟨by obtain ⟨m, rfl⟩ := HM.out; exact ⟨m + nq, World.drewN_drewN ..⟩⟩⟩
          · have e1 : decide ((k : Int) + 1 < (s.size : Int)) = false := decide_eq_false (by omega)
            have HK := Aside0.mk (show k = i + runR c c (s.data.toList.drop (i + 1)) by
              have := HR.out
              rw [List.drop_eq_nil_of_le (by rw [size_data]; omega), runR] at this
              omega)
            clear hk1
            go_wp2_with (fail)
            go_quiet (exact cq _ _)
            go_wp2_with (fail)
            go_meet
            exact ⟨k, rfl, hks, HK, ⟨by obtain ⟨m, rfl⟩ := HM.out; exact ⟨m + nq, World.drewN_drewN ..⟩⟩⟩
      case rest =>
        obtain ⟨k, rfl, hks, HK, HM⟩ := hcut
        obtain ⟨m, hm⟩ := HM.out
        subst hm
        have HBm := Aside0.mk (show BuAt (wr.drewN m) w.heap.size w.heap.size l from HB.out)
        have HWm := Aside0.mk (show Below w.heap.size w (wr.drewN m) from pw_below_drewN HW.out m)
        clear HM
        generalize wr.drewN m = w1 at HBm HWm ⊢
        have hsz := HWm.out.size
        have hc := get_byte HCb.out
        have pi0 : (0 ≤ (i : Int)) = True := eq_true (by omega)
        have pi1 : ((i : Int) < (s.size : Int)) = True := eq_true (by omega)
        have pk0 : (0 ≤ (k : Int)) = True := eq_true (by omega)
        have pk1 : ((k : Int) < (s.size : Int)) = True := eq_true (by omega)
        have HRD := Aside0.mk (ranged_step HD.out)
        obtain ⟨n, hn⟩ : ∃ n, n = runR c c (s.data.toList.drop (i + 1)) := ⟨_, rfl⟩
        have hkn : k = i + n := by rw [HK.out, hn]
        have HN := Aside0.mk hn
        by_cases h2 : 2 ≤ n
        · have e1 : decide ((2 : Int) ≤ (k : Int) - (i : Int)) = true := decide_eq_true (by omega)
          obtain ⟨y, hy⟩ := get_lt hks
          have hyx := get_byte hy
          have HL := Aside0.mk (show (l ++ [c] ++ [45] ++ [y]) ++ rangedR (s.data.toList.drop (k + 1)) = rangedR s.data.toList by
            rw [← HC.out, HRD.out, ← HN.out, if_pos h2, show k + 1 = i + 1 + n by omega]
            have : (s.data.toList.drop (i + 1))[n - 1]? = some y := by rw [List.getElem?_drop, show i + 1 + (n - 1) = k by omega]; exact hy
            rw [this]
            simp)
          have hn2 : i + 2 ≤ k := by omega
          clear h2 hn hy hkn
          have hl2 : l.length ≤ 1073741824 := by omega
          have hl3 : (l ++ [c]).length + 1 ≤ 140737488355328 := by simp; omega
          have hl4 : (l ++ [c] ++ [45]).length + 1 ≤ 140737488355328 := by simp; omega
          have HL3 := Aside0.mk hl3
          have HL4 := Aside0.mk hl4
          clear hl3 hl4
          go_wp2_with (fail)
          refine (bu_byte HBm.out (by omega) hsz c).mono ?_
          rintro e w2 ⟨rfl, ha, hb⟩
          have HB2 := Aside0.mk ha
          have HW2 := Aside0.mk (HWm.out.trans hb)
          have hsz2 := HW2.out.size
          clear ha hb
          go_wp2_with (fail)
          refine (bu_byte HB2.out HL3.out hsz2 45).mono ?_
          rintro e w3 ⟨rfl, ha, hb⟩
          have HB3 := Aside0.mk ha
          have HW3 := Aside0.mk (HW2.out.trans hb)
          have hsz3 := HW3.out.size
          clear ha hb
          go_wp2_with (fail)
          refine (bu_byte HB3.out HL4.out hsz3 y).mono ?_
          rintro e w4 ⟨rfl, ha, hb⟩
          have HB4 := Aside0.mk ha
          have HW4 := Aside0.mk (HW3.out.trans hb)
          clear ha hb
          go_wp2_with (fail)
          cases gk with
          | zero => omega
          | succ k1 =>
          go_roundg (s.size - (k + 1))
          case rel => exact ⟨k + 1, _, by go_num, by omega, by simp; omega, HL, HB4, HW4⟩
          case measure => omega
        · have e1 : decide ((2 : Int) ≤ (k : Int) - (i : Int)) = false := decide_eq_false (by omega)
          have HX := Aside0.mk (show (s.extract i (k + 1)).data.toList = c :: (s.data.toList.drop (i + 1)).take n by
            rw [Lib.extract_data, HD.out, show k + 1 - i = n + 1 by omega, List.take_succ_cons])
          have HL := Aside0.mk (show (l ++ (s.extract i (k + 1)).data.toList) ++ rangedR (s.data.toList.drop (k + 1)) = rangedR s.data.toList by
            rw [← HC.out, HRD.out, ← HN.out, if_neg h2, show k + 1 = i + 1 + n by omega, show i + 1 + n = k + 1 by omega, HX.out]
            simp)
          have hsx : (s.extract i (k + 1)).size ≤ k + 1 - i := by
            rw [extract_strB, strB_size, List.length_take]
            omega
          have HSX := Aside0.mk hsx
          have hik : i ≤ k := by omega
          have hl2 : l.length ≤ 1073741824 := by omega
          clear h2 hn hkn hsx
          go_wp2_with (fail)
          refine (bu_text HBm.out (s.extract i (k + 1)) (by have := HSX.out; omega) hsz).mono ?_
          rintro e w2 ⟨rfl, ha, hb⟩
          have HB2 := Aside0.mk ha
          have HW2 := Aside0.mk (HWm.out.trans hb)
          clear ha hb
          go_wp2_with (fail)
          cases gk with
          | zero => omega
          | succ k1 =>
          go_roundg (s.size - (k + 1))
          case rel => exact ⟨k + 1, _, by go_num, by omega, by rw [List.length_append, size_data]; have := HSX.out; omega, HL, HB2, HW2⟩
          case measure => omega
    · have hie : i = s.size := by omega
      have HL := Aside0.mk (show l = rangedR s.data.toList by
        rw [← HC.out, List.drop_eq_nil_of_le (by rw [size_data]; omega), rangedR, List.append_nil])
      have d1 : decide ((i : Int) < (s.size : Int)) = false := decide_eq_false (by omega)
      have d1n : decide (i < s.size) = false := decide_eq_false hi
      have hsz := HW.out.size
      clear hi hie
      go_wp2_with (go_at_call 55; (with_reducible refine (bu_string HB.out hsz).mono ?_); rintro e w2 ⟨rfl, hb⟩; have HW2 := Aside0.mk (HW.out.trans hb); clear hb)
      go_ret
      exact ⟨by rw [HL.out]; rfl, HW2.out⟩
end Go.Proofs.YtecfmmalbehcnaaDoor.Q

/- name.written: a piece's text. -/
namespace Go.Proofs.YtecfmmalbehcnaaDoor.Q
open Go.Shelf Go.RowKit Go.Proofs Go.Proofs.YtecfmmalbehcnaaDoorW.PrintWords Go.Proofs.YtecfmmalbehcnaaDoorW.PrintLast Go.Proofs.YtecfmmalbehcnaaDoorW.PrintMore Go.Proofs.YtecfmmalbehcnaaDoorV
set_option linter.unusedVariables false
set_option linter.unusedSimpArgs false

/-- How much a piece, a node, a pattern holds. -/
def bulkA (l : List (List UInt8)) : Nat := (l.map (fun a => a.length + 1)).sum
def bulkG (g : Gl) : Nat := g.text.length + bulkA g.alts + 3
def bulkN (n : List Gl) : Nat := (n.map bulkG).sum + 1
def bulkP (p : List (List Gl)) : Nat := (p.map bulkN).sum + 1
theorem sum_mem {α : Type} (f : α → Nat) : ∀ (l : List α) (a : α), a ∈ l → f a ≤ (l.map f).sum := by
  intro l
  induction l with
  | nil => intro a h; cases h
  | cons b t ih =>
    intro a h
    rw [List.map_cons, List.sum_cons]
    rcases List.mem_cons.1 h with rfl | h
    · omega
    · have := ih a h; omega
theorem sum_len {α : Type} (f : α → Nat) (hf : ∀ a, 1 ≤ f a) : ∀ (l : List α), l.length ≤ (l.map f).sum := by
  intro l
  induction l with
  | nil => exact Nat.le_refl _
  | cons b t ih =>
    rw [List.map_cons, List.sum_cons, List.length_cons]
    have := hf b
    omega
theorem bulkA_len (l : List (List UInt8)) : l.length ≤ bulkA l := sum_len _ (fun _ => by omega) l
theorem bulkN_len (n : List Gl) : n.length < bulkN n := by
  have := sum_len bulkG (fun g => by unfold bulkG; omega) n
  unfold bulkN
  omega
theorem bulkP_len (p : List (List Gl)) : p.length < bulkP p := by
  have := sum_len bulkN (fun g => by unfold bulkN; omega) p
  unfold bulkP
  omega
theorem bulkN_mem {n : List Gl} {g : Gl} (h : g ∈ n) : bulkG g < bulkN n := by
  have := sum_mem bulkG n g h
  unfold bulkN
  omega
theorem bulkP_mem {p : List (List Gl)} {n : List Gl} (h : n ∈ p) : bulkN n < bulkP p := by
  have := sum_mem bulkN p n h
  unfold bulkP
  omega
theorem join_bulk (sep : UInt8) : ∀ l : List (List UInt8), (joinR sep l).length ≤ bulkA l := by
  intro l
  induction l with
  | nil => exact Nat.le_refl _
  | cons a t ih =>
    cases t with
    | nil => show a.length ≤ a.length + 1 + 0; omega
    | cons b u =>
      rw [joinR_cons, List.length_append, List.length_cons]
      unfold bulkA at ih ⊢
      rw [List.map_cons, List.sum_cons]
      omega
theorem ranged_length : ∀ l : List UInt8, (rangedR l).length ≤ l.length := by
  intro l
  induction h : l.length using Nat.strongRecOn generalizing l with
  | ind n ih =>
    subst h
    cases l with
    | nil => rw [rangedR]; exact Nat.le_refl _
    | cons c t =>
      have hr := runR_le c t c
      have := ih (t.drop (runR c c t)).length (by simp; omega) _ rfl
      rw [List.length_drop] at this
      rw [rangedR, List.length_append, List.length_cons]
      split
      · simp only [List.length_cons, List.length_nil]; omega
      · simp only [List.length_cons, List.length_take]; omega
theorem written_length (g : Gl) : (writtenR g).length ≤ bulkG g := by
  unfold writtenR bulkG
  split
  · simp
  · split
    · simp
    · split
      · have := ranged_length g.text; simp; omega
      · split
        · have := join_bulk 44 g.alts; simp; omega
        · omega
theorem nodeW_length : ∀ n : List Gl, (nodeW n).length ≤ bulkN n := by
  intro n
  induction n with
  | nil => exact Nat.zero_le _
  | cons g t ih =>
    have := written_length g
    unfold nodeW bulkN at *
    rw [List.flatMap_cons, List.length_append, List.map_cons, List.sum_cons]
    omega
theorem whole_length (p : List (List Gl)) : (wholeR p).length ≤ 2 * bulkP p := by
  unfold wholeR
  refine Nat.le_trans (join_bulk 46 _) ?_
  induction p with
  | nil => exact Nat.zero_le _
  | cons n t ih =>
    have := nodeW_length n
    unfold bulkA bulkP at *
    simp only [List.map_cons, List.sum_cons] at ih ⊢
    have : 1 ≤ bulkN n := by unfold bulkN; omega
    omega
theorem strB_append (a b : List UInt8) : strB a ++ strB b = strB (a ++ b) := by
  unfold strB
  apply ByteArray.ext
  simp
set_option maxHeartbeats 1600000 in
theorem name_written {w : World} {g : Gl} {cs : List Value} (h : kGl.K w g cs) (hb : bulkG g ≤ 1048576) :
    Calls Tryd.prog 79 #[.agg cs.toArray] w fun e w' => e = .returned (.string (strB (writtenR g))) ∧ Below w.heap.size w w' := by
  obtain ⟨A2, c2, rfl, l2, g2⟩ := kGl_open h
  clear h
  have hb1 : g.text.length ≤ 1048576 := by unfold bulkG at hb; omega
  have hb2 : bulkA g.alts ≤ 1048576 := by unfold bulkG at hb; omega
  have hl := bulkA_len g.alts
  have hj := join_bulk 44 g.alts
  have HX := Aside0.mk (show (g.alts.map strB).map (·.data.toList) = g.alts by rw [List.map_map]; exact List.map_id g.alts)
  have HR := Aside0.mk (fun W => name_ranged (strB g.text) (by rw [strB_size]; omega) W)
  have HJ := Aside0.mk (fun W (hW : Below w.heap.size w W) => join_calls (Kd.C_below g2 hW) l2 44 (by rw [List.length_map]; omega) (by rw [HX.out]; omega))
  rw [HX.out] at HJ
  rw [show (strB g.text).data.toList = g.text from rfl] at HR
  obtain ⟨X, hXe⟩ : ∃ X, X = strB (rangedR g.text) := ⟨_, rfl⟩
  obtain ⟨Y, hYe⟩ : ∃ Y, Y = strB (joinR 44 g.alts) := ⟨_, rfl⟩
  have hXs : X.size ≤ 1048576 := by rw [hXe, strB_size]; have := ranged_length g.text; omega
  have hYs : Y.size ≤ 1048576 := by rw [hYe, strB_size]; omega
  rw [← hXe] at HR
  rw [← hYe] at HJ
  have HXe := Aside0.mk hXe
  have HYe := Aside0.mk hYe
  clear hXe hYe
  have HB := Aside0.mk (below_alloc (Below.refl w.heap.size w) (.cells #[.int .i64 g.kind, .string (strB g.text), .slice A2 (g.alts.map strB).length c2] 43))
  obtain ⟨n, hn⟩ : ∃ n, n = (g.alts.map strB).length := ⟨_, rfl⟩
  rw [← hn] at HJ HB ⊢
  obtain ⟨kd, hkd⟩ : ∃ kd, kd = g.kind := ⟨_, rfl⟩
  rw [← hkd] at HB ⊢
  clear hb hb1 hb2 hl hj hn g2 l2
  by_cases h2 : kd = 2
  · have HE := Aside0.mk (show writtenR g = [42] by unfold writtenR; rw [if_pos (hkd ▸ h2)])
    have d2 : (kd == 2) = true := beq_iff_eq.2 h2
    clear hkd h2
    go_enter Tryd.func79, Tryd.ntmps79
    go_wp2
    go_ret
    exact ⟨by rw [HE.out]; rfl, HB.out⟩
  · have d2 : (kd == 2) = false := beq_eq_false_iff_ne.2 h2
    by_cases h3 : kd = 3
    · have HE := Aside0.mk (show writtenR g = [63] by unfold writtenR; rw [if_neg (hkd ▸ h2), if_pos (hkd ▸ h3)])
      have d3 : (kd == 3) = true := beq_iff_eq.2 h3
      clear hkd h2 h3
      go_enter Tryd.func79, Tryd.ntmps79
      go_wp2
      go_ret
      exact ⟨by rw [HE.out]; rfl, HB.out⟩
    · have d3 : (kd == 3) = false := beq_eq_false_iff_ne.2 h3
      by_cases h4 : kd = 4
      · have HE := Aside0.mk (show strB [91] ++ X ++ strB [93] = strB (writtenR g) by
          rw [HXe.out]; unfold writtenR; rw [if_neg (hkd ▸ h2), if_neg (hkd ▸ h3), if_pos (hkd ▸ h4), strB_append, strB_append]; rfl)
        have d4 : (kd == 4) = true := beq_iff_eq.2 h4
        clear hkd h2 h3 h4
        go_enter Tryd.func79, Tryd.ntmps79
        go_wp2_with (go_at_call 102; (with_reducible refine (HR.out _).mono ?_); rintro e w1 ⟨rfl, hb⟩; have HB1 := Aside0.mk (HB.out.trans (hb.mono (by simp))); clear hb)
        go_ret
        exact ⟨by rw [← HE.out]; rfl, HB1.out⟩
      · have d4 : (kd == 4) = false := beq_eq_false_iff_ne.2 h4
        by_cases h5 : kd = 5
        · have HE := Aside0.mk (show strB [123] ++ Y ++ strB [125] = strB (writtenR g) by
            rw [HYe.out]; unfold writtenR; rw [if_neg (hkd ▸ h2), if_neg (hkd ▸ h3), if_neg (hkd ▸ h4), if_pos (hkd ▸ h5), strB_append, strB_append]; rfl)
          have d5 : (kd == 5) = true := beq_iff_eq.2 h5
          clear hkd h2 h3 h4 h5
          go_enter Tryd.func79, Tryd.ntmps79
          go_wp2_with (go_at_call 57; (with_reducible refine (HJ.out _ HB.out).mono ?_); rintro e w1 ⟨rfl, hb⟩; have HB1 := Aside0.mk (HB.out.trans (hb.mono (by simp))); clear hb)
          go_ret
          exact ⟨by rw [← HE.out]; rfl, HB1.out⟩
        · have HE := Aside0.mk (show writtenR g = g.text by unfold writtenR; rw [if_neg (hkd ▸ h2), if_neg (hkd ▸ h3), if_neg (hkd ▸ h4), if_neg (hkd ▸ h5)])
          have d5 : (kd == 5) = false := beq_eq_false_iff_ne.2 h5
          clear hkd h2 h3 h4 h5
          go_enter Tryd.func79, Tryd.ntmps79
          go_wp2
          go_ret
          exact ⟨by rw [HE.out]; rfl, HB.out⟩
end Go.Proofs.YtecfmmalbehcnaaDoor.Q

/- name.whole: a pattern's text, however long. -/
namespace Go.Proofs.YtecfmmalbehcnaaDoor.Q
open Go.Shelf Go.RowKit Go.Proofs Go.Proofs.YtecfmmalbehcnaaDoorW.PrintWords Go.Proofs.YtecfmmalbehcnaaDoorW.PrintLast Go.Proofs.YtecfmmalbehcnaaDoorW.PrintMore Go.Proofs.YtecfmmalbehcnaaDoorV
set_option linter.unusedVariables false
set_option linter.unusedSimpArgs false

theorem at_node {w : World} {A : Option Addr} {n : Nat} {p : List (List Gl)} (h : kNode.C w A n p) {k : Nat} {x : List Gl} (hx : p[k]? = some x) :
    ∃ ad An cn, A = some ad ∧ w.cell? (ad.add k) = some (.slice An x.length cn) ∧ x.length ≤ cn ∧ kGl.C w An x.length x := by
  obtain ⟨h1, h2, h3⟩ := h
  have hk := (List.getElem?_eq_some_iff.1 hx).1
  obtain ⟨ad, e, hc⟩ := h3 (by omega)
  obtain ⟨cs, hl, hK, hu⟩ := hc k x hx
  obtain ⟨An, cn, rfl, l0, g0⟩ := hK
  have hq := hu 0 _ rfl
  have e0 : k * kNode.sz + 0 = k := by show k * 1 + 0 = k; omega
  rw [e0] at hq
  exact ⟨ad, An, cn, e, hq, l0, g0⟩
theorem at_glob {w : World} {A : Option Addr} {n : Nat} {l : List Gl} (h : kGl.C w A n l) {k : Nat} {g : Gl} (hx : l[k]? = some g) :
    ∃ ad A2 c2, A = some ad ∧ w.cell? (ad.add (k * 3)) = some (.int .i64 g.kind) ∧ w.cell? ⟨(ad.add (k * 3)).block, (ad.add (k * 3)).off + 1, none⟩ = some (.string (strB g.text)) ∧ w.cell? ⟨(ad.add (k * 3)).block, (ad.add (k * 3)).off + 2, none⟩ = some (.slice A2 (g.alts.map strB).length c2) ∧
      kGl.K w g [.int .i64 g.kind, .string (strB g.text), .slice A2 (g.alts.map strB).length c2] := by
  obtain ⟨h1, h2, h3⟩ := h
  have hk := (List.getElem?_eq_some_iff.1 hx).1
  obtain ⟨ad, e, hc0⟩ := h3 (by omega)
  obtain ⟨cs, hl, hK, hu⟩ := hc0 k g hx
  have hc : ∀ j u, cs[j]? = some u → w.cell? (ad.add (k * 3 + j)) = some u := hu
  obtain ⟨A2, c2, rfl, l2, g2⟩ := kGl_open hK
  exact ⟨ad, A2, c2, e, hc 0 _ rfl, by rw [← add_field _ _ 1 (by omega)]; exact hc 1 _ rfl, by rw [← add_field _ _ 2 (by omega)]; exact hc 2 _ rfl, hK⟩
theorem nodeW_snoc (n : List Gl) (g : Gl) : nodeW (n ++ [g]) = nodeW n ++ writtenR g := by simp [nodeW]
theorem take_snocR {α : Type} {l : List α} {k : Nat} {x : α} (h : l[k]? = some x) : l.take (k + 1) = l.take k ++ [x] := by
  rw [List.take_add_one, h]; rfl
theorem nodeW_le (n : List Gl) (q : Nat) : (nodeW (n.take q)).length ≤ bulkN n := by
  refine Nat.le_trans (nodeW_length _) ?_
  have h : n = n.take q ++ n.drop q := (List.take_append_drop q n).symm
  unfold bulkN
  conv => rhs; rw [h]
  rw [List.map_append, List.sum_append]
  omega
set_option maxHeartbeats 4000000 in
set_option maxRecDepth 100000 in
theorem name_whole {w : World} {A : Option Addr} {c : Nat} {p : List (List Gl)} (h : kNode.C w A p.length p) (hc : p.length ≤ c) (hb : bulkP p ≤ 1048576) :
    Calls Tryd.prog 48 #[.agg #[.slice A p.length c]] w fun e w' => e = .returned (.string (strB (wholeR p))) ∧ Below w.heap.size w w' := by
  have hpl := bulkP_len p
  have H := Aside0.mk h
  have HB := Aside0.mk (below_alloc (Below.refl w.heap.size w) (.cells #[.slice A p.length c] 24))
  clear h
  go_enter Tryd.func48, Tryd.ntmps48
  go_wp2
  go_loopg [3, 12] p.length (fun kq v3 v12 w' => ∃ (k : Nat) (X : List ByteArray) (A3 : Option Addr) (c3 : Nat), v3 = .slice A3 X.length c3 ∧ v12 = .int .i64 (k : Int) ∧ k + kq = p.length ∧ Aside0 (X = (p.take k).map (fun n => strB (nodeW n))) ∧ Aside0 (OwnS w' w.heap.size (.slice A3 X.length c3) X) ∧ Aside0 (Below w.heap.size w w'))
  case atStart => exact ⟨0, [], none, 0, rfl, rfl, by omega, ⟨rfl⟩, ⟨Kd.R_nil _ _ _ _ _⟩, HB⟩
  case round =>
    obtain ⟨k, X, A3, c3, rfl, rfl, hkq, HX, HO, HW⟩ := hrel
    clear HB
    cases gk with
    | succ k1 =>
      have d1 : decide ((k : Int) < (p.length : Int)) = true := decide_eq_true (by omega)
      obtain ⟨n, hn⟩ : ∃ n, p[k]? = some n := ⟨_, List.getElem?_eq_getElem (by omega)⟩
      obtain ⟨ad, An, cn, rfl, q0, hcn, hC⟩ := at_node (Kd.C_below H.out HW.out) hn
      have hbn := bulkP_mem (List.mem_of_getElem? hn)
      have hnl := bulkN_len n
      have HN := Aside0.mk hn
      have HC := Aside0.mk hC
      have hk2 : k < p.length := by omega
      clear hn hC
      go_wp2
      obtain ⟨wo, hwo⟩ : ∃ wo : World, wo = wr := ⟨_, rfl⟩
      subst hwo
      go_loopg [6, 18] n.length (fun kq v6 v18 w' => ∃ (q : Nat) (S : ByteArray), v6 = .string S ∧ v18 = .int .i64 (q : Int) ∧ q + kq = n.length ∧ S.size ≤ 1048576 ∧ Aside0 (S = strB (nodeW (n.take q))) ∧ Aside0 (Below wo.heap.size wo w'))
      case atStart => exact ⟨0, strB [], rfl, rfl, by omega, by decide, ⟨rfl⟩, ⟨Below.refl _ _⟩⟩
      case round =>
        obtain ⟨q, S, rfl, rfl, hqq, hSs, HS, HWo⟩ := hrel
        cases gk with
        | succ q1 =>
          have d2 : decide ((q : Int) < (n.length : Int)) = true := decide_eq_true (by omega)
          have hq2 : q < n.length := by omega
          obtain ⟨g, hg⟩ : ∃ g, n[q]? = some g := ⟨_, List.getElem?_eq_getElem (by omega)⟩
          obtain ⟨ad2, A2, c2, rfl, r0, r1, r2, hK⟩ := at_glob (Kd.C_below HC.out HWo.out) hg
          obtain ⟨m, hm⟩ : ∃ m, m = (g.alts.map strB).length := ⟨_, rfl⟩
          rw [← hm] at r2 hK
          have hgb : bulkG g ≤ 1048576 := by have := bulkN_mem (List.mem_of_getElem? hg); omega
          have HWr := Aside0.mk (fun W (hW : Below wr.heap.size wr W) => name_written (kGl.K_below hW hK) hgb)
          obtain ⟨T, hT⟩ : ∃ T, T = strB (writtenR g) := ⟨_, rfl⟩
          have hTs : T.size ≤ 1048576 := by rw [hT, strB_size]; have := written_length g; omega
          rw [← hT] at HWr
          have HS2 := Aside0.mk (show S ++ T = strB (nodeW (n.take (q + 1))) by rw [HS.out, hT, strB_append, take_snocR hg, nodeW_snoc])
          have HS3 := Aside0.mk (show (S ++ T).size ≤ 1048576 by rw [HS2.out, strB_size]; have := nodeW_le n (q + 1); omega)
          have HB1 := Aside0.mk (below_alloc (Below.refl wr.heap.size wr) (.cells #[.int .i64 g.kind, .string (strB g.text), .slice A2 m c2] 43))
          clear hK hg hT hm
          go_wp2_with (go_at_call 79; (with_reducible refine (HWr.out _ HB1.out).mono ?_); rintro e w1 ⟨rfl, hb⟩; have HB2 := Aside0.mk (HWo.out.trans ((HB1.out.trans (hb.mono (by simp))).mono HWo.out.size)); clear hb)
          go_roundg q1
          case rel => exact ⟨q + 1, S ++ T, rfl, by go_num, by omega, HS3.out, HS2, HB2⟩
          case measure => omega
        | zero =>
          have hqe : q = n.length := by omega
          subst hqe
          have d2 : decide ((n.length : Int) < (n.length : Int)) = false := decide_eq_false (by omega)
          have HW2 := Aside0.mk (HW.out.trans (HWo.out.mono HW.out.size))
          have HO2 := Aside0.mk (HO.out.keep (Keep.of_below (S := fun _ => False) HWo.out) (fun _ _ h => h))
          have hsz := HW2.out.size
          have HXL := Aside0.mk (show X.length = k by have := congrArg List.length HX.out; rw [List.length_map, List.length_take] at this; omega)
          have hXm : X.length ≤ 1048576 := by have := HXL.out; omega
          have HSn := Aside0.mk (show S = strB (nodeW n) by rw [HS.out, List.take_length])
          go_wp2_with ((with_reducible refine gate_builtin (b := .append) (xs := #[.tmp 27, .tmp 29]) rfl ?_); at_builtin; refine Kd.R_append Kd.string (w0 := wr) w.heap.size rfl (.tmp 27) (.tmp 29) 34 9 (.string ⟨#[]⟩) 16 rfl Tryd.underlying34 info_str rfl (by decide) (by omega) (.slice A3 X.length c3) X S [.string S] (fun _ => True) (fun _ => False) rfl rfl ?aP (fun _ hk => hk.elim) ?aF ?aO ?aB ?aS ?aL ?_; (case aP => exact rfl); (case aB => exact Below.refl _ _); (case aF => exact (fun _ _ => trivial)); (case aO => exact HO2.out); (case aS => exact hsz); (case aL => omega); intro v5 w5 ho5 _ hg5 hat5; obtain ⟨H2, hH2⟩ : ∃ l : List ByteArray, l = X ++ [S] := ⟨_, rfl⟩; rw [← hH2] at ho5; have NH := Aside0.mk hH2; clear hH2; obtain ⟨A5, c5, ev5⟩ := Kd.R_slice ho5; subst ev5; have HO5 := Aside0.mk ho5; have HG5 := Aside0.mk (HW2.out.grown hg5 (by omega) (fun k e => Kd.R_base HO2.out k e)); clear ho5 hg5 hat5)
          go_roundg k1
          case rel => exact ⟨k + 1, H2, A5, c5, rfl, by go_num, by omega, ⟨by rw [NH.out, HX.out, HSn.out, take_snocR HN.out, List.map_append]; rfl⟩, HO5, HG5⟩
          case measure => omega
    | zero =>
      have hke : k = p.length := by omega
      subst hke
      have d1 : decide ((p.length : Int) < (p.length : Int)) = false := decide_eq_false (by omega)
      have HX2 := Aside0.mk (show joinR 46 (X.map (·.data.toList)) = wholeR p by
        rw [HX.out, List.take_length, List.map_map]
        rfl)
      have hXm : X.length ≤ 1073741824 := by have := congrArg List.length HX.out; rw [List.length_map, List.length_take] at this; omega
      have HR := Aside0.mk (Kd.R_reads' HO.out)
      have HJ := Aside0.mk (join_calls HR.out.2.2 HR.out.2.1 46 hXm (by rw [HX2.out]; have := whole_length p; omega))
      rw [HX2.out] at HJ
      go_wp2_with (go_at_call 57; (with_reducible refine (HJ.out).mono ?_); rintro e w1 ⟨rfl, hb⟩; have HB1 := Aside0.mk (HW.out.trans (hb.mono HW.out.size)); clear hb)
      go_ret
      exact ⟨rfl, HB1.out⟩
end Go.Proofs.YtecfmmalbehcnaaDoor.Q

/- Are two patterns the same: slices.Equal of texts, name.same, slices.EqualFunc of pieces and of nodes. -/
namespace Go.Proofs.YtecfmmalbehcnaaDoor.Q
open Go.Shelf Go.RowKit Go.Proofs Go.Proofs.YtecfmmalbehcnaaDoorW.PrintWords Go.Proofs.YtecfmmalbehcnaaDoorW.PrintLast Go.Proofs.YtecfmmalbehcnaaDoorW.PrintMore Go.Proofs.YtecfmmalbehcnaaDoorV
set_option linter.unusedVariables false
set_option linter.unusedSimpArgs false

theorem toList_inj {x y : ByteArray} (h : x.toList = y.toList) : x = y := by
  rw [Lib.toList_data, Lib.toList_data] at h
  rw [← data_strB x, ← data_strB y, h]
theorem at_str {w : World} {A : Option Addr} {n : Nat} {X : List ByteArray} (h : Kd.string.C w A n X) {k : Nat} {x : ByteArray} (hx : X[k]? = some x) : ∃ ad, A = some ad ∧ w.cell? (ad.add k) = some (.string x) := by
  obtain ⟨h1, h2, h3⟩ := h
  have hk := (List.getElem?_eq_some_iff.1 hx).1
  obtain ⟨ad, e, hc⟩ := h3 (by omega)
  obtain ⟨cs, hl, hK, hu⟩ := hc k x hx
  have hK' : cs = [.string x] := hK
  have hq := hu 0 _ (by rw [hK']; rfl)
  have e0 : k * Kd.string.sz + 0 = k := by show k * 1 + 0 = k; omega
  rw [e0] at hq
  exact ⟨ad, e, hq⟩
theorem take_eq_next {α : Type} {X Y : List α} {k : Nat} {x : α} (h : X.take k = Y.take k) (hx : X[k]? = some x) (hy : Y[k]? = some x) : X.take (k + 1) = Y.take (k + 1) := by rw [take_snocR hx, take_snocR hy, h]
theorem ne_at {α : Type} {X Y : List α} {k : Nat} {x y : α} (hx : X[k]? = some x) (hy : Y[k]? = some y) (h : x ≠ y) : X ≠ Y := by
  rintro rfl
  rw [hx] at hy
  exact h (Option.some.inj hy)
set_option maxHeartbeats 1600000 in
theorem eq_strs {w : World} {A B : Option Addr} {c d : Nat} {X Y : List ByteArray} (hX : Kd.string.C w A X.length X) (hY : Kd.string.C w B Y.length Y) (hxl : X.length ≤ 1073741824) {r : Bool} (hr : decide (X = Y) = r) :
    Calls Tryd.prog 93 #[.slice A X.length c, .slice B Y.length d] w fun e w' => e = .returned (.bool r) ∧ Below w.heap.size w w' := by
  have HX := Aside0.mk hX
  have HY := Aside0.mk hY
  clear hX hY
  by_cases hl : X.length = Y.length
  · have d1 : ((X.length : Int) != (Y.length : Int)) = false := by rw [hl]; simp
    have d1n : (X.length != Y.length) = false := by rw [hl]; simp
    have HL := Aside0.mk hl
    have hle : X.length ≤ Y.length := by omega
    clear hl
    go_enter Tryd.func93, Tryd.ntmps93
    go_wp2
    go_loopg [13] X.length (fun kq v13 w' => ∃ k : Nat, v13 = .int .i64 (k : Int) ∧ k + kq = X.length ∧ Aside0 (X.take k = Y.take k) ∧ Aside0 (Below w.heap.size w w'))
    case atStart => exact ⟨0, rfl, by omega, ⟨rfl⟩, ⟨Below.refl _ _⟩⟩
    case round =>
      obtain ⟨k, rfl, hkq, HT, HW⟩ := hrel
      cases gk with
      | succ k1 =>
        have hk : k < X.length := by omega
        have hkY : k < Y.length := by omega
        have d2 : decide ((k : Int) < (X.length : Int)) = true := decide_eq_true (by omega)
        obtain ⟨x, hx⟩ : ∃ x, X[k]? = some x := ⟨_, List.getElem?_eq_getElem hk⟩
        obtain ⟨y, hy⟩ : ∃ y, Y[k]? = some y := ⟨_, List.getElem?_eq_getElem hkY⟩
        obtain ⟨ad, rfl, q0⟩ := at_str (Kd.C_below HX.out HW.out) hx
        obtain ⟨bd, rfl, r0⟩ := at_str (Kd.C_below HY.out HW.out) hy
        have p0 : (0 ≤ (k : Int)) = True := eq_true (by omega)
        have p1 : ((k : Int) < (X.length : Int)) = True := eq_true (by omega)
        have p2 : ((k : Int) < (Y.length : Int)) = True := eq_true (by omega)
        by_cases hxy : x = y
        · subst hxy
          have HT2 := Aside0.mk (take_eq_next HT.out hx hy)
          clear hx hy
          go_wp2
          go_quiet (fail)
          go_wp2
          go_roundg k1
          case rel => exact ⟨k + 1, by go_num, by omega, HT2, ⟨pw_below_drewN HW.out _⟩⟩
          case measure => omega
        · have HR := Aside0.mk (show r = false by rw [← hr]; exact decide_eq_false (ne_at hx hy hxy))
          have hn : (x.toList == y.toList) = false := beq_eq_false_iff_ne.2 (fun e => hxy (toList_inj e))
          clear hx hy hxy
          go_wp2
          go_quiet (fail)
          go_wp2
          go_ret
          exact ⟨by rw [HR.out]; rfl, pw_below_drewN HW.out _⟩
      | zero =>
        have hk : k = X.length := by omega
        have HR := Aside0.mk (show r = true by
          rw [← hr]
          have := HT.out
          rw [hk, List.take_length, HL.out, List.take_length] at this
          exact decide_eq_true this)
        subst hk
        have d2 : decide ((X.length : Int) < (X.length : Int)) = false := decide_eq_false (by omega)
        go_wp2
        go_ret
        exact ⟨by rw [HR.out]; rfl, HW.out⟩
  · have d1 : ((X.length : Int) != (Y.length : Int)) = true := bne_iff_ne.2 (by omega)
    have d1n : (X.length != Y.length) = true := bne_iff_ne.2 hl
    have HR := Aside0.mk (show r = false by rw [← hr]; exact decide_eq_false (fun e => hl (by rw [e])))
    clear hl
    go_enter Tryd.func93, Tryd.ntmps93
    go_wp2
    go_ret
    exact ⟨by rw [HR.out]; rfl, Below.refl _ _⟩
theorem strB_map_inj {a b : List (List UInt8)} : a.map strB = b.map strB ↔ a = b := by
  constructor
  · intro h
    have := congrArg (List.map (fun s : ByteArray => s.data.toList)) h
    rw [List.map_map, List.map_map] at this
    have e : (fun s : ByteArray => s.data.toList) ∘ strB = id := rfl
    rw [e, List.map_id, List.map_id] at this
    exact this
  · rintro rfl; rfl
theorem gl_eq_iff {a b : Gl} : a = b ↔ a.kind = b.kind ∧ strB a.text = strB b.text ∧ a.alts.map strB = b.alts.map strB := by
  rw [strB_inj, strB_map_inj]
  constructor
  · rintro rfl; exact ⟨rfl, rfl, rfl⟩
  · rintro ⟨h1, h2, h3⟩
    cases a; cases b
    simp_all
set_option maxHeartbeats 1600000 in
theorem name_same {w : World} {a b : Gl} {cs ds : List Value} (ha : kGl.K w a cs) (hb : kGl.K w b ds) (hal : a.alts.length ≤ 1073741824) {r : Bool} (hr : decide (a = b) = r) :
    Calls Tryd.prog 69 #[.agg cs.toArray, .agg ds.toArray] w fun e w' => e = .returned (.bool r) ∧ Below w.heap.size w w' := by
  obtain ⟨A2, c2, rfl, l2, g2⟩ := kGl_open ha
  obtain ⟨B2, e2, rfl, m2, k2⟩ := kGl_open hb
  clear ha hb
  have HE := Aside0.mk (fun W (hW : Below w.heap.size w W) r (hr : decide (a.alts.map strB = b.alts.map strB) = r) => eq_strs (c := c2) (d := e2) (Kd.C_below g2 hW) (Kd.C_below k2 hW) (by rw [List.length_map]; exact hal) hr)
  have HI := Aside0.mk (gl_eq_iff (a := a) (b := b))
  obtain ⟨X, hX⟩ : ∃ X, X = a.alts.map strB := ⟨_, rfl⟩
  obtain ⟨Y, hY⟩ : ∃ Y, Y = b.alts.map strB := ⟨_, rfl⟩
  obtain ⟨x, hx⟩ : ∃ x, x = strB a.text := ⟨_, rfl⟩
  obtain ⟨y, hy⟩ : ∃ y, y = strB b.text := ⟨_, rfl⟩
  obtain ⟨u, hu⟩ : ∃ u, u = a.kind := ⟨_, rfl⟩
  obtain ⟨v, hv⟩ : ∃ v, v = b.kind := ⟨_, rfl⟩
  rw [← hX, ← hY] at HE HI
  rw [← hx, ← hy, ← hu, ← hv] at HI
  rw [← hX, ← hY, ← hx, ← hy, ← hu, ← hv]
  clear hX hY hx hy hu hv g2 k2 l2 m2 hal
  have HB := Aside0.mk (below_alloc (below_alloc (Below.refl w.heap.size w) (.cells #[.int .i64 u, .string x, .slice A2 X.length c2] 43)) (.cells #[.int .i64 v, .string y, .slice B2 Y.length e2] 43))
  by_cases h1 : u = v
  · have d1 : (u == v) = true := beq_iff_eq.2 h1
    by_cases h2 : x = y
    · have dx : (x.toList == y.toList) = true := by rw [h2]; simp
      have HR := Aside0.mk (show decide (X = Y) = r by rw [← hr, decide_eq_decide, HI.out]; exact ⟨fun q => ⟨h1, h2, q⟩, fun q => q.2.2⟩)
      clear h1 h2 hr
      go_enter Tryd.func69, Tryd.ntmps69
      go_wp2_with (go_at_call 93; (with_reducible refine (HE.out _ HB.out r HR.out).mono ?_); rintro e w1 ⟨rfl, hb⟩; have HB1 := Aside0.mk (HB.out.trans (hb.mono HB.out.size)); clear hb)
      go_ret
      exact ⟨rfl, HB1.out⟩
    · have dx : (x.toList == y.toList) = false := beq_eq_false_iff_ne.2 (fun e => h2 (toList_inj e))
      have HR := Aside0.mk (show r = false by rw [← hr]; exact decide_eq_false (fun q => h2 (HI.out.1 q).2.1))
      clear h1 h2 hr
      go_enter Tryd.func69, Tryd.ntmps69
      go_wp2
      go_ret
      exact ⟨by rw [HR.out]; rfl, HB.out⟩
  · have d1 : (u == v) = false := beq_eq_false_iff_ne.2 h1
    have HR := Aside0.mk (show r = false by rw [← hr]; exact decide_eq_false (fun q => h1 (HI.out.1 q).1))
    clear h1 hr
    go_enter Tryd.func69, Tryd.ntmps69
    go_wp2
    go_ret
    exact ⟨by rw [HR.out]; rfl, HB.out⟩
end Go.Proofs.YtecfmmalbehcnaaDoor.Q

/- slices.EqualFunc of pieces (by same) and of nodes. -/
namespace Go.Proofs.YtecfmmalbehcnaaDoor.Q
open Go.Shelf Go.RowKit Go.Proofs Go.Proofs.YtecfmmalbehcnaaDoorW.PrintWords Go.Proofs.YtecfmmalbehcnaaDoorW.PrintLast Go.Proofs.YtecfmmalbehcnaaDoorW.PrintMore Go.Proofs.YtecfmmalbehcnaaDoorV
set_option linter.unusedVariables false
set_option linter.unusedSimpArgs false

set_option maxHeartbeats 1600000 in
set_option maxRecDepth 10000 in
theorem eqf_globs {w : World} {A B : Option Addr} {c d : Nat} {X Y : List (Gl)} (hX : kGl.C w A X.length X) (hY : kGl.C w B Y.length Y) (hxl : X.length ≤ 1073741824) (hsm : ∀ a ∈ X, a.alts.length ≤ 1073741824) {r : Bool} (hr : decide (X = Y) = r) :
    Calls Tryd.prog 68 #[.slice A X.length c, .slice B Y.length d, .func (.func 69) #[] #[]] w fun e w' => e = .returned (.bool r) ∧ Below w.heap.size w w' := by
  have HX := Aside0.mk hX
  have HY := Aside0.mk hY
  have HS := Aside0.mk hsm
  clear hX hY hsm
  by_cases hl : X.length = Y.length
  · have d1 : ((X.length : Int) != (Y.length : Int)) = false := by rw [hl]; simp
    have d1n : (X.length != Y.length) = false := by rw [hl]; simp
    have HL := Aside0.mk hl
    have hle : X.length ≤ Y.length := by omega
    clear hl
    go_enter Tryd.func68, Tryd.ntmps68
    go_wp2
    go_loopg [17] X.length (fun kq v17 w' => ∃ k : Nat, v17 = .int .i64 (k : Int) ∧ k + kq = X.length ∧ Aside0 (X.take k = Y.take k) ∧ Aside0 (Below w.heap.size w w'))
    case atStart => exact ⟨0, rfl, by omega, ⟨rfl⟩, ⟨Below.refl _ _⟩⟩
    case round =>
      obtain ⟨k, rfl, hkq, HT, HW⟩ := hrel
      cases gk with
      | succ k1 =>
        have hk : k < X.length := by omega
        have hkY : k < Y.length := by omega
        have d2 : decide ((k : Int) < (X.length : Int)) = true := decide_eq_true (by omega)
        obtain ⟨x, hx⟩ : ∃ x, X[k]? = some x := ⟨_, List.getElem?_eq_getElem hk⟩
        obtain ⟨y, hy⟩ : ∃ y, Y[k]? = some y := ⟨_, List.getElem?_eq_getElem hkY⟩
        have hsx := HS.out x (List.mem_of_getElem? hx)
        obtain ⟨ad, A2, c2, rfl, q0, q1, q2, hK⟩ := at_glob (Kd.C_below HX.out HW.out) hx
        obtain ⟨bd, B2, e2, rfl, r0, r1, r2, hK2⟩ := at_glob (Kd.C_below HY.out HW.out) hy
        obtain ⟨m, hm⟩ : ∃ m, m = (x.alts.map strB).length := ⟨_, rfl⟩
        obtain ⟨n, hn⟩ : ∃ n, n = (y.alts.map strB).length := ⟨_, rfl⟩
        rw [← hm] at q2 hK
        rw [← hn] at r2 hK2
        have HB1 := Aside0.mk (below_alloc (below_alloc (Below.refl wr.heap.size wr) (.cells #[.int .i64 x.kind, .string (strB x.text), .slice A2 m c2] 43)) (.cells #[.int .i64 y.kind, .string (strB y.text), .slice B2 n e2] 43))
        have HBa := below_alloc (Below.refl wr.heap.size wr) (.cells #[.int .i64 x.kind, .string (strB x.text), .slice A2 m c2] 43)
        have r0a := pw_cell_below HBa r0
        have r1a := pw_cell_below HBa r1
        have r2a := pw_cell_below HBa r2
        clear HBa
        have HSm := Aside0.mk (fun r (hr : decide (x = y) = r) => name_same (kGl.K_below HB1.out hK) (kGl.K_below HB1.out hK2) hsx hr)
        by_cases hxy : x = y
        · have HT2 := Aside0.mk (take_eq_next HT.out hx (hxy ▸ hy))
          have HQ := Aside0.mk (HSm.out true (decide_eq_true hxy))
          clear hx hy hxy hK hK2 hm hn HSm
          go_wp2_with (go_at_call 69; (with_reducible refine (HQ.out).mono ?_); rintro e w1 ⟨rfl, hb⟩; have HB2 := Aside0.mk (HW.out.trans ((HB1.out.trans (hb.mono HB1.out.size)).mono HW.out.size)); clear hb)
          go_roundg k1
          case rel => exact ⟨k + 1, by go_num, by omega, HT2, HB2⟩
          case measure => omega
        · have HR := Aside0.mk (show r = false by rw [← hr]; exact decide_eq_false (ne_at hx hy hxy))
          have HQ := Aside0.mk (HSm.out false (decide_eq_false hxy))
          clear hx hy hxy hK hK2 hm hn HSm
          go_wp2_with (go_at_call 69; (with_reducible refine (HQ.out).mono ?_); rintro e w1 ⟨rfl, hb⟩; have HB2 := Aside0.mk (HW.out.trans ((HB1.out.trans (hb.mono HB1.out.size)).mono HW.out.size)); clear hb)
          go_ret
          exact ⟨by rw [HR.out]; rfl, HB2.out⟩
      | zero =>
        have hk : k = X.length := by omega
        have HR := Aside0.mk (show r = true by
          rw [← hr]
          have := HT.out
          rw [hk, List.take_length, HL.out, List.take_length] at this
          exact decide_eq_true this)
        subst hk
        have d2 : decide ((X.length : Int) < (X.length : Int)) = false := decide_eq_false (by omega)
        go_wp2
        go_ret
        exact ⟨by rw [HR.out]; rfl, HW.out⟩
  · have d1 : ((X.length : Int) != (Y.length : Int)) = true := bne_iff_ne.2 (by omega)
    have d1n : (X.length != Y.length) = true := bne_iff_ne.2 hl
    have HR := Aside0.mk (show r = false by rw [← hr]; exact decide_eq_false (fun e => hl (by rw [e])))
    clear hl
    go_enter Tryd.func68, Tryd.ntmps68
    go_wp2
    go_ret
    exact ⟨by rw [HR.out]; rfl, Below.refl _ _⟩
theorem may2_calls {w : World} {A B : Option Addr} {c d : Nat} {X Y : List Gl} (hX : kGl.C w A X.length X) (hY : kGl.C w B Y.length Y) (hxl : X.length ≤ 1073741824) (hsm : ∀ a ∈ X, a.alts.length ≤ 1073741824) {r : Bool} (hr : decide (X = Y) = r) :
    Calls Tryd.prog 67 #[.slice A X.length c, .slice B Y.length d] w fun e w' => e = .returned (.bool r) ∧ Below w.heap.size w w' := by
  have HQ := Aside0.mk (eqf_globs (c := c) (d := d) hX hY hxl hsm hr)
  clear hX hY hxl hsm hr
  go_enter Tryd.func67, Tryd.ntmps67
  go_wp2_with (go_at_call 68; (with_reducible refine (HQ.out).mono ?_); rintro e w1 ⟨rfl, hb⟩; have HB := Aside0.mk hb; clear hb)
  go_ret
  exact ⟨rfl, HB.out⟩
set_option maxHeartbeats 1600000 in
set_option maxRecDepth 10000 in
theorem eqf_nodes {w : World} {A B : Option Addr} {c d : Nat} {X Y : List (List Gl)} (hX : kNode.C w A X.length X) (hY : kNode.C w B Y.length Y) (hxl : X.length ≤ 1073741824) (hsm : ∀ a ∈ X, a.length ≤ 1073741824 ∧ ∀ g ∈ a, g.alts.length ≤ 1073741824) {r : Bool} (hr : decide (X = Y) = r) :
    Calls Tryd.prog 66 #[.slice A X.length c, .slice B Y.length d, .func (.func 67) #[] #[]] w fun e w' => e = .returned (.bool r) ∧ Below w.heap.size w w' := by
  have HX := Aside0.mk hX
  have HY := Aside0.mk hY
  have HS := Aside0.mk hsm
  clear hX hY hsm
  by_cases hl : X.length = Y.length
  · have d1 : ((X.length : Int) != (Y.length : Int)) = false := by rw [hl]; simp
    have d1n : (X.length != Y.length) = false := by rw [hl]; simp
    have HL := Aside0.mk hl
    have hle : X.length ≤ Y.length := by omega
    clear hl
    go_enter Tryd.func66, Tryd.ntmps66
    go_wp2
    go_loopg [17] X.length (fun kq v17 w' => ∃ k : Nat, v17 = .int .i64 (k : Int) ∧ k + kq = X.length ∧ Aside0 (X.take k = Y.take k) ∧ Aside0 (Below w.heap.size w w'))
    case atStart => exact ⟨0, rfl, by omega, ⟨rfl⟩, ⟨Below.refl _ _⟩⟩
    case round =>
      obtain ⟨k, rfl, hkq, HT, HW⟩ := hrel
      cases gk with
      | succ k1 =>
        have hk : k < X.length := by omega
        have hkY : k < Y.length := by omega
        have d2 : decide ((k : Int) < (X.length : Int)) = true := decide_eq_true (by omega)
        obtain ⟨x, hx⟩ : ∃ x, X[k]? = some x := ⟨_, List.getElem?_eq_getElem hk⟩
        obtain ⟨y, hy⟩ : ∃ y, Y[k]? = some y := ⟨_, List.getElem?_eq_getElem hkY⟩
        have hsx := HS.out x (List.mem_of_getElem? hx)
        obtain ⟨ad, A2, c2, rfl, q0, hc2, hK⟩ := at_node (Kd.C_below HX.out HW.out) hx
        obtain ⟨bd, B2, e2, rfl, r0, he2, hK2⟩ := at_node (Kd.C_below HY.out HW.out) hy
        have HSm := Aside0.mk (fun r (hr : decide (x = y) = r) => may2_calls (c := c2) (d := e2) hK hK2 hsx.1 hsx.2 hr)
        clear hc2 he2
        by_cases hxy : x = y
        · have HT2 := Aside0.mk (take_eq_next HT.out hx (hxy ▸ hy))
          have HQ := Aside0.mk (HSm.out true (decide_eq_true hxy))
          clear hx hy hxy hK hK2 HSm
          go_wp2_with (go_at_call 67; (with_reducible refine (HQ.out).mono ?_); rintro e w1 ⟨rfl, hb⟩; have HB2 := Aside0.mk (HW.out.trans (hb.mono HW.out.size)); clear hb)
          go_roundg k1
          case rel => exact ⟨k + 1, by go_num, by omega, HT2, HB2⟩
          case measure => omega
        · have HR := Aside0.mk (show r = false by rw [← hr]; exact decide_eq_false (ne_at hx hy hxy))
          have HQ := Aside0.mk (HSm.out false (decide_eq_false hxy))
          clear hx hy hxy hK hK2 HSm
          go_wp2_with (go_at_call 67; (with_reducible refine (HQ.out).mono ?_); rintro e w1 ⟨rfl, hb⟩; have HB2 := Aside0.mk (HW.out.trans (hb.mono HW.out.size)); clear hb)
          go_ret
          exact ⟨by rw [HR.out]; rfl, HB2.out⟩
      | zero =>
        have hk : k = X.length := by omega
        have HR := Aside0.mk (show r = true by
          rw [← hr]
          have := HT.out
          rw [hk, List.take_length, HL.out, List.take_length] at this
          exact decide_eq_true this)
        subst hk
        have d2 : decide ((X.length : Int) < (X.length : Int)) = false := decide_eq_false (by omega)
        go_wp2
        go_ret
        exact ⟨by rw [HR.out]; rfl, HW.out⟩
  · have d1 : ((X.length : Int) != (Y.length : Int)) = true := bne_iff_ne.2 (by omega)
    have d1n : (X.length != Y.length) = true := bne_iff_ne.2 hl
    have HR := Aside0.mk (show r = false by rw [← hr]; exact decide_eq_false (fun e => hl (by rw [e])))
    clear hl
    go_enter Tryd.func66, Tryd.ntmps66
    go_wp2
    go_ret
    exact ⟨by rw [HR.out]; rfl, Below.refl _ _⟩
end Go.Proofs.YtecfmmalbehcnaaDoor.Q
