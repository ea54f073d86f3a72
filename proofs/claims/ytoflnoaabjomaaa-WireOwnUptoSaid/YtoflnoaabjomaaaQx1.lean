/- A text of this claim: functions of the program as Lean functions, each with its contract; written by a program of the session's own over the kit's print. -/
import Derived.Test.YtoflnoaabjomaaaQx0
namespace Go.Proofs.Ytoflnoaabjomaaa.Q
open Go.RowKit Go.Proofs.YtoflnoaabjomaaaW.PrintWords Go.Proofs.YtoflnoaabjomaaaW.PrintLast Go.Proofs.YtoflnoaabjomaaaW.PrintMore
attribute [local go_sem] max2_int min2_int max_two min_two max_three min_three max_four min_four   -- for this text's walks alone
set_option linter.unusedVariables false
set_option linter.unusedSimpArgs false

/-! ### tumblerlaw05_same: function 10 -/
def tumblerlaw05_same.l0 : Nat → List ByteArray → List ByteArray → Int → Option (Bool)
  | 0, _, _, _ => none
  | k + 1, x0, x1, x5 => if x5 < (x0.length : Int) then (if 0 ≤ x5 then (if x5 < (x1.length : Int) then (if (rdOf ByteArray.empty x0 x5).toList = (rdOf ByteArray.empty x1 x5).toList then (tumblerlaw05_same.l0 k x0 x1 (wrap64 (x5 + 1))) else (some false)) else (none)) else (none)) else (some true)
def tumblerlaw05_same.f (k : Nat) (l0 : List ByteArray) (l1 : List ByteArray) : Option (Bool) := if (l0.length : Int) = (l1.length : Int) then (tumblerlaw05_same.l0 k l0 l1 0) else (some false)
theorem tumblerlaw05_same.mono_l : ∀ k, (∀ y0 y1 y2, LeO (tumblerlaw05_same.l0 k y0 y1 y2) (tumblerlaw05_same.l0 (k + 1) y0 y1 y2))
  | 0 => fun _ _ _ r h => by simp [tumblerlaw05_same.l0] at h
  | k + 1 => by
    have ih0 := tumblerlaw05_same.mono_l k
    · intro y0 y1 y2
      unfold tumblerlaw05_same.l0
      repeat' first
      | (with_reducible exact ih0 _ _ _)
      | (with_reducible exact LeO.refl _)
      | (with_reducible exact LeO.none _)
      | (with_reducible refine LeO.ite ?_ ?_)
      | (with_reducible refine LeO.bind ?_ (fun _ => ?_))
      | exact ih0 _ _ _
      | exact LeO.none _
      | refine LeO.ite ?_ ?_
      | refine LeO.bind ?_ (fun _ => ?_)
theorem tumblerlaw05_same.mono : ∀ a0 a1 k, LeO (tumblerlaw05_same.f k a0 a1) (tumblerlaw05_same.f (k + 1) a0 a1) := by
  intro a0 a1 k
  have ih0 := tumblerlaw05_same.mono_l k
  unfold tumblerlaw05_same.f
  repeat' first
      | (with_reducible exact ih0 _ _ _)
      | (with_reducible exact LeO.refl _)
      | (with_reducible exact LeO.none _)
      | (with_reducible refine LeO.ite ?_ ?_)
      | (with_reducible refine LeO.bind ?_ (fun _ => ?_))
      | exact ih0 _ _ _
      | exact LeO.none _
      | refine LeO.ite ?_ ?_
      | refine LeO.bind ?_ (fun _ => ?_)
set_option maxHeartbeats 8000000 in
set_option maxRecDepth 100000 in
theorem tumblerlaw05_same.calls (k : Nat) (A0 : Option Addr) (c0 : Nat) (l0 : List ByteArray) (A1 : Option Addr) (c1 : Nat) (l1 : List ByteArray) (r : Bool) (w : World) (hr0 : Kd.C Kd.string w A0 l0.length l0) (hc0 : l0.length ≤ c0) (hr1 : Kd.C Kd.string w A1 l1.length l1) (hc1 : l1.length ≤ c1) (h : tumblerlaw05_same.f k l0 l1 = some r) :
    Calls Try.prog 10 #[.slice A0 l0.length c0, .slice A1 l1.length c1] w fun e w' => e = .returned (.bool r) ∧ Drawn0 w w' := by
  have HR0 := Aside0.mk hr0
  have HC0 := Aside0.mk hc0
  clear hr0 hc0
  have HR1 := Aside0.mk hr1
  have HC1 := Aside0.mk hc1
  clear hr1 hc1
  have H : (if (l0.length : Int) = (l1.length : Int) then (tumblerlaw05_same.l0 k l0 l1 0) else (some false)) = some r := h
  clear h
  by_cases c3 : (l0.length : Int) = (l1.length : Int)
  · rw [if_pos c3] at H
    have c3b0 : ((l0.length : Int) == (l1.length : Int)) = true := beq_iff_eq.mpr c3
    have c3b1 : ((l0.length : Int) != (l1.length : Int)) = false := bne_eq_false_iff_eq.mpr c3
    have c3b2 : (l0.length == l1.length) = true := by first | simpa using c3 | (simp at c3 ⊢; omega)
    clear c3
    have H' := Aside0.mk H
    clear H
    go_enter Try.func10, Try.ntmps10
    go_wp2
    repeat (go_quiet (fail); try go_wp2)
    go_loopg [5] k (fun kq v5 w' => ∃ (x5_1 : Int), v5 = .int .i64 x5_1 ∧ Aside0 (tumblerlaw05_same.l0 kq l0 l1 x5_1 = some r) ∧ Aside0 (kq ≤ k) ∧ Drawn0 w w')
    case atStart => exact ⟨(0), (by first | rfl | (simp; done) | (simp [*]; done)), H', ⟨Nat.le_refl _⟩, by repeat (first | exact Drawn0.refl _ | apply Drawn0.step)⟩
    case round =>
      clear H'
      try clear c1
      try clear p2
      try clear c3
      try clear c3b0
      try clear c3b1
      try clear c3b2
      obtain ⟨x5_1, rfl, HA, HK1, ⟨m1, rfl⟩⟩ := hrel
      cases gk with
      | zero => exact absurd HA.out (by simp [tumblerlaw05_same.l0])
      | succ k1 =>
        have H := HA.out
        clear HA
        simp only [tumblerlaw05_same.l0] at H
        by_cases c4 : x5_1 < (l0.length : Int)
        · rw [if_pos c4] at H
          have c4b0 : decide (x5_1 < (l0.length : Int)) = true := decide_eq_true c4
          clear c4
          by_cases c5 : 0 ≤ x5_1
          · rw [if_pos c5] at H
            have c5b0 : decide (0 ≤ x5_1) = true := decide_eq_true c5
            clear c5
            by_cases c6 : x5_1 < (l1.length : Int)
            · rw [if_pos c6] at H
              have c6b0 : decide (x5_1 < (l1.length : Int)) = true := decide_eq_true c6
              clear c6
              by_cases c7 : (rdOf ByteArray.empty l0 x5_1).toList = (rdOf ByteArray.empty l1 x5_1).toList
              · rw [if_pos c7] at H
                have c7b0 : ((rdOf ByteArray.empty l0 x5_1).toList == (rdOf ByteArray.empty l1 x5_1).toList) = true := beq_iff_eq.mpr c7
                have c7b1 : ((rdOf ByteArray.empty l0 x5_1).toList != (rdOf ByteArray.empty l1 x5_1).toList) = false := bne_eq_false_iff_eq.mpr c7
                clear c7
                have H' := Aside0.mk H
                clear H
                have p101 : 0 ≤ (x5_1 : Int) := of_decide_eq_true (by first | (with_reducible assumption) | assumption)
                have q101 : x5_1 < (l0.length : Int) := of_decide_eq_true (by first | (with_reducible assumption) | assumption)
                obtain ⟨ad101, e101, hx101_0⟩ := Kd.at_string HR0.out x5_1 p101 q101
                cases e101
                replace p101 := eq_true p101
                replace q101 := eq_true q101
                have p102 : 0 ≤ (x5_1 : Int) := of_decide_eq_true (by first | (with_reducible assumption) | assumption)
                have q102 : x5_1 < (l1.length : Int) := of_decide_eq_true (by first | (with_reducible assumption) | assumption)
                obtain ⟨ad102, e102, hx102_0⟩ := Kd.at_string HR1.out x5_1 p102 q102
                cases e102
                replace p102 := eq_true p102
                replace q102 := eq_true q102
                go_wp2
                repeat (go_quiet (fail); try go_wp2)
                go_roundg k1
                case measure => have := HK1.out; omega
                case rel => exact ⟨(wrap64 (x5_1 + 1)), (by first | rfl | (simp; done) | (simp [*]; done)), H', ⟨by have := HK1.out; omega⟩, by repeat (first | exact Drawn0.refl _ | apply Drawn0.step)⟩
              · rw [if_neg c7] at H
                have c7b0 : ((rdOf ByteArray.empty l0 x5_1).toList == (rdOf ByteArray.empty l1 x5_1).toList) = false := beq_eq_false_iff_ne.mpr c7
                have c7b1 : ((rdOf ByteArray.empty l0 x5_1).toList != (rdOf ByteArray.empty l1 x5_1).toList) = true := bne_iff_ne.mpr c7
                obtain rfl := Option.some.inj H
                have p101 : 0 ≤ (x5_1 : Int) := of_decide_eq_true (by first | (with_reducible assumption) | assumption)
                have q101 : x5_1 < (l0.length : Int) := of_decide_eq_true (by first | (with_reducible assumption) | assumption)
                obtain ⟨ad101, e101, hx101_0⟩ := Kd.at_string HR0.out x5_1 p101 q101
                cases e101
                replace p101 := eq_true p101
                replace q101 := eq_true q101
                have p102 : 0 ≤ (x5_1 : Int) := of_decide_eq_true (by first | (with_reducible assumption) | assumption)
                have q102 : x5_1 < (l1.length : Int) := of_decide_eq_true (by first | (with_reducible assumption) | assumption)
                obtain ⟨ad102, e102, hx102_0⟩ := Kd.at_string HR1.out x5_1 p102 q102
                cases e102
                replace p102 := eq_true p102
                replace q102 := eq_true q102
                go_wp2
                repeat (go_quiet (fail); try go_wp2)
                go_ret
                exact ⟨by first | rfl | (simp; done) | (simp [*]; done), by repeat (first | exact Drawn0.refl _ | apply Drawn0.step)⟩
            · rw [if_neg c6] at H
              exact absurd H (by simp)
          · rw [if_neg c5] at H
            exact absurd H (by simp)
        · rw [if_neg c4] at H
          have c4b0 : decide (x5_1 < (l0.length : Int)) = false := decide_eq_false c4
          clear c4
          obtain rfl := Option.some.inj H
          go_wp2
          repeat (go_quiet (fail); try go_wp2)
          go_ret
          exact ⟨by first | rfl | (simp; done) | (simp [*]; done), by repeat (first | exact Drawn0.refl _ | apply Drawn0.step)⟩
  · rw [if_neg c3] at H
    have c3b0 : ((l0.length : Int) == (l1.length : Int)) = false := beq_eq_false_iff_ne.mpr c3
    have c3b1 : ((l0.length : Int) != (l1.length : Int)) = true := bne_iff_ne.mpr c3
    have c3b2 : (l0.length == l1.length) = false := by first | simpa using c3 | (simp at c3 ⊢; omega)
    obtain rfl := Option.some.inj H
    go_enter Try.func10, Try.ntmps10
    go_wp2
    repeat (go_quiet (fail); try go_wp2)
    go_ret
    exact ⟨by first | rfl | (simp; done) | (simp [*]; done), by repeat (first | exact Drawn0.refl _ | apply Drawn0.step)⟩

-- NOT PRINTED: function 37 (bytealg_IndexByte)

-- NOT PRINTED: function 30 (bytes_IndexByte)

-- NOT PRINTED: function 31 (wire_bare)

/-! ### wire_Split: function 11 -/
/-- Where a byte is first, or -1. -/
def idx (c : Int) : List Int → Int
  | [] => -1
  | x :: r => if x = c then 0 else if idx c r = -1 then -1 else idx c r + 1
def bytesIn (l : List Int) : Prop := ∀ x ∈ l, 0 ≤ x ∧ x ≤ 255
theorem idx_eq (c : Int) (hc : 0 ≤ c ∧ c ≤ 255) : ∀ (l : List Int), bytesIn l → Lib.indexByte (Lib.bytesOf l) c.toNat.toUInt8 = idx c l := by
  intro l
  induction l with
  | nil => intro _; rfl
  | cons x r ih =>
    intro h
    have hx := h x (List.mem_cons_self)
    have hr := ih (fun y hy => h y (List.mem_cons_of_mem _ hy))
    have e : (x.toNat.toUInt8 == c.toNat.toUInt8) = decide (x = c) := by
      rw [Bool.eq_iff_iff]
      simp only [beq_iff_eq, decide_eq_true_eq]
      constructor
      · intro h
        have h2 := congrArg UInt8.toNat h
        simp at h2
        omega
      · rintro rfl; rfl
    show Lib.indexByte (x.toNat.toUInt8 :: Lib.bytesOf r) _ = _
    simp only [Lib.indexByte, idx, hr, e]
    by_cases h1 : x = c
    · simp [h1]
    · simp [h1]

theorem run_indexByteAny {P : Program} (w : World) (A : Option Addr) (c : Nat) (xs : List Int) (hr : Kd.C (Kd.int .u8) w A xs.length xs) (cv : Int) :
    (Extern.BytealgIndexByte.indexByte #[.slice A xs.length c, .int .u8 cv]).run P w = .ok (.int .i64 (Lib.indexByte (Lib.bytesOf xs) cv.toNat.toUInt8)) w := by
  cases A with
  | none =>
    have h0 : xs = [] := by
      cases xs with
      | nil => rfl
      | cons x r => obtain ⟨ad, h, _⟩ := hr.2.2 (by simp); cases h
    subst h0
    exact Lib.run_indexByteNil w 0 c cv
  | some a =>
    have hl := Lib.run_loadBytesX (P := P) w xs a .empty (fun j x hj => by
      have hjl : j < xs.length := (List.getElem?_eq_some_iff.1 hj).1
      obtain ⟨ad, h1, h2⟩ := hr.2.2 (by omega)
      injection h1 with h1
      subst h1
      obtain ⟨cs, _, hk, hcell⟩ := h2 j x hj
      have hk' : cs = [.int .u8 x] := hk
      have h3 := hcell 0 (.int .u8 x) (by rw [hk']; rfl)
      have e : j * (Kd.int .u8).sz + 0 = j := by show j * 1 + 0 = j; omega
      rw [e] at h3
      exact h3)
    have hs := Lib.run_indexByteString (P := P) ⟨(Lib.bytesOf xs).toArray⟩ cv w
    have he : (⟨ByteArray.empty.data ++ (Lib.bytesOf xs).toArray⟩ : ByteArray) = ⟨(Lib.bytesOf xs).toArray⟩ := by
      apply ByteArray.ext
      show (#[] : Array UInt8) ++ (Lib.bytesOf xs).toArray = (Lib.bytesOf xs).toArray
      simp
    rw [he] at hl
    change Sem.run P (do
      let b ← Extern.Bytes.bytesOf (.slice (some a) xs.length c)
      let c ← Extern.Bytes.asByte (.int .u8 cv)
      match (List.range b.size).find? fun i => b[i]! == c with
      | some i => pure (goInt i)
      | none => pure (goInt (-1))) w = _
    change Sem.run P (do
      let b ← Extern.Bytes.bytesOf (.string ⟨(Lib.bytesOf xs).toArray⟩)
      let c ← Extern.Bytes.asByte (.int .u8 cv)
      match (List.range b.size).find? fun i => b[i]! == c with
      | some i => pure (goInt i)
      | none => pure (goInt (-1))) w = _ at hs
    simp only [Extern.Bytes.bytesOf, Sem.run_bind, Sem.run_pure, hl, Result.andThen] at hs ⊢
    exact hs

set_option maxHeartbeats 400000 in
theorem bytes_IndexByte.calls (A : Option Addr) (c : Nat) (l : List Int) (v : Int) (w : World) (hr : Kd.C (Kd.int .u8) w A l.length l) (hb : bytesIn l) (hv : 0 ≤ v ∧ v ≤ 255) :
    Calls Try.prog 30 #[.slice A l.length c, .int .u8 v] w fun e w' => e = .returned (.int .i64 (idx v l)) ∧ w = w' := by
  have HX := Aside0.mk (run_indexByteAny (P := Try.prog) w A c l hr v)
  have HE := Aside0.mk (idx_eq v hv l hb)
  clear hr hb hv
  go_enter Try.func30, Try.ntmps30
  go_wp2
  rw [run_callFunc_extern Try.func37 (by kernel_rfl) (by kernel_rfl) (by kernel_rfl) (e := Extern.BytealgIndexByte.indexByte) (by kernel_rfl), HX.out]
  simp only [Result.andThen]
  rw [Oper.upon_value]
  go_wp2
  go_ret
  exact ⟨by rw [← HE.out]; rfl, rfl⟩

theorem C_take {α : Type} {d : Kd α} {w : World} {A : Option Addr} {l : List α} (h : d.C w A l.length l) (m : Nat) : d.C w A (l.take m).length (l.take m) := by
  refine ⟨rfl, by have := h.2.1; simp only [List.length_take]; omega, fun hp => ?_⟩
  obtain ⟨ad, h1, h2⟩ := h.2.2 (by simp only [List.length_take] at hp; omega)
  refine ⟨ad, h1, fun j p hj => h2 j p ?_⟩
  rw [List.getElem?_take] at hj
  split at hj
  · exact hj
  · cases hj

def bareL (l : List Int) : List Int := if 0 < (l.length : Int) ∧ rd l ((l.length : Int) - 1) = 13 then l.take ((l.length : Int) - 1).toNat else l

theorem run_cut3 {P : Program} (t e : TypeId) (i : TypeInfo) (ht : P.underlying t = some (.slice e)) (hi : P.info? e = some i) (hsz : i.size = 1) (A : Option Addr) (n c : Nat) (j : Int) (h0 : 0 ≤ j) (hm : j ≤ n) (hc : n ≤ c) :
    ∀ W : World, (Instr.slice t (.slice A n c) none (some (.int .i64 j)) (some (.int .i64 j))).run P W = .ok (.slice A j.toNat j.toNat) W := by
  intro W
  have hel : P.elem t = e := by simp [Program.elem, ht]
  have hu : P.underlying t = some (.slice (P.elem t)) := by rw [hel]; exact ht
  have ha : (A.map fun x => x.add 0) = A := by cases A <;> simp [Addr.add]
  rw [run_slice_hm W t A n c hu .i64 .i64 j j h0 (by omega) (by omega), hel]
  simp [sizeOf, typeInfo, hi, hsz, sliced, Result.andThen, ha]

set_option maxHeartbeats 400000 in
theorem wire_bare.calls (A : Option Addr) (c : Nat) (l : List Int) (w : World) (hr : Kd.C (Kd.int .u8) w A l.length l) (hc : l.length ≤ c) :
    Calls Try.prog 31 #[.slice A l.length c] w fun e w' => e = .returned (.slice A (bareL l).length (bareL l).length) ∧ w = w' := by
  obtain ⟨i5, hi5, hz⟩ := Option.map_eq_some_iff.1 info5
  simp only [Prod.mk.injEq] at hz
  have hn := hr.2.1
  have HL := Aside0.mk (show (bareL l) = if 0 < (l.length : Int) ∧ rd l ((l.length : Int) - 1) = 13 then l.take ((l.length : Int) - 1).toNat else l from rfl)
  generalize bareL l = bl at HL ⊢
  by_cases h0 : 0 < (l.length : Int)
  · obtain ⟨ad, rfl, hcell⟩ := Kd.at_int hr ((l.length : Int) - 1) (by omega) (by omega)
    have hd : decide (0 < (l.length : Int)) = true := decide_eq_true h0
    rw [show ((l.length : Int) - 1).toNat = l.length - 1 by omega] at hcell
    by_cases h1 : rd l ((l.length : Int) - 1) = 13
    · have hrun := run_cut3 (P := Try.prog) 22 5 i5 Try.underlying22 hi5 hz.2.1 (some ad) l.length c ((l.length : Int) - 1) (by omega) (by omega) hc
      have hb : (rd l ((l.length : Int) - 1) == 13) = true := beq_iff_eq.mpr h1
      have HL2 := Aside0.mk (show bl.length = ((l.length : Int) - 1).toNat by rw [HL.out, if_pos ⟨h0, h1⟩, List.length_take]; omega)
      clear HL hz hr hi5 h1
      go_enter Try.func31, Try.ntmps31
      go_wp2
      go_ret
      exact ⟨by rw [HL2.out]; first | rfl | (simp; done) | (simp [Act.tmps]; omega), rfl⟩
    · have hrun := run_cut3 (P := Try.prog) 22 5 i5 Try.underlying22 hi5 hz.2.1 (some ad) l.length c (l.length : Int) (by omega) (by omega) hc
      have hb : (rd l ((l.length : Int) - 1) == 13) = false := beq_eq_false_iff_ne.mpr h1
      have HL2 := Aside0.mk (show bl.length = l.length by rw [HL.out, if_neg (fun h => h1 h.2)])
      clear HL hz hr hi5 h1
      go_enter Try.func31, Try.ntmps31
      go_wp2
      go_ret
      exact ⟨by rw [HL2.out]; rfl, rfl⟩
  · have hl : l = [] := by cases l with | nil => rfl | cons x r => simp at h0
    subst hl
    have hrun := run_cut3 (P := Try.prog) 22 5 i5 Try.underlying22 hi5 hz.2.1 A 0 c 0 (by omega) (by omega) (by omega)
    have HL2 := Aside0.mk (show bl.length = 0 by rw [HL.out, if_neg (fun h => h0 h.1)]; rfl)
    clear HL hz hr hi5 hc hn h0
    go_enter Try.func31, Try.ntmps31
    go_wp2
    go_ret
    exact ⟨by rw [HL2.out]; rfl, rfl⟩

theorem wire_bare.callsN (A : Option Addr) (n c : Nat) (l : List Int) (w : World) (hn : l.length = n) (hr : Kd.C (Kd.int .u8) w A l.length l) (hc : n ≤ c) :
    Calls Try.prog 31 #[.slice A n c] w fun e w' => ∃ m, m = (bareL l).length ∧ e = .returned (.slice A m m) ∧ w = w' := by
  subst hn
  exact (wire_bare.calls A c l w hr hc).mono fun e w' h => ⟨_, rfl, h.1, h.2⟩

theorem idx_range (c : Int) : ∀ l : List Int, -1 ≤ idx c l ∧ idx c l < l.length := by
  intro l
  induction l with
  | nil => simp [idx]
  | cons x r ih =>
    simp only [idx, List.length_cons]
    split
    · omega
    · split <;> omega

theorem C_drop {w : World} {A : Option Addr} {l : List Int} (h : Kd.C (Kd.int .u8) w A l.length l) (m : Nat) : Kd.C (Kd.int .u8) w (A.map fun x => x.add m) (l.drop m).length (l.drop m) := by
  refine ⟨rfl, by have := h.2.1; simp only [List.length_drop]; omega, fun hp => ?_⟩
  obtain ⟨ad, h1, h2⟩ := h.2.2 (by simp only [List.length_drop] at hp; omega)
  refine ⟨ad.add m, by rw [h1]; rfl, fun j p hj => ?_⟩
  obtain ⟨cs, h3, h4, h5⟩ := h2 (m + j) p (by rw [List.getElem?_drop] at hj; exact hj)
  refine ⟨cs, h3, h4, fun i u hu => ?_⟩
  have := h5 i u hu
  have e : ∀ (a : Addr) (i j : Nat), (a.add i).add j = a.add (i + j) := by
    intro a i j
    cases a
    by_cases hi : i = 0 <;> by_cases hj : j = 0 <;> simp [Addr.add, hi, hj, Nat.add_assoc]
  rw [e]
  have e2 : m + (j * (Kd.int .u8).sz + i) = (m + j) * (Kd.int .u8).sz + i := by show m + (j * 1 + i) = (m + j) * 1 + i; omega
  rw [e2]; exact this

theorem run_cutl {P : Program} (t e : TypeId) (i : TypeInfo) (ht : P.underlying t = some (.slice e)) (hi : P.info? e = some i) (hsz : i.size = 1) (A : Option Addr) (n c : Nat) (j : Int) (h0 : 0 ≤ j) (hm : j ≤ n) (hc : n ≤ c) :
    ∃ A' : Option Addr, (∀ W : World, (Instr.slice t (.slice A n c) (some (.int .i64 j)) none none).run P W = .ok (.slice A' (n - j.toNat) (c - j.toNat)) W) ∧ ∀ (w : World) (l : List Int), l.length = n → Kd.C (Kd.int .u8) w A l.length l → Kd.C (Kd.int .u8) w A' (l.drop j.toNat).length (l.drop j.toNat) := by
  refine ⟨if c = j.toNat then A else A.map (·.add j.toNat), fun W => ?_, fun w l hl h => ?_⟩
  · have hel : P.elem t = e := by simp [Program.elem, ht]
    have hu : P.underlying t = some (.slice (P.elem t)) := by rw [hel]; exact ht
    rw [run_slice_l W t A n c hu .i64 j h0 (by omega), hel]
    simp [sizeOf, typeInfo, hi, hsz, sliced, Result.andThen]
  · split
    · have : l.drop j.toNat = [] := List.drop_eq_nil_of_le (by omega)
      rw [this]
      exact ⟨rfl, by simp, fun hp => by simp at hp⟩
    · exact C_drop h _

def wire_Split.l0 : Nat → List Int → List ByteArray → Option (List ByteArray)
  | 0, _, _ => none
  | k + 1, d, acc =>
    if 0 ≤ idx 10 d then
      (if 0 < (bareL (d.take (idx 10 d).toNat)).length then (if acc.length < 8796093022208 then wire_Split.l0 k (d.drop (idx 10 d + 1).toNat) (acc ++ [strOfNums (bareL (d.take (idx 10 d).toNat))]) else none)
        else wire_Split.l0 k (d.drop (idx 10 d + 1).toNat) acc)
    else (if 0 < (bareL d).length then (if acc.length < 8796093022208 then some (acc ++ [strOfNums (bareL d)]) else none) else some acc)
def wire_Split.f (k : Nat) (l0 : List Int) : Option (List ByteArray) := if l0.all (fun x => decide (0 ≤ x ∧ x ≤ 255)) then wire_Split.l0 k l0 [] else none

theorem wire_Split.mono_l : ∀ k, (∀ y0 y1, LeO (wire_Split.l0 k y0 y1) (wire_Split.l0 (k + 1) y0 y1))
  | 0 => fun _ _ r h => by simp [wire_Split.l0] at h
  | k + 1 => by
    have ih0 := wire_Split.mono_l k
    intro y0 y1
    unfold wire_Split.l0
    repeat' first
      | (with_reducible exact ih0 _ _)
      | (with_reducible exact LeO.refl _)
      | (with_reducible exact LeO.none _)
      | (with_reducible refine LeO.ite ?_ ?_)
theorem wire_Split.mono : ∀ a0 k, LeO (wire_Split.f k a0) (wire_Split.f (k + 1) a0) := by
  intro a0 k
  unfold wire_Split.f
  exact LeO.ite (wire_Split.mono_l k _ _) (LeO.refl _)

theorem bytesIn_take {l : List Int} (h : bytesIn l) (m : Nat) : bytesIn (l.take m) := fun x hx => h x (List.mem_of_mem_take hx)
theorem bytesIn_drop {l : List Int} (h : bytesIn l) (m : Nat) : bytesIn (l.drop m) := fun x hx => h x (List.mem_of_mem_drop hx)
theorem bareL_take (l : List Int) : ∃ m, bareL l = l.take m := by
  unfold bareL
  split
  · exact ⟨_, rfl⟩
  · exact ⟨l.length, (List.take_length).symm⟩
theorem C_bare {w : World} {A : Option Addr} {l : List Int} (h : Kd.C (Kd.int .u8) w A l.length l) : Kd.C (Kd.int .u8) w A (bareL l).length (bareL l) := by
  obtain ⟨m, hm⟩ := bareL_take l
  rw [hm]
  exact C_take h m

set_option maxHeartbeats 2000000 in
theorem wire_Split.calls (k : Nat) (A0 : Option Addr) (c0 : Nat) (l0 : List Int) (r : List ByteArray) (w : World) (hr0 : Kd.C (Kd.int .u8) w A0 l0.length l0) (hc0 : l0.length ≤ c0) (h : wire_Split.f k l0 = some r) :
    Calls Try.prog 11 #[.slice A0 l0.length c0] w fun e w' => ∃ v0_ : Value, e = .returned (v0_) ∧ Kd.R Kd.string 9 w' w.heap.size (fun _ => True) v0_ r ∧ Below w.heap.size w w' := by
  unfold wire_Split.f at h
  by_cases hby : ¬ l0.all (fun x => decide (0 ≤ x ∧ x ≤ 255)) = true
  · rw [if_neg hby] at h; cases h
  rw [Decidable.not_not] at hby
  rw [if_pos hby] at h
  have hby' : bytesIn l0 := fun x hx => of_decide_eq_true (List.all_eq_true.1 hby x hx)
  have HR0 := Aside0.mk hr0
  have HC0 := Aside0.mk hc0
  have HY0 := Aside0.mk hby'
  have H' := Aside0.mk h
  have HB := Aside0.mk (Below.refl w.heap.size w)
  clear hr0 hc0 hby hby' h
  obtain ⟨i5, hi5, hz⟩ := Option.map_eq_some_iff.1 info5
  simp only [Prod.mk.injEq] at hz
  have HI5 := Aside0.mk hi5
  have HZ := Aside0.mk hz.2.1
  clear hi5 hz
  go_enter Try.func11, Try.ntmps11
  go_wp2
  go_loopg [0, 3] k (fun kq v0 v3 w' => ∃ (d : List Int) (A : Option Addr) (c : Nat) (acc : List ByteArray), v0 = .slice A d.length c ∧ Aside0 (d.length ≤ c) ∧ Aside0 (Kd.C (Kd.int .u8) w A d.length d) ∧ Aside0 (bytesIn d) ∧ Aside0 (wire_Split.l0 kq d acc = some r) ∧ Aside0 (kq ≤ k) ∧ Aside0 (Kd.R Kd.string 9 w' w.heap.size (fun _ => True) v3 acc) ∧ Aside0 (Below w.heap.size w w'))
  case atStart => exact ⟨l0, A0, c0, [], rfl, HC0, HR0, HY0, H', ⟨Nat.le_refl _⟩, ⟨Kd.R_nil _ _ _ _ _⟩, HB⟩
  case round =>
    clear H' HB HR0 HC0 HY0
    obtain ⟨d, A, c, acc, rfl, HC, HR, HY, HA, HK, HO, HB⟩ := hrel
    cases gk with
    | zero => exact absurd HA.out (by simp [wire_Split.l0])
    | succ k1 =>
      have H := HA.out
      clear HA
      simp only [wire_Split.l0] at H
      have hix := idx_range 10 d
      by_cases hi : 0 ≤ idx 10 d
      · rw [if_pos hi] at H
        generalize hI : idx 10 d = I at H hix hi
        have NI := Aside0.mk hI
        clear hI
        have hrun0 := run_cut3 (P := Try.prog) 22 5 i5 Try.underlying22 HI5.out HZ.out A d.length c I hi (by omega) HC.out
        obtain ⟨A', hrun1, hA'⟩ := run_cutl (P := Try.prog) 22 5 i5 Try.underlying22 HI5.out HZ.out A d.length c (I + 1) (by omega) (by omega) HC.out
        have HR1 := Aside0.mk (hA' w d rfl HR.out)
        clear hA'
        have htl : (d.take I.toNat).length = I.toNat := by rw [List.length_take]; omega
        have hdl : (d.length : Int) ≤ 9223372036854775807 := by have := HR.out.2.1; omega
        have hI1 : 0 ≤ I + 1 := by omega
        have hI2 : I + 1 ≤ (d.length : Int) := by omega
        have hI3 : I + 1 ≤ 9223372036854775807 := by omega
        have HRP := Aside0.mk (C_take HR.out I.toNat)
        have HT := Aside0.mk htl
        clear htl
        by_cases hb : 0 < (bareL (d.take I.toNat)).length
        · rw [if_pos hb] at H
          by_cases hl : acc.length < 8796093022208
          · rw [if_pos hl] at H
            have LM := Aside0.mk hl
            clear hl

            generalize hS : strOfNums (bareL (d.take I.toNat)) = S at H
            have hcv := Kd.C_string (P := Try.prog) (A := A) (c := (bareL (d.take I.toNat)).length) Try.underlying22 Try.underlying5 Try.underlying9 (Kd.C_below (C_bare HRP.out) HB.out)
            rw [hS] at hcv
            clear hS
            obtain ⟨nb, hnb⟩ : ∃ nb, nb = (bareL (d.take I.toNat)).length := ⟨_, rfl⟩
            rw [← hnb] at hcv hb
            have NB := Aside0.mk hnb
            clear hnb

            have hbz : decide (0 < nb) = true := decide_eq_true hb
            have hi2 : decide (I < 0) = false := decide_eq_false (by omega)
            have hi3 : decide (0 ≤ I) = true := decide_eq_true hi
            have HX := Aside0.mk H
            clear H hb
            go_wp2_with (first | (go_at_call 30; (with_reducible refine (bytes_IndexByte.calls A c d 10 _ (Kd.C_below HR.out HB.out) HY.out (by omega)).mono ?_); rintro e w' ⟨rfl, rfl⟩; rw [NI.out]) | (go_at_call 31; (with_reducible refine (wire_bare.callsN A _ _ (d.take I.toNat) _ HT.out (Kd.C_below HRP.out HB.out) (Nat.le_refl _)).mono ?_); rintro e w' ⟨m, hm, rfl, rfl⟩; rw [← NB.out] at hm; subst hm) | ((with_reducible refine gate_builtin (b := .append) (xs := #[.tmp 21, .tmp 24]) rfl ?_); at_builtin; refine Kd.R_append Kd.string (w0 := w) w.heap.size rfl (.tmp 21) (.tmp 24) 24 9 (.string ⟨#[]⟩) 16 rfl Try.underlying24 info9 rfl (by decide) (by omega) u3 acc S [.string S] (fun _ => True) (fun _ => False) rfl rfl ?aP (fun _ hk => hk.elim) ?aF ?aO ?aB ?aS ?aL ?_; (case aP => exact rfl); (case aB => exact (by repeat (first | (with_reducible first | exact HB.out | apply below_alloc | apply pw_below_drewN | apply below_drew1) | exact HB.out))); (case aF => exact (fun _ _ => trivial)); (case aO => exact (by (with_reducible repeat (first | apply Kd.R_alloc | apply Kd.R_drewN | apply Kd.R_drew)); exact HO.out)); (case aS => exact (below_size (by repeat (first | (with_reducible first | exact HB.out | apply below_alloc | apply pw_below_drewN | apply below_drew1) | exact HB.out)))); (case aL => have := LM.out; omega); intro v111 w12 ho hb2 hg hat; have n0_ := Aside0.mk hb2; have n1_ := Aside0.mk ho; clear HB HO; have HB := n0_; have HO := n1_; clear n0_ n1_ ho hb2 hg hat))
            go_roundg k1
            case measure => have := HK.out; omega
            case rel => exact ⟨_, _, _, _, by rw [List.length_drop], ⟨by have := HC.out; rw [List.length_drop]; omega⟩, HR1, ⟨bytesIn_drop HY.out _⟩, HX, ⟨by have := HK.out; omega⟩, ⟨by (with_reducible repeat (first | apply Kd.R_alloc | apply Kd.R_drewN | apply Kd.R_drew)); exact HO.out⟩, ⟨by repeat (first | (with_reducible first | exact HB.out | apply below_alloc | apply pw_below_drewN | apply below_drew1) | exact HB.out)⟩⟩
          · rw [if_neg hl] at H; cases H
        · rw [if_neg hb] at H
          obtain ⟨nb, hnb⟩ : ∃ nb, nb = (bareL (d.take I.toNat)).length := ⟨_, rfl⟩
          rw [← hnb] at hb
          have NB := Aside0.mk hnb
          clear hnb
          have hbz : decide (0 < nb) = false := decide_eq_false hb
          have hi2 : decide (I < 0) = false := decide_eq_false (by omega)
          have hi3 : decide (0 ≤ I) = true := decide_eq_true hi
          have HX := Aside0.mk H
          clear H hb
          go_wp2_with (first | (go_at_call 30; (with_reducible refine (bytes_IndexByte.calls A c d 10 _ (Kd.C_below HR.out HB.out) HY.out (by omega)).mono ?_); rintro e w' ⟨rfl, rfl⟩; rw [NI.out]) | (go_at_call 31; (with_reducible refine (wire_bare.callsN A _ _ (d.take I.toNat) _ HT.out (Kd.C_below HRP.out HB.out) (Nat.le_refl _)).mono ?_); rintro e w' ⟨m, hm, rfl, rfl⟩; rw [← NB.out] at hm; subst hm))
          go_roundg k1
          case measure => have := HK.out; omega
          case rel => exact ⟨_, _, _, _, by rw [List.length_drop], ⟨by have := HC.out; rw [List.length_drop]; omega⟩, HR1, ⟨bytesIn_drop HY.out _⟩, HX, ⟨by have := HK.out; omega⟩, HO, HB⟩
      · rw [if_neg hi] at H
        generalize hI : idx 10 d = I at H hix hi
        have NI := Aside0.mk hI
        clear hI
        have HRP := HR
        by_cases hb : 0 < (bareL d).length
        · rw [if_pos hb] at H
          by_cases hl : acc.length < 8796093022208
          · rw [if_pos hl] at H
            have LM := Aside0.mk hl
            clear hl

            generalize hS : strOfNums (bareL (d)) = S at H
            have hcv := Kd.C_string (P := Try.prog) (A := A) (c := (bareL (d)).length) Try.underlying22 Try.underlying5 Try.underlying9 (Kd.C_below (C_bare HRP.out) HB.out)
            rw [hS] at hcv
            clear hS
            obtain ⟨nb, hnb⟩ : ∃ nb, nb = (bareL (d)).length := ⟨_, rfl⟩
            rw [← hnb] at hcv hb
            have NB := Aside0.mk hnb
            clear hnb

            have hbz : decide (0 < nb) = true := decide_eq_true hb
            have hi2 : decide (I < 0) = true := decide_eq_true (by omega)
            have hi3 : decide (0 ≤ I) = false := decide_eq_false hi
            have HX := Aside0.mk (Option.some.inj H)
            clear H hb
            go_wp2_with (first | (go_at_call 30; (with_reducible refine (bytes_IndexByte.calls A c d 10 _ (Kd.C_below HR.out HB.out) HY.out (by omega)).mono ?_); rintro e w' ⟨rfl, rfl⟩; rw [NI.out]) | (go_at_call 31; (with_reducible refine (wire_bare.callsN A _ _ (d) _ rfl (Kd.C_below HRP.out HB.out) HC.out).mono ?_); rintro e w' ⟨m, hm, rfl, rfl⟩; rw [← NB.out] at hm; subst hm) | ((with_reducible refine gate_builtin (b := .append) (xs := #[.tmp 21, .tmp 24]) rfl ?_); at_builtin; refine Kd.R_append Kd.string (w0 := w) w.heap.size rfl (.tmp 21) (.tmp 24) 24 9 (.string ⟨#[]⟩) 16 rfl Try.underlying24 info9 rfl (by decide) (by omega) u3 acc S [.string S] (fun _ => True) (fun _ => False) rfl rfl ?aP (fun _ hk => hk.elim) ?aF ?aO ?aB ?aS ?aL ?_; (case aP => exact rfl); (case aB => exact (by repeat (first | (with_reducible first | exact HB.out | apply below_alloc | apply pw_below_drewN | apply below_drew1) | exact HB.out))); (case aF => exact (fun _ _ => trivial)); (case aO => exact (by (with_reducible repeat (first | apply Kd.R_alloc | apply Kd.R_drewN | apply Kd.R_drew)); exact HO.out)); (case aS => exact (below_size (by repeat (first | (with_reducible first | exact HB.out | apply below_alloc | apply pw_below_drewN | apply below_drew1) | exact HB.out)))); (case aL => have := LM.out; omega); intro v111 w12 ho hb2 hg hat; have n0_ := Aside0.mk hb2; have n1_ := Aside0.mk ho; clear HB HO; have HB := n0_; have HO := n1_; clear n0_ n1_ ho hb2 hg hat))
            go_ret
            exact ⟨_, rfl, by rw [← HX.out]; exact HO.out, HB.out⟩
          · rw [if_neg hl] at H; cases H
        · rw [if_neg hb] at H
          obtain ⟨nb, hnb⟩ : ∃ nb, nb = (bareL d).length := ⟨_, rfl⟩
          rw [← hnb] at hb
          have NB := Aside0.mk hnb
          clear hnb
          have hbz : decide (0 < nb) = false := decide_eq_false hb
          have hi2 : decide (I < 0) = true := decide_eq_true (by omega)
          have hi3 : decide (0 ≤ I) = false := decide_eq_false hi
          have HX := Aside0.mk (Option.some.inj H)
          clear H hb
          go_wp2_with (first | (go_at_call 30; (with_reducible refine (bytes_IndexByte.calls A c d 10 _ (Kd.C_below HR.out HB.out) HY.out (by omega)).mono ?_); rintro e w' ⟨rfl, rfl⟩; rw [NI.out]) | (go_at_call 31; (with_reducible refine (wire_bare.callsN A _ _ (d) _ rfl (Kd.C_below HRP.out HB.out) HC.out).mono ?_); rintro e w' ⟨m, hm, rfl, rfl⟩; rw [← NB.out] at hm; subst hm))
          go_ret
          exact ⟨_, rfl, by rw [← HX.out]; exact HO.out, HB.out⟩


/-! ### tumblerref05_cut: function 32 -/
def tumblerref05_cut.l0 : Nat → ByteArray → List ByteArray → Int → Int → Option (List ByteArray)
  | 0, _, _, _, _ => none
  | k + 1, x0, x3, x4, x5 => if x5 ≤ (x0.size : Int) then (if x5 = (x0.size : Int) then (if 0 ≤ x4 then (if x4 ≤ x5 then (if x3.length < 8796093022208 then (tumblerref05_cut.l0 k x0 (x3 ++ [x0.extract (x4 : Int).toNat (x5 : Int).toNat]) (wrap64 (x5 + 1)) (wrap64 (x5 + 1))) else (none)) else (none)) else (none)) else (if 0 ≤ x5 then (if x5 < (x0.size : Int) then (if (bt x0 x5) = 10 then (if 0 ≤ x4 then (if x4 ≤ x5 then (if x3.length < 8796093022208 then (tumblerref05_cut.l0 k x0 (x3 ++ [x0.extract (x4 : Int).toNat (x5 : Int).toNat]) (wrap64 (x5 + 1)) (wrap64 (x5 + 1))) else (none)) else (none)) else (none)) else (tumblerref05_cut.l0 k x0 x3 x4 (wrap64 (x5 + 1)))) else (none)) else (none))) else (some x3)
def tumblerref05_cut.f (k : Nat) (a0 : ByteArray) : Option (List ByteArray) := tumblerref05_cut.l0 k a0 ([] : List ByteArray) 0 0
theorem tumblerref05_cut.mono_l : ∀ k, (∀ y0 y1 y2 y3, LeO (tumblerref05_cut.l0 k y0 y1 y2 y3) (tumblerref05_cut.l0 (k + 1) y0 y1 y2 y3))
  | 0 => fun _ _ _ _ r h => by simp [tumblerref05_cut.l0] at h
  | k + 1 => by
    have ih0 := tumblerref05_cut.mono_l k
    · intro y0 y1 y2 y3
      unfold tumblerref05_cut.l0
      repeat' first
      | (with_reducible exact ih0 _ _ _ _)
      | (with_reducible exact LeO.refl _)
      | (with_reducible exact LeO.none _)
      | (with_reducible refine LeO.ite ?_ ?_)
      | (with_reducible refine LeO.bind ?_ (fun _ => ?_))
      | exact ih0 _ _ _ _
      | exact LeO.none _
      | refine LeO.ite ?_ ?_
      | refine LeO.bind ?_ (fun _ => ?_)
theorem tumblerref05_cut.mono : ∀ a0 k, LeO (tumblerref05_cut.f k a0) (tumblerref05_cut.f (k + 1) a0) := by
  intro a0 k
  have ih0 := tumblerref05_cut.mono_l k
  unfold tumblerref05_cut.f
  repeat' first
      | (with_reducible exact ih0 _ _ _ _)
      | (with_reducible exact LeO.refl _)
      | (with_reducible exact LeO.none _)
      | (with_reducible refine LeO.ite ?_ ?_)
      | (with_reducible refine LeO.bind ?_ (fun _ => ?_))
      | exact ih0 _ _ _ _
      | exact LeO.none _
      | refine LeO.ite ?_ ?_
      | refine LeO.bind ?_ (fun _ => ?_)
set_option maxHeartbeats 8000000 in
set_option maxRecDepth 100000 in
theorem tumblerref05_cut.calls (k : Nat) (a0 : ByteArray) (r : List ByteArray) (w : World) (h : tumblerref05_cut.f k a0 = some r) :
    Calls Try.prog 32 #[.string a0] w fun e w' => ∃ v0_ : Value, e = .returned (v0_) ∧ Kd.R Kd.string 9 w' w.heap.size (fun _ => True) v0_ r ∧ Below w.heap.size w w' := by
  have HB := Aside0.mk (Below.refl w.heap.size w)
  have H : (tumblerref05_cut.l0 k a0 ([] : List ByteArray) 0 0) = some r := h
  clear h
  have H' := Aside0.mk H
  clear H
  go_enter Try.func32, Try.ntmps32
  go_wp2
  go_loopg [3, 4, 5] k (fun kq v3 v4 v5 w' => ∃ (x3_1 : List ByteArray) (x4_1 : Int) (x5_1 : Int), v4 = .int .i64 x4_1 ∧ v5 = .int .i64 x5_1 ∧ Aside0 (tumblerref05_cut.l0 kq a0 x3_1 x4_1 x5_1 = some r) ∧ Aside0 (kq ≤ k) ∧ Aside0 (Kd.R Kd.string 9 w' w.heap.size (fun _ => True) v3 x3_1) ∧ Aside0 (Below w.heap.size w w'))
  case atStart => exact ⟨(([] : List ByteArray)), (0), (0), (by first | rfl | (simp; done) | (simp [*]; done)), (by first | rfl | (simp; done) | (simp [*]; done)), H', ⟨Nat.le_refl _⟩, ⟨by first | exact Kd.R_nil _ _ _ _ _ | exact Kd.N_nil _ _ _ _ _ | exact Kd.V_nil _ _ _ _ _ | exact Kd.Q_nil _ _ _ _ _ | exact Kd.S_nil _ _ _ _ _⟩, ⟨by repeat (first | (with_reducible first | exact HB.out | apply below_alloc | apply pw_below_drewN | apply below_drew1) | exact HB.out)⟩⟩
  case round =>
    clear H'
    obtain ⟨x3_1, x4_1, x5_1, rfl, rfl, HA, HK1, HO_3, HB⟩ := hrel
    cases gk with
    | zero => exact absurd HA.out (by simp [tumblerref05_cut.l0])
    | succ k1 =>
      have H := HA.out
      clear HA
      simp only [tumblerref05_cut.l0] at H
      by_cases c2 : x5_1 ≤ (a0.size : Int)
      · rw [if_pos c2] at H
        have c2b0 : decide (x5_1 ≤ (a0.size : Int)) = true := decide_eq_true c2
        clear c2
        by_cases c3 : x5_1 = (a0.size : Int)
        · rw [if_pos c3] at H
          have c3b0 : (x5_1 == (a0.size : Int)) = true := beq_iff_eq.mpr c3
          have c3b1 : (x5_1 != (a0.size : Int)) = false := bne_eq_false_iff_eq.mpr c3
          clear c3
          by_cases c4 : 0 ≤ x4_1
          · rw [if_pos c4] at H
            have c4b0 := eq_true c4
            have c4b1 : decide (0 ≤ x4_1) = true := decide_eq_true c4
            clear c4
            by_cases c5 : x4_1 ≤ x5_1
            · rw [if_pos c5] at H
              have c5b0 := eq_true c5
              have c5b1 : decide (x4_1 ≤ x5_1) = true := decide_eq_true c5
              clear c5
              have c6b0 := eq_true (of_decide_eq_true (by first | (with_reducible assumption) | assumption) : x5_1 ≤ (a0.size : Int))
              by_cases c7 : x3_1.length < 8796093022208
              · rw [if_pos c7] at H
                have LMc7 := Aside0.mk c7
                clear c7
                obtain ⟨y104, hy104⟩ : ∃ y_ : List ByteArray, y_ = (x3_1 ++ [a0.extract (x4_1 : Int).toNat (x5_1 : Int).toNat]) := ⟨_, rfl⟩
                replace H : (tumblerref05_cut.l0 k1 a0 y104 (wrap64 (x5_1 + 1)) (wrap64 (x5_1 + 1))) = some r := by first | (rw [hy104]; with_reducible exact H) | (have H2_ := (Option.bind_some _ _).symm.trans H; rw [hy104]; with_reducible exact H2_) | (have H2_ := (Option.bind_some _ _).symm.trans H; with_reducible exact H2_) | with_reducible exact H | (rw [hy104]; exact H) | exact H
                have Ny104 := Aside0.mk hy104
                clear hy104
                have H' := Aside0.mk H
                clear H
                go_wp2_with (first | ((with_reducible refine gate_builtin (b := .append) (xs := #[.tmp 22, .tmp 27]) rfl ?_); at_builtin; refine Kd.R_append Kd.string (w0 := w) w.heap.size rfl (.tmp 22) (.tmp 27) 24 9 (.string ⟨#[]⟩) 16 rfl Try.underlying24 info9 rfl (by decide) (by omega) u3 x3_1 (a0.extract (x4_1 : Int).toNat (x5_1 : Int).toNat) [.string (a0.extract (x4_1 : Int).toNat (x5_1 : Int).toNat)] (fun _ => True) (fun _ => False) rfl rfl ?aP (fun _ hk => hk.elim) ?aF ?aO ?aB ?aS ?aL ?_; (case aP => exact rfl); (case aB => exact (by repeat (first | (with_reducible first | exact HB.out | apply below_alloc | apply pw_below_drewN | apply below_drew1) | exact HB.out))); (case aF => exact (fun _ _ => trivial)); (case aO => exact (by (with_reducible repeat (first | apply Kd.R_alloc | apply Kd.R_drewN | apply Kd.R_drew)); exact HO_3.out)); (case aS => exact (below_size (by repeat (first | (with_reducible first | exact HB.out | apply below_alloc | apply pw_below_drewN | apply below_drew1) | exact HB.out)))); (case aL => have := LMc7.out; omega); intro v105 w8 ho hb hg hat; rw [← Ny104.out] at ho; have n0_ := Aside0.mk (hb); have n1_ := Aside0.mk (ho); clear HB; clear HO_3; have HB := n0_; have HO106 := n1_; clear n0_ n1_; clear ho hb hg hat))
                go_roundg k1
                case measure => have := HK1.out; omega
                case rel => exact ⟨(y104), (wrap64 (x5_1 + 1)), (wrap64 (x5_1 + 1)), (by first | rfl | (simp; done) | (simp [*]; done)), (by first | rfl | (simp; done) | (simp [*]; done)), H', ⟨by have := HK1.out; omega⟩, ⟨by (with_reducible repeat (first | apply Kd.R_alloc | apply Kd.R_drewN | apply Kd.R_drew)); exact HO106.out⟩, ⟨by repeat (first | (with_reducible first | exact HB.out | apply below_alloc | apply pw_below_drewN | apply below_drew1) | exact HB.out)⟩⟩
              · rw [if_neg c7] at H
                exact absurd H (by simp)
            · rw [if_neg c5] at H
              exact absurd H (by simp)
          · rw [if_neg c4] at H
            exact absurd H (by simp)
        · rw [if_neg c3] at H
          have c3b0 : (x5_1 == (a0.size : Int)) = false := beq_eq_false_iff_ne.mpr c3
          have c3b1 : (x5_1 != (a0.size : Int)) = true := bne_iff_ne.mpr c3
          by_cases c9 : 0 ≤ x5_1
          · rw [if_pos c9] at H
            have c9b0 : decide (0 ≤ x5_1) = true := decide_eq_true c9
            clear c9
            by_cases c10 : x5_1 < (a0.size : Int)
            · rw [if_pos c10] at H
              have c10b0 : decide (x5_1 < (a0.size : Int)) = true := decide_eq_true c10
              clear c10
              by_cases c12 : (bt a0 x5_1) = 10
              · rw [if_pos c12] at H
                have c12b0 : ((bt a0 x5_1) == 10) = true := beq_iff_eq.mpr c12
                have c12b1 : ((bt a0 x5_1) != 10) = false := bne_eq_false_iff_eq.mpr c12
                clear c12
                by_cases c13 : 0 ≤ x4_1
                · rw [if_pos c13] at H
                  have c13b0 := eq_true c13
                  have c13b1 : decide (0 ≤ x4_1) = true := decide_eq_true c13
                  clear c13
                  by_cases c14 : x4_1 ≤ x5_1
                  · rw [if_pos c14] at H
                    have c14b0 := eq_true c14
                    have c14b1 : decide (x4_1 ≤ x5_1) = true := decide_eq_true c14
                    clear c14
                    have c15b0 := eq_true (of_decide_eq_true (by first | (with_reducible assumption) | assumption) : x5_1 ≤ (a0.size : Int))
                    by_cases c16 : x3_1.length < 8796093022208
                    · rw [if_pos c16] at H
                      have LMc16 := Aside0.mk c16
                      clear c16
                      obtain ⟨y107, hy107⟩ : ∃ y_ : List ByteArray, y_ = (x3_1 ++ [a0.extract (x4_1 : Int).toNat (x5_1 : Int).toNat]) := ⟨_, rfl⟩
                      replace H : (tumblerref05_cut.l0 k1 a0 y107 (wrap64 (x5_1 + 1)) (wrap64 (x5_1 + 1))) = some r := by first | (rw [hy107]; with_reducible exact H) | (have H2_ := (Option.bind_some _ _).symm.trans H; rw [hy107]; with_reducible exact H2_) | (have H2_ := (Option.bind_some _ _).symm.trans H; with_reducible exact H2_) | with_reducible exact H | (rw [hy107]; exact H) | exact H
                      have Ny107 := Aside0.mk hy107
                      clear hy107
                      have H' := Aside0.mk H
                      clear H
                      have p11 : 0 ≤ (x5_1 : Int) := of_decide_eq_true (by first | (with_reducible assumption) | assumption)
                      have q11 : x5_1 < (a0.size : Int) := of_decide_eq_true (by first | (with_reducible assumption) | assumption)
                      have hx11 := bt_at a0 x5_1
                      replace p11 := eq_true p11
                      replace q11 := eq_true q11
                      go_wp2_with (first | ((with_reducible refine gate_builtin (b := .append) (xs := #[.tmp 22, .tmp 27]) rfl ?_); at_builtin; refine Kd.R_append Kd.string (w0 := w) w.heap.size rfl (.tmp 22) (.tmp 27) 24 9 (.string ⟨#[]⟩) 16 rfl Try.underlying24 info9 rfl (by decide) (by omega) u3 x3_1 (a0.extract (x4_1 : Int).toNat (x5_1 : Int).toNat) [.string (a0.extract (x4_1 : Int).toNat (x5_1 : Int).toNat)] (fun _ => True) (fun _ => False) rfl rfl ?aP (fun _ hk => hk.elim) ?aF ?aO ?aB ?aS ?aL ?_; (case aP => exact rfl); (case aB => exact (by repeat (first | (with_reducible first | exact HB.out | apply below_alloc | apply pw_below_drewN | apply below_drew1) | exact HB.out))); (case aF => exact (fun _ _ => trivial)); (case aO => exact (by (with_reducible repeat (first | apply Kd.R_alloc | apply Kd.R_drewN | apply Kd.R_drew)); exact HO_3.out)); (case aS => exact (below_size (by repeat (first | (with_reducible first | exact HB.out | apply below_alloc | apply pw_below_drewN | apply below_drew1) | exact HB.out)))); (case aL => have := LMc16.out; omega); intro v108 w17 ho hb hg hat; rw [← Ny107.out] at ho; have n0_ := Aside0.mk (hb); have n1_ := Aside0.mk (ho); clear HB; clear HO_3; have HB := n0_; have HO109 := n1_; clear n0_ n1_; clear ho hb hg hat))
                      go_roundg k1
                      case measure => have := HK1.out; omega
                      case rel => exact ⟨(y107), (wrap64 (x5_1 + 1)), (wrap64 (x5_1 + 1)), (by first | rfl | (simp; done) | (simp [*]; done)), (by first | rfl | (simp; done) | (simp [*]; done)), H', ⟨by have := HK1.out; omega⟩, ⟨by (with_reducible repeat (first | apply Kd.R_alloc | apply Kd.R_drewN | apply Kd.R_drew)); exact HO109.out⟩, ⟨by repeat (first | (with_reducible first | exact HB.out | apply below_alloc | apply pw_below_drewN | apply below_drew1) | exact HB.out)⟩⟩
                    · rw [if_neg c16] at H
                      exact absurd H (by simp)
                  · rw [if_neg c14] at H
                    exact absurd H (by simp)
                · rw [if_neg c13] at H
                  exact absurd H (by simp)
              · rw [if_neg c12] at H
                have c12b0 : ((bt a0 x5_1) == 10) = false := beq_eq_false_iff_ne.mpr c12
                have c12b1 : ((bt a0 x5_1) != 10) = true := bne_iff_ne.mpr c12
                have H' := Aside0.mk H
                clear H
                have p11 : 0 ≤ (x5_1 : Int) := of_decide_eq_true (by first | (with_reducible assumption) | assumption)
                have q11 : x5_1 < (a0.size : Int) := of_decide_eq_true (by first | (with_reducible assumption) | assumption)
                have hx11 := bt_at a0 x5_1
                replace p11 := eq_true p11
                replace q11 := eq_true q11
                go_wp2
                go_roundg k1
                case measure => have := HK1.out; omega
                case rel => exact ⟨(x3_1), (x4_1), (wrap64 (x5_1 + 1)), (by first | rfl | (simp; done) | (simp [*]; done)), (by first | rfl | (simp; done) | (simp [*]; done)), H', ⟨by have := HK1.out; omega⟩, ⟨by (with_reducible repeat (first | apply Kd.R_alloc | apply Kd.R_drewN | apply Kd.R_drew)); exact HO_3.out⟩, ⟨by repeat (first | (with_reducible first | exact HB.out | apply below_alloc | apply pw_below_drewN | apply below_drew1) | exact HB.out)⟩⟩
            · rw [if_neg c10] at H
              exact absurd H (by simp)
          · rw [if_neg c9] at H
            exact absurd H (by simp)
      · rw [if_neg c2] at H
        have c2b0 : decide (x5_1 ≤ (a0.size : Int)) = false := decide_eq_false c2
        clear c2
        obtain rfl := Option.some.inj H
        go_wp2
        go_ret
        exact ⟨_, by first | rfl | (simp [errW_none, errW_some] <;> rfl) | (simp [*, errW_none, errW_some] <;> rfl), by (with_reducible repeat (first | apply Kd.R_alloc | apply Kd.R_drewN | apply Kd.R_drew)); exact HO_3.out, by repeat (first | (with_reducible first | exact HB.out | apply below_alloc | apply pw_below_drewN | apply below_drew1) | exact HB.out)⟩

/-! ### tumblerref05_bare: function 33 -/
def tumblerref05_bare.f (a0 : ByteArray) : Option (ByteArray) := if (a0.size : Int) > 0 then (if 0 ≤ (wrap64 ((a0.size : Int) - 1)) then (if (wrap64 ((a0.size : Int) - 1)) < (a0.size : Int) then (if (bt a0 (wrap64 ((a0.size : Int) - 1))) = 13 then (if (wrap64 ((a0.size : Int) - 1)) ≤ (a0.size : Int) then (some (a0.extract 0 ((wrap64 ((a0.size : Int) - 1)) : Int).toNat)) else (none)) else (some a0)) else (none)) else (none)) else (some a0)
set_option maxHeartbeats 8000000 in
set_option maxRecDepth 100000 in
theorem tumblerref05_bare.calls (a0 : ByteArray) (r : ByteArray) (w : World) (h : tumblerref05_bare.f a0 = some r) :
    Calls Try.prog 33 #[.string a0] w fun e w' => e = .returned (.string r) ∧ Drawn0 w w' := by
  have H : (if (a0.size : Int) > 0 then (if 0 ≤ (wrap64 ((a0.size : Int) - 1)) then (if (wrap64 ((a0.size : Int) - 1)) < (a0.size : Int) then (if (bt a0 (wrap64 ((a0.size : Int) - 1))) = 13 then (if (wrap64 ((a0.size : Int) - 1)) ≤ (a0.size : Int) then (some (a0.extract 0 ((wrap64 ((a0.size : Int) - 1)) : Int).toNat)) else (none)) else (some a0)) else (none)) else (none)) else (some a0)) = some r := h
  clear h
  by_cases c2 : (a0.size : Int) > 0
  · rw [if_pos c2] at H
    have c2b0 : decide (0 < (a0.size : Int)) = true := decide_eq_true c2
    have c2b1 : decide (0 < a0.size) = true := decide_eq_true (by omega)
    clear c2
    obtain ⟨ji3, hji3⟩ : ∃ j_ : Int, (wrap64 ((a0.size : Int) - 1)) = j_ := ⟨_, rfl⟩
    replace H : (if 0 ≤ (ji3) then (if (ji3) < (a0.size : Int) then (if (bt a0 (ji3)) = 13 then (if (ji3) ≤ (a0.size : Int) then (some (a0.extract 0 ((ji3) : Int).toNat)) else (none)) else (some a0)) else (none)) else (none)) = some r := by first | (rw [hji3] at H; exact H) | (simp only [hji3] at H ⊢; exact H)
    have hji3w : (IntKind.i64.wrap ((a0.size : Int) - 1)) = ji3 := (i64_w _).trans hji3
    by_cases c4 : 0 ≤ (ji3)
    · rw [if_pos c4] at H
      have c4b0 : decide (0 ≤ (ji3)) = true := decide_eq_true c4
      clear c4
      by_cases c5 : (ji3) < (a0.size : Int)
      · rw [if_pos c5] at H
        have c5b0 : decide ((ji3) < (a0.size : Int)) = true := decide_eq_true c5
        clear c5
        by_cases c7 : (bt a0 (ji3)) = 13
        · rw [if_pos c7] at H
          have c7b0 : ((bt a0 (ji3)) == 13) = true := beq_iff_eq.mpr c7
          have c7b1 : ((bt a0 (ji3)) != 13) = false := bne_eq_false_iff_eq.mpr c7
          clear c7
          have c8b0 := eq_true (of_decide_eq_true (by first | (with_reducible assumption) | assumption) : 0 ≤ (ji3))
          by_cases c9 : (ji3) ≤ (a0.size : Int)
          · rw [if_pos c9] at H
            have c9b0 := eq_true c9
            have c9b1 : decide ((ji3) ≤ (a0.size : Int)) = true := decide_eq_true c9
            clear c9
            obtain rfl := Option.some.inj H
            have p6 : 0 ≤ ((ji3) : Int) := of_decide_eq_true (by first | (with_reducible assumption) | assumption)
            have q6 : (ji3) < (a0.size : Int) := of_decide_eq_true (by first | (with_reducible assumption) | assumption)
            have hx6 := bt_at a0 (ji3)
            replace p6 := eq_true p6
            replace q6 := eq_true q6
            go_enter Try.func33, Try.ntmps33
            go_wp2
            go_ret
            exact ⟨by first | rfl | (simp; done) | (simp only [← hji3] <;> (first | rfl | simp)) | (simp [*]; done), by repeat (first | exact Drawn0.refl _ | apply Drawn0.step)⟩
          · rw [if_neg c9] at H
            exact absurd H (by simp)
        · rw [if_neg c7] at H
          have c7b0 : ((bt a0 (ji3)) == 13) = false := beq_eq_false_iff_ne.mpr c7
          have c7b1 : ((bt a0 (ji3)) != 13) = true := bne_iff_ne.mpr c7
          obtain rfl := Option.some.inj H
          have p6 : 0 ≤ ((ji3) : Int) := of_decide_eq_true (by first | (with_reducible assumption) | assumption)
          have q6 : (ji3) < (a0.size : Int) := of_decide_eq_true (by first | (with_reducible assumption) | assumption)
          have hx6 := bt_at a0 (ji3)
          replace p6 := eq_true p6
          replace q6 := eq_true q6
          go_enter Try.func33, Try.ntmps33
          go_wp2
          go_ret
          exact ⟨by first | rfl | (simp; done) | (simp only [← hji3] <;> (first | rfl | simp)) | (simp [*]; done), by repeat (first | exact Drawn0.refl _ | apply Drawn0.step)⟩
      · rw [if_neg c5] at H
        exact absurd H (by simp)
    · rw [if_neg c4] at H
      exact absurd H (by simp)
  · rw [if_neg c2] at H
    have c2b0 : decide (0 < (a0.size : Int)) = false := decide_eq_false c2
    have c2b1 : decide (0 < a0.size) = false := decide_eq_false (by omega)
    clear c2
    obtain rfl := Option.some.inj H
    go_enter Try.func33, Try.ntmps33
    go_wp2
    go_ret
    exact ⟨by first | rfl | (simp; done) | (simp [*]; done), by repeat (first | exact Drawn0.refl _ | apply Drawn0.step)⟩

end Go.Proofs.Ytoflnoaabjomaaa.Q
