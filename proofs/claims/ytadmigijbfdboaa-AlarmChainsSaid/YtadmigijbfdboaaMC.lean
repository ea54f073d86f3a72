/- Texts of this claim, laid in one: contracts of functions that the claim reaches, and the plain laws that they want; under no condition beyond those that each theorem states. -/
import Derived.Test.YtadmigijbfdboaaASay
namespace Go.Proofs.Ytadmigijbfdboaa.Q
open Go.RowKit Go.Proofs.YtadmigijbfdboaaW.PrintWords Go.Proofs.YtadmigijbfdboaaW.PrintLast Go.Proofs.YtadmigijbfdboaaW.PrintMore Go.Proofs.YtadmigijbfdboaaV
set_option linter.unusedVariables false
set_option linter.unusedSimpArgs false

/-- A pointer to a block. -/
def ptrV (g : Nat) : Value := .pointer (some ⟨g, 0, none⟩)
def kp : Kd Nat := Kd.scalar ptrV (fun _ => rfl)
abbrev Ent := Nat × Rul × Stt
structure BookAt (w : World) (B gb : Nat) (A : Option Addr) (c : Nat) (L : List Ent) : Prop where
  blk : w.heap[gb]? = some (.cells #[.slice A L.length c, .bool true] 68 (0, 0))
  row : Kd.R kp 72 w B (fun _ => True) (.slice A L.length c) (L.map (·.1))
  rules : ∀ x ∈ L, RuleS w x.1 x.2.1 x.2.2 ∧ B ≤ x.1
  nodup : (L.map (·.1)).Nodup
  ge : B ≤ gb
/-- Which rule has a name. -/
def idxP (L : List Ent) (name : ByteArray) : Option Nat := L.findIdx? (fun x => decide (x.2.1.name = name))
theorem BookAt.keep {w w' : World} {B gb : Nat} {A : Option Addr} {c : Nat} {L : List Ent} {S : Nat → Prop} (h : BookAt w B gb A c L) (hk : Keep w w' S) (h1 : ¬ S gb) (h2 : ∀ k, (Value.slice A L.length c).ownBlock = some k → ¬ S k) (h3 : ∀ x ∈ L, ¬ S x.1) : BookAt w' B gb A c L :=
  ⟨(hk.block gb (blk_lt h.blk) h1).trans h.blk, R_keep h.row hk h2, fun x hx => ⟨(hk.block x.1 (blk_lt (h.rules x hx).1) (h3 x hx)).trans (h.rules x hx).1, (h.rules x hx).2⟩, h.nodup, h.ge⟩
theorem BookAt.quiet {w w' : World} {B gb : Nat} {A : Option Addr} {c : Nat} {L : List Ent} (h : BookAt w B gb A c L) (hk : Keep w w' (fun _ => False)) : BookAt w' B gb A c L := h.keep hk (fun h => h) (fun _ _ h => h) (fun _ _ h => h)
/-- One rule has moved on. -/
theorem BookAt.set {w w' : World} {B gb : Nat} {A : Option Addr} {c : Nat} {L : List Ent} (h : BookAt w B gb A c L) {i : Nat} {g : Nat} {r : Rul} {s s' : Stt} (hi : L[i]? = some (g, r, s)) (hk : Keep w w' (fun k => k = g)) (hr : RuleS w' g r s') : BookAt w' B gb A c (L.set i (g, r, s')) := by
  have hm : (g, r, s) ∈ L := List.mem_of_getElem? hi
  have hg := h.rules _ hm
  have e1 : (L.set i (g, r, s')).map (·.1) = L.map (·.1) := by
    rw [List.map_set]
    apply List.ext_getElem?
    intro j
    rw [List.getElem?_set]
    split
    · rename_i e
      subst e
      rw [List.getElem?_map, hi]
      simp only [List.length_map, Option.map_some]
      have := (List.getElem?_eq_some_iff.1 hi).1
      rw [if_pos this]
    · rfl
  have hi2 : i < L.length := (List.getElem?_eq_some_iff.1 hi).1
  refine ⟨?_, ?_, ?_, by rw [e1]; exact h.nodup, h.ge⟩
  · rw [List.length_set]
    exact (hk.block gb (blk_lt h.blk) (ne_typed h.blk hg.1 (by decide))).trans h.blk
  · rw [List.length_set, e1]
    refine R_keep h.row hk (fun k e e2 => ?_)
    obtain ⟨cs, fr, h1⟩ := R_typed h.row k e
    exact ne_typed h1 hg.1 (by decide) e2
  · intro x hx
    obtain ⟨j, hj⟩ := List.mem_iff_getElem?.1 hx
    rw [List.getElem?_set] at hj
    split at hj
    · injection hj with hj
      subst hj
      exact ⟨hr, hg.2⟩
    · rename_i hij
      have hxm : x ∈ L := List.mem_of_getElem? hj
      refine ⟨(hk.block x.1 (blk_lt (h.rules x hxm).1) (fun e => hij ?_)).trans (h.rules x hxm).1, (h.rules x hxm).2⟩
      have hn := h.nodup
      have a1 : (L.map (·.1))[i]? = some g := by rw [List.getElem?_map, hi]; rfl
      have a2 : (L.map (·.1))[j]? = some g := by rw [List.getElem?_map, hj]; simp only [Option.map_some]; rw [e]
      exact (List.getElem?_inj (by rw [List.length_map]; exact hi2) hn).1 (a1.trans a2.symm)

theorem toL_inj {x y : ByteArray} (h : x.toList = y.toList) : x = y := by
  rw [ByteArray.toList_eq, ByteArray.toList_eq] at h
  exact ByteArray.ext (Array.toList_inj.1 h)
theorem toL_yes {x y : ByteArray} (h : x = y) : (x.toList == y.toList) = true := by rw [h]; exact beq_self_eq_true _
theorem toL_no {x y : ByteArray} (h : ¬ x = y) : (x.toList == y.toList) = false := beq_eq_false_iff_ne.mpr (fun e => h (toL_inj e))
theorem idxP_some {L : List Ent} {name : ByteArray} {i : Nat} {x : Ent} (hx : L[i]? = some x) (he : x.2.1.name = name) (hn : ∀ j, j < i → ∀ x, L[j]? = some x → x.2.1.name ≠ name) : idxP L name = some i := by
  have hi := (List.getElem?_eq_some_iff.1 hx).1
  have hxe := (List.getElem?_eq_some_iff.1 hx).2
  unfold idxP
  rw [List.findIdx?_eq_some_iff_getElem]
  refine ⟨hi, by rw [hxe]; exact decide_eq_true he, fun j hj => ?_⟩
  have := hn j hj L[j] (List.getElem?_eq_getElem (by omega))
  simpa using this
def findV (L : List Ent) (name : ByteArray) : Value := match idxP L name with | none => .pointer none | some i => ptrV ((L.map (·.1)).getD i 0)
set_option maxHeartbeats 3200000 in
theorem book_find {w : World} {B gb : Nat} {A : Option Addr} {c : Nat} {L : List Ent} (h : BookAt w B gb A c L) (name : ByteArray) (hL : L.length ≤ 1000000) :
    Calls Try.prog 25 #[.pointer (some ⟨gb, 0, none⟩), .string name] w fun e w' => e = .returned (findV L name) ∧ w = w' := by
  have c0 : w.cell? ⟨gb, 0, none⟩ = some (.slice A L.length c) := blk_cell h.blk 0
  have HB := Aside0.mk h
  obtain ⟨hlc, hlc2, hC⟩ := Kd.R_reads' h.row
  have HC := Aside0.mk hC
  clear h hC hlc2 hlc
  go_enter Try.func25, Try.ntmps25
  go_wp2
  go_loopg [14] L.length (fun kq v14 w' => ∃ i : Nat, v14 = .int .i64 i ∧ i + kq = L.length ∧ Aside0 (∀ j, j < i → ∀ x, L[j]? = some x → x.2.1.name ≠ name) ∧ w' = w)
  case atStart => exact ⟨0, rfl, by omega, ⟨fun j hj => by omega⟩, rfl⟩
  case round =>
    obtain ⟨i, rfl, hik, HN, rfl⟩ := hrel
    cases gk with
    | zero =>
      have d1 : decide (i < L.length) = false := decide_eq_false (by omega)
      have HI := Aside0.mk (show findV L name = .pointer none by
        have hn : idxP L name = none := List.findIdx?_eq_none_iff.2 (fun x hx => by
          obtain ⟨j, hj⟩ := List.mem_iff_getElem?.1 hx
          have := HN.out j (by have := (List.getElem?_eq_some_iff.1 hj).1; omega) x hj
          simp [this])
        unfold findV
        rw [hn])
      go_wp2
      go_ret
      rw [HI.out]
      exact ⟨rfl, rfl⟩
    | succ k1 =>
      have hlt : i < L.length := by omega
      have d1 : decide (i < L.length) = true := decide_eq_true hlt
      obtain ⟨x, hx⟩ : ∃ x, L[i]? = some x := ⟨L[i], List.getElem?_eq_getElem hlt⟩
      have hxm : x ∈ L := List.mem_of_getElem? hx
      have hR := (HB.out.rules x hxm).1
      have qn : wr.cell? ⟨x.1, 0, none⟩ = some (.string x.2.1.name) := blk_cell hR 0
      obtain ⟨ad, hA, q1⟩ := ReadsOf.at_ (Kd.reads_of_C (enc := ptrV) (d := (0 : Nat)) (h1 := fun _ => rfl) HC.out) (i : Int) (by omega) (by rw [List.length_map]; omega)
      subst hA
      rw [Int.toNat_natCast, show rdOf 0 (L.map (·.1)) (i : Int) = x.1 by unfold rdOf; rw [Int.toNat_natCast, List.getD_eq_getElem?_getD, List.getElem?_map, hx]; rfl] at q1
      unfold ptrV at q1
      by_cases he : x.2.1.name = name
      · have e1 := toL_yes he
        have HV := Aside0.mk (show findV L name = .pointer (some ⟨x.1, 0, none⟩) by
          unfold findV
          rw [idxP_some hx he HN.out]
          show ptrV ((L.map (·.1)).getD i 0) = _
          rw [List.getD_eq_getElem?_getD, List.getElem?_map, hx]
          rfl)
        clear he hx hxm hR
        go_wp2
        go_ret
        rw [HV.out]
        exact ⟨rfl, rfl⟩
      · have e1 := toL_no he
        have HN2 := Aside0.mk (show ∀ j, j < i + 1 → ∀ x, L[j]? = some x → x.2.1.name ≠ name from fun j hj y hy => by
          by_cases hji : j = i
          · subst hji
            rw [hx] at hy
            injection hy with hy
            subst hy
            exact he
          · exact HN.out j (by omega) y hy)
        clear he hx hxm hR HN
        go_wp2
        go_roundg k1
        case rel => exact ⟨i + 1, by go_num, by omega, HN2, rfl⟩
        case measure => omega
end Go.Proofs.Ytadmigijbfdboaa.Q

namespace Go.Proofs.Ytadmigijbfdboaa.Q
open Go.RowKit Go.Proofs.YtadmigijbfdboaaW.PrintWords Go.Proofs.YtadmigijbfdboaaW.PrintLast Go.Proofs.YtadmigijbfdboaaW.PrintMore Go.Proofs.YtadmigijbfdboaaV
set_option linter.unusedVariables false
set_option linter.unusedSimpArgs false

theorem idxP_lt {L : List Ent} {name : ByteArray} {i : Nat} (h : idxP L name = some i) : ∃ x, L[i]? = some x ∧ x.2.1.name = name ∧ findV L name = .pointer (some ⟨x.1, 0, none⟩) := by
  have h' := h
  unfold idxP at h
  rw [List.findIdx?_eq_some_iff_getElem] at h
  obtain ⟨hi, h1, -⟩ := h
  refine ⟨L[i], List.getElem?_eq_getElem hi, of_decide_eq_true h1, ?_⟩
  unfold findV
  rw [h']
  show ptrV ((L.map (·.1)).getD i 0) = _
  rw [List.getD_eq_getElem?_getD, List.getElem?_map, List.getElem?_eq_getElem hi]
  rfl
theorem findV_none {L : List Ent} {name : ByteArray} (h : idxP L name = none) : findV L name = .pointer none := by unfold findV; rw [h]
def inT (t : Int) : Prop := 0 ≤ t ∧ t ≤ 1099511627775
instance (t : Int) : Decidable (inT t) := by unfold inT; infer_instance
/-- Mute. -/
def muteP (L : List Ent) (name : ByteArray) (t : Int) : Int × List Ent :=
  match idxP L name with
  | none => (231, L)
  | some i => if inT t then (0, match L[i]? with | some x => L.set i (x.1, x.2.1, { x.2.2 with muted := t }) | none => L) else (1, L)

set_option maxHeartbeats 3200000 in
theorem book_Mute {w : World} {B gb : Nat} {A : Option Addr} {c : Nat} {L : List Ent} (h : BookAt w B gb A c L) (name : ByteArray) (t : Int) (hL : L.length ≤ 1000000) :
    Calls Try.prog 19 #[.pointer (some ⟨gb, 0, none⟩), .string name, .int .i64 t] w fun e w' => e = .returned (.int .i64 (muteP L name t).1) ∧ BookAt w' B gb A c (muteP L name t).2 ∧ Keep w w' (fun k => ∃ x ∈ L, k = x.1) := by
  have HF := Aside0.mk (book_find h name hL)
  have c1 : w.cell? ⟨gb, 1, none⟩ = some (.bool true) := blk_cell h.blk 1
  have HB := Aside0.mk h
  cases hi : idxP L name with
  | none =>
    rw [findV_none hi] at HF
    have HM := Aside0.mk (show muteP L name t = (231, L) by unfold muteP; rw [hi])
    clear h hi
    go_enter Try.func19, Try.ntmps19
    go_wp2_with (first | (go_at_call 25; (with_reducible refine (HF.out).mono ?_); rintro e w1 ⟨rfl, rfl⟩))
    go_ret
    rw [HM.out]
    exact ⟨rfl, HB.out, Keep.refl _ _⟩
  | some i =>
    obtain ⟨x, hx, hn, hv⟩ := idxP_lt hi
    obtain ⟨g, r, s⟩ := x
    rw [hv] at HF
    have hxm : (g, r, s) ∈ L := List.mem_of_getElem? hx
    have hR := (h.rules _ hxm).1
    have hge := (h.rules _ hxm).2
    have hR2 : w.heap[g]? = some (.cells (ruleCells r s (respV g s.state)) 76 (0, 0)) := hR
    have q1 : w.cell? ⟨g, 19, none⟩ = some (.int .i64 s.muted) := blk_cell hR2 19
    have q2 := blk_frozen hR2 19
    have hK : Keep w (w.setCell ⟨g, 19, none⟩ (.int .i64 t)) (fun k => k = g) := (Keep.refl w (fun k => k = g)).set ⟨g, 19, none⟩ _ (.inl rfl)
    have HN := Aside0.mk (show BookAt (w.setCell ⟨g, 19, none⟩ (.int .i64 t)) B gb A c (L.set i (g, r, { s with muted := t })) from h.set hx hK (by unfold ruleCells at hR2; exact blk_put hR2 19 (.int .i64 t) rfl))
    have HK := Aside0.mk (show Keep w (w.setCell ⟨g, 19, none⟩ (.int .i64 t)) (fun k => ∃ x ∈ L, k = x.1) from hK.mono (fun k _ e => ⟨_, hxm, e⟩))
    by_cases ht : inT t
    · have HM := Aside0.mk (show muteP L name t = (0, L.set i (g, r, { s with muted := t })) by unfold muteP; rw [hi]; simp only [if_pos ht, hx])
      have d1 : decide (t < 0) = false := decide_eq_false (by have := ht.1; omega)
      have d2 : decide (1099511627775 < t) = false := decide_eq_false (by have := ht.2; omega)
      clear h hi hx hn hv hxm hR hR2 hge hK ht
      go_enter Try.func19, Try.ntmps19
      go_wp2_with (first | (go_at_call 25; (with_reducible refine (HF.out).mono ?_); rintro e w1 ⟨rfl, rfl⟩))
      go_ret
      rw [HM.out]
      exact ⟨rfl, HN.out, HK.out⟩
    · have HM := Aside0.mk (show muteP L name t = (1, L) by unfold muteP; rw [hi]; simp only [if_neg ht])
      have dd : decide (t < 0) = true ∨ (decide (t < 0) = false ∧ decide (1099511627775 < t) = true) := by
        unfold inT at ht
        simp only [decide_eq_true_eq, decide_eq_false_iff_not]
        omega
      clear h hi hx hn hv hxm hR hR2 hge hK ht
      rcases dd with d1 | ⟨d1, d2⟩
      all_goals
        go_enter Try.func19, Try.ntmps19
        go_wp2_with (first | (go_at_call 25; (with_reducible refine (HF.out).mono ?_); rintro e w1 ⟨rfl, rfl⟩))
        go_ret
        rw [HM.out]
        exact ⟨rfl, HB.out, Keep.refl _ _⟩
/-- State. -/
def stateP (L : List Ent) (name : ByteArray) : Int × Bool :=
  match idxP L name with
  | none => (0, false)
  | some i => match L[i]? with | some x => (x.2.2.state, true) | none => (0, false)
set_option maxHeartbeats 1600000 in
theorem book_State {w : World} {B gb : Nat} {A : Option Addr} {c : Nat} {L : List Ent} (h : BookAt w B gb A c L) (name : ByteArray) (hL : L.length ≤ 1000000) :
    Calls Try.prog 12 #[.pointer (some ⟨gb, 0, none⟩), .string name] w fun e w' => e = .returned (.tuple #[.int .i64 (stateP L name).1, .bool (stateP L name).2]) ∧ w = w' := by
  have HF := Aside0.mk (book_find h name hL)
  cases hi : idxP L name with
  | none =>
    rw [findV_none hi] at HF
    have HM := Aside0.mk (show stateP L name = (0, false) by unfold stateP; rw [hi])
    clear h hi
    go_enter Try.func12, Try.ntmps12
    go_wp2_with (first | (go_at_call 25; (with_reducible refine (HF.out).mono ?_); rintro e w1 ⟨rfl, rfl⟩))
    go_ret2
    rw [HM.out]
    exact ⟨rfl, rfl⟩
  | some i =>
    obtain ⟨x, hx, hn, hv⟩ := idxP_lt hi
    obtain ⟨g, r, s⟩ := x
    rw [hv] at HF
    have hxm : (g, r, s) ∈ L := List.mem_of_getElem? hx
    have q1 : w.cell? ⟨g, 11, none⟩ = some (.int .i64 s.state) := blk_cell (h.rules _ hxm).1 11
    have HM := Aside0.mk (show stateP L name = (s.state, true) by unfold stateP; rw [hi]; simp only [hx])
    clear h hi hx hn hv hxm
    go_enter Try.func12, Try.ntmps12
    go_wp2_with (first | (go_at_call 25; (with_reducible refine (HF.out).mono ?_); rintro e w1 ⟨rfl, rfl⟩))
    go_ret2
    rw [HM.out]
    exact ⟨rfl, rfl⟩
end Go.Proofs.Ytadmigijbfdboaa.Q

namespace Go.Proofs.Ytadmigijbfdboaa.Q
open Go.RowKit Go.Proofs.YtadmigijbfdboaaW.PrintWords Go.Proofs.YtadmigijbfdboaaW.PrintLast Go.Proofs.YtadmigijbfdboaaW.PrintMore Go.Proofs.YtadmigijbfdboaaV
set_option linter.unusedVariables false
set_option linter.unusedSimpArgs false

/-- What a point does to a rule. -/
def stepP (r : Rul) (s : Stt) (at_ : Int) (is : Bool) (val : Int) : Stt :=
  if is then comeP r { s with any := true, last := at_, gaps := 0 } (levelP r val (wsP r s.state) (csP r s.state))
  else if 0 < r.absent ∧ r.absent ≤ s.gaps + 1 then enterS { s with any := true, last := at_, gaps := s.gaps + 1, next := 0, points := 0 } 4
  else { s with any := true, last := at_, gaps := s.gaps + 1, next := 0, points := 0 }
/-- Feed: alerts, error, the rules behind it. -/
def feedP (L : List Ent) (name : ByteArray) (at_ : Int) (is : Bool) (val : Int) : List Alr × Int × List Ent :=
  match idxP L name with
  | none => ([], 231, L)
  | some i => match L[i]? with
    | none => ([], 231, L)
    | some x =>
      if ¬ inT at_ then ([], 1, L)
      else if x.2.2.any = true ∧ at_ ≤ x.2.2.last then ([], 232, L)
      else (alertsP x.2.1 (stepP x.2.1 x.2.2 at_ is val) at_ is (if is then val else 0), 0, L.set i (x.1, x.2.1, saidP x.2.1 (stepP x.2.1 x.2.2 at_ is val) at_))
/-- What the walk needs of a rule's numbers. -/
structure SttOk (s : Stt) : Prop where
  points : 0 ≤ s.points ∧ s.points ≤ 1000000
  gaps : 0 ≤ s.gaps ∧ s.gaps ≤ 9000000000000
  saidAt : inT s.saidAt
theorem stepP_saidAt (r : Rul) (s : Stt) (at_ : Int) (is : Bool) (val : Int) : (stepP r s at_ is val).saidAt = s.saidAt := by
  unfold stepP
  split
  · unfold comeP
    split
    · rfl
    · split
      · rfl
      · split <;> (simp only [enterS, moreS]; split <;> rfl)
  · split <;> rfl

set_option maxHeartbeats 6400000 in
set_option maxRecDepth 4000 in
theorem book_Feed_is {w : World} {B gb : Nat} {A : Option Addr} {c : Nat} {L : List Ent} (h : BookAt w B gb A c L) (hB : B ≤ w.heap.size) (name : ByteArray) (at_ val : Int) (hL : L.length ≤ 1000000) {i : Nat} {g : Nat} {r : Rul} {s : Stt} (hi : idxP L name = some i) (hx : L[i]? = some (g, r, s)) (ok : RulOk r) (sok : SttOk s) (hat : inT at_) (hpast : (s.any && decide (at_ ≤ s.last)) = false) (hv : inW val) :
    Calls Try.prog 11 #[.pointer (some ⟨gb, 0, none⟩), .string name, .int .i64 at_, .agg #[.bool true, .int .i64 (hiW val), .int .u64 (loW val)]] w fun e w' => ∃ A' c', e = .returned (.tuple #[.slice A' (alertsP r (stepP r s at_ true val) at_ true val).length c', .int .i64 0]) ∧ AlrsAt w' A' (alertsP r (stepP r s at_ true val) at_ true val) ∧ (∀ ad, A' = some ad → w.heap.size ≤ ad.block) ∧ BookAt w' B gb A c (L.set i (g, r, saidP r (stepP r s at_ true val) at_)) ∧ Keep w w' (fun k => ∃ x ∈ L, k = x.1) := by
  obtain ⟨W, hW⟩ : ∃ W, W = w.alloc (.cells #[.bool true, .int .i64 (hiW val), .int .u64 (loW val)] 37 (0, 0)) := ⟨_, rfl⟩
  have n0 : W.heap[w.heap.size]? = some (.cells #[.bool true, .int .i64 (hiW val), .int .u64 (loW val)] 37 (0, 0)) := by rw [hW]; exact heap_alloc_new _ _
  have hb : Below w.heap.size w W := by rw [hW]; exact (Below.refl _ _).alloc (Nat.le_refl _) _
  have hBW := h.quiet (below_keep hb)
  have HF := Aside0.mk (book_find hBW name hL)
  obtain ⟨x', hx', hn, hvv⟩ := idxP_lt hi
  rw [hx] at hx'
  injection hx' with hx'
  subst hx'
  rw [hvv] at HF
  have hxm : (g, r, s) ∈ L := List.mem_of_getElem? hx
  have hR : RuleAt W g r s (respV g s.state) := (hBW.rules _ hxm).1
  have hge : B ≤ g := (h.rules _ hxm).2
  have hgl : g < w.heap.size := blk_lt (h.rules _ hxm).1
  have hR2 : W.heap[g]? = some (.cells (ruleCells r s (respV g s.state)) 76 (0, 0)) := hR
  have c1 : W.cell? ⟨gb, 1, none⟩ = some (.bool true) := blk_cell hBW.blk 1
  have q1 : W.cell? ⟨g, 18, none⟩ = some (.bool s.any) := blk_cell hR2 18
  have q2 : W.cell? ⟨g, 17, none⟩ = some (.int .i64 s.last) := blk_cell hR2 17
  have f1 := blk_frozen hR2 18
  unfold ruleCells at hR2
  have h2 := blk_put hR2 18 (.bool true) rfl
  have q3 := blk_cell h2 17
  have f3 := blk_frozen h2 17
  have h3 := blk_put h2 17 (.int .i64 at_) rfl
  have q4 := blk_cell h3 16
  have f4 := blk_frozen h3 16
  have h4 := blk_put h3 16 (.int .i64 0) rfl
  have m1 := set_aside (i := 18) n0 (show w.heap.size ≠ g by omega) (.bool true)
  have m2 := set_aside (i := 17) m1 (show w.heap.size ≠ g by omega) (.int .i64 at_)
  have m3 := set_aside (i := 16) m2 (show w.heap.size ≠ g by omega) (.int .i64 0)
  have b0 := blk_cell m2 0
  obtain ⟨V, hV⟩ : ∃ V, V = ((W.setCell ⟨g, 18, none⟩ (.bool true)).setCell ⟨g, 17, none⟩ (.int .i64 at_)).setCell ⟨g, 16, none⟩ (.int .i64 0) := ⟨_, rfl⟩
  rw [← hV] at h4 m3
  have HRV := Aside0.mk (show RuleS V g r { s with any := true, last := at_, gaps := 0 } from h4)
  have HKV := Aside0.mk (show Keep w V (fun k => k = g) by
    rw [hV]
    exact (((Keep.of_below (S := fun k => k = g) hb).set ⟨g, 18, none⟩ _ (.inl rfl)).set ⟨g, 17, none⟩ _ (.inl rfl)).set ⟨g, 16, none⟩ _ (.inl rfl))
  have d1 : decide (at_ < 0) = false := decide_eq_false (by have := hat.1; omega)
  have d2 : decide (1099511627775 < at_) = false := decide_eq_false (by have := hat.2; omega)
  have HM3 := Aside0.mk m3
  have HV := Aside0.mk hV
  have HW := Aside0.mk hW
  have HB := Aside0.mk h
  have HX := Aside0.mk hx
  have HST := Aside0.mk (show stepP r s at_ true val = comeP r { s with any := true, last := at_, gaps := 0 } (levelP r val (wsP r s.state) (csP r s.state)) from if_pos rfl)
  obtain ⟨t, ht⟩ : ∃ t, t = comeP r { s with any := true, last := at_, gaps := 0 } (levelP r val (wsP r s.state) (csP r s.state)) := ⟨_, rfl⟩
  have hts : t.saidAt = s.saidAt := by rw [ht, ← HST.out]; exact stepP_saidAt r s at_ true val
  rw [← ht] at HST
  have HVAL := Aside0.mk (fun W' (hh : RuleS W' g r { s with any := true, last := at_, gaps := 0 }) => rule_value W' g r { s with any := true, last := at_, gaps := 0 } hh ok val hv sok.points)
  have HSAY := Aside0.mk (fun W' (hh : RuleS W' g r t) => rule_say W' g r t hh at_ true val hat (by rw [hts]; exact sok.saidAt))
  rw [show comeP r { s with any := true, last := at_, gaps := 0 } (levelP r val (wsP r ({ s with any := true, last := at_, gaps := 0 } : Stt).state) (csP r ({ s with any := true, last := at_, gaps := 0 } : Stt).state)) = t from ht.symm] at HVAL
  unfold WV at HVAL
  obtain ⟨va, hva⟩ : ∃ a, a = hiW val := ⟨_, rfl⟩
  obtain ⟨vb, hvb⟩ : ∃ a, a = loW val := ⟨_, rfl⟩
  rw [← hva, ← hvb] at HVAL HSAY HM3 HW
  rw [← hva, ← hvb]
  have e0 := blk_cell HM3.out 0
  have e1 := blk_cell HM3.out 1
  have e2 := blk_cell HM3.out 2
  have e5 : V.cell? ⟨g, 20, none⟩ = some (respV g s.state) := blk_cell h4 20
  unfold respV at e5
  obtain ⟨fn, hfn⟩ : ∃ fn, fn = respF s.state := ⟨_, rfl⟩
  rw [← hfn] at e5
  rw [show respF ({ s with any := true, last := at_, gaps := 0 } : Stt).state = fn from hfn.symm] at HVAL
  have hfn3 : fn = 40 ∨ fn = 41 ∨ fn = 42 := by
    rw [hfn]; unfold respF
    split
    · exact .inl rfl
    · split
      · exact .inr (.inl rfl)
      · exact .inr (.inr rfl)
  have dp : s.any = false ∨ (s.any = true ∧ decide (at_ ≤ s.last) = false) := by
    cases ha : s.any with
    | false => exact .inl rfl
    | true => rw [ha] at hpast; exact .inr ⟨rfl, by simpa using hpast⟩
  clear h hW n0 hb hBW hn hvv hR hR2 h2 h3 h4 m1 m2 m3 hV ht hva hvb hfn hpast hx hi hat hv
  rcases dp with dp | ⟨dp, dp2⟩ <;> rcases hfn3 with rfl | rfl | rfl
  all_goals
    rw [dp] at q1
    go_enter Try.func11, Try.ntmps11
    go_upto_region 1 with (fail)
    rw [← HW.out]
    go_upto_region 13 with (first | (go_at_call 25; (with_reducible refine (HF.out).mono ?_); rintro e w1 ⟨rfl, rfl⟩))
    rw [← HV.out]
    go_cut [] from 59 to 65 (fun wx => Aside0 (RuleS wx g r t) ∧ Aside0 (Keep V wx (fun k => k = g)))
    case first =>
      have y1 : V.drew.cell? ⟨w.heap.size, 1, none⟩ = some (.int .i64 va) := e1
      have y2 : V.drew.cell? ⟨w.heap.size, 2, none⟩ = some (.int .u64 vb) := e2
      have y5 := (show V.drew.cell? ⟨g, 20, none⟩ = some (.func (.func _) #[.pointer (some ⟨g, 0, none⟩)] #[]) from e5)
      have HRd := Aside0.mk (show RuleS V.drew g r { s with any := true, last := at_, gaps := 0 } from HRV.out)
      clear e0 e1 e2 e5 q3 q4 f3 f4 b0
      go_region_with (first
        | (go_at_call 40; (with_reducible refine (HVAL.out _ HRd.out).mono ?_); rintro e w2 ⟨rfl, h2, hk2⟩; have HS2 := Aside0.mk h2; have HK2 := Aside0.mk (show Keep V w2 (fun k => k = g) from ⟨hk2.os, hk2.tape, hk2.output, hk2.size, hk2.block⟩); clear h2 hk2)
        | (go_at_call 41; (with_reducible refine (HVAL.out _ HRd.out).mono ?_); rintro e w2 ⟨rfl, h2, hk2⟩; have HS2 := Aside0.mk h2; have HK2 := Aside0.mk (show Keep V w2 (fun k => k = g) from ⟨hk2.os, hk2.tape, hk2.output, hk2.size, hk2.block⟩); clear h2 hk2)
        | (go_at_call 42; (with_reducible refine (HVAL.out _ HRd.out).mono ?_); rintro e w2 ⟨rfl, h2, hk2⟩; have HS2 := Aside0.mk h2; have HK2 := Aside0.mk (show Keep V w2 (fun k => k = g) from ⟨hk2.os, hk2.tape, hk2.output, hk2.size, hk2.block⟩); clear h2 hk2))
      all_goals
        go_wp2_with (fail)
        go_meet
        exact ⟨HS2, HK2⟩
    case rest =>
      obtain ⟨HS2, HK2⟩ := hcut
      have hbx := (HK2.out.block w.heap.size (blk_lt HM3.out) (by omega)).trans HM3.out
      have y0 : wc.cell? ⟨w.heap.size, 0, none⟩ = some (.bool true) := blk_cell hbx 0
      have y1 : wc.cell? ⟨w.heap.size, 1, none⟩ = some (.int .i64 va) := blk_cell hbx 1
      have y2 : wc.cell? ⟨w.heap.size, 2, none⟩ = some (.int .u64 vb) := blk_cell hbx 2
      have HKW := Aside0.mk (HKV.out.trans HK2.out (fun k _ h => h) (fun k _ h => h))
      clear hbx e0 e1 e2 e5 q3 q4 f3 f4 b0
      go_wp2_with (first
        | (go_at_call 27; (with_reducible refine (HSAY.out _ HS2.out).mono ?_); rintro e w3 ⟨A', c', rfl, h3, hf3, hr3, hk3⟩; have HA3 := Aside0.mk h3; have HF3 := Aside0.mk hf3; have HS3 := Aside0.mk hr3; have HK3 := Aside0.mk (HKW.out.trans hk3 (fun k _ h => h) (fun k _ h => h)); have hz := HKW.out.size; clear h3 hf3 hr3 hk3))
      go_ret2
      rw [HST.out]
      refine ⟨A', c', rfl, HA3.out, fun ad e => Nat.le_trans hz (HF3.out ad e), HB.out.set HX.out HK3.out HS3.out, HK3.out.mono (fun k _ e => ⟨_, List.mem_of_getElem? HX.out, e⟩)⟩
end Go.Proofs.Ytadmigijbfdboaa.Q

namespace Go.Proofs.Ytadmigijbfdboaa.Q
open Go.RowKit Go.Proofs.YtadmigijbfdboaaW.PrintWords Go.Proofs.YtadmigijbfdboaaW.PrintLast Go.Proofs.YtadmigijbfdboaaW.PrintMore Go.Proofs.YtadmigijbfdboaaV
set_option linter.unusedVariables false
set_option linter.unusedSimpArgs false

set_option maxHeartbeats 6400000 in
set_option maxRecDepth 4000 in
theorem book_Feed_gap {w : World} {B gb : Nat} {A : Option Addr} {c : Nat} {L : List Ent} (h : BookAt w B gb A c L) (hB : B ≤ w.heap.size) (name : ByteArray) (at_ val : Int) (hL : L.length ≤ 1000000) {i : Nat} {g : Nat} {r : Rul} {s : Stt} (hi : idxP L name = some i) (hx : L[i]? = some (g, r, s)) (ok : RulOk r) (sok : SttOk s) (hat : inT at_) (hpast : (s.any && decide (at_ ≤ s.last)) = false) :
    Calls Try.prog 11 #[.pointer (some ⟨gb, 0, none⟩), .string name, .int .i64 at_, .agg #[.bool false, .int .i64 (hiW val), .int .u64 (loW val)]] w fun e w' => ∃ A' c', e = .returned (.tuple #[.slice A' (alertsP r (stepP r s at_ false val) at_ false 0).length c', .int .i64 0]) ∧ AlrsAt w' A' (alertsP r (stepP r s at_ false val) at_ false 0) ∧ (∀ ad, A' = some ad → w.heap.size ≤ ad.block) ∧ BookAt w' B gb A c (L.set i (g, r, saidP r (stepP r s at_ false val) at_)) ∧ Keep w w' (fun k => ∃ x ∈ L, k = x.1) := by
  obtain ⟨va, hva⟩ : ∃ a, a = hiW val := ⟨_, rfl⟩
  obtain ⟨vb, hvb⟩ : ∃ a, a = loW val := ⟨_, rfl⟩
  rw [← hva, ← hvb]
  clear hva hvb
  obtain ⟨W, hW⟩ : ∃ W, W = w.alloc (.cells #[.bool false, .int .i64 va, .int .u64 vb] 37 (0, 0)) := ⟨_, rfl⟩
  have n0 : W.heap[w.heap.size]? = some (.cells #[.bool false, .int .i64 va, .int .u64 vb] 37 (0, 0)) := by rw [hW]; exact heap_alloc_new _ _
  have hb : Below w.heap.size w W := by rw [hW]; exact (Below.refl _ _).alloc (Nat.le_refl _) _
  have hBW := h.quiet (below_keep hb)
  have HF := Aside0.mk (book_find hBW name hL)
  obtain ⟨x', hx', hn, hvv⟩ := idxP_lt hi
  rw [hx] at hx'
  injection hx' with hx'
  subst hx'
  rw [hvv] at HF
  have hxm : (g, r, s) ∈ L := List.mem_of_getElem? hx
  have hR : RuleAt W g r s (respV g s.state) := (hBW.rules _ hxm).1
  have hge : B ≤ g := (h.rules _ hxm).2
  have hgl : g < w.heap.size := blk_lt (h.rules _ hxm).1
  have hne : g ≠ w.heap.size := by omega
  have hne' : w.heap.size ≠ g := by omega
  have hR2 : W.heap[g]? = some (.cells (ruleCells r s (respV g s.state)) 76 (0, 0)) := hR
  have c1 : W.cell? ⟨gb, 1, none⟩ = some (.bool true) := blk_cell hBW.blk 1
  have q1 : W.cell? ⟨g, 18, none⟩ = some (.bool s.any) := blk_cell hR2 18
  have q2 : W.cell? ⟨g, 17, none⟩ = some (.int .i64 s.last) := blk_cell hR2 17
  have f1 := blk_frozen hR2 18
  unfold ruleCells at hR2
  have h2 := blk_put hR2 18 (.bool true) rfl
  have q3 := blk_cell h2 17
  have f3 := blk_frozen h2 17
  have h3 := blk_put h2 17 (.int .i64 at_) rfl
  have m1 := set_aside (i := 18) n0 hne' (.bool true)
  have m2 := set_aside (i := 17) m1 hne' (.int .i64 at_)
  have b0 := blk_cell m2 0
  have g0 := blk_frozen m2 0
  have m3 := blk_put m2 0 (.bool false) rfl
  have b1 := blk_cell m3 1
  have g1 := blk_frozen m3 1
  have m4 := blk_put m3 1 (.int .i64 0) rfl
  have b2 := blk_cell m4 2
  have g2 := blk_frozen m4 2
  have m5 := blk_put m4 2 (.int .u64 0) rfl
  have h4 := set_aside (i := 2) (set_aside (i := 1) (set_aside (i := 0) h3 hne (.bool false)) hne (.int .i64 0)) hne (.int .u64 0)
  obtain ⟨U, hU⟩ : ∃ U, U = ((((W.setCell ⟨g, 18, none⟩ (.bool true)).setCell ⟨g, 17, none⟩ (.int .i64 at_)).setCell ⟨w.heap.size, 0, none⟩ (.bool false)).setCell ⟨w.heap.size, 1, none⟩ (.int .i64 0)).setCell ⟨w.heap.size, 2, none⟩ (.int .u64 0) := ⟨_, rfl⟩
  rw [← hU] at h4 m5
  have q4 : U.cell? ⟨g, 16, none⟩ = some (.int .i64 s.gaps) := blk_cell h4 16
  have f4 := blk_frozen h4 16
  have h5 := blk_put h4 16 (.int .i64 (s.gaps + 1)) rfl
  have q5 := blk_cell h5 14
  have f5 := blk_frozen h5 14
  have h6 := blk_put h5 14 (.int .i64 0) rfl
  have q6 := blk_cell h6 15
  have f6 := blk_frozen h6 15
  have h7 := blk_put h6 15 (.int .i64 0) rfl
  have m6 := set_aside (i := 15) (set_aside (i := 14) (set_aside (i := 16) m5 hne' (.int .i64 (s.gaps + 1))) hne' (.int .i64 0)) hne' (.int .i64 0)
  obtain ⟨V, hV⟩ : ∃ V, V = ((U.setCell ⟨g, 16, none⟩ (.int .i64 (s.gaps + 1))).setCell ⟨g, 14, none⟩ (.int .i64 0)).setCell ⟨g, 15, none⟩ (.int .i64 0) := ⟨_, rfl⟩
  rw [← hV] at h7 m6
  have HRV := Aside0.mk (show RuleS V g r { s with any := true, last := at_, gaps := s.gaps + 1, next := 0, points := 0 } from h7)
  have HKU : Keep w U (fun k => k = g) := by
    rw [hU]
    exact ((((((Keep.of_below (S := fun k => k = g) hb).set ⟨g, 18, none⟩ _ (.inl rfl)).set ⟨g, 17, none⟩ _ (.inl rfl)).set ⟨w.heap.size, 0, none⟩ _ (.inr (Nat.le_refl _))).set ⟨w.heap.size, 1, none⟩ _ (.inr (Nat.le_refl _))).set ⟨w.heap.size, 2, none⟩ _ (.inr (Nat.le_refl _)))
  have HKV := Aside0.mk (show Keep w V (fun k => k = g) by
    rw [hV]
    exact ((HKU.set ⟨g, 16, none⟩ _ (.inl rfl)).set ⟨g, 14, none⟩ _ (.inl rfl)).set ⟨g, 15, none⟩ _ (.inl rfl))
  have y1 : V.cell? ⟨g, 9, none⟩ = some (.int .i64 r.absent) := blk_cell h7 9
  have y2 : V.cell? ⟨g, 16, none⟩ = some (.int .i64 (s.gaps + 1)) := blk_cell h7 16
  have d1 : decide (at_ < 0) = false := decide_eq_false (by have := hat.1; omega)
  have d2 : decide (1099511627775 < at_) = false := decide_eq_false (by have := hat.2; omega)
  have hgaps := sok.gaps
  have HM := Aside0.mk m6
  have HU := Aside0.mk hU
  have HV := Aside0.mk hV
  have HW := Aside0.mk hW
  have HB := Aside0.mk h
  have HX := Aside0.mk hx
  obtain ⟨t, ht⟩ : ∃ t, t = stepP r s at_ false val := ⟨_, rfl⟩
  have hts : t.saidAt = s.saidAt := by rw [ht]; exact stepP_saidAt r s at_ false val
  have HT := Aside0.mk ht
  have HSAY := Aside0.mk (fun W' (hh : RuleS W' g r t) => rule_say W' g r t hh at_ false 0 hat (by rw [hts]; exact sok.saidAt))
  rw [← ht]
  rw [show hiW 0 = 0 from rfl, show loW 0 = 0 from rfl] at HSAY
  have dp : s.any = false ∨ (s.any = true ∧ decide (at_ ≤ s.last) = false) := by
    cases ha : s.any with
    | false => exact .inl rfl
    | true => rw [ha] at hpast; exact .inr ⟨rfl, by simpa using hpast⟩
  have dg : (t = enterS { s with any := true, last := at_, gaps := s.gaps + 1, next := 0, points := 0 } 4 ∧ 0 < r.absent ∧ r.absent ≤ s.gaps + 1) ∨ (t = { s with any := true, last := at_, gaps := s.gaps + 1, next := 0, points := 0 } ∧ ((0 < r.absent ∧ ¬ r.absent ≤ s.gaps + 1) ∨ ¬ 0 < r.absent)) := by
    rw [ht]
    unfold stepP
    rw [if_neg (by decide)]
    by_cases hq : 0 < r.absent ∧ r.absent ≤ s.gaps + 1
    · rw [if_pos hq]; exact .inl ⟨rfl, hq⟩
    · rw [if_neg hq]; exact .inr ⟨rfl, by omega⟩
  clear h hW n0 hb hBW hn hvv hR hR2 h2 h3 h4 h5 h6 h7 m1 m2 m3 m4 m5 m6 hU hV ht hpast hx hi hat HKU hts
  rcases dg with ⟨rfl, dg1, dg2⟩ | ⟨rfl, ⟨dg1, dg2⟩ | dg1⟩
  · have e1 : decide (0 < r.absent) = true := decide_eq_true dg1
    have e2 : decide (r.absent ≤ s.gaps + 1) = true := decide_eq_true dg2
    have HRd := Aside0.mk (fun m => show RuleAt (V.drewN m) g r { s with any := true, last := at_, gaps := s.gaps + 1, next := 0, points := 0 } (respV g s.state) from HRV.out)
    have HSs := Aside0.mk (fun W' (hh : RuleAt W' g r (enterS { s with any := true, last := at_, gaps := s.gaps + 1, next := 0, points := 0 } 4) (respV g 4)) => show RuleS W' g r (enterS { s with any := true, last := at_, gaps := s.gaps + 1, next := 0, points := 0 } 4) from hh)
    clear dg1 dg2
    rcases dp with dp | ⟨dp, dp2⟩
    all_goals
      rw [dp] at q1
      go_enter Try.func11, Try.ntmps11
      go_upto_region 1 with (fail)
      rw [← HW.out]
      go_upto_region 15 with (first | (go_at_call 25; (with_reducible refine (HF.out).mono ?_); rintro e w1 ⟨rfl, rfl⟩))
      rw [← HU.out]
      go_upto_region 17 with (fail)
      rw [← HV.out]
      go_quiet (fail)
      go_wp2_with (first
        | (go_at_call 26; (with_reducible refine (rule_enter _ g r _ _ (HRd.out nq) 4).mono ?_); rintro e w2 ⟨rfl, h2, hk2⟩; have HS2 := Aside0.mk h2; have HK2 := Aside0.mk ((HKV.out.drewN nq).trans hk2 (fun k _ h => h) (fun k _ h => h)); have hbx := (hk2.block w.heap.size (blk_lt HM.out) hne').trans HM.out; have z0 := blk_cell hbx 0; have z1 := blk_cell hbx 1; have z2 := blk_cell hbx 2; clear h2 hk2 hbx)
        | (go_at_call 27; (with_reducible refine (HSAY.out _ (HSs.out _ HS2.out)).mono ?_); rintro e w3 ⟨A', c', rfl, h3, hf3, hr3, hk3⟩; have HA3 := Aside0.mk h3; have HF3 := Aside0.mk hf3; have HS3 := Aside0.mk hr3; have HK3 := Aside0.mk (HK2.out.trans hk3 (fun k _ h => h) (fun k _ h => h)); have hz := HK2.out.size; clear h3 hf3 hr3 hk3))
      go_ret2
      refine ⟨A', c', rfl, HA3.out, fun ad e => Nat.le_trans hz (HF3.out ad e), HB.out.set HX.out HK3.out HS3.out, HK3.out.mono (fun k _ e => ⟨_, List.mem_of_getElem? HX.out, e⟩)⟩
  · have e1 : decide (0 < r.absent) = true := decide_eq_true dg1
    have e2 : decide (r.absent ≤ s.gaps + 1) = false := decide_eq_false dg2
    have HRs := Aside0.mk (fun m => show RuleS (V.drewN m) g r { s with any := true, last := at_, gaps := s.gaps + 1, next := 0, points := 0 } from HRV.out)
    have z0 := blk_cell HM.out 0
    have z1 := blk_cell HM.out 1
    have z2 := blk_cell HM.out 2
    clear dg1 dg2
    rcases dp with dp | ⟨dp, dp2⟩
    all_goals
      rw [dp] at q1
      go_enter Try.func11, Try.ntmps11
      go_upto_region 1 with (fail)
      rw [← HW.out]
      go_upto_region 15 with (first | (go_at_call 25; (with_reducible refine (HF.out).mono ?_); rintro e w1 ⟨rfl, rfl⟩))
      rw [← HU.out]
      go_upto_region 17 with (fail)
      rw [← HV.out]
      go_quiet (fail)
      go_wp2_with (first
        | (go_at_call 27; (with_reducible refine (HSAY.out _ (HRs.out nq)).mono ?_); rintro e w3 ⟨A', c', rfl, h3, hf3, hr3, hk3⟩; have HA3 := Aside0.mk h3; have HF3 := Aside0.mk hf3; have HS3 := Aside0.mk hr3; have HK3 := Aside0.mk ((HKV.out.drewN nq).trans hk3 (fun k _ h => h) (fun k _ h => h)); have hz := HKV.out.size; clear h3 hf3 hr3 hk3))
      go_ret2
      refine ⟨A', c', rfl, HA3.out, fun ad e => Nat.le_trans hz (HF3.out ad e), HB.out.set HX.out HK3.out HS3.out, HK3.out.mono (fun k _ e => ⟨_, List.mem_of_getElem? HX.out, e⟩)⟩
  · have e1 : decide (0 < r.absent) = false := decide_eq_false dg1
    have HRs := Aside0.mk (fun m => show RuleS (V.drewN m) g r { s with any := true, last := at_, gaps := s.gaps + 1, next := 0, points := 0 } from HRV.out)
    have z0 := blk_cell HM.out 0
    have z1 := blk_cell HM.out 1
    have z2 := blk_cell HM.out 2
    clear dg1
    rcases dp with dp | ⟨dp, dp2⟩
    all_goals
      rw [dp] at q1
      go_enter Try.func11, Try.ntmps11
      go_upto_region 1 with (fail)
      rw [← HW.out]
      go_upto_region 15 with (first | (go_at_call 25; (with_reducible refine (HF.out).mono ?_); rintro e w1 ⟨rfl, rfl⟩))
      rw [← HU.out]
      go_upto_region 17 with (fail)
      rw [← HV.out]
      go_quiet (fail)
      go_wp2_with (first
        | (go_at_call 27; (with_reducible refine (HSAY.out _ (HRs.out nq)).mono ?_); rintro e w3 ⟨A', c', rfl, h3, hf3, hr3, hk3⟩; have HA3 := Aside0.mk h3; have HF3 := Aside0.mk hf3; have HS3 := Aside0.mk hr3; have HK3 := Aside0.mk ((HKV.out.drewN nq).trans hk3 (fun k _ h => h) (fun k _ h => h)); have hz := HKV.out.size; clear h3 hf3 hr3 hk3))
      go_ret2
      refine ⟨A', c', rfl, HA3.out, fun ad e => Nat.le_trans hz (HF3.out ad e), HB.out.set HX.out HK3.out HS3.out, HK3.out.mono (fun k _ e => ⟨_, List.mem_of_getElem? HX.out, e⟩)⟩
end Go.Proofs.Ytadmigijbfdboaa.Q

namespace Go.Proofs.Ytadmigijbfdboaa.Q
open Go.RowKit Go.Proofs.YtadmigijbfdboaaW.PrintWords Go.Proofs.YtadmigijbfdboaaW.PrintLast Go.Proofs.YtadmigijbfdboaaW.PrintMore Go.Proofs.YtadmigijbfdboaaV
set_option linter.unusedVariables false
set_option linter.unusedSimpArgs false

set_option maxHeartbeats 3200000 in
set_option maxRecDepth 4000 in
theorem book_Feed_err {w : World} {B gb : Nat} {A : Option Addr} {c : Nat} {L : List Ent} (h : BookAt w B gb A c L) (name : ByteArray) (at_ : Int) (is : Bool) (va vb : Int) (hL : L.length ≤ 1000000) (er : Int)
    (her : (idxP L name = none ∧ er = 231) ∨ (∃ i g r s, idxP L name = some i ∧ L[i]? = some (g, r, s) ∧ ((¬ inT at_ ∧ er = 1) ∨ (inT at_ ∧ s.any = true ∧ at_ ≤ s.last ∧ er = 232)))) :
    Calls Try.prog 11 #[.pointer (some ⟨gb, 0, none⟩), .string name, .int .i64 at_, .agg #[.bool is, .int .i64 va, .int .u64 vb]] w fun e w' => e = .returned (.tuple #[.slice none 0 0, .int .i64 er]) ∧ Below w.heap.size w w' := by
  obtain ⟨W, hW⟩ : ∃ W, W = w.alloc (.cells #[.bool is, .int .i64 va, .int .u64 vb] 37 (0, 0)) := ⟨_, rfl⟩
  have hb : Below w.heap.size w W := by rw [hW]; exact (Below.refl _ _).alloc (Nat.le_refl _) _
  have hBW := h.quiet (below_keep hb)
  have HF := Aside0.mk (book_find hBW name hL)
  have c1 : W.cell? ⟨gb, 1, none⟩ = some (.bool true) := blk_cell hBW.blk 1
  have HB := Aside0.mk hb
  have HW := Aside0.mk hW
  rcases her with ⟨hi, rfl⟩ | ⟨i, g, r, s, hi, hx, her⟩
  · rw [findV_none hi] at HF
    clear h hW hb hBW hi
    go_enter Try.func11, Try.ntmps11
    go_upto_region 1 with (fail)
    rw [← HW.out]
    go_wp2_with (first | (go_at_call 25; (with_reducible refine (HF.out).mono ?_); rintro e w1 ⟨rfl, rfl⟩))
    go_ret2
    exact ⟨rfl, HB.out⟩
  · obtain ⟨x', hx', hn, hvv⟩ := idxP_lt hi
    rw [hx] at hx'
    injection hx' with hx'
    subst hx'
    rw [hvv] at HF
    have hR : RuleAt W g r s (respV g s.state) := (hBW.rules _ (List.mem_of_getElem? hx)).1
    have q1 : W.cell? ⟨g, 18, none⟩ = some (.bool s.any) := blk_cell hR 18
    have q2 : W.cell? ⟨g, 17, none⟩ = some (.int .i64 s.last) := blk_cell hR 17
    rcases her with ⟨ht, rfl⟩ | ⟨ht, ha, hp, rfl⟩
    · have dd : decide (at_ < 0) = true ∨ (decide (at_ < 0) = false ∧ decide (1099511627775 < at_) = true) := by
        unfold inT at ht
        simp only [decide_eq_true_eq, decide_eq_false_iff_not]
        omega
      clear h hW hb hBW hi hx hn hvv hR q1 q2 ht
      rcases dd with d1 | ⟨d1, d2⟩
      all_goals
        go_enter Try.func11, Try.ntmps11
        go_upto_region 1 with (fail)
        rw [← HW.out]
        go_wp2_with (first | (go_at_call 25; (with_reducible refine (HF.out).mono ?_); rintro e w1 ⟨rfl, rfl⟩))
        go_ret2
        exact ⟨rfl, HB.out⟩
    · have d1 : decide (at_ < 0) = false := decide_eq_false (by have := ht.1; omega)
      have d2 : decide (1099511627775 < at_) = false := decide_eq_false (by have := ht.2; omega)
      have d3 : decide (at_ ≤ s.last) = true := decide_eq_true hp
      rw [ha] at q1
      clear h hW hb hBW hi hx hn hvv hR ht ha hp
      go_enter Try.func11, Try.ntmps11
      go_upto_region 1 with (fail)
      rw [← HW.out]
      go_wp2_with (first | (go_at_call 25; (with_reducible refine (HF.out).mono ?_); rintro e w1 ⟨rfl, rfl⟩))
      go_ret2
      exact ⟨rfl, HB.out⟩

/-- Every Feed. -/
theorem book_Feed {w : World} {B gb : Nat} {A : Option Addr} {c : Nat} {L : List Ent} (h : BookAt w B gb A c L) (hB : B ≤ w.heap.size) (name : ByteArray) (at_ : Int) (is : Bool) (val : Int) (hL : L.length ≤ 1000000) (hok : ∀ x ∈ L, RulOk x.2.1 ∧ SttOk x.2.2) (hv : inW val) :
    Calls Try.prog 11 #[.pointer (some ⟨gb, 0, none⟩), .string name, .int .i64 at_, .agg #[.bool is, .int .i64 (hiW val), .int .u64 (loW val)]] w fun e w' => ∃ A' c', e = .returned (.tuple #[.slice A' (feedP L name at_ is val).1.length c', .int .i64 (feedP L name at_ is val).2.1]) ∧ AlrsAt w' A' (feedP L name at_ is val).1 ∧ (∀ ad, A' = some ad → w.heap.size ≤ ad.block) ∧ BookAt w' B gb A c (feedP L name at_ is val).2.2 ∧ Keep w w' (fun k => ∃ x ∈ L, k = x.1) := by
  have err : ∀ er, feedP L name at_ is val = ([], er, L) → ((idxP L name = none ∧ er = 231) ∨ (∃ i g r s, idxP L name = some i ∧ L[i]? = some (g, r, s) ∧ ((¬ inT at_ ∧ er = 1) ∨ (inT at_ ∧ s.any = true ∧ at_ ≤ s.last ∧ er = 232)))) → Calls Try.prog 11 #[.pointer (some ⟨gb, 0, none⟩), .string name, .int .i64 at_, .agg #[.bool is, .int .i64 (hiW val), .int .u64 (loW val)]] w fun e w' => ∃ A' c', e = .returned (.tuple #[.slice A' (feedP L name at_ is val).1.length c', .int .i64 (feedP L name at_ is val).2.1]) ∧ AlrsAt w' A' (feedP L name at_ is val).1 ∧ (∀ ad, A' = some ad → w.heap.size ≤ ad.block) ∧ BookAt w' B gb A c (feedP L name at_ is val).2.2 ∧ Keep w w' (fun k => ∃ x ∈ L, k = x.1) := by
    intro er he hc
    refine (book_Feed_err h name at_ is (hiW val) (loW val) hL er hc).mono ?_
    rintro e w' ⟨rfl, hb⟩
    rw [he]
    exact ⟨none, 0, rfl, .inl rfl, fun ad e => by (cases e), h.quiet (below_keep hb), Keep.of_below hb⟩
  cases hi : idxP L name with
  | none => exact err 231 (by unfold feedP; rw [hi]) (.inl ⟨hi, rfl⟩)
  | some i =>
    obtain ⟨x, hx, -, -⟩ := idxP_lt hi
    obtain ⟨g, r, s⟩ := x
    by_cases ht : inT at_
    · by_cases hp : s.any = true ∧ at_ ≤ s.last
      · exact err 232 (by unfold feedP; rw [hi]; simp only [hx]; rw [if_neg (fun q => q ht), if_pos hp]) (.inr ⟨i, g, r, s, hi, hx, .inr ⟨ht, hp.1, hp.2, rfl⟩⟩)
      · have he : feedP L name at_ is val = (alertsP r (stepP r s at_ is val) at_ is (if is then val else 0), 0, L.set i (g, r, saidP r (stepP r s at_ is val) at_)) := by
          unfold feedP; rw [hi]; simp only [hx]; rw [if_neg (fun q => q ht), if_neg hp]
        have hpast : (s.any && decide (at_ ≤ s.last)) = false := by
          cases ha : s.any with
          | false => rfl
          | true => simp only [Bool.true_and]; exact decide_eq_false (fun q => hp ⟨ha, q⟩)
        have hm := hok _ (List.mem_of_getElem? hx)
        rw [he]
        cases is with
        | true => exact book_Feed_is h hB name at_ val hL hi hx hm.1 hm.2 ht hpast hv
        | false => exact book_Feed_gap h hB name at_ val hL hi hx hm.1 hm.2 ht hpast
    · exact err 1 (by unfold feedP; rw [hi]; simp only [hx]; rw [if_pos ht]) (.inr ⟨i, g, r, s, hi, hx, .inl ⟨ht, rfl⟩⟩)
end Go.Proofs.Ytadmigijbfdboaa.Q

namespace Go.Proofs.Ytadmigijbfdboaa.Q
open Go.RowKit Go.Proofs.YtadmigijbfdboaaW.PrintWords Go.Proofs.YtadmigijbfdboaaW.PrintLast Go.Proofs.YtadmigijbfdboaaW.PrintMore Go.Proofs.YtadmigijbfdboaaV
set_option linter.unusedVariables false
set_option linter.unusedSimpArgs false

def FAR : Int := 1267650600228229401496703205376
theorem inW_FAR : inW FAR := by unfold inW FAR; omega
set_option maxHeartbeats 1600000 in
theorem alarm_far {x : Int} (w : World) (hx : inW x) :
    Calls Try.prog 48 #[WV x] w fun e w' => e = .returned (.bool (decide (FAR < x.natAbs))) ∧ Below w.heap.size w w' := by
  have HS := Aside0.mk (fun W => wide_Abs (x := x) W hx)
  have HC := Aside0.mk (fun W => wide_Cmp W (inW_abs hx) inW_FAR)
  have hlo := hx.1
  have hre : decide (FAR < (x.natAbs : Int)) = if absE x = 10 then true else decide (0 < sgn (absW x - FAR)) := by
    have sp : (0 < sgn (absW x - FAR)) ↔ 0 < absW x - FAR := by unfold sgn; split <;> (try split) <;> omega
    unfold absE
    by_cases h0 : x < 0
    · rw [if_pos h0]
      unfold negE
      by_cases hl : x = -170141183460469231731687303715884105728
      · rw [if_pos hl, if_pos rfl]; exact decide_eq_true (by unfold FAR; omega)
      · rw [if_neg hl, if_neg (by omega), decide_eq_decide, sp]
        unfold absW negW
        rw [if_pos h0, if_neg hl]
        omega
    · rw [if_neg h0, if_neg (by omega), decide_eq_decide, sp]
      unfold absW
      rw [if_neg h0]
      omega
  have hE : absE x = 10 ∨ absE x = 0 := by unfold absE negE; split <;> (try split) <;> omega
  have HP := Aside0.mk hre
  rw [show WV FAR = .agg #[.int .i64 68719476736, .int .u64 0] from rfl] at HC
  unfold WV at HS HC ⊢
  obtain ⟨a, ha⟩ : ∃ a, a = hiW x := ⟨_, rfl⟩
  obtain ⟨b, hb⟩ : ∃ b, b = loW x := ⟨_, rfl⟩
  obtain ⟨c, hc⟩ : ∃ a, a = hiW (absW x) := ⟨_, rfl⟩
  obtain ⟨d, hd⟩ : ∃ b, b = loW (absW x) := ⟨_, rfl⟩
  obtain ⟨f, hf⟩ : ∃ b, b = absE x := ⟨_, rfl⟩
  obtain ⟨z, hz⟩ : ∃ b, b = sgn (absW x - FAR) := ⟨_, rfl⟩
  rw [← ha, ← hb, ← hc, ← hd, ← hf] at HS
  rw [← hc, ← hd, ← hz] at HC
  rw [← ha, ← hb]
  rw [← hf, ← hz] at HP
  rw [← hf] at hE
  have HB := Aside0.mk ((Below.refl w.heap.size w).alloc (Nat.le_refl _) (.cells #[.int .i64 a, .int .u64 b] 24 (0, 0)))
  clear ha hb hc hd hf hz hre hx hlo
  rcases hE with rfl | rfl
  · go_enter Try.func48, Try.ntmps48
    go_wp2_with (first
      | (go_at_call 56; (with_reducible refine ((HS.out _)).mono ?_); rintro e w1 ⟨rfl, hb1⟩; have HB1 := Aside0.mk ((hop HB.out hb1).alloc (hop HB.out hb1).size (.cells #[.int .i64 c, .int .u64 d] 24 (0, 0))); clear hb1))
    go_ret
    rw [HP.out]
    exact ⟨rfl, HB1.out⟩
  · go_enter Try.func48, Try.ntmps48
    go_wp2_with (first
      | (go_at_call 56; (with_reducible refine ((HS.out _)).mono ?_); rintro e w1 ⟨rfl, hb1⟩; have HB1 := Aside0.mk ((hop HB.out hb1).alloc (hop HB.out hb1).size (.cells #[.int .i64 c, .int .u64 d] 24 (0, 0))); clear hb1)
      | (go_at_call 50; (with_reducible refine ((HC.out _)).mono ?_); rintro e w2 ⟨rfl, hb2⟩; have HB2 := Aside0.mk (hop HB1.out hb2); clear hb2))
    go_ret
    rw [HP.out]
    exact ⟨rfl, HB2.out⟩
end Go.Proofs.Ytadmigijbfdboaa.Q
