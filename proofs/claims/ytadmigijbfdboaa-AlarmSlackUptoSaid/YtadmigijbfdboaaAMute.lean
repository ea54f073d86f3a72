import Derived.Test.YtadmigijbfdboaaABook
namespace Go.Proofs.Ytadmigijbfdboaa.Q
open Go.RowKit Go.Proofs.YtadmigijbfdboaaW.PrintWords Go.Proofs.YtadmigijbfdboaaW.PrintLast Go.Proofs.YtadmigijbfdboaaW.PrintMore Go.Proofs.YtadmigijbfdboaaV
set_option linter.unusedVariables false
set_option linter.unusedSimpArgs false

theorem idxP_lt {L : List Ent} {name : ByteArray} {i : Nat} (h : idxP L name = some i) : ∃ x, L[i]? = some x ∧ x.2.1.name = name ∧ findV L name = .pointer (some ⟨x.1, 0, none⟩) := by
  have h' := h
  unfold idxP at h
  rw [List.findIdx?_eq_some_iff_getElem] at h
  obtain ⟨hi, h1, -⟩ := h
  refine ⟨L[i], List.getElem?_eq_getElem hi, of_decide_eq_true h1, ?_⟩
  unfold findV
  rw [h']
  show ptrV ((L.map (·.1)).getD i 0) = _
  rw [List.getD_eq_getElem?_getD, List.getElem?_map, List.getElem?_eq_getElem hi]
  rfl
theorem findV_none {L : List Ent} {name : ByteArray} (h : idxP L name = none) : findV L name = .pointer none := by unfold findV; rw [h]
def inT (t : Int) : Prop := 0 ≤ t ∧ t ≤ 1099511627775
instance (t : Int) : Decidable (inT t) := by unfold inT; infer_instance
/-- Mute. -/
def muteP (L : List Ent) (name : ByteArray) (t : Int) : Int × List Ent :=
  match idxP L name with
  | none => (231, L)
  | some i => if inT t then (0, match L[i]? with | some x => L.set i (x.1, x.2.1, { x.2.2 with muted := t }) | none => L) else (1, L)

set_option maxHeartbeats 3200000 in
theorem book_Mute {w : World} {B gb : Nat} {A : Option Addr} {c : Nat} {L : List Ent} (h : BookAt w B gb A c L) (name : ByteArray) (t : Int) (hL : L.length ≤ 1000000) :
    Calls Try.prog 19 #[.pointer (some ⟨gb, 0, none⟩), .string name, .int .i64 t] w fun e w' => e = .returned (.int .i64 (muteP L name t).1) ∧ BookAt w' B gb A c (muteP L name t).2 ∧ Keep w w' (fun k => ∃ x ∈ L, k = x.1) := by
  have HF := Aside0.mk (book_find h name hL)
  have c1 : w.cell? ⟨gb, 1, none⟩ = some (.bool true) := blk_cell h.blk 1
  have HB := Aside0.mk h
  cases hi : idxP L name with
  | none =>
    rw [findV_none hi] at HF
    have HM := Aside0.mk (show muteP L name t = (231, L) by unfold muteP; rw [hi])
    clear h hi
    go_enter Try.func19, Try.ntmps19
    go_wp2_with (first | (go_at_call 25; (with_reducible refine (HF.out).mono ?_); rintro e w1 ⟨rfl, rfl⟩))
    go_ret
    rw [HM.out]
    exact ⟨rfl, HB.out, Keep.refl _ _⟩
  | some i =>
    obtain ⟨x, hx, hn, hv⟩ := idxP_lt hi
    obtain ⟨g, r, s⟩ := x
    rw [hv] at HF
    have hxm : (g, r, s) ∈ L := List.mem_of_getElem? hx
    have hR := (h.rules _ hxm).1
    have hge := (h.rules _ hxm).2
    have hR2 : w.heap[g]? = some (.cells (ruleCells r s (respV g s.state)) 76 (0, 0)) := hR
    have q1 : w.cell? ⟨g, 19, none⟩ = some (.int .i64 s.muted) := blk_cell hR2 19
    have q2 := blk_frozen hR2 19
    have hK : Keep w (w.setCell ⟨g, 19, none⟩ (.int .i64 t)) (fun k => k = g) := (Keep.refl w (fun k => k = g)).set ⟨g, 19, none⟩ _ (.inl rfl)
    have HN := Aside0.mk (show BookAt (w.setCell ⟨g, 19, none⟩ (.int .i64 t)) B gb A c (L.set i (g, r, { s with muted := t })) from h.set hx hK (by unfold ruleCells at hR2; exact blk_put hR2 19 (.int .i64 t) rfl))
    have HK := Aside0.mk (show Keep w (w.setCell ⟨g, 19, none⟩ (.int .i64 t)) (fun k => ∃ x ∈ L, k = x.1) from hK.mono (fun k _ e => ⟨_, hxm, e⟩))
    by_cases ht : inT t
    · have HM := Aside0.mk (show muteP L name t = (0, L.set i (g, r, { s with muted := t })) by unfold muteP; rw [hi]; simp only [if_pos ht, hx])
      have d1 : decide (t < 0) = false := decide_eq_false (by have := ht.1; omega)
      have d2 : decide (1099511627775 < t) = false := decide_eq_false (by have := ht.2; omega)
      clear h hi hx hn hv hxm hR hR2 hge hK ht
      go_enter Try.func19, Try.ntmps19
      go_wp2_with (first | (go_at_call 25; (with_reducible refine (HF.out).mono ?_); rintro e w1 ⟨rfl, rfl⟩))
      go_ret
      rw [HM.out]
      exact ⟨rfl, HN.out, HK.out⟩
    · have HM := Aside0.mk (show muteP L name t = (1, L) by unfold muteP; rw [hi]; simp only [if_neg ht])
      have dd : decide (t < 0) = true ∨ (decide (t < 0) = false ∧ decide (1099511627775 < t) = true) := by
        unfold inT at ht
        simp only [decide_eq_true_eq, decide_eq_false_iff_not]
        omega
      clear h hi hx hn hv hxm hR hR2 hge hK ht
      rcases dd with d1 | ⟨d1, d2⟩
      all_goals
        go_enter Try.func19, Try.ntmps19
        go_wp2_with (first | (go_at_call 25; (with_reducible refine (HF.out).mono ?_); rintro e w1 ⟨rfl, rfl⟩))
        go_ret
        rw [HM.out]
        exact ⟨rfl, HB.out, Keep.refl _ _⟩
/-- State. -/
def stateP (L : List Ent) (name : ByteArray) : Int × Bool :=
  match idxP L name with
  | none => (0, false)
  | some i => match L[i]? with | some x => (x.2.2.state, true) | none => (0, false)
set_option maxHeartbeats 1600000 in
theorem book_State {w : World} {B gb : Nat} {A : Option Addr} {c : Nat} {L : List Ent} (h : BookAt w B gb A c L) (name : ByteArray) (hL : L.length ≤ 1000000) :
    Calls Try.prog 12 #[.pointer (some ⟨gb, 0, none⟩), .string name] w fun e w' => e = .returned (.tuple #[.int .i64 (stateP L name).1, .bool (stateP L name).2]) ∧ w = w' := by
  have HF := Aside0.mk (book_find h name hL)
  cases hi : idxP L name with
  | none =>
    rw [findV_none hi] at HF
    have HM := Aside0.mk (show stateP L name = (0, false) by unfold stateP; rw [hi])
    clear h hi
    go_enter Try.func12, Try.ntmps12
    go_wp2_with (first | (go_at_call 25; (with_reducible refine (HF.out).mono ?_); rintro e w1 ⟨rfl, rfl⟩))
    go_ret2
    rw [HM.out]
    exact ⟨rfl, rfl⟩
  | some i =>
    obtain ⟨x, hx, hn, hv⟩ := idxP_lt hi
    obtain ⟨g, r, s⟩ := x
    rw [hv] at HF
    have hxm : (g, r, s) ∈ L := List.mem_of_getElem? hx
    have q1 : w.cell? ⟨g, 11, none⟩ = some (.int .i64 s.state) := blk_cell (h.rules _ hxm).1 11
    have HM := Aside0.mk (show stateP L name = (s.state, true) by unfold stateP; rw [hi]; simp only [hx])
    clear h hi hx hn hv hxm
    go_enter Try.func12, Try.ntmps12
    go_wp2_with (first | (go_at_call 25; (with_reducible refine (HF.out).mono ?_); rintro e w1 ⟨rfl, rfl⟩))
    go_ret2
    rw [HM.out]
    exact ⟨rfl, rfl⟩
end Go.Proofs.Ytadmigijbfdboaa.Q
