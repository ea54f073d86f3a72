import Derived.Test.YtadmigijbfdboaaASay
namespace Go.Proofs.Ytadmigijbfdboaa.Q
open Go.RowKit Go.Proofs.YtadmigijbfdboaaW.PrintWords Go.Proofs.YtadmigijbfdboaaW.PrintLast Go.Proofs.YtadmigijbfdboaaW.PrintMore Go.Proofs.YtadmigijbfdboaaV
set_option linter.unusedVariables false
set_option linter.unusedSimpArgs false

/-- A pointer to a block. -/
def ptrV (g : Nat) : Value := .pointer (some ⟨g, 0, none⟩)
def kp : Kd Nat := Kd.scalar ptrV (fun _ => rfl)
abbrev Ent := Nat × Rul × Stt
structure BookAt (w : World) (B gb : Nat) (A : Option Addr) (c : Nat) (L : List Ent) : Prop where
  blk : w.heap[gb]? = some (.cells #[.slice A L.length c, .bool true] 68 (0, 0))
  row : Kd.R kp 72 w B (fun _ => True) (.slice A L.length c) (L.map (·.1))
  rules : ∀ x ∈ L, RuleS w x.1 x.2.1 x.2.2 ∧ B ≤ x.1
  nodup : (L.map (·.1)).Nodup
  ge : B ≤ gb
/-- Which rule has a name. -/
def idxP (L : List Ent) (name : ByteArray) : Option Nat := L.findIdx? (fun x => decide (x.2.1.name = name))
theorem BookAt.keep {w w' : World} {B gb : Nat} {A : Option Addr} {c : Nat} {L : List Ent} {S : Nat → Prop} (h : BookAt w B gb A c L) (hk : Keep w w' S) (h1 : ¬ S gb) (h2 : ∀ k, (Value.slice A L.length c).ownBlock = some k → ¬ S k) (h3 : ∀ x ∈ L, ¬ S x.1) : BookAt w' B gb A c L :=
  ⟨(hk.block gb (blk_lt h.blk) h1).trans h.blk, R_keep h.row hk h2, fun x hx => ⟨(hk.block x.1 (blk_lt (h.rules x hx).1) (h3 x hx)).trans (h.rules x hx).1, (h.rules x hx).2⟩, h.nodup, h.ge⟩
theorem BookAt.quiet {w w' : World} {B gb : Nat} {A : Option Addr} {c : Nat} {L : List Ent} (h : BookAt w B gb A c L) (hk : Keep w w' (fun _ => False)) : BookAt w' B gb A c L := h.keep hk (fun h => h) (fun _ _ h => h) (fun _ _ h => h)
/-- One rule has moved on. -/
theorem BookAt.set {w w' : World} {B gb : Nat} {A : Option Addr} {c : Nat} {L : List Ent} (h : BookAt w B gb A c L) {i : Nat} {g : Nat} {r : Rul} {s s' : Stt} (hi : L[i]? = some (g, r, s)) (hk : Keep w w' (fun k => k = g)) (hr : RuleS w' g r s') : BookAt w' B gb A c (L.set i (g, r, s')) := by
  have hm : (g, r, s) ∈ L := List.mem_of_getElem? hi
  have hg := h.rules _ hm
  have e1 : (L.set i (g, r, s')).map (·.1) = L.map (·.1) := by
    rw [List.map_set]
    apply List.ext_getElem?
    intro j
    rw [List.getElem?_set]
    split
    · rename_i e
      subst e
      rw [List.getElem?_map, hi]
      simp only [List.length_map, Option.map_some]
      have := (List.getElem?_eq_some_iff.1 hi).1
      rw [if_pos this]
    · rfl
  have hi2 : i < L.length := (List.getElem?_eq_some_iff.1 hi).1
  refine ⟨?_, ?_, ?_, by rw [e1]; exact h.nodup, h.ge⟩
  · rw [List.length_set]
    exact (hk.block gb (blk_lt h.blk) (ne_typed h.blk hg.1 (by decide))).trans h.blk
  · rw [List.length_set, e1]
    refine R_keep h.row hk (fun k e e2 => ?_)
    obtain ⟨cs, fr, h1⟩ := R_typed h.row k e
    exact ne_typed h1 hg.1 (by decide) e2
  · intro x hx
    obtain ⟨j, hj⟩ := List.mem_iff_getElem?.1 hx
    rw [List.getElem?_set] at hj
    split at hj
    · injection hj with hj
      subst hj
      exact ⟨hr, hg.2⟩
    · rename_i hij
      have hxm : x ∈ L := List.mem_of_getElem? hj
      refine ⟨(hk.block x.1 (blk_lt (h.rules x hxm).1) (fun e => hij ?_)).trans (h.rules x hxm).1, (h.rules x hxm).2⟩
      have hn := h.nodup
      have a1 : (L.map (·.1))[i]? = some g := by rw [List.getElem?_map, hi]; rfl
      have a2 : (L.map (·.1))[j]? = some g := by rw [List.getElem?_map, hj]; simp only [Option.map_some]; rw [e]
      exact (List.getElem?_inj (by rw [List.length_map]; exact hi2) hn).1 (a1.trans a2.symm)

theorem toL_inj {x y : ByteArray} (h : x.toList = y.toList) : x = y := by
  rw [ByteArray.toList_eq, ByteArray.toList_eq] at h
  exact ByteArray.ext (Array.toList_inj.1 h)
theorem toL_yes {x y : ByteArray} (h : x = y) : (x.toList == y.toList) = true := by rw [h]; exact beq_self_eq_true _
theorem toL_no {x y : ByteArray} (h : ¬ x = y) : (x.toList == y.toList) = false := beq_eq_false_iff_ne.mpr (fun e => h (toL_inj e))
theorem idxP_some {L : List Ent} {name : ByteArray} {i : Nat} {x : Ent} (hx : L[i]? = some x) (he : x.2.1.name = name) (hn : ∀ j, j < i → ∀ x, L[j]? = some x → x.2.1.name ≠ name) : idxP L name = some i := by
  have hi := (List.getElem?_eq_some_iff.1 hx).1
  have hxe := (List.getElem?_eq_some_iff.1 hx).2
  unfold idxP
  rw [List.findIdx?_eq_some_iff_getElem]
  refine ⟨hi, by rw [hxe]; exact decide_eq_true he, fun j hj => ?_⟩
  have := hn j hj L[j] (List.getElem?_eq_getElem (by omega))
  simpa using this
def findV (L : List Ent) (name : ByteArray) : Value := match idxP L name with | none => .pointer none | some i => ptrV ((L.map (·.1)).getD i 0)
set_option maxHeartbeats 3200000 in
theorem book_find {w : World} {B gb : Nat} {A : Option Addr} {c : Nat} {L : List Ent} (h : BookAt w B gb A c L) (name : ByteArray) (hL : L.length ≤ 1000000) :
    Calls Try.prog 25 #[.pointer (some ⟨gb, 0, none⟩), .string name] w fun e w' => e = .returned (findV L name) ∧ w = w' := by
  have c0 : w.cell? ⟨gb, 0, none⟩ = some (.slice A L.length c) := blk_cell h.blk 0
  have HB := Aside0.mk h
  obtain ⟨hlc, hlc2, hC⟩ := Kd.R_reads' h.row
  have HC := Aside0.mk hC
  clear h hC hlc2 hlc
  go_enter Try.func25, Try.ntmps25
  go_wp2
  go_loopg [14] L.length (fun kq v14 w' => ∃ i : Nat, v14 = .int .i64 i ∧ i + kq = L.length ∧ Aside0 (∀ j, j < i → ∀ x, L[j]? = some x → x.2.1.name ≠ name) ∧ w' = w)
  case atStart => exact ⟨0, rfl, by omega, ⟨fun j hj => by omega⟩, rfl⟩
  case round =>
    obtain ⟨i, rfl, hik, HN, rfl⟩ := hrel
    cases gk with
    | zero =>
      have d1 : decide (i < L.length) = false := decide_eq_false (by omega)
      have HI := Aside0.mk (show findV L name = .pointer none by
        have hn : idxP L name = none := List.findIdx?_eq_none_iff.2 (fun x hx => by
          obtain ⟨j, hj⟩ := List.mem_iff_getElem?.1 hx
          have := HN.out j (by have := (List.getElem?_eq_some_iff.1 hj).1; omega) x hj
          simp [this])
        unfold findV
        rw [hn])
      go_wp2
      go_ret
      rw [HI.out]
      exact ⟨rfl, rfl⟩
    | succ k1 =>
      have hlt : i < L.length := by omega
      have d1 : decide (i < L.length) = true := decide_eq_true hlt
      obtain ⟨x, hx⟩ : ∃ x, L[i]? = some x := ⟨L[i], List.getElem?_eq_getElem hlt⟩
      have hxm : x ∈ L := List.mem_of_getElem? hx
      have hR := (HB.out.rules x hxm).1
      have qn : wr.cell? ⟨x.1, 0, none⟩ = some (.string x.2.1.name) := blk_cell hR 0
      obtain ⟨ad, hA, q1⟩ := ReadsOf.at_ (Kd.reads_of_C (enc := ptrV) (d := (0 : Nat)) (h1 := fun _ => rfl) HC.out) (i : Int) (by omega) (by rw [List.length_map]; omega)
      subst hA
      rw [Int.toNat_natCast, show rdOf 0 (L.map (·.1)) (i : Int) = x.1 by unfold rdOf; rw [Int.toNat_natCast, List.getD_eq_getElem?_getD, List.getElem?_map, hx]; rfl] at q1
      unfold ptrV at q1
      by_cases he : x.2.1.name = name
      · have e1 := toL_yes he
        have HV := Aside0.mk (show findV L name = .pointer (some ⟨x.1, 0, none⟩) by
          unfold findV
          rw [idxP_some hx he HN.out]
          show ptrV ((L.map (·.1)).getD i 0) = _
          rw [List.getD_eq_getElem?_getD, List.getElem?_map, hx]
          rfl)
        clear he hx hxm hR
        go_wp2
        go_ret
        rw [HV.out]
        exact ⟨rfl, rfl⟩
      · have e1 := toL_no he
        have HN2 := Aside0.mk (show ∀ j, j < i + 1 → ∀ x, L[j]? = some x → x.2.1.name ≠ name from fun j hj y hy => by
          by_cases hji : j = i
          · subst hji
            rw [hx] at hy
            injection hy with hy
            subst hy
            exact he
          · exact HN.out j (by omega) y hy)
        clear he hx hxm hR HN
        go_wp2
        go_roundg k1
        case rel => exact ⟨i + 1, by go_num, by omega, HN2, rfl⟩
        case measure => omega
end Go.Proofs.Ytadmigijbfdboaa.Q
