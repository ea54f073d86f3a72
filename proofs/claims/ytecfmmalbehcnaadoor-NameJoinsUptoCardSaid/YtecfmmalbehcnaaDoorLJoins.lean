/- NameJoins: nodes with points between them. The law's walk. -/
import Derived.Test.YtecfmmalbehcnaaDoorNRPlain
import Derived.Test.YtecfmmalbehcnaaDoorNPat
namespace Go.Proofs.YtecfmmalbehcnaaDoor.Q
open Go.Shelf Go.RowKit Go.Proofs Go.Proofs.YtecfmmalbehcnaaDoorW.PrintWords Go.Proofs.YtecfmmalbehcnaaDoorW.PrintLast Go.Proofs.YtecfmmalbehcnaaDoorW.PrintMore Go.Proofs.YtecfmmalbehcnaaDoorV
set_option linter.unusedVariables false
set_option linter.unusedSimpArgs false

/-- A list's texts. -/
def txt (L : List ByteArray) : List (List UInt8) := L.map (·.data.toList)
theorem txt_strB (L : List ByteArray) : (txt L).map strB = L := by
  unfold txt
  rw [List.map_map, show (strB ∘ fun x : ByteArray => x.data.toList) = id from funext data_strB, List.map_id]
def joinB (L : List ByteArray) (i : Nat) : ByteArray := strB (joinR 46 ((txt L).take i))
theorem txt_get {L : List ByteArray} {i : Nat} {x : ByteArray} (h : L[i]? = some x) : (txt L)[i]? = some x.data.toList := by unfold txt; rw [List.getElem?_map, h]; rfl
theorem joinB_zero {L : List ByteArray} {x : ByteArray} (h : L[0]? = some x) : joinB L 0 ++ x = joinB L 1 := by
  unfold joinB
  rw [take_snocR (txt_get h)]
  show strB [] ++ x = strB x.data.toList
  rw [data_strB]
  exact (congrArg (strB [] ++ ·) (data_strB x).symm).trans ((strB_append _ _).trans (data_strB x))
theorem joinB_succ {L : List ByteArray} {i : Nat} {x : ByteArray} (h : L[i]? = some x) (h0 : 0 < i) : joinB L i ++ ⟨#[46]⟩ ++ x = joinB L (i + 1) := by
  unfold joinB
  rw [take_snocR (txt_get h), join_snoc 46 _ _ (by
    intro e
    have h1 := (List.getElem?_eq_some_iff.1 (txt_get h)).1
    have := congrArg List.length e
    rw [List.length_take, List.length_nil] at this
    omega)]
  rw [show (⟨#[46]⟩ : ByteArray) = strB [46] from rfl, ← data_strB x, strB_append, strB_append, List.append_assoc]
  rfl
def sumL (L : List ByteArray) : Nat := (L.map (fun s : ByteArray => s.size + 1)).sum
theorem sumL_txt (L : List ByteArray) : bulkA (txt L) = sumL L := by
  unfold bulkA sumL txt
  rw [List.map_map]
  refine congrArg List.sum (List.map_congr_left (fun a _ => ?_))
  show a.data.toList.length + 1 = a.size + 1
  rw [size_data]
theorem bulkA_take (l : List (List UInt8)) (k : Nat) : bulkA (l.take k) ≤ bulkA l := by
  unfold bulkA
  induction l generalizing k with
  | nil => simp
  | cons a t ih =>
    cases k with
    | zero => simp
    | succ k =>
      rw [List.take_succ_cons, List.map_cons, List.map_cons, List.sum_cons, List.sum_cons]
      have := ih k
      omega
theorem joinB_size (L : List ByteArray) (i : Nat) : (joinB L i).size ≤ sumL L := by
  unfold joinB
  rw [strB_size]
  exact Nat.le_trans (join_bulk 46 _) (Nat.le_trans (bulkA_take _ _) (Nat.le_of_eq (sumL_txt L)))
theorem sumL_mem {L : List ByteArray} {x : ByteArray} (h : x ∈ L) : x.size + 1 ≤ sumL L := sum_mem (fun s : ByteArray => s.size + 1) L x h
theorem sumL_len (L : List ByteArray) : L.length ≤ sumL L := sum_len (fun s : ByteArray => s.size + 1) (fun _ => by omega) L
def fineB (L : List ByteArray) (i : Nat) : Bool := decide (1 ≤ L.length ∧ L.length ≤ 16) && ((txt L).take i).all nodeP
theorem fineB_succ {L : List ByteArray} {i : Nat} {x : ByteArray} (h : L[i]? = some x) : fineB L (i + 1) = (fineB L i && nodeP x.data.toList) := by
  unfold fineB
  rw [all_take (txt_get h), Bool.and_assoc]
def pointB (L : List ByteArray) (i : Nat) : Bool := ((txt L).take i).any (·.contains 46)
theorem pointB_succ {L : List ByteArray} {i : Nat} {x : ByteArray} (h : L[i]? = some x) : pointB L (i + 1) = (pointB L i || x.data.toList.contains 46) := by
  unfold pointB
  exact any_take' (txt_get h)
where
  any_take' {l : List (List UInt8)} {k : Nat} {x : List UInt8} (hx : l[k]? = some x) : (l.take (k + 1)).any (·.contains 46) = ((l.take k).any (·.contains 46) || x.contains 46) := by
    rw [List.take_add_one, hx]
    simp
theorem joins_law {L : List ByteArray} (h : pointB L L.length = false) (hl : ∀ x ∈ L, x.size ≤ 200) : validP (joinR 46 (txt L)) = (fineB L L.length && decide ((joinR 46 (txt L)).length ≤ 200)) := by
  have hlen : (txt L).length = L.length := by unfold txt; rw [List.length_map]
  unfold pointB at h
  unfold fineB
  rw [← hlen, List.take_length] at h ⊢
  by_cases hne : txt L = []
  · rw [hne]; rfl
  · have hc : cutP (joinR 46 (txt L)) = txt L := cut_join _ hne (fun a ha x hx e => by
      have h2 := List.any_eq_false.1 h a ha
      apply h2
      rw [List.contains_iff_mem]
      rw [← e]; exact hx)
    unfold validP
    rw [hc]
    have h1 : 1 ≤ (txt L).length := by cases hq : txt L with | nil => exact absurd hq hne | cons a t => simp
    rw [decide_eq_decide.2 (show (1 ≤ (txt L).length ∧ (txt L).length ≤ 16) ↔ (txt L).length ≤ 16 from ⟨fun q => q.2, fun q => ⟨h1, q⟩⟩)]
    cases decide ((joinR 46 (txt L)).length ≤ 200) <;> cases decide ((txt L).length ≤ 16) <;> cases (txt L).all nodeP <;> rfl
theorem joins_nodes {L : List ByteArray} (h : pointB L L.length = false) (hv : validP (joinR 46 (txt L)) = true) (hn : L ≠ []) : nodesB (strB (joinR 46 (txt L))) = L := by
  have hlen : (txt L).length = L.length := by unfold txt; rw [List.length_map]
  unfold pointB at h
  rw [← hlen, List.take_length] at h
  have hne : txt L ≠ [] := fun e => hn (List.eq_nil_of_length_eq_zero (by rw [← hlen, e]; rfl))
  have hc : cutP (joinR 46 (txt L)) = txt L := cut_join _ hne (fun a ha x hx e => by
    have h2 := List.any_eq_false.1 h a ha
    apply h2
    rw [List.contains_iff_mem]
    rw [← e]; exact hx)
  rw [nodesB_map (strB (joinR 46 (txt L))) hv]
  show (cutP (joinR 46 (txt L))).map strB = L
  rw [hc, txt_strB]
theorem fine_ne {L : List ByteArray} {i : Nat} (h : fineB L i = true) : L ≠ [] := by
  unfold fineB at h
  rw [Bool.and_eq_true, decide_eq_true_eq] at h
  intro e
  rw [e] at h
  exact absurd h.1.1 (by decide)
set_option maxHeartbeats 6400000 in
set_option maxRecDepth 100000 in
theorem law_NameJoins {w : World} {A : Option Addr} {c : Nat} {L : List ByteArray} (h : Kd.string.C w A L.length L) (hc : L.length ≤ c) (hb : sumL L ≤ 1048576) :
    Calls Tryd.prog 5 #[.slice A L.length c] w fun e w' => e = .returned (.bool true) ∧ Below w.heap.size w w' := by
  have HA := Aside0.mk law_alive
  have H := Aside0.mk h
  have hll : L.length ≤ 1048576 := Nat.le_trans (sumL_len L) hb
  have HJ := Aside0.mk (fun i => show (joinB L i).size ≤ 1048576 from Nat.le_trans (joinB_size L i) hb)
  have HSM := Aside0.mk (fun x (hx : x ∈ L) => show x.size ≤ 1048576 by have := sumL_mem hx; omega)
  clear h hb
  obtain ⟨f0, hf0⟩ : ∃ f0, f0 = decide (1 ≤ L.length ∧ L.length ≤ 16) := ⟨_, rfl⟩
  have HF0 := Aside0.mk (show fineB L 0 = f0 by unfold fineB; rw [hf0]; simp)
  have hd0 : decide (1 ≤ L.length) = true → decide (L.length ≤ 16) = f0 := fun q => by rw [hf0]; have := of_decide_eq_true q; exact decide_eq_decide.2 ⟨fun x => ⟨this, x⟩, fun x => x.2⟩
  have hd1 : decide (1 ≤ L.length) = false → f0 = false := fun q => by rw [hf0]; exact decide_eq_false (fun x => of_decide_eq_false q x.1)
  clear hf0
  go_enter Tryd.func5, Tryd.ntmps5
  go_upto_region 2 with (fail)
  go_cut [4] (fun v4 wx => v4 = .bool f0 ∧ wx = w)
  case first =>
    by_cases h1 : 1 ≤ L.length
    · have e1 : decide ((1 : Int) ≤ (L.length : Int)) = true := decide_eq_true (by omega)
      have e1n : decide (1 ≤ L.length) = true := decide_eq_true h1
      have e2n := hd0 e1n
      have e2 : decide ((L.length : Int) ≤ 16) = f0 := by rw [← e2n]; exact decide_eq_decide.2 (by omega)
      clear h1 hd0 hd1 e2n
      go_wp2_with (fail)
      go_meet
      exact ⟨rfl, rfl⟩
    · have e1 : decide ((1 : Int) ≤ (L.length : Int)) = false := decide_eq_false (by omega)
      have e1n : decide (1 ≤ L.length) = false := decide_eq_false h1
      have e2 := hd1 e1n
      subst e2
      clear h1 hd0 hd1
      go_wp2_with (fail)
      go_meet
      exact ⟨rfl, rfl⟩
  case rest =>
    obtain ⟨rfl, e⟩ := hcut
    have e := e.symm
    subst e
    have HB := Aside0.mk (Below.refl w.heap.size w)
    have HJ0 := Aside0.mk (show joinB L 0 = (⟨#[]⟩ : ByteArray) from rfl)
    rw [← HF0.out, ← HJ0.out]
    go_wp2_with (fail)
    go_loopg [3, 4, 5] L.length (fun kq v3 v4 v5 w' => ∃ i : Nat, v3 = .string (joinB L i) ∧ v4 = .bool (fineB L i) ∧ v5 = .int .i64 (i : Int) ∧ i + kq = L.length ∧ Aside0 (∀ x ∈ L.take i, x.size ≤ 200) ∧ Aside0 (Below w.heap.size w w'))
    case atStart => exact ⟨0, rfl, rfl, rfl, by omega, ⟨fun x hx => by simp at hx⟩, HB⟩
    case round =>
      obtain ⟨i, rfl, rfl, rfl, hiq, H200, HW⟩ := hrel
      clear HB HF0 HJ0 hd0 hd1
      cases gk with
      | succ k1 =>
        have hi : i < L.length := by omega
        have d1 : decide ((i : Int) < (L.length : Int)) = true := decide_eq_true (by omega)
        have E9 := Aside0.mk (show i + 1 + k1 = L.length by omega)
        obtain ⟨x, hx⟩ : ∃ x, L[i]? = some x := ⟨_, List.getElem?_eq_getElem hi⟩
        obtain ⟨ad, rfl, q0⟩ := at_str (Kd.C_below H.out HW.out) hx
        have hxz := HSM.out x (List.mem_of_getElem? hx)
        have HFs := Aside0.mk (fineB_succ hx)
        have hj1 := HJ.out i
        have hj2 := HJ.out (i + 1)
        have HJx := Aside0.mk (show 0 < i → joinB L i ++ ⟨#[46]⟩ ++ x = joinB L (i + 1) from fun q => joinB_succ hx q)
        have HJz := Aside0.mk (show i = 0 → joinB L i ++ x = joinB L (i + 1) from fun q => by subst q; exact joinB_zero hx)
        have HTs := Aside0.mk (show x.size ≤ 200 → ∀ y ∈ L.take (i + 1), y.size ≤ 200 from fun q y hy => by
          rw [take_snocR hx] at hy
          rcases List.mem_append.1 hy with r | r
          · exact H200.out y r
          · rw [List.mem_singleton.1 r]; exact q)
        have hq0 : ∀ n, (wr.drewN n).cell? (ad.add i) = some (.string x) := fun n => q0
        clear hx hiq
        by_cases h2 : 200 < x.size
        · have e1 : decide ((200 : Int) < (x.size : Int)) = true := decide_eq_true (by omega)
          have e1n : decide (200 < x.size) = true := decide_eq_true h2
          have HV := Aside0.mk (fun W => valid_calls x (by omega) W)
          rw [show validP x.data.toList = false by unfold validP; rw [decide_eq_false (by rw [size_data]; omega)]; rfl] at HV
          obtain ⟨Y, hY⟩ : ∃ Y, Y = joinB L i := ⟨_, rfl⟩
          rw [← hY] at hj1 ⊢
          have hxz2 := hxz
          clear h2 hY hj2
          by_cases i0 : 0 < i
          · have e0 : decide ((0 : Int) < (i : Int)) = true := decide_eq_true (by omega)
            have e0n : decide (0 < i) = true := decide_eq_true i0
            clear i0
            go_wp2_with (fail)
            refine (HV.out _).mono ?_
            rintro e w2 ⟨rfl, hb⟩
            have HB2 := Aside0.mk (HW.out.trans (hb.mono HW.out.size))
            clear hb
            go_wp2_with (fail)
            refine (HA.out _).mono ?_
            rintro e w3 ⟨rfl, hb⟩
            have HB3 := Aside0.mk (HB2.out.trans (hb.mono HB2.out.size))
            clear hb
            go_wp2_with (fail)
            go_ret
            exact ⟨rfl, HB3.out⟩
          · have e0 : decide ((0 : Int) < (i : Int)) = false := decide_eq_false (by omega)
            have e0n : decide (0 < i) = false := decide_eq_false i0
            clear i0
            go_wp2_with (fail)
            refine (HV.out _).mono ?_
            rintro e w2 ⟨rfl, hb⟩
            have HB2 := Aside0.mk (HW.out.trans (hb.mono HW.out.size))
            clear hb
            go_wp2_with (fail)
            refine (HA.out _).mono ?_
            rintro e w3 ⟨rfl, hb⟩
            have HB3 := Aside0.mk (HB2.out.trans (hb.mono HB2.out.size))
            clear hb
            go_wp2_with (fail)
            go_ret
            exact ⟨rfl, HB3.out⟩
        · have e1 : decide ((200 : Int) < (x.size : Int)) = false := decide_eq_false (by omega)
          have e1n : decide (200 < x.size) = false := decide_eq_false h2
          have HT2 := Aside0.mk (HTs.out (by omega))
          have hx2 : x.size ≤ 200 := by omega
          have HBy := Aside0.mk (fun W => ref_Bytes x (by omega) W)
          obtain ⟨te, hte0⟩ : ∃ te, te = x.data.toList.isEmpty := ⟨_, rfl⟩
          have hte1 : (x.toList == ([] : List UInt8)) = te := by rw [hte0]; exact empty_iff x
          have hte2 : (x.toList != ([] : List UInt8)) = !te := by rw [bne, hte1]
          obtain ⟨b, hb0⟩ : ∃ b, b = bytesP x.data.toList := ⟨_, rfl⟩
          rw [← hb0] at HBy
          have HNo := Aside0.mk (show nodeP x.data.toList = (!te && b) by rw [hte0, hb0]; rfl)
          obtain ⟨f, hf⟩ : ∃ f, f = fineB L i := ⟨_, rfl⟩
          have HF := Aside0.mk (show fineB L (i + 1) = (f && (!te && b)) by rw [HFs.out, HNo.out, hf])
          rw [← hf]
          obtain ⟨Y, hY⟩ : ∃ Y, Y = joinB L i := ⟨_, rfl⟩
          rw [← hY] at hj1 HJx HJz ⊢
          obtain ⟨Z, hZ⟩ : ∃ Z, Z = joinB L (i + 1) := ⟨_, rfl⟩
          rw [← hZ] at HJx HJz
          have HZ := Aside0.mk hZ
          clear h2 hte0 hb0 hf hY hj2 hZ HFs HNo
          by_cases i0 : 0 < i
          · have e0 : decide ((0 : Int) < (i : Int)) = true := decide_eq_true (by omega)
            have e0n : decide (0 < i) = true := decide_eq_true i0
            have HJp := Aside0.mk (HJx.out i0)
            clear i0 HJx HJz
            cases f with
            | false =>
              go_wp2_with (fail)
              go_roundg k1
              case rel => exact ⟨i + 1, by rw [HJp.out, HZ.out], by rw [HF.out]; rfl, by go_num, E9.out, HT2, HW⟩
              case measure => omega
            | true =>
              cases te with
              | true =>
                go_wp2_with (fail)
                go_roundg k1
                case rel => exact ⟨i + 1, by rw [HJp.out, HZ.out], by rw [HF.out]; rfl, by go_num, E9.out, HT2, HW⟩
                case measure => omega
              | false =>
                cases b
                all_goals
                  go_wp2_with (fail)
                  refine (HBy.out _).mono ?_
                  rintro e w2 ⟨rfl, ⟨nd, rfl⟩⟩
                  have q1 := hq0 nd
                  go_wp2_with (fail)
                  go_roundg k1
                  case rel => exact ⟨i + 1, by rw [HJp.out, HZ.out], by rw [HF.out]; rfl, by go_num, E9.out, HT2, ⟨pw_below_drewN HW.out _⟩⟩
                  case measure => omega
          · have e0 : decide ((0 : Int) < (i : Int)) = false := decide_eq_false (by omega)
            have e0n : decide (0 < i) = false := decide_eq_false i0
            have HJp := Aside0.mk (HJz.out (by omega))
            clear i0 HJx HJz
            cases f with
            | false =>
              go_wp2_with (fail)
              go_roundg k1
              case rel => exact ⟨i + 1, by rw [HJp.out, HZ.out], by rw [HF.out]; rfl, by go_num, E9.out, HT2, HW⟩
              case measure => omega
            | true =>
              cases te with
              | true =>
                go_wp2_with (fail)
                go_roundg k1
                case rel => exact ⟨i + 1, by rw [HJp.out, HZ.out], by rw [HF.out]; rfl, by go_num, E9.out, HT2, HW⟩
                case measure => omega
              | false =>
                cases b
                all_goals
                  go_wp2_with (fail)
                  refine (HBy.out _).mono ?_
                  rintro e w2 ⟨rfl, ⟨nd, rfl⟩⟩
                  have q1 := hq0 nd
                  go_wp2_with (fail)
                  go_roundg k1
                  case rel => exact ⟨i + 1, by rw [HJp.out, HZ.out], by rw [HF.out]; rfl, by go_num, E9.out, HT2, ⟨pw_below_drewN HW.out _⟩⟩
                  case measure => omega
      | zero =>
        have hi : i = L.length := by omega
        have d1 : decide ((i : Int) < (L.length : Int)) = false := decide_eq_false (by omega)
        have d1n : decide (i < L.length) = false := decide_eq_false (by omega)
        have HAll := Aside0.mk (show ∀ x ∈ L, x.size ≤ 200 by have := H200.out; rwa [hi, List.take_length] at this)
        have hj1 := HJ.out i
        rw [hi] at hj1
        rw [show joinB L i = joinB L L.length by rw [hi], show fineB L i = fineB L L.length by rw [hi]]
        have HSJ := Aside0.mk (show joinB L L.length = strB (joinR 46 (txt L)) by unfold joinB; rw [show (txt L).take L.length = txt L by rw [show L.length = (txt L).length by unfold txt; rw [List.length_map], List.take_length]])
        obtain ⟨S, hS⟩ : ∃ S, S = joinB L L.length := ⟨_, rfl⟩
        rw [← hS] at HSJ hj1 ⊢
        obtain ⟨f, hf⟩ : ∃ f, f = fineB L L.length := ⟨_, rfl⟩
        have HFF := Aside0.mk hf
        rw [← hf]
        obtain ⟨z, hz⟩ : ∃ z, z = (f && decide (S.size ≤ 200)) := ⟨_, rfl⟩
        have HZZ := Aside0.mk hz
        clear hi hiq hS hf
        go_upto_region 12 with (fail)
        go_cut [4] (fun v4 wx => v4 = .bool z ∧ wx = wr)
        case first =>
          have e3 : decide ((S.size : Int) ≤ 200) = decide (S.size ≤ 200) := decide_eq_decide.2 (by omega)
          obtain ⟨dd, hdd⟩ : ∃ dd, dd = decide (S.size ≤ 200) := ⟨_, rfl⟩
          rw [← hdd] at e3 hz
          have e4 := hdd.symm
          subst hz
          clear hdd
          cases f
          all_goals
            go_wp2_with (fail)
            go_meet
            exact ⟨by simp, rfl⟩
        case rest =>
          obtain ⟨rfl, e⟩ := hcut
          have e := e.symm
          subst e
          clear hz
          obtain ⟨wo, hwo⟩ : ∃ wo : World, wo = wr := ⟨_, rfl⟩
          subst hwo
          go_wp2_with (fail)
          go_loopg [6, 7] L.length (fun kq v6 v7 w' => ∃ i : Nat, v6 = .bool (pointB L i) ∧ v7 = .int .i64 (i : Int) ∧ i + kq = L.length ∧ Aside0 (Below w.heap.size w w'))
          case atStart => exact ⟨0, rfl, rfl, by omega, HW⟩
          case round =>
            obtain ⟨i, rfl, rfl, hiq, HWi⟩ := hrel
            clear HW
            cases gk with
            | succ k1 =>
              have hi : i < L.length := by omega
              have d1 : decide ((i : Int) < (L.length : Int)) = true := decide_eq_true (by omega)
              have E9 := Aside0.mk (show i + 1 + k1 = L.length by omega)
              obtain ⟨x, hx⟩ : ∃ x, L[i]? = some x := ⟨_, List.getElem?_eq_getElem hi⟩
              have hxz := HSM.out x (List.mem_of_getElem? hx)
              have HPs := Aside0.mk (pointB_succ hx)
              have HXL := Aside0.mk hx
              obtain ⟨pb, hpb⟩ : ∃ pb, pb = pointB L i := ⟨_, rfl⟩
              have HPB := Aside0.mk hpb
              rw [← hpb]
              clear hx hiq hpb
              go_upto_region 18 with (fail)
              go_loopg [6, 8] x.size (fun kq v6 v8 w' => ∃ j : Nat, v6 = .bool (pb || (x.data.toList.take j).contains 46) ∧ v8 = .int .i64 (j : Int) ∧ j + kq = x.size ∧ Aside0 (Below w.heap.size w w'))
              case atStart => exact ⟨0, by simp, rfl, by omega, HWi⟩
              case round =>
                obtain ⟨j, rfl, rfl, hjq, HWj⟩ := hrel
                obtain ⟨ad2, e2, q0⟩ := at_str (Kd.C_below H.out HWj.out) HXL.out
                cases gk with
                | succ j1 =>
                  have hj : j < x.size := by omega
                  have d2 : decide ((j : Int) < (x.size : Int)) = true := decide_eq_true (by omega)
                  have d2n : decide (j < x.size) = true := decide_eq_true hj
                  have E8 := Aside0.mk (show j + 1 + j1 = x.size by omega)
                  obtain ⟨b, hb⟩ := get_lt (s := x) (i := j) hj
                  have hbb := get_byte hb
                  have HS := Aside0.mk (show (x.data.toList.take (j + 1)).contains 46 = ((x.data.toList.take j).contains 46 || b == 46) by
                    rw [take_snocR hb, Bool.eq_iff_iff, Bool.or_eq_true, List.contains_iff_mem, List.contains_iff_mem, List.mem_append, List.mem_singleton, beq_iff_eq]
                    exact ⟨fun q => q.imp_right Eq.symm, fun q => q.imp_right Eq.symm⟩)
                  have pk0 : (0 ≤ (j : Int)) = True := eq_true (by omega)
                  have pk1 : ((j : Int) < (x.size : Int)) = True := eq_true (by omega)
                  obtain ⟨pc, hpc⟩ : ∃ pc, pc = (pb || (x.data.toList.take j).contains 46) := ⟨_, rfl⟩
                  have HPC := Aside0.mk (show (pb || (x.data.toList.take (j + 1)).contains 46) = (pc || b == 46) by rw [HS.out, hpc, Bool.or_assoc])
                  rw [← hpc]
                  subst e2
                  clear hb hpc hjq
                  cases pc with
                  | true =>
                    go_wp2_with (fail)
                    go_roundg j1
                    case rel => exact ⟨j + 1, by rw [HPC.out]; rfl, by go_num, E8.out, HWj⟩
                    case measure => omega
                  | false =>
                    by_cases h46 : b = 46
                    · have e46 : ((b.toNat : Int) == 46) = true := by rw [h46]; rfl
                      have e46' : ((b.toNat : Int) = 46) = True := eq_true (by rw [h46]; rfl)
                      have HB46 := Aside0.mk (show (b == 46) = true from beq_iff_eq.2 h46)
                      clear h46
                      go_wp2_with (fail)
                      go_roundg j1
                      case rel => exact ⟨j + 1, by rw [HPC.out, HB46.out]; rfl, by go_num, E8.out, HWj⟩
                      case measure => omega
                    · have n46 : ¬ (b.toNat : Int) = 46 := fun q => h46 ((eq_byte b 46).1 q)
                      have e46 : ((b.toNat : Int) == 46) = false := beq_eq_false_iff_ne.2 n46
                      have e46' : ((b.toNat : Int) = 46) = False := eq_false n46
                      have e46n : (b.toNat = 46) = False := eq_false (by omega)
                      have e46b : (b.toNat == 46) = false := beq_eq_false_iff_ne.2 (by omega)
                      have HB46 := Aside0.mk (show (b == 46) = false from beq_eq_false_iff_ne.2 h46)
                      clear h46 n46
                      go_wp2_with (fail)
                      go_roundg j1
                      case rel => exact ⟨j + 1, by rw [HPC.out, HB46.out]; rfl, by go_num, E8.out, HWj⟩
                      case measure => omega
                | zero =>
                  have hj : j = x.size := by omega
                  have d2 : decide ((j : Int) < (x.size : Int)) = false := decide_eq_false (by omega)
                  have d2n : decide (j < x.size) = false := decide_eq_false (by omega)
                  have HPn := Aside0.mk (show (pb || (x.data.toList.take j).contains 46) = pointB L (i + 1) by rw [HPs.out, ← HPB.out, hj, ← size_data, List.take_length])
                  rw [HPn.out]
                  subst e2
                  clear hj hjq
                  go_wp2_with (fail)
                  go_roundg k1
                  case rel => exact ⟨i + 1, rfl, by go_num, E9.out, HWj⟩
                  case measure => omega
            | zero =>
              have hi : i = L.length := by omega
              have d1 : decide ((i : Int) < (L.length : Int)) = false := decide_eq_false (by omega)
              have d1n : decide (i < L.length) = false := decide_eq_false (by omega)
              rw [show pointB L i = pointB L L.length by rw [hi]]
              clear hi hiq
              cases hpp : pointB L L.length with
              | true =>
                clear hpp
                go_wp2_with (fail)
                refine (HA.out _).mono ?_
                rintro e w3 ⟨rfl, hb⟩
                have HB3 := Aside0.mk (HWi.out.trans (hb.mono HWi.out.size))
                clear hb
                go_wp2_with (fail)
                go_ret
                exact ⟨rfl, HB3.out⟩
              | false =>
                have HVz := Aside0.mk (show validP S.data.toList = z by
                  rw [HSJ.out]
                  show validP (joinR 46 (txt L)) = z
                  rw [joins_law hpp HAll.out, HZZ.out, HFF.out, HSJ.out, size_strB])
                have HV := Aside0.mk (fun W => valid_calls S (by omega) W)
                rw [HVz.out] at HV
                have hzz : (z == z) = true := by simp
                cases z with
                | false =>
                  clear hpp
                  go_wp2_with (fail)
                  refine (HV.out _).mono ?_
                  rintro e w3 ⟨rfl, hb⟩
                  have HB3 := Aside0.mk (HWi.out.trans (hb.mono HWi.out.size))
                  clear hb
                  go_wp2_with (fail)
                  refine (HA.out _).mono ?_
                  rintro e w4 ⟨rfl, hb⟩
                  have HB4 := Aside0.mk (HB3.out.trans (hb.mono HB3.out.size))
                  clear hb
                  go_wp2_with (fail)
                  go_ret
                  exact ⟨rfl, HB4.out⟩
                | true =>
                  have HNo := Aside0.mk (fun W => name_Nodes S (by omega) W)
                  rw [show nodesB S = L by
                    rw [HSJ.out]
                    refine joins_nodes hpp (by have := HVz.out; rw [HSJ.out] at this; exact this) ?_
                    have := HZZ.out
                    rw [HFF.out] at this
                    exact fine_ne (Bool.and_eq_true_iff.1 this.symm).1] at HNo
                  clear hpp
                  go_wp2_with (fail)
                  refine (HV.out _).mono ?_
                  rintro e w3 ⟨rfl, hb⟩
                  have HB3 := Aside0.mk (HWi.out.trans (hb.mono HWi.out.size))
                  clear hb
                  go_wp2_with (fail)
                  refine (HNo.out _).mono ?_
                  rintro e w4 ⟨v4, rfl, ho4, hb⟩
                  have HB4 := Aside0.mk (HB3.out.trans (hb.mono HB3.out.size))
                  obtain ⟨A4, c4, ev⟩ := Kd.R_slice ho4
                  subst ev
                  have HR4 := Aside0.mk (Kd.R_reads' ho4)
                  clear hb ho4
                  have HST := Aside0.mk (ref_SameTexts HR4.out.2.2 HR4.out.2.1 (Kd.C_below H.out HB4.out) hc (by omega))
                  rw [decide_eq_true (show L = L from rfl)] at HST
                  go_wp2_with (fail)
                  refine (HST.out).mono ?_
                  rintro e w5 ⟨rfl, ⟨nd, rfl⟩⟩
                  go_wp2_with (fail)
                  refine (HA.out _).mono ?_
                  rintro e w6 ⟨rfl, hb⟩
                  have HB6 := Aside0.mk ((pw_below_drewN HB4.out nd).trans (hb.mono (pw_below_drewN HB4.out nd).size))
                  clear hb
                  go_wp2_with (fail)
                  go_ret
                  exact ⟨rfl, HB6.out⟩
end Go.Proofs.YtecfmmalbehcnaaDoor.Q
