/- The reference's put and reach. -/
import Derived.Test.YtecfmmalbehcnaaDoorNRMay2
namespace Go.Proofs.YtecfmmalbehcnaaDoor.Q
open Go.Shelf Go.RowKit Go.Proofs Go.Proofs.YtecfmmalbehcnaaDoorW.PrintWords Go.Proofs.YtecfmmalbehcnaaDoorW.PrintLast Go.Proofs.YtecfmmalbehcnaaDoorW.PrintMore Go.Proofs.YtecfmmalbehcnaaDoorV
set_option linter.unusedVariables false
set_option linter.unusedSimpArgs false

/-- The places that are being marked. -/
structure TAt (w0 W : World) (gT : Nat) (T : List Bool) (n : Nat) : Prop where
  blk : W.heap[gT]? = some (.cells (boolA T) 4 (0, 0))
  len : T.length = n
  new : w0.heap.size ≤ gT
  below : Below w0.heap.size w0 W
theorem TAt.kept {w0 W W' : World} {gT n : Nat} {T : List Bool} (h : TAt w0 W gT T n) (hb : Below W.heap.size W W') : TAt w0 W' gT T n := ⟨blk_below h.blk hb, h.len, h.new, h.below.trans (hb.mono h.below.size)⟩
theorem TAt.drewN {w0 W : World} {gT n : Nat} {T : List Bool} (h : TAt w0 W gT T n) (k : Nat) : TAt w0 (W.drewN k) gT T n := ⟨h.blk, h.len, h.new, pw_below_drewN h.below k⟩
theorem TAt.put {w0 W : World} {gT n : Nat} {T : List Bool} (h : TAt w0 W gT T n) (a : Nat) : TAt w0 (W.setCell ⟨gT, a, none⟩ (.bool true)) gT (orT T (fun j => j == a)) n := by
  refine ⟨?_, by rw [orT_length]; exact h.len, h.new, h.below.setCell (by show w0.heap.size ≤ gT; exact h.new) _⟩
  rw [blk_put h.blk a (.bool true) rfl, boolA_set, orT_set]
theorem TAt.cell {w0 W : World} {gT n : Nat} {T : List Bool} (h : TAt w0 W gT T n) {a : Nat} (ha : a < n) : ∃ b, W.cell? ⟨gT, a, none⟩ = some (.bool b) := by
  obtain ⟨b, hb⟩ : ∃ b, T[a]? = some b := ⟨_, List.getElem?_eq_getElem (by rw [h.len]; exact ha)⟩
  exact ⟨b, (blk_cell h.blk a).trans (boolA_get T a b hb)⟩
theorem prefix_take {t l : List UInt8} : t.isPrefixOf l = true ↔ l.take t.length = t := by
  rw [List.isPrefixOf_iff_prefix, List.prefix_iff_eq_take]
  exact ⟨fun h => h.symm, fun h => h.symm⟩
set_option maxHeartbeats 1600000 in
theorem ref_put {w0 W : World} {gT : Nat} {T : List Bool} (t s : ByteArray) (h : TAt w0 W gT T (s.size + 1)) (hs : s.size ≤ 1073741824) (ht : t.size ≤ 1073741824) (i : Nat) (hi : i ≤ s.size) :
    Calls Tryd.prog 98 #[.string t, .string s, .int .i64 (i : Int), .slice (some ⟨gT, 0, none⟩) (s.size + 1) (s.size + 1)] W fun e W' => e = .returned (.tuple #[]) ∧ TAt w0 W' gT (orT T (fits t.data.toList s.data.toList i)) (s.size + 1) ∧ Keep W W' (fun k => k = gT) := by
  have HN := Aside0.mk h
  have HTL := Aside0.mk (size_data t)
  have HSL := Aside0.mk (size_data s)
  by_cases hl : t.size ≤ s.size - i
  · have d1 : decide ((t.size : Int) ≤ (s.size : Int) - (i : Int)) = true := decide_eq_true (by omega)
    obtain ⟨k, hk⟩ : ∃ k, k = i + t.size := ⟨_, rfl⟩
    have hks : k ≤ s.size := by omega
    have he : (i : Int) + (t.size : Int) = (k : Int) := by omega
    have hX := extract_eq s i k
    have HK := Aside0.mk hk
    have hik : i ≤ k := by omega
    have hsub : k - i = t.size := by omega
    rw [hsub] at hX
    obtain ⟨b, hb0⟩ : ∃ b, b = t.data.toList.isPrefixOf (s.data.toList.drop i) := ⟨_, rfl⟩
    have hb1 : ((s.extract i k).toList == t.toList) = b := by
      rw [hX, hb0, Bool.eq_iff_iff, beq_iff_eq, prefix_take, HTL.out]
      exact ⟨fun e => by have := congrArg (fun x : ByteArray => x.data.toList) (toList_inj e); exact this, fun e => by rw [e, data_strB]⟩
    obtain ⟨X, hXX⟩ : ∃ X, X = s.extract i k := ⟨_, rfl⟩
    have HB0 := Aside0.mk hb0
    clear hX hb0 hk hsub hl
    have q0 : (0 ≤ (i : Int)) = True := eq_true (by omega)
    have q1 : ((i : Int) ≤ (k : Int)) = True := eq_true (by omega)
    have q2 : ((k : Int) ≤ (s.size : Int)) = True := eq_true (by omega)
    cases b with
    | true =>
      have HE := Aside0.mk (show orT T (fun j => j == k) = orT T (fits t.data.toList s.data.toList i) from orT_congr (fun j hj => by
        unfold fits
        rw [← HB0.out, HTL.out, Bool.and_true, HK.out]))
      obtain ⟨b, c2⟩ := h.cell (a := k) (by omega)
      have f2 : W.frozen? ⟨gT, k, none⟩ = false := blk_frozen h.blk k
      have q3 : ((k : Int) < ((s.size + 1 : Nat) : Int)) = True := eq_true (by omega)
      clear h hXX
      go_enter Tryd.func98, Tryd.ntmps98
      go_wp2
      go_end0
      exact ⟨rfl, by rw [← HE.out]; exact HN.out.put k, (Keep.refl W _).set _ _ (.inl rfl)⟩
    | false =>
      have HE := Aside0.mk (show orT T (fits t.data.toList s.data.toList i) = T by
        rw [orT_congr (g := fun _ => false) (fun j hj => by unfold fits; rw [← HB0.out, Bool.and_false]), orT_false])
      clear h hXX
      go_enter Tryd.func98, Tryd.ntmps98
      go_wp2
      go_end0
      exact ⟨rfl, by rw [HE.out]; exact HN.out, Keep.refl W _⟩
  · have d1 : decide ((t.size : Int) ≤ (s.size : Int) - (i : Int)) = false := decide_eq_false (by omega)
    have HE := Aside0.mk (show orT T (fits t.data.toList s.data.toList i) = T by
      rw [orT_congr (g := fun _ => false) (fun j hj => by
        unfold fits
        have e : t.data.toList.isPrefixOf (s.data.toList.drop i) = false := by
          cases hq : t.data.toList.isPrefixOf (s.data.toList.drop i) with
          | false => rfl
          | true =>
            have := (List.isPrefixOf_iff_prefix.1 hq).length_le
            rw [List.length_drop, HTL.out, HSL.out] at this
            omega
        rw [e, Bool.and_false]), orT_false])
    clear h hl
    go_enter Tryd.func98, Tryd.ntmps98
    go_wp2
    go_end0
    exact ⟨rfl, by rw [HE.out]; exact HN.out, Keep.refl W _⟩
theorem goes_k1 {g : Gl} (h : g.kind = 1) (s : List UInt8) (i j : Nat) : goes g s i j = fits g.text s i j := by unfold goes; rw [if_pos h]
theorem goes_k2 {g : Gl} (h : g.kind = 2) (s : List UInt8) (i j : Nat) : goes g s i j = decide (i ≤ j ∧ j ≤ s.length) := by unfold goes; rw [if_neg (by omega), if_pos h]
theorem goes_k3 {g : Gl} (h : g.kind = 3) (s : List UInt8) (i j : Nat) : goes g s i j = decide (i < s.length ∧ j = i + 1) := by unfold goes; rw [if_neg (by omega), if_neg (by omega), if_pos h]
theorem goes_k4 {g : Gl} (h : g.kind = 4) (s : List UInt8) (i j : Nat) : goes g s i j = (decide (i < s.length ∧ j = i + 1) && (match s[i]? with | some c => g.text.contains c | none => false)) := by unfold goes; rw [if_neg (by omega), if_neg (by omega), if_neg (by omega), if_pos h]; rfl
theorem goes_k5 {g : Gl} (h : g.kind = 5) (s : List UInt8) (i j : Nat) : goes g s i j = g.alts.any (fun t => fits t s i j) := by unfold goes; rw [if_neg (by omega), if_neg (by omega), if_neg (by omega), if_neg (by omega), if_pos h]
theorem goes_no {g : Gl} (h : g.kind ≠ 1 ∧ g.kind ≠ 2 ∧ g.kind ≠ 3 ∧ g.kind ≠ 4 ∧ g.kind ≠ 5) (s : List UInt8) (i j : Nat) : goes g s i j = false := by unfold goes; rw [if_neg h.1, if_neg h.2.1, if_neg h.2.2.1, if_neg h.2.2.2.1, if_neg h.2.2.2.2]
theorem orT_none {T : List Bool} {f : Nat → Bool} (h : ∀ j, f j = false) : orT T f = T := by rw [orT_congr (g := fun _ => false) (fun j _ => h j), orT_false]
theorem any_take {α : Type} {f : α → Bool} {l : List α} {k : Nat} {x : α} (hx : l[k]? = some x) : (l.take (k + 1)).any f = ((l.take k).any f || f x) := by
  rw [List.take_add_one, hx]
  simp
set_option maxHeartbeats 6400000 in
theorem ref_reach {w0 W : World} {gT : Nat} {T : List Bool} {g : Gl} {cs : List Value} (hK : kGl.K w0 g cs) (hgb : bulkG g ≤ 1048576) (s : ByteArray) (h : TAt w0 W gT T (s.size + 1)) (hs : s.size ≤ 1073741824) (i : Nat) (hi : i ≤ s.size) :
    Calls Tryd.prog 75 #[.agg cs.toArray, .string s, .int .i64 (i : Int), .slice (some ⟨gT, 0, none⟩) (s.size + 1) (s.size + 1)] W fun e W' => e = .returned (.tuple #[]) ∧ TAt w0 W' gT (orT T (goes g s.data.toList i)) (s.size + 1) ∧ Keep W W' (fun k => k = gT) := by
  obtain ⟨A2, c2, rfl, l2, g2⟩ := kGl_open hK
  clear hK
  have hsd := Aside0.mk (size_data s)
  have htz : (strB g.text).size ≤ 1073741824 := by rw [strB_size]; unfold bulkG at hgb; omega
  have HALB := Aside0.mk (fun a (ha : a ∈ g.alts) => show (strB a).size ≤ 1073741824 by
    have := sum_mem (fun a : List UInt8 => a.length + 1) g.alts a ha
    unfold bulkG bulkA at hgb
    rw [strB_size]
    omega)
  have hal := bulkA_len g.alts
  obtain ⟨na, hna⟩ : ∃ na, na = g.alts.length := ⟨_, rfl⟩
  have hna2 : na ≤ 1048576 := by rw [hna]; unfold bulkG at hgb; omega
  have hla : (g.alts.map strB).length = na := by rw [List.length_map, hna]
  have HNA := Aside0.mk hna
  have HG2 := Aside0.mk (fun W' (hW : Below w0.heap.size w0 W') => Kd.C_below g2 hW)
  rw [hla] at l2 HG2 ⊢
  have hgT : gT < W.heap.size := blk_lt h.blk
  have HX := Aside0.mk (heap_alloc_new W (.cells #[.int .i64 g.kind, .string (strB g.text), .slice A2 na c2] 43 (0, 0)))
  have HK := Aside0.mk (show Keep W (W.alloc (.cells #[.int .i64 g.kind, .string (strB g.text), .slice A2 na c2] 43 (0, 0))) (fun k => k = gT) from (Keep.refl W _).alloc _)
  have HT := Aside0.mk (h.kept (below_alloc (Below.refl W.heap.size W) (.cells #[.int .i64 g.kind, .string (strB g.text), .slice A2 na c2] 43)))
  have HTX := Aside0.mk (show (strB g.text).data.toList = g.text from rfl)
  obtain ⟨kd, hkd⟩ : ∃ kd, kd = g.kind := ⟨_, rfl⟩
  have HKD := Aside0.mk hkd
  obtain ⟨X, hXX⟩ : ∃ X, X = strB g.text := ⟨_, rfl⟩
  rw [← hXX] at HX HK HT HTX htz ⊢
  rw [← hkd] at HX HK HT ⊢
  clear hna hkd hal hgb g2 hla hXX h
  obtain ⟨w1, hw1⟩ : ∃ w1, w1 = W.alloc (.cells #[.int .i64 kd, .string X, .slice A2 na c2] 43 (0, 0)) := ⟨_, rfl⟩
  rw [← hw1] at HX HK HT
  have HW1 := Aside0.mk hw1
  have r0 : w1.cell? ⟨W.heap.size, 0, none⟩ = some (.int .i64 kd) := blk_cell HX.out 0
  have r1 : w1.cell? ⟨W.heap.size, 1, none⟩ = some (.string X) := blk_cell HX.out 1
  have r2 : w1.cell? ⟨W.heap.size, 2, none⟩ = some (.slice A2 na c2) := blk_cell HX.out 2
  clear hw1
  by_cases k1 : kd = 1
  · have HE := Aside0.mk (show ∀ j, goes g s.data.toList i j = fits g.text s.data.toList i j from fun j => goes_k1 (by rw [← HKD.out, k1]) _ _ _)
    subst k1
    go_enter Tryd.func75, Tryd.ntmps75
    go_upto_region 1 with (fail)
    rw [← HW1.out]
    go_wp2_with (fail)
    refine (ref_put X s HT.out hs htz i hi).mono ?_
    rintro e w2 ⟨rfl, ht2, hk2⟩
    have HT2 := Aside0.mk ht2
    have HK2 := Aside0.mk hk2
    clear ht2 hk2
    go_wp2_with (fail)
    go_end0
    exact ⟨rfl, by rw [show goes g s.data.toList i = fits X.data.toList s.data.toList i from funext (fun j => by rw [HE.out, HTX.out])]; exact HT2.out, HK.out.trans HK2.out (fun _ _ h => h) (fun _ _ h => h)⟩
  by_cases k2 : kd = 2
  · have HE := Aside0.mk (show ∀ j, goes g s.data.toList i j = decide (i ≤ j ∧ j ≤ s.size) from fun j => by rw [goes_k2 (by rw [← HKD.out, k2]), hsd.out])
    subst k2
    go_enter Tryd.func75, Tryd.ntmps75
    go_upto_region 1 with (fail)
    rw [← HW1.out]
    go_upto_region 4 with (fail)
    clear r0 r1 r2
    go_loopg [8] (s.size + 1 - i) (fun kq v8 w' => ∃ k : Nat, v8 = .int .i64 (k : Int) ∧ k + kq = s.size + 1 ∧ i ≤ k ∧ Aside0 (TAt w0 w' gT (orT T (fun j => decide (i ≤ j ∧ j < k))) (s.size + 1)) ∧ Aside0 (Keep w1 w' (fun k => k = gT)))
    case atStart => exact ⟨i, rfl, by omega, Nat.le_refl _, ⟨by rw [orT_none (fun j => decide_eq_false (by omega))]; exact HT.out⟩, ⟨Keep.refl _ _⟩⟩
    case round =>
      obtain ⟨k, rfl, hkq, hik, HTr, HKr⟩ := hrel
      cases gk with
      | succ q1 =>
        have hks : k ≤ s.size := by omega
        have d1 : decide ((k : Int) ≤ (s.size : Int)) = true := decide_eq_true (by omega)
        have d1n : decide (k ≤ s.size) = true := decide_eq_true hks
        obtain ⟨b, c2'⟩ := HTr.out.cell (a := k) (by omega)
        have f2 : wr.frozen? ⟨gT, k, none⟩ = false := blk_frozen HTr.out.blk k
        have q3 : ((k : Int) < ((s.size + 1 : Nat) : Int)) = True := eq_true (by omega)
        have q4 : ((k : Int) < (s.size : Int) + 1) = True := eq_true (by omega)
        have E9 := Aside0.mk (show k + 1 + q1 = s.size + 1 by omega)
        have HT2 := Aside0.mk (show TAt w0 (wr.setCell ⟨gT, k, none⟩ (.bool true)) gT (orT T (fun j => decide (i ≤ j ∧ j < k + 1))) (s.size + 1) from by
          have := HTr.out.put k
          rw [orT_orT] at this
          rw [orT_congr (f := fun j => decide (i ≤ j ∧ j < k + 1)) (g := fun j => decide (i ≤ j ∧ j < k) || j == k) (fun j _ => by
            rw [Bool.eq_iff_iff, Bool.or_eq_true, decide_eq_true_eq, decide_eq_true_eq, beq_iff_eq]
            omega)]
          exact this)
        have HK2 := Aside0.mk (HKr.out.set ⟨gT, k, none⟩ (.bool true) (.inl rfl))
        have hik2 := Aside0.mk (show i ≤ k + 1 by omega)
        clear hkq
        go_wp2_with (fail)
        go_roundg q1
        case rel => exact ⟨k + 1, by go_num, E9.out, hik2.out, HT2, HK2⟩
        case measure => omega
      | zero =>
        have hk : k = s.size + 1 := by omega
        have d1 : decide ((k : Int) ≤ (s.size : Int)) = false := decide_eq_false (by omega)
        have d1n : decide (k ≤ s.size) = false := decide_eq_false (by omega)
        have HTe := Aside0.mk (show TAt w0 wr gT (orT T (goes g s.data.toList i)) (s.size + 1) from by
          rw [orT_congr (f := goes g s.data.toList i) (g := fun j => decide (i ≤ j ∧ j < k)) (fun j _ => by rw [HE.out, Bool.eq_iff_iff, decide_eq_true_eq, decide_eq_true_eq]; omega)]
          exact HTr.out)
        clear hkq hk
        go_wp2_with (fail)
        go_end0
        exact ⟨rfl, HTe.out, HK.out.trans HKr.out (fun _ _ h => h) (fun _ _ h => h)⟩
  by_cases k3 : kd = 3
  · have HE := Aside0.mk (show ∀ j, goes g s.data.toList i j = decide (i < s.size ∧ j = i + 1) from fun j => by rw [goes_k3 (by rw [← HKD.out, k3]), hsd.out])
    subst k3
    by_cases his : i < s.size
    · have d1 : decide ((i : Int) < (s.size : Int)) = true := decide_eq_true (by omega)
      have d1n : decide (i < s.size) = true := decide_eq_true his
      obtain ⟨b, c2'⟩ := HT.out.cell (a := i + 1) (by omega)
      have f2 : w1.frozen? ⟨gT, i + 1, none⟩ = false := blk_frozen HT.out.blk (i + 1)
      obtain ⟨k, hk⟩ : ∃ k, k = i + 1 := ⟨_, rfl⟩
      have he : (i : Int) + 1 = (k : Int) := by omega
      have hks : k < s.size + 1 := by omega
      have HE2 := Aside0.mk (show orT T (fun j => j == k) = orT T (goes g s.data.toList i) from orT_congr (fun j _ => by rw [HE.out, Bool.eq_iff_iff, beq_iff_eq, decide_eq_true_eq]; omega))
      rw [← hk] at c2' f2
      clear hk his
      go_enter Tryd.func75, Tryd.ntmps75
      go_upto_region 1 with (fail)
      rw [← HW1.out]
      go_wp2_with (fail)
      go_end0
      exact ⟨rfl, by rw [← HE2.out]; exact HT.out.put k, HK.out.set _ _ (.inl rfl)⟩
    · have d1 : decide ((i : Int) < (s.size : Int)) = false := decide_eq_false (by omega)
      have d1n : decide (i < s.size) = false := decide_eq_false his
      have HE2 := Aside0.mk (show orT T (goes g s.data.toList i) = T from orT_none (fun j => by rw [HE.out]; exact decide_eq_false (fun q => his q.1)))
      clear his
      go_enter Tryd.func75, Tryd.ntmps75
      go_upto_region 1 with (fail)
      rw [← HW1.out]
      go_wp2_with (fail)
      go_end0
      exact ⟨rfl, by rw [HE2.out]; exact HT.out, HK.out⟩
  by_cases k4 : kd = 4
  · have HE := Aside0.mk (show ∀ j, goes g s.data.toList i j = (decide (i < s.size ∧ j = i + 1) && (match s.data.toList[i]? with | some c => g.text.contains c | none => false)) from fun j => by rw [goes_k4 (by rw [← HKD.out, k4]), hsd.out])
    subst k4
    by_cases his : i < s.size
    · have d1 : decide ((i : Int) < (s.size : Int)) = true := decide_eq_true (by omega)
      have d1n : decide (i < s.size) = true := decide_eq_true his
      obtain ⟨c, hc⟩ := get_lt (s := s) (i := i) his
      have hcb := get_byte hc
      have HC := Aside0.mk hc
      have pk0 : (0 ≤ (i : Int)) = True := eq_true (by omega)
      have pk1 : ((i : Int) < (s.size : Int)) = True := eq_true (by omega)
      obtain ⟨bb, hbb⟩ : ∃ bb, bb = g.text.contains c := ⟨_, rfl⟩
      have HE3 := Aside0.mk (show ∀ j, goes g s.data.toList i j = (decide (j = i + 1) && bb) from fun j => by
        rw [HE.out, HC.out, hbb]
        refine congrArg (· && _) ?_
        rw [Bool.eq_iff_iff, decide_eq_true_eq, decide_eq_true_eq]
        omega)
      have cq : ∀ (n : Nat), Calls Tryd.prog 97 #[.string X, .int .u8 (c.toNat : Int)] (w1.drewN n) fun e w'' => e = .returned (.bool bb) ∧ ∃ m, w'' = w1.drewN m := fun n => by
        refine (ref_has X c (by omega) _).mono ?_
        rintro e w' ⟨rfl, hd⟩
        rw [HTX.out, hbb]
        exact ⟨rfl, n + hd.out.choose, hd.out.choose_spec.trans (World.drewN_drewN ..)⟩
      obtain ⟨k, hk⟩ : ∃ k, k = i + 1 := ⟨_, rfl⟩
      have he : (i : Int) + 1 = (k : Int) := by omega
      have hks : k < s.size + 1 := by omega
      obtain ⟨b, c2'⟩ := HT.out.cell (a := k) (by omega)
      have f2 : w1.frozen? ⟨gT, k, none⟩ = false := blk_frozen HT.out.blk k
      have c3 : ∀ n, (w1.drewN n).cell? ⟨gT, k, none⟩ = some (.bool b) := fun n => c2'
      have f3 : ∀ n, (w1.drewN n).frozen? ⟨gT, k, none⟩ = false := fun n => f2
      have HKk := Aside0.mk hk
      clear hk his hc hbb
      cases bb with
      | true =>
        have HE2 := Aside0.mk (show orT T (fun j => j == k) = orT T (goes g s.data.toList i) from orT_congr (fun j _ => by rw [HE3.out, Bool.and_true, Bool.eq_iff_iff, beq_iff_eq, decide_eq_true_eq, HKk.out]))
        go_enter Tryd.func75, Tryd.ntmps75
        go_upto_region 1 with (fail)
        rw [← HW1.out]
        go_wp2_with (fail)
        go_quiet (exact cq _)
        have c4 := c3 nq
        have f4 := f3 nq
        go_wp2_with (fail)
        go_end0
        exact ⟨rfl, by rw [← HE2.out]; exact (HT.out.drewN nq).put k, (HK.out.drewN nq).set _ _ (.inl rfl)⟩
      | false =>
        have HE2 := Aside0.mk (show orT T (goes g s.data.toList i) = T from orT_none (fun j => by rw [HE3.out, Bool.and_false]))
        go_enter Tryd.func75, Tryd.ntmps75
        go_upto_region 1 with (fail)
        rw [← HW1.out]
        go_wp2_with (fail)
        go_quiet (exact cq _)
        go_wp2_with (fail)
        go_end0
        exact ⟨rfl, by rw [HE2.out]; exact HT.out.drewN nq, HK.out.drewN nq⟩
    · have d1 : decide ((i : Int) < (s.size : Int)) = false := decide_eq_false (by omega)
      have d1n : decide (i < s.size) = false := decide_eq_false his
      have HE2 := Aside0.mk (show orT T (goes g s.data.toList i) = T from orT_none (fun j => by rw [HE.out, decide_eq_false (fun q => his q.1), Bool.false_and]))
      clear his
      go_enter Tryd.func75, Tryd.ntmps75
      go_upto_region 1 with (fail)
      rw [← HW1.out]
      go_wp2_with (fail)
      go_quiet (fail)
      go_wp2_with (fail)
      go_end0
      exact ⟨rfl, by rw [HE2.out]; exact HT.out.drewN nq, HK.out.drewN nq⟩
  by_cases k5 : kd = 5
  · have HE := Aside0.mk (show ∀ j, goes g s.data.toList i j = g.alts.any (fun t => fits t s.data.toList i j) from fun j => goes_k5 (by rw [← HKD.out, k5]) _ _ _)
    subst k5
    go_enter Tryd.func75, Tryd.ntmps75
    go_upto_region 1 with (fail)
    rw [← HW1.out]
    go_upto_region 17 with (fail)
    clear r0 r1 r2
    go_loopg [9] na (fun kq v9 w' => ∃ k : Nat, v9 = .int .i64 (k : Int) ∧ k + kq = na ∧ Aside0 (TAt w0 w' gT (orT T (fun j => (g.alts.take k).any (fun t => fits t s.data.toList i j))) (s.size + 1)) ∧ Aside0 (Keep w1 w' (fun k => k = gT)))
    case atStart => exact ⟨0, rfl, by omega, ⟨by rw [show (orT T fun j => (List.take 0 g.alts).any fun t => fits t s.data.toList i j) = T from orT_none (fun j => rfl)]; exact HT.out⟩, ⟨Keep.refl _ _⟩⟩
    case round =>
      obtain ⟨k, rfl, hkq, HTr, HKr⟩ := hrel
      have HXr := Aside0.mk ((HKr.out.block W.heap.size (blk_lt HX.out) (by omega)).trans HX.out)
      have r2 : wr.cell? ⟨W.heap.size, 2, none⟩ = some (.slice A2 na c2) := blk_cell HXr.out 2
      cases gk with
      | succ q1 =>
        have d1 : decide ((k : Int) < (na : Int)) = true := decide_eq_true (by omega)
        have d1n : decide (k < na) = true := decide_eq_true (by omega)
        have hkn : k < na := by omega
        have E9 := Aside0.mk (show k + 1 + q1 = na by omega)
        obtain ⟨a, ha⟩ : ∃ a, g.alts[k]? = some a := ⟨_, List.getElem?_eq_getElem (by rw [← HNA.out]; omega)⟩
        obtain ⟨ad, rfl, q0⟩ := at_str (HG2.out _ HTr.out.below) (k := k) (x := strB a) (by rw [List.getElem?_map, ha]; rfl)
        have hsa := HALB.out a (List.mem_of_getElem? ha)
        have HP := Aside0.mk (ref_put (strB a) s HTr.out hs hsa i hi)
        rw [show (strB a).data.toList = a from rfl] at HP
        have HAk := Aside0.mk ha
        obtain ⟨S, hS⟩ : ∃ S, S = strB a := ⟨_, rfl⟩
        rw [← hS] at HP q0 hsa
        clear ha hS hkq
        go_wp2_with (fail)
        refine (HP.out).mono ?_
        rintro e w2 ⟨rfl, ht2, hk2⟩
        have HT2 := Aside0.mk (show TAt w0 w2 gT (orT T (fun j => (g.alts.take (k + 1)).any (fun t => fits t s.data.toList i j))) (s.size + 1) from by
          rw [orT_orT] at ht2
          rw [orT_congr (f := fun j => (g.alts.take (k + 1)).any (fun t => fits t s.data.toList i j)) (g := fun j => (g.alts.take k).any (fun t => fits t s.data.toList i j) || fits a s.data.toList i j) (fun j _ => any_take HAk.out)]
          exact ht2)
        have HK2 := Aside0.mk (HKr.out.trans hk2 (fun _ _ h => h) (fun _ _ h => h) : Keep w1 w2 (fun k => k = gT))
        clear ht2 hk2
        go_wp2_with (fail)
        go_roundg q1
        case rel => exact ⟨k + 1, by go_num, E9.out, HT2, HK2⟩
        case measure => omega
      | zero =>
        have hk : k = na := by omega
        have d1 : decide ((k : Int) < (na : Int)) = false := decide_eq_false (by omega)
        have d1n : decide (k < na) = false := decide_eq_false (by omega)
        have HTe := Aside0.mk (show TAt w0 wr gT (orT T (goes g s.data.toList i)) (s.size + 1) from by
          rw [orT_congr (f := goes g s.data.toList i) (g := fun j => (g.alts.take k).any (fun t => fits t s.data.toList i j)) (fun j _ => by rw [HE.out, hk, HNA.out, List.take_length])]
          exact HTr.out)
        clear hkq hk
        go_wp2_with (fail)
        go_end0
        exact ⟨rfl, HTe.out, HK.out.trans HKr.out (fun _ _ h => h) (fun _ _ h => h)⟩
  have HE := Aside0.mk (show orT T (goes g s.data.toList i) = T from orT_none (fun j => goes_no (by rw [← HKD.out]; exact ⟨k1, k2, k3, k4, k5⟩) _ _ _))
  have e1 : (kd = 1) = False := eq_false k1
  have e2 : (kd = 2) = False := eq_false k2
  have e3 : (kd = 3) = False := eq_false k3
  have e4 : (kd = 4) = False := eq_false k4
  have e5 : (kd = 5) = False := eq_false k5
  have b1 : (kd == 1) = false := beq_eq_false_iff_ne.2 k1
  have b2 : (kd == 2) = false := beq_eq_false_iff_ne.2 k2
  have b3 : (kd == 3) = false := beq_eq_false_iff_ne.2 k3
  have b4 : (kd == 4) = false := beq_eq_false_iff_ne.2 k4
  have b5 : (kd == 5) = false := beq_eq_false_iff_ne.2 k5
  clear k1 k2 k3 k4 k5
  go_enter Tryd.func75, Tryd.ntmps75
  go_upto_region 1 with (fail)
  rw [← HW1.out]
  go_wp2_with (fail)
  go_end0
  exact ⟨rfl, by rw [HE.out]; exact HT.out, HK.out⟩
end Go.Proofs.YtecfmmalbehcnaaDoor.Q
