import Derived.Test.YthnihjfdmkfkiaaTSort
namespace Go.Proofs.Ythnihjfdmkfkiaa.Q
open Go.RowKit Go.Proofs.YthnihjfdmkfkiaaW.PrintWords Go.Proofs.YthnihjfdmkfkiaaW.PrintLast Go.Proofs.YthnihjfdmkfkiaaW.PrintMore Go.Proofs.YthnihjfdmkfkiaaV
set_option linter.unusedVariables false
set_option linter.unusedSimpArgs false

theorem infoInt : (Try.prog.info? 3).map (fun i => (i.zero, i.size, i.bytes)) = some (some (.int .i64 0), 1, 8) := by kernel_rfl
def ltB (v b : Int) : Bool := decide (v < b)
theorem bins1 (v b : Int) (g : Nat) (w : World) (hc : w.cell? ⟨g, 0, none⟩ = some (.int .i64 v)) : Calls Try.prog 51 #[.int .i64 b, .pointer (some ⟨g, 0, none⟩)] w fun e w' => e = .returned (.bool (ltB v b)) ∧ w = w' := by
  unfold ltB
  go_enter Try.func51, Try.ntmps51
  go_wp2
  go_ret
  exact ⟨rfl, rfl⟩
set_option maxHeartbeats 1600000 in
theorem index_lt {w : World} {A : Option Addr} {c : Nat} {l : List Int} {v : Int} {g : Nat} (h : Kd.C (Kd.int .i64) w A l.length l) (hl : l.length ≤ 1048576) (hg : w.cell? ⟨g, 0, none⟩ = some (.int .i64 v)) :
    Calls Try.prog 50 #[.slice A l.length c, .func (.func 51) #[] #[.pointer (some ⟨g, 0, none⟩)]] w fun e w' => e = .returned (.int .i64 (idxF (ltB v) l)) ∧ w = w' := by
  obtain ⟨r, hr⟩ : ∃ r, r = idxF (ltB v) l := ⟨_, rfl⟩
  rw [← hr]
  have HR := Aside0.mk hr
  have HC := Aside0.mk h
  have HG := Aside0.mk hg
  clear h hr hg
  go_enter Try.func50, Try.ntmps50
  go_wp2_with (fail)
  go_loopg [8] l.length (fun kq v8 w' => ∃ i : Nat, v8 = .int .i64 i ∧ i + kq = l.length ∧ Aside0 (∀ j : Nat, j < i → ∀ y, l[j]? = some y → ltB v y = false) ∧ w' = w)
  case atStart => exact ⟨0, rfl, by omega, ⟨fun j hj => by omega⟩, rfl⟩
  case round =>
    obtain ⟨i, rfl, hik, HN, rfl⟩ := hrel
    cases gk with
    | zero =>
      obtain rfl : i = l.length := by omega
      have d1 : decide (l.length < l.length) = false := decide_eq_false (by omega)
      have E := Aside0.mk (show r = -1 by rw [HR.out]; exact idxF_none (fun j x hx => HN.out j (List.getElem?_eq_some_iff.1 hx).1 x hx))
      go_wp2_with (fail)
      go_ret
      rw [E.out]
      exact ⟨rfl, rfl⟩
    | succ k1 =>
      have hlt : i < l.length := by omega
      have d1 : decide (i < l.length) = true := decide_eq_true hlt
      obtain ⟨ad, hA, hc⟩ := Kd.at_int HC.out (i : Int) (by omega) (by omega)
      obtain ⟨x, hx⟩ : ∃ x, x = l[i] := ⟨_, rfl⟩
      have hx2 : l[i]? = some x := by rw [hx]; exact List.getElem?_eq_getElem hlt
      rw [show rd l (i : Int) = x by unfold rd; rw [Int.toNat_natCast, hx]; simp [List.getD_eq_getElem?_getD, hlt]] at hc
      rw [Int.toNat_natCast] at hc
      subst hA
      obtain ⟨b, hb⟩ : ∃ b, b = ltB v x := ⟨_, rfl⟩
      have HS := Aside0.mk (bins1 v x g wr HG.out)
      rw [← hb] at HS
      cases b with
      | true =>
        have E := Aside0.mk (show r = (i : Int) by rw [HR.out]; exact idxF_some hx2 hb.symm HN.out)
        clear hx hx2 hb
        go_wp2_with (first | (go_at_call 51; (with_reducible refine (HS.out).mono ?_); rintro e w1 ⟨rfl, rfl⟩))
        go_ret
        rw [E.out]
        exact ⟨rfl, rfl⟩
      | false =>
        have HN2 := Aside0.mk (show ∀ j : Nat, j < i + 1 → ∀ y, l[j]? = some y → ltB v y = false from fun j hj y hy => by
          by_cases e : j = i
          · subst e; rw [hx2] at hy; injection hy with hy; subst hy; exact hb.symm
          · exact HN.out j (by omega) y hy)
        clear hx hx2 hb HN
        go_wp2_with (first | (go_at_call 51; (with_reducible refine (HS.out).mono ?_); rintro e w1 ⟨rfl, rfl⟩))
        go_roundg k1
        case rel => exact ⟨i + 1, by go_num, by omega, HN2, rfl⟩
        case measure => omega
/-- The bin of a sample: the first bound above it, or the last bin. -/
def binOf (bs : List Int) (v : Int) : Nat := (bs.findIdx? (ltB v)).getD bs.length
theorem binOf_le (bs : List Int) (v : Int) : binOf bs v ≤ bs.length := by
  unfold binOf
  cases h : bs.findIdx? (ltB v) with
  | none => exact Nat.le_refl _
  | some i => have := (List.findIdx?_eq_some_iff_getElem.1 h).1; exact Nat.le_of_lt this
/-- How many in each bin. -/
def counts (bs l : List Int) : List Int := (List.range (bs.length + 1)).map (fun k => ((l.countP (fun v => binOf bs v == k) : Nat) : Int))
theorem counts_len (bs l : List Int) : (counts bs l).length = bs.length + 1 := by simp [counts]
theorem counts_nil (bs : List Int) : counts bs [] = List.replicate (bs.length + 1) 0 := by
  apply List.ext_getElem?
  intro j
  simp only [counts, List.getElem?_map, List.getElem?_replicate, List.countP_nil]
  by_cases h : j < bs.length + 1
  · simp [h]
  · simp [h]
theorem counts_get (bs l : List Int) (k : Nat) (hk : k ≤ bs.length) : (counts bs l)[k]? = some ((l.countP (fun v => binOf bs v == k) : Nat) : Int) := by
  simp [counts, List.getElem?_range (show k < bs.length + 1 by omega)]
theorem counts_snoc (bs l : List Int) (v : Int) : counts bs (l ++ [v]) = (counts bs l).set (binOf bs v) (rd (counts bs l) (binOf bs v) + 1) := by
  apply List.ext_getElem?
  intro j
  by_cases h : j ≤ bs.length
  · rw [counts_get _ _ j h, List.getElem?_set]
    have hb := binOf_le bs v
    by_cases e : binOf bs v = j
    · subst e
      rw [if_pos rfl, if_pos (by rw [counts_len]; omega), List.countP_append]
      have := counts_get bs l (binOf bs v) hb
      unfold rd
      rw [Int.toNat_natCast, List.getD_eq_getElem?_getD, this]
      simp
    · rw [if_neg e, counts_get _ _ j h, List.countP_append]
      simp [List.countP_cons, e]
  · rw [List.getElem?_eq_none (by rw [counts_len]; omega), List.getElem?_eq_none (by rw [List.length_set, counts_len]; omega)]
theorem counts_le (bs l : List Int) (k : Nat) (hk : k ≤ bs.length) : 0 ≤ rd (counts bs l) k ∧ rd (counts bs l) k ≤ l.length := by
  unfold rd
  rw [Int.toNat_natCast, List.getD_eq_getElem?_getD, counts_get bs l k hk]
  have := List.countP_le_length (p := fun v => binOf bs v == k) (l := l)
  simp only [Option.getD_some]
  omega
def riseB (bs : List Int) : Prop := 1 ≤ bs.length ∧ bs.length ≤ 32 ∧ 0 ≤ rd bs 0 ∧ ∀ j : Nat, j + 1 < bs.length → rd bs j < rd bs (j + 1 : Nat)
theorem V_in {w : World} {A : Option Addr} {c : Nat} {l : List Int} (h : Kd.C (Kd.int .i64) w A l.length l) (hc : l.length ≤ c) : Kd.V (Kd.int .i64) 2 w w.heap.size (fun k => k < w.heap.size) (.slice A l.length c) l := Kd.V_mk hc (Kd.C_F (Kd.heap_int _) h)
theorem cell_rd {w : World} {A : Option Addr} {l : List Int} (h : Kd.C (Kd.int .i64) w A l.length l) {i : Nat} (hi : i < l.length) : ∃ ad, A = some ad ∧ w.cell? (ad.add i) = some (.int .i64 (rd l (i : Nat))) := by
  obtain ⟨ad, hA, hc⟩ := Kd.at_int h (i : Int) (by omega) (by omega)
  rw [Int.toNat_natCast] at hc
  exact ⟨ad, hA, hc⟩
theorem blk_lt_of {w : World} {B g n c : Nat} {e : Nat} {ok : Nat → Prop} {xs : List Int} (h : Kd.R (Kd.int .i64) e w B ok (.slice (some ⟨g, 0, none⟩) n c) xs) : g < w.heap.size := Kd.R_lt h g (by simp [Value.ownBlock])
/-- The bounds' test. -/
def bnd (bs : List Int) : Prop := riseB bs
theorem bins_not {w : World} {A : Option Addr} {c : Nat} {l : List Int} {A1 : Option Addr} {c1 : Nat} {bs : List Int} (h : Kd.C (Kd.int .i64) w A l.length l) (hl : l.length ≤ 1048576) (hs : ¬ ∀ x ∈ l, smp x) :
    Calls Try.prog 23 #[.slice A l.length c, .slice A1 bs.length c1] w fun e w' => e = .returned (.tuple #[.slice none 0 0, .int .i64 93]) ∧ w = w' := by
  have HN := Aside0.mk (sorted_not (c := c) h hl hs)
  clear h hs
  go_enter Try.func23, Try.ntmps23
  go_wp2_with (first | (go_at_call 29; (with_reducible refine (HN.out).mono ?_); rintro e w1 ⟨rfl, rfl⟩))
  go_ret2
  exact ⟨rfl, rfl⟩
set_option maxHeartbeats 6400000 in
set_option maxRecDepth 8000 in
theorem timer_Bins (HM : MergeOk) {w : World} {A : Option Addr} {c : Nat} {l : List Int} {A1 : Option Addr} {c1 : Nat} {bs : List Int} (h : Kd.C (Kd.int .i64) w A l.length l) (hc : l.length ≤ c) (hl : l.length ≤ 1048576) (hs : ∀ x ∈ l, smp x)
    (h1 : Kd.C (Kd.int .i64) w A1 bs.length bs) (hl1 : bs.length ≤ 1048576) (R : List Int) (E : Int) (hr : (riseB bs ∧ R = counts bs l ∧ E = 0) ∨ (¬ riseB bs ∧ R = [] ∧ E = 92)) :
    Calls Try.prog 23 #[.slice A l.length c, .slice A1 bs.length c1] w fun e w' => ∃ v, e = .returned (.tuple #[v, .int .i64 E]) ∧ Kd.R (Kd.int .i64) 3 w' w.heap.size (fun k => w.heap.size ≤ k) v R ∧ Below w.heap.size w w' := by
  have HST := Aside0.mk (timer_sorted HM (V_in h hc) hl hs)
  have HC0 := Aside0.mk h
  have HC1 := Aside0.mk h1
  have BAD : ¬ riseB bs → R = [] ∧ E = 92 := fun hn => by
    rcases hr with q | q
    · exact (hn q.1).elim
    · exact q.2
  have HBAD := Aside0.mk BAD
  have HR := Aside0.mk hr
  clear h h1 hs HM hc BAD hr
  by_cases g0 : bs.length = 0
  · have d0 : ((bs.length : Int) == 0) = true := beq_iff_eq.mpr (by omega)
    obtain ⟨rfl, rfl⟩ := HBAD.out (fun q => by have := q.1; omega)
    clear g0
    go_enter Try.func23, Try.ntmps23
    go_wp2_with (first | (go_at_call 29; (with_reducible refine (HST.out).mono ?_); rintro e w1 ⟨v, rfl, -, hb⟩; have HB1 := Aside0.mk hb; clear hb))
    go_ret2
    exact ⟨_, rfl, Kd.R_nil _ _ _ _ _, HB1.out⟩
  have d0 : ((bs.length : Int) == 0) = false := beq_eq_false_iff_ne.mpr (by omega)
  by_cases g1 : 32 < bs.length
  · have d1 : decide ((32 : Int) < (bs.length : Int)) = true := decide_eq_true (by omega)
    obtain ⟨rfl, rfl⟩ := HBAD.out (fun q => by have := q.2.1; omega)
    clear g0 g1
    go_enter Try.func23, Try.ntmps23
    go_wp2_with (first | (go_at_call 29; (with_reducible refine (HST.out).mono ?_); rintro e w1 ⟨v, rfl, -, hb⟩; have HB1 := Aside0.mk hb; clear hb))
    go_ret2
    exact ⟨_, rfl, Kd.R_nil _ _ _ _ _, HB1.out⟩
  have d1 : decide ((32 : Int) < (bs.length : Int)) = false := decide_eq_false (by omega)
  have hpos : 0 < bs.length := by omega
  have hb32 : bs.length ≤ 32 := by omega
  obtain ⟨ad, hA, c0⟩ := cell_rd HC1.out hpos
  subst hA
  obtain ⟨f0, hf0⟩ : ∃ x, x = rd bs ((0 : Nat) : Int) := ⟨_, rfl⟩
  rw [← hf0] at c0
  have c0' : w.cell? ad = some (.int .i64 f0) := by have := c0; rwa [show ad.add 0 = ad by simp [Addr.add]] at this
  have C0 := Aside0.mk c0
  have HF0 := Aside0.mk hf0
  clear c0 c0' hf0 g0 g1
  by_cases g2 : f0 < 0
  · have d2 : decide (f0 < 0) = true := decide_eq_true g2
    obtain ⟨rfl, rfl⟩ := HBAD.out (fun q => by have := q.2.2.1; have e := HF0.out; rw [Int.natCast_zero] at e; omega)
    clear g2
    go_enter Try.func23, Try.ntmps23
    go_wp2_with (first | (go_at_call 29; (with_reducible refine (HST.out).mono ?_); rintro e w1 ⟨v, rfl, -, hb⟩; have HB1 := Aside0.mk hb; have k0 := pw_cell_below hb C0.out; have k1 : w1.cell? ad = some (.int .i64 f0) := (by rw [show ad.add 0 = ad by simp [Addr.add]] at k0; exact k0); clear hb))
    go_ret2
    exact ⟨_, rfl, Kd.R_nil _ _ _ _ _, HB1.out⟩
  have d2 : decide (f0 < 0) = false := decide_eq_false g2
  go_enter Try.func23, Try.ntmps23
  go_wp2_with (first | (go_at_call 29; (with_reducible refine (HST.out).mono ?_); rintro e w1 ⟨v, rfl, -, hb⟩; have HB1 := Aside0.mk hb; have k0 := pw_cell_below hb C0.out; have k1 : w1.cell? ad = some (.int .i64 f0) := (by rw [show ad.add 0 = ad by simp [Addr.add]] at k0; exact k0); clear hb))
  go_loopg [37] bs.length (fun kq v37 w' => ∃ i : Nat, v37 = .int .i64 i ∧ i + kq = bs.length ∧ 0 < kq ∧ Aside0 (∀ j : Nat, j < i → rd bs j < rd bs (j + 1 : Nat)) ∧ Aside0 (Below w.heap.size w w'))
  case atStart => exact ⟨0, rfl, by omega, hpos, ⟨fun j hj => by omega⟩, HB1⟩
  case round =>
    clear HB1 k0 k1
    obtain ⟨i, rfl, hik, hk0, HJ, NB⟩ := hrel
    by_cases hlt : i + 1 < bs.length
    · have e1 : decide ((i : Int) < (bs.length : Int) - 1) = true := decide_eq_true (by omega)
      obtain ⟨ad', hA, ci⟩ := cell_rd (Kd.C_below HC1.out NB.out) (show i < bs.length by omega)
      injection hA with hA
      subst hA
      obtain ⟨ad', hA, cj⟩ := cell_rd (Kd.C_below HC1.out NB.out) hlt
      injection hA with hA
      subst hA
      obtain ⟨bi, hbi⟩ : ∃ x, x = rd bs (i : Nat) := ⟨_, rfl⟩
      obtain ⟨bj, hbj⟩ : ∃ x, x = rd bs (i + 1 : Nat) := ⟨_, rfl⟩
      rw [← hbi] at ci
      rw [← hbj] at cj
      rw [show ad.add (i + 1) = ⟨ad.block, ad.off + (i + 1), none⟩ by unfold Addr.add; simp] at cj
      have i0 : (0 : Int) ≤ (i : Int) := by omega
      have i1 : (i : Int) < (bs.length : Int) := by omega
      have i2 : (0 : Int) ≤ (i : Int) + 1 := by omega
      have i3 : (i : Int) + 1 < (bs.length : Int) := by omega
      have i4 : IntKind.i64.wrap ((i : Int) + 1) = (i : Int) + 1 := IntWalk.i64_in _ (by omega)
      have i5 : ((i : Int) + 1).toNat = i + 1 := by omega
      have HBI := Aside0.mk (And.intro hbi hbj)
      clear hbi hbj
      by_cases hbb : bj ≤ bi
      · have e2 : decide (bj ≤ bi) = true := decide_eq_true hbb
        obtain ⟨rfl, rfl⟩ := HBAD.out (fun q => by
          have := q.2.2.2 i hlt
          rw [← HBI.out.1, ← HBI.out.2] at this
          omega)
        clear hbb
        go_upto_region 9 with (fail)
        go_quiet (fail)
        go_wp2_with (fail)
        go_ret2
        exact ⟨_, rfl, Kd.R_nil _ _ _ _ _, pw_below_drewN NB.out _⟩
      · have e2 : decide (bj ≤ bi) = false := decide_eq_false hbb
        have HJ2 := Aside0.mk (show ∀ j : Nat, j < i + 1 → rd bs j < rd bs (j + 1 : Nat) from fun j hj => by
          by_cases e : j = i
          · subst e
            rw [← HBI.out.1, ← HBI.out.2]
            omega
          · exact HJ.out j (by omega))
        clear hbb
        go_upto_region 9 with (fail)
        go_quiet (fail)
        go_wp2_with (fail)
        go_roundg (gk - 1)
        case rel => exact ⟨i + 1, by go_num, by omega, by omega, HJ2, ⟨pw_below_drewN NB.out _⟩⟩
        case measure => omega
    · have e1 : decide ((i : Int) < (bs.length : Int) - 1) = false := decide_eq_false (by omega)
      have RISE : riseB bs := ⟨hpos, hb32, by have e := HF0.out; rw [Int.natCast_zero] at e; omega, fun j hj => HJ.out j (by omega)⟩
      obtain ⟨rfl, rfl⟩ : R = counts bs l ∧ E = 0 := by
        rcases HR.out with q | q
        · exact q.2
        · exact (q.1 RISE).elim
      clear RISE
      obtain ⟨wo, hwo⟩ : ∃ a, a = wr := ⟨_, rfl⟩
      subst hwo
      go_wp2_with (first
        | ((with_reducible refine gate_dst (N := 54) rfl ?_); refine Kd.R_make (Kd.int .i64) (w0 := w) w.heap.size 3 rfl (N := 54) rfl 47 _ _ rfl ((bs.length : Int) + 1) rfl rfl Try.underlying47 (.int .i64 0) 8 infoInt rfl (by decide) (by omega) (0 : Int) (ok := fun k => w.heap.size ≤ k) (okp := fun _ => False) rfl (fun _ hk => hk.elim) NB.out.size (by omega) (by omega) NB.out NB.out.size ?_; intro v1 w2 hr hb hg hat; obtain ⟨A2, c2, e2⟩ := Kd.R_slice hr; rw [List.length_replicate, show ((bs.length : Int) + 1).toNat = bs.length + 1 by omega] at e2; subst e2; rw [show ((bs.length : Int) + 1).toNat = bs.length + 1 by omega, ← counts_nil] at hr; have HR2 := Aside0.mk hr; have HB2 := Aside0.mk hb; clear hr hb hg hat))
      obtain ⟨go_, cap, e, hgB, hgl, -⟩ := Kd.R_form HR2.out (by rw [counts_len]; omega)
      rw [counts_len] at e
      injection e with e e' e''
      subst e
      subst e''
      go_loopg [57] l.length (fun kq v57 w' => ∃ i : Nat, v57 = .int .i64 i ∧ i + kq = l.length ∧ Aside0 (Kd.R (Kd.int .i64) 3 w' w.heap.size (fun k => w.heap.size ≤ k) (.slice (some ⟨go_, 0, none⟩) (bs.length + 1) c2) (counts bs (l.take i))) ∧ Aside0 (Below w.heap.size w w'))
      case atStart => exact ⟨0, rfl, by omega, HR2, HB2⟩
      case round =>
        clear HR2 HB2
        obtain ⟨i, rfl, hik, HR, NB⟩ := hrel
        cases gk with
        | zero =>
          obtain rfl : i = l.length := by omega
          have d4 : decide (l.length < l.length) = false := decide_eq_false (by omega)
          have HR0 := HR.out
          rw [List.take_length] at HR0
          have HRR := Aside0.mk HR0
          clear HR0
          go_wp2_with (fail)
          go_ret2
          exact ⟨_, rfl, HRR.out, NB.out⟩
        | succ k1 =>
          have hlt : i < l.length := by omega
          have d4 : decide (i < l.length) = true := decide_eq_true hlt
          obtain ⟨ad2, hA2, hc⟩ := cell_rd (Kd.C_below HC0.out NB.out) hlt
          subst hA2
          obtain ⟨x, hx⟩ : ∃ x, x = l[i] := ⟨_, rfl⟩
          rw [show rd l (i : Int) = x by unfold rd; rw [Int.toNat_natCast, hx]; simp [List.getD_eq_getElem?_getD, hlt]] at hc
          have HNX := Aside0.mk (show counts bs (l.take (i + 1)) = (counts bs (l.take i)).set (binOf bs x) (rd (counts bs (l.take i)) (binOf bs x) + 1) by rw [List.take_succ_eq_append_getElem hlt, ← hx, counts_snoc])
          have hbl := binOf_le bs x
          have hcr := counts_le bs (l.take i) (binOf bs x) hbl
          have hti : (l.take i).length ≤ 1048576 := by rw [List.length_take]; omega
          obtain ⟨at_, hat⟩ : ∃ a, a = binOf bs x := ⟨_, rfl⟩
          obtain ⟨cv, hcv⟩ : ∃ a, a = rd (counts bs (l.take i)) (binOf bs x) := ⟨_, rfl⟩
          rw [← hcv, ← hat] at HNX
          rw [← hcv] at hcr
          rw [← hat] at hbl
          have hce := Kd.R_celln 0 HR.out (at_ : Int) (by omega) (by omega)
          rw [Int.toNat_natCast, show rdOf (0 : Int) (counts bs (l.take i)) (at_ : Int) = cv by rw [hcv, hat]; rfl] at hce
          have hlen : go_ < wr.heap.size := blk_lt_of HR.out
          have hrp := Kd.R_putn HR.out (at_ : Int) (cv + 1)
          rw [Int.toNat_natCast] at hrp
          have HRP := Aside0.mk (fun (o : Obj) => Kd.R_alloc hrp o)
          have HBP := Aside0.mk (fun (o : Obj) => (NB.out.setCell (p := ⟨go_, at_, none⟩) hgB (.int .i64 (cv + 1))).alloc (by simp; exact NB.out.size) o)
          clear hrp
          have HIX := Aside0.mk (index_lt (c := c1) (v := x) (g := wr.heap.size) (Kd.C_alloc (Kd.C_below HC1.out NB.out) (.cells #[.int .i64 x] 2 (0, 0))) hl1 (by rw [blk_cell (heap_alloc_new wr _)]; rfl))
          have ce1 : (wr.alloc (.cells #[.int .i64 x] 2 (0, 0))).cell? ⟨go_, at_, none⟩ = some (.int .i64 cv) := by rw [cell_same (Below.heap_alloc _ _ _ hlen)]; exact hce.1
          have ce2 : (wr.alloc (.cells #[.int .i64 x] 2 (0, 0))).frozen? ⟨go_, at_, none⟩ = false := by
            have := hce.2
            unfold World.frozen? at this ⊢
            rw [show (wr.alloc (.cells #[.int .i64 x] 2 (0, 0))).heap[({ block := go_, off := at_, spot := none } : Addr).block]? = wr.heap[({ block := go_, off := at_, spot := none } : Addr).block]? from Below.heap_alloc _ _ _ hlen]
            exact this
          have hcr1 : (0 : Int) ≤ cv := hcr.1
          have hcr2 : cv ≤ 1048576 := by omega
          have i0 : (0 : Int) ≤ (at_ : Int) := by omega
          have i1 : (at_ : Int) < (bs.length : Int) + 1 := by omega
          have i6 : (at_ : Int) < ((bs.length + 1 : Nat) : Int) := by omega
          have HIF := Aside0.mk (show (idxF (ltB x) bs = -1 ∧ at_ = bs.length) ∨ idxF (ltB x) bs = (at_ : Int) by
            rw [hat]
            unfold idxF binOf
            cases bs.findIdx? (ltB x) with
            | none => exact .inl ⟨rfl, rfl⟩
            | some q => exact .inr rfl)
          obtain ⟨ix, hix⟩ : ∃ q, q = idxF (ltB x) bs := ⟨_, rfl⟩
          rw [← hix] at HIX HIF
          have hw : i < 1048576 := by omega
          clear hx hat hcv hce hcr hti hix hbl hl
          rcases HIF.out with ⟨e1, e2⟩ | e1
          · subst e1
            subst e2
            go_wp2_with (first | (go_at_call 50; (with_reducible refine (HIX.out).mono ?_); rintro e w3 ⟨rfl, rfl⟩))
            go_roundg k1
            case rel => exact ⟨i + 1, by go_num, by omega, ⟨by rw [HNX.out]; exact HRP.out _⟩, ⟨HBP.out _⟩⟩
            case measure => omega
          · subst e1
            have d6 : decide ((at_ : Int) < 0) = false := decide_eq_false (by omega)
            go_wp2_with (first | (go_at_call 50; (with_reducible refine (HIX.out).mono ?_); rintro e w3 ⟨rfl, rfl⟩))
            go_roundg k1
            case rel => exact ⟨i + 1, by go_num, by omega, ⟨by rw [HNX.out]; exact HRP.out _⟩, ⟨HBP.out _⟩⟩
            case measure => omega
end Go.Proofs.Ythnihjfdmkfkiaa.Q
