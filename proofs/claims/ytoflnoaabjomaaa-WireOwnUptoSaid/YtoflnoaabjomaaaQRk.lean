import Derived.Test.YtoflnoaabjomaaaPureWireSplits
import Derived.Test.YtoflnoaabjomaaaQPk
import Derived.Test.YtoflnoaabjomaaaVObj
import Derived.Lib.Bytes
import Derived.Lib.LazyBuf
import Derived.Outline
namespace Go.Proofs.Ytoflnoaabjomaaa.Q
open Go.RowKit Go.Proofs.YtoflnoaabjomaaaW.PrintWords Go.Proofs.YtoflnoaabjomaaaW.PrintLast Go.Proofs.YtoflnoaabjomaaaW.PrintMore Go.Proofs.YtoflnoaabjomaaaV
set_option linter.unusedVariables false
set_option linter.unusedSimpArgs false

/-- Lines with a line end between. -/
def joinP (L : List ByteArray) : ByteArray × Bool := L.foldl (fun p x => (if p.2 = true then (p.1 ++ (⟨#[10]⟩ : ByteArray)) ++ x else p.1 ++ x, true)) ((⟨#[]⟩ : ByteArray), false)
def joinB (L : List ByteArray) : ByteArray := (joinP L).1
theorem joinP_flag (L : List ByteArray) : (joinP L).2 = decide (0 < L.length) := by
  rcases List.eq_nil_or_concat L with rfl | ⟨r, x, rfl⟩
  · rfl
  · simp [joinP, List.foldl_append]
theorem joinB_snoc (L : List ByteArray) (x : ByteArray) : joinB (L ++ [x]) = if 0 < L.length then (joinB L ++ (⟨#[10]⟩ : ByteArray)) ++ x else joinB L ++ x := by
  have h := joinP_flag L
  unfold joinB joinP
  rw [List.foldl_append]
  show (if (joinP L).2 = true then _ else _) = _
  rw [h]
  simp only [decide_eq_true_eq]
theorem joinB_nil : joinB [] = (⟨#[]⟩ : ByteArray) := rfl
theorem bytesOf_app (a b : ByteArray) : bytesOf (a ++ b) = bytesOf a ++ bytesOf b := by simp [bytesOf]
theorem size_app (a b : ByteArray) : (a ++ b).size = a.size + b.size := by simp
theorem str_bytes (s : ByteArray) : strOfNums (bytesOf s) = s := by
  apply ByteArray.ext
  simp [strOfNums, bytesOf, Function.comp_def]
theorem joinB_take_size (L : List ByteArray) (n : Nat) : (joinB (L.take n)).size ≤ (joinB (L.take (n + 1))).size := by
  by_cases h : n < L.length
  · rw [List.take_succ_eq_append_getElem h, joinB_snoc]
    split <;> simp only [size_app] <;> omega
  · rw [List.take_of_length_le (by omega), List.take_of_length_le (by omega)]; exact Nat.le_refl _
theorem joinB_size_le (L : List ByteArray) (n : Nat) : (joinB (L.take n)).size ≤ (joinB L).size := by
  have h : ∀ d, (joinB (L.take n)).size ≤ (joinB (L.take (n + d))).size := by
    intro d
    induction d with
    | zero => exact Nat.le_refl _
    | succ d ih => exact Nat.le_trans ih (joinB_take_size L (n + d))
  have := h L.length
  rwa [List.take_of_length_le (l := L) (i := n + L.length) (by omega)] at this


theorem cutI_one (l : List Int) : (Pure.cutI l).length = 1 ↔ idx 10 l < 0 := by
  by_cases h : 0 ≤ idx 10 l
  · obtain ⟨h1, h2⟩ := Pure.idx_some l h
    rw [h1, Pure.cutI_at _ _ h2]
    have : 0 < (Pure.cutI (l.drop (idx 10 l + 1).toNat)).length := List.length_pos_iff.2 (Pure.cutI_ne _)
    rw [← h1]
    simp only [List.length_cons]
    omega
  · rw [Pure.cutI_none l (Pure.idx_none l (by omega))]
    simp; omega

theorem Fit_f (s : ByteArray) (hs : s.size ≤ 1048576) (b : Bool) (hb : b = true ↔ ¬ badLine s) : tumblerref05_Fit.f (s.size + 10) s = some b := by
  unfold tumblerref05_Fit.f
  by_cases h0 : s.toList = []
  · rw [if_pos h0]
    have hz : s.size = 0 := by rw [← str_len, h0]; rfl
    have : b = false := by
      cases b with
      | false => rfl
      | true => exact absurd (.inl hz) (hb.1 rfl)
    rw [this]
  · rw [if_neg h0]
    have hz : ¬ s.size = 0 := by
      intro e
      apply h0
      rw [← List.length_eq_zero_iff, str_len]; exact e
    have hl : (bytesOf s).length = s.size := bytesOf_length s
    have hc := Pure.cut_f (bytesOf s) (bytesOf_in s) (by omega) (s.size + 10) (by omega)
    rw [str_bytes] at hc
    rw [hc]
    simp only [Option.bind_some, List.length_map]
    have ew : wrap64 ((s.size : Int) - 1) = (s.size : Int) - 1 := by unfold wrap64; omega
    have h1 := cutI_one (bytesOf s)
    by_cases c : idx 10 (bytesOf s) < 0
    · rw [if_pos (by have := h1.2 c; omega), ew, if_pos (by omega), if_pos (by omega)]
      congr 1
      rw [Bool.eq_iff_iff, hb]
      simp only [bne_iff_ne, ne_eq, badLine]
      constructor
      · intro h; rintro (h | h | h)
        · exact hz h
        · exact absurd h (by assumption)
        · omega
      · intro h e; exact h (.inr (.inl e))
    · rw [if_neg (by intro e; exact c (h1.1 (by omega)))]
      have : b = false := by
        cases b with
        | false => rfl
        | true => exact absurd (.inr (.inr (by omega))) (hb.1 rfl)
      rw [this]

/-- The reference's packer. -/
structure RpAt (w : World) (B g : Nat) (v : Value) (size : Int) (held : List ByteArray) : Prop where
  blk : w.heap[g]? = some (.cells #[.int .i64 size, v] 34 (0, 0))
  row : Kd.R Kd.string 9 w B (fun k => k ≠ g) v held
  ge : B ≤ g
theorem RpAt.keep {w w' : World} {B g : Nat} {v : Value} {size : Int} {held : List ByteArray} {S : Nat → Prop} (h : RpAt w B g v size held) (hk : Keep w w' S) (hg : ¬ S g) (hv : ∀ k, v.ownBlock = some k → ¬ S k) : RpAt w' B g v size held := by
  refine ⟨(hk.block g (blk_lt h.blk) hg).trans h.blk, R_tight h.row fun k e => ⟨hk.block k (R_lt' h.row k e) (hv k e), h.row.1 k e, ?_⟩, h.ge⟩
  obtain ⟨inner, ho⟩ := Kd.R_own h.row
  exact own_base ho k e

set_option maxHeartbeats 800000 in
theorem RBytes {w : World} {B g : Nat} {v : Value} {size : Int} {held : List ByteArray} (h : RpAt w B g v size held) (hsz : (joinB held).size ≤ 4611686018427387904) :
    Calls Try.prog 21 #[.pointer (some ⟨g, 0, none⟩)] w fun e w' => e = .returned (.string (joinB held)) ∧ w = w' := by
  obtain ⟨A, c, hv, hlc, hC⟩ := Kd.R_reads h.row
  subst hv
  have hlen := hC.2.1
  have c1 := blk_cell h.blk 1
  have HC := Aside0.mk hC
  clear h hC
  go_enter Try.func21, Try.ntmps21
  go_wp2
  go_loop [3, 4] (fun s i => ∃ k : Nat, k ≤ held.length ∧ i = .int .i64 k ∧ s = .string (joinB (held.take k))) (fun _ i => held.length - (intOf i).toNat)
  case atStart => exact ⟨0, Nat.zero_le _, rfl, rfl⟩
  case round =>
    obtain ⟨k, hk, rfl, rfl⟩ := hrel
    by_cases hlt : k < held.length
    · obtain ⟨ad, rfl, hcell⟩ := Kd.at_string HC.out (k : Int) (by omega) (by omega)
      rw [Int.toNat_natCast] at hcell
      have e1 : rdOf ByteArray.empty held (k : Int) = held[k] := by unfold rdOf; rw [Int.toNat_natCast, List.getD_eq_getElem?_getD, List.getElem?_eq_getElem hlt]; rfl
      rw [e1] at hcell
      have hs := joinB_snoc (held.take k) held[k]
      rw [← List.take_succ_eq_append_getElem hlt] at hs
      have hz := joinB_size_le held (k + 1)
      obtain ⟨x, hx⟩ : ∃ x, x = held[k] := ⟨_, rfl⟩
      rw [← hx] at hcell hs
      clear hx e1
      obtain ⟨s0, hs0⟩ : ∃ s0, s0 = joinB (held.take k) := ⟨_, rfl⟩
      rw [← hs0] at hs ⊢
      have d1 : decide ((k : Int) < held.length) = true := decide_eq_true (by omega)
      by_cases h0 : 0 < k
      · rw [if_pos (by rw [List.length_take]; omega)] at hs
        rw [hs] at hz
        simp only [size_app] at hz
        have hz' : s0.size + 1 + x.size ≤ 4611686018427387904 := by
          have : (⟨#[10]⟩ : ByteArray).size = 1 := rfl
          omega
        have HS := Aside0.mk hs
        have d2 : decide (0 < (k : Int)) = true := decide_eq_true (by omega)
        clear hs hs0 hz
        go_wp2
        go_round
        case rel => exact ⟨k + 1, by omega, by go_num, by rw [HS.out]⟩
        case measure => simp [intOf]; omega
      · obtain rfl : k = 0 := by omega
        rw [if_neg (by simp)] at hs
        rw [hs] at hz
        simp only [size_app] at hz
        have hz' : s0.size + x.size ≤ 4611686018427387904 := by omega
        have HS := Aside0.mk hs
        have hcell0 : w.cell? ad = some (.string x) := by simpa [Addr.add] using hcell
        clear hs hs0 hz hcell
        go_wp2
        go_round
        case rel => exact ⟨1, by omega, rfl, by rw [HS.out]⟩
        case measure => simp [intOf]; omega
    · have d1 : decide ((k : Int) < held.length) = false := decide_eq_false (by omega)
      have e : held.take k = held := List.take_of_length_le (by omega)
      rw [e]
      clear e
      go_wp2
      go_ret
      exact ⟨rfl, rfl⟩

set_option maxHeartbeats 800000 in
theorem RFlush {w : World} {B g : Nat} {v : Value} {size : Int} {held : List ByteArray} (h : RpAt w B g v size held) (hsz : (joinB held).size ≤ 4611686018427387904) :
    Calls Try.prog 17 #[.pointer (some ⟨g, 0, none⟩)] w fun e w' => e = .returned (.string (joinB held)) ∧ RpAt w' B g (.slice none 0 0) size [] ∧ Keep w w' (fun k => k = g) := by
  have c1 := blk_cell h.blk 1
  have f1 := blk_frozen h.blk 1
  have HM := Aside0.mk h
  clear h
  go_enter Try.func17, Try.ntmps17
  go_wp2_with (first | (go_at_call 21; (with_reducible refine (RBytes HM.out hsz).mono ?_); rintro e w' ⟨rfl, rfl⟩))
  go_ret
  exact ⟨rfl, ⟨blk_put HM.out.blk 1 _ rfl, Kd.R_nil _ _ _ _ _, HM.out.ge⟩, (Keep.refl _ _).set _ _ (.inl rfl)⟩

set_option maxHeartbeats 800000 in
theorem RAdd_bad {w : World} {g : Nat} (s : ByteArray) (hs : s.size ≤ 1048576) (hbad : badLine s) :
    Calls Try.prog 19 #[.pointer (some ⟨g, 0, none⟩), .string s] w fun e w' => e = .returned (.tuple #[.string ⟨#[]⟩, .int .i64 51]) ∧ Below w.heap.size w w' := by
  have HF := Aside0.mk (Fit_f s hs false (by simp [hbad]))
  clear hbad
  go_enter Try.func19, Try.ntmps19
  go_wp2_with (first | (go_at_call 22; (with_reducible refine (tumblerref05_Fit.calls _ s false _ HF.out).mono ?_); rintro e w1 ⟨rfl, hb⟩; have HB := Aside0.mk hb; clear hb))
  go_ret2
  exact ⟨rfl, HB.out⟩

set_option maxHeartbeats 800000 in
theorem RAdd_long {w : World} {B g : Nat} {v : Value} {size : Int} {held : List ByteArray} (h : RpAt w B g v size held) (s : ByteArray) (hs : s.size ≤ 1048576) (hgood : ¬ badLine s) (hlong : size < s.size) :
    Calls Try.prog 19 #[.pointer (some ⟨g, 0, none⟩), .string s] w fun e w' => e = .returned (.tuple #[.string ⟨#[]⟩, .int .i64 2]) ∧ Below w.heap.size w w' := by
  have HF := Aside0.mk (Fit_f s hs true (by simp [hgood]))
  have e4 : decide (size < (s.size : Int)) = true := decide_eq_true hlong
  have HM := Aside0.mk h
  clear hgood hlong h
  go_enter Try.func19, Try.ntmps19
  go_wp2_with (first | (go_at_call 22; (with_reducible refine (tumblerref05_Fit.calls _ s true _ HF.out).mono ?_); rintro e w1 ⟨rfl, hb⟩; have c0 := blk_cell ((hb.block g (blk_lt HM.out.blk)).trans HM.out.blk) 0; have HB := Aside0.mk hb; clear hb))
  go_ret2
  exact ⟨rfl, HB.out⟩

theorem heap_put_new (w : World) (a : Addr) (v : Value) (o : Obj) : ((w.setCell a v).alloc o).heap[w.heap.size]? = some o := by
  have h := heap_alloc_new (w.setCell a v) o
  rwa [show (w.setCell a v).heap.size = w.heap.size by simp] at h

set_option maxHeartbeats 1600000 in
theorem RAdd_full {w : World} {B g : Nat} {v : Value} {size : Int} {held : List ByteArray} (h : RpAt w B g v size held) (s : ByteArray) (hB : B ≤ w.heap.size) (hs : s.size ≤ 1048576) (hgood : ¬ badLine s) (hlong : (s.size : Int) ≤ size)
    (hsz : (joinB held).size ≤ 1048576) (hne : 0 < held.length) (hfit : size < ((joinB held).size : Int) + 1 + s.size) :
    Calls Try.prog 19 #[.pointer (some ⟨g, 0, none⟩), .string s] w fun e w' => ∃ v', e = .returned (.tuple #[.string (joinB held), .int .i64 0]) ∧ RpAt w' B g v' size [s] ∧ Keep w w' (fun k => k = g ∨ some k = v.ownBlock) := by
  have HF := Aside0.mk (Fit_f s hs true (by simp [hgood]))
  have e4 : decide (size < (s.size : Int)) = false := decide_eq_false (by omega)
  have e5 : decide (0 < (held.length : Int)) = true := decide_eq_true (by omega)
  have e5b : decide (0 < held.length) = true := decide_eq_true (by omega)
  have e6 : decide (size < ((joinB held).size : Int) + 1 + s.size) = true := decide_eq_true hfit
  obtain ⟨A, c, hv⟩ := Kd.R_slice h.row
  subst hv
  have HM := Aside0.mk h
  have hgl := blk_lt h.blk
  clear hgood hlong h hne
  go_enter Try.func19, Try.ntmps19
  go_wp2_with (first
    | (go_at_call 22; (with_reducible refine (tumblerref05_Fit.calls _ s true _ HF.out).mono ?_); rintro e w1 ⟨rfl, hb⟩; have hr1 := RpAt.keep HM.out (Keep.of_below (S := fun _ => False) hb) (fun h => h) (fun _ _ h => h); have c0 := blk_cell hr1.blk 0; have c1 := blk_cell hr1.blk 1; have f1 := blk_frozen hr1.blk 1; have hg1 : g < w1.heap.size := blk_lt hr1.blk; have hgn1 : ¬ g = w1.heap.size := (by omega); have HB := Aside0.mk hb; have HR1 := Aside0.mk hr1; clear hb hr1)
    | (go_at_call 21; (with_reducible refine (RBytes HR1.out (by omega)).mono ?_); rintro e w' ⟨rfl, rfl⟩))
  go_ret2
  refine ⟨.slice (some ⟨w1.heap.size, 0, none⟩) 1 1, rfl, ⟨blk_alloc (blk_put HR1.out.blk 1 _ rfl) _, ?_, HM.out.ge⟩, ?_⟩
  · exact R_block (enc := Value.string) (h1 := fun _ => rfl) (xs := [s]) (heap_put_new _ _ _ _) (by have := HB.out.size; omega) (by omega) (by simp)
  · exact ((Keep.of_below HB.out).set _ _ (.inl (.inl rfl))).alloc _

set_option maxHeartbeats 1600000 in
theorem RAdd_more {w : World} {B g : Nat} {v : Value} {size : Int} {held : List ByteArray} (h : RpAt w B g v size held) (s : ByteArray) (hB : B ≤ w.heap.size) (hs : s.size ≤ 1048576) (hgood : ¬ badLine s) (hlong : (s.size : Int) ≤ size)
    (hsz : (joinB held).size ≤ 1048576) (hhl : held.length ≤ 1048576) (hfit : ¬ (0 < held.length ∧ size < ((joinB held).size : Int) + 1 + s.size)) :
    Calls Try.prog 19 #[.pointer (some ⟨g, 0, none⟩), .string s] w fun e w' => ∃ v', e = .returned (.tuple #[.string ⟨#[]⟩, .int .i64 0]) ∧ RpAt w' B g v' size (held ++ [s]) ∧ Keep w w' (fun k => k = g ∨ some k = v.ownBlock) := by
  have HF := Aside0.mk (Fit_f s hs true (by simp [hgood]))
  have e4 : decide (size < (s.size : Int)) = false := decide_eq_false (by omega)
  obtain ⟨A, c, hv⟩ := Kd.R_slice h.row
  subst hv
  have HM := Aside0.mk h
  have hgl := blk_lt h.blk
  have fin : ∀ w', (∃ v', RpAt w' B g v' size (held ++ [s]) ∧ Keep w w' (fun k => k = g ∨ some k = (Value.slice A held.length c).ownBlock)) → True := fun _ _ => trivial
  clear fin
  by_cases hne : 0 < held.length
  · have e5 : decide (0 < (held.length : Int)) = true := decide_eq_true (by omega)
    have e5b : decide (0 < held.length) = true := decide_eq_true (by omega)
    have e6 : decide (size < ((joinB held).size : Int) + 1 + s.size) = false := decide_eq_false (fun h => hfit ⟨hne, h⟩)
    clear hgood hlong h hne hfit
    go_enter Try.func19, Try.ntmps19
    go_wp2_with (first 
      | (go_at_call 22; (with_reducible refine (tumblerref05_Fit.calls _ s true _ HF.out).mono ?_); rintro e w1 ⟨rfl, hb⟩; have hr1 := RpAt.keep HM.out (Keep.of_below (S := fun _ => False) hb) (fun h => h) (fun _ _ h => h); have c0 := blk_cell hr1.blk 0; have c1 := blk_cell hr1.blk 1; have f1 := blk_frozen hr1.blk 1; have hg1 : g < w1.heap.size := blk_lt hr1.blk; have hgn1 : ¬ g = w1.heap.size := (by omega); have HB := Aside0.mk hb; have HR1 := Aside0.mk hr1; clear hb hr1)
      | (go_at_call 21; (with_reducible refine (RBytes HR1.out (by omega)).mono ?_); rintro e w' ⟨rfl, rfl⟩)
      | ((with_reducible refine gate_builtin (b := .append) (xs := #[.tmp 48, .tmp 50]) rfl ?_); at_builtin; refine Kd.R_append Kd.string (w0 := w1) B rfl (.tmp 48) (.tmp 50) 24 9 (.string ⟨#[]⟩) 16 rfl Try.underlying24 info9 rfl (by decide) (by omega) (.slice A held.length c) held s [.string s] (fun k => k ≠ g) (fun _ => False) rfl rfl ?aP (fun _ hk => hk.elim) ?aF ?aO ?aB ?aS ?aL ?_; (case aP => exact rfl); (case aB => exact Below.refl _ _); (case aF => exact (fun k hk => by omega)); (case aO => exact HR1.out.row); (case aS => exact (by have := HB.out.size; omega)); (case aL => omega); intro v2 w2 ho2 _ hg2 hat2; obtain ⟨H2, hH2⟩ : ∃ l : List ByteArray, l = held ++ [s] := ⟨_, rfl⟩; rw [← hH2] at ho2; have NH2 := Aside0.mk hH2; clear hH2; obtain ⟨A2, cp2, ev2⟩ := Kd.R_slice ho2; subst ev2; have b2 := (hg2.block g hg1 (fun e => HR1.out.row.1 g e.symm rfl)).trans HR1.out.blk; have c2 := blk_cell b2 1; have f2 := blk_frozen b2 1; have HO2 := Aside0.mk ho2; have HK2 := Aside0.mk b2; have HG2 := Aside0.mk hg2; clear ho2 hg2 b2 hat2))
    go_ret2
    refine ⟨.slice A2 H2.length cp2, rfl, ⟨blk_put HK2.out 1 _ rfl, ?_, HM.out.ge⟩, ?_⟩
    · rw [← NH2.out]
      exact R_tight HO2.out (fun k e => ⟨Below.heap_setCell _ _ _ _ (HO2.out.1 k e), HO2.out.1 k e, by obtain ⟨inner, ho⟩ := Kd.R_own HO2.out; exact own_base ho k e⟩)
    · exact ((Keep.of_below HB.out).grown HG2.out (fun k e => .inl (.inr e.symm))).set _ _ (.inl (.inl rfl))
  · have hz : held.length = 0 := by omega
    have e5 : decide (0 < (held.length : Int)) = false := decide_eq_false (by omega)
    have e5b : decide (0 < held.length) = false := decide_eq_false (by omega)
    clear hgood hlong h hne hfit hz
    go_enter Try.func19, Try.ntmps19
    go_wp2_with (first 
      | (go_at_call 22; (with_reducible refine (tumblerref05_Fit.calls _ s true _ HF.out).mono ?_); rintro e w1 ⟨rfl, hb⟩; have hr1 := RpAt.keep HM.out (Keep.of_below (S := fun _ => False) hb) (fun h => h) (fun _ _ h => h); have c0 := blk_cell hr1.blk 0; have c1 := blk_cell hr1.blk 1; have f1 := blk_frozen hr1.blk 1; have hg1 : g < w1.heap.size := blk_lt hr1.blk; have hgn1 : ¬ g = w1.heap.size := (by omega); have HB := Aside0.mk hb; have HR1 := Aside0.mk hr1; clear hb hr1)
      | (go_at_call 21; (with_reducible refine (RBytes HR1.out (by omega)).mono ?_); rintro e w' ⟨rfl, rfl⟩)
      | ((with_reducible refine gate_builtin (b := .append) (xs := #[.tmp 48, .tmp 50]) rfl ?_); at_builtin; refine Kd.R_append Kd.string (w0 := w1) B rfl (.tmp 48) (.tmp 50) 24 9 (.string ⟨#[]⟩) 16 rfl Try.underlying24 info9 rfl (by decide) (by omega) (.slice A held.length c) held s [.string s] (fun k => k ≠ g) (fun _ => False) rfl rfl ?aP (fun _ hk => hk.elim) ?aF ?aO ?aB ?aS ?aL ?_; (case aP => exact rfl); (case aB => exact Below.refl _ _); (case aF => exact (fun k hk => by omega)); (case aO => exact HR1.out.row); (case aS => exact (by have := HB.out.size; omega)); (case aL => omega); intro v2 w2 ho2 _ hg2 hat2; obtain ⟨H2, hH2⟩ : ∃ l : List ByteArray, l = held ++ [s] := ⟨_, rfl⟩; rw [← hH2] at ho2; have NH2 := Aside0.mk hH2; clear hH2; obtain ⟨A2, cp2, ev2⟩ := Kd.R_slice ho2; subst ev2; have b2 := (hg2.block g hg1 (fun e => HR1.out.row.1 g e.symm rfl)).trans HR1.out.blk; have c2 := blk_cell b2 1; have f2 := blk_frozen b2 1; have HO2 := Aside0.mk ho2; have HK2 := Aside0.mk b2; have HG2 := Aside0.mk hg2; clear ho2 hg2 b2 hat2))
    go_ret2
    refine ⟨.slice A2 H2.length cp2, rfl, ⟨blk_put HK2.out 1 _ rfl, ?_, HM.out.ge⟩, ?_⟩
    · rw [← NH2.out]
      exact R_tight HO2.out (fun k e => ⟨Below.heap_setCell _ _ _ _ (HO2.out.1 k e), HO2.out.1 k e, by obtain ⟨inner, ho⟩ := Kd.R_own HO2.out; exact own_base ho k e⟩)
    · exact ((Keep.of_below HB.out).grown HG2.out (fun k e => .inl (.inr e.symm))).set _ _ (.inl (.inl rfl))
end Go.Proofs.Ytoflnoaabjomaaa.Q
