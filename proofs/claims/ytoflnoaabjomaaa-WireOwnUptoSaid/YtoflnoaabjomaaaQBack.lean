import Derived.Test.YtoflnoaabjomaaaQPack
namespace Go.Proofs.Ytoflnoaabjomaaa.Q
open Go.RowKit Go.Proofs.YtoflnoaabjomaaaW.PrintWords Go.Proofs.YtoflnoaabjomaaaW.PrintLast Go.Proofs.YtoflnoaabjomaaaW.PrintMore Go.Proofs.YtoflnoaabjomaaaV
set_option linter.unusedVariables false
set_option linter.unusedSimpArgs false

theorem cutI_snoc (b : List Int) (hb : ∀ x ∈ b, x ≠ 10) : ∀ a : List Int, Pure.cutI (a ++ 10 :: b) = Pure.cutI a ++ [b] := by
  intro a
  induction a with
  | nil =>
    rw [List.nil_append]
    show Pure.cutI ([] ++ 10 :: b) = _
    rw [Pure.cutI_at [] b (by simp), Pure.cutI_none b hb]
    rfl
  | cons x r ih =>
    have hn := Pure.cutI_ne r
    simp only [List.cons_append, Pure.cutI, ih]
    by_cases h : x = 10
    · simp [h]
    · cases hc : Pure.cutI r with
      | nil => exact absurd hc hn
      | cons y t => simp [h]

theorem good_no10 {s : ByteArray} (h : ¬ badLine s) : ∀ x ∈ bytesOf s, x ≠ 10 := Pure.idx_none _ (by simp only [badLine, not_or] at h; omega)
theorem good_bare {s : ByteArray} (h : ¬ badLine s) : bareL (bytesOf s) = bytesOf s := by
  have hp := good_pos h
  simp only [badLine, not_or] at h
  have h1 := Pure.str_bt (bytesOf s) (bytesOf_in s) ((s.size : Int) - 1) (by omega) (by rw [bytesOf_len]; omega)
  rw [str_bytes] at h1
  unfold bareL
  rw [if_neg]
  rintro ⟨_, h2⟩
  rw [bytesOf_len] at h2
  exact h.2.1 (h1.trans h2)

theorem cut_join (L : List ByteArray) (h : ∀ x ∈ L, ¬ badLine x) (hp : 0 < L.length) : Pure.cutI (bytesOf (joinB L)) = L.map bytesOf := by
  have key : ∀ n, n < L.length → Pure.cutI (bytesOf (joinB (L.take (n + 1)))) = (L.take (n + 1)).map bytesOf := by
    intro n
    induction n with
    | zero =>
      intro hn
      rw [List.take_succ_eq_append_getElem (by omega), List.take_zero, List.nil_append, joinB_one, Pure.cutI_none _ (good_no10 (h _ (List.getElem_mem _)))]
      rfl
    | succ n ih =>
      intro hn
      rw [List.take_succ_eq_append_getElem hn, joinB_snoc, if_pos (by rw [List.length_take]; omega), bytesOf_app, bytesOf_app]
      show Pure.cutI (bytesOf (joinB (L.take (n + 1))) ++ [10] ++ _) = _
      rw [List.append_assoc]
      show Pure.cutI (_ ++ 10 :: bytesOf L[n + 1]) = _
      rw [cutI_snoc _ (good_no10 (h _ (List.getElem_mem _))), ih (by omega), List.map_append]
      rfl
  have := key (L.length - 1) (by omega)
  rwa [show L.length - 1 + 1 = L.length by omega, List.take_length] at this

theorem lines_good (L : List ByteArray) (h : ∀ x ∈ L, ¬ badLine x) : Pure.linesI (L.map bytesOf) = L := by
  induction L with
  | nil => rfl
  | cons x r ih =>
    have hx := h x (List.mem_cons_self)
    rw [List.map_cons, Pure.linesI_cons, good_bare hx, if_pos (by rw [bytesOf_len]; exact good_pos hx), ih (fun y hy => h y (List.mem_cons_of_mem _ hy)), str_bytes]
    rfl

theorem split_join (L : List ByteArray) (h : ∀ x ∈ L, ¬ badLine x) (hp : 0 < L.length) (hs : (joinB L).size ≤ 1048576) : wire_Split.f ((joinB L).size + 1) (bytesOf (joinB L)) = some L := by
  rw [Pure.wire_f _ (bytesOf_in _) _ (by rw [bytesOf_len]; omega) (by rw [bytesOf_len]; exact hs)]
  unfold Pure.splitI
  rw [cut_join L h hp, lines_good L h]

theorem R_keep {α : Type} {enc : α → Value} {h1 : ∀ x, (enc x).oneCell' = true} {e : Nat} {w w' : World} {n : Nat} {ok : Nat → Prop} {v : Value} {xs : List α} {S : Nat → Prop}
    (h : (Kd.scalar enc h1).R e w n ok v xs) (hk : Keep w w' S) (hS : ∀ k, v.ownBlock = some k → ¬ S k) : (Kd.scalar enc h1).R e w' n ok v xs := by
  obtain ⟨inner, ho⟩ := Kd.R_own h
  exact R_tight h (fun k e => ⟨hk.block k (own_lt ho k e) (hS k e), h.1 k e, own_base ho k e⟩)
theorem R_ok {α : Type} {enc : α → Value} {h1 : ∀ x, (enc x).oneCell' = true} {e : Nat} {w : World} {n : Nat} {ok ok' : Nat → Prop} {v : Value} {xs : List α}
    (h : (Kd.scalar enc h1).R e w n ok v xs) (hS : ∀ k, v.ownBlock = some k → ok' k) : (Kd.scalar enc h1).R e w n ok' v xs := by
  obtain ⟨inner, ho⟩ := Kd.R_own h
  exact R_tight h (fun k e => ⟨rfl, hS k e, own_base ho k e⟩)

/-- What WireBack holds: a packer, the lines that it took, those that came back. -/
structure BackAt (w : World) (B gp : Nat) (size : Int) (v : Value) (X : List Int) (vt : Value) (took : List ByteArray) (vg : Value) (got : List ByteArray) : Prop where
  p : PkAt w B gp v size X
  t : Kd.R Kd.string 9 w B (fun k => some k ≠ vg.ownBlock) vt took
  g : Kd.R Kd.string 9 w B (fun k => some k ≠ vt.ownBlock) vg got

variable {w w' : World} {B gp : Nat} {size : Int} {v : Value} {X : List Int} {vt : Value} {took : List ByteArray} {vg : Value} {got : List ByteArray}
theorem BackAt.quiet (h : BackAt w B gp size v X vt took vg got) (hb : Below w.heap.size w w') : BackAt w' B gp size v X vt took vg got := by
  have hk := Keep.of_below (S := fun _ => False) hb
  exact ⟨h.p.keep hk (fun h => h) (fun _ _ h => h), R_keep h.t hk (fun _ _ h => h), R_keep h.g hk (fun _ _ h => h)⟩
theorem BackAt.stepP (h : BackAt w B gp size v X vt took vg got) {v' : Value} {X' : List Int} (hp : PkAt w' B gp v' size X') (hk : Keep w w' (fun k => k = gp ∨ some k = v.ownBlock)) : BackAt w' B gp size v' X' vt took vg got := by
  have key : ∀ (u : Value) (xs : List ByteArray) (ok : Nat → Prop), Kd.R Kd.string 9 w B ok u xs → ∀ k, u.ownBlock = some k → ¬ (k = gp ∨ some k = v.ownBlock) := by
    intro u xs ok hu k hv
    obtain ⟨cs, fr, h1⟩ := R_typed hu k hv
    rintro (e | e)
    · exact ne_typed h1 h.p.blk (by decide) e
    · obtain ⟨cs, fr, h2⟩ := R_typed h.p.row k e.symm
      exact ne_typed h1 h2 (by decide) rfl
  exact ⟨hp, R_keep h.t hk (key _ _ _ h.t), R_keep h.g hk (key _ _ _ h.g)⟩
theorem grown_keep (hg : w.grownBy w' vt.ownBlock) : Keep w w' (fun k => some k = vt.ownBlock) := (Keep.refl w _).grown hg (fun k e => .inl e.symm)
theorem PkAt.other (h : PkAt w B gp v size X) {ok : Nat → Prop} (ht : Kd.R Kd.string 9 w B ok vt took) (hk : Keep w w' (fun k => some k = vt.ownBlock)) : PkAt w' B gp v size X := by
  refine h.keep hk ?_ ?_
  · intro e
    obtain ⟨cs, fr, h2⟩ := R_typed ht gp e.symm
    exact ne_typed h.blk h2 (by decide) rfl
  · intro k hv e
    obtain ⟨cs, fr, h1⟩ := R_typed h.row k hv
    obtain ⟨cs, fr, h2⟩ := R_typed ht k e.symm
    exact ne_typed h1 h2 (by decide) rfl
theorem BackAt.stepT (h : BackAt w B gp size v X vt took vg got) {vt' : Value} {took' : List ByteArray} (ho : Kd.R Kd.string 9 w' B (fun k => some k ≠ vg.ownBlock) vt' took') (hg : w.grownBy w' vt.ownBlock) : BackAt w' B gp size v X vt' took' vg got := by
  have hk := grown_keep hg
  refine ⟨h.p.other h.t hk, ho, R_ok (R_keep h.g hk (fun k e => h.g.1 k e)) (fun k e e' => ho.1 k e'.symm e.symm)⟩
theorem BackAt.stepG (h : BackAt w B gp size v X vt took vg got) {vg' : Value} {got' : List ByteArray} (ho : Kd.R Kd.string 9 w' B (fun k => some k ≠ vt.ownBlock) vg' got') (hg : w.grownBy w' vg.ownBlock) : BackAt w' B gp size v X vt took vg' got' := by
  have hk := grown_keep hg
  refine ⟨h.p.other h.g hk, R_ok (R_keep h.t hk (fun k e => h.t.1 k e)) (fun k e e' => ho.1 k e'.symm e.symm), ho⟩
theorem BackAt.footT (h : BackAt w B gp size v X vt took vg got) (hB : B ≤ w.heap.size) (hg : w.grownBy w' vt.ownBlock) : Below B w w' :=
  (grown_keep hg).below hB (fun k e => by obtain ⟨inner, ho⟩ := Kd.R_own h.t; exact own_base ho k e.symm)
theorem BackAt.footG (h : BackAt w B gp size v X vt took vg got) (hB : B ≤ w.heap.size) (hg : w.grownBy w' vg.ownBlock) : Below B w w' :=
  (grown_keep hg).below hB (fun k e => by obtain ⟨inner, ho⟩ := Kd.R_own h.g; exact own_base ho k e.symm)
theorem d_other {o : Value} {n : Nat} {okd ok : Nat → Prop} {D : List Int} (ho : Kd.R (Kd.int .u8) 5 w n okd o D) (ht : Kd.R Kd.string 9 w B ok vt took) (hk : Keep w w' (fun k => some k = vt.ownBlock)) : Kd.R (Kd.int .u8) 5 w' n okd o D :=
  R_keep ho hk (fun k hv e => by
    obtain ⟨cs, fr, h1⟩ := R_typed ho k hv
    obtain ⟨cs, fr, h2⟩ := R_typed ht k e.symm
    exact ne_typed h1 h2 (by decide) rfl)
theorem d_quiet {o : Value} {n : Nat} {okd : Nat → Prop} {D : List Int} (ho : Kd.R (Kd.int .u8) 5 w n okd o D) (hb : Below w.heap.size w w') : Kd.R (Kd.int .u8) 5 w' n okd o D :=
  R_keep ho (Keep.of_below (S := fun _ => False) hb) (fun _ _ h => h)
theorem wire_SplitE (k : Nat) (w : World) {n : Nat} {ok : Nat → Prop} {A : Option Addr} {m c : Nat} {D : List Int} {L : List ByteArray} (h : Kd.R (Kd.int .u8) 5 w n ok (.slice A m c) D) (hf : wire_Split.f k D = some L) :
    Calls Try.prog 11 #[.slice A m c] w fun e w' => ∃ A' c', e = .returned (.slice A' L.length c') ∧ Kd.R Kd.string 9 w' w.heap.size (fun _ => True) (.slice A' L.length c') L ∧ Below w.heap.size w w' := by
  obtain ⟨e, hc, hC⟩ := Kd.R_reads' h
  subst e
  refine (wire_Split.calls k A c D L w hC hc hf).mono ?_
  rintro e w' ⟨v0, rfl, ho, hb⟩
  obtain ⟨A', c', rfl⟩ := Kd.R_slice ho
  exact ⟨A', c', rfl, ho, hb⟩
theorem at_S {w : World} {ad : Addr} {xs : List ByteArray} (h : Kd.C Kd.string w (some ad) xs.length xs) {k : Nat} (hk : k < xs.length) : w.cell? (ad.add k) = some (.string xs[k]) := by
  obtain ⟨ad', e, h1⟩ := Kd.at_string h (k : Int) (by omega) (by omega)
  injection e with e
  subst e
  rw [Int.toNat_natCast] at h1
  have e1 : rdOf ByteArray.empty xs (k : Int) = xs[k] := by unfold rdOf; rw [Int.toNat_natCast, List.getD_eq_getElem?_getD, List.getElem?_eq_getElem hk]; rfl
  rwa [e1] at h1
theorem at_S0 {w : World} {A : Option Addr} {m : Nat} {x : ByteArray} {r : List ByteArray} (h : Kd.C Kd.string w A m (x :: r)) : ∃ ad, A = some ad ∧ w.cell? ad = some (.string x) := by
  have hm := h.1
  obtain ⟨ad, e, h1⟩ := Kd.at_string h (0 : Int) (by omega) (by simp at hm; omega)
  refine ⟨ad, e, ?_⟩
  have e1 : rdOf ByteArray.empty (x :: r) 0 = x := rfl
  rw [e1] at h1
  simpa [Addr.add] using h1
theorem Packer_Held0 {w : World} {B g : Nat} {v : Value} {size : Int} (h : PkAt w B g v size (bytesOf (joinB []))) (hs : 1 ≤ size) :
    Calls Try.prog 20 #[.pointer (some ⟨g, 0, none⟩)] w fun e w' => e = .returned (.int .i64 0) ∧ w = w' := Packer_Held h hs
theorem at_S0' {w : World} {A : Option Addr} {m : Nat} {L : List ByteArray} {x : ByteArray} {r : List ByteArray} (h : Kd.C Kd.string w A m L) (hL : L = x :: r) : ∃ ad, A = some ad ∧ w.cell? ad = some (.string x) := by
  subst hL; exact at_S0 h
theorem at_S2 {w : World} {ad : Addr} {xs : List ByteArray} {s : ByteArray} (h : Kd.C Kd.string w (some ad) xs.length xs) {k : Nat} (hk : k < xs.length) (hx : s = xs[k]) : w.cell? (ad.add k) = some (.string s) := by
  subst hx; exact at_S h hk
theorem BackAt.drewN (h : BackAt w B gp size v X vt took vg got) (n : Nat) : BackAt (w.drewN n) B gp size v X vt took vg got := by
  have hk := (Keep.refl w (fun _ => False)).drewN n
  exact ⟨h.p.keep hk (fun h => h) (fun _ _ h => h), R_keep h.t hk (fun _ _ h => h), R_keep h.g hk (fun _ _ h => h)⟩
theorem Packer_FlushE {w : World} {B g : Nat} {v : Value} {size : Int} {L : List ByteArray} {D : ByteArray} (hD : D = joinB L) (h : PkAt w B g v size (bytesOf (joinB L))) (hs : 1 ≤ size) (hB : B ≤ w.heap.size) (hl : (joinB L).size ≤ 281474976710656) :
    Calls Try.prog 16 #[.pointer (some ⟨g, 0, none⟩)] w fun e w' => ∃ A c v', e = .returned (.slice A D.size c) ∧ PkAt w' B g v' size (bytesOf (joinB [])) ∧ Kd.R (Kd.int .u8) 5 w' w.heap.size (fun k => w.heap.size ≤ k) (.slice A D.size c) (bytesOf D) ∧ Keep w w' (fun k => k = g ∨ some k = v.ownBlock) := by
  subst hD
  exact Packer_FlushL h hs hB hl
/-- What the next datagram's first line must be. -/
def Nx (size last : Int) (L : List ByteArray) : Prop := last = -1 ∨ (0 ≤ last ∧ last ≤ size ∧ ∃ x r, L = x :: r ∧ size < last + 1 + x.size)
theorem joinB_first {x : ByteArray} {r : List ByteArray} : x.size ≤ (joinB (x :: r)).size := by
  have := joinB_size_le (x :: r) 1
  rw [show (x :: r).take 1 = [x] from rfl, joinB_one] at this
  exact this
theorem bulk_mem {x : ByteArray} : ∀ {l : List ByteArray}, x ∈ l → x.size + 1 ≤ (l.map (fun s => s.size + 1)).sum := by
  intro l
  induction l with
  | nil => intro h; cases h
  | cons y r ih =>
    intro h
    simp only [List.map_cons, List.sum_cons]
    rcases List.mem_cons.1 h with rfl | h
    · omega
    · have := ih h; omega
theorem bulk_len : ∀ (l : List ByteArray), l.length ≤ (l.map (fun s => s.size + 1)).sum := by
  intro l
  induction l with
  | nil => simp
  | cons y r ih => simp only [List.map_cons, List.sum_cons, List.length_cons]; omega
end Go.Proofs.Ytoflnoaabjomaaa.Q
