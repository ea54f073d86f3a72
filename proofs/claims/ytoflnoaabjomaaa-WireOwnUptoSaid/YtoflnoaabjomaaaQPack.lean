import Derived.Test.YtoflnoaabjomaaaQRk
namespace Go.Proofs.Ytoflnoaabjomaaa.Q
open Go.RowKit Go.Proofs.YtoflnoaabjomaaaW.PrintWords Go.Proofs.YtoflnoaabjomaaaW.PrintLast Go.Proofs.YtoflnoaabjomaaaW.PrintMore Go.Proofs.YtoflnoaabjomaaaV
set_option linter.unusedVariables false
set_option linter.unusedSimpArgs false

/-- Lines that a packer may hold. -/
structure Lines (size : Int) (L : List ByteArray) : Prop where
  good : ∀ x ∈ L, ¬ badLine x
  fit : ((joinB L).size : Int) ≤ size

theorem good_pos {s : ByteArray} (h : ¬ badLine s) : 0 < s.size := by
  simp only [badLine, not_or] at h; omega

theorem joinB_len (L : List ByteArray) (h : ∀ x ∈ L, ¬ badLine x) : L.length ≤ (joinB L).size := by
  have key : ∀ n, n ≤ L.length → n ≤ (joinB (L.take n)).size := by
    intro n
    induction n with
    | zero => intro _; exact Nat.zero_le _
    | succ n ih =>
      intro hn
      have := ih (by omega)
      rw [List.take_succ_eq_append_getElem (by omega), joinB_snoc]
      have hp := good_pos (h L[n] (List.getElem_mem _))
      split <;> simp only [size_app] <;> omega
  have := key L.length (Nat.le_refl _)
  rwa [List.take_length] at this

theorem joinB_empty {L : List ByteArray} (h : ∀ x ∈ L, ¬ badLine x) (h0 : (joinB L).size = 0) : L = [] := by
  have := joinB_len L h
  exact List.eq_nil_of_length_eq_zero (by omega)

open Classical in
/-- What Add answers, and what is held then. -/
noncomputable def addP (size : Int) (L : List ByteArray) (s : ByteArray) : ByteArray × Int × List ByteArray :=
  if badLine s then (⟨#[]⟩, 51, L) else if size < s.size then (⟨#[]⟩, 2, L) else
  if 0 < L.length ∧ size < ((joinB L).size : Int) + 1 + s.size then (joinB L, 0, [s]) else (⟨#[]⟩, 0, L ++ [s])

theorem joinB_one (s : ByteArray) : joinB [s] = s := by
  have := joinB_snoc [] s
  rw [List.nil_append, if_neg (by simp), joinB_nil] at this
  rw [this]; apply ByteArray.ext; simp

theorem addP_lines {size : Int} {L : List ByteArray} (h : Lines size L) (s : ByteArray) : Lines size (addP size L s).2.2 := by
  unfold addP
  split
  · exact h
  · split
    · exact h
    · rename_i hg hl
      split
      · exact ⟨by intro x hx; simp at hx; subst hx; exact hg, by rw [joinB_one]; omega⟩
      · rename_i hf
        refine ⟨by intro x hx; rcases List.mem_append.1 hx with hx | hx; exact h.good x hx; simp at hx; subst hx; exact hg, ?_⟩
        show ((joinB (L ++ [s])).size : Int) ≤ size
        rw [joinB_snoc]
        split
        · simp only [size_app]
          have : (⟨#[10]⟩ : ByteArray).size = 1 := rfl
          omega
        · have : L = [] := List.eq_nil_of_length_eq_zero (by omega)
          subst this
          simp only [size_app, joinB_nil]
          have : (⟨#[]⟩ : ByteArray).size = 0 := rfl
          omega

theorem addP_held (size : Int) (L : List ByteArray) (s : ByteArray) (hg : ¬ badLine s) (hl : (s.size : Int) ≤ size) (hL : Lines size L) :
    (0 < (joinB L).size → ((joinB L).size : Int) + 1 + s.size ≤ size → addP size L s = (⟨#[]⟩, 0, L ++ [s]) ∧ bytesOf (joinB (L ++ [s])) = bytesOf (joinB L) ++ [10] ++ bytesOf s) ∧
    (0 < (joinB L).size → ¬ ((joinB L).size : Int) + 1 + s.size ≤ size → addP size L s = (joinB L, 0, [s])) ∧ ((joinB L).size = 0 → addP size L s = (⟨#[]⟩, 0, [s]) ∧ L = []) := by
  refine ⟨fun h0 h1 => ?_, fun h0 h1 => ?_, fun h0 => ?_⟩
  · have hp : 0 < L.length := by
      rcases L with _ | ⟨x, r⟩
      · exact absurd h0 (by rw [joinB_nil]; decide)
      · simp
    refine ⟨by unfold addP; rw [if_neg hg, if_neg (by omega), if_neg (by omega)], ?_⟩
    rw [joinB_snoc, if_pos hp, bytesOf_app, bytesOf_app]; rfl
  · have hp : 0 < L.length := by
      rcases L with _ | ⟨x, r⟩
      · exact absurd h0 (by rw [joinB_nil]; decide)
      · simp
    unfold addP; rw [if_neg hg, if_neg (by omega), if_pos ⟨hp, by omega⟩]
  · have := joinB_empty hL.good h0
    subst this
    refine ⟨by unfold addP; rw [if_neg hg, if_neg (by omega), if_neg (by simp)]; rfl, rfl⟩

theorem bytesOf_empty : bytesOf (⟨#[]⟩ : ByteArray) = [] := rfl
theorem bytesOf_len (s : ByteArray) : (bytesOf s).length = s.size := bytesOf_length s
theorem bytesOf_none {s : ByteArray} (h : s.size = 0) : bytesOf s = [] := List.eq_nil_of_length_eq_zero (by rw [bytesOf_len]; exact h)

/-- Add, whatever the line. -/
theorem Packer_Add {w : World} {B g : Nat} {v : Value} {size : Int} {L : List ByteArray} (s : ByteArray) (h : PkAt w B g v size (bytesOf (joinB L))) (hL : Lines size L) (hs : 1 ≤ size) (hs2 : size ≤ 65536) (hB : B ≤ w.heap.size) (hsz : s.size ≤ 140737488351232) :
    Calls Try.prog 18 #[.pointer (some ⟨g, 0, none⟩), .string s] w fun e w' => ∃ o v', e = .returned (.tuple #[o, .int .i64 (addP size L s).2.1]) ∧ PkAt w' B g v' size (bytesOf (joinB (addP size L s).2.2)) ∧ Kd.R (Kd.int .u8) 5 w' w.heap.size (fun k => w.heap.size ≤ k) o (bytesOf (addP size L s).1) ∧ Keep w w' (fun k => k = g ∨ some k = v.ownBlock) := by
  by_cases hb : badLine s
  · have e : addP size L s = (⟨#[]⟩, 51, L) := by unfold addP; rw [if_pos hb]
    rw [e]
    refine (Packer_Add_bad s h hs hsz hb).mono ?_
    rintro e w' ⟨rfl, hbel⟩
    exact ⟨_, v, rfl, h.keep (Keep.of_below (S := fun _ => False) hbel) (fun h => h) (fun _ _ h => h), Kd.R_nil _ _ _ _ _, Keep.of_below hbel⟩
  · by_cases hl : size < s.size
    · have e : addP size L s = (⟨#[]⟩, 2, L) := by unfold addP; rw [if_neg hb, if_pos hl]
      rw [e]
      refine (Packer_Add_long s h hs hsz hb hl).mono ?_
      rintro e w' ⟨rfl, hbel⟩
      exact ⟨_, v, rfl, h.keep (Keep.of_below (S := fun _ => False) hbel) (fun h => h) (fun _ _ h => h), Kd.R_nil _ _ _ _ _, Keep.of_below hbel⟩
    · obtain ⟨a1, a2, a3⟩ := addP_held size L s hb (by omega) hL
      have hf := hL.fit
      by_cases h0 : 0 < (joinB L).size
      · by_cases h1 : ((joinB L).size : Int) + 1 + s.size ≤ size
        · obtain ⟨e1, e2⟩ := a1 h0 h1
          rw [e1]
          refine (Packer_Add_more s h hs hs2 hB hsz hb (by omega) (by rw [bytesOf_len]; exact h0) (by rw [bytesOf_len]; exact h1)).mono ?_
          rintro e w' ⟨v', rfl, hp, hk⟩
          exact ⟨_, v', rfl, by rw [show ((⟨#[]⟩ : ByteArray), (0 : Int), L ++ [s]).2.2 = L ++ [s] from rfl, e2]; exact hp, Kd.R_nil _ _ _ _ _, hk⟩
        · have e1 := a2 h0 h1
          rw [e1]
          refine (Packer_Add_full s h hs hs2 hB hsz hb (by omega) (by rw [bytesOf_len]; exact h0) (by rw [bytesOf_len]; omega) (by rw [bytesOf_len]; exact h1)).mono ?_
          rintro e w' ⟨o, v', rfl, hp, ho, hk⟩
          exact ⟨o, v', rfl, by rw [show ((joinB L), (0 : Int), [s]).2.2 = [s] from rfl, joinB_one]; exact hp, ho, hk⟩
      · obtain ⟨e1, rfl⟩ := a3 (by omega)
        rw [e1]
        rw [joinB_nil, bytesOf_empty] at h
        refine (Packer_Add_first s h hs hs2 hB hsz hb (by omega)).mono ?_
        rintro e w' ⟨v', rfl, hp, hk⟩
        exact ⟨_, v', rfl, by rw [show ((⟨#[]⟩ : ByteArray), (0 : Int), [s]).2.2 = [s] from rfl, joinB_one]; exact hp, Kd.R_nil _ _ _ _ _, hk⟩

/-- Flush, whatever is held. -/
theorem Packer_Flush {w : World} {B g : Nat} {v : Value} {size : Int} {held : List Int} (h : PkAt w B g v size held) (hs : 1 ≤ size) (hB : B ≤ w.heap.size) (hl : held.length ≤ 281474976710656) :
    Calls Try.prog 16 #[.pointer (some ⟨g, 0, none⟩)] w fun e w' => ∃ o v', e = .returned o ∧ PkAt w' B g v' size [] ∧ Kd.R (Kd.int .u8) 5 w' w.heap.size (fun k => w.heap.size ≤ k) o held ∧ Keep w w' (fun k => k = g) := by
  by_cases h0 : 0 < held.length
  · refine (Packer_Flush_full h hs hB h0 hl).mono ?_
    rintro e w' ⟨o, rfl, hp, ho, hk⟩
    exact ⟨o, _, rfl, hp, ho, hk⟩
  · obtain rfl : held = [] := List.eq_nil_of_length_eq_zero (by omega)
    refine (Packer_Flush_empty h hs).mono ?_
    rintro e w' ⟨rfl, rfl⟩
    exact ⟨_, v, rfl, h, Kd.R_nil _ _ _ _ _, Keep.refl _ _⟩

/-- The reference's Add, whatever the line. -/
theorem RAdd {w : World} {B g : Nat} {v : Value} {size : Int} {L : List ByteArray} (s : ByteArray) (h : RpAt w B g v size L) (hL : Lines size L) (hs : 1 ≤ size) (hs2 : size ≤ 65536) (hB : B ≤ w.heap.size) (hsz : s.size ≤ 1048576) :
    Calls Try.prog 19 #[.pointer (some ⟨g, 0, none⟩), .string s] w fun e w' => ∃ v', e = .returned (.tuple #[.string (addP size L s).1, .int .i64 (addP size L s).2.1]) ∧ RpAt w' B g v' size (addP size L s).2.2 ∧ Keep w w' (fun k => k = g ∨ some k = v.ownBlock) := by
  have hf := hL.fit
  by_cases hb : badLine s
  · have e : addP size L s = (⟨#[]⟩, 51, L) := by unfold addP; rw [if_pos hb]
    rw [e]
    refine (RAdd_bad s hsz hb).mono ?_
    rintro e w' ⟨rfl, hbel⟩
    exact ⟨v, rfl, h.keep (Keep.of_below (S := fun _ => False) hbel) (fun h => h) (fun _ _ h => h), Keep.of_below hbel⟩
  · by_cases hl : size < s.size
    · have e : addP size L s = (⟨#[]⟩, 2, L) := by unfold addP; rw [if_neg hb, if_pos hl]
      rw [e]
      refine (RAdd_long h s hsz hb hl).mono ?_
      rintro e w' ⟨rfl, hbel⟩
      exact ⟨v, rfl, h.keep (Keep.of_below (S := fun _ => False) hbel) (fun h => h) (fun _ _ h => h), Keep.of_below hbel⟩
    · by_cases h1 : 0 < L.length ∧ size < ((joinB L).size : Int) + 1 + s.size
      · have e : addP size L s = (joinB L, 0, [s]) := by unfold addP; rw [if_neg hb, if_neg hl, if_pos h1]
        rw [e]
        refine (RAdd_full h s hB hsz hb (by omega) (by omega) h1.1 h1.2).mono ?_
        rintro e w' ⟨v', rfl, hp, hk⟩
        exact ⟨v', rfl, hp, hk⟩
      · have e : addP size L s = (⟨#[]⟩, 0, L ++ [s]) := by unfold addP; rw [if_neg hb, if_neg hl, if_neg h1]
        rw [e]
        have := joinB_len L hL.good
        refine (RAdd_more h s hB hsz hb (by omega) (by omega) (by omega) h1).mono ?_
        rintro e w' ⟨v', rfl, hp, hk⟩
        exact ⟨v', rfl, hp, hk⟩

/-- A packer and the reference's, side by side. -/
structure Two (w : World) (B gp gq : Nat) (size : Int) (L : List ByteArray) (v u : Value) : Prop where
  p : PkAt w B gp v size (bytesOf (joinB L))
  q : RpAt w B gq u size L
  l : Lines size L
theorem Two.ne {w : World} {B gp gq : Nat} {size : Int} {L : List ByteArray} {v u : Value} (h : Two w B gp gq size L v u) : gp ≠ gq := by
  rintro rfl
  have := h.p.blk.symm.trans h.q.blk
  simp at this
theorem R_typed {α : Type} {enc : α → Value} {h1 : ∀ x, (enc x).oneCell' = true} {e : Nat} {w : World} {base : Nat} {ok : Nat → Prop} {v : Value} {xs : List α} (h : (Kd.scalar enc h1).R e w base ok v xs) : ∀ k, v.ownBlock = some k → ∃ cs fr, w.heap[k]? = some (.cells cs e fr) := by
  intro k hk
  have ho := Kd.own_of_R h
  obtain ⟨a1, a2⟩ := ho
  rcases a2 with ⟨rfl, _⟩ | ⟨g, cap, cur, rfl, _, r, _⟩
  · simp [Value.ownBlock] at hk
  · simp [Value.ownBlock] at hk
    subst hk
    exact ⟨_, _, r⟩
theorem ne_typed {w : World} {k g : Nat} {cs cs' : Array Value} {e e' : TypeId} {fr fr' : Nat × Nat} (h : w.heap[k]? = some (.cells cs e fr)) (h' : w.heap[g]? = some (.cells cs' e' fr')) (hne : e ≠ e') : k ≠ g := by
  rintro rfl
  have := h.symm.trans h'
  simp at this
  exact hne this.2.1
/-- What turns the packer leaves the reference's be. -/
theorem RpAt.aside {w w' : World} {B gp gq : Nat} {size size' : Int} {X : List Int} {L : List ByteArray} {v u : Value} (hp : PkAt w B gp v size X) (hq : RpAt w B gq u size' L) (hk : Keep w w' (fun k => k = gp ∨ some k = v.ownBlock)) : RpAt w' B gq u size' L := by
  refine hq.keep hk ?_ ?_
  · rintro (h | h)
    · exact ne_typed hq.blk hp.blk (by decide) h
    · obtain ⟨cs, fr, h2⟩ := R_typed hp.row gq h.symm
      exact ne_typed hq.blk h2 (by decide) rfl
  · intro k hv
    obtain ⟨cs, fr, h1⟩ := R_typed hq.row k hv
    rintro (h | h)
    · exact ne_typed h1 hp.blk (by decide) h
    · obtain ⟨cs, fr, h2⟩ := R_typed hp.row k h.symm
      exact ne_typed h1 h2 (by decide) rfl
/-- What turns the reference's leaves the packer be. -/
theorem PkAt.aside {w w' : World} {B gp gq : Nat} {size size' : Int} {X : List Int} {L : List ByteArray} {v u : Value} (hp : PkAt w B gp v size X) (hq : RpAt w B gq u size' L) (hk : Keep w w' (fun k => k = gq ∨ some k = u.ownBlock)) : PkAt w' B gp v size X := by
  refine hp.keep hk ?_ ?_
  · rintro (h | h)
    · exact ne_typed hp.blk hq.blk (by decide) h
    · obtain ⟨cs, fr, h2⟩ := R_typed hq.row gp h.symm
      exact ne_typed hp.blk h2 (by decide) rfl
  · intro k hv
    obtain ⟨cs, fr, h1⟩ := R_typed hp.row k hv
    rintro (h | h)
    · exact ne_typed h1 hq.blk (by decide) h
    · obtain ⟨cs, fr, h2⟩ := R_typed hq.row k h.symm
      exact ne_typed h1 h2 (by decide) rfl
/-- A row that is newer than what is turned. -/
theorem R_newer {α : Type} {enc : α → Value} {h1 : ∀ x, (enc x).oneCell' = true} {e : Nat} {w w' : World} {n : Nat} {ok : Nat → Prop} {v : Value} {xs : List α} {S : Nat → Prop}
    (h : (Kd.scalar enc h1).R e w n ok v xs) (hk : Keep w w' S) (hS : ∀ k, S k → k < n) : (Kd.scalar enc h1).R e w' n (fun _ => True) v xs := by
  obtain ⟨inner, ho⟩ := Kd.R_own h
  exact R_tight h (fun k e => ⟨hk.block k (own_lt ho k e) (fun hc => by have := hS k hc; have := own_base ho k e; omega), trivial, own_base ho k e⟩)
theorem PkAt.drew {w : World} {B g : Nat} {v : Value} {size : Int} {held : List Int} (h : PkAt w B g v size held) : PkAt w.drew B g v size held := h.keep ((Keep.refl w (fun _ => False)).drew) (fun h => h) (fun _ _ h => h)
theorem RpAt.drew {w : World} {B g : Nat} {v : Value} {size : Int} {held : List ByteArray} (h : RpAt w B g v size held) : RpAt w.drew B g v size held := h.keep ((Keep.refl w (fun _ => False)).drew) (fun h => h) (fun _ _ h => h)
theorem PkAt.foot {w w' : World} {B g : Nat} {v : Value} {size : Int} {held : List Int} (h : PkAt w B g v size held) (hB : B ≤ w.heap.size) (hk : Keep w w' (fun k => k = g ∨ some k = v.ownBlock)) : Below B w w' :=
  hk.below hB (fun k hc => by
    rcases hc with rfl | hc
    · exact h.ge
    · obtain ⟨inner, ho⟩ := Kd.R_own h.row
      exact own_base ho k hc.symm)
theorem RpAt.foot {w w' : World} {B g : Nat} {v : Value} {size : Int} {held : List ByteArray} (h : RpAt w B g v size held) (hB : B ≤ w.heap.size) (hk : Keep w w' (fun k => k = g ∨ some k = v.ownBlock)) : Below B w w' :=
  hk.below hB (fun k hc => by
    rcases hc with rfl | hc
    · exact h.ge
    · obtain ⟨inner, ho⟩ := Kd.R_own h.row
      exact own_base ho k hc.symm)
theorem Packer_HeldL {w : World} {B g : Nat} {v : Value} {size : Int} {L : List ByteArray} (h : PkAt w B g v size (bytesOf (joinB L))) (hs : 1 ≤ size) :
    Calls Try.prog 20 #[.pointer (some ⟨g, 0, none⟩)] w fun e w' => e = .returned (.int .i64 (joinB L).size) ∧ w = w' := by
  have := Packer_Held h hs
  rwa [bytesOf_len] at this
theorem Packer_AddE {w : World} {B g : Nat} {v : Value} {size : Int} {L : List ByteArray} (s : ByteArray) {out : ByteArray} {er : Int} {L' : List ByteArray} (hadd : addP size L s = (out, er, L')) (h : PkAt w B g v size (bytesOf (joinB L))) (hL : Lines size L) (hs : 1 ≤ size) (hs2 : size ≤ 65536) (hB : B ≤ w.heap.size) (hsz : s.size ≤ 140737488351232) :
    Calls Try.prog 18 #[.pointer (some ⟨g, 0, none⟩), .string s] w fun e w' => ∃ A c v', e = .returned (.tuple #[.slice A out.size c, .int .i64 er]) ∧ PkAt w' B g v' size (bytesOf (joinB L')) ∧ Kd.R (Kd.int .u8) 5 w' w.heap.size (fun k => w.heap.size ≤ k) (.slice A out.size c) (bytesOf out) ∧ Keep w w' (fun k => k = g ∨ some k = v.ownBlock) := by
  refine (Packer_Add s h hL hs hs2 hB hsz).mono ?_
  rw [hadd]
  rintro e w' ⟨o, v', rfl, a, b, c⟩
  obtain ⟨A, cp, rfl⟩ := Kd.R_slice b
  rw [bytesOf_len] at b ⊢
  exact ⟨A, cp, v', rfl, a, b, c⟩
theorem RAddE {w : World} {B g : Nat} {v : Value} {size : Int} {L : List ByteArray} (s : ByteArray) {out : ByteArray} {er : Int} {L' : List ByteArray} (hadd : addP size L s = (out, er, L')) (h : RpAt w B g v size L) (hL : Lines size L) (hs : 1 ≤ size) (hs2 : size ≤ 65536) (hB : B ≤ w.heap.size) (hsz : s.size ≤ 1048576) :
    Calls Try.prog 19 #[.pointer (some ⟨g, 0, none⟩), .string s] w fun e w' => ∃ v', e = .returned (.tuple #[.string out, .int .i64 er]) ∧ RpAt w' B g v' size L' ∧ Keep w w' (fun k => k = g ∨ some k = v.ownBlock) := by
  have := RAdd s h hL hs hs2 hB hsz
  rwa [hadd] at this
/-- Flush, whatever is held. -/
theorem Packer_FlushL {w : World} {B g : Nat} {v : Value} {size : Int} {L : List ByteArray} (h : PkAt w B g v size (bytesOf (joinB L))) (hs : 1 ≤ size) (hB : B ≤ w.heap.size) (hl : (joinB L).size ≤ 281474976710656) :
    Calls Try.prog 16 #[.pointer (some ⟨g, 0, none⟩)] w fun e w' => ∃ A c v', e = .returned (.slice A (joinB L).size c) ∧ PkAt w' B g v' size (bytesOf (joinB [])) ∧ Kd.R (Kd.int .u8) 5 w' w.heap.size (fun k => w.heap.size ≤ k) (.slice A (joinB L).size c) (bytesOf (joinB L)) ∧ Keep w w' (fun k => k = g ∨ some k = v.ownBlock) := by
  refine (Packer_Flush h hs hB (by rw [bytesOf_len]; exact hl)).mono ?_
  rintro e w' ⟨o, v', rfl, a, b, c⟩
  obtain ⟨A, cp, rfl⟩ := Kd.R_slice b
  rw [bytesOf_len] at b ⊢
  exact ⟨A, cp, v', rfl, a, b, c.mono (fun k _ h => .inl h)⟩
theorem RFlushL {w : World} {B g : Nat} {v : Value} {size : Int} {held : List ByteArray} (h : RpAt w B g v size held) (hsz : (joinB held).size ≤ 4611686018427387904) :
    Calls Try.prog 17 #[.pointer (some ⟨g, 0, none⟩)] w fun e w' => e = .returned (.string (joinB held)) ∧ RpAt w' B g (.slice none 0 0) size [] ∧ Keep w w' (fun k => k = g ∨ some k = v.ownBlock) := by
  refine (RFlush h hsz).mono ?_
  rintro e w' ⟨rfl, a, c⟩
  exact ⟨rfl, a, c.mono (fun k _ h => .inl h)⟩
/-- string(b), b being a text's bytes. -/
theorem cv_of_R {w : World} {n : Nat} {ok : Nat → Prop} {A : Option Addr} {m c : Nat} {s : ByteArray} (h : Kd.R (Kd.int .u8) 5 w n ok (.slice A m c) (bytesOf s)) : (convert 22 9 (.slice A m c)).run Try.prog w = .ok (.string s) w := by
  obtain ⟨e, _, hC⟩ := Kd.R_reads' h
  have := Kd.C_string (P := Try.prog) (A := A) (c := c) Try.underlying22 Try.underlying5 Try.underlying9 hC
  rw [str_bytes, ← e] at this
  exact this
theorem RpAt.old {w : World} {B g : Nat} {v : Value} {size : Int} {held : List ByteArray} (h : RpAt w B g v size held) : ∀ k, (k = g ∨ some k = v.ownBlock) → k < w.heap.size := by
  rintro k (rfl | hk)
  · exact blk_lt h.blk
  · exact R_lt' h.row k hk.symm
theorem Lines.nil {size : Int} (h : 1 ≤ size) : Lines size [] := ⟨by simp, by rw [joinB_nil]; show ((0 : Nat) : Int) ≤ size; omega⟩
theorem Lines.add {size : Int} {L : List ByteArray} {s out : ByteArray} {er : Int} {L' : List ByteArray} (h : Lines size L) (hadd : addP size L s = (out, er, L')) : Lines size L' := by
  have := addP_lines h s
  rwa [hadd] at this
end Go.Proofs.Ytoflnoaabjomaaa.Q
