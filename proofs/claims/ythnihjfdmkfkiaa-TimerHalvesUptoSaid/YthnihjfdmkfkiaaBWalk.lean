import Derived.Test.YthnihjfdmkfkiaaBPure
import Derived.Test.YthnihjfdmkfkiaaVOpen
import Derived.WalkSpells
namespace Go.Proofs.Ythnihjfdmkfkiaa.Q
open Go.RowKit Go.Proofs.YthnihjfdmkfkiaaW.PrintWords Go.Proofs.YthnihjfdmkfkiaaW.PrintLast Go.Proofs.YthnihjfdmkfkiaaW.PrintMore Go.Proofs.YthnihjfdmkfkiaaV
set_option linter.unusedVariables false
set_option linter.unusedSimpArgs false

theorem info_u32 : (Try.prog.info? 105).map (fun i => (i.zero, i.size, i.bytes)) = some (some (.int .u32 0), 1, 4) := by kernel_rfl
theorem C_take {α : Type} {K : Kd α} {w : World} {A : Option Addr} {n : Nat} {l : List α} (h : K.C w A n l) (k : Nat) (hk : k ≤ n) : K.C w A k (l.take k) := by
  obtain ⟨h1, h2, h3⟩ := h
  refine ⟨by rw [List.length_take]; omega, by omega, fun hp => ?_⟩
  obtain ⟨ad, ha, hc⟩ := h3 (by omega)
  exact ⟨ad, ha, fun i x hx => hc i x (by rw [List.getElem?_take] at hx; split at hx; exact hx; cases hx)⟩
theorem run_cuth {P : Program} (t e : TypeId) (i : TypeInfo) (ht : P.underlying t = some (.slice e)) (hi : P.info? e = some i) (hsz : i.size = 1) (A : Option Addr) (n c : Nat) (j : Int) (h0 : 0 ≤ j) (hm : j ≤ n) (hc : n ≤ c) :
    ∀ W : World, (Instr.slice t (.slice A n c) none (some (.int .i64 j)) none).run P W = .ok (.slice A j.toNat c) W := by
  intro W
  have hel : P.elem t = e := by simp [Program.elem, ht]
  have hu : P.underlying t = some (.slice (P.elem t)) := by rw [hel]; exact ht
  have ha : (A.map fun x => x.add 0) = A := by cases A <;> simp [Addr.add]
  rw [run_slice_h W t A n c hu .i64 j h0 (by omega), hel]
  simp [sizeOf, typeInfo, hi, hsz, sliced, Result.andThen, ha]

theorem R_keep {α : Type} {enc : α → Value} {h1 : ∀ x, (enc x).oneCell' = true} {e : Nat} {w w' : World} {n : Nat} {ok : Nat → Prop} {v : Value} {xs : List α} {S : Nat → Prop}
    (h : (Kd.scalar enc h1).R e w n ok v xs) (hk : Keep w w' S) (hS : ∀ k, v.ownBlock = some k → ¬ S k) : (Kd.scalar enc h1).R e w' n ok v xs := by
  obtain ⟨inner, ho⟩ := Kd.R_own h
  exact R_tight h (fun k e => ⟨hk.block k (own_lt ho k e) (hS k e), h.1 k e, own_base ho k e⟩)
theorem grown_keep {w w' : World} {vt : Value} (hg : w.grownBy w' vt.ownBlock) : Keep w w' (fun k => some k = vt.ownBlock) := (Keep.refl w _).grown hg (fun k e => .inl e.symm)
theorem R_typed {α : Type} {enc : α → Value} {h1 : ∀ x, (enc x).oneCell' = true} {e : Nat} {w : World} {base : Nat} {ok : Nat → Prop} {v : Value} {xs : List α} (h : (Kd.scalar enc h1).R e w base ok v xs) : ∀ k, v.ownBlock = some k → ∃ cs fr, w.heap[k]? = some (.cells cs e fr) := by
  intro k hk
  have ho := Kd.own_of_R h
  obtain ⟨a1, a2⟩ := ho
  rcases a2 with ⟨rfl, _⟩ | ⟨g, cap, cur, rfl, _, r, _⟩
  · simp [Value.ownBlock] at hk
  · simp [Value.ownBlock] at hk
    subst hk
    exact ⟨_, _, r⟩
theorem ne_typed {w : World} {k g : Nat} {cs cs' : Array Value} {e e' : TypeId} {fr fr' : Nat × Nat} (h : w.heap[k]? = some (.cells cs e fr)) (h' : w.heap[g]? = some (.cells cs' e' fr')) (hne : e ≠ e') : k ≠ g := by
  rintro rfl
  have := h.symm.trans h'
  simp at this
  exact hne this.2.1
theorem keep_below0 {w w' : World} (hk : Keep w w' (fun _ => False)) : Below w.heap.size w w' := ⟨hk.os, hk.tape, hk.output, hk.size, fun k h => hk.block k h (fun h => h)⟩
theorem below_keep {w w' : World} (hb : Below w.heap.size w w') : Keep w w' (fun _ => False) := Keep.of_below hb
theorem keep_drew (w : World) : Keep w w.drew (fun _ => False) := (Keep.refl w _).drew
theorem keep_drewN (w : World) (n : Nat) : Keep w (w.drewN n) (fun _ => False) := (Keep.refl w _).drewN n
theorem cell_same {w w' : World} {a : Addr} (h : w'.heap[a.block]? = w.heap[a.block]?) : w'.cell? a = w.cell? a := by unfold World.cell?; rw [h]
theorem cell_lt {w : World} {a : Addr} {v : Value} (h : w.cell? a = some v) : a.block < w.heap.size := by
  unfold World.cell? at h
  cases hb : w.heap[a.block]? with
  | none => rw [hb] at h; cases h
  | some o => exact (Array.getElem?_eq_some_iff.1 hb).1
/-- A row that is read stands where its block is not turned. -/
theorem C_keepS {α : Type} {enc : α → Value} {h1 : ∀ x, (enc x).oneCell' = true} {w w' : World} {A : Option Addr} {n : Nat} {l : List α} {S : Nat → Prop} (h : (Kd.scalar enc h1).C w A n l) (hk : Keep w w' S) (hA : ∀ ad, A = some ad → ¬ S ad.block) : (Kd.scalar enc h1).C w' A n l := by
  obtain ⟨e1, e2, h3⟩ := h
  refine ⟨e1, e2, fun hp => ?_⟩
  obtain ⟨ad, ha, hc⟩ := h3 hp
  refine ⟨ad, ha, fun i x hx => ?_⟩
  obtain ⟨cs, hs, hK, hj⟩ := hc i x hx
  refine ⟨cs, hs, hK, fun j u hu => ?_⟩
  have hq := hj j u hu
  have hb : ∀ k, (ad.add k).block = ad.block := fun k => by unfold Addr.add; split <;> rfl
  have hlt := cell_lt hq
  rw [hb] at hlt
  exact (cell_same (by rw [hb]; exact hk.block ad.block hlt (hA ad ha))).trans hq
/-- A pair of cells is stored over. -/
theorem res2 {w : World} {g : Nat} {t : TypeId} {c0 c1 v0 v1 : Value} (h : w.heap[g]? = some (.cells #[c0, c1] t (0, 0))) :
    w.cell? ⟨g, 0, none⟩ = some c0 ∧ w.frozen? ⟨g, 0, none⟩ = false ∧ (w.setCell ⟨g, 0, none⟩ v0).cell? ⟨g, 1, none⟩ = some c1 ∧ (w.setCell ⟨g, 0, none⟩ v0).frozen? ⟨g, 1, none⟩ = false ∧ ((w.setCell ⟨g, 0, none⟩ v0).setCell ⟨g, 1, none⟩ v1).heap[g]? = some (.cells #[v0, v1] t (0, 0)) := by
  have h2 := blk_put h 0 v0 rfl
  exact ⟨blk_cell h 0, blk_frozen h 0, blk_cell h2 1, blk_frozen h2 1, blk_put h2 1 v1 rfl⟩
theorem keep_set2 {w : World} {g : Nat} {v0 v1 : Value} : Keep w ((w.setCell ⟨g, 0, none⟩ v0).setCell ⟨g, 1, none⟩ v1) (fun k => k = g) := ((Keep.refl w (fun k => k = g)).set ⟨g, 0, none⟩ _ (.inl rfl)).set ⟨g, 1, none⟩ _ (.inl rfl)
/-- A row of limbs that can be read. -/
structure Lm (w : World) (A : Option Addr) (c : Nat) (l : List Int) : Prop where
  row : Kd.C (Kd.int .u32) w A l.length l
  cap : l.length ≤ c
  ok : okL l
theorem Lm.below {w w' : World} {A : Option Addr} {c : Nat} {l : List Int} (h : Lm w A c l) (hb : Below w.heap.size w w') : Lm w' A c l := ⟨Kd.C_below h.row hb, h.cap, h.ok⟩

theorem Lm.keep {w w' : World} {A : Option Addr} {c : Nat} {l : List Int} {S : Nat → Prop} (h : Lm w A c l) (hk : Keep w w' S) (hA : ∀ ad, A = some ad → ¬ S ad.block) : Lm w' A c l := ⟨C_keepS h.row hk hA, h.cap, h.ok⟩
theorem Lm.trim {w : World} {A : Option Addr} {c : Nat} {l : List Int} (h : Lm w A c l) : Lm w A c (limbs (valL l).toNat) := by
  have e := trimL_prefix l
  have hl := trimL_length l
  rw [trim_limbs h.ok] at e hl
  have hr := C_take h.row (limbs (valL l).toNat).length hl
  rw [← e] at hr
  exact ⟨hr, Nat.le_trans hl h.cap, limbs_ok _⟩
set_option maxHeartbeats 1600000 in
theorem ref_trim {w : World} {A : Option Addr} {c : Nat} {l : List Int} (h : Lm w A c l) :
    Calls Try.prog 68 #[.slice A l.length c] w fun e w' => e = .returned (.slice A (limbs (valL l).toNat).length c) ∧ Lm w A c (limbs (valL l).toNat) ∧ w = w' := by
  have H := Aside0.mk h
  obtain ⟨i5, hi5, hz⟩ := Option.map_eq_some_iff.1 info_u32
  simp only [Prod.mk.injEq] at hz
  have HI := Aside0.mk hi5
  have HZ := Aside0.mk hz.2.1
  have hlen := h.row.2.1
  have hcap := h.cap
  clear h hi5 hz
  go_enter Try.func68, Try.ntmps68
  go_wp2
  go_loopg [0] (l.length + 1) (fun kq v0 w' => ∃ k : Nat, v0 = .slice A k c ∧ k + 1 = kq ∧ k ≤ l.length ∧ Aside0 (trimL (l.take k) = trimL l) ∧ w' = w)
  case atStart => exact ⟨l.length, rfl, rfl, Nat.le_refl _, ⟨by rw [List.take_length]⟩, rfl⟩
  case round =>
    obtain ⟨k, rfl, hkq, hkl, HT, rfl⟩ := hrel
    by_cases h0 : k = 0
    · subst h0
      have d1 : decide ((0 : Int) < ((0 : Nat) : Int)) = false := by decide
      have e0 : limbs (valL l).toNat = [] := by rw [← trim_limbs H.out.ok, ← HT.out]; rfl
      have HE := Aside0.mk e0
      clear e0
      go_wp2
      go_ret
      rw [HE.out]
      refine ⟨rfl, ?_, rfl⟩
      exact ⟨C_take H.out.row 0 (Nat.zero_le _), Nat.zero_le _, okL_nil⟩
    · cases gk with
      | zero => omega
      | succ k1 =>
        have d1 : decide ((0 : Int) < (k : Int)) = true := decide_eq_true (by omega)
        obtain ⟨ad, rfl, hcell⟩ := Kd.at_int H.out.row ((k : Int) - 1) (by omega) (by omega)
        have et : l.take k = l.take (k - 1) ++ [rd l ((k : Int) - 1)] := by
          have := List.take_succ_eq_append_getElem (l := l) (i := k - 1) (by omega)
          rw [show k - 1 + 1 = k by omega] at this
          rw [this]
          unfold rd
          rw [show ((k : Int) - 1).toNat = k - 1 by omega, List.getD_eq_getElem?_getD, List.getElem?_eq_getElem (by omega)]
          rfl
        have hrun := run_cuth (P := Try.prog) 69 105 i5 Try.underlying69 HI.out HZ.out (some ad) k c ((k : Int) - 1) (by omega) (by omega) (by omega)
        rw [show ((k : Int) - 1).toNat = k - 1 by omega] at hcell hrun
        obtain ⟨x, hx⟩ : ∃ x, x = rd l ((k : Int) - 1) := ⟨_, rfl⟩
        rw [← hx] at et hcell
        clear hx
        have ki : (k : Int) - 1 = ((k - 1 : Nat) : Int) := by omega
        have HE := Aside0.mk et
        clear et
        by_cases hx0 : x = 0
        · have d2 : (x == 0) = true := beq_iff_eq.mpr hx0
          go_wp2
          go_roundg k1
          case rel =>
            refine ⟨k - 1, rfl, by omega, by omega, ⟨?_⟩, rfl⟩
            rw [← HT.out, HE.out, hx0, trimL_snoc0]
          case measure => omega
        · have d2 : (x == 0) = false := beq_eq_false_iff_ne.mpr hx0
          have er : limbs (valL l).toNat = l.take k := by rw [← trim_limbs H.out.ok, ← HT.out, HE.out, trimL_last _ _ hx0]
          have hlk : (l.take k).length = k := by rw [List.length_take]; omega
          have HLK := Aside0.mk hlk
          have HR := Aside0.mk er
          clear er hlk
          go_wp2
          go_ret
          rw [HR.out]
          exact ⟨by rw [HLK.out]; rfl, ⟨by rw [HLK.out]; exact C_take H.out.row k hkl, by rw [HLK.out]; omega, okL_take H.out.ok k⟩, rfl⟩
theorem ref_limb {w : World} {A : Option Addr} {c : Nat} {l : List Int} (h : Lm w A c l) (i : Nat) (hi : i ≤ 4611686018427387904) :
    Calls Try.prog 69 #[.slice A l.length c, .int .i64 i] w fun e w' => e = .returned (.int .u32 (l.getD i 0)) ∧ w = w' := by
  have H := Aside0.mk h
  clear h
  by_cases hl : i < l.length
  · have d1 : decide ((i : Int) < (l.length : Int)) = true := decide_eq_true (by omega)
    obtain ⟨ad, rfl, hcell⟩ := Kd.at_int H.out.row (i : Int) (by omega) (by omega)
    rw [Int.toNat_natCast] at hcell
    rw [show rd l (i : Int) = l.getD i 0 by unfold rd; rw [Int.toNat_natCast]] at hcell
    obtain ⟨x, hx⟩ : ∃ x, x = l.getD i 0 := ⟨_, rfl⟩
    rw [← hx] at hcell ⊢
    clear hx
    go_enter Try.func69, Try.ntmps69
    go_wp2
    go_ret
    exact ⟨rfl, rfl⟩
  · have d1 : decide ((i : Int) < (l.length : Int)) = false := decide_eq_false (by omega)
    rw [List.getD_eq_getElem?_getD, List.getElem?_eq_none (by omega), Option.getD_none]
    go_enter Try.func69, Try.ntmps69
    go_wp2
    go_ret
    exact ⟨rfl, rfl⟩

/-- A number without bound. -/
def NumV (w : World) (v : Value) (x : Int) : Prop := ∃ A c, v = .agg #[.bool (decide (x < 0)), .slice A (limbs x.natAbs).length c] ∧ Lm w A c (limbs x.natAbs)
theorem NumV.below {w w' : World} {v : Value} {x : Int} (h : NumV w v x) (hb : Below w.heap.size w w') : NumV w' v x := by
  obtain ⟨A, c, e, h⟩ := h
  exact ⟨A, c, e, h.below hb⟩
set_option maxHeartbeats 800000 in
theorem ref_make2 {w : World} {A : Option Addr} {c : Nat} {l : List Int} (neg : Bool) (h : Lm w A c l) (x : Int) (hx : x = if neg then - valL l else valL l) :
    Calls Try.prog 58 #[.bool neg, .slice A l.length c] w fun e w' => e = .returned (.agg #[.bool (decide (x < 0)), .slice A (limbs x.natAbs).length c]) ∧ Lm w' A c (limbs x.natAbs) ∧ Below w.heap.size w w' := by
  have hv := valL_nonneg h.ok
  have en : (valL l).toNat = x.natAbs := by subst hx; cases neg <;> simp <;> omega
  have HB := Aside0.mk ((Below.refl w.heap.size w).alloc (Nat.le_refl _) (.cells #[.bool false, .slice none 0 0] 71 (0, 0)))
  have H := Aside0.mk (h.below HB.out)
  have e1 : 0 < (limbs x.natAbs).length ↔ x ≠ 0 := by
    have := limbs_nil x.natAbs
    rw [← List.length_eq_zero_iff] at this
    omega
  have HE := Aside0.mk en
  have HL := Aside0.mk (show Lm w A c (limbs x.natAbs) by rw [← en]; exact h.trim)
  cases neg with
  | true =>
    have HD := Aside0.mk (show decide (0 < (limbs x.natAbs).length) = decide (x < 0) by
      rw [if_pos rfl] at hx; rw [decide_eq_decide, e1]; omega)
    clear h hx hv e1 en
    go_enter Try.func58, Try.ntmps58
    go_wp2_with (first
      | (go_at_call 68; (with_reducible refine (ref_trim H.out).mono ?_); rintro e w1 ⟨rfl, h1, rfl⟩; rw [HE.out] at h1 ⊢; have H1 := Aside0.mk h1; clear h1))
    refine bodyPost_ret (results_cell_row rfl _ _ w.heap.size 71 #[.bool (decide (0 < (limbs x.natAbs).length)), .slice A (limbs x.natAbs).length c] (0, 0) _ rfl (heap_alloc_new _ _) Try.underlying71 rfl (by kernel_rfl)) rfl ?_
    refine ⟨by rw [HD.out], HL.out.below ?_, ?_⟩ <;> exact (Below.refl w.heap.size w).alloc (Nat.le_refl _) _
  | false =>
    have HD := Aside0.mk (show false = decide (x < 0) by
      rw [if_neg (by decide)] at hx; symm; rw [decide_eq_false_iff_not]; omega)
    clear h hx hv e1 en
    go_enter Try.func58, Try.ntmps58
    go_wp2_with (first
      | (go_at_call 68; (with_reducible refine (ref_trim H.out).mono ?_); rintro e w1 ⟨rfl, h1, rfl⟩; rw [HE.out] at h1 ⊢; have H1 := Aside0.mk h1; clear h1))
    refine bodyPost_ret (results_cell_row rfl _ _ w.heap.size 71 #[.bool false, .slice A (limbs x.natAbs).length c] (0, 0) _ rfl (heap_alloc_new _ _) Try.underlying71 rfl (by kernel_rfl)) rfl ?_
    refine ⟨by rw [HD.out], HL.out.below ?_, ?_⟩ <;> exact (Below.refl w.heap.size w).alloc (Nat.le_refl _) _
end Go.Proofs.Ythnihjfdmkfkiaa.Q
