import Derived.Test.YtoflnoaabjomaaaQStream
namespace Go.Proofs.Ytoflnoaabjomaaa.Q
open Go.RowKit Go.Proofs.YtoflnoaabjomaaaW.PrintWords Go.Proofs.YtoflnoaabjomaaaW.PrintLast Go.Proofs.YtoflnoaabjomaaaW.PrintMore Go.Proofs.YtoflnoaabjomaaaV
set_option linter.unusedVariables false
set_option linter.unusedSimpArgs false

theorem take_push (cur : List Int) (x : Int) (n : Nat) (h : cur.length ≤ n) : (cur ++ [x]).take (n + 1) = cur.take (n + 1) ++ [x] := by
  rw [List.take_of_length_le (l := cur) (by omega), List.take_of_length_le (by simp; omega)]
theorem take_full (cur : List Int) (x : Int) (n : Nat) (h : n < cur.length) : (cur ++ [x]).take (n + 1) = cur.take (n + 1) := by
  rw [List.take_append_of_le_length (by omega)]
theorem rd_push (cur : List Int) (x : Int) : rd (cur ++ [x]) (((cur ++ [x]).length : Int) - 1) = x := by
  unfold rd
  rw [show ((((cur ++ [x]).length : Nat) : Int) - 1).toNat = cur.length by simp]
  simp
theorem StAt.more {w : World} {B g : Nat} {v v' : Value} {limit last x : Int} {cur : List Int} {lost : Int} (h : StAt w B g v limit last cur lost)
    (w' : World) (hblk : w'.heap[g]? = some (.cells #[.int .i64 limit, v', .int .u8 x, .int .i64 ((cur.length : Int) + 1), .int .i64 lost] 64 (0, 0))) (hrow : Kd.R (Kd.int .u8) 5 w' B (fun k => k ≠ g) v' ((cur ++ [x]).take (limit + 1).toNat)) : StAt w' B g v' limit x (cur ++ [x]) lost := by
  refine ⟨?_, hrow, h.ge, fun _ => (rd_push cur x).symm⟩
  rw [hblk]
  simp

set_option maxHeartbeats 3200000 in
set_option maxRecDepth 4000 in
theorem Stream_Feed {w : World} {B g : Nat} {v : Value} {limit last : Int} {cur : List Int} {lost : Int} (h : StAt w B g v limit last cur lost) (hs : 1 ≤ limit ∧ limit ≤ 1024) (A1 : Option Addr) (c1 : Nat) (b : List Int)
    (hin : ∀ w', Keep w w' (fun k => k = g ∨ some k = v.ownBlock) → Kd.C (Kd.int .u8) w' A1 b.length b) (hB : B ≤ w.heap.size) (hlen : cur.length + b.length ≤ 1073741824) (hlost : 0 ≤ lost ∧ lost ≤ 1073741824) {cur' : List Int} {lost' : Int} {outs : List ByteArray} (hf : feedS limit b cur lost = ((cur', lost'), outs)) :
    Calls Try.prog 25 #[.pointer (some ⟨g, 0, none⟩), .slice A1 b.length c1] w fun e w' => ∃ A c v' last', e = .returned (.slice A outs.length c) ∧ StAt w' B g v' limit last' cur' lost' ∧ Kd.R Kd.string 9 w' w.heap.size (fun _ => True) (.slice A outs.length c) outs ∧ Keep w w' (fun k => k = g ∨ some k = v.ownBlock) ∧ (∀ k, v'.ownBlock = some k → some k = v.ownBlock ∨ w.heap.size ≤ k) := by
  have HI := Aside0.mk hin
  have HM := Aside0.mk h
  have HF := Aside0.mk hf
  clear h hin hf
  go_enter Try.func25, Try.ntmps25
  go_wp2_with (first | (go_at_call 35; (with_reducible refine (Stream_made_yes HM.out hs.1).mono ?_); rintro e w' ⟨rfl, rfl⟩))
  go_loopg [5, 15] (b.length + 1) (fun kq v5 v15 w' => ∃ (j : Nat) (A : Option Addr) (c : Nat) (v' : Value) (last1 lost1 : Int) (cur1 : List Int) (acc : List ByteArray), v5 = .slice A acc.length c ∧ v15 = .int .i64 j ∧ j + kq = b.length + 1 ∧ j ≤ b.length ∧ Aside0 (feedS limit (b.take j) cur lost = ((cur1, lost1), acc)) ∧ Aside0 (StAt w' B g v' limit last1 cur1 lost1) ∧ Aside0 (Kd.R Kd.string 9 w' w.heap.size (fun _ => True) (.slice A acc.length c) acc) ∧ Aside0 (Keep w w' (fun k => k = g ∨ some k = v.ownBlock)) ∧ Aside0 (∀ k, v'.ownBlock = some k → some k = v.ownBlock ∨ w.heap.size ≤ k))
  case atStart => exact ⟨0, none, 0, v, last, lost, cur, [], rfl, rfl, by omega, by omega, ⟨rfl⟩, HM, ⟨Kd.R_nil _ _ _ _ _⟩, ⟨Keep.refl _ _⟩, ⟨fun k e => .inl e.symm⟩⟩
  case round =>
    obtain ⟨j, A, c, v', last1, lost1, cur1, acc, rfl, rfl, hjq, hjl, HE, HS, HO, HK, HW⟩ := hrel
    clear HM
    by_cases hlt : j < b.length
    · cases gk with
      | zero => omega
      | succ k1 =>
        have hcl := feedS_len limit (b.take j) cur lost
        rw [HE.out] at hcl
        simp only [List.length_take] at hcl
        obtain ⟨hl1, hl2, hl3, hl4⟩ := hcl
        have hl5 : cur1.length < 1073741824 := by omega
        have hl6 : 0 ≤ lost1 ∧ lost1 ≤ 2147483648 := by omega
        have hl7 : acc.length ≤ 1073741824 := by omega
        have hsz := HK.out.size
        obtain ⟨ad, rfl, hcell⟩ := Kd.at_int (HI.out _ HK.out) (j : Int) (by omega) (by omega)
        rw [Int.toNat_natCast] at hcell
        have ex : rd b (j : Int) = b[j] := by unfold rd; rw [Int.toNat_natCast, List.getD_eq_getElem?_getD, List.getElem?_eq_getElem hlt]; rfl
        have hstep := feedS_snoc limit (b.take j) b[j] cur lost HE.out
        rw [← List.take_succ_eq_append_getElem hlt] at hstep
        rw [ex] at hcell
        obtain ⟨x, hx⟩ : ∃ x, x = b[j] := ⟨_, rfl⟩
        rw [← hx] at hcell hstep
        have d1 : decide ((j : Int) < b.length) = true := decide_eq_true (by omega)
        clear hl1 hl2 hl3 hl4 ex hx
        by_cases h10 : x = 10
        · rw [if_pos h10] at hstep
          have d2 : (x == 10) = true := beq_iff_eq.mpr h10
          have HX := Aside0.mk hstep
          clear hstep h10
          cases hlb : lineB limit cur1 with
          | true =>
            go_wp2_with (first
              | (go_at_call 36; (with_reducible refine (Stream_line HS.out hs.1 (by omega) (by omega)).mono ?_); rintro e w2 ⟨s, rfl, hout, hs2, hk2⟩; rw [hlb] at hout ⊢; have HOut := Aside0.mk hout; have HS2 := Aside0.mk hs2; have HG := Aside0.mk (show (g : Nat) < wr.heap.size from blk_lt HS.out.blk); have HO2 := Aside0.mk (R_keep HO.out hk2 (fun k e eg => by subst eg; obtain ⟨cs, fr, h1⟩ := R_typed HO.out k e; exact ne_typed h1 HS.out.blk (by decide) rfl)); have HK2 := Aside0.mk (HK.out.trans hk2 (fun k _ h => h) (fun k _ h => .inl h)); have hsz2 := HK2.out.size; clear hout hs2 hk2 HO HK HS)
              | ((with_reducible refine gate_builtin (b := .append) (xs := #[.tmp 27, .tmp 29]) rfl ?_); at_builtin; refine Kd.R_append Kd.string (w0 := w2) w.heap.size rfl (.tmp 27) (.tmp 29) 24 9 (.string ⟨#[]⟩) 16 rfl Try.underlying24 info9 rfl (by decide) (by omega) (.slice A acc.length c) acc s [.string s] (fun _ => True) (fun _ => False) rfl rfl ?aP (fun _ hk => hk.elim) ?aF ?aO ?aB ?aS ?aL ?_; (case aP => exact rfl); (case aB => exact Below.refl _ _); (case aF => exact (fun _ _ => trivial)); (case aO => exact HO2.out); (case aS => exact hsz2); (case aL => omega); intro v5 w5 ho5 _ hg5 hat5; obtain ⟨H2, hH2⟩ : ∃ l : List ByteArray, l = acc ++ [s] := ⟨_, rfl⟩; rw [← hH2] at ho5; have NH := Aside0.mk hH2; clear hH2; obtain ⟨A5, c5, ev5⟩ := Kd.R_slice ho5; subst ev5; have HO5 := Aside0.mk ho5; have HG5 := Aside0.mk hg5; clear ho5 hg5 hat5))
            go_roundg k1
            case rel =>
              have kg := grown_keep HG5.out
              refine ⟨j + 1, A5, c5, _, last1, lost1 + lostN limit cur1, [], H2, rfl, by go_num, by omega, by omega, ⟨by rw [HX.out, HOut.out, NH.out]; rfl⟩, ⟨HS2.out.keep kg ?_ ?_⟩, HO5, ⟨HK2.out.grown HG5.out ?_⟩, ⟨fun k e => by simp [Value.ownBlock] at e⟩⟩
              · intro e
                obtain ⟨cs, fr, h1⟩ := R_typed HO2.out g e.symm
                exact ne_typed h1 HS2.out.blk (by decide) rfl
              · intro k e
                simp [Value.ownBlock] at e
              · intro k e
                obtain ⟨inner, ho⟩ := Kd.R_own HO2.out
                exact .inr (own_base ho k e)
            case measure => omega
          | false =>
            go_wp2_with (first
              | (go_at_call 36; (with_reducible refine (Stream_line HS.out hs.1 (by omega) (by omega)).mono ?_); rintro e w2 ⟨s, rfl, hout, hs2, hk2⟩; rw [hlb] at hout ⊢; have HOut := Aside0.mk hout; have HS2 := Aside0.mk hs2; have HO2 := Aside0.mk (R_keep HO.out hk2 (fun k e eg => by subst eg; obtain ⟨cs, fr, h1⟩ := R_typed HO.out k e; exact ne_typed h1 HS.out.blk (by decide) rfl)); have HK2 := Aside0.mk (HK.out.trans hk2 (fun k _ h => h) (fun k _ h => .inl h)); clear hout hs2 hk2 HO HK HS))
            go_roundg k1
            case rel => exact ⟨j + 1, A, c, _, last1, lost1 + lostN limit cur1, [], acc, rfl, by go_num, by omega, by omega, ⟨by rw [HX.out, HOut.out]; simp [oneIf]⟩, HS2, HO2, HK2, ⟨fun k e => by simp [Value.ownBlock] at e⟩⟩
            case measure => omega
        · rw [if_neg h10] at hstep
          have d2 : (x == 10) = false := beq_eq_false_iff_ne.mpr h10
          have HX := Aside0.mk hstep
          obtain ⟨Ar, cr, ev⟩ := Kd.R_slice HS.out.row
          subst ev
          have hrl : (cur1.take (limit + 1).toNat).length = min (limit + 1).toNat cur1.length := List.length_take
          have s0 := blk_cell HS.out.blk 0
          have s1 := blk_cell HS.out.blk 1
          have s3 := blk_cell HS.out.blk 3
          have HG := Aside0.mk (show g < wr.heap.size from blk_lt HS.out.blk)
          clear hstep h10
          by_cases hle : (cur1.length : Int) ≤ limit
          · have HT := Aside0.mk (take_push cur1 x limit.toNat (by omega))
            obtain ⟨rs, hrs⟩ : ∃ rs, rs = cur1.take (limit + 1).toNat := ⟨_, rfl⟩
            rw [← hrs] at s1 hrl
            have HRS := Aside0.mk hrs
            have d3 : decide ((rs.length : Int) ≤ limit) = true := decide_eq_true (by omega)
            have hrm : rs.length ≤ 1025 := by omega
            clear hrl
            have f1 := blk_frozen HS.out.blk 1
            clear hrs
            go_wp2
            go_quiet (fail)
            go_wp2_with (first
              | ((with_reducible refine gate_builtin (b := .append) (xs := #[.tmp 45, .tmp 47]) rfl ?_); at_builtin; refine Kd.R_append (Kd.int .u8) (w0 := wr.drewN nq) B rfl (.tmp 45) (.tmp 47) 22 5 (.int .u8 0) 1 rfl Try.underlying22 info5 rfl (by decide) (by omega) (.slice Ar rs.length cr) rs x [.int .u8 x] (fun k => k ≠ g) (fun _ => False) rfl rfl ?aP (fun _ hk => hk.elim) ?aF ?aO ?aB ?aS ?aL ?_; (case aP => exact rfl); (case aB => exact Below.refl _ _); (case aF => exact (fun k hk => by have := HG.out; simp only [World.heap_drewN] at hk; omega)); (case aO => exact (by rw [HRS.out]; exact R_keep HS.out.row ((Keep.refl wr (fun _ => False)).drewN nq) (fun _ _ h => h))); (case aS => exact (by simp only [World.heap_drewN]; omega)); (case aL => omega); intro v2 w2 ho2 _ hg2 hat2; obtain ⟨H2, hH2⟩ : ∃ l : List Int, l = rs ++ [x] := ⟨_, rfl⟩; rw [← hH2] at ho2; have NH2 := Aside0.mk hH2; clear hH2; obtain ⟨A2, cp2, ev2⟩ := Kd.R_slice ho2; subst ev2; have b2 := (hg2.block g (by simp only [World.heap_drewN]; exact HG.out) (fun e => HS.out.row.1 g (by rw [HRS.out] at e; exact e.symm) rfl)).trans HS.out.blk; have g1 := blk_frozen b2 1; have gc1 := blk_cell b2 1; have b3 := blk_put b2 1 (.slice A2 H2.length cp2) rfl; have g3 := blk_cell b3 3; have gf3 := blk_frozen b3 3; have b4 := blk_put b3 3 (.int .i64 ((cur1.length : Int) + 1)) rfl; have gf2 := blk_frozen b4 2; have gc2 := blk_cell b4 2; have HB5 := Aside0.mk (blk_put b4 2 (.int .u8 x) rfl); have HO2 := Aside0.mk ho2; have HG2 := Aside0.mk hg2; have HAT2 := Aside0.mk hat2; clear ho2 hg2 hat2 b2 b3 b4))
            go_roundg k1
            case rel =>
              have hk0 : Keep wr w2 (fun k => some k = (Value.slice Ar rs.length cr).ownBlock) := ((Keep.refl wr _).drewN nq).grown HG2.out (fun k e => .inl e.symm)
              have hk5 : Keep wr (((w2.setCell ⟨g, 1, none⟩ (.slice A2 H2.length cp2)).setCell ⟨g, 3, none⟩ (.int .i64 ((cur1.length : Int) + 1))).setCell ⟨g, 2, none⟩ (.int .u8 x)) (fun k => k = g ∨ some k = (Value.slice Ar rs.length cr).ownBlock) :=
                (((hk0.mono (S' := fun k => k = g ∨ some k = (Value.slice Ar rs.length cr).ownBlock) (fun k _ h => .inr h)).set ⟨g, 1, none⟩ _ (.inl (.inl rfl))).set ⟨g, 3, none⟩ _ (.inl (.inl rfl))).set ⟨g, 2, none⟩ _ (.inl (.inl rfl))
              refine ⟨j + 1, A, c, .slice A2 H2.length cp2, x, lost1, cur1 ++ [x], acc, rfl, by go_num, by omega, by omega, HX, ⟨HS.out.more _ HB5.out ?_⟩, ⟨R_keep HO.out hk5 ?_⟩, ⟨HK.out.trans hk5 (fun k _ h => h) ?_⟩, ⟨?_⟩⟩
              · rw [show (limit + 1).toNat = limit.toNat + 1 by omega, HT.out, show limit.toNat + 1 = (limit + 1).toNat by omega, ← HRS.out, ← NH2.out]
                exact R_keep HO2.out ((((Keep.refl w2 (fun k => k = g)).set ⟨g, 1, none⟩ _ (.inl rfl)).set ⟨g, 3, none⟩ _ (.inl rfl)).set ⟨g, 2, none⟩ _ (.inl rfl)) (fun k e eg => HO2.out.1 k e eg)
              · intro k e
                obtain ⟨cs, fr, h1⟩ := R_typed HO.out k e
                rintro (eg | eg)
                · exact ne_typed h1 HS.out.blk (by decide) eg
                · rw [HRS.out] at eg
                  obtain ⟨cs, fr, h2⟩ := R_typed HS.out.row k eg.symm
                  exact ne_typed h1 h2 (by decide) rfl
              · intro k hk hc
                rcases hc with hc | hc
                · exact .inl hc
                · rcases HW.out k (by rw [HRS.out] at hc; exact hc.symm) with h | h
                  · exact .inr h
                  · omega
              · intro k e
                rcases HAT2.out with e2 | ⟨q, e2, hq⟩
                · exact HW.out k (by rw [e2, HRS.out] at e; exact e)
                · rw [e] at e2
                  injection e2 with e2
                  subst e2
                  simp only [World.heap_drewN] at hq
                  exact .inr (by omega)
            case measure => omega
          · have HT := Aside0.mk (take_full cur1 x limit.toNat (by omega))
            obtain ⟨rs, hrs⟩ : ∃ rs, rs = cur1.take (limit + 1).toNat := ⟨_, rfl⟩
            rw [← hrs] at s1 hrl
            have HRS := Aside0.mk hrs
            have d3 : decide ((rs.length : Int) ≤ limit) = false := decide_eq_false (by omega)
            clear hrl
            clear hrs
            go_wp2
            go_quiet (fail)
            have b0 := (show (wr.drewN nq).heap[g]? = wr.heap[g]? by rw [World.heap_drewN]).trans HS.out.blk
            have e3 := blk_cell b0 3
            have f3 := blk_frozen b0 3
            have b4 := blk_put b0 3 (.int .i64 ((cur1.length : Int) + 1)) rfl
            have f2 := blk_frozen b4 2
            have e2 := blk_cell b4 2
            have HB5 := Aside0.mk (blk_put b4 2 (.int .u8 x) rfl)
            clear b0 b4
            go_wp2
            go_roundg k1
            case rel =>
              have hk5 : Keep wr (((wr.drewN nq).setCell ⟨g, 3, none⟩ (.int .i64 ((cur1.length : Int) + 1))).setCell ⟨g, 2, none⟩ (.int .u8 x)) (fun k => k = g) :=
                (((Keep.refl wr (fun k => k = g)).drewN nq).set ⟨g, 3, none⟩ _ (.inl rfl)).set ⟨g, 2, none⟩ _ (.inl rfl)
              refine ⟨j + 1, A, c, .slice Ar rs.length cr, x, lost1, cur1 ++ [x], acc, rfl, by go_num, by omega, by omega, HX, ⟨HS.out.more _ (by rw [HRS.out]; exact HB5.out) ?_⟩, ⟨R_keep HO.out hk5 ?_⟩, ⟨HK.out.trans hk5 (fun k _ h => h) (fun k _ h => .inl h)⟩, ⟨fun k e => HW.out k (by rw [HRS.out] at e; exact e)⟩⟩
              · rw [show (limit + 1).toNat = limit.toNat + 1 by omega, HT.out, show limit.toNat + 1 = (limit + 1).toNat by omega, HRS.out]
                exact R_keep HS.out.row hk5 (fun k e eg => HS.out.row.1 k e eg)
              · intro k e eg
                obtain ⟨cs, fr, h1⟩ := R_typed HO.out k e
                exact ne_typed h1 HS.out.blk (by decide) eg
            case measure => omega
    · have d1 : decide ((j : Int) < b.length) = false := decide_eq_false (by omega)
      have hj : b.take j = b := List.take_of_length_le (by omega)
      have hE := HE.out
      rw [hj, HF.out] at hE
      simp only [Prod.mk.injEq] at hE
      obtain ⟨⟨rfl, rfl⟩, rfl⟩ := hE
      clear HE HF hj
      go_wp2
      go_ret
      exact ⟨_, _, _, _, rfl, HS.out, HO.out, HK.out, HW.out⟩
end Go.Proofs.Ytoflnoaabjomaaa.Q
