import Derived.Test.YtoflnoaabjomaaaQBack
import Derived.Test.YtoflnoaabjomaaaVOpen
namespace Go.Proofs.Ytoflnoaabjomaaa.Q
open Go.RowKit Go.Proofs.YtoflnoaabjomaaaW.PrintWords Go.Proofs.YtoflnoaabjomaaaW.PrintLast Go.Proofs.YtoflnoaabjomaaaW.PrintMore Go.Proofs.YtoflnoaabjomaaaV
set_option linter.unusedVariables false
set_option linter.unusedSimpArgs false

def tumblerlaw05_WireBack.f (a0 : Int) (l1 : List ByteArray) : Option Bool := if 1 + ((l1.map (fun s => s.size + 1)).sum + 1) ≤ 1048576 then some true else none

set_option maxHeartbeats 3200000 in
set_option maxRecDepth 4000 in
theorem tumblerlaw05_WireBack.calls (a0 : Int) (A1 : Option Addr) (c1 : Nat) (l1 : List ByteArray) (r : Bool) (w : World) (hr1 : Kd.C Kd.string w A1 l1.length l1) (hc1 : l1.length ≤ c1) (h : tumblerlaw05_WireBack.f a0 l1 = some r) :
    Calls Try.prog 5 #[.int .i64 a0, .slice A1 l1.length c1] w fun e w' => e = .returned (.bool r) ∧ Below w.heap.size w w' := by
  obtain ⟨hb, rfl⟩ : 1 + ((l1.map (fun s => s.size + 1)).sum + 1) ≤ 1048576 ∧ r = true := by
    unfold tumblerlaw05_WireBack.f at h
    split at h
    · exact ⟨by assumption, (Option.some.inj h).symm⟩
    · cases h
  clear h
  have HA := Aside0.mk (Pure.alive_f 30 (by omega))
  have hln := bulk_len l1
  have hll : l1.length ≤ 1048576 := by omega
  clear hln
  by_cases hs : 1 ≤ a0 ∧ a0 ≤ 65536
  · have HR1 := Aside0.mk hr1
    have HB1 := Aside0.mk hb
    have t1 : decide (a0 < 1) = false := decide_eq_false (by omega)
    have t2 : decide (65536 < a0) = false := decide_eq_false (by omega)
    clear hr1 hb
    go_enter Try.func5, Try.ntmps5
    go_wp2_with (first
      | (go_at_call 14; (with_reducible refine (NewPacker_yes a0 _ hs.1 hs.2).mono ?_); rintro e w1 ⟨rfl, hp1, hb1⟩; have HP := Aside0.mk hp1; have HB := Aside0.mk hb1; clear hp1 hb1))
    have hS : BackAt w1 w.heap.size w.heap.size a0 (.slice none 0 0) (bytesOf (joinB [])) (.slice none 0 0) [] (.slice none 0 0) [] := ⟨HP.out, Kd.R_nil _ _ _ _ _, Kd.R_nil _ _ _ _ _⟩
    have HS0 := Aside0.mk hS
    have HK0 := HB
    clear hS HP HB
    go_loopg [7, 8, 9, 10] (l1.length + 2) (fun kq v7 v8 v9 v10 w' => ∃ (k : Nat) (L took got : List ByteArray) (v : Value) (At Ag : Option Addr) (ct cg : Nat) (last : Int), v7 = .slice At took.length ct ∧ v8 = .slice Ag got.length cg ∧ v9 = .int .i64 last ∧ v10 = .int .i64 k ∧ k + kq = l1.length + 2 ∧ k ≤ l1.length + 1 ∧ Aside0 (BackAt w' w.heap.size w.heap.size a0 v (bytesOf (joinB L)) (.slice At took.length ct) took (.slice Ag got.length cg) got) ∧ Aside0 (Lines a0 L) ∧ Aside0 (took = got ++ L) ∧ Aside0 (took.length ≤ k) ∧ Aside0 (k ≤ l1.length → Nx a0 last L) ∧ Aside0 (k = l1.length + 1 → L = []) ∧ Aside0 (Below w.heap.size w w'))
    case atStart => exact ⟨0, [], [], [], _, none, none, 0, 0, -1, rfl, rfl, rfl, rfl, by omega, by omega, HS0, ⟨Lines.nil hs.1⟩, ⟨rfl⟩, ⟨Nat.le_refl _⟩, ⟨fun _ => .inl rfl⟩, ⟨fun e => by omega⟩, HK0⟩
    case round =>
      clear HS0 HK0
      obtain ⟨k, L, took, got, v, At, Ag, ct, cg, last, rfl, rfl, rfl, rfl, hkq, hk9, HS, HL, HQ, HM, HN, HZ, HK⟩ := hrel
      have hB := HK.out.size
      by_cases hle : k ≤ l1.length
      · cases gk with
        | zero => omega
        | succ k1 =>
          have d1 : decide ((k : Int) ≤ l1.length) = true := decide_eq_true (by omega)
          have hjs : (joinB L).size ≤ 65536 := by have := HL.out.fit; omega
          have hnx := HN.out hle
          clear HN HZ
          by_cases hend : k = l1.length
          · have d2 : ((k : Int) == l1.length) = true := by simp; omega
            by_cases h0 : (joinB L).size = 0
            · obtain rfl := joinB_empty HL.out.good h0
              have d3 : (((joinB []).size : Int) == 0) = true := rfl
              clear h0 hnx
              go_wp2_with (first
                | (go_at_call 16; (with_reducible refine (Packer_FlushL HS.out.p hs.1 hB (by omega)).mono ?_); rintro e w4 ⟨Ao, co, v4, rfl, hp4, ho4, hk4⟩; have HS_ := Aside0.mk (HS.out.stepP hp4 hk4); have HK_ := Aside0.mk (HK.out.trans (HS.out.p.foot hB hk4)); clear HS HK hB; have HS := HS_; have HK := HK_; clear HS_ HK_; have hB : w.heap.size ≤ w4.heap.size := HK.out.size; have HO := Aside0.mk ho4; clear hp4 hk4 ho4))
              go_roundg k1
              case rel => exact ⟨k + 1, [], took, got, _, At, Ag, ct, cg, last, rfl, rfl, rfl, by go_num, by omega, by omega, HS, ⟨Lines.nil hs.1⟩, HQ, ⟨by have := HM.out; omega⟩, ⟨fun e => by omega⟩, ⟨fun _ => rfl⟩, HK⟩
              case measure => omega
            · have hp : 0 < L.length := by
                rcases L with _ | ⟨x, r⟩
                · exact absurd rfl h0
                · simp
              have HD := Aside0.mk (split_join L HL.out.good hp (by omega))
              have d3 : (((joinB L).size : Int) == 0) = false := beq_eq_false_iff_ne.mpr (by omega)
              obtain ⟨D, hD⟩ : ∃ D, D = joinB L := ⟨_, rfl⟩
              have HDE := Aside0.mk hD
              rw [← hD] at HD d3
              clear hD h0
              have hDs : decide (a0 < (D.size : Int)) = false := decide_eq_false (by have := HL.out.fit; rw [← HDE.out] at this; omega)
              have hLz : ((L.length : Int) == 0) = false := beq_eq_false_iff_ne.mpr (by omega)
              rcases hnx with rfl | ⟨n1, n2, x, rr, hLx, n3⟩
              · go_wp2_with (first
                  | (go_at_call 16; (with_reducible refine (Packer_FlushE HDE.out HS.out.p hs.1 hB (by omega)).mono ?_); rintro e w4 ⟨Ao, co, v4, rfl, hp4, ho4, hk4⟩; have HS_ := Aside0.mk (HS.out.stepP hp4 hk4); have HK_ := Aside0.mk (HK.out.trans (HS.out.p.foot hB hk4)); clear HS HK hB; have HS := HS_; have HK := HK_; clear HS_ HK_; have hB : w.heap.size ≤ w4.heap.size := HK.out.size;  have HO := Aside0.mk ho4; clear hp4 hk4 ho4)
                  | (go_at_call 11; (with_reducible refine (wire_SplitE _ _ HO.out HD.out).mono ?_); rintro e w7 ⟨Al, cl, rfl, hl7, hb7⟩; have HS_ := Aside0.mk (HS.out.quiet hb7); have HK_ := Aside0.mk (below_step HK.out hb7); clear HS HK hB; have HS := HS_; have HK := HK_; clear HS_ HK_; have hB : w.heap.size ≤ w7.heap.size := HK.out.size; have HLR := Aside0.mk (Kd.R_reads' hl7).2.2; clear hl7 hb7)
                  | ((with_reducible refine gate_builtin (b := .append) (xs := #[.tmp 120, .tmp 121]) rfl ?_); at_builtin; refine Kd.R_append_row Value.string (⟨#[]⟩ : ByteArray) (h1 := fun _ => rfl) (w0 := w7) w.heap.size rfl (.tmp 120) (.tmp 121) 24 9 (.string ⟨#[]⟩) 16 rfl Try.underlying24 info9 rfl (by decide) (.slice Ag got.length cg) got L (Al) L.length cl (fun k => some k ≠ (Value.slice At took.length ct).ownBlock) rfl rfl ?aF ?aO ?aR ?aB ?aS ?aL ?_; (case aF => exact (fun k hk e => by have := R_lt' HS.out.t k e.symm; omega)); (case aO => exact HS.out.g); (case aR => exact HLR.out); (case aB => exact Below.refl _ _); (case aS => exact hB); (case aL => exact (by have := HM.out; have := congrArg List.length HQ.out; simp only [List.length_append] at this; omega)); intro v8 w8 ho8 _ hg8 hat8; obtain ⟨G2, hG2⟩ : ∃ l : List ByteArray, l = got ++ L := ⟨_, rfl⟩; rw [← hG2] at ho8; have HH := Aside0.mk hG2; clear hG2; obtain ⟨A8, c8, ev8⟩ := Kd.R_slice ho8; subst ev8; have HS_ := Aside0.mk (HS.out.stepG ho8 hg8); have HK_ := Aside0.mk (HK.out.trans (HS.out.footG hB hg8)); clear HS HK hB; have HS := HS_; have HK := HK_; clear HS_ HK_; have hB : w.heap.size ≤ w8.heap.size := HK.out.size; clear ho8 hg8 hat8))
                go_roundg k1
                case rel => exact ⟨k + 1, [], took, G2, _, At, A8, ct, c8, (D.size : Int), rfl, rfl, rfl, by go_num, by omega, by omega, HS, ⟨Lines.nil hs.1⟩, ⟨by rw [HH.out, List.append_nil]; exact HQ.out⟩, ⟨by have := HM.out; omega⟩, ⟨fun e => by omega⟩, ⟨fun _ => rfl⟩, HK⟩
                case measure => omega
              · have HL1 := Aside0.mk hLx
                have hxs : x.size ≤ D.size := by rw [HDE.out, hLx]; exact joinB_first
                have n9 : decide (0 ≤ last) = true := decide_eq_true n1
                have n8 : decide (last + 1 + x.size ≤ a0) = false := decide_eq_false (by omega)
                have hLp : 0 < L.length := hp
                have hDb : D.size ≤ 65536 := by rw [HDE.out]; exact hjs
                clear hLx
                go_wp2_with (first
                  | (go_at_call 16; (with_reducible refine (Packer_FlushE HDE.out HS.out.p hs.1 hB (by omega)).mono ?_); rintro e w4 ⟨Ao, co, v4, rfl, hp4, ho4, hk4⟩; have HS_ := Aside0.mk (HS.out.stepP hp4 hk4); have HK_ := Aside0.mk (HK.out.trans (HS.out.p.foot hB hk4)); clear HS HK hB; have HS := HS_; have HK := HK_; clear HS_ HK_; have hB : w.heap.size ≤ w4.heap.size := HK.out.size;  have HO := Aside0.mk ho4; clear hp4 hk4 ho4)
                  | (go_at_call 11; (with_reducible refine (wire_SplitE _ _ HO.out HD.out).mono ?_); rintro e w7 ⟨Al, cl, rfl, hl7, hb7⟩; have HS_ := Aside0.mk (HS.out.quiet hb7); have HK_ := Aside0.mk (below_step HK.out hb7); clear HS HK hB; have HS := HS_; have HK := HK_; clear HS_ HK_; have hB : w.heap.size ≤ w7.heap.size := HK.out.size; have HLR := Aside0.mk (Kd.R_reads' hl7).2.2; obtain ⟨al, eal, hal⟩ := at_S0' HLR.out HL1.out; subst eal; clear hl7 hb7)
                  | ((with_reducible refine gate_builtin (b := .append) (xs := #[.tmp 120, .tmp 121]) rfl ?_); at_builtin; refine Kd.R_append_row Value.string (⟨#[]⟩ : ByteArray) (h1 := fun _ => rfl) (w0 := w7) w.heap.size rfl (.tmp 120) (.tmp 121) 24 9 (.string ⟨#[]⟩) 16 rfl Try.underlying24 info9 rfl (by decide) (.slice Ag got.length cg) got L (some al) L.length cl (fun k => some k ≠ (Value.slice At took.length ct).ownBlock) rfl rfl ?aF ?aO ?aR ?aB ?aS ?aL ?_; (case aF => exact (fun k hk e => by have := R_lt' HS.out.t k e.symm; omega)); (case aO => exact HS.out.g); (case aR => exact HLR.out); (case aB => exact Below.refl _ _); (case aS => exact hB); (case aL => exact (by have := HM.out; have := congrArg List.length HQ.out; simp only [List.length_append] at this; omega)); intro v8 w8 ho8 _ hg8 hat8; obtain ⟨G2, hG2⟩ : ∃ l : List ByteArray, l = got ++ L := ⟨_, rfl⟩; rw [← hG2] at ho8; have HH := Aside0.mk hG2; clear hG2; obtain ⟨A8, c8, ev8⟩ := Kd.R_slice ho8; subst ev8; have HS_ := Aside0.mk (HS.out.stepG ho8 hg8); have HK_ := Aside0.mk (HK.out.trans (HS.out.footG hB hg8)); clear HS HK hB; have HS := HS_; have HK := HK_; clear HS_ HK_; have hB : w.heap.size ≤ w8.heap.size := HK.out.size; clear ho8 hg8 hat8))
                go_roundg k1
                case rel => exact ⟨k + 1, [], took, G2, _, At, A8, ct, c8, (D.size : Int), rfl, rfl, rfl, by go_num, by omega, by omega, HS, ⟨Lines.nil hs.1⟩, ⟨by rw [HH.out, List.append_nil]; exact HQ.out⟩, ⟨by have := HM.out; omega⟩, ⟨fun e => by omega⟩, ⟨fun _ => rfl⟩, HK⟩
                case measure => omega
          · have hlt : k < l1.length := by omega
            have d2 : ((k : Int) == l1.length) = false := beq_eq_false_iff_ne.mpr (by omega)
            obtain ⟨s, hx⟩ : ∃ s, s = l1[k] := ⟨_, rfl⟩
            have hsz : s.size ≤ 1048576 := by
              have := bulk_mem (List.getElem_mem hlt)
              have := HB1.out
              rw [← hx] at *
              omega
            obtain ⟨ad, eA, -⟩ := Kd.at_string HR1.out (k : Int) (by omega) (by omega)
            subst eA
            have HX := Aside0.mk hx
            have hc := at_S2 (Kd.C_below HR1.out HK.out) hlt HX.out
            clear hx
            by_cases hbad : badLine s
            · have HD1 := Aside0.mk (show addP a0 L s = (⟨#[]⟩, 51, L) by unfold addP; rw [if_pos hbad])
              have HF := Aside0.mk (Fit_f s hsz false (by simp [hbad]))
              obtain ⟨out, hout⟩ : ∃ out : ByteArray, out = ⟨#[]⟩ := ⟨_, rfl⟩
              rw [← hout] at HD1
              have d3 : ((out.size : Int) == 0) = true := by rw [hout]; rfl
              clear hout hbad
              go_wp2_with (first
                | (go_at_call 18; (with_reducible refine (Packer_AddE s HD1.out HS.out.p HL.out hs.1 hs.2 hB (by omega)).mono ?_); rintro e w4 ⟨Ao, co, v4, rfl, hp4, ho4, hk4⟩; have HS_ := Aside0.mk (HS.out.stepP hp4 hk4); have HK_ := Aside0.mk (HK.out.trans (HS.out.p.foot hB hk4)); clear HS HK hB; have HS := HS_; have HK := HK_; clear HS_ HK_; have hB : w.heap.size ≤ w4.heap.size := HK.out.size; have HO := Aside0.mk ho4; have hc4 := at_S2 (Kd.C_below HR1.out HK.out) hlt HX.out; clear hp4 hk4 ho4)
                | (go_at_call 22; (with_reducible refine (tumblerref05_Fit.calls _ s _ _ HF.out).mono ?_); rintro e w6 ⟨rfl, hb6⟩; have HO_ := Aside0.mk (d_quiet HO.out hb6); clear HO; have HO := HO_; clear HO_; have HS_ := Aside0.mk (HS.out.quiet hb6); have HK_ := Aside0.mk (below_step HK.out hb6); clear HS HK hB; have HS := HS_; have HK := HK_; clear HS_ HK_; have hB : w.heap.size ≤ w6.heap.size := HK.out.size; have hc6 := at_S2 (Kd.C_below HR1.out HK.out) hlt HX.out; clear hb6))
              go_roundg k1
              case rel => exact ⟨k + 1, L, took, got, _, At, Ag, ct, cg, last, rfl, rfl, rfl, by go_num, by omega, by omega, HS, HL, HQ, ⟨by have := HM.out; omega⟩, ⟨fun _ => hnx⟩, ⟨fun e => by omega⟩, HK⟩
              case measure => omega
            · have HF := Aside0.mk (Fit_f s hsz true (by simp [hbad]))
              by_cases hlong : a0 < (s.size : Int)
              · have HD1 := Aside0.mk (show addP a0 L s = (⟨#[]⟩, 2, L) by unfold addP; rw [if_neg hbad, if_pos hlong])
                obtain ⟨out, hout⟩ : ∃ out : ByteArray, out = ⟨#[]⟩ := ⟨_, rfl⟩
                rw [← hout] at HD1
                have d3 : ((out.size : Int) == 0) = true := by rw [hout]; rfl
                have d4 : decide ((s.size : Int) ≤ a0) = false := decide_eq_false (by omega)
                clear hout hbad hlong
                go_wp2_with (first
                  | (go_at_call 18; (with_reducible refine (Packer_AddE s HD1.out HS.out.p HL.out hs.1 hs.2 hB (by omega)).mono ?_); rintro e w4 ⟨Ao, co, v4, rfl, hp4, ho4, hk4⟩; have HS_ := Aside0.mk (HS.out.stepP hp4 hk4); have HK_ := Aside0.mk (HK.out.trans (HS.out.p.foot hB hk4)); clear HS HK hB; have HS := HS_; have HK := HK_; clear HS_ HK_; have hB : w.heap.size ≤ w4.heap.size := HK.out.size; have HO := Aside0.mk ho4; have hc4 := at_S2 (Kd.C_below HR1.out HK.out) hlt HX.out; clear hp4 hk4 ho4)
                  | (go_at_call 22; (with_reducible refine (tumblerref05_Fit.calls _ s _ _ HF.out).mono ?_); rintro e w6 ⟨rfl, hb6⟩; have HO_ := Aside0.mk (d_quiet HO.out hb6); clear HO; have HO := HO_; clear HO_; have HS_ := Aside0.mk (HS.out.quiet hb6); have HK_ := Aside0.mk (below_step HK.out hb6); clear HS HK hB; have HS := HS_; have HK := HK_; clear HS_ HK_; have hB : w.heap.size ≤ w6.heap.size := HK.out.size; have hc6 := at_S2 (Kd.C_below HR1.out HK.out) hlt HX.out; clear hb6))
                go_roundg k1
                case rel => exact ⟨k + 1, L, took, got, _, At, Ag, ct, cg, last, rfl, rfl, rfl, by go_num, by omega, by omega, HS, HL, HQ, ⟨by have := HM.out; omega⟩, ⟨fun _ => hnx⟩, ⟨fun e => by omega⟩, HK⟩
                case measure => omega
              · have d4 : decide ((s.size : Int) ≤ a0) = true := decide_eq_true (by omega)
                by_cases hfull : 0 < L.length ∧ a0 < ((joinB L).size : Int) + 1 + s.size
                · have HD1 := Aside0.mk (show addP a0 L s = (joinB L, 0, [s]) by unfold addP; rw [if_neg hbad, if_neg hlong, if_pos hfull])
                  have HL' := Aside0.mk (HL.out.add HD1.out)
                  have hp := hfull.1
                  have HD := Aside0.mk (split_join L HL.out.good hp (by omega))
                  have hpz := joinB_len L HL.out.good
                  have d3 : (((joinB L).size : Int) == 0) = false := beq_eq_false_iff_ne.mpr (by omega)
                  obtain ⟨D, hD⟩ : ∃ D, D = joinB L := ⟨_, rfl⟩
                  have HDE := Aside0.mk hD
                  rw [← hD] at HD HD1 d3
                  have HFull := Aside0.mk (show a0 < (D.size : Int) + 1 + s.size by rw [hD]; exact hfull.2)
                  clear hD hbad hlong hfull hpz
                  have hDs : decide (a0 < (D.size : Int)) = false := decide_eq_false (by have := HL.out.fit; rw [← HDE.out] at this; omega)
                  have hLz : ((L.length : Int) == 0) = false := beq_eq_false_iff_ne.mpr (by omega)
                  rcases hnx with rfl | ⟨n1, n2, x, rr, hLx, n3⟩
                  · go_wp2_with (first
                      | (go_at_call 18; (with_reducible refine (Packer_AddE s HD1.out HS.out.p HL.out hs.1 hs.2 hB (by omega)).mono ?_); rintro e w4 ⟨Ao, co, v4, rfl, hp4, ho4, hk4⟩; have HS_ := Aside0.mk (HS.out.stepP hp4 hk4); have HK_ := Aside0.mk (HK.out.trans (HS.out.p.foot hB hk4)); clear HS HK hB; have HS := HS_; have HK := HK_; clear HS_ HK_; have hB : w.heap.size ≤ w4.heap.size := HK.out.size; have HO := Aside0.mk ho4; have hc4 := at_S2 (Kd.C_below HR1.out HK.out) hlt HX.out; clear hp4 hk4 ho4)
                      | ((with_reducible refine gate_builtin (b := .append) (xs := #[.tmp 64, .tmp 69]) rfl ?_); at_builtin; refine Kd.R_append Kd.string (w0 := w4) w.heap.size rfl (.tmp 64) (.tmp 69) 24 9 (.string ⟨#[]⟩) 16 rfl Try.underlying24 info9 rfl (by decide) (by omega) (.slice At took.length ct) took s [.string s] (fun k => some k ≠ (Value.slice Ag got.length cg).ownBlock) (fun _ => False) rfl rfl ?aP (fun _ hk => hk.elim) ?aF ?aO ?aB ?aS ?aL ?_; (case aP => exact rfl); (case aB => exact Below.refl _ _); (case aF => exact (fun k hk e => by have := R_lt' HS.out.g k e.symm; omega)); (case aO => exact HS.out.t); (case aS => exact hB); (case aL => exact (by have := HM.out; omega)); intro v5 w5 ho5 _ hg5 hat5; obtain ⟨H2, hH2⟩ : ∃ l : List ByteArray, l = took ++ [s] := ⟨_, rfl⟩; rw [← hH2] at ho5; have NH := Aside0.mk hH2; clear hH2; obtain ⟨A5, c5, ev5⟩ := Kd.R_slice ho5; subst ev5; have HO_ := Aside0.mk (d_other HO.out HS.out.t (grown_keep hg5)); clear HO; have HO := HO_; clear HO_; have HS_ := Aside0.mk (HS.out.stepT ho5 hg5); have HK_ := Aside0.mk (HK.out.trans (HS.out.footT hB hg5)); clear HS HK hB; have HS := HS_; have HK := HK_; clear HS_ HK_; have hB : w.heap.size ≤ w5.heap.size := HK.out.size; have hc5 := at_S2 (Kd.C_below HR1.out HK.out) hlt HX.out; clear ho5 hg5 hat5)
                      | (go_at_call 22; (with_reducible refine (tumblerref05_Fit.calls _ s _ _ HF.out).mono ?_); rintro e w6 ⟨rfl, hb6⟩; have HO_ := Aside0.mk (d_quiet HO.out hb6); clear HO; have HO := HO_; clear HO_; have HS_ := Aside0.mk (HS.out.quiet hb6); have HK_ := Aside0.mk (below_step HK.out hb6); clear HS HK hB; have HS := HS_; have HK := HK_; clear HS_ HK_; have hB : w.heap.size ≤ w6.heap.size := HK.out.size; have hc6 := at_S2 (Kd.C_below HR1.out HK.out) hlt HX.out; clear hb6)
                      | (go_at_call 11; (with_reducible refine (wire_SplitE _ _ HO.out HD.out).mono ?_); rintro e w7 ⟨Al, cl, rfl, hl7, hb7⟩; have HS_ := Aside0.mk (HS.out.quiet hb7); have HK_ := Aside0.mk (below_step HK.out hb7); clear HS HK hB; have HS := HS_; have HK := HK_; clear HS_ HK_; have hB : w.heap.size ≤ w7.heap.size := HK.out.size; have HLR := Aside0.mk (Kd.R_reads' hl7).2.2; clear hl7 hb7)
                      | ((with_reducible refine gate_builtin (b := .append) (xs := #[.tmp 120, .tmp 121]) rfl ?_); at_builtin; refine Kd.R_append_row Value.string (⟨#[]⟩ : ByteArray) (h1 := fun _ => rfl) (w0 := w7) w.heap.size rfl (.tmp 120) (.tmp 121) 24 9 (.string ⟨#[]⟩) 16 rfl Try.underlying24 info9 rfl (by decide) (.slice Ag got.length cg) got L (Al) L.length cl (fun k => some k ≠ (Value.slice A5 H2.length c5).ownBlock) rfl rfl ?aF ?aO ?aR ?aB ?aS ?aL ?_; (case aF => exact (fun k hk e => by have := R_lt' HS.out.t k e.symm; omega)); (case aO => exact HS.out.g); (case aR => exact HLR.out); (case aB => exact Below.refl _ _); (case aS => exact hB); (case aL => exact (by have := HM.out; have := congrArg List.length HQ.out; simp only [List.length_append] at this; omega)); intro v8 w8 ho8 _ hg8 hat8; obtain ⟨G2, hG2⟩ : ∃ l : List ByteArray, l = got ++ L := ⟨_, rfl⟩; rw [← hG2] at ho8; have HH := Aside0.mk hG2; clear hG2; obtain ⟨A8, c8, ev8⟩ := Kd.R_slice ho8; subst ev8; have HS_ := Aside0.mk (HS.out.stepG ho8 hg8); have HK_ := Aside0.mk (HK.out.trans (HS.out.footG hB hg8)); clear HS HK hB; have HS := HS_; have HK := HK_; clear HS_ HK_; have hB : w.heap.size ≤ w8.heap.size := HK.out.size; clear ho8 hg8 hat8))
                    go_roundg k1
                    case rel => exact ⟨k + 1, [s], H2, G2, _, A5, A8, c5, c8, (D.size : Int), rfl, rfl, rfl, by go_num, by omega, by omega, HS, HL', ⟨by rw [NH.out, HH.out, HQ.out]⟩, ⟨by rw [NH.out, List.length_append]; have := HM.out; simp; omega⟩, ⟨fun _ => .inr ⟨by omega, by have := HL.out.fit; rw [← HDE.out] at this; exact this, s, [], rfl, HFull.out⟩⟩, ⟨fun e => by omega⟩, HK⟩
                    case measure => omega
                  · have HL1 := Aside0.mk hLx
                    have hxs : x.size ≤ D.size := by rw [HDE.out, hLx]; exact joinB_first
                    have n9 : decide (0 ≤ last) = true := decide_eq_true n1
                    have n8 : decide (last + 1 + x.size ≤ a0) = false := decide_eq_false (by omega)
                    have hLp : 0 < L.length := hp
                    have hDb : D.size ≤ 65536 := by rw [HDE.out]; exact hjs
                    clear hLx
                    go_wp2_with (first
                      | (go_at_call 18; (with_reducible refine (Packer_AddE s HD1.out HS.out.p HL.out hs.1 hs.2 hB (by omega)).mono ?_); rintro e w4 ⟨Ao, co, v4, rfl, hp4, ho4, hk4⟩; have HS_ := Aside0.mk (HS.out.stepP hp4 hk4); have HK_ := Aside0.mk (HK.out.trans (HS.out.p.foot hB hk4)); clear HS HK hB; have HS := HS_; have HK := HK_; clear HS_ HK_; have hB : w.heap.size ≤ w4.heap.size := HK.out.size; have HO := Aside0.mk ho4; have hc4 := at_S2 (Kd.C_below HR1.out HK.out) hlt HX.out; clear hp4 hk4 ho4)
                      | ((with_reducible refine gate_builtin (b := .append) (xs := #[.tmp 64, .tmp 69]) rfl ?_); at_builtin; refine Kd.R_append Kd.string (w0 := w4) w.heap.size rfl (.tmp 64) (.tmp 69) 24 9 (.string ⟨#[]⟩) 16 rfl Try.underlying24 info9 rfl (by decide) (by omega) (.slice At took.length ct) took s [.string s] (fun k => some k ≠ (Value.slice Ag got.length cg).ownBlock) (fun _ => False) rfl rfl ?aP (fun _ hk => hk.elim) ?aF ?aO ?aB ?aS ?aL ?_; (case aP => exact rfl); (case aB => exact Below.refl _ _); (case aF => exact (fun k hk e => by have := R_lt' HS.out.g k e.symm; omega)); (case aO => exact HS.out.t); (case aS => exact hB); (case aL => exact (by have := HM.out; omega)); intro v5 w5 ho5 _ hg5 hat5; obtain ⟨H2, hH2⟩ : ∃ l : List ByteArray, l = took ++ [s] := ⟨_, rfl⟩; rw [← hH2] at ho5; have NH := Aside0.mk hH2; clear hH2; obtain ⟨A5, c5, ev5⟩ := Kd.R_slice ho5; subst ev5; have HO_ := Aside0.mk (d_other HO.out HS.out.t (grown_keep hg5)); clear HO; have HO := HO_; clear HO_; have HS_ := Aside0.mk (HS.out.stepT ho5 hg5); have HK_ := Aside0.mk (HK.out.trans (HS.out.footT hB hg5)); clear HS HK hB; have HS := HS_; have HK := HK_; clear HS_ HK_; have hB : w.heap.size ≤ w5.heap.size := HK.out.size; have hc5 := at_S2 (Kd.C_below HR1.out HK.out) hlt HX.out; clear ho5 hg5 hat5)
                      | (go_at_call 22; (with_reducible refine (tumblerref05_Fit.calls _ s _ _ HF.out).mono ?_); rintro e w6 ⟨rfl, hb6⟩; have HO_ := Aside0.mk (d_quiet HO.out hb6); clear HO; have HO := HO_; clear HO_; have HS_ := Aside0.mk (HS.out.quiet hb6); have HK_ := Aside0.mk (below_step HK.out hb6); clear HS HK hB; have HS := HS_; have HK := HK_; clear HS_ HK_; have hB : w.heap.size ≤ w6.heap.size := HK.out.size; have hc6 := at_S2 (Kd.C_below HR1.out HK.out) hlt HX.out; clear hb6)
                      | (go_at_call 11; (with_reducible refine (wire_SplitE _ _ HO.out HD.out).mono ?_); rintro e w7 ⟨Al, cl, rfl, hl7, hb7⟩; have HS_ := Aside0.mk (HS.out.quiet hb7); have HK_ := Aside0.mk (below_step HK.out hb7); clear HS HK hB; have HS := HS_; have HK := HK_; clear HS_ HK_; have hB : w.heap.size ≤ w7.heap.size := HK.out.size; have HLR := Aside0.mk (Kd.R_reads' hl7).2.2; obtain ⟨al, eal, hal⟩ := at_S0' HLR.out HL1.out; subst eal; clear hl7 hb7)
                      | ((with_reducible refine gate_builtin (b := .append) (xs := #[.tmp 120, .tmp 121]) rfl ?_); at_builtin; refine Kd.R_append_row Value.string (⟨#[]⟩ : ByteArray) (h1 := fun _ => rfl) (w0 := w7) w.heap.size rfl (.tmp 120) (.tmp 121) 24 9 (.string ⟨#[]⟩) 16 rfl Try.underlying24 info9 rfl (by decide) (.slice Ag got.length cg) got L (some al) L.length cl (fun k => some k ≠ (Value.slice A5 H2.length c5).ownBlock) rfl rfl ?aF ?aO ?aR ?aB ?aS ?aL ?_; (case aF => exact (fun k hk e => by have := R_lt' HS.out.t k e.symm; omega)); (case aO => exact HS.out.g); (case aR => exact HLR.out); (case aB => exact Below.refl _ _); (case aS => exact hB); (case aL => exact (by have := HM.out; have := congrArg List.length HQ.out; simp only [List.length_append] at this; omega)); intro v8 w8 ho8 _ hg8 hat8; obtain ⟨G2, hG2⟩ : ∃ l : List ByteArray, l = got ++ L := ⟨_, rfl⟩; rw [← hG2] at ho8; have HH := Aside0.mk hG2; clear hG2; obtain ⟨A8, c8, ev8⟩ := Kd.R_slice ho8; subst ev8; have HS_ := Aside0.mk (HS.out.stepG ho8 hg8); have HK_ := Aside0.mk (HK.out.trans (HS.out.footG hB hg8)); clear HS HK hB; have HS := HS_; have HK := HK_; clear HS_ HK_; have hB : w.heap.size ≤ w8.heap.size := HK.out.size; clear ho8 hg8 hat8))
                    go_roundg k1
                    case rel => exact ⟨k + 1, [s], H2, G2, _, A5, A8, c5, c8, (D.size : Int), rfl, rfl, rfl, by go_num, by omega, by omega, HS, HL', ⟨by rw [NH.out, HH.out, HQ.out]⟩, ⟨by rw [NH.out, List.length_append]; have := HM.out; simp; omega⟩, ⟨fun _ => .inr ⟨by omega, by have := HL.out.fit; rw [← HDE.out] at this; exact this, s, [], rfl, HFull.out⟩⟩, ⟨fun e => by omega⟩, HK⟩
                    case measure => omega
                · have HD1 := Aside0.mk (show addP a0 L s = (⟨#[]⟩, 0, L ++ [s]) by unfold addP; rw [if_neg hbad, if_neg hlong, if_neg hfull])
                  have HL' := Aside0.mk (HL.out.add HD1.out)
                  obtain ⟨out, hout⟩ : ∃ out : ByteArray, out = ⟨#[]⟩ := ⟨_, rfl⟩
                  rw [← hout] at HD1
                  have d3 : ((out.size : Int) == 0) = true := by rw [hout]; rfl
                  clear hout hbad hlong hfull
                  go_wp2_with (first
                    | (go_at_call 18; (with_reducible refine (Packer_AddE s HD1.out HS.out.p HL.out hs.1 hs.2 hB (by omega)).mono ?_); rintro e w4 ⟨Ao, co, v4, rfl, hp4, ho4, hk4⟩; have HS_ := Aside0.mk (HS.out.stepP hp4 hk4); have HK_ := Aside0.mk (HK.out.trans (HS.out.p.foot hB hk4)); clear HS HK hB; have HS := HS_; have HK := HK_; clear HS_ HK_; have hB : w.heap.size ≤ w4.heap.size := HK.out.size; have HO := Aside0.mk ho4; have hc4 := at_S2 (Kd.C_below HR1.out HK.out) hlt HX.out; clear hp4 hk4 ho4)
                    | ((with_reducible refine gate_builtin (b := .append) (xs := #[.tmp 64, .tmp 69]) rfl ?_); at_builtin; refine Kd.R_append Kd.string (w0 := w4) w.heap.size rfl (.tmp 64) (.tmp 69) 24 9 (.string ⟨#[]⟩) 16 rfl Try.underlying24 info9 rfl (by decide) (by omega) (.slice At took.length ct) took s [.string s] (fun k => some k ≠ (Value.slice Ag got.length cg).ownBlock) (fun _ => False) rfl rfl ?aP (fun _ hk => hk.elim) ?aF ?aO ?aB ?aS ?aL ?_; (case aP => exact rfl); (case aB => exact Below.refl _ _); (case aF => exact (fun k hk e => by have := R_lt' HS.out.g k e.symm; omega)); (case aO => exact HS.out.t); (case aS => exact hB); (case aL => exact (by have := HM.out; omega)); intro v5 w5 ho5 _ hg5 hat5; obtain ⟨H2, hH2⟩ : ∃ l : List ByteArray, l = took ++ [s] := ⟨_, rfl⟩; rw [← hH2] at ho5; have NH := Aside0.mk hH2; clear hH2; obtain ⟨A5, c5, ev5⟩ := Kd.R_slice ho5; subst ev5; have HO_ := Aside0.mk (d_other HO.out HS.out.t (grown_keep hg5)); clear HO; have HO := HO_; clear HO_; have HS_ := Aside0.mk (HS.out.stepT ho5 hg5); have HK_ := Aside0.mk (HK.out.trans (HS.out.footT hB hg5)); clear HS HK hB; have HS := HS_; have HK := HK_; clear HS_ HK_; have hB : w.heap.size ≤ w5.heap.size := HK.out.size; have hc5 := at_S2 (Kd.C_below HR1.out HK.out) hlt HX.out; clear ho5 hg5 hat5)
                    | (go_at_call 22; (with_reducible refine (tumblerref05_Fit.calls _ s _ _ HF.out).mono ?_); rintro e w6 ⟨rfl, hb6⟩; have HO_ := Aside0.mk (d_quiet HO.out hb6); clear HO; have HO := HO_; clear HO_; have HS_ := Aside0.mk (HS.out.quiet hb6); have HK_ := Aside0.mk (below_step HK.out hb6); clear HS HK hB; have HS := HS_; have HK := HK_; clear HS_ HK_; have hB : w.heap.size ≤ w6.heap.size := HK.out.size; have hc6 := at_S2 (Kd.C_below HR1.out HK.out) hlt HX.out; clear hb6))
                  go_roundg k1
                  case rel => exact ⟨k + 1, L ++ [s], H2, got, _, A5, Ag, c5, cg, last, rfl, rfl, rfl, by go_num, by omega, by omega, HS, HL', ⟨by rw [NH.out, HQ.out, List.append_assoc]⟩, ⟨by rw [NH.out, List.length_append]; have := HM.out; simp; omega⟩, ⟨fun _ => by rcases hnx with h | ⟨h1, h2, x, rr, hL, h3⟩; exact .inl h; exact .inr ⟨h1, h2, x, rr ++ [s], by rw [hL]; rfl, h3⟩⟩, ⟨fun e => by omega⟩, HK⟩
                  case measure => omega
      · obtain rfl := HZ.out (by omega)
        have hq := HQ.out
        rw [List.append_nil] at hq
        subst hq
        have d1 : decide ((k : Int) ≤ l1.length) = false := decide_eq_false (by omega)
        have HSM := Aside0.mk (Pure.same_f took (by have := HM.out; omega) (took.length + 1) (by omega))
        clear HN HZ HQ
        go_wp2_with (first
          | (go_at_call 10; (with_reducible refine (tumblerlaw05_same.calls (took.length + 1) At ct took Ag cg took true _ (Kd.R_reads' HS.out.t).2.2 (Kd.R_reads' HS.out.t).2.1 (Kd.R_reads' HS.out.g).2.2 (Kd.R_reads' HS.out.g).2.1 HSM.out).mono ?_); rintro e w' ⟨rfl, ⟨nd, rfl⟩⟩; have HS_ := Aside0.mk (HS.out.drewN nd); have HK_ := Aside0.mk (pw_below_drewN HK.out nd); clear HS HK; have HS := HS_; have HK := HK_; clear HS_ HK_)
          | (go_at_call 20; (with_reducible refine (Packer_Held0 HS.out.p hs.1).mono ?_); rintro e w' ⟨rfl, rfl⟩)
          | (go_at_call 13; (with_reducible refine (tumblerlaw05_alive.calls 30 true _ HA.out).mono ?_); rintro e w9 ⟨rfl, hb9⟩; have HK_ := Aside0.mk (below_step HK.out hb9); clear HK; have HK := HK_; clear HK_ hb9))
        go_ret
        exact ⟨rfl, HK.out⟩
  · have HB := Aside0.mk (Below.refl w.heap.size w)
    clear hr1 hb hc1
    go_enter Try.func5, Try.ntmps5
    by_cases t1 : a0 < 1
    · have d1 : decide (a0 < 1) = true := decide_eq_true t1
      go_wp2_with (first
        | (go_at_call 14; (with_reducible refine (NewPacker_no a0 _ hs).mono ?_); rintro e w1 ⟨rfl, rfl⟩)
        | (go_at_call 13; (with_reducible refine (tumblerlaw05_alive.calls 30 true _ HA.out).mono ?_); rintro e w3 ⟨rfl, hb3⟩; have HB2 := Aside0.mk (below_step HB.out hb3); clear hb3 HB))
      go_ret
      exact ⟨rfl, HB2.out⟩
    · have d1 : decide (a0 < 1) = false := decide_eq_false t1
      have d2 : decide (65536 < a0) = true := decide_eq_true (by omega)
      go_wp2_with (first
        | (go_at_call 14; (with_reducible refine (NewPacker_no a0 _ hs).mono ?_); rintro e w1 ⟨rfl, rfl⟩)
        | (go_at_call 13; (with_reducible refine (tumblerlaw05_alive.calls 30 true _ HA.out).mono ?_); rintro e w3 ⟨rfl, hb3⟩; have HB2 := Aside0.mk (below_step HB.out hb3); clear hb3 HB))
      go_ret
      exact ⟨rfl, HB2.out⟩
end Go.Proofs.Ytoflnoaabjomaaa.Q
