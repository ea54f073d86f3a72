import Derived.Test.YtoflnoaabjomaaaQPi
import Derived.Test.YtoflnoaabjomaaaQRs
import Derived.Test.YtoflnoaabjomaaaQWireStreams
import Derived.Test.YtoflnoaabjomaaaVOpen
import Derived.WalkSpells
namespace Go.Proofs.Ytoflnoaabjomaaa.Q
open Go.RowKit Go.Proofs.YtoflnoaabjomaaaW.PrintWords Go.Proofs.YtoflnoaabjomaaaW.PrintLast Go.Proofs.YtoflnoaabjomaaaW.PrintMore Go.Proofs.YtoflnoaabjomaaaV
set_option linter.unusedVariables false
set_option linter.unusedSimpArgs false

def tumblerlaw05_WirePieces.f (a0 : Int) (l1 : List Int) (a2 : Int) : Option Bool := if 1 + ((l1.map (fun _ => 1)).sum + 1) + 1 ≤ 1048576 then some true else none

set_option maxHeartbeats 6400000 in
set_option maxRecDepth 4000 in
theorem tumblerlaw05_WirePieces.calls (a0 : Int) (A1 : Option Addr) (c1 : Nat) (l1 : List Int) (a2 : Int) (r : Bool) (w : World) (hr1 : Kd.C (Kd.int .u8) w A1 l1.length l1) (hc1 : l1.length ≤ c1) (h : tumblerlaw05_WirePieces.f a0 l1 a2 = some r) :
    Calls Try.prog 7 #[.int .i64 a0, .slice A1 l1.length c1, .int .i64 a2] w fun e w' => e = .returned (.bool r) ∧ Below w.heap.size w w' := by
  obtain ⟨hb, rfl⟩ : 1 + ((l1.map (fun _ => 1)).sum + 1) + 1 ≤ 1048576 ∧ r = true := by
    unfold tumblerlaw05_WirePieces.f at h
    split at h
    · exact ⟨by assumption, (Option.some.inj h).symm⟩
    · cases h
  clear h
  rw [Pure.ones] at hb
  have HA := Aside0.mk (Pure.alive_f 30 (by omega))
  obtain ⟨i5, hi5, hz⟩ := Option.map_eq_some_iff.1 info5
  simp only [Prod.mk.injEq] at hz
  have HI5 := Aside0.mk hi5
  have HZ := Aside0.mk hz.2.1
  clear hi5 hz
  by_cases hs : 1 ≤ a0 ∧ a0 ≤ 1024
  · have HR1 := Aside0.mk hr1
    have t1 : decide (a0 < 1) = false := decide_eq_false (by omega)
    have t2 : decide (1024 < a0) = false := decide_eq_false (by omega)
    clear hr1
    go_enter Try.func7, Try.ntmps7
    go_upto_region 10 with (first
      | (go_at_call 23; have q_ := HN2; clear q_; (with_reducible refine (NewStream_yes a0 _ hs.1 hs.2).mono ?_); rintro e w3 ⟨rfl, hp3, hb3⟩; have HN3 := Aside0.mk hp3; have HB3 := Aside0.mk hb3; clear hp3 hb3)
      | (go_at_call 23; have q_ := HN1; clear q_; (with_reducible refine (NewStream_yes a0 _ hs.1 hs.2).mono ?_); rintro e w2 ⟨rfl, hp2, hb2⟩; have HN2 := Aside0.mk hp2; have HB2 := Aside0.mk hb2; clear hp2 hb2)
      | (go_at_call 23; (with_reducible refine (NewStream_yes a0 _ hs.1 hs.2).mono ?_); rintro e w1 ⟨rfl, hp1, hb1⟩; have HN1 := Aside0.mk hp1; have HB1 := Aside0.mk hb1; clear hp1 hb1)
      | (go_at_call 13; (with_reducible refine (tumblerlaw05_alive.calls 30 true _ HA.out).mono ?_); rintro e w4 ⟨rfl, hb4⟩; have HB4 := Aside0.mk hb4; clear hb4))
    have hlm : l1.length ≤ 1048576 := by omega
    have z1 := HB1.out.size
    have z2 := HB2.out.size
    have z3 := HB3.out.size
    have z4 := HB4.out.size
    have y1 : w.heap.size < w1.heap.size := blk_lt HN1.out.blk
    have y2 : w1.heap.size < w2.heap.size := blk_lt HN2.out.blk
    have y3 : w2.heap.size < w3.heap.size := blk_lt HN3.out.blk
    have HT0 := Aside0.mk (show Three w4 w.heap.size a0 w.heap.size w1.heap.size w2.heap.size (.slice none 0 0) (.slice none 0 0) (.slice none 0 0) 0 0 0 [] [] [] 0 0 0 from
      ⟨((((HN1.out.quiet (below_keep HB2.out)).quiet (below_keep HB3.out)).quiet (below_keep HB4.out)).at0 (Nat.le_refl _)), (((HN2.out.quiet (below_keep HB3.out)).quiet (below_keep HB4.out)).at0 (by omega)), ((HN3.out.quiet (below_keep HB4.out)).at0 (by omega)), by omega, by omega, by omega, Ap.nil _ _ _, Ap.nil _ _ _, Ap.nil _ _ _⟩)
    have HK0 := Aside0.mk (below_step (below_step (below_step HB1.out HB2.out) HB3.out) HB4.out)
    have hB0 : w.heap.size ≤ w4.heap.size := by omega
    clear HN1 HN2 HN3 HB1 HB2 HB3 HB4 z1 z2 z3 z4 y1 y2 y3
    go_cut [73] from 66 to 73 (fun v73 wx => ∃ q : Bool, v73 = .bool q ∧ Aside0 (q = false → 0 ≤ a2 ∧ a2 ≤ l1.length) ∧ wx = w4)
    case first =>
      by_cases q1 : a2 < 0
      · have e1 : decide (a2 < 0) = true := decide_eq_true q1
        go_wp2
        go_meet
        exact ⟨true, rfl, ⟨fun h => by cases h⟩, rfl⟩
      · have e1 : decide (a2 < 0) = false := decide_eq_false q1
        by_cases q2 : (l1.length : Int) < a2
        · have e2 : decide ((l1.length : Int) < a2) = true := decide_eq_true q2
          go_wp2
          go_meet
          exact ⟨true, rfl, ⟨fun h => by cases h⟩, rfl⟩
        · have e2 : decide ((l1.length : Int) < a2) = false := decide_eq_false q2
          go_wp2
          go_meet
          exact ⟨false, rfl, ⟨fun _ => by omega⟩, rfl⟩
    case rest =>
      obtain ⟨q, rfl, hq, rfl⟩ := hcut
      go_upto_if 73 with (fail)
      go_cut [2] from 74 to 76 (fun v2 wx => ∃ n : Nat, v2 = .int .i64 n ∧ n ≤ l1.length ∧ wx = wc)
      case first =>
        cases q with
        | true =>
          go_wp2
          go_meet
          exact ⟨l1.length / 2, by go_num, by omega, rfl⟩
        | false =>
          obtain ⟨q1, q2⟩ := hq.out rfl
          go_wp2
          go_meet
          exact ⟨a2.toNat, by rw [Int.toNat_of_nonneg q1], by omega, rfl⟩
      case rest =>
        obtain ⟨n, rfl, hn, rfl⟩ := hcut
        have HN := Aside0.mk hn
        obtain ⟨cu, lo, outs, hF⟩ : ∃ cu lo outs, feedS a0 l1 [] 0 = ((cu, lo), outs) := ⟨_, _, _, rfl⟩
        obtain ⟨ca, la, oa, hFa⟩ : ∃ ca la oa, feedS a0 (l1.take n) [] 0 = ((ca, la), oa) := ⟨_, _, _, rfl⟩
        obtain ⟨cb, lb, ob, hFb⟩ : ∃ cb lb ob, feedS a0 (l1.drop n) ca la = ((cb, lb), ob) := ⟨_, _, _, rfl⟩
        have hfl := feedS_len a0 l1 [] 0
        rw [hF] at hfl
        have hfla := feedS_len a0 (l1.take n) [] 0
        rw [hFa, List.length_take] at hfla
        dsimp only [List.length_nil] at hfl hfla
        obtain ⟨rfl, rfl, hoab⟩ := feed_cutat a0 l1 n hFa hFb hF
        have hoal : oa.length + ob.length = outs.length := by rw [← hoab, List.length_append]
        have hol : outs.length ≤ 1048576 := by have := hfl.2.2.2; omega
        have hla : 0 ≤ la ∧ la ≤ 1048576 := by have := hfla.2.1; have := hfla.2.2.1; omega
        have hca : ca.length ≤ 1048576 := by have := hfla.1; omega
        have HF := Aside0.mk hF
        have HFa := Aside0.mk hFa
        have HFb := Aside0.mk hFb
        have HOab := Aside0.mk hoab
        have HLt := Aside0.mk (show (l1.take n).length = n by rw [List.length_take]; omega)
        have HLd := Aside0.mk (show (l1.drop n).length = l1.length - n by rw [List.length_drop])
        have hrun0 := run_cuth (P := Try.prog) 22 5 i5 Try.underlying22 HI5.out HZ.out A1 l1.length c1 (n : Int) (by omega) (by omega) hc1
        obtain ⟨A', hrun1, hA'⟩ := run_cutl (P := Try.prog) 22 5 i5 Try.underlying22 HI5.out HZ.out A1 l1.length c1 (n : Int) (by omega) (by omega) hc1
        simp only [Int.toNat_natCast] at hrun0 hrun1
        have HR0 := Aside0.mk (show ∀ w', Below w.heap.size w w' → Kd.C (Kd.int .u8) w' A1 (l1.take n).length (l1.take n) from fun w' hb => Kd.C_below (C_take HR1.out n) hb)
        have HRd := Aside0.mk (show ∀ w', Below w.heap.size w w' → Kd.C (Kd.int .u8) w' A' (l1.drop n).length (l1.drop n) from fun w' hb => Kd.C_below (by have := hA' w l1 rfl HR1.out; rwa [Int.toNat_natCast] at this) hb)
        clear hA' hF hFa hFb hfl hfla hoab hq t1 t2
        have HT := HT0
        have HK := HK0
        have hB := hB0
        clear HT0 HK0 hB0
        go_wp2_with (first
          | (go_at_call 25; have q_ := HU2; clear q_; (with_reducible refine (Stream_FeedN HT.out.s2 hs A' (l1.length - n) (c1 - n) (l1.drop n) HLd.out (fun w' hk => HRd.out w' (HK.out.trans (HT.out.s2.footS hB hk))) hB (by rw [HLd.out]; omega) (by omega) HFb.out).mono ?_); rintro e w7 ⟨Ax, cx, v2b, t2b, rfl, hs7, ho7, hk7, hv7⟩; have HT_ := Aside0.mk (HT.out.f2 hs7 hk7 hv7); have HL_ := Aside0.mk (HL.out.byFeed HT.out.s2 hk7); have HM_ := Aside0.mk (HM.out.byFeed HT.out.s2 hk7); have HX := Aside0.mk (RowAt.mk' ho7); have HK_ := Aside0.mk (HK.out.trans (HT.out.s2.footS hB hk7)); have s67 := hk7.size; clear HT HK HL HM HU2 hB ho7 hs7 hk7 hv7; have HT := HT_; have HK := HK_; have HL := HL_; have HM := HM_; clear HT_ HK_ HL_ HM_; have hB := HK.out.size)
          | (go_at_call 25; have q_ := HU1; clear q_; (with_reducible refine (Stream_FeedN HT.out.s2 hs A1 n c1 (l1.take n) HLt.out (fun w' hk => HR0.out w' (HK.out.trans (HT.out.s2.footS hB hk))) hB (by rw [HLt.out]; simp; omega) (by omega) HFa.out).mono ?_); rintro e w6 ⟨Am, cm, v2, t2, rfl, hs6, ho6, hk6, hv6⟩; have HT_ := Aside0.mk (HT.out.f2 hs6 hk6 hv6); have HL_ := Aside0.mk (HL.out.byFeed HT.out.s2 hk6); have HM := Aside0.mk (RowAt.mk' ho6); have HU2 := Aside0.mk True.intro; have HK_ := Aside0.mk (HK.out.trans (HT.out.s2.footS hB hk6)); have s56 := hk6.size; clear HT HK HL HU1 hB ho6 hs6 hk6 hv6; have HT := HT_; have HK := HK_; have HL := HL_; clear HT_ HK_ HL_; have hB := HK.out.size)
          | (go_at_call 25; (with_reducible refine (Stream_FeedN HT.out.s1 hs A1 l1.length c1 l1 rfl (fun w' hk => Kd.C_below HR1.out (HK.out.trans (HT.out.s1.footS hB hk))) hB (by simp; omega) (by omega) HF.out).mono ?_); rintro e w5 ⟨Al, cl, v1, t1, rfl, hs5, ho5, hk5, hv5⟩; have HT_ := Aside0.mk (HT.out.f1 hs5 hk5 hv5); have HL := Aside0.mk (RowAt.mk' ho5); have HU1 := Aside0.mk True.intro; have HK_ := Aside0.mk (HK.out.trans (HT.out.s1.footS hB hk5)); clear HT HK hB ho5 hs5 hk5 hv5; have HT := HT_; have HK := HK_; clear HT_ HK_; have hB := HK.out.size; have b5 := hB)
          | ((with_reducible refine gate_builtin (b := .append) (xs := #[.tmp 85, .tmp 90]) rfl ?_); at_builtin; refine Kd.R_append_row Value.string (⟨#[]⟩ : ByteArray) (h1 := fun _ => rfl) (w0 := w7) w5.heap.size rfl (.tmp 85) (.tmp 90) 24 9 (.string ⟨#[]⟩) 16 rfl Try.underlying24 info9 rfl (by decide) (.slice Am oa.length cm) oa ob Ax ob.length cx (fun _ => True) rfl rfl ?aF ?aO ?aR ?aB ?aS ?aL ?_; (case aF => exact (fun _ _ => trivial)); (case aO => exact HM.out.row); (case aR => exact (Kd.R_reads' HX.out.row).2.2); (case aB => exact Below.refl _ _); (case aS => omega); (case aL => omega); intro v8 w8 ho8 _ hg8 hat8; rw [HOab.out] at ho8; obtain ⟨A8, c8, ev8⟩ := Kd.R_slice ho8; subst ev8; have kg := grown_keep hg8; have HT_ := Aside0.mk (HT.out.byRow HM.out.row kg); have HL_ := Aside0.mk (HL.out.byRow HM.out (Nat.le_refl _) kg); have HM_ := Aside0.mk (RowAt.mk' ho8); have HK_ := Aside0.mk (HK.out.trans (kg.below hB (fun k hk => (by obtain ⟨inner, ho⟩ := Kd.R_own HM.out.row; have := own_base ho k hk.symm; omega)))); have s78 := kg.size; clear HT HK HL HM hB ho8 hg8 hat8 kg; have HT := HT_; have HK := HK_; have HL := HL_; have HM := HM_; clear HT_ HK_ HL_ HM_; have hB := HK.out.size))
        go_loopg [15, 16] (l1.length + 1) (fun kq v15 v16 w' => ∃ (i : Nat) (acc : List ByteArray) (An : Option Addr) (cn : Nat) (v3 : Value) (t3 : Int) (c3 : List Int) (l3 : Int), v15 = .slice An acc.length cn ∧ v16 = .int .i64 i ∧ i + kq = l1.length + 1 ∧ i ≤ l1.length ∧ Aside0 (feedS a0 (l1.take i) [] 0 = ((c3, l3), acc)) ∧ Aside0 (Three w' w.heap.size a0 w.heap.size w1.heap.size w2.heap.size v1 v2b v3 t1 t2b t3 cb cb c3 lb lb l3) ∧ Aside0 (RowAt w' wc.heap.size w5.heap.size Al cl outs) ∧ Aside0 (RowAt w' w5.heap.size w8.heap.size A8 c8 outs) ∧ Aside0 (RowAt w' w8.heap.size w'.heap.size An cn acc) ∧ Aside0 (Below w.heap.size w w') ∧ w8.heap.size ≤ w'.heap.size)
        case atStart => exact ⟨0, [], none, 0, _, 0, [], 0, rfl, rfl, by omega, by omega, ⟨rfl⟩, HT, HL, HM, ⟨⟨Kd.R_nil _ _ _ _ _, fun k e => by simp [Value.ownBlock] at e⟩⟩, HK, Nat.le_refl _⟩
        case round =>
          have hB8 := hB
          clear HT HK HL HM hB hrun0 hrun1
          obtain ⟨i, acc, An, cn, v3, t3, c3, l3, rfl, rfl, hiq, hil, HFi, HT, HL, HM, HN, HK, hw8⟩ := hrel
          have hB := HK.out.size
          by_cases hlt : i < l1.length
          · cases gk with
            | zero => omega
            | succ k1 =>
              have hfli := feedS_len a0 (l1.take i) [] 0
              rw [HFi.out, List.length_take] at hfli
              dsimp only [List.length_nil] at hfli
              obtain ⟨c3b, l3b, o1, hf1⟩ : ∃ c3b l3b o1, feedS a0 ((l1.drop i).take 1) c3 l3 = ((c3b, l3b), o1) := ⟨_, _, _, rfl⟩
              have HP := Aside0.mk (feed_push a0 l1 i hlt HFi.out hf1)
              have ho1 := (feedS_len a0 ((l1.drop i).take 1) c3 l3).2.2.2
              have h1len : ((l1.drop i).take 1).length = 1 := by rw [List.length_take, List.length_drop]; omega
              rw [hf1, h1len] at ho1
              dsimp only at ho1
              have hacc : acc.length ≤ 1048576 := by have := hfli.2.2.2; omega
              have hl3 : 0 ≤ l3 ∧ l3 ≤ 1048576 := by have := hfli.2.1; have := hfli.2.2.1; omega
              have hc3 : c3.length ≤ 1048576 := by have := hfli.1; omega
              obtain ⟨A1', hrun2, hC⟩ := run_one (P := Try.prog) 22 5 i5 Try.underlying22 HI5.out HZ.out A1 l1.length c1 i hlt hc1
              have HC1 := Aside0.mk (show ∀ w', Below w.heap.size w w' → Kd.C (Kd.int .u8) w' A1' ((l1.drop i).take 1).length ((l1.drop i).take 1) from fun w' hb => Kd.C_below (hC w l1 rfl HR1.out) hb)
              have H1L := Aside0.mk h1len
              have HF1 := Aside0.mk hf1
              have d1 : decide ((i : Int) < l1.length) = true := decide_eq_true (by omega)
              clear hfli hf1 h1len hC
              go_wp2_with (first
                | (go_at_call 25; (with_reducible refine (Stream_FeedN HT.out.s3 hs A1' 1 (c1 - i) ((l1.drop i).take 1) H1L.out (fun w' hk => HC1.out w' (HK.out.trans (HT.out.s3.footS hB hk))) hB (by rw [H1L.out]; omega) (by omega) HF1.out).mono ?_); rintro e w9 ⟨Ax2, cx2, v3b, t3b, rfl, hs9, ho9, hk9, hv9⟩; have HT_ := Aside0.mk (HT.out.f3 hs9 hk9 hv9); have HL_ := Aside0.mk (HL.out.byFeed HT.out.s3 hk9); have HM_ := Aside0.mk (HM.out.byFeed HT.out.s3 hk9); have HN_ := Aside0.mk (HN.out.byFeed HT.out.s3 hk9); have HX2 := Aside0.mk (RowAt.mk' ho9); have HK_ := Aside0.mk (HK.out.trans (HT.out.s3.footS hB hk9)); have s9 := hk9.size; clear HT HK HL HM HN hB ho9 hs9 hk9 hv9; have HT := HT_; have HK := HK_; have HL := HL_; have HM := HM_; have HN := HN_; clear HT_ HK_ HL_ HM_ HN_; have hB := HK.out.size)
                | ((with_reducible refine gate_builtin (b := .append) (xs := #[.tmp 98, .tmp 105]) rfl ?_); at_builtin; refine Kd.R_append_row Value.string (⟨#[]⟩ : ByteArray) (h1 := fun _ => rfl) (w0 := w9) w8.heap.size rfl (.tmp 98) (.tmp 105) 24 9 (.string ⟨#[]⟩) 16 rfl Try.underlying24 info9 rfl (by decide) (.slice An acc.length cn) acc o1 Ax2 o1.length cx2 (fun _ => True) rfl rfl ?aF ?aO ?aR ?aB ?aS ?aL ?_; (case aF => exact (fun _ _ => trivial)); (case aO => exact HN.out.row); (case aR => exact (Kd.R_reads' HX2.out.row).2.2); (case aB => exact Below.refl _ _); (case aS => omega); (case aL => omega); intro v10 w10 ho10 _ hg10 hat10; obtain ⟨N2, hN2⟩ : ∃ l : List ByteArray, l = acc ++ o1 := ⟨_, rfl⟩; rw [← hN2] at ho10; have HN2 := Aside0.mk hN2; clear hN2; obtain ⟨A10, c10, ev10⟩ := Kd.R_slice ho10; subst ev10; have kg := grown_keep hg10; have HT_ := Aside0.mk (HT.out.byRow HN.out.row kg); have HL_ := Aside0.mk (HL.out.byRow HN.out (by omega) kg); have HM_ := Aside0.mk (HM.out.byRow HN.out (Nat.le_refl _) kg); have HN_ := Aside0.mk (RowAt.mk' ho10); have HK_ := Aside0.mk (HK.out.trans (kg.below hB (fun k hk => (by obtain ⟨inner, ho⟩ := Kd.R_own HN.out.row; have := own_base ho k hk.symm; omega)))); have s10 := kg.size; clear HT HK HL HM HN hB ho10 hg10 hat10 kg; have HT := HT_; have HK := HK_; have HL := HL_; have HM := HM_; have HN := HN_; clear HT_ HK_ HL_ HM_ HN_; have hB := HK.out.size))
              go_roundg k1
              case rel => exact ⟨i + 1, N2, A10, c10, v3b, t3b, c3b, l3b, rfl, by go_num, by omega, by omega, ⟨by rw [HP.out, HN2.out]⟩, HT, HL, HM, HN, HK, by omega⟩
              case measure => omega
          · have d1 : decide ((i : Int) < l1.length) = false := decide_eq_false (by omega)
            have e3 := HFi.out
            rw [List.take_of_length_le (by omega), HF.out] at e3
            simp only [Prod.mk.injEq] at e3
            obtain ⟨⟨e4, e5⟩, e6⟩ := e3
            subst e4 e5 e6
            have HSM := Aside0.mk (Pure.same_f outs (by omega) (outs.length + 1) (by omega))
            obtain ⟨S, hS⟩ : ∃ S, S = strOfNums (cb.take (a0 + 1).toNat) := ⟨_, rfl⟩
            have HE1 := Aside0.mk (show ∀ w' v t g, StAt w' w.heap.size g v a0 t cb lb → Calls Try.prog 28 #[.pointer (some ⟨g, 0, none⟩)] w' fun e w'' => e = .returned (.string S) ∧ w' = w'' from fun w' v t g h => by rw [hS]; exact Stream_End h hs.1)
            clear hS
            go_wp2_with (first
              | (go_at_call 10; have q_ := HU3; clear q_; refine (tumblerlaw05_same.calls (outs.length + 1) Al cl outs An cn outs true _ (Kd.R_reads' HL.out.row).2.2 (Kd.R_reads' HL.out.row).2.1 (Kd.R_reads' HN.out.row).2.2 (Kd.R_reads' HN.out.row).2.1 HSM.out).mono ?_; rintro e w12 ⟨rfl, ⟨nd, rfl⟩⟩; have HT_ := Aside0.mk (HTr.out.quiet (keep_drewN _ (nd1 + nd))); have HK_ := Aside0.mk (pw_below_drewN HKr.out (nd1 + nd)); clear HTr HKr HU3; have HT := HT_; have HK := HK_; clear HT_ HK_)
              | (go_at_call 10; refine (tumblerlaw05_same.calls (outs.length + 1) Al cl outs A8 c8 outs true _ (Kd.R_reads' HL.out.row).2.2 (Kd.R_reads' HL.out.row).2.1 (Kd.R_reads' HM.out.row).2.2 (Kd.R_reads' HM.out.row).2.1 HSM.out).mono ?_; rintro e w11 ⟨rfl, ⟨nd1, rfl⟩⟩; have HL_ := Aside0.mk (HL.out.quiet (keep_drewN _ nd1)); have HN_ := Aside0.mk (HN.out.quiet (keep_drewN _ nd1)); have HU3 := Aside0.mk True.intro; have HTr := HT; have HKr := HK; clear HT HK HL HN; have HL := HL_; have HN := HN_; clear HL_ HN_)
              | (go_at_call 28; (with_reducible refine (HE1.out _ _ _ _ HT.out.s1).mono ?_); rintro e w' ⟨rfl, rfl⟩)
              | (go_at_call 28; (with_reducible refine (HE1.out _ _ _ _ HT.out.s2).mono ?_); rintro e w' ⟨rfl, rfl⟩)
              | (go_at_call 28; (with_reducible refine (HE1.out _ _ _ _ HT.out.s3).mono ?_); rintro e w' ⟨rfl, rfl⟩)
              | (go_at_call 27; (with_reducible refine (Stream_Lost HT.out.s1 hs.1).mono ?_); rintro e w' ⟨rfl, rfl⟩)
              | (go_at_call 27; (with_reducible refine (Stream_Lost HT.out.s2 hs.1).mono ?_); rintro e w' ⟨rfl, rfl⟩)
              | (go_at_call 27; (with_reducible refine (Stream_Lost HT.out.s3 hs.1).mono ?_); rintro e w' ⟨rfl, rfl⟩))
            go_ret
            exact ⟨rfl, HK.out⟩
  · have HB0 := Aside0.mk (Below.refl w.heap.size w)
    have t3 : decide (a0 < 1 ∨ 1024 < a0) = true := decide_eq_true (by omega)
    clear hr1
    by_cases q1 : a0 < 1
    · have t1 : decide (a0 < 1) = true := decide_eq_true q1
      go_enter Try.func7, Try.ntmps7
      go_wp2_with (first
        | (go_at_call 23; (with_reducible refine (NewStream_no a0 _ hs).mono ?_); rintro e w1 ⟨rfl, rfl⟩)
        | (go_at_call 13; (with_reducible refine (tumblerlaw05_alive.calls 30 true _ HA.out).mono ?_); rintro e w3 ⟨rfl, hb3⟩; have HB1 := Aside0.mk (below_step HB0.out hb3); clear hb3))
      go_ret
      exact ⟨rfl, HB1.out⟩
    · have t1 : decide (a0 < 1) = false := decide_eq_false q1
      have t2 : decide (1024 < a0) = true := decide_eq_true (by omega)
      go_enter Try.func7, Try.ntmps7
      go_wp2_with (first
        | (go_at_call 23; (with_reducible refine (NewStream_no a0 _ hs).mono ?_); rintro e w1 ⟨rfl, rfl⟩)
        | (go_at_call 13; (with_reducible refine (tumblerlaw05_alive.calls 30 true _ HA.out).mono ?_); rintro e w3 ⟨rfl, hb3⟩; have HB1 := Aside0.mk (below_step HB0.out hb3); clear hb3))
      go_ret
      exact ⟨rfl, HB1.out⟩
end Go.Proofs.Ytoflnoaabjomaaa.Q
