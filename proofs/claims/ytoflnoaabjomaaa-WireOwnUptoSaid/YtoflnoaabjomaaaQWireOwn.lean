import Derived.Test.YtoflnoaabjomaaaQPi
import Derived.Test.YtoflnoaabjomaaaQWireStreams
import Derived.Test.YtoflnoaabjomaaaVOpen
import Derived.WalkSpells
namespace Go.Proofs.Ytoflnoaabjomaaa.Q
open Go.RowKit Go.Proofs.YtoflnoaabjomaaaW.PrintWords Go.Proofs.YtoflnoaabjomaaaW.PrintLast Go.Proofs.YtoflnoaabjomaaaW.PrintMore Go.Proofs.YtoflnoaabjomaaaV
set_option linter.unusedVariables false
set_option linter.unusedSimpArgs false

theorem Packer_FlushS {w : World} {B g : Nat} {v : Value} {size : Int} {s : ByteArray} (h : PkAt w B g v size (bytesOf s)) (hs : 1 ≤ size) (hB : B ≤ w.heap.size) (hp : 0 < s.size) (hl : s.size ≤ 281474976710656) :
    Calls Try.prog 16 #[.pointer (some ⟨g, 0, none⟩)] w fun e w' => ∃ A c, e = .returned (.slice A s.size c) ∧ PkAt w' B g (.slice none 0 0) size [] ∧ Kd.R (Kd.int .u8) 5 w' w.heap.size (fun k => w.heap.size ≤ k) (.slice A s.size c) (bytesOf s) ∧ Keep w w' (fun k => k = g) := by
  refine (Packer_Flush_full h hs hB (by rw [bytesOf_len]; exact hp) (by rw [bytesOf_len]; exact hl)).mono ?_
  rintro e w' ⟨o, rfl, hp, ho, hk⟩
  obtain ⟨A, cp, rfl⟩ := Kd.R_slice ho
  rw [bytesOf_len] at ho ⊢
  exact ⟨A, cp, rfl, hp, ho, hk⟩
theorem R_blk {α : Type} {enc : α → Value} {h1 : ∀ x, (enc x).oneCell' = true} {e base n cap : Nat} {A : Option Addr} {w : World} {ok : Nat → Prop} {xs : List α} (h : (Kd.scalar enc h1).R e w base ok (.slice A n cap) xs) (hn : 0 < n) : ∃ g, A = some ⟨g, 0, none⟩ := by
  rcases (Kd.own_of_R h).2 with ⟨e1, e2⟩ | ⟨g, cap, cur, e1, -⟩
  · simp only [Value.slice.injEq] at e1; omega
  · simp only [Value.slice.injEq] at e1; exact ⟨g, e1.1⟩
theorem u8_keep {w w' : World} {n : Nat} {ok : Nat → Prop} {v : Value} {xs : List Int} {S : Nat → Prop} (h : Kd.R (Kd.int .u8) 5 w n ok v xs) (hk : Keep w w' S) (hS : ∀ k, v.ownBlock = some k → ¬ S k) : Kd.R (Kd.int .u8) 5 w' n ok v xs := R_keep h hk hS
theorem str_keep {w w' : World} {n : Nat} {ok : Nat → Prop} {v : Value} {xs : List ByteArray} {S : Nat → Prop} (h : Kd.R Kd.string 9 w n ok v xs) (hk : Keep w w' S) (hS : ∀ k, v.ownBlock = some k → ¬ S k) : Kd.R Kd.string 9 w' n ok v xs := R_keep h hk hS
theorem u8_reads {w : World} {n : Nat} {ok : Nat → Prop} {A : Option Addr} {m c : Nat} {xs : List Int} (h : Kd.R (Kd.int .u8) 5 w n ok (.slice A m c) xs) : Kd.C (Kd.int .u8) w A xs.length xs := (Kd.R_reads' h).2.2
/-- c's bytes, while a stream that holds nothing is fed. -/
theorem u8_feed {w w' : World} {n B g : Nat} {ok : Nat → Prop} {v : Value} {xs cur : List Int} {a t lost : Int} {k0 : Nat} (h : Kd.R (Kd.int .u8) 5 w n ok v xs) (hs : StAt w B g (.slice none 0 k0) a t cur lost) (hk : Keep w w' (fun k => k = g ∨ some k = (Value.slice none 0 k0).ownBlock)) : Kd.R (Kd.int .u8) 5 w' n ok v xs :=
  R_keep h hk (fun k e => by
    rintro (e2 | e2)
    · obtain ⟨cs, fr, h2⟩ := R_typed h k e
      exact ne_typed h2 hs.blk (by decide) e2
    · simp [Value.ownBlock] at e2)
theorem bytesIn_nil : bytesIn [] := fun x hx => by cases hx
/-- What Add answers on an empty packer. -/
theorem addP_first (s : ByteArray) : (∃ er, (er = 51 ∨ er = 2) ∧ addP 65536 [] s = ((⟨#[]⟩ : ByteArray), er, [])) ∨ (0 < s.size ∧ s.size ≤ 65536 ∧ addP 65536 [] s = ((⟨#[]⟩ : ByteArray), 0, [s])) := by
  unfold addP
  by_cases hb : badLine s
  · exact .inl ⟨51, .inl rfl, by rw [if_pos hb]⟩
  · by_cases hl : (65536 : Int) < s.size
    · exact .inl ⟨2, .inr rfl, by rw [if_neg hb, if_pos hl]⟩
    · exact .inr ⟨good_pos hb, by omega, by rw [if_neg hb, if_neg hl, if_neg (by simp)]; rfl⟩

open Classical in
noncomputable def tumblerlaw05_WireOwn.f (l0 : List Int) (a1 : ByteArray) : Option Bool := if ((l0.map (fun _ => 1)).sum + 1) + (a1.size + 1) ≤ 1048576 ∧ bytesIn l0 then some true else none

set_option maxHeartbeats 6400000 in
set_option maxRecDepth 4000 in
theorem tumblerlaw05_WireOwn.calls (A0 : Option Addr) (c0 : Nat) (l0 : List Int) (a1 : ByteArray) (r : Bool) (w : World) (hr0 : Kd.C (Kd.int .u8) w A0 l0.length l0) (hc0 : l0.length ≤ c0) (h : tumblerlaw05_WireOwn.f l0 a1 = some r) :
    Calls Try.prog 8 #[.slice A0 l0.length c0, .string a1] w fun e w' => e = .returned (.bool r) ∧ Below w.heap.size w w' := by
  obtain ⟨⟨hb, hby⟩, rfl⟩ : (((l0.map (fun _ => 1)).sum + 1) + (a1.size + 1) ≤ 1048576 ∧ bytesIn l0) ∧ r = true := by
    unfold tumblerlaw05_WireOwn.f at h
    split at h
    · exact ⟨by assumption, (Option.some.inj h).symm⟩
    · cases h
  clear h
  rw [Pure.ones] at hb
  have HA := Aside0.mk (Pure.alive_f 30 (by omega))
  have hs : (1 : Int) ≤ 1024 ∧ (1024 : Int) ≤ 1024 := by omega
  have HN := Aside0.mk (NewSt_f 1024 hs)
  have HR0 := Aside0.mk hr0
  have HBy := Aside0.mk hby
  have hlm : l0.length ≤ 1048576 := by omega
  have hsm : a1.size ≤ 1048576 := by omega
  obtain ⟨cu, lo, outs, hF⟩ : ∃ cu lo outs, feedS 1024 l0 [] 0 = ((cu, lo), outs) := ⟨_, _, _, rfl⟩
  have hfl := feedS_len 1024 l0 [] 0
  rw [hF] at hfl
  dsimp only [List.length_nil] at hfl
  have hol : outs.length ≤ 1048576 := by have := hfl.2.2.2; omega
  have hcur : cu = lastp ([] ++ l0) := by have := feed_last 1024 [] l0 0; rw [show lastp [] = [] from rfl, hF] at this; exact (Prod.mk.inj (Prod.mk.inj this).1).1
  have HF := Aside0.mk hF
  have HF2 := Aside0.mk (show feedS 1024 l0 (lastp []) 0 = ((cu, lo), outs) from hF)
  have HSM := Aside0.mk (Pure.same_f outs (by omega) (outs.length + 1) (by omega))
  have HAD := Aside0.mk (addP_first a1)
  subst hcur
  clear hr0 hby hb hF hfl
  go_enter Try.func8, Try.ntmps8
  go_wp2_with (first
    | (go_at_call 13; (with_reducible refine (tumblerlaw05_alive.calls 30 true _ HA.out).mono ?_); rintro e w1 ⟨rfl, hb1⟩; have HB1 := Aside0.mk hb1; have b1 := hb1.size; clear hb1)
    | ((with_reducible refine gate_builtin (b := .append) (xs := #[.tmp 23, .tmp 24]) rfl ?_); at_builtin; refine Kd.R_append_row (Value.int .u8) (0 : Int) (h1 := fun _ => rfl) (w0 := w1) w1.heap.size rfl (.tmp 23) (.tmp 24) 22 5 (.int .u8 0) 1 rfl Try.underlying22 info5 rfl (by decide) (.slice none 0 0) [] l0 A0 l0.length c0 (fun _ => True) rfl rfl ?aF ?aO ?aR ?aB ?aS ?aL ?_; (case aF => exact (fun _ _ => trivial)); (case aO => exact Kd.R_nil _ _ _ _ _); (case aR => exact Kd.C_below HR0.out HB1.out); (case aB => exact Below.refl _ _); (case aS => exact Nat.le_refl _); (case aL => simp; omega); intro v2 w2 ho2 hb2 _ _; rw [List.nil_append] at ho2; obtain ⟨Ac, cc, ev2⟩ := Kd.R_slice ho2; subst ev2; have HC := Aside0.mk (show Kd.R (Kd.int .u8) 5 w2 w1.heap.size (fun _ => True) (.slice Ac l0.length cc) l0 from ho2); have HB2 := Aside0.mk (below_step HB1.out hb2); clear HB1 ho2 hb2)
    | (go_at_call 23; (with_reducible refine (NewStream_yes 1024 _ hs.1 hs.2).mono ?_); rintro e w3 ⟨rfl, hp3, hb3⟩; have HN1 := Aside0.mk hp3; have HC_ := Aside0.mk (u8_keep HC.out (below_keep hb3) (fun _ _ h => h)); have HB3 := Aside0.mk (below_step HB2.out hb3); have b2 := HB2.out.size; have hcx := Aside0.mk (show ∀ k, (Value.slice Ac l0.length cc).ownBlock = some k → k < w2.heap.size from R_lt' HC.out); clear HC HB2 hp3 hb3; have HC := HC_; clear HC_)
    | (go_at_call 24; (with_reducible refine (tumblerref05_NewStream.calls 1024 1024 (⟨#[]⟩ : ByteArray) 0 0 0 _ HN.out).mono ?_); rintro e w4 ⟨rfl, hb4⟩; have b3 := HB3.out.size; have b4 := hb4.size; have e4 : Keep w3 (w4.alloc (.cells #[.int .i64 1024, .string ⟨#[]⟩, .int .i64 0, .int .i64 0] 55 (0, 0))) (fun _ => False) := (Keep.of_below hb4).alloc _; have HS := Aside0.mk ((HN1.out.quiet e4).at0 b2); have HRt := Aside0.mk (show RsAt (w4.alloc (.cells #[.int .i64 1024, .string ⟨#[]⟩, .int .i64 0, .int .i64 0] 55 (0, 0))) w.heap.size w4.heap.size 1024 [] 0 from ⟨heap_alloc_new _ _, (by omega)⟩); have HC_ := Aside0.mk (u8_keep HC.out e4 (fun _ _ h => h)); have HK := Aside0.mk (below_step HB3.out (keep_below0 e4)); have bz := blk_lt HN1.out.blk; have b5 : w4.heap.size ≤ (w4.alloc (.cells #[.int .i64 1024, .string ⟨#[]⟩, .int .i64 0, .int .i64 0] 55 (0, 0))).heap.size := (by simp); clear HC HN1 HB3 hb4 e4; have HC := HC_; clear HC_; have hB := HK.out.size)
    | (go_at_call 25; (with_reducible refine (Stream_FeedN HS.out hs Ac l0.length cc l0 rfl (fun w' hk => u8_reads (u8_feed HC.out HS.out hk)) hB (by simp; omega) (by omega) HF.out).mono ?_); rintro e w6 ⟨Al, cl, v1, t1, rfl, hs6, ho6, hk6, hv6⟩; have HC_ := Aside0.mk (u8_feed HC.out HS.out hk6); have HL := Aside0.mk ho6; have HRt_ := Aside0.mk (RsAt.aside HS.out HRt.out hk6); have HK_ := Aside0.mk (HK.out.trans (HS.out.footS hB hk6)); have HAp := Aside0.mk (show ∀ k, v1.ownBlock = some k → (Value.slice Ac l0.length cc).ownBlock ≠ some k from fun k e e2 => (by have h1 := hcx.out k e2; rcases hv6 k e with h3 | h3; simp [Value.ownBlock] at h3; omega)); clear HC HRt HS HK hB ho6 hk6 hv6; have HC := HC_; have HRt := HRt_; have HK := HK_; have HS := Aside0.mk hs6; clear HC_ HRt_ HK_ hs6; have hB := HK.out.size)
    | (go_at_call 26; (with_reducible refine (RS_Feed HRt.out hs A0 c0 l0 (Kd.C_below HR0.out HK.out) hB HBy.out bytesIn_nil (by simp; omega) (by omega) HF2.out).mono ?_); rintro e w7 ⟨Am, cm, rfl, hr7, ho7, hk7⟩; have HS_ := Aside0.mk (StAt.aside HS.out HRt.out hk7); have HC_ := Aside0.mk (u8_keep HC.out hk7 (fun k e eg => (by obtain ⟨cs, fr, h1⟩ := R_typed HC.out k e; exact ne_typed h1 HRt.out.blk (by decide) eg))); have HL_ := Aside0.mk (str_keep HL.out hk7 (fun k e eg => (by obtain ⟨cs, fr, h1⟩ := R_typed HL.out k e; exact ne_typed h1 HRt.out.blk (by decide) eg))); have HM := Aside0.mk ho7; have HK_ := Aside0.mk (HK.out.trans (HRt.out.foot hB hk7)); clear HS HC HL HK HRt hB ho7 hk7; have HS := HS_; have HC := HC_; have HL := HL_; have HK := HK_; have HRt := Aside0.mk hr7; clear HS_ HC_ HL_ HK_ hr7; have hB := HK.out.size))
  go_loopg [12] (l0.length + 1) (fun kq v12 w' => ∃ (i : Nat) (xs : List Int), v12 = .int .i64 i ∧ i + kq = l0.length + 1 ∧ i ≤ l0.length ∧ xs.length = l0.length ∧ Aside0 (∀ j : Nat, i ≤ j → xs.getD j 0 = l0.getD j 0) ∧ Aside0 (Kd.R (Kd.int .u8) 5 w' w1.heap.size (fun _ => True) (.slice Ac l0.length cc) xs) ∧ Aside0 (StAt w' w.heap.size w2.heap.size v1 1024 t1 (lastp ([] ++ l0)) lo) ∧ Aside0 (RsAt w' w.heap.size w4.heap.size 1024 ([] ++ l0) lo) ∧ Aside0 (∃ n, Kd.R Kd.string 9 w' n (fun _ => True) (.slice Al outs.length cl) outs) ∧ Aside0 (∃ n, Kd.R Kd.string 9 w' n (fun _ => True) (.slice Am outs.length cm) outs) ∧ Aside0 (Below w.heap.size w w'))
  case atStart => exact ⟨0, l0, rfl, by omega, by omega, rfl, ⟨fun _ _ => rfl⟩, HC, HS, HRt, ⟨⟨_, HL.out⟩⟩, ⟨⟨_, HM.out⟩⟩, HK⟩
  case round =>
    clear HC HS HRt HL HM HK hB
    obtain ⟨i, xs, rfl, hiq, hil, hxl, HX, HC, HS, HRt, HL, HM, HK⟩ := hrel
    have hB := HK.out.size
    by_cases hlt : i < l0.length
    · cases gk with
      | zero => omega
      | succ k1 =>
        obtain ⟨gc, rfl⟩ := R_blk HC.out (by omega)
        have d1 : decide ((i : Int) < l0.length) = true := decide_eq_true (by omega)
        have HC' := HC.out
        rw [← hxl] at HC'
        obtain ⟨q1, q2⟩ := Kd.R_cell (0 : Int) HC' (i : Int) (by omega) (by omega)
        obtain ⟨ad, rfl, q3⟩ := Kd.at_int (Kd.C_below HR0.out HK.out) (i : Int) (by omega) (by omega)
        rw [Int.toNat_natCast] at q1 q2 q3
        have e1 : rdOf 0 xs (i : Int) = rd l0 (i : Int) := by unfold rdOf rd; rw [Int.toNat_natCast]; exact HX.out i (Nat.le_refl _)
        rw [e1] at q1
        obtain ⟨x, hx⟩ : ∃ x, x = rd l0 (i : Int) := ⟨_, rfl⟩
        rw [← hx] at q1 q3
        have HC2 := Aside0.mk HC'
        have HXL := Aside0.mk hxl
        have hxx : (x == x) = true := beq_self_eq_true x
        clear HC' hx e1 hxl
        go_wp2
        go_quiet (fail)
        have q4 : (wr.drewN nq).frozen? ⟨gc, i, none⟩ = false := q2
        go_wp2
        go_roundg k1
        case rel =>
          have hk : Keep wr ((wr.drewN nq).setCell ⟨gc, i, none⟩ (.int .u8 120)) (fun k => k = gc) := ((Keep.refl wr (fun k => k = gc)).drewN nq).set ⟨gc, i, none⟩ _ (.inl rfl)
          have hp := (Kd.R_put (u8_keep HC2.out (keep_drewN wr nq) (fun _ _ h => h)) (i : Int) (120 : Int)).1
          rw [Int.toNat_natCast, HXL.out] at hp
          obtain ⟨cs, fr, hbc⟩ := R_typed HC.out gc (by simp [Value.ownBlock])
          obtain ⟨n1, hL⟩ := HL.out
          obtain ⟨n2, hM⟩ := HM.out
          refine ⟨i + 1, xs.set i 120, by go_num, by omega, by omega, by rw [List.length_set]; exact HXL.out, ⟨fun j hj => ?_⟩, ⟨hp⟩, ⟨HS.out.keep hk ?_ ?_⟩, ⟨HRt.out.keep hk ?_⟩, ⟨n1, str_keep hL hk ?_⟩, ⟨n2, str_keep hM hk ?_⟩, ⟨HK.out.trans (hk.below hB (fun k hkk => ?_))⟩⟩
          · rw [List.getD_eq_getElem?_getD, List.getElem?_set_ne (by omega), ← List.getD_eq_getElem?_getD]
            exact HX.out j (by omega)
          · exact fun e => ne_typed hbc HS.out.blk (by decide) e.symm
          · intro k e e2
            subst e2
            exact HAp.out k e (by simp [Value.ownBlock])
          · exact fun e => ne_typed hbc HRt.out.blk (by decide) e.symm
          · intro k e e2
            obtain ⟨cs, fr, h1⟩ := R_typed hL k e
            exact ne_typed h1 hbc (by decide) e2
          · intro k e e2
            obtain ⟨cs, fr, h1⟩ := R_typed hM k e
            exact ne_typed h1 hbc (by decide) e2
          · subst hkk
            obtain ⟨inner, ho⟩ := Kd.R_own HC.out
            have := own_base ho k (by simp [Value.ownBlock])
            omega
        case measure => omega
    · have d1 : decide ((i : Int) < l0.length) = false := decide_eq_false (by omega)
      have HBy2 := Aside0.mk (show bytesIn ([] ++ l0) from HBy.out)
      obtain ⟨S, hS⟩ : ∃ S, S = strOfNums ((lastp ([] ++ l0)).take (1024 + 1 : Int).toNat) := ⟨_, rfl⟩
      have HE1 := Aside0.mk (show ∀ w' v t g, StAt w' w.heap.size g v 1024 t (lastp ([] ++ l0)) lo → Calls Try.prog 28 #[.pointer (some ⟨g, 0, none⟩)] w' fun e w'' => e = .returned (.string S) ∧ w' = w'' from fun w' v t g h => by rw [hS]; exact Stream_End h hs.1)
      have HE2 := Aside0.mk (show ∀ w' g, RsAt w' w.heap.size g 1024 ([] ++ l0) lo → Calls Try.prog 29 #[.pointer (some ⟨g, 0, none⟩)] w' fun e w'' => e = .returned (.string S) ∧ Keep w' w'' (fun _ => False) from fun w' g h => by rw [hS]; exact RS_End h hs HBy2.out (by simp; omega))
      clear hS HC HX HAp
      go_upto_region 20 with (first
        | (go_at_call 14; (with_reducible refine (NewPacker_yes 65536 _ (by omega) (by omega)).mono ?_); rintro e w8 ⟨rfl, hp8, hb8⟩; have HP := Aside0.mk hp8; have HS_ := Aside0.mk (HS.out.quiet (below_keep hb8)); have HRt_ := Aside0.mk (HRt.out.keep (below_keep hb8) (fun h => h)); have HL_ := Aside0.mk (HL.out.imp fun n h => str_keep h (below_keep hb8) (fun _ _ h => h)); have HM_ := Aside0.mk (HM.out.imp fun n h => str_keep h (below_keep hb8) (fun _ _ h => h)); have HK_ := Aside0.mk (below_step HK.out hb8); clear HS HRt HL HM HK hp8 hb8; have HS := HS_; have HRt := HRt_; have HL := HL_; have HM := HM_; have HK := HK_; clear HS_ HRt_ HL_ HM_ HK_)
        | (go_at_call 10; refine (tumblerlaw05_same.calls (outs.length + 1) Al cl outs Am cm outs true _ (Kd.R_reads' HL.out.choose_spec).2.2 (Kd.R_reads' HL.out.choose_spec).2.1 (Kd.R_reads' HM.out.choose_spec).2.2 (Kd.R_reads' HM.out.choose_spec).2.1 HSM.out).mono ?_; rintro e w11 ⟨rfl, ⟨nd1, rfl⟩⟩; have HS_ := Aside0.mk (HS.out.quiet (keep_drewN _ nd1)); have HRt_ := Aside0.mk (HRt.out.keep (keep_drewN _ nd1) (fun h => h)); have HP_ := Aside0.mk (HP.out.keep (keep_drewN _ nd1) (fun h => h) (fun _ _ h => h)); have HK_ := Aside0.mk (pw_below_drewN HK.out nd1); clear HS HRt HP HK HL HM; have HS := HS_; have HRt := HRt_; have HP := HP_; have HK := HK_; clear HS_ HRt_ HP_ HK_)
        | (go_at_call 28; (with_reducible refine (HE1.out _ _ _ _ HS.out).mono ?_); rintro e w' ⟨rfl, rfl⟩)
        | (go_at_call 29; (with_reducible refine (HE2.out _ _ HRt.out).mono ?_); rintro e w12 ⟨rfl, hk12⟩; have HP_ := Aside0.mk (HP.out.keep hk12 (fun h => h) (fun _ _ h => h)); have HK_ := Aside0.mk (below_step HK.out (keep_below0 hk12)); clear HP HK HS HRt hk12; have HP := HP_; have HK := HK_; clear HP_ HK_))
      have hBp : wr.heap.size ≤ w12.heap.size := Nat.le_of_lt (blk_lt HP.out.blk)
      have HPe := Aside0.mk (show PkAt w12 wr.heap.size wr.heap.size (.slice none 0 0) 65536 (bytesOf (joinB [])) from HP.out)
      have hlow : ∀ (w1 w2 : World) (v : Value) (X : List Int), PkAt w1 wr.heap.size wr.heap.size v 65536 X → Keep w1 w2 (fun k => k = wr.heap.size ∨ some k = v.ownBlock) → Below w.heap.size w w1 → Below w.heap.size w w2 := fun w1 w2 v X hp hk hb => hb.trans (hk.below hb.size (fun k hkk => by
        rcases hkk with h | h
        · omega
        · obtain ⟨inner, ho⟩ := Kd.R_own hp.row
          have := own_base ho k h.symm
          omega))
      have HLow := Aside0.mk hlow
      clear HP hlow
      rcases HAD.out with ⟨er, her, had⟩ | ⟨h1, h2, had⟩
      · have HAd := Aside0.mk had
        clear HAD had
        have hen : (er == 0) = false := by rcases her with rfl | rfl <;> decide
        clear her
        go_wp2_with (first
          | (go_at_call 18; (with_reducible refine (Packer_AddE a1 HAd.out HPe.out (Lines.nil (by omega)) (by omega) (by omega) hBp (by omega)).mono ?_); rintro e w13 ⟨Aa, ca, v13, rfl, hp13, ho13, hk13⟩; have HP2 := Aside0.mk (show PkAt w13 wr.heap.size wr.heap.size v13 65536 [] from hp13); have HK_ := Aside0.mk (HLow.out _ _ _ _ HPe.out hk13 HK.out); clear HPe HK hp13 ho13 hk13; have HK := HK_; clear HK_)
          | (go_at_call 16; (with_reducible refine (Packer_Flush_empty HP2.out (by omega)).mono ?_); rintro e w' ⟨rfl, rfl⟩))
        go_ret
        exact ⟨rfl, HK.out⟩
      · have HAd := Aside0.mk had
        clear HAD had
        go_wp2_with (first
          | (go_at_call 18; (with_reducible refine (Packer_AddE a1 HAd.out HPe.out (Lines.nil (by omega)) (by omega) (by omega) hBp (by omega)).mono ?_); rintro e w13 ⟨Aa, ca, v13, rfl, hp13, ho13, hk13⟩; rw [joinB_one] at hp13; have HP2 := Aside0.mk hp13; have HK_ := Aside0.mk (HLow.out _ _ _ _ HPe.out hk13 HK.out); have b13 := hk13.size; clear HPe HK hp13 ho13 hk13; have HK := HK_; clear HK_)
          | (go_at_call 16; (with_reducible refine (Packer_FlushS HP2.out (by omega) (by omega) h1 (by omega)).mono ?_); rintro e w14 ⟨Ad, cd, rfl, hp14, ho14, hk14⟩; have HP3 := Aside0.mk hp14; have HD := Aside0.mk (show Kd.R (Kd.int .u8) 5 w14 w13.heap.size (fun _ => True) (.slice Ad a1.size cd) (bytesOf a1) from ⟨fun _ _ => trivial, ho14.2⟩); have HK_ := Aside0.mk (HLow.out _ _ _ _ HP2.out (hk14.mono (fun k _ h => .inl h)) HK.out); have b14 := hk14.size; clear HP2 HK hp14 ho14 hk14; have HK := HK_; clear HK_))
        go_loopg [18] (a1.size + 1) (fun kq v18 w' => ∃ (j : Nat) (ys : List Int), v18 = .int .i64 j ∧ j + kq = a1.size + 1 ∧ j ≤ a1.size ∧ ys.length = a1.size ∧ Aside0 (Kd.R (Kd.int .u8) 5 w' w13.heap.size (fun _ => True) (.slice Ad a1.size cd) ys) ∧ Aside0 (PkAt w' wr.heap.size wr.heap.size (.slice none 0 0) 65536 []) ∧ Aside0 (Below w.heap.size w w') ∧ w13.heap.size ≤ w'.heap.size)
        case atStart => exact ⟨0, bytesOf a1, rfl, by omega, by omega, bytesOf_len a1, HD, HP3, HK, b14⟩
        case round =>
          clear HD HP3 HK b14
          obtain ⟨j, ys, rfl, hjq, hjl, hyl, HD, HP3, HK, b14⟩ := hrel
          by_cases hlt2 : j < a1.size
          · cases gk with
            | zero => omega
            | succ k1 =>
              obtain ⟨gd, rfl⟩ := R_blk HD.out (by omega)
              have d2 : decide ((j : Int) < a1.size) = true := decide_eq_true (by omega)
              have HD' := HD.out
              rw [← hyl] at HD'
              obtain ⟨q1, q2⟩ := Kd.R_cell (0 : Int) HD' (j : Int) (by omega) (by omega)
              rw [Int.toNat_natCast] at q1 q2
              have HD2 := Aside0.mk HD'
              have HYL := Aside0.mk hyl
              clear HD' hyl
              go_wp2
              go_roundg k1
              case rel =>
                have hk : Keep wr (wr.setCell ⟨gd, j, none⟩ (.int .u8 121)) (fun k => k = gd) := (Keep.refl wr (fun k => k = gd)).set ⟨gd, j, none⟩ _ (.inl rfl)
                have hp := (Kd.R_put HD2.out (j : Int) (121 : Int)).1
                rw [Int.toNat_natCast, HYL.out] at hp
                obtain ⟨cs, fr, hbd⟩ := R_typed HD.out gd (by simp [Value.ownBlock])
                have hw := HK.out.size
                refine ⟨j + 1, ys.set j 121, by go_num, by omega, by omega, by rw [List.length_set]; exact HYL.out, ⟨hp⟩, ⟨HP3.out.keep hk (fun e => ne_typed hbd HP3.out.blk (by decide) e.symm) (fun k e => by simp [Value.ownBlock] at e)⟩, ⟨HK.out.trans (hk.below hw (fun k hkk => ?_))⟩, Nat.le_trans b14 hk.size⟩
                subst hkk
                obtain ⟨inner, ho⟩ := Kd.R_own HD.out
                have := own_base ho k (by simp [Value.ownBlock])
                omega
              case measure => omega
          · have d2 : decide ((j : Int) < a1.size) = false := decide_eq_false (by omega)
            go_wp2_with (first
              | ((with_reducible refine gate_builtin (b := .append) (xs := #[.tmp 99, .tmp 100]) rfl ?_); at_builtin; refine Kd.R_append (Kd.int .u8) (w0 := wr) w13.heap.size rfl (.tmp 99) (.tmp 100) 22 5 (.int .u8 0) 1 rfl Try.underlying22 info5 rfl (by decide) (by omega) (.slice Ad a1.size cd) ys 122 [.int .u8 122] (fun _ => True) (fun _ => False) rfl rfl ?aP (fun _ hk => hk.elim) ?aF ?aO ?aB ?aS ?aL ?_; (case aP => exact rfl); (case aB => exact Below.refl _ _); (case aF => exact (fun _ _ => trivial)); (case aO => exact HD.out); (case aS => exact b14); (case aL => omega); intro v16 w16 ho16 _ hg16 hat16; obtain ⟨H2, hH2⟩ : ∃ l : List Int, l = ys ++ [122] := ⟨_, rfl⟩; rw [← hH2] at ho16; have hH3 : H2.length = a1.size + 1 := (by rw [hH2, List.length_append, hyl]; rfl); clear hH2; obtain ⟨A16, c16, ev16⟩ := Kd.R_slice ho16; rw [hH3] at ev16; subst ev16; have kg := grown_keep hg16; have HP4 := Aside0.mk (show PkAt w16 _ _ (.slice none 0 0) 65536 (bytesOf (joinB [])) from HP3.out.keep kg (fun e => (by obtain ⟨cs, fr, hbd⟩ := R_typed HD.out _ e.symm; exact ne_typed hbd HP3.out.blk (by decide) rfl)) (fun k e => (by simp [Value.ownBlock] at e))); have HK_ := Aside0.mk (HK.out.trans (kg.below HK.out.size (fun k hkk => (by obtain ⟨inner, ho⟩ := Kd.R_own HD.out; have := own_base ho k hkk.symm; omega)))); have b16 := kg.size; clear HP3 HK hg16 ho16 hat16 kg; have HK := HK_; clear HK_)
              | (go_at_call 18; (with_reducible refine (Packer_AddE a1 HAd.out HP4.out (Lines.nil (by omega)) (by omega) (by omega) (by omega) (by omega)).mono ?_); rintro e w17 ⟨Aa2, ca2, v17, rfl, hp17, ho17, hk17⟩; rw [joinB_one] at hp17; have HP5 := Aside0.mk hp17; have HK_ := Aside0.mk (HLow.out _ _ _ _ HP4.out hk17 HK.out); have b17 := hk17.size; clear HP4 HK hp17 ho17 hk17; have HK := HK_; clear HK_)
              | (go_at_call 16; (with_reducible refine (Packer_FlushS HP5.out (by omega) (by omega) h1 (by omega)).mono ?_); rintro e w18 ⟨Ae, ce, rfl, hp18, ho18, hk18⟩; have hcv := cv_of_R ho18; have HK_ := Aside0.mk (HLow.out _ _ _ _ HP5.out (hk18.mono (fun k _ h => .inl h)) HK.out); clear HP5 HK hp18 ho18 hk18; have HK := HK_; clear HK_))
            go_ret
            exact ⟨rfl, HK.out⟩
end Go.Proofs.Ytoflnoaabjomaaa.Q
