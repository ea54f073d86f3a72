import Derived.Test.YtoflnoaabjomaaaQRs
import Derived.Test.YtoflnoaabjomaaaVOpen
import Derived.WalkSpells
namespace Go.Proofs.Ytoflnoaabjomaaa.Q
open Go.RowKit Go.Proofs.YtoflnoaabjomaaaW.PrintWords Go.Proofs.YtoflnoaabjomaaaW.PrintLast Go.Proofs.YtoflnoaabjomaaaW.PrintMore Go.Proofs.YtoflnoaabjomaaaV
set_option linter.unusedVariables false
set_option linter.unusedSimpArgs false

def rd_L7 (xs : List (List Int)) (i : Int) : (List Int) := xs.getD i.toNat ([] : List Int)
theorem at_L7 {w : World} {A : Option Addr} {n : Nat} {xs : List (List Int)} (h : Kd.C (Kd.slice 5 (Kd.int .u8)) w A n xs) (i : Int) (h0 : 0 ≤ i) (h1 : i < n) : ∃ ad A0 c0, A = some ad ∧ w.cell? (ad.add i.toNat) = some (.slice A0 (rd_L7 xs i).length c0) ∧ (rd_L7 xs i).length ≤ c0 ∧ (Kd.int .u8).C w A0 (rd_L7 xs i).length (rd_L7 xs i) := by
  obtain ⟨ad, c, e, _, hK, hc0⟩ := Kd.C_get h ([] : List Int) i h0 h1
  have hc : ∀ j u, c[j]? = some u → w.cell? (ad.add (i.toNat * 1 + j)) = some u := hc0
  obtain ⟨A0, c0, rfl, l0, g0⟩ := hK
  exact ⟨ad, A0, c0, e, by have hq := hc 0 _ rfl; rwa [Nat.mul_one, Nat.add_zero] at hq, l0, g0⟩
theorem cell_lt {w : World} {a : Addr} {v : Value} (h : w.cell? a = some v) : a.block < w.heap.size := by
  unfold World.cell? at h
  cases hb : w.heap[a.block]? with
  | none => rw [hb] at h; cases h
  | some o => exact (Array.getElem?_eq_some_iff.1 hb).1
theorem old_cell {w w' : World} (hb : Below w.heap.size w w') {a : Addr} {v : Value} (h : w.cell? a = some v) : w'.cell? a = some v := (hb.cell (cell_lt h)).trans h

/-- A stream and the reference's, side by side. -/
structure Str (w : World) (B gs gr : Nat) (limit : Int) (al : List Int) (lost : Int) (v : Value) (last : Int) : Prop where
  s : StAt w B gs v limit last (lastp al) lost
  r : RsAt w B gr limit al lost
variable {w w' : World} {B gs gr : Nat} {limit : Int} {al : List Int} {lost : Int} {v : Value} {last : Int}
theorem RsAt.aside {cur : List Int} {l2 : Int} (hs : StAt w B gs v limit last cur l2) (hr : RsAt w B gr limit al lost) (hk : Keep w w' (fun k => k = gs ∨ some k = v.ownBlock)) : RsAt w' B gr limit al lost := by
  refine hr.keep hk ?_
  rintro (h | h)
  · exact ne_typed hr.blk hs.blk (by decide) h
  · obtain ⟨cs, fr, h2⟩ := R_typed hs.row gr h.symm
    exact ne_typed hr.blk h2 (by decide) rfl
theorem StAt.aside {cur : List Int} {l2 : Int} (hs : StAt w B gs v limit last cur l2) (hr : RsAt w B gr limit al lost) (hk : Keep w w' (fun k => k = gr)) : StAt w' B gs v limit last cur l2 := by
  refine hs.keep hk (fun h => ne_typed hs.blk hr.blk (by decide) h) (fun k e h => ?_)
  obtain ⟨cs, fr, h2⟩ := R_typed hs.row k e
  exact ne_typed h2 hr.blk (by decide) h
theorem StAt.foot {cur : List Int} {l2 : Int} (h : StAt w B gs v limit last cur l2) (hB : B ≤ w.heap.size) (hk : Keep w w' (fun k => k = gs ∨ some k = v.ownBlock)) : Below B w w' :=
  hk.below hB (fun k hc => by
    rcases hc with rfl | hc
    · exact h.ge
    · obtain ⟨inner, ho⟩ := Kd.R_own h.row
      exact own_base ho k hc.symm)
theorem RsAt.foot (h : RsAt w B gr limit al lost) (hB : B ≤ w.heap.size) (hk : Keep w w' (fun k => k = gr)) : Below B w w' :=
  hk.below hB (fun k hc => by subst hc; exact h.ge)
theorem Str.quiet (h : Str w B gs gr limit al lost v last) (hk : Keep w w' (fun _ => False)) : Str w' B gs gr limit al lost v last :=
  ⟨h.s.keep hk (fun h => h) (fun _ _ h => h), h.r.keep hk (fun h => h)⟩
theorem keep_below0 (hk : Keep w w' (fun _ => False)) : Below w.heap.size w w' := ⟨hk.os, hk.tape, hk.output, hk.size, fun k h => hk.block k h (fun h => h)⟩
theorem below_keep (hb : Below w.heap.size w w') : Keep w w' (fun _ => False) := Keep.of_below hb
theorem keep_drew (w : World) : Keep w w.drew (fun _ => False) := (Keep.refl w _).drew
theorem keep_drewN (w : World) (n : Nat) : Keep w (w.drewN n) (fun _ => False) := (Keep.refl w _).drewN n
theorem NewSt_f (a0 : Int) (h : 1 ≤ a0 ∧ a0 ≤ 1024) : tumblerref05_NewStream.f a0 = some (a0, (⟨#[]⟩ : ByteArray), 0, 0, 0) := by
  unfold tumblerref05_NewStream.f; rw [if_neg (by omega), if_neg (by omega)]
theorem NewSt_n (a0 : Int) (h : ¬ (1 ≤ a0 ∧ a0 ≤ 1024)) : tumblerref05_NewStream.f a0 = some (0, (⟨#[]⟩ : ByteArray), 0, 0, 50) := by
  unfold tumblerref05_NewStream.f
  by_cases h1 : a0 < 1
  · rw [if_pos h1]
  · rw [if_neg h1, if_pos (by omega)]
theorem take_flat (l : List (List Int)) (i : Nat) (h : i < l.length) : (l.take (i + 1)).flatten = (l.take i).flatten ++ l[i] := by
  rw [List.take_succ_eq_append_getElem h, List.flatten_append]; simp [List.flatten]
theorem flat_len (l : List (List Int)) : l.flatten.length + l.length ≤ (l.map (fun xs => (xs.map (fun _ => 1)).sum + 1)).sum := by
  induction l with
  | nil => simp
  | cons x r ih => simp only [List.flatten_cons, List.length_append, List.map_cons, List.sum_cons, List.length_cons]; have := Pure.ones x; omega
theorem flat_take (l : List (List Int)) (i : Nat) : (l.take i).flatten.length ≤ l.flatten.length := by
  have := congrArg List.flatten (List.take_append_drop i l)
  rw [List.flatten_append] at this
  rw [← this, List.length_append]; omega

open Classical in
noncomputable def tumblerlaw05_WireStreams.f (a0 : Int) (l1 : List (List Int)) (l2 : List Bool) : Option Bool := if 1 + ((l1.map (fun xs => (xs.map (fun _ => 1)).sum + 1)).sum + 1) + ((l2.map (fun _ => 1)).sum + 1) ≤ 1048576 ∧ (∀ x ∈ l1, bytesIn x) then some true else none

set_option maxHeartbeats 3200000 in
set_option maxRecDepth 4000 in
theorem tumblerlaw05_WireStreams.calls (a0 : Int) (A1 : Option Addr) (c1 : Nat) (l1 : List (List Int)) (A2 : Option Addr) (c2 : Nat) (l2 : List Bool) (r : Bool) (w : World) (hr1 : Kd.C (Kd.slice 5 (Kd.int .u8)) w A1 l1.length l1) (hc1 : l1.length ≤ c1) (hr2 : Kd.C Kd.bool w A2 l2.length l2) (hc2 : l2.length ≤ c2) (h : tumblerlaw05_WireStreams.f a0 l1 l2 = some r) :
    Calls Try.prog 6 #[.int .i64 a0, .slice A1 l1.length c1, .slice A2 l2.length c2] w fun e w' => e = .returned (.bool r) ∧ Below w.heap.size w w' := by
  obtain ⟨⟨hb, hbytes⟩, rfl⟩ : (1 + ((l1.map (fun xs => (xs.map (fun _ => 1)).sum + 1)).sum + 1) + ((l2.map (fun _ => 1)).sum + 1) ≤ 1048576 ∧ (∀ x ∈ l1, bytesIn x)) ∧ r = true := by
    unfold tumblerlaw05_WireStreams.f at h
    split at h
    · exact ⟨by assumption, (Option.some.inj h).symm⟩
    · cases h
  clear h
  have HA := Aside0.mk (Pure.alive_f 30 (by omega))
  have hfl := flat_len l1
  have hfl2 : l1.flatten.length ≤ 1048576 ∧ l1.length ≤ 1048576 := by omega
  clear hfl hb
  by_cases hs : 1 ≤ a0 ∧ a0 ≤ 1024
  · have HN := Aside0.mk (NewSt_f a0 hs)
    have HR1 := Aside0.mk hr1
    have HR2 := Aside0.mk hr2
    have hl2 := hr2.2.1
    have HBy := Aside0.mk hbytes
    clear hr1 hr2 hbytes
    go_enter Try.func6, Try.ntmps6
    go_wp2_with (first
      | (go_at_call 23; (with_reducible refine (NewStream_yes a0 _ hs.1 hs.2).mono ?_); rintro e w1 ⟨rfl, hp1, hb1⟩; have HP := Aside0.mk hp1; have HB := Aside0.mk hb1; clear hp1 hb1)
      | (go_at_call 24; (with_reducible refine (tumblerref05_NewStream.calls a0 a0 (⟨#[]⟩ : ByteArray) 0 0 0 _ HN.out).mono ?_); rintro e w2 ⟨rfl, hb2⟩; have HB2 := Aside0.mk hb2; clear hb2)
      | (go_at_call 13; (with_reducible refine (tumblerlaw05_alive.calls 30 true _ HA.out).mono ?_); rintro e w3 ⟨rfl, hb3⟩; have HB3 := Aside0.mk hb3; clear hb3))
    have hbase : Below w.heap.size w w3 := by
      have e1 := HB.out
      have e2 : Below w.heap.size w1 w2 := ⟨HB2.out.os, HB2.out.tape, HB2.out.output, HB2.out.size, fun k hk => HB2.out.block k (Nat.lt_of_lt_of_le hk e1.size)⟩
      have e3 := (e1.trans e2).alloc (by have := e1.size; have := HB2.out.size; omega) (.cells #[.int .i64 a0, .string ⟨#[]⟩, .int .i64 0, .int .i64 0] 55 (0, 0))
      exact below_step e3 HB3.out
    have hstr : Str w3 w.heap.size w.heap.size w2.heap.size a0 [] 0 (.slice none 0 0) 0 := by
      refine ⟨?_, ⟨?_, ?_⟩⟩
      · have k1 := HP.out.keep (Keep.of_below (S := fun _ => False) HB2.out) (fun h => h) (fun _ _ h => h)
        have k2 := k1.keep ((Keep.refl _ (fun _ => False)).alloc (.cells #[.int .i64 a0, .string ⟨#[]⟩, .int .i64 0, .int .i64 0] 55 (0, 0))) (fun h => h) (fun _ _ h => h)
        exact k2.keep (Keep.of_below (S := fun _ => False) HB3.out) (fun h => h) (fun _ _ h => h)
      · exact (HB3.out.block _ (by simp)).trans (heap_alloc_new _ _)
      · have := HB.out.size; have := HB2.out.size; omega
    have HS0 := Aside0.mk hstr
    have HK0 := Aside0.mk hbase
    clear hstr hbase HB HB2 HB3 HP
    go_loopg [11] (l1.length + 1) (fun kq v11 w' => ∃ (i : Nat) (al : List Int) (v : Value) (last lost : Int), v11 = .int .i64 i ∧ i + kq = l1.length + 1 ∧ i ≤ l1.length ∧ Aside0 (al = (l1.take i).flatten) ∧ Aside0 (Str w' w.heap.size w.heap.size w2.heap.size a0 al lost v last) ∧ Aside0 (Below w.heap.size w w') ∧ Aside0 (bytesIn al) ∧ 0 ≤ lost ∧ lost ≤ al.length)
    case atStart => exact ⟨0, [], _, 0, 0, rfl, by omega, by omega, ⟨rfl⟩, HS0, HK0, ⟨fun x hx => by cases hx⟩, by omega, by simp⟩
    case round =>
      clear HS0 HK0
      obtain ⟨i, al, v, last, lost, rfl, hiq, hil, HAl, HS, HK, HBa, hlo1, hlo2⟩ := hrel
      have hB := HK.out.size
      have hal : al.length ≤ 1048576 := by rw [HAl.out]; have := flat_take l1 i; omega
      by_cases hlt : i < l1.length
      · cases gk with
        | zero => omega
        | succ k1 =>
          obtain ⟨ad, Ab, cb, rfl, hcell, hcb, hC⟩ := at_L7 HR1.out (i : Int) (by omega) (by omega)
          rw [Int.toNat_natCast] at hcell
          have eb : rd_L7 l1 (i : Int) = l1[i] := by unfold rd_L7; rw [Int.toNat_natCast, List.getD_eq_getElem?_getD, List.getElem?_eq_getElem hlt]; rfl
          rw [eb] at hcell hcb hC
          have htf := take_flat l1 i hlt
          have hbm := HBy.out l1[i] (List.getElem_mem _)
          have htl := flat_take l1 (i + 1)
          obtain ⟨b, hbv⟩ : ∃ b, b = l1[i] := ⟨_, rfl⟩
          rw [← hbv] at hcell hcb hC htf hbm
          rw [htf, ← HAl.out, List.length_append] at htl
          have HTF := Aside0.mk (htf.trans (by rw [← HAl.out]))
          have HBm := Aside0.mk hbm
          have HCb := Aside0.mk hC
          have HCell := Aside0.mk hcell
          have hlen : al.length + b.length ≤ 1048576 := by omega
          have hlp : (lastp al).length ≤ al.length := by
            have := Pure.cutI_bytes al HBa.out (lastp al) (by rw [cut_split al]; simp)
            exact this.2
          obtain ⟨cur', lost', outs, hf⟩ : ∃ cur' lost' outs, feedS a0 b (lastp al) lost = ((cur', lost'), outs) := ⟨_, _, _, rfl⟩
          have hfl3 := feedS_len a0 b (lastp al) lost
          have hcur : cur' = lastp (al ++ b) := by have := feed_last a0 al b lost; rw [hf] at this; exact (Prod.mk.inj (Prod.mk.inj this).1).1
          rw [hf] at hfl3
          dsimp only at hfl3
          have HF := Aside0.mk hf
          have hout : outs.length ≤ 1048576 := by have := hfl3.2.2.2; omega
          have hlo3 : 0 ≤ lost' ∧ lost' ≤ ((al ++ b).length : Int) := by have := hfl3.2.1; have := hfl3.2.2.1; rw [List.length_append]; omega
          have HSM := Aside0.mk (Pure.same_f outs (by omega) (outs.length + 1) (by omega))
          have d1 : decide ((i : Int) < l1.length) = true := decide_eq_true (by omega)
          clear hC hbm htf htl eb hbv hf hfl3 hcell
          subst hcur
          go_upto_region 10 with (fail)
          go_cut [63] from 44 to 63 (fun v63 wx => v63 = .bool false ∧ ∃ v' last', Aside0 (Str wx w.heap.size w.heap.size w2.heap.size a0 (al ++ b) lost' v' last') ∧ Aside0 (Below w.heap.size w wx))
          case first =>
            have hc1 := old_cell HK.out.drew HCell.out
            have HS1 := Aside0.mk (HS.out.quiet (keep_drew wr))
            have HK1 := Aside0.mk HK.out.drew
            have hB1 : w.heap.size ≤ wr.drew.heap.size := hB
            clear HS HK hB
            go_region_with (first
              | (go_at_call 25; (with_reducible refine (Stream_Feed HS1.out.s hs Ab cb b (fun w' hk => Kd.C_below HCb.out (HK1.out.trans (HS1.out.s.foot hB1 hk))) hB1 (by omega) (by omega) HF.out).mono ?_); rintro e w4 ⟨Aa, ca, v4, last4, rfl, hs4, ho4, hk4, hw4⟩; have HS2 := Aside0.mk hs4; have HR2 := Aside0.mk (RsAt.aside HS1.out.s HS1.out.r hk4); have HK2 := Aside0.mk (HK1.out.trans (HS1.out.s.foot hB1 hk4)); have hB2 := HK2.out.size; have hc4 := old_cell HK2.out HCell.out; have HOa1 := Aside0.mk ho4; clear HS1 HK1 hs4 ho4 hk4 hw4 hB1)
              | (go_at_call 26; (with_reducible refine (RS_Feed HR2.out hs Ab cb b (Kd.C_below HCb.out HK2.out) hB2 HBm.out HBa.out hlen (by omega) HF.out).mono ?_); rintro e w5 ⟨Ad, cd, rfl, hr5, ho5, hk5⟩; have HS3 := Aside0.mk (StAt.aside HS2.out HR2.out hk5); have HR3 := Aside0.mk hr5; have HK3 := Aside0.mk (HK2.out.trans (HR2.out.foot hB2 hk5)); have HOa := Aside0.mk (R_keep HOa1.out hk5 (fun k e eg => by obtain ⟨cs, fr, h1⟩ := R_typed HOa1.out k e; exact ne_typed h1 HR2.out.blk (by decide) eg)); have HOb := Aside0.mk ho5; clear HS2 HR2 HK2 HOa1 hr5 ho5 hk5 hB2)
              | (go_at_call 26; (with_reducible refine (RS_Feed HS1.out.r hs Ab cb b (Kd.C_below HCb.out HK1.out) hB1 HBm.out HBa.out hlen (by omega) HF.out).mono ?_); rintro e w5 ⟨Ad, cd, rfl, hr5, ho5, hk5⟩; have HS2 := Aside0.mk (StAt.aside HS1.out.s HS1.out.r hk5); have HR2 := Aside0.mk hr5; have HK2 := Aside0.mk (HK1.out.trans (HS1.out.r.foot hB1 hk5)); have hB2 := HK2.out.size; have hc4 := old_cell HK2.out HCell.out; have HOb1 := Aside0.mk ho5; clear HS1 HK1 hr5 ho5 hk5 hB1)
              | (go_at_call 25; (with_reducible refine (Stream_Feed HS2.out hs Ab cb b (fun w' hk => Kd.C_below HCb.out (HK2.out.trans (HS2.out.foot hB2 hk))) hB2 (by omega) (by omega) HF.out).mono ?_); rintro e w4 ⟨Aa, ca, v4, last4, rfl, hs4, ho4, hk4, hw4⟩; have HS3 := Aside0.mk hs4; have HR3 := Aside0.mk (RsAt.aside HS2.out HR2.out hk4); have HK3 := Aside0.mk (HK2.out.trans (HS2.out.foot hB2 hk4)); have HOb := Aside0.mk (R_keep HOb1.out hk4 (fun k e eg => by obtain ⟨cs, fr, h1⟩ := R_typed HOb1.out k e; rcases eg with eg | eg; exact ne_typed h1 HS2.out.blk (by decide) eg; obtain ⟨cs, fr, h2⟩ := R_typed HS2.out.row k eg.symm; exact ne_typed h1 h2 (by decide) rfl)); have HOa := Aside0.mk ho4; clear HS2 HR2 HK2 HOb1 hs4 ho4 hk4 hw4 hB2)
              | (go_at_call 10; refine (tumblerlaw05_same.calls (outs.length + 1) Aa ca outs Ad cd outs true _ (Kd.R_reads' HOa.out).2.2 (Kd.R_reads' HOa.out).2.1 (Kd.R_reads' HOb.out).2.2 (Kd.R_reads' HOb.out).2.1 HSM.out).mono ?_; rintro e w6 ⟨rfl, ⟨nd, rfl⟩⟩; have HSf := Aside0.mk (StAt.keep HS3.out (keep_drewN _ nd) (fun h => h) (fun _ _ h => h)); have HRf := Aside0.mk (RsAt.keep HR3.out (keep_drewN _ nd) (fun h => h)); have HKf := Aside0.mk (pw_below_drewN HK3.out nd); have hg3 := blk_cell HRf.out.blk 3; clear HS3 HR3 HK3 HOa HOb)
              | (go_at_call 27; (with_reducible refine (Stream_Lost HSf.out hs.1).mono ?_); rintro e w' ⟨rfl, rfl⟩))
            all_goals (go_wp2_with (fail); go_meet; exact ⟨rfl, _, _, ⟨HSf.out, HRf.out⟩, HKf⟩)
          case rest =>
            obtain ⟨rfl, v', last', HSc, HKc⟩ := hcut
            clear HS HK hB
            have HS := HSc
            have HK := HKc
            have HTF' := Aside0.mk HTF.out.symm
            have HBa' := Aside0.mk (show bytesIn (al ++ b) from fun x hx => by rcases List.mem_append.1 hx with hx | hx; exact HBa.out x hx; exact HBm.out x hx)
            have hlen2 : (al ++ b).length ≤ 1048576 := by rw [List.length_append]; omega
            obtain ⟨E, hE⟩ : ∃ E, E = strOfNums ((lastp (al ++ b)).take (a0 + 1).toNat) := ⟨_, rfl⟩
            clear HSc HKc HCb HCell HF HSM HTF hlen hlp hout hcb
            by_cases hl : i < l2.length
            · have d2 : decide ((i : Int) < l2.length) = true := decide_eq_true (by omega)
              obtain ⟨ad2, rfl, hcell2⟩ := Kd.at_bool (Kd.C_below HR2.out HK.out) (i : Int) (by omega) (by omega)
              rw [Int.toNat_natCast] at hcell2
              obtain ⟨q, hq⟩ : ∃ q, q = rdOf false l2 (i : Int) := ⟨_, rfl⟩
              rw [← hq] at hcell2
              clear hq
              cases q with
              | true =>
                go_wp2_with (first
                  | (go_at_call 28; (with_reducible refine (Stream_End HS.out.s hs.1).mono ?_); rintro e w' ⟨rfl, rfl⟩)
                  | (go_at_call 29; (with_reducible refine (RS_End HS.out.r hs HBa'.out hlen2).mono ?_); rintro e w9 ⟨rfl, hk9⟩; have HS_ := Aside0.mk (HS.out.quiet hk9); have HK_ := Aside0.mk (below_step HK.out (keep_below0 hk9)); clear HS HK hk9; have HS := HS_; have HK := HK_; clear HS_ HK_))
                go_roundg k1
                case rel => exact ⟨i + 1, al ++ b, _, _, lost', by go_num, by omega, by omega, HTF', HS, HK, HBa', hlo3.1, hlo3.2⟩
                case measure => omega
              | false =>
                go_wp2
                go_roundg k1
                case rel => exact ⟨i + 1, al ++ b, _, _, lost', by go_num, by omega, by omega, HTF', HS, HK, HBa', hlo3.1, hlo3.2⟩
                case measure => omega
            · have d2 : decide ((i : Int) < l2.length) = false := decide_eq_false (by omega)
              go_wp2
              go_roundg k1
              case rel => exact ⟨i + 1, al ++ b, _, _, lost', by go_num, by omega, by omega, HTF', HS, HK, HBa', hlo3.1, hlo3.2⟩
              case measure => omega
      · have d1 : decide ((i : Int) < l1.length) = false := decide_eq_false (by omega)
        go_wp2_with (first
          | (go_at_call 28; (with_reducible refine (Stream_End HS.out.s hs.1).mono ?_); rintro e w' ⟨rfl, rfl⟩)
          | (go_at_call 29; (with_reducible refine (RS_End HS.out.r hs HBa.out hal).mono ?_); rintro e w9 ⟨rfl, hk9⟩; have HS_ := Aside0.mk (HS.out.quiet hk9); have HK_ := Aside0.mk (below_step HK.out (keep_below0 hk9)); clear HS HK hk9; have HS := HS_; have HK := HK_; clear HS_ HK_))
        go_ret
        exact ⟨rfl, HK.out⟩
  · have HN := Aside0.mk (NewSt_n a0 hs)
    have HB := Aside0.mk (Below.refl w.heap.size w)
    clear hr1 hr2 hc1 hc2 hbytes
    go_enter Try.func6, Try.ntmps6
    go_wp2_with (first
      | (go_at_call 23; (with_reducible refine (NewStream_no a0 _ hs).mono ?_); rintro e w1 ⟨rfl, rfl⟩)
      | (go_at_call 24; (with_reducible refine (tumblerref05_NewStream.calls a0 0 (⟨#[]⟩ : ByteArray) 0 0 50 _ HN.out).mono ?_); rintro e w2 ⟨rfl, hb2⟩; have HB1 := Aside0.mk (below_alloc hb2 (.cells #[.int .i64 0, .string ⟨#[]⟩, .int .i64 0, .int .i64 0] 55 (0, 0))); clear HB hb2)
      | (go_at_call 13; (with_reducible refine (tumblerlaw05_alive.calls 30 true _ HA.out).mono ?_); rintro e w3 ⟨rfl, hb3⟩; have HB2 := Aside0.mk (below_step HB1.out hb3); clear hb3 HB1))
    go_ret
    exact ⟨rfl, HB2.out⟩
end Go.Proofs.Ytoflnoaabjomaaa.Q
