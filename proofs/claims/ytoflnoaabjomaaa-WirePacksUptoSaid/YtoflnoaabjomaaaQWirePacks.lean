import Derived.Test.YtoflnoaabjomaaaQPack
import Derived.Test.YtoflnoaabjomaaaVOpen
namespace Go.Proofs.Ytoflnoaabjomaaa.Q
open Go.RowKit Go.Proofs.YtoflnoaabjomaaaW.PrintWords Go.Proofs.YtoflnoaabjomaaaW.PrintLast Go.Proofs.YtoflnoaabjomaaaW.PrintMore Go.Proofs.YtoflnoaabjomaaaV
set_option linter.unusedVariables false
set_option linter.unusedSimpArgs false

structure S38 where
  f0 : Bool
  f1 : ByteArray
def z38 : S38 := ⟨false, (⟨#[]⟩ : ByteArray)⟩
def k38 : Kd S38 := Kd.iso (Kd.pair Kd.bool Kd.string) (fun x : S38 => (x.f0, x.f1))
theorem k38_open {w : World} {x : S38} {cs : List Value} (h : k38.K w x cs) : cs = [.bool x.f0, .string x.f1] := by
  obtain ⟨_, _, rfl, rfl, rfl⟩ := h
  exact rfl
theorem k38_openM {w : World} {base : Nat} {ok : Nat → Prop} {x : S38} {cs : List Value} (h : k38.M w base ok x cs) : cs = [.bool x.f0, .string x.f1] := by
  obtain ⟨_, _, rfl, rfl, rfl⟩ := h
  exact rfl
theorem k38_mk (w : World) (x : S38)  : k38.K w x [.bool x.f0, .string x.f1] := ⟨[.bool x.f0], [.string x.f1], rfl, rfl, rfl⟩
theorem k38_mkM (w : World) (base : Nat) (ok : Nat → Prop) (x : S38)  : k38.M w base ok x [.bool x.f0, .string x.f1] := ⟨[.bool x.f0], [.string x.f1], rfl, rfl, rfl⟩
theorem k38_mkF (W : World) (ok : Nat → Prop) (x : S38) : Kd.FK k38 W ok x [.bool x.f0, .string x.f1] := fun W2 _ => k38_mk W2 x
def rd_T38 (xs : List S38) (i : Int) : S38 := xs.getD i.toNat z38
theorem at_T38 {w : World} {A : Option Addr} {n : Nat} {xs : List S38} (h : Kd.C k38 w A n xs) (i : Int) (h0 : 0 ≤ i) (h1 : i < n) : ∃ ad , A = some ad ∧ w.cell? (ad.add (i.toNat * 2)) = some (.bool (rd_T38 xs i).f0) ∧ w.cell? ⟨(ad.add (i.toNat * 2)).block, (ad.add (i.toNat * 2)).off + 1, none⟩ = some (.string (rd_T38 xs i).f1) := by
  obtain ⟨ad, c, e, _, hK, hc0⟩ := Kd.C_get h z38 i h0 h1
  have hc : ∀ j u, c[j]? = some u → w.cell? (ad.add (i.toNat * 2 + j)) = some u := hc0
  obtain rfl := k38_open hK
  exact ⟨ad, e, hc 0 _ rfl, by rw [← add_field _ _ 1 (by omega)]; exact hc 1 _ rfl⟩

def meas38 (x : S38) : Nat := 1 + ((x.f1.size + 1)) + 1
def tumblerlaw05_WirePacks.f (a0 : Int) (l1 : List S38) : Option Bool := if 1 + ((l1.map meas38).sum + 1) ≤ 1048576 then some true else none

theorem meas_mem {x : S38} : ∀ {l : List S38}, x ∈ l → meas38 x ≤ (l.map meas38).sum := by
  intro l
  induction l with
  | nil => intro h; cases h
  | cons y r ih =>
    intro h
    simp only [List.map_cons, List.sum_cons]
    rcases List.mem_cons.1 h with rfl | h
    · omega
    · have := ih h; omega

theorem at_T38' {w : World} {ad : Addr} {xs : List S38} (h : Kd.C k38 w (some ad) xs.length xs) {k : Nat} (hk : k < xs.length) {fl : Bool} {s : ByteArray} (hx : ⟨fl, s⟩ = rd_T38 xs (k : Int)) : w.cell? ⟨(ad.add (k * 2)).block, (ad.add (k * 2)).off + 1, none⟩ = some (.string s) := by
  obtain ⟨ad', e, _, h1⟩ := at_T38 h (k : Int) (by omega) (by omega)
  injection e with e
  subst e
  rw [← hx, Int.toNat_natCast] at h1
  exact h1

theorem alive_true : ∃ k, tumblerlaw05_alive.f k = some true := by
  exact ⟨30, by decide +kernel⟩

theorem NewPk_f (a0 : Int) (h : 1 ≤ a0 ∧ a0 ≤ 65536) : tumblerref05_NewPacker.f a0 = some (a0, [], 0) := by
  unfold tumblerref05_NewPacker.f; rw [if_neg (by omega), if_neg (by omega)]
theorem NewPk_n (a0 : Int) (h : ¬ (1 ≤ a0 ∧ a0 ≤ 65536)) : tumblerref05_NewPacker.f a0 = some (0, [], 50) := by
  unfold tumblerref05_NewPacker.f
  by_cases h1 : a0 < 1
  · rw [if_pos h1]
  · rw [if_neg h1, if_pos (by omega)]

set_option maxHeartbeats 1600000 in
theorem tumblerlaw05_WirePacks.calls (a0 : Int) (A1 : Option Addr) (c1 : Nat) (l1 : List S38) (r : Bool) (w : World) (hr1 : Kd.C k38 w A1 l1.length l1) (hc1 : l1.length ≤ c1) (h : tumblerlaw05_WirePacks.f a0 l1 = some r) :
    Calls Try.prog 4 #[.int .i64 a0, .slice A1 l1.length c1] w fun e w' => e = .returned (.bool r) ∧ Below w.heap.size w w' := by
  obtain ⟨hb, rfl⟩ : 1 + ((l1.map meas38).sum + 1) ≤ 1048576 ∧ r = true := by
    unfold tumblerlaw05_WirePacks.f at h
    split at h
    · exact ⟨by assumption, (Option.some.inj h).symm⟩
    · cases h
  clear h
  obtain ⟨ka, hka⟩ := alive_true
  have HA := Aside0.mk hka
  clear hka
  by_cases hs : 1 ≤ a0 ∧ a0 ≤ 65536
  · have HN := Aside0.mk (NewPk_f a0 hs)
    have hlm := hr1.2.1
    have HR1 := Aside0.mk hr1
    have HB1 := Aside0.mk hb
    clear hr1 hb
    go_enter Try.func4, Try.ntmps4
    go_wp2_with (first
      | (go_at_call 14; (with_reducible refine (NewPacker_yes a0 _ hs.1 hs.2).mono ?_); rintro e w1 ⟨rfl, hp1, hb1⟩; have HP := Aside0.mk hp1; have HB := Aside0.mk hb1; clear hp1 hb1)
      | (go_at_call 15; (with_reducible refine (tumblerref05_NewPacker.calls a0 a0 [] 0 _ HN.out).mono ?_); rintro e w2 ⟨v1, rfl, ho2, hb2⟩; obtain ⟨Av, cv, ev⟩ := Kd.R_slice ho2; subst ev; have HO := Aside0.mk ho2; have HB2 := Aside0.mk hb2; clear ho2 hb2)
      | (go_at_call 13; (with_reducible refine (tumblerlaw05_alive.calls ka true _ HA.out).mono ?_); rintro e w3 ⟨rfl, hb3⟩; have HB3 := Aside0.mk hb3; clear hb3))
    obtain ⟨v, u, W0, hv0⟩ : ∃ v u W0, v = Value.slice none 0 0 ∧ u = Value.slice Av 0 cv ∧ W0 = w3 := ⟨_, _, _, rfl, rfl, rfl⟩
    have hbase : Below w.heap.size w w3 := by
      have e1 := HB.out
      have e2 : Below w.heap.size w1 w2 := ⟨HB2.out.os, HB2.out.tape, HB2.out.output, HB2.out.size, fun k hk => HB2.out.block k (Nat.lt_of_lt_of_le hk e1.size)⟩
      have e3 := (e1.trans e2).alloc (by have := e1.size; have := HB2.out.size; omega) (.cells #[.int .i64 a0, .slice Av 0 cv] 34 (0, 0))
      exact below_step e3 HB3.out
    have htwo : Two w3 w.heap.size w.heap.size w2.heap.size a0 [] (.slice none 0 0) (.slice Av 0 cv) := by
      refine ⟨?_, ⟨?_, ?_, ?_⟩, ⟨by simp, by rw [joinB_nil]; show ((0 : Nat) : Int) ≤ a0; omega⟩⟩
      · rw [joinB_nil]
        have k1 := HP.out.keep (Keep.of_below (S := fun _ => False) HB2.out) (fun h => h) (fun _ _ h => h)
        have k2 := k1.keep ((Keep.refl _ (fun _ => False)).alloc (.cells #[.int .i64 a0, .slice Av 0 cv] 34 (0, 0))) (fun h => h) (fun _ _ h => h)
        exact k2.keep (Keep.of_below (S := fun _ => False) HB3.out) (fun h => h) (fun _ _ h => h)
      · exact (HB3.out.block _ (by simp)).trans (heap_alloc_new _ _)
      · refine R_tight HO.out (fun k e => ?_)
        have hlt := R_lt' HO.out k e
        obtain ⟨inner, ho⟩ := Kd.R_own HO.out
        have hge := own_base ho k e
        have := HB.out.size
        exact ⟨(HB3.out.block _ (by simp; omega)).trans (Below.heap_alloc _ _ _ hlt), by omega, by omega⟩
      · have := HB.out.size; have := HB2.out.size; omega
    have HT0 := Aside0.mk htwo
    have HK0 := Aside0.mk hbase
    clear hv0 htwo hbase HO HB HB2 HB3 HP
    obtain ⟨gp, gq, hgp, hgq⟩ : ∃ gp gq, gp = w.heap.size ∧ gq = w2.heap.size := ⟨_, _, rfl, rfl⟩
    go_loopg [9] (l1.length + 1) (fun kq v9 w' => ∃ (k : Nat) (L : List ByteArray) (v u : Value), v9 = .int .i64 k ∧ k + kq = l1.length + 1 ∧ Aside0 (Two w' w.heap.size w.heap.size w2.heap.size a0 L v u) ∧ Aside0 (Below w.heap.size w w'))
    case atStart => exact ⟨0, [], _, _, rfl, by omega, HT0, HK0⟩
    case round =>
      obtain ⟨k, L, v, u, rfl, hkq, HT, HK⟩ := hrel
      clear HT0 HK0
      by_cases hlt : k < l1.length
      · cases gk with
        | zero => omega
        | succ k1 =>
          obtain ⟨ad, rfl, hc0, hc1⟩ := at_T38 (Kd.C_below HR1.out HK.out) (k : Int) (by omega) (by omega)
          have d1 : decide ((k : Int) < l1.length) = true := decide_eq_true (by omega)
          have hsz : (rd_T38 l1 (k : Int)).f1.size ≤ 1048576 := by
            have hm : rd_T38 l1 (k : Int) ∈ l1 := by
              unfold rd_T38; rw [Int.toNat_natCast, List.getD_eq_getElem?_getD, List.getElem?_eq_getElem hlt]; exact List.getElem_mem _
            have := meas_mem hm
            have := HB1.out
            simp only [meas38] at *
            omega
          obtain ⟨x, hx⟩ : ∃ x, x = rd_T38 l1 (k : Int) := ⟨_, rfl⟩
          rw [← hx] at hc0 hc1 hsz
          rw [Int.toNat_natCast] at hc0 hc1
          obtain ⟨fl, s⟩ := x
          have hfit := HT.out.l.fit
          have hB := HK.out.size
          have HX := Aside0.mk hx
          have HP1 := Aside0.mk HT.out.p.drew
          have HQ1 := Aside0.mk HT.out.q.drew
          have HP := Aside0.mk HT.out.p
          have HQ := Aside0.mk HT.out.q
          have HL := Aside0.mk HT.out.l
          have HG := Aside0.mk HT.out.q.drew.old
          have HG1 := Aside0.mk HT.out.q.old
          have hjs : (joinB L).size ≤ 65536 := by omega
          clear HT hx hfit
          have hB1 : w.heap.size ≤ wr.drew.heap.size := hB
          cases fl with
          | true =>
            go_wp2
            go_region_with (first
              | (go_at_call 16; (with_reducible refine (Packer_FlushL HP1.out hs.1 hB1 (by omega)).mono ?_); rintro e w4 ⟨Ao, co, v4, rfl, hp4, ho4, hk4⟩; have HQ2 := Aside0.mk (RpAt.aside HP1.out HQ1.out hk4); have HB2 := Aside0.mk (HK.out.drew.trans (HP1.out.foot hB1 hk4)); have HP2 := Aside0.mk hp4; have hsz4 : w.heap.size ≤ w4.heap.size := HB2.out.size; have hcv := cv_of_R ho4; have HO2 := Aside0.mk ho4; clear HP1 HQ1 HK hp4 hk4 ho4 hB1)
              | (go_at_call 17; (with_reducible refine (RFlushL HQ2.out (by omega)).mono ?_); rintro e w5 ⟨rfl, hq5, hk5⟩; have HP3 := Aside0.mk (PkAt.aside HP2.out HQ2.out hk5); have HB3 := Aside0.mk (HB2.out.trans (HQ2.out.foot hsz4 hk5)); have HQ3 := Aside0.mk hq5; have hcv5 := cv_of_R (R_newer HO2.out hk5 HG.out); clear HP2 HQ2 HB2 hq5 hk5 HO2)
              | (go_at_call 17; (with_reducible refine (RFlushL HQ1.out (by omega)).mono ?_); rintro e w5 ⟨rfl, hq5, hk5⟩; have HP2 := Aside0.mk (PkAt.aside HP1.out HQ1.out hk5); have HB2 := Aside0.mk (HK.out.drew.trans (HQ1.out.foot hB1 hk5)); have hsz5 : w.heap.size ≤ w5.heap.size := HB2.out.size; have HQ2 := Aside0.mk hq5; clear HP1 HQ1 HK hq5 hk5 hB1)
              | (go_at_call 16; (with_reducible refine (Packer_FlushL HP2.out hs.1 hsz5 (by omega)).mono ?_); rintro e w4 ⟨Ao, co, v4, rfl, hp4, ho4, hk4⟩; have HQ3 := Aside0.mk (RpAt.aside HP2.out HQ2.out hk4); have HB3 := Aside0.mk (HB2.out.trans (HP2.out.foot hsz5 hk4)); have HP3 := Aside0.mk hp4; have hcv := cv_of_R ho4; clear HP2 HQ2 HB2 hp4 hk4 ho4))
            all_goals (
              go_wp2_with (first
                | (go_at_call 20; (with_reducible refine (Packer_HeldL HP3.out hs.1).mono ?_); rintro e w' ⟨rfl, rfl⟩)
                | (go_at_call 21; (with_reducible refine (RBytes HQ3.out (by rw [joinB_nil]; decide)).mono ?_); rintro e w' ⟨rfl, rfl⟩))
              go_roundg k1
              case rel => exact ⟨k + 1, [], _, _, by go_num, by omega, ⟨HP3.out, HQ3.out, Lines.nil hs.1⟩, HB3⟩
              case measure => omega)
          | false =>
            obtain ⟨out, er, L', hadd⟩ : ∃ out er L', addP a0 L s = (out, er, L') := ⟨_, _, _, rfl⟩
            have HD := Aside0.mk hadd
            have HL' := Aside0.mk (HL.out.add hadd)
            have hj' := HL'.out.fit
            clear hadd HP1 HQ1 hB1
            go_wp2_with (first
              | (go_at_call 18; (with_reducible refine (Packer_AddE s HD.out HP.out HL.out hs.1 hs.2 hB (by omega)).mono ?_); rintro e w4 ⟨Ao, co, v4, rfl, hp4, ho4, hk4⟩; have HQ2 := Aside0.mk (RpAt.aside HP.out HQ.out hk4); have HB2 := Aside0.mk (HK.out.trans (HP.out.foot hB hk4)); have HP2 := Aside0.mk hp4; have hsz4 : w.heap.size ≤ w4.heap.size := HB2.out.size; have HO2 := Aside0.mk ho4; have hce := at_T38' (Kd.C_below HR1.out HB2.out) hlt HX.out; clear HP HQ HK hp4 hk4 ho4 hB)
              | (go_at_call 19; (with_reducible refine (RAddE s HD.out HQ2.out HL.out hs.1 hs.2 hsz4 (by omega)).mono ?_); rintro e w5 ⟨u5, rfl, hq5, hk5⟩; have HP3 := Aside0.mk (PkAt.aside HP2.out HQ2.out hk5); have HB3 := Aside0.mk (HB2.out.trans (HQ2.out.foot hsz4 hk5)); have HQ3 := Aside0.mk hq5; have hcv5 := cv_of_R (R_newer HO2.out hk5 (fun k hk => HG1.out k hk)); clear HP2 HQ2 HB2 hq5 hk5 HO2)
              | (go_at_call 20; (with_reducible refine (Packer_HeldL HP3.out hs.1).mono ?_); rintro e w' ⟨rfl, rfl⟩)
              | (go_at_call 21; (with_reducible refine (RBytes HQ3.out (by omega)).mono ?_); rintro e w' ⟨rfl, rfl⟩))
            go_roundg k1
            case rel => exact ⟨k + 1, L', _, _, by go_num, by omega, ⟨HP3.out, HQ3.out, HL'.out⟩, HB3⟩
            case measure => omega
      · have d1 : decide ((k : Int) < l1.length) = false := decide_eq_false (by omega)
        go_wp2
        go_ret
        exact ⟨rfl, HK.out⟩
  · have HN := Aside0.mk (NewPk_n a0 hs)
    have HB := Aside0.mk (Below.refl w.heap.size w)
    clear hr1 hb hc1
    go_enter Try.func4, Try.ntmps4
    go_wp2_with (first
      | (go_at_call 14; (with_reducible refine (NewPacker_no a0 _ hs).mono ?_); rintro e w1 ⟨rfl, rfl⟩)
      | (go_at_call 15; (with_reducible refine (tumblerref05_NewPacker.calls a0 0 [] 50 _ HN.out).mono ?_); rintro e w2 ⟨v1, rfl, ho2, hb2⟩; obtain ⟨Av, cv, ev⟩ := Kd.R_slice ho2; subst ev; have HB1 := Aside0.mk (below_alloc hb2 (.cells #[.int .i64 0, .slice Av 0 cv] 34 (0, 0))); clear HB hb2 ho2)
      | (go_at_call 13; (with_reducible refine (tumblerlaw05_alive.calls ka true _ HA.out).mono ?_); rintro e w3 ⟨rfl, hb3⟩; have HB2 := Aside0.mk (below_step HB1.out hb3); clear hb3 HB1))
    go_ret
    exact ⟨rfl, HB2.out⟩
end Go.Proofs.Ytoflnoaabjomaaa.Q
