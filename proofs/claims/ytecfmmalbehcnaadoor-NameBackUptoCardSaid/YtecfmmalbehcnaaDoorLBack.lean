/- NameBack: a pattern's text is read as the same pattern. The law's walk. -/
import Derived.Test.YtecfmmalbehcnaaDoorNRSame
import Derived.Test.YtecfmmalbehcnaaDoorPBulk
import Derived.Deep.RegionHeld3
namespace Go.Proofs.YtecfmmalbehcnaaDoor.Q
open Go.Shelf Go.RowKit Go.Proofs Go.Proofs.YtecfmmalbehcnaaDoorW.PrintWords Go.Proofs.YtecfmmalbehcnaaDoorW.PrintLast Go.Proofs.YtecfmmalbehcnaaDoorW.PrintMore Go.Proofs.YtecfmmalbehcnaaDoorV
set_option linter.unusedVariables false
set_option linter.unusedSimpArgs false

theorem compP_nil {s : List UInt8} (h : (compP s).2.2 ≠ 0) : (compP s).1 = [] := by
  unfold compP at *
  by_cases h4 : 400 < s.length
  · rw [if_pos h4]
  · rw [if_neg h4] at h ⊢
    exact (compile_err h).1
theorem compP_ok {s : List UInt8} {p : List (List Gl)} {a : Int} (h : compP s = (p, a, 0)) : PatMay p ∧ a = 0 ∧ (wholeR p).length ≤ s.length ∧ s.length ≤ 400 := by
  unfold compP at h
  by_cases h4 : 400 < s.length
  · rw [if_pos h4] at h
    injection h with h1 h2
    injection h2 with h3 h4
    cases h4
  · rw [if_neg h4] at h
    obtain ⟨h1, h2, h3⟩ := compile_ok h
    exact ⟨h1, h2, h3, by omega⟩
theorem mayB_nil : mayB [] = false := by
  cases h : mayB [] with
  | false => rfl
  | true => exact absurd rfl (mayB_iff.1 h).1
theorem textP_nil : textP [] = ([], 31) := by unfold textP; rw [mayB_nil]; rfl
theorem textP_may {p : List (List Gl)} (h : PatMay p) (hl : (wholeR p).length ≤ 400) : textP p = (wholeR p, 0) := by
  unfold textP
  rw [mayB_iff.2 h, if_pos rfl, if_neg (by omega)]
theorem matchB_nil (s : List UInt8) : matchB [] s = false := by unfold matchB; rw [mayB_nil]; simp
/-- The pattern block that a compiling call leaves. -/
structure PatAt (w : World) (g : Nat) (A : Option Addr) (c : Nat) (p : List (List Gl)) (w' : World) : Prop where
  low : Below w.heap.size w w'
  blk : w'.heap[g]? = some (.cells #[.slice A p.length c] 24 (0, 0))
  own : kNode.C w' A p.length p
  cap : p.length ≤ c
theorem PatAt.below {w w' w'' : World} {g : Nat} {A : Option Addr} {c : Nat} {p : List (List Gl)} (h : PatAt w g A c p w') (hb : Below w'.heap.size w' w'') : PatAt w g A c p w'' :=
  ⟨h.low.trans (hb.mono h.low.size), blk_below h.blk hb, Kd.C_below h.own hb, h.cap⟩
theorem PatAt.alloc {w w' : World} {g : Nat} {A : Option Addr} {c : Nat} {p : List (List Gl)} (h : PatAt w g A c p w') (cs : Array Value) (t : TypeId) : PatAt w g A c p (w'.alloc (.cells cs t (0, 0))) :=
  ⟨below_alloc h.low (.cells cs t), blk_alloc h.blk (.cells cs t), Kd.C_alloc h.own (.cells cs t), h.cap⟩
theorem PatAt.drew {w w' : World} {g : Nat} {A : Option Addr} {c : Nat} {p : List (List Gl)} (h : PatAt w g A c p w') : PatAt w g A c p w'.drew :=
  h.below (below_drew (Below.refl _ _))
theorem PatAt.drewN {w w' : World} {g : Nat} {A : Option Addr} {c : Nat} {p : List (List Gl)} (h : PatAt w g A c p w') (n : Nat) : PatAt w g A c p (w'.drewN n) :=
  h.below (pw_below_drewN (Below.refl _ _) n)
theorem PatAt.cell {w w' : World} {g : Nat} {A : Option Addr} {c : Nat} {p : List (List Gl)} (h : PatAt w g A c p w') : w'.cell? ⟨g, 0, none⟩ = some (.slice A p.length c) := blk_cell h.blk 0
theorem PatAt.made {w w1 : World} {A : Option Addr} {c : Nat} {p : List (List Gl)} {base : Nat} (hl : Below w.heap.size w w1) (ho : kNode.R 40 w1 base (fun _ => True) (.slice A p.length c) p) :
    PatAt w w1.heap.size A c p (w1.alloc (.cells #[.slice A p.length c] 24 (0, 0))) :=
  ⟨below_alloc hl (.cells #[.slice A p.length c] 24), heap_alloc_new w1 _, Kd.C_alloc (own_reads_pat ho).2.2 (.cells #[.slice A p.length c] 24), (own_reads_pat ho).2.1⟩

set_option maxHeartbeats 6400000 in
theorem law_NameBack (w : World) (s o : ByteArray) (hs : s.size ≤ 1048576) (ho : o.size ≤ 1048576) :
    Calls Tryd.prog 11 #[.string s, .string o] w fun e w' => e = .returned (.bool true) ∧ Below w.heap.size w w' := by
  have HA := Aside0.mk law_alive
  have HC := Aside0.mk (fun W => name_Compile s W)
  have hsl := size_data s
  have HNil := Aside0.mk (@compP_nil s.data.toList)
  have HOk := Aside0.mk (@compP_ok s.data.toList)
  generalize hc : compP s.data.toList = cc at HC HNil HOk
  obtain ⟨p, at1, er⟩ := cc
  clear hc
  by_cases he : er = 0
  · subst he
    obtain ⟨h1, rfl, h3, h4⟩ := HOk.out rfl
    have hl4 : (wholeR p).length ≤ 400 := by omega
    have hb := may_bulk h1 hl4
    have HC2 := Aside0.mk (fun W => name_Compile (strB (wholeR p)) W)
    rw [show compP (strB (wholeR p)).data.toList = (p, 0, 0) from compP_may h1 hl4] at HC2
    have HT := Aside0.mk (fun W (A : Option Addr) (c : Nat) (h : kNode.C W A p.length p) (hc : p.length ≤ c) => name_Text h hc hb)
    rw [textP_may h1 hl4] at HT
    have HM := Aside0.mk (fun W (A : Option Addr) (c : Nat) (h : kNode.C W A p.length p) (hc : p.length ≤ c) => name_Match h hc hb o (by omega))
    have HS := Aside0.mk (fun W (A B : Option Addr) (c d : Nat) (h : kNode.C W A p.length p) (hc : p.length ≤ c) (h2 : kNode.C W B p.length p) (hd : p.length ≤ d) => ref_Same h hc h2 hd hb hb)
    rw [decide_eq_true (show p = p from rfl)] at HS
    have hpl := h1.2.1
    have hz : (strB (wholeR p)).size ≤ s.size := by rw [size_strB]; omega
    obtain ⟨b, hb0⟩ : ∃ b, b = matchB p o.data.toList := ⟨_, rfl⟩
    rw [← hb0] at HM
    have hbb : (b == b) = true := by simp
    change Aside0 (∀ W (A : Option Addr) (c : Nat) (h : kNode.C W A p.length p) (hc : p.length ≤ c), Calls Tryd.prog 30 #[.agg #[.slice A p.length c]] W fun e w' => e = .returned (.tuple #[.string (strB (wholeR p)), .int .i64 0]) ∧ Below W.heap.size W w') at HT
    obtain ⟨X, hX⟩ : ∃ X, X = strB (wholeR p) := ⟨_, rfl⟩
    rw [← hX] at HT HC2 hz
    have dz : decide ((X.size : Int) ≤ (s.size : Int)) = true := decide_eq_true (by omega)
    have hxx : (X.toList == X.toList) = true := by simp
    clear hb0 hb h1 h3 h4 hl4 HNil HOk hX hsl
    go_enter Tryd.func11, Tryd.ntmps11
    go_wp2_with (fail)
    refine (HA.out _).mono ?_
    rintro e w1 ⟨rfl, hb⟩
    have HB1 := Aside0.mk hb
    clear hb
    go_upto_region 4 with (go_at_call 16; (with_reducible refine (HC.out _).mono ?_); rintro e w2 hp; obtain ⟨v, rfl, ho2, hb⟩ := hp; have HB2 := Aside0.mk (HB1.out.trans (hb.mono HB1.out.size)); obtain ⟨A1, c1, ev⟩ := Kd.R_slice ho2; subst ev; have HO2 := Aside0.mk ho2; clear ho2 hb)
    have HP3 := Aside0.mk (PatAt.made (w := w) HB2.out HO2.out)
    change Code.wp _ _ _ _ (w2.alloc (.cells #[.slice A1 p.length c1] 24))
    obtain ⟨g1, hg1⟩ : ∃ g1, g1 = w2.heap.size := ⟨_, rfl⟩
    rw [← hg1] at HP3 ⊢
    clear hg1 HO2 HB2 HB1
    generalize w2.alloc (.cells #[.slice A1 p.length c1] 24) = w3 at HP3 ⊢
    have x3 := HP3.out.cell
    go_wp2_with (fail)
    refine (HT.out _ _ _ HP3.out.own HP3.out.cap).mono ?_
    rintro e w4 ⟨rfl, hb⟩
    have HP4 := Aside0.mk (HP3.out.below hb)
    clear hb x3 HP3
    go_upto_region 8 with (go_at_call 16; (with_reducible refine (HC2.out _).mono ?_); rintro e w5 hp; obtain ⟨v, rfl, ho5, hb⟩ := hp; have HP5 := Aside0.mk (HP4.out.below hb); obtain ⟨A2, c2, ev⟩ := Kd.R_slice ho5; subst ev; have HO5 := Aside0.mk ho5; clear ho5 hb)
    have HP6 := Aside0.mk (HP5.out.alloc #[.slice A2 p.length c2] 24)
    have HQ6 := Aside0.mk (PatAt.made (w := w) HP5.out.low HO5.out)
    change Code.wp _ _ _ _ (w5.alloc (.cells #[.slice A2 p.length c2] 24))
    obtain ⟨g2, hg2⟩ : ∃ g2, g2 = w5.heap.size := ⟨_, rfl⟩
    rw [← hg2] at HQ6 ⊢
    clear hg2 HO5 HP4 HP5
    generalize w5.alloc (.cells #[.slice A2 p.length c2] 24) = w6 at HP6 HQ6 ⊢
    have x6 := HP6.out.cell
    have y6 := HQ6.out.cell
    go_wp2_with (fail)
    refine (HT.out _ _ _ HQ6.out.own HQ6.out.cap).mono ?_
    rintro e w7 ⟨rfl, hb⟩
    have HP7 := Aside0.mk ((HP6.out.below hb).drew)
    have HQ7 := Aside0.mk ((HQ6.out.below hb).drew)
    have HP7n := Aside0.mk (HP6.out.below hb)
    have HQ7n := Aside0.mk (HQ6.out.below hb)
    clear hb x6 y6 HP6 HQ6
    have x7 := HP7n.out.cell
    have y7 := HQ7n.out.cell
    go_upto_region 9 with (fail)
    go_region_held3 (fun w' => w'.cell? ⟨g1, 0, none⟩ = some (.slice A1 p.length c1) ∧ w'.cell? ⟨g2, 0, none⟩ = some (.slice A2 p.length c2)) (go_keep) (first
      | (go_at_call 18; (with_reducible refine (HS.out _ _ _ _ _ HP7.out.own HP7.out.cap HQ7.out.own HQ7.out.cap).mono ?_); rintro e w8 ⟨rfl, hb⟩; have HP8 := Aside0.mk (HP7.out.below hb); have HQ8 := Aside0.mk (HQ7.out.below hb); have k0 := HP8.out.cell; have k1 := HQ8.out.cell; clear hb)
      | (go_at_call 20; (with_reducible refine (HM.out _ _ _ HP8.out.own HP8.out.cap).mono ?_); rintro e w9 ⟨rfl, hb⟩; have HP9 := Aside0.mk (HP8.out.below hb); have HQ9 := Aside0.mk (HQ8.out.below hb); have j0 := HP9.out.cell; have j1 := HQ9.out.cell; clear hb)
      | (go_at_call 20; (with_reducible refine (HM.out _ _ _ HQ9.out.own HQ9.out.cap).mono ?_); rintro e w10 ⟨rfl, hb⟩; have HP10 := Aside0.mk (HP9.out.below hb); have HQ10 := Aside0.mk (HQ9.out.below hb); have i0 := HP10.out.cell; have i1 := HQ10.out.cell; clear hb))
    all_goals
      go_wp2_with (fail)
      go_ret
      exact ⟨rfl, HP10.out.low⟩
  · obtain rfl : p = [] := HNil.out he
    have HT := Aside0.mk (fun W (A : Option Addr) (c : Nat) (h : kNode.C W A ([] : List (List Gl)).length []) (hc : ([] : List (List Gl)).length ≤ c) => name_Text (p := []) h hc (by decide))
    rw [textP_nil] at HT
    have HM := Aside0.mk (fun W (A : Option Addr) (c : Nat) (h : kNode.C W A ([] : List (List Gl)).length []) (hc : ([] : List (List Gl)).length ≤ c) => name_Match (p := []) h hc (by decide) o (by omega))
    rw [matchB_nil] at HM
    change Aside0 (∀ W (A : Option Addr) (c : Nat) (h : kNode.C W A 0 []) (hc : 0 ≤ c), Calls Tryd.prog 30 #[.agg #[.slice A 0 c]] W fun e w' => e = .returned (.tuple #[.string ⟨#[]⟩, .int .i64 31]) ∧ Below W.heap.size W w') at HT
    have e0 : (er = 0) = False := eq_false he
    clear HNil HOk hsl
    go_enter Tryd.func11, Tryd.ntmps11
    go_wp2_with (fail)
    refine (HA.out _).mono ?_
    rintro e w1 ⟨rfl, hb⟩
    have HB1 := Aside0.mk hb
    clear hb
    go_upto_region 4 with (go_at_call 16; (with_reducible refine (HC.out _).mono ?_); rintro e w2 hp; obtain ⟨v, rfl, ho2, hb⟩ := hp; have HB2 := Aside0.mk (HB1.out.trans (hb.mono HB1.out.size)); obtain ⟨A1, c1, ev⟩ := Kd.R_slice ho2; subst ev; have HO2 := Aside0.mk ho2; clear ho2 hb)
    have HP3 := Aside0.mk (PatAt.made (w := w) HB2.out HO2.out)
    change Code.wp _ _ _ _ (w2.alloc (.cells #[.slice A1 0 c1] 24))
    change Aside0 (PatAt w _ A1 c1 [] (w2.alloc (.cells #[.slice A1 0 c1] 24))) at HP3
    obtain ⟨g1, hg1⟩ : ∃ g1, g1 = w2.heap.size := ⟨_, rfl⟩
    rw [← hg1] at HP3 ⊢
    clear hg1 HO2 HB2 HB1
    generalize w2.alloc (.cells #[.slice A1 0 c1] 24) = w3 at HP3 ⊢
    have x3 : w3.cell? ⟨g1, 0, none⟩ = some (.slice A1 0 c1) := HP3.out.cell
    go_wp2_with (fail)
    refine (HT.out _ _ _ HP3.out.own HP3.out.cap).mono ?_
    rintro e w4 ⟨rfl, hb⟩
    have HP4 := Aside0.mk (HP3.out.below hb)
    clear hb x3 HP3
    have x4 : w4.cell? ⟨g1, 0, none⟩ = some (.slice A1 0 c1) := HP4.out.cell
    go_wp2_with (fail)
    refine (HM.out _ _ _ HP4.out.own HP4.out.cap).mono ?_
    rintro e w5 ⟨rfl, hb⟩
    have HP5 := Aside0.mk (HP4.out.below hb)
    clear hb x4 HP4
    go_wp2_with (fail)
    go_ret
    exact ⟨rfl, HP5.out.low⟩
end Go.Proofs.YtecfmmalbehcnaaDoor.Q
