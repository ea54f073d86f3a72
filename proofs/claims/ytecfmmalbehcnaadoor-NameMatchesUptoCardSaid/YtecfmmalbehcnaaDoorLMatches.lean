/- NameMatches: a pattern has a name as the rule says. The law's walk. -/
import Derived.Test.YtecfmmalbehcnaaDoorNRMatch
import Derived.Test.YtecfmmalbehcnaaDoorNPat
import Derived.Deep.RegionHeld3
namespace Go.Proofs.YtecfmmalbehcnaaDoor.Q
open Go.Shelf Go.RowKit Go.Proofs Go.Proofs.YtecfmmalbehcnaaDoorW.PrintWords Go.Proofs.YtecfmmalbehcnaaDoorW.PrintLast Go.Proofs.YtecfmmalbehcnaaDoorW.PrintMore Go.Proofs.YtecfmmalbehcnaaDoorV
set_option linter.unusedVariables false
set_option linter.unusedSimpArgs false

set_option maxHeartbeats 3200000 in
theorem law_NameMatches {w : World} {A : Option Addr} {c : Nat} {p : List (List Gl)} (h : kNode.C w A p.length p) (hc : p.length ≤ c) (hb : bulkP p ≤ 1048576) (s : ByteArray) (hs : s.size ≤ 1048576) :
    Calls Tryd.prog 4 #[.agg #[.slice A p.length c], .string s] w fun e w' => e = .returned (.bool true) ∧ Below w.heap.size w w' := by
  have HA := Aside0.mk law_alive
  have hpl := bulkP_len p
  have HP := Aside0.mk (fun W (hW : Below w.heap.size w W) => name_Match (c := c) (Kd.C_below h hW) hc hb s (by omega))
  have HQ := Aside0.mk (fun W (hW : Below w.heap.size w W) => ref_Match (c := c) (Kd.C_below h hW) hc hb s (by omega))
  obtain ⟨b, hb0⟩ : ∃ b, b = matchB p s.data.toList := ⟨_, rfl⟩
  rw [← hb0] at HP HQ
  have hbb : (b == b) = true := by simp
  have hpl2 : p.length ≤ 1048576 := by omega
  clear h hb hb0 hpl
  have HB0 := below_alloc (Below.refl w.heap.size w) (.cells #[.slice A p.length c] 24)
  have HX0 := heap_alloc_new w (.cells #[.slice A p.length c] 24 (0, 0))
  obtain ⟨w1, hw1⟩ : ∃ w1, w1 = w.alloc (.cells #[.slice A p.length c] 24 (0, 0)) := ⟨_, rfl⟩
  have HW1 := Aside0.mk hw1
  rw [← hw1] at HB0 HX0
  have HB := Aside0.mk (show Below w.heap.size w w1.drew from below_drew HB0)
  have HX := Aside0.mk (show w1.drew.heap[w.heap.size]? = some (.cells #[.slice A p.length c] 24 (0, 0)) from HX0)
  have x0 : w1.cell? ⟨w.heap.size, 0, none⟩ = some (.slice A p.length c) := blk_cell HX0 0
  clear hw1 HB0 HX0
  go_enter Tryd.func4, Tryd.ntmps4
  go_upto_region 1 with (fail)
  rw [← HW1.out]
  clear HW1
  go_region_held3 (fun w' => w'.cell? ⟨w.heap.size, 0, none⟩ = some (.slice A p.length c)) (go_keep) (first
    | (go_at_call 20; (with_reducible refine (HP.out _ HB.out).mono ?_); rintro e w2 ⟨rfl, hb⟩; have HB2 := Aside0.mk (HB.out.trans (hb.mono HB.out.size)); have HX2 := Aside0.mk (blk_below HX.out hb); have k0 : w2.cell? ⟨w.heap.size, 0, none⟩ = some (.slice A p.length c) := blk_cell HX2.out 0; clear hb)
    | (go_at_call 21; (with_reducible refine (HQ.out _ HB2.out).mono ?_); rintro e w3 ⟨rfl, hb⟩; have HB3 := Aside0.mk (HB2.out.trans (hb.mono HB2.out.size)); have HX3 := Aside0.mk (blk_below HX2.out hb); have k1 : w3.cell? ⟨w.heap.size, 0, none⟩ = some (.slice A p.length c) := blk_cell HX3.out 0; clear hb)
    | (go_at_call 19; (with_reducible refine (HA.out _).mono ?_); rintro e w4 ⟨rfl, hb⟩; have HB4 := Aside0.mk (HB3.out.trans (hb.mono HB3.out.size)); have k2 : w4.cell? ⟨w.heap.size, 0, none⟩ = some (.slice A p.length c) := blk_cell (blk_below HX3.out hb) 0; clear hb))
  all_goals
    go_wp2_with (fail)
    go_ret
    exact ⟨rfl, HB4.out⟩
end Go.Proofs.YtecfmmalbehcnaaDoor.Q
