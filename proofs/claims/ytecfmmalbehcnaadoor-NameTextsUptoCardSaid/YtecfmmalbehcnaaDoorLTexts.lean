/- NameTexts: a pattern's text. The law's walk. -/
import Derived.Test.YtecfmmalbehcnaaDoorNRText
import Derived.Test.YtecfmmalbehcnaaDoorNPat
namespace Go.Proofs.YtecfmmalbehcnaaDoor.Q
open Go.Shelf Go.RowKit Go.Proofs Go.Proofs.YtecfmmalbehcnaaDoorW.PrintWords Go.Proofs.YtecfmmalbehcnaaDoorW.PrintLast Go.Proofs.YtecfmmalbehcnaaDoorW.PrintMore Go.Proofs.YtecfmmalbehcnaaDoorV
set_option linter.unusedVariables false
set_option linter.unusedSimpArgs false

set_option maxHeartbeats 3200000 in
theorem law_NameTexts {w : World} {A : Option Addr} {c : Nat} {p : List (List Gl)} (h : kNode.C w A p.length p) (hc : p.length ≤ c) (hb : bulkP p ≤ 1048576) :
    Calls Tryd.prog 10 #[.agg #[.slice A p.length c]] w fun e w' => e = .returned (.bool true) ∧ Below w.heap.size w w' := by
  have HA := Aside0.mk law_alive
  have H := Aside0.mk h
  have hpl := bulkP_len p
  have HB := Aside0.mk (below_alloc (Below.refl w.heap.size w) (.cells #[.slice A p.length c] 24))
  have HBX := Aside0.mk (heap_alloc_new w (.cells #[.slice A p.length c] 24 (0, 0)))
  have HP := Aside0.mk (fun W (hW : Below w.heap.size w W) => name_Text (c := c) (Kd.C_below h hW) hc hb)
  have HQ := Aside0.mk (fun W (hW : Below w.heap.size w W) => ref_Text (c := c) (Kd.C_below h hW) hc hb)
  obtain ⟨x, b, hxb⟩ : ∃ x b, textP p = (x, b) := ⟨_, _, rfl⟩
  rw [hxb] at HP HQ
  change Aside0 (∀ W (hW : Below w.heap.size w W), Calls Tryd.prog 30 #[.agg #[.slice A p.length c]] W fun e w' => e = .returned (.tuple #[.string (strB x), .int .i64 b]) ∧ Below W.heap.size W w') at HP
  change Aside0 (∀ W (hW : Below w.heap.size w W), Calls Tryd.prog 31 #[.agg #[.slice A p.length c]] W fun e w' => e = .returned (.tuple #[.string (strB x), .int .i64 b]) ∧ Below W.heap.size W w') at HQ
  obtain ⟨X, hX⟩ : ∃ X, X = strB x := ⟨_, rfl⟩
  rw [← hX] at HP HQ
  have hxx : (X.toList == X.toList) = true := by simp
  have hbb : (b == b) = true := by simp
  have hpl2 : p.length ≤ 1048576 := by omega
  clear h hb hxb hX hpl
  have x0 : (w.alloc (.cells #[.slice A p.length c] 24 (0, 0))).cell? ⟨w.heap.size, 0, none⟩ = some (.slice A p.length c) := blk_cell HBX.out 0
  go_enter Tryd.func10, Tryd.ntmps10
  go_wp2_with (fail)
  refine (HP.out _ HB.out).mono ?_
  rintro e w2 ⟨rfl, hb⟩
  have HB2 := Aside0.mk (HB.out.trans (hb.mono HB.out.size))
  have HX2 := Aside0.mk (blk_below HBX.out hb)
  clear hb x0
  have x2 : w2.cell? ⟨w.heap.size, 0, none⟩ = some (.slice A p.length c) := blk_cell HX2.out 0
  go_wp2_with (fail)
  refine (HQ.out _ HB2.out).mono ?_
  rintro e w3 ⟨rfl, hb⟩
  have HB3 := Aside0.mk (HB2.out.trans (hb.mono HB2.out.size))
  clear hb x2
  go_wp2_with (fail)
  refine (HA.out _).mono ?_
  rintro e w4 ⟨rfl, hb⟩
  have HB4 := Aside0.mk (HB3.out.trans (hb.mono HB3.out.size))
  clear hb
  go_wp2_with (fail)
  go_ret
  exact ⟨rfl, HB4.out⟩
end Go.Proofs.YtecfmmalbehcnaaDoor.Q
