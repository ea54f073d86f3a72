/- NameNames: what is a name, its nodes, each of them. The law's walk. -/
import Derived.Test.YtecfmmalbehcnaaDoorNRef1
namespace Go.Proofs.YtecfmmalbehcnaaDoor.Q
open Go.Shelf Go.RowKit Go.Proofs Go.Proofs.YtecfmmalbehcnaaDoorW.PrintWords Go.Proofs.YtecfmmalbehcnaaDoorW.PrintLast Go.Proofs.YtecfmmalbehcnaaDoorW.PrintMore Go.Proofs.YtecfmmalbehcnaaDoorV
set_option linter.unusedVariables false
set_option linter.unusedSimpArgs false

set_option maxHeartbeats 3200000 in
theorem law_NameNames (w : World) (s : ByteArray) (i : Int) (hs : s.size ≤ 1048576) (hi : (Lit.int .i64 i).wf = true) :
    Calls Tryd.prog 9 #[.string s, .int .i64 i] w fun e w' => e = .returned (.bool true) ∧ Below w.heap.size w w' := by
  have HA := Aside0.mk law_alive
  have H1 := Aside0.mk (fun W => name_Node s i (by omega) hi W)
  have H2 := Aside0.mk (fun W => ref_Node s i (by omega) hi W)
  have H3 := Aside0.mk (fun W => valid_calls s (by omega) W)
  have H4 := Aside0.mk (fun W => ref_Valid s (by omega) W)
  have H5 := Aside0.mk (fun W => name_Nodes s (by omega) W)
  have H6 := Aside0.mk (fun W => ref_Nodes s (by omega) W)
  have hN := nodesB_len s
  obtain ⟨x, b, hxb⟩ : ∃ x b, nodeB (nodesB s) i = (x, b) := ⟨_, _, rfl⟩
  obtain ⟨N, hN0⟩ : ∃ N, N = nodesB s := ⟨_, rfl⟩
  rw [hxb] at H1 H2
  rw [← hN0] at H5 H6 hN
  obtain ⟨v, hv⟩ : ∃ v, v = validP s.data.toList := ⟨_, rfl⟩
  rw [← hv] at H3 H4
  have hxx : (x.toList == x.toList) = true := by simp
  have hvv : (v == v) = true := by simp
  have hbb : (b == b) = true := by simp
  clear hxb hN0 hv hi
  go_enter Tryd.func9, Tryd.ntmps9
  go_wp2_with (fail)
  refine (H1.out _).mono ?_
  rintro e w1 ⟨rfl, hb⟩
  have HB1 := Aside0.mk hb
  clear hb
  go_wp2_with (fail)
  refine (H2.out _).mono ?_
  rintro e w2 ⟨rfl, hb⟩
  have HB2 := Aside0.mk (HB1.out.trans (hb.mono HB1.out.size))
  clear hb
  go_wp2_with (fail)
  refine (H3.out _).mono ?_
  rintro e w3 ⟨rfl, hb⟩
  have HB3 := Aside0.mk (HB2.out.trans (hb.mono HB2.out.size))
  clear hb
  go_wp2_with (fail)
  refine (H4.out _).mono ?_
  rintro e w4 ⟨rfl, hb⟩
  have HB4 := Aside0.mk (HB3.out.trans (hb.mono HB3.out.size))
  clear hb
  go_wp2_with (fail)
  refine (H5.out _).mono ?_
  rintro e w5 ⟨v5, rfl, ho5, hb⟩
  have HB5 := Aside0.mk (HB4.out.trans (hb.mono HB4.out.size))
  obtain ⟨A5, c5, ev⟩ := Kd.R_slice ho5
  subst ev
  have HR5 := Aside0.mk (Kd.R_reads' ho5)
  clear hb ho5
  go_wp2_with (fail)
  refine (H6.out _).mono ?_
  rintro e w6 ⟨v6, rfl, ho6, hb⟩
  have HB6 := Aside0.mk (HB5.out.trans (hb.mono HB5.out.size))
  have HC5 := Aside0.mk (Kd.C_below HR5.out.2.2 hb)
  obtain ⟨A6, c6, ev⟩ := Kd.R_slice ho6
  subst ev
  have HR6 := Aside0.mk (Kd.R_reads' ho6)
  clear hb ho6
  have HST := Aside0.mk (ref_SameTexts HC5.out HR5.out.2.1 HR6.out.2.2 HR6.out.2.1 (by omega))
  rw [decide_eq_true (show N = N from rfl)] at HST
  go_wp2_with (fail)
  refine (HST.out).mono ?_
  rintro e w7 ⟨rfl, ⟨nd, rfl⟩⟩
  go_wp2_with (fail)
  refine (HA.out _).mono ?_
  rintro e w8 ⟨rfl, hb⟩
  have HB8 := Aside0.mk ((pw_below_drewN HB6.out nd).trans (hb.mono (pw_below_drewN HB6.out nd).size))
  clear hb
  go_wp2_with (fail)
  go_ret
  exact ⟨rfl, HB8.out⟩
end Go.Proofs.YtecfmmalbehcnaaDoor.Q
