import Derived.Test.YtadmigijbfdboaaBWneg
import Derived.Laws.BitsAllLaws
namespace Go.Proofs.Ytadmigijbfdboaa.Q
open Go.RowKit Go.Proofs.YtadmigijbfdboaaW.PrintWords Go.Proofs.YtadmigijbfdboaaW.PrintLast Go.Proofs.YtadmigijbfdboaaW.PrintMore Go.Proofs.YtadmigijbfdboaaV
set_option linter.unusedVariables false
set_option linter.unusedSimpArgs false

/-- Four limbs of a word. -/
def dig (x : Int) (i : Nat) : Int := x / 2 ^ (16 * i) % 65536
def digs (x : Int) (n : Nat) : List Int := (List.range n).map (dig x)
set_option maxHeartbeats 1600000 in
theorem xor_ones (v : Nat) (h : v < 18446744073709551616) : 18446744073709551615 ^^^ v = 18446744073709551615 - v := by
  have h1 := BitVec.toNat_xor (BitVec.allOnes 64) (BitVec.ofNat 64 v)
  have h2 : (BitVec.allOnes 64 ^^^ BitVec.ofNat 64 v) = ~~~ (BitVec.ofNat 64 v) := by rw [BitVec.xor_comm, BitVec.xor_allOnes]
  rw [h2, BitVec.toNat_not, BitVec.toNat_allOnes, BitVec.toNat_ofNat, Nat.mod_eq_of_lt h] at h1
  exact h1.symm
theorem not64 (v : Int) (h0 : 0 ≤ v) (h1 : v ≤ 18446744073709551615) : bits .xor .u64 IntKind.u64.max v = 18446744073709551615 - v := by
  rw [show IntKind.u64.max = 18446744073709551615 by rfl, u64_xor 18446744073709551615 v (by omega) (by omega) h0 (by omega)]
  have := xor_ones v.toNat (by omega)
  rw [show (18446744073709551615 : Int).toNat = 18446744073709551615 by rfl, this]
  omega
theorem digs_succ (x : Int) (i : Nat) : digs x (i + 1) = digs x i ++ [dig x i] := by unfold digs; rw [List.range_succ, List.map_append]; rfl
theorem digs_len (x : Int) (i : Nat) : (digs x i).length = i := by unfold digs; simp
theorem digs_ok (x : Int) (i : Nat) : okL (digs x i) := fun y hy => by
  obtain ⟨j, -, rfl⟩ := List.mem_map.1 hy
  unfold dig
  omega
theorem dig_and (L : Int) (i : Nat) : bits .and .u32 (L / 2 ^ (16 * i) % 4294967296) 65535 = dig L i := by
  rw [and16 _ (by omega) (by omega)]
  unfold dig
  generalize L / 2 ^ (16 * i) = q
  omega
theorem valL_digs4 (L H : Int) (h1 : 0 ≤ L) (h2 : L ≤ 18446744073709551615) (h3 : 0 ≤ H) (h4 : H ≤ 18446744073709551615) : valL (digs L 4 ++ digs H 4) = H * 18446744073709551616 + L := by
  have e : digs L 4 ++ digs H 4 = [L / 1 % 65536, L / 65536 % 65536, L / 4294967296 % 65536, L / 281474976710656 % 65536, H / 1 % 65536, H / 65536 % 65536, H / 4294967296 % 65536, H / 281474976710656 % 65536] := rfl
  rw [e]
  simp only [valL]
  omega
set_option maxRecDepth 8000 in
theorem ref_From {x : Int} (w : World) (hx : inW x) :
    Calls Try.prog 28 #[WV x] w fun e w' => ∃ v, e = .returned v ∧ NumV w' v x ∧ Below w.heap.size w w' := by
  have k1 := hi_rng hx
  have k3 := lo_rng x
  have ex : x = hiW x * 18446744073709551616 + loW x := by unfold hiW loW; omega
  unfold WV
  obtain ⟨a, ha⟩ : ∃ a, a = hiW x := ⟨_, rfl⟩
  obtain ⟨b, hb⟩ : ∃ b, b = loW x := ⟨_, rfl⟩
  rw [← ha] at k1 ex ⊢
  rw [← hb] at k3 ex ⊢
  obtain ⟨ua, hua⟩ : ∃ s, s = IntKind.u64.wrap a := ⟨_, rfl⟩
  have HU := Aside0.mk hua.symm
  clear hua
  clear ha hb
  obtain ⟨W, hW⟩ : ∃ W, W = (w.alloc (.cells #[.int .i64 a, .int .u64 b] 24 (0, 0))).alloc (.cells #[.bool false, .slice none 0 0] 81 (0, 0)) := ⟨_, rfl⟩
  have n0 : W.heap[w.heap.size]? = some (.cells #[.int .i64 a, .int .u64 b] 24 (0, 0)) := by rw [hW]; exact blk_alloc (heap_alloc_new _ _) _
  have n1 : W.heap[w.heap.size + 1]? = some (.cells #[.bool false, .slice none 0 0] 81 (0, 0)) := by rw [hW]; exact heap_alloc2_new _ _ _
  have q0 : W.cell? ⟨w.heap.size, 0, none⟩ = some (.int .i64 a) := blk_cell n0 0
  have q1 : W.cell? ⟨w.heap.size, 1, none⟩ = some (.int .u64 b) := blk_cell n0 1
  have N1 := Aside0.mk n1
  have HB := Aside0.mk (show Below w.heap.size w W by rw [hW]; exact below_alloc (below_alloc (Below.refl _ _) _) _)
  have HW := Aside0.mk hW
  clear n0 n1 hW
  go_enter Try.func28, Try.ntmps28
  go_wp2
  rw [← HW.out]
  go_quiet (fail)
  obtain ⟨bo, hbo⟩ : ∃ bo, decide (a < 0) = bo := ⟨_, rfl⟩
  have HBO := Aside0.mk hbo
  have EX := Aside0.mk ex
  clear ex
  go_upto_if 17 with (fail)
  go_cut [4, 5] from 18 to 26 (fun v4 v5 wx => ∃ H L : Int, v4 = .int .u64 H ∧ v5 = .int .u64 L ∧ 0 ≤ H ∧ H ≤ 18446744073709551615 ∧ 0 ≤ L ∧ L ≤ 18446744073709551615 ∧ (x.natAbs : Int) = H * 18446744073709551616 + L ∧ wx = W.drewN nq)
  case first =>
    have ex := EX.out
    cases bo with
    | false =>
      have h0 : ¬ a < 0 := of_decide_eq_false HBO.out
      have hw : IntKind.u64.wrap a = a := by rw [u64w]; omega
      have HW2 := Aside0.mk hw
      have HXN := Aside0.mk (show (x.natAbs : Int) = a * 18446744073709551616 + b by omega)
      clear hw ex
      go_wp2
      go_meet
      exact ⟨a, b, by rw [HW2.out], rfl, by omega, by omega, by omega, by omega, HXN.out, rfl⟩
    | true =>
      have h0 : a < 0 := of_decide_eq_true HBO.out
      have hw : IntKind.u64.wrap a = a + 18446744073709551616 := by rw [u64w]; omega
      have X1 := not64 b (by omega) (by omega)
      have X2 := not64 (IntKind.u64.wrap a) (by rw [hw]; omega) (by rw [hw]; omega)
      rw [show 18446744073709551615 - IntKind.u64.wrap a = -1 - a by rw [hw]; omega] at X2
      by_cases hb0 : b = 0
      · subst hb0
        have HXN := Aside0.mk (show (x.natAbs : Int) = (-a) * 18446744073709551616 + 0 by omega)
        clear hw ex
        go_wp2
        go_meet
        exact ⟨-a, 0, by rw [show IntKind.u64.wrap (-1 - a + 1) = -a by rw [u64w]; omega], by rw [show IntKind.u64.wrap 18446744073709551616 = 0 by rw [u64w]; omega], by omega, by omega, by omega, by omega, HXN.out, rfl⟩
      · have f0 : (IntKind.u64.wrap (18446744073709551615 - b + 1) == 0) = false := by rw [u64w]; exact beq_eq_false_iff_ne.mpr (by omega)
        have HXN := Aside0.mk (show (x.natAbs : Int) = (-1 - a) * 18446744073709551616 + (18446744073709551616 - b) by omega)
        clear hw ex
        go_wp2
        all_goals first
          | (go_meet; exact ⟨-1 - a, 18446744073709551616 - b, rfl, by rw [show IntKind.u64.wrap (18446744073709551615 - b + 1) = 18446744073709551616 - b by rw [u64w]; omega], by omega, by omega, by omega, by omega, HXN.out, rfl⟩)
          | (exfalso; rename_i hh; have hq : IntKind.u64.wrap (bits .xor .u64 (if IntKind.u64.signed = true then -1 else IntKind.u64.max) b + 1) = 0 := (by simpa using hh); rw [if_neg (by decide), X1, u64w] at hq; omega)
  case rest =>
    obtain ⟨H, L, rfl, rfl, h1, h2, h3, h4, hn, rfl⟩ := hcut
    have HXN := Aside0.mk hn
    have HB2 := Aside0.mk (pw_below_drewN HB.out nq)
    have N2 := Aside0.mk (blk_drewN N1.out nq)
    obtain ⟨V, hV⟩ : ∃ V, V = W.drewN nq := ⟨_, rfl⟩
    rw [← hV] at HB2 N2 ⊢
    have EX0 := EX
    clear hn q0 q1 N1 HB hV EX
    go_wp2
    go_loopg [3, 7] 4 (fun kq v3 v7 w' => ∃ (i : Nat) (A5 : Option Addr) (c5 : Nat), v3 = .slice A5 (digs L i).length c5 ∧ v7 = .int .i64 i ∧ i + kq = 4 ∧ Aside0 (Kd.R (Kd.int .u32) 96 w' V.heap.size (fun _ => True) (.slice A5 (digs L i).length c5) (digs L i)) ∧ Aside0 (Below V.heap.size V w'))
    case atStart => exact ⟨0, none, 0, rfl, rfl, rfl, ⟨Kd.R_nil _ _ _ _ _⟩, ⟨Below.refl _ _⟩⟩
    case round =>
      obtain ⟨i, A5, c5, rfl, rfl, hik, HR, HK⟩ := hrel
      have hBw := HK.out.size
      cases gk with
      | zero =>
        obtain rfl : i = 4 := by omega
        have f1 : decide ((4 : Nat) < 4) = false := rfl
        obtain ⟨A0, hA0⟩ : ∃ A0, A0 = A5 := ⟨_, rfl⟩
        obtain ⟨c0, hc0⟩ : ∃ c0, c0 = c5 := ⟨_, rfl⟩
        go_wp2
        go_loopg [3, 8] 4 (fun kq v3 v8 w' => ∃ (i : Nat) (A5 : Option Addr) (c5 : Nat), v3 = .slice A5 (digs L 4 ++ digs H i).length c5 ∧ v8 = .int .i64 i ∧ i + kq = 4 ∧ Aside0 (Kd.R (Kd.int .u32) 96 w' V.heap.size (fun _ => True) (.slice A5 (digs L 4 ++ digs H i).length c5) (digs L 4 ++ digs H i)) ∧ Aside0 (Below V.heap.size V w'))
        case atStart => exact ⟨0, A5, c5, by rw [show digs L 4 ++ digs H 0 = digs L 4 from List.append_nil _], rfl, rfl, ⟨by rw [show digs L 4 ++ digs H 0 = digs L 4 from List.append_nil _]; exact HR.out⟩, HK⟩
        case round =>
          clear HR HK hA0 hc0 hBw
          obtain ⟨i, A6, c6, rfl, rfl, hik2, HR, HK⟩ := hrel
          have hBw := HK.out.size
          cases gk with
          | zero =>
            obtain rfl : i = 4 := by omega
            have f1 : decide ((4 : Nat) < 4) = false := rfl
            have HL := Aside0.mk (show Lm wr A6 c6 (digs L 4 ++ digs H 4) from ⟨(Kd.R_reads' HR.out).2.2, (Kd.R_reads' HR.out).2.1, okL_app (digs_ok _ _) (digs_ok _ _)⟩)
            have hv := valL_digs4 L H h3 h4 h1 h2
            have HX := Aside0.mk (show x = if bo then - valL (digs L 4 ++ digs H 4) else valL (digs L 4 ++ digs H 4) by
              rw [hv]
              have := HXN.out
              have := EX0.out
              cases bo with
              | true => have := of_decide_eq_true HBO.out; simp only [if_true]; omega
              | false => have := of_decide_eq_false HBO.out; simp only [Bool.false_eq_true, if_false]; omega)
            clear hv
            obtain ⟨lst, hlst⟩ : ∃ lst, lst = digs L 4 ++ digs H 4 := ⟨_, rfl⟩
            rw [← hlst] at HL HX ⊢
            clear hlst
            go_wp2_with (first
              | (go_at_call 43; (with_reducible refine (ref_make2 bo HL.out x HX.out).mono ?_); rintro e w6 ⟨rfl, h6, hb6⟩; obtain ⟨s, hs⟩ : ∃ s, s = decide (x < 0) := ⟨_, rfl⟩; obtain ⟨lx, hlx⟩ : ∃ lx, lx = limbs x.natAbs := ⟨_, rfl⟩; rw [← hs, ← hlx]; have HSS := Aside0.mk hs; have HLX := Aside0.mk hlx; rw [← hlx] at h6; have hbv := HK.out.trans ⟨hb6.os, hb6.tape, hb6.output, hb6.size, fun k hk => hb6.block k (Nat.lt_of_lt_of_le hk hBw)⟩; obtain ⟨f1, f2, f3, f4, f5⟩ := res2 (v0 := .bool s) (v1 := .slice A6 lx.length c6) ((hbv.block _ (blk_lt N2.out)).trans N2.out); have H6 := Aside0.mk h6; have F5 := Aside0.mk f5; have HB6 := Aside0.mk (hop HB2.out hbv); clear h6 hb6 hs hlx f5 hbv))
            refine bodyPost_ret (results_cell_row rfl _ _ (w.heap.size + 1) 81 _ (0, 0) _ rfl F5.out Try.underlying81 rfl (by kernel_rfl)) rfl ?_
            exact ⟨_, rfl, ⟨A6, c6, by rw [← HSS.out, ← HLX.out], by rw [← HLX.out]; exact H6.out.keep keep_set2 (fun ad e => by have := R_fresh HR.out ad e; have := blk_lt N2.out; omega)⟩, HB6.out.trans (keep_set2.below HB6.out.size (fun k hk => by omega))⟩
          | succ k1 =>
            have f1 : decide (i < 4) = true := decide_eq_true (by omega)
            have hand := dig_and H i
            obtain ⟨dd, hdd⟩ : ∃ dd, dd = dig H i := ⟨_, rfl⟩
            rw [← hdd] at hand
            obtain ⟨acc, hacc⟩ : ∃ acc, acc = digs L 4 ++ digs H i := ⟨_, rfl⟩
            have HD := Aside0.mk (show digs L 4 ++ digs H (i + 1) = acc ++ [dd] by rw [digs_succ H, ← List.append_assoc, ← hacc, ← hdd])
            rw [← hacc] at HR ⊢
            have hal : acc.length ≤ 100 := by rw [hacc, List.length_append, digs_len, digs_len]; omega
            clear hdd hacc
            go_wp2_with (first
              | ((with_reducible refine gate_builtin (b := .append) (xs := #[.tmp 45, .tmp 53]) rfl ?_); at_builtin; refine Kd.R_append (Kd.int .u32) (w0 := wr) V.heap.size rfl (.tmp 45) (.tmp 53) 79 96 (.int .u32 0) 4 rfl Try.underlying79 info_u32 rfl (by decide) (by omega) (.slice A6 acc.length c6) acc dd [.int .u32 dd] (fun _ => True) (fun _ => False) rfl rfl ?aP (fun _ hk => hk.elim) ?aF ?aO ?aB ?aS ?aL ?_; (case aP => exact rfl); (case aB => exact Below.refl _ _); (case aF => exact (fun _ _ => trivial)); (case aO => exact HR.out); (case aS => exact hBw); (case aL => omega); intro v5 w5 ho5 _ hg5 hat5; obtain ⟨H2, hH2⟩ : ∃ l, l = digs L 4 ++ digs H (i + 1) := ⟨_, rfl⟩; rw [← HD.out, ← hH2] at ho5; have NH2 := Aside0.mk hH2; clear hH2; obtain ⟨A2, cp2, ev2⟩ := Kd.R_slice ho5; subst ev2; have HR2 := Aside0.mk ho5; have HG2 := Aside0.mk hg5; clear ho5 hg5 hat5))
            go_roundg k1
            case rel =>
              have hgk := grown_keep HG2.out
              refine ⟨i + 1, A2, cp2, by rw [← NH2.out], by go_num, by omega, by rw [← NH2.out]; exact HR2, ⟨HK.out.trans (hgk.below hBw (fun k hk => ?_))⟩⟩
              obtain ⟨inner, ho⟩ := Kd.R_own HR.out
              exact own_base ho k hk.symm
            case measure => omega
      | succ k1 =>
        have f1 : decide (i < 4) = true := decide_eq_true (by omega)
        have hand := dig_and L i
        obtain ⟨dd, hdd⟩ : ∃ dd, dd = dig L i := ⟨_, rfl⟩
        rw [← hdd] at hand
        obtain ⟨acc, hacc⟩ : ∃ acc, acc = digs L i := ⟨_, rfl⟩
        have HD := Aside0.mk (show digs L (i + 1) = acc ++ [dd] by rw [digs_succ, ← hacc, ← hdd])
        rw [← hacc] at HR ⊢
        have hal : acc.length ≤ 100 := by rw [hacc, digs_len]; omega
        clear hdd hacc
        go_wp2_with (first
          | ((with_reducible refine gate_builtin (b := .append) (xs := #[.tmp 31, .tmp 39]) rfl ?_); at_builtin; refine Kd.R_append (Kd.int .u32) (w0 := wr) V.heap.size rfl (.tmp 31) (.tmp 39) 79 96 (.int .u32 0) 4 rfl Try.underlying79 info_u32 rfl (by decide) (by omega) (.slice A5 acc.length c5) acc dd [.int .u32 dd] (fun _ => True) (fun _ => False) rfl rfl ?aP (fun _ hk => hk.elim) ?aF ?aO ?aB ?aS ?aL ?_; (case aP => exact rfl); (case aB => exact Below.refl _ _); (case aF => exact (fun _ _ => trivial)); (case aO => exact HR.out); (case aS => exact hBw); (case aL => omega); intro v5 w5 ho5 _ hg5 hat5; rw [← HD.out] at ho5; obtain ⟨A2, cp2, ev2⟩ := Kd.R_slice ho5; subst ev2; have HR2 := Aside0.mk ho5; have HG2 := Aside0.mk hg5; clear ho5 hg5 hat5))
        go_roundg k1
        case rel =>
          have hgk := grown_keep HG2.out
          refine ⟨i + 1, A2, cp2, rfl, by go_num, by omega, HR2, ⟨HK.out.trans (hgk.below hBw (fun k hk => ?_))⟩⟩
          obtain ⟨inner, ho⟩ := Kd.R_own HR.out
          exact own_base ho k hk.symm
        case measure => omega
end Go.Proofs.Ytadmigijbfdboaa.Q
