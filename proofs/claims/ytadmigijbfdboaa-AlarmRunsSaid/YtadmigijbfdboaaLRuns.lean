import Derived.Test.YtadmigijbfdboaaRNew
namespace Go.Proofs.Ytadmigijbfdboaa.Q
open Go.RowKit Go.Proofs.YtadmigijbfdboaaW.PrintWords Go.Proofs.YtadmigijbfdboaaW.PrintLast Go.Proofs.YtadmigijbfdboaaW.PrintMore Go.Proofs.YtadmigijbfdboaaV
set_option linter.unusedVariables false
set_option linter.unusedSimpArgs false

theorem newK_may : ∀ (rs done : List Rul), newK done rs = none → ∀ r ∈ rs, MayP r := by
  intro rs
  induction rs with
  | nil => intro done _ r hr; cases hr
  | cons a t ih =>
    intro done h r hr
    simp only [newK] at h
    split at h
    · cases h
    · rename_i q
      rcases List.mem_cons.1 hr with rfl | hr
      · exact Classical.byContradiction fun e => q (.inl e)
      · exact ih _ h r hr
theorem News_fail {A0 : Option Addr} {c0 : Nat} {rs : List Rul} (hin : ∀ r ∈ rs, RulIn r) (hf : 64 < rs.length ∨ newK [] rs ≠ none) : ∃ a b : Int, b ≠ 0 ∧
    (∀ W, Kd.C kRul W A0 rs.length rs → Calls Try.prog 15 #[.slice A0 rs.length c0] W fun e w' => e = .returned (.tuple #[.pointer none, .int .i64 a, .int .i64 b]) ∧ Below W.heap.size W w') ∧
    (∀ W, Kd.C kRul W A0 rs.length rs → Calls Try.prog 16 #[.slice A0 rs.length c0] W fun e w' => e = .returned (.tuple #[.agg #[.slice none 0 0], .int .i64 a, .int .i64 b]) ∧ Below W.heap.size W w') := by
  by_cases h : 64 < rs.length
  · refine ⟨64, 3, by decide, fun W hC => (alarm_New hC hin _ rfl).mono ?_, fun W hC => (ref_New hC hin _ rfl).mono ?_⟩
    · rintro e w' ⟨hb, ⟨-, rfl⟩ | ⟨q, -⟩ | ⟨q, -⟩⟩
      · exact ⟨rfl, hb⟩
      · exact absurd h q
      · exact absurd h q
    · rintro e w' ⟨hb, ⟨-, rfl⟩ | ⟨q, -⟩ | ⟨q, -⟩⟩
      · exact ⟨rfl, hb⟩
      · exact absurd h q
      · exact absurd h q
  · have hk : newK [] rs ≠ none := hf.resolve_left h
    obtain ⟨i, hi⟩ := Option.ne_none_iff_exists'.1 hk
    refine ⟨i, 230, by decide, fun W hC => (alarm_New hC hin _ hi).mono ?_, fun W hC => (ref_New hC hin _ hi).mono ?_⟩
    · rintro e w' ⟨hb, ⟨q, -⟩ | ⟨-, j, q, rfl⟩ | ⟨-, q, -⟩⟩
      · exact absurd q h
      · injection q with q
        subst q
        exact ⟨rfl, hb⟩
      · cases q
    · rintro e w' ⟨hb, ⟨q, -⟩ | ⟨-, j, q, rfl⟩ | ⟨-, q, -⟩⟩
      · exact absurd q h
      · injection q with q
        subst q
        exact ⟨rfl, hb⟩
      · cases q
theorem New_ok {W : World} {A0 : Option Addr} {c0 : Nat} {rs : List Rul} (hC : Kd.C kRul W A0 rs.length rs) (hin : ∀ r ∈ rs, RulIn r) (h64 : ¬ 64 < rs.length) (hn : newK [] rs = none) :
    Calls Try.prog 15 #[.slice A0 rs.length c0] W fun e w' => ∃ A c L, e = .returned (.tuple #[.pointer (some ⟨W.heap.size, 0, none⟩), .int .i64 0, .int .i64 0]) ∧ Below W.heap.size W w' ∧ BookAt w' W.heap.size W.heap.size A c L ∧ L.map (·.2) = st0 rs := by
  refine (alarm_New hC hin _ hn).mono ?_
  rintro e w' ⟨hb, ⟨q, -⟩ | ⟨-, j, q, -⟩ | ⟨-, -, rfl, A, c, L, h1, h2⟩⟩
  · exact absurd q h64
  · cases q
  · exact ⟨A, c, L, rfl, hb, h1, h2⟩
theorem RNew_ok {W : World} {A0 : Option Addr} {c0 : Nat} {rs : List Rul} (hC : Kd.C kRul W A0 rs.length rs) (hin : ∀ r ∈ rs, RulIn r) (h64 : ¬ 64 < rs.length) (hn : newK [] rs = none) :
    Calls Try.prog 16 #[.slice A0 rs.length c0] W fun e w' => ∃ A c, e = .returned (.tuple #[.agg #[.slice A rs.length c], .int .i64 0, .int .i64 0]) ∧ Below W.heap.size W w' ∧ Kd.R kKept 89 w' W.heap.size (fun _ => True) (.slice A rs.length c) (st0 rs) := by
  refine (ref_New hC hin _ hn).mono ?_
  rintro e w' ⟨hb, ⟨q, -⟩ | ⟨-, j, q, -⟩ | ⟨-, -, A, c, rfl, h1⟩⟩
  · exact absurd q h64
  · cases q
  · exact ⟨A, c, rfl, hb, h1⟩
theorem Mid_start {w w1 w2 : World} {A : Option Addr} {c : Nat} {L : List Ent} {A2 : Option Addr} {c2 : Nat} {rs : List Rul} (hin : ∀ r ∈ rs, RulIn r) (h64 : ¬ 64 < rs.length) (hn : newK [] rs = none) (hb1 : Below w.heap.size w w1) (hbk : BookAt w1 w.heap.size w.heap.size A c L) (hL : L.map (·.2) = st0 rs) (hb2 : Below w1.heap.size w1 w2) (hR : Kd.R kKept 89 w2 w1.heap.size (fun _ => True) (.slice A2 rs.length c2) (st0 rs)) :
    ∃ g, Mid w (w2.alloc (.cells #[.slice A2 rs.length c2] 55 (0, 0))) w1.heap.size w.heap.size w2.heap.size g 0 A c A2 c2 L L := by
  have hbl := hop hb1 hb2
  have hk2 : Keep w2 (w2.alloc (.cells #[.slice A2 rs.length c2] 55 (0, 0))) (fun _ => False) := below_keep ((Below.refl w2.heap.size w2).alloc (Nat.le_refl _) _)
  have hk1 : Keep w1 (w2.alloc (.cells #[.slice A2 rs.length c2] 55 (0, 0))) (fun _ => False) := (below_keep hb2).trans hk2 (fun _ _ q => q.elim) (fun k hlt q => q.elim)
  have hnew : (w2.alloc (.cells #[.slice A2 rs.length c2] 55 (0, 0))).heap[w2.heap.size]? = some (.cells #[.slice A2 rs.length c2] 55 (0, 0)) := heap_alloc_new w2 _
  have hlr : rs.length = (st0 rs).length := (st0_length rs).symm
  have hR2 := KR_keep hR hk2 (fun _ _ q => q)
  rw [hlr] at hnew hR2
  obtain ⟨g, hg, hgb⟩ := book_of_R hnew hR2 hL
  rw [← hlr] at hg
  have hmay := newK_may rs [] hn
  have hok : ∀ x ∈ L, EOk x := by
    intro x hx
    have hm : x.2 ∈ st0 rs := by rw [← hL]; exact List.mem_map.2 ⟨x, hx, rfl⟩
    unfold st0 at hm
    obtain ⟨r, hr, e⟩ := List.mem_map.1 hm
    unfold EOk
    rw [← e]
    exact ⟨(hmay r hr).ok, stt0_inv (hmay r hr).ok, hin r hr⟩
  have hlen : L.length ≤ 64 := by
    have := congrArg List.length hL
    rw [List.length_map, st0_length] at this
    omega
  exact ⟨g, hbk.quiet hk1, hg, hbl.alloc hbl.size _, Nat.le_refl _, blk_lt hbk.blk, fun x hx => blk_lt (hbk.rules x hx).1, fun k e => R_lt' hbk.row k e, hb2.size, hgb, hok, hok, hlen, hlen⟩

set_option maxHeartbeats 3200000 in
set_option maxRecDepth 4000 in
theorem law_AlarmRuns_not (w : World) {A0 : Option Addr} {c0 : Nat} {rs : List Rul} (hC : Kd.C kRul w A0 rs.length rs) (hin : ∀ r ∈ rs, RulIn r) (hf : 64 < rs.length ∨ newK [] rs ≠ none) (S0 : Option Addr) (c1 n1 : Nat) :
    Calls Try.prog 5 #[.slice A0 rs.length c0, .slice S0 n1 c1] w fun e w' => e = .returned (.bool true) ∧ Below w.heap.size w w' := by
  obtain ⟨a, b, hb0, HA, HR⟩ := News_fail (A0 := A0) (c0 := c0) hin hf
  have ea : (a != a) = false := by simp
  have eb : (b != b) = false := by simp
  have ec : (b != 0) = true := bne_iff_ne.mpr hb0
  have HC := Aside0.mk hC
  have HNA := Aside0.mk HA
  have HNR := Aside0.mk HR
  clear hC hin hf HA HR hb0
  go_enter Try.func5, Try.ntmps5
  go_wp2_with (first
    | (go_at_call 15; (with_reducible refine (HNA.out _ HC.out).mono ?_); rintro e w1 ⟨rfl, hb⟩; have HB1 := Aside0.mk hb; have HC1 := Aside0.mk (Kd.C_below HC.out hb); clear hb)
    | (go_at_call 16; (with_reducible refine (HNR.out _ HC1.out).mono ?_); rintro e w2 ⟨rfl, hb⟩; have hb2 := hop HB1.out hb; have z0 := blk_cell (heap_alloc_new w2 (.cells #[.slice none 0 0] 55 (0, 0))) 0; have z1 := blk_frozen (heap_alloc_new w2 (.cells #[.slice none 0 0] 55 (0, 0))) 0; have HB3 := Aside0.mk (hb2.alloc hb2.size (.cells #[.slice none 0 0] 55 (0, 0))); clear hb hb2)
    | (go_at_call 10; (with_reducible refine (law_alive _).mono ?_); rintro e w9 ⟨rfl, hb⟩; have HB9 := Aside0.mk (hop HB3.out hb); clear hb))
  go_ret
  exact ⟨rfl, HB9.out⟩

set_option maxHeartbeats 12800000 in
set_option maxRecDepth 4000 in
theorem law_AlarmRuns_may (w : World) {A0 : Option Addr} {c0 : Nat} {rs : List Rul} (hC : Kd.C kRul w A0 rs.length rs) (hin : ∀ r ∈ rs, RulIn r) (h64 : ¬ 64 < rs.length) (hn : newK [] rs = none) {S0 : Option Addr} {c1 : Nat} {os : List OpR} (hS : Kd.C kOp w S0 os.length os) (hos : ∀ o ∈ os, inW o.val) :
    Calls Try.prog 5 #[.slice A0 rs.length c0, .slice S0 os.length c1] w fun e w' => e = .returned (.bool true) ∧ Below w.heap.size w w' := by
  have HNA := Aside0.mk (fun (W : World) (h : Kd.C kRul W A0 rs.length rs) => New_ok (c0 := c0) h hin h64 hn)
  have HNR := Aside0.mk (fun (W : World) (h : Kd.C kRul W A0 rs.length rs) => RNew_ok (c0 := c0) h hin h64 hn)
  have HST := Aside0.mk (fun {w1 w2 : World} {A : Option Addr} {c : Nat} {L : List Ent} {A2 : Option Addr} {c2 : Nat} => @Mid_start w w1 w2 A c L A2 c2 rs hin h64 hn)
  have HC := Aside0.mk hC
  have HS := Aside0.mk hS
  have HOS := Aside0.mk hos
  have hlr : rs.length ≤ 64 := by omega
  have hls := hS.2.1
  clear hC hin h64 hn hS hos
  go_enter Try.func5, Try.ntmps5
  go_wp2_with (first
    | (go_at_call 15; (with_reducible refine (HNA.out _ HC.out).mono ?_); rintro e w1 ⟨A, c, L0, rfl, hb, hbk, hL⟩; have HB1 := Aside0.mk hb; have HC1 := Aside0.mk (Kd.C_below HC.out hb); have HBK := Aside0.mk hbk; have HL := Aside0.mk hL; clear hb hbk hL)
    | (go_at_call 16; (with_reducible refine (HNR.out _ HC1.out).mono ?_); rintro e w2 ⟨A2, c2, rfl, hb, hr⟩; have hs := HST.out HB1.out HBK.out HL.out hb hr; obtain ⟨g, hm⟩ := hs; have HM0 := Aside0.mk hm; have z0 := blk_cell (heap_alloc_new w2 (.cells #[.slice none 0 0] 55 (0, 0))) 0; have z1 := blk_frozen (heap_alloc_new w2 (.cells #[.slice none 0 0] 55 (0, 0))) 0; clear hb hr hm)
    | (go_at_call 10; (with_reducible refine (law_alive _).mono ?_); rintro e w3 ⟨rfl, hb⟩; have HM1 := Aside0.mk (HM0.out.quiet hb); clear hb))
  obtain ⟨gb, hgb⟩ : ∃ x, x = w.heap.size := ⟨_, rfl⟩
  obtain ⟨M, hM⟩ : ∃ x, x = w1.heap.size := ⟨_, rfl⟩
  obtain ⟨gr, hgr⟩ : ∃ x, x = w2.heap.size := ⟨_, rfl⟩
  have hm1 := HM1.out
  rw [← hM, ← hgr] at hm1
  have HM2 := Aside0.mk (show Mid w w3 M gb gr g 0 A c A2 c2 L0 L0 by rw [hgb]; exact hm1)
  rw [← hgr, ← hgb]
  clear hm1 HM0 HM1 HNA HNR HST HB1 HBK HL z0 z1 hgb hM hgr
  go_loopg [11] os.length (fun kq v11 w' => ∃ (i : Nat) (L : List Ent), v11 = .int .i64 i ∧ i + kq = os.length ∧ Aside0 (Mid w w' M gb gr g 0 A c A2 c2 L L))
  case atStart => exact ⟨0, L0, rfl, by omega, HM2⟩
  case round =>
    clear HM2
    obtain ⟨i, L, rfl, hik, HM⟩ := hrel
    cases gk with
    | zero =>
      have d1 : decide (i < os.length) = false := decide_eq_false (by omega)
      go_wp2_with (fail)
      go_loopg [21] rs.length (fun kq v21 w' => ∃ i : Nat, v21 = .int .i64 i ∧ i + kq = rs.length ∧ Aside0 (Mid w w' M gb gr g 0 A c A2 c2 L L))
      case atStart => exact ⟨0, rfl, by omega, HM⟩
      case round =>
        clear HM hik d1
        obtain ⟨j, rfl, hjk, HM⟩ := hrel
        cases gk with
        | zero =>
          have d2 : decide (j < rs.length) = false := decide_eq_false (by omega)
          go_wp2_with (fail)
          go_ret
          exact ⟨rfl, HM.out.bel⟩
        | succ k2 =>
          have hlt : j < rs.length := by omega
          have d2 : decide (j < rs.length) = true := decide_eq_true hlt
          obtain ⟨r, hr⟩ : ∃ r, rs[j]? = some r := ⟨rs[j], List.getElem?_eq_getElem hlt⟩
          obtain ⟨ad, rfl, x0, -⟩ := at_Rul (Kd.C_below HC.out HM.out.bel) j r hr
          obtain ⟨n, q, hnq⟩ : ∃ n q, stateP L r.name = (n, q) := ⟨_, _, rfl⟩
          have HNQ := Aside0.mk hnq
          have en : (n != n) = false := by simp
          have eq : (q != q) = false := by simp
          clear hr hnq
          go_wp2_with (first
            | (go_at_call 12; (with_reducible refine (HM.out.StateA HNQ.out).mono ?_); rintro e w' ⟨rfl, rfl⟩)
            | (go_at_call 21; (with_reducible refine (HM.out.StateB HNQ.out).mono ?_); rintro e w' ⟨rfl, rfl⟩))
          go_roundg k2
          case rel => exact ⟨j + 1, by go_num, by omega, HM⟩
          case measure => omega
    | succ k1 =>
      have hlt : i < os.length := by omega
      have d1 : decide (i < os.length) = true := decide_eq_true hlt
      obtain ⟨o, ho⟩ : ∃ o, os[i]? = some o := ⟨os[i], List.getElem?_eq_getElem hlt⟩
      have hov := HOS.out o (List.mem_of_getElem? ho)
      obtain ⟨ad, rfl, x0, x1, x2, x3, x4, x5⟩ := at_Op (Kd.C_below HS.out HM.out.bel) i o ho
      obtain ⟨kd, nm, at_, is, val⟩ := o
      have hov' : inW val := hov
      have HV := Aside0.mk hov'
      have O1 := Aside0.mk (heap_alloc_new wr (.cells #[.int .i64 kd, .string nm, .int .i64 at_, .bool is, .int .i64 (hiW val), .int .u64 (loW val)] 39 (0, 0)))
      have HM1 := Aside0.mk (HM.out.quiet ((Below.refl wr.heap.size wr).alloc (Nat.le_refl _) (.cells #[.int .i64 kd, .string nm, .int .i64 at_, .bool is, .int .i64 (hiW val), .int .u64 (loW val)] 39 (0, 0))))
      have HGN := Aside0.mk (fun (h : L ≠ []) => show wr.heap.size ≠ g from by have := HM.out.g_lt h; omega)
      have HGL := Aside0.mk (fun (h : L ≠ []) => HM.out.g_lt h)
      have HML := Aside0.mk HM.out.M_le
      clear ho hov hov' HM
      by_cases h1 : kd = 1
      · have k1_ : (kd == 1) = true := beq_iff_eq.mpr h1
        obtain ⟨l, er, L', hf⟩ : ∃ l er L', feedP L nm at_ is val = (l, er, L') := ⟨_, _, _, rfl⟩
        have HF := Aside0.mk hf
        have en : (er != er) = false := by simp
        clear h1 hf
        go_wp2_with (first
          | (go_at_call 11; (with_reducible refine (HM1.out.FeedA HV.out HF.out).mono ?_); rintro e w5 ⟨A5, c5, rfl, hA5, hA5b, hm, hfr, hsz⟩; have HA := Aside0.mk hA5; have HAb := Aside0.mk (fun ad (e : A5 = some ad) => (show wr.heap.size < ad.block from Nat.lt_of_lt_of_le (by simp) (hA5b ad e))); have HM5 := Aside0.mk hm; have O5 := Aside0.mk (hfr _ _ HML.out O1.out); clear hA5 hA5b hm hfr hsz; have p0 := blk_cell O5.out 0; have p1 := blk_cell O5.out 1; have p2 := blk_cell O5.out 2; have p3 := blk_cell O5.out 3; have p4 := blk_cell O5.out 4; have p5 := blk_cell O5.out 5)
          | (go_at_call 17; (with_reducible refine (HM5.out.FeedB HV.out HF.out).mono ?_); rintro e w6 ⟨A6, c6, rfl, hA6, hm, hfr, hk⟩; have HA6 := Aside0.mk hA6; have HM6 := Aside0.mk hm; have HA7 := Aside0.mk (HA.out.keep hk (fun ad e q => (by have := HAb.out ad e; have := HGL.out q.1; have := q.2; omega))); clear hA6 hm hfr hk)
          | (go_at_call 18; (with_reducible refine (ref_Same HA7.out HA6.out).mono ?_); rintro e w7 ⟨rfl, hb⟩; have HM7 := Aside0.mk (HM6.out.quiet hb); clear hb))
        go_roundg k1
        case rel => exact ⟨i + 1, L', by go_num, by omega, HM7⟩
        case measure => omega
      · have k1_ : (kd == 1) = false := beq_eq_false_iff_ne.mpr h1
        by_cases h2 : kd = 2
        · have k2_ : (kd == 2) = true := beq_iff_eq.mpr h2
          obtain ⟨er, L', hf⟩ : ∃ er L', muteP L nm at_ = (er, L') := ⟨_, _, rfl⟩
          have HF := Aside0.mk hf
          have en : (er != er) = false := by simp
          clear h1 h2 hf
          go_upto_region 18 with (fail)
          have HMd := Aside0.mk (HM1.out.quiet ((Below.refl (wr.alloc (.cells #[.int .i64 kd, .string nm, .int .i64 at_, .bool is, .int .i64 (hiW val), .int .u64 (loW val)] 39 (0, 0))).heap.size (wr.alloc (.cells #[.int .i64 kd, .string nm, .int .i64 at_, .bool is, .int .i64 (hiW val), .int .u64 (loW val)] 39 (0, 0)))).drew))
          have Od := Aside0.mk (show (wr.alloc (.cells #[.int .i64 kd, .string nm, .int .i64 at_, .bool is, .int .i64 (hiW val), .int .u64 (loW val)] 39 (0, 0))).drew.heap[wr.heap.size]? = _ from O1.out)
          have p1 := blk_cell Od.out 1
          have p2 := blk_cell Od.out 2
          go_region_with (first
            | (go_at_call 19; (with_reducible refine (HMd.out.MuteA HF.out).mono ?_); rintro e w5 ⟨rfl, hm, hfr⟩; have HMa := Aside0.mk hm; have O5 := Aside0.mk (hfr _ _ HML.out Od.out); clear hm hfr HMd; have s1 := blk_cell O5.out 1; have s2 := blk_cell O5.out 2)
            | (go_at_call 20; (with_reducible refine (HMa.out.MuteB HF.out).mono ?_); rintro e w6 ⟨rfl, hm, hfr⟩; have HMz := Aside0.mk hm; clear hm hfr)
            | (go_at_call 20; (with_reducible refine (HMd.out.MuteB HF.out).mono ?_); rintro e w5 ⟨rfl, hm, hfr⟩; have HMb := Aside0.mk hm; have O5 := Aside0.mk (hfr _ _ HGN.out Od.out); clear hm hfr HMd; have s1 := blk_cell O5.out 1; have s2 := blk_cell O5.out 2)
            | (go_at_call 19; (with_reducible refine (HMb.out.MuteA HF.out).mono ?_); rintro e w6 ⟨rfl, hm, hfr⟩; have HMz := Aside0.mk hm; clear hm hfr))
          all_goals
            go_wp2_with (fail)
            go_roundg k1
            case rel => exact ⟨i + 1, L', by go_num, by omega, HMz⟩
            case measure => omega
        · have k2_ : (kd == 2) = false := beq_eq_false_iff_ne.mpr h2
          by_cases h3 : kd = 3
          · have k3_ : (kd == 3) = true := beq_iff_eq.mpr h3
            obtain ⟨n, q, hnq⟩ : ∃ n q, stateP L nm = (n, q) := ⟨_, _, rfl⟩
            have HNQ := Aside0.mk hnq
            have en : (n != n) = false := by simp
            have eq : (q != q) = false := by simp
            clear h1 h2 h3 hnq
            go_wp2_with (first
              | (go_at_call 12; (with_reducible refine (HM1.out.StateA HNQ.out).mono ?_); rintro e w' ⟨rfl, rfl⟩)
              | (go_at_call 21; (with_reducible refine (HM1.out.StateB HNQ.out).mono ?_); rintro e w' ⟨rfl, rfl⟩))
            go_roundg k1
            case rel => exact ⟨i + 1, L, by go_num, by omega, HM1⟩
            case measure => omega
          · have k3_ : (kd == 3) = false := beq_eq_false_iff_ne.mpr h3
            clear h1 h2 h3
            go_wp2_with (fail)
            go_roundg k1
            case rel => exact ⟨i + 1, L, by go_num, by omega, HM1⟩
            case measure => omega
theorem law_AlarmRuns (w : World) {A0 : Option Addr} {c0 : Nat} {rs : List Rul} (hC : Kd.C kRul w A0 rs.length rs) (hin : ∀ r ∈ rs, RulIn r) {S0 : Option Addr} {c1 : Nat} {os : List OpR} (hS : Kd.C kOp w S0 os.length os) (hos : ∀ o ∈ os, inW o.val) :
    Calls Try.prog 5 #[.slice A0 rs.length c0, .slice S0 os.length c1] w fun e w' => e = .returned (.bool true) ∧ Below w.heap.size w w' := by
  by_cases h64 : 64 < rs.length
  · exact law_AlarmRuns_not w hC hin (.inl h64) S0 c1 os.length
  · by_cases hn : newK [] rs = none
    · exact law_AlarmRuns_may w hC hin h64 hn hS hos
    · exact law_AlarmRuns_not w hC hin (.inr hn) S0 c1 os.length
end Go.Proofs.Ytadmigijbfdboaa.Q
