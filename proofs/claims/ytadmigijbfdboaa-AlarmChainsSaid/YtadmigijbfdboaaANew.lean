import Derived.Test.YtadmigijbfdboaaAMay
namespace Go.Proofs.Ytadmigijbfdboaa.Q
open Go.RowKit Go.Proofs.YtadmigijbfdboaaW.PrintWords Go.Proofs.YtadmigijbfdboaaW.PrintLast Go.Proofs.YtadmigijbfdboaaW.PrintMore Go.Proofs.YtadmigijbfdboaaV
set_option linter.unusedVariables false
set_option linter.unusedSimpArgs false

theorem info_rule : (Try.prog.info? 72).map (fun i => (i.zero, i.size, i.bytes)) = some (some (.pointer none), 1, 8) := by kernel_rfl
def kRul : Kd Rul := Kd.iso (Kd.pair Kd.string (Kd.pair Kd.bool (Kd.pair (Kd.int .i64) (Kd.pair (Kd.int .u64) (Kd.pair (Kd.int .i64) (Kd.pair (Kd.int .u64) (Kd.pair (Kd.int .i64) (Kd.pair (Kd.int .u64) (Kd.pair (Kd.int .i64) (Kd.pair (Kd.int .i64) (Kd.int .i64))))))))))) (fun r : Rul => (r.name, r.above, hiW r.warn, loW r.warn, hiW r.crit, loW r.crit, hiW r.slack, loW r.slack, r.for_, r.absent, r.again))
theorem kRul_open {w : World} {r : Rul} {cs : List Value} (h : kRul.K w r cs) : cs = (ruleA r).toList := by
  obtain ⟨_, _, rfl, rfl, _, _, rfl, rfl, _, _, rfl, rfl, _, _, rfl, rfl, _, _, rfl, rfl, _, _, rfl, rfl, _, _, rfl, rfl, _, _, rfl, rfl, _, _, rfl, rfl, _, _, rfl, rfl, rfl⟩ := h
  exact rfl
def zRul : Rul := ⟨⟨#[]⟩, false, 0, 0, 0, 0, 0, 0⟩
/-- A rule's cells among those that came in. -/
theorem at_Rul {w : World} {A : Option Addr} {n : Nat} {xs : List Rul} (h : Kd.C kRul w A n xs) (i : Nat) (r : Rul) (hi : xs[i]? = some r) : ∃ ad, A = some ad ∧ w.cell? (ad.add (i * 11)) = some (.string r.name) ∧ w.cell? ⟨(ad.add (i * 11)).block, (ad.add (i * 11)).off + 1, none⟩ = some (.bool r.above) ∧ w.cell? ⟨(ad.add (i * 11)).block, (ad.add (i * 11)).off + 2, none⟩ = some (.int .i64 (hiW r.warn)) ∧ w.cell? ⟨(ad.add (i * 11)).block, (ad.add (i * 11)).off + 3, none⟩ = some (.int .u64 (loW r.warn)) ∧ w.cell? ⟨(ad.add (i * 11)).block, (ad.add (i * 11)).off + 4, none⟩ = some (.int .i64 (hiW r.crit)) ∧ w.cell? ⟨(ad.add (i * 11)).block, (ad.add (i * 11)).off + 5, none⟩ = some (.int .u64 (loW r.crit)) ∧ w.cell? ⟨(ad.add (i * 11)).block, (ad.add (i * 11)).off + 6, none⟩ = some (.int .i64 (hiW r.slack)) ∧ w.cell? ⟨(ad.add (i * 11)).block, (ad.add (i * 11)).off + 7, none⟩ = some (.int .u64 (loW r.slack)) ∧ w.cell? ⟨(ad.add (i * 11)).block, (ad.add (i * 11)).off + 8, none⟩ = some (.int .i64 r.for_) ∧ w.cell? ⟨(ad.add (i * 11)).block, (ad.add (i * 11)).off + 9, none⟩ = some (.int .i64 r.absent) ∧ w.cell? ⟨(ad.add (i * 11)).block, (ad.add (i * 11)).off + 10, none⟩ = some (.int .i64 r.again) := by
  have hn : xs.length = n := h.1
  have hl := (List.getElem?_eq_some_iff.1 hi).1
  obtain ⟨ad, c, e, _, hK, hc0⟩ := Kd.C_get h zRul (i : Int) (by omega) (by omega)
  have hc : ∀ j u, c[j]? = some u → w.cell? (ad.add (i * 11 + j)) = some u := by
    intro j u hj
    have := hc0 j u hj
    rw [Int.toNat_natCast] at this
    exact this
  have hx : xs.getD (i : Int).toNat zRul = r := by rw [Int.toNat_natCast, List.getD_eq_getElem?_getD, hi]; rfl
  rw [hx] at hK
  obtain rfl := kRul_open hK
  exact ⟨ad, e, hc 0 _ rfl, by rw [← add_field _ _ 1 (by omega)]; exact hc 1 _ rfl, by rw [← add_field _ _ 2 (by omega)]; exact hc 2 _ rfl, by rw [← add_field _ _ 3 (by omega)]; exact hc 3 _ rfl, by rw [← add_field _ _ 4 (by omega)]; exact hc 4 _ rfl, by rw [← add_field _ _ 5 (by omega)]; exact hc 5 _ rfl, by rw [← add_field _ _ 6 (by omega)]; exact hc 6 _ rfl, by rw [← add_field _ _ 7 (by omega)]; exact hc 7 _ rfl, by rw [← add_field _ _ 8 (by omega)]; exact hc 8 _ rfl, by rw [← add_field _ _ 9 (by omega)]; exact hc 9 _ rfl, by rw [← add_field _ _ 10 (by omega)]; exact hc 10 _ rfl⟩
/-- How a new rule stands. -/
def stt0 : Stt := ⟨1, 1, 0, 0, 0, 0, 0, false, 0⟩
/-- The first rule that may not be. -/
def newK (done : List Rul) : List Rul → Option Nat
  | [] => none
  | r :: t => if ¬ MayP r ∨ (∃ x ∈ done, x.name = r.name) then some done.length else newK (done ++ [r]) t
set_option maxHeartbeats 6400000 in
set_option maxRecDepth 4000 in
theorem alarm_New {w : World} {A0 : Option Addr} {c0 : Nat} {rs : List Rul} (hC : Kd.C kRul w A0 rs.length rs) (hin : ∀ r ∈ rs, RulIn r) (R : Option Nat) (hR : newK [] rs = R) :
    Calls Try.prog 15 #[.slice A0 rs.length c0] w fun e w' => Below w.heap.size w w' ∧
      ((64 < rs.length ∧ e = .returned (.tuple #[.pointer none, .int .i64 64, .int .i64 3])) ∨
       (¬ 64 < rs.length ∧ ∃ i, R = some i ∧ e = .returned (.tuple #[.pointer none, .int .i64 i, .int .i64 230])) ∨
       (¬ 64 < rs.length ∧ R = none ∧ e = .returned (.tuple #[.pointer (some ⟨w.heap.size, 0, none⟩), .int .i64 0, .int .i64 0]) ∧ ∃ A c L, BookAt w' w.heap.size w.heap.size A c L ∧ L.map (·.2) = rs.map (fun r => (r, stt0)))) := by
  have HC := Aside0.mk hC
  have HB := Aside0.mk (Below.refl w.heap.size w)
  have hlen := hC.2.1
  by_cases h64 : 64 < rs.length
  · have d1 : decide ((64 : Int) < (rs.length : Int)) = true := decide_eq_true (by omega)
    have H64 := Aside0.mk h64
    clear hC h64
    go_enter Try.func15, Try.ntmps15
    go_wp2
    go_ret3
    exact ⟨HB.out, .inl ⟨H64.out, rfl⟩⟩
  · have d1 : decide ((64 : Int) < (rs.length : Int)) = false := decide_eq_false (by omega)
    have H64 := Aside0.mk h64
    have HR := Aside0.mk hR
    obtain ⟨gb, hgb⟩ : ∃ gb, gb = w.heap.size := ⟨_, rfl⟩
    have hr64 : rs.length ≤ 64 := by omega
    clear hC h64 hR
    go_enter Try.func15, Try.ntmps15
    go_wp2
    go_loopg [16] rs.length (fun kq v16 w' => ∃ (i : Nat) (A : Option Addr) (c : Nat) (L : List Ent), v16 = .int .i64 i ∧ i + kq = rs.length ∧ Aside0 (BookAt w' w.heap.size w.heap.size A c L) ∧ Aside0 (L.map (·.2) = (rs.take i).map (fun r => (r, stt0))) ∧ Aside0 (newK (rs.take i) (rs.drop i) = R) ∧ Aside0 (Below w.heap.size w w'))
    case atStart =>
      refine ⟨0, none, 0, [], rfl, by omega, ⟨⟨heap_alloc_new _ _, Kd.R_nil _ _ _ _ _, (fun x hx => by cases hx), List.nodup_nil, Nat.le_refl _⟩⟩, ⟨rfl⟩, ⟨HR.out⟩, ⟨HB.out.alloc (Nat.le_refl _) _⟩⟩
    case round =>
      obtain ⟨i, A, c, L, rfl, hik, HBk, HL, HN, HBel⟩ := hrel
      cases gk with
      | zero =>
        have d2 : decide (i < rs.length) = false := decide_eq_false (by omega)
        have e1 := HN.out
        rw [List.drop_eq_nil_of_le (by omega)] at e1
        have e2 := HL.out
        rw [List.take_of_length_le (by omega)] at e2
        have HRn := Aside0.mk (show R = none from e1.symm)
        have HL2 := Aside0.mk e2
        clear e1 e2
        go_wp2
        go_ret3
        exact ⟨HBel.out, .inr (.inr ⟨H64.out, HRn.out, rfl, A, c, L, HBk.out, HL2.out⟩)⟩
      | succ k1 =>
        have hlt : i < rs.length := by omega
        have d2 : decide (i < rs.length) = true := decide_eq_true hlt
        obtain ⟨r, hr⟩ : ∃ r, rs[i]? = some r := ⟨rs[i], List.getElem?_eq_getElem hlt⟩
        have hri := hin r (List.mem_of_getElem? hr)
        obtain ⟨ad, rfl, x0, x1, x2, x3, x4, x5, x6, x7, x8, x9, x10⟩ := at_Rul (Kd.C_below HC.out HBel.out) i r hr
        have hdr : rs.drop i = r :: rs.drop (i + 1) := by rw [List.drop_eq_getElem_cons hlt]; congr 1; exact (List.getElem?_eq_some_iff.1 hr).2
        have htk : rs.take (i + 1) = rs.take i ++ [r] := by rw [List.take_succ_eq_append_getElem hlt]; congr 2; exact (List.getElem?_eq_some_iff.1 hr).2
        have hnk := HN.out
        rw [hdr] at hnk
        simp only [newK] at hnk
        have hlk : (rs.take i).length = i := by rw [List.length_take]; omega
        have hdup : (∃ x ∈ rs.take i, x.name = r.name) ↔ idxP L r.name ≠ none := by
          have hmap : rs.take i = L.map (fun x => x.2.1) := by
            have := congrArg (List.map (fun y : Rul × Stt => y.1)) HL.out
            rw [List.map_map, List.map_map] at this
            rw [show (L.map (fun x => x.2.1)) = List.map ((fun y : Rul × Stt => y.1) ∘ fun x => x.2) L from rfl, this]
            exact (List.map_id _).symm
          rw [hmap, Ne, idxP, List.findIdx?_eq_none_iff]
          constructor
          · rintro ⟨y, hy, hn⟩ hc
            obtain ⟨x, hx, rfl⟩ := List.mem_map.1 hy
            have := hc x hx
            simp [hn] at this
          · intro hc
            simp only [Classical.not_forall] at hc
            obtain ⟨x, hx, hn⟩ := hc
            exact ⟨x.2.1, List.mem_map.2 ⟨x, hx, rfl⟩, by simpa using hn⟩
        have HMAY := Aside0.mk (fun W => alarm_may W r hri)
        obtain ⟨m, hm⟩ : ∃ m, m = decide (MayP r) := ⟨_, rfl⟩
        rw [← hm] at HMAY
        unfold ruleA at HMAY
        have hLl : L.length = i := by have := congrArg List.length HL.out; rw [List.length_map, List.length_map, hlk] at this; exact this
        cases m with
        | false =>
          have hnm : ¬ MayP r := of_decide_eq_false hm.symm
          rw [if_pos (.inl hnm), hlk] at hnk
          have HRs := Aside0.mk hnk.symm
          clear hnm hnk hdup hdr htk hr hri hm hlk hLl
          go_wp2_with (first
            | (go_at_call 33; (with_reducible refine (HMAY.out _).mono ?_); rintro e w2 ⟨rfl, hb2⟩; have HBel2 := Aside0.mk (hop (HBel.out.alloc HBel.out.size (.cells #[.string r.name, .bool r.above, .int .i64 (hiW r.warn), .int .u64 (loW r.warn), .int .i64 (hiW r.crit), .int .u64 (loW r.crit), .int .i64 (hiW r.slack), .int .u64 (loW r.slack), .int .i64 r.for_, .int .i64 r.absent, .int .i64 r.again] 26 (0, 0))) hb2); have HK2 : Keep wr w2 (fun _ => False) := ((Keep.refl wr (fun _ => False)).alloc (.cells #[.string r.name, .bool r.above, .int .i64 (hiW r.warn), .int .u64 (loW r.warn), .int .i64 (hiW r.crit), .int .u64 (loW r.crit), .int .i64 (hiW r.slack), .int .u64 (loW r.slack), .int .i64 r.for_, .int .i64 r.absent, .int .i64 r.again] 26 (0, 0))).trans (Keep.of_below (S := fun _ => False) hb2) (fun _ _ h => h) (fun _ _ h => h); have HBk2 := Aside0.mk (HBk.out.quiet HK2); have hbx := (hb2.block wr.heap.size (by simp)).trans (heap_alloc_new wr (.cells #[.string r.name, .bool r.above, .int .i64 (hiW r.warn), .int .u64 (loW r.warn), .int .i64 (hiW r.crit), .int .u64 (loW r.crit), .int .i64 (hiW r.slack), .int .u64 (loW r.slack), .int .i64 r.for_, .int .i64 r.absent, .int .i64 r.again] 26 (0, 0))); have u0 := blk_cell hbx 0; have u1 := blk_cell hbx 1; have u2 := blk_cell hbx 2; have u3 := blk_cell hbx 3; have u4 := blk_cell hbx 4; have u5 := blk_cell hbx 5; have u6 := blk_cell hbx 6; have u7 := blk_cell hbx 7; have u8 := blk_cell hbx 8; have u9 := blk_cell hbx 9; have u10 := blk_cell hbx 10; clear hb2 HK2 hbx))
          go_ret3
          exact ⟨HBel2.out, .inr (.inl ⟨H64.out, i, HRs.out, rfl⟩)⟩
        | true =>
          have hym : MayP r := of_decide_eq_true hm.symm
          cases hd : idxP L r.name with
          | some j =>
            rw [if_pos (.inr (hdup.2 (by rw [hd]; exact fun e => by cases e))), hlk] at hnk
            have HRs := Aside0.mk hnk.symm
            obtain ⟨x, hx, hxn, hv⟩ := idxP_lt hd
            have HFV := Aside0.mk hv
            have hL6 : L.length ≤ 1000000 := by omega
            clear hym hnk hdup hdr htk hr hri hm hlk hLl hd hx hxn hv
            go_wp2_with (first
              | (go_at_call 33; (with_reducible refine (HMAY.out _).mono ?_); rintro e w2 ⟨rfl, hb2⟩; have HBel2 := Aside0.mk (hop (HBel.out.alloc HBel.out.size (.cells #[.string r.name, .bool r.above, .int .i64 (hiW r.warn), .int .u64 (loW r.warn), .int .i64 (hiW r.crit), .int .u64 (loW r.crit), .int .i64 (hiW r.slack), .int .u64 (loW r.slack), .int .i64 r.for_, .int .i64 r.absent, .int .i64 r.again] 26 (0, 0))) hb2); have HK2 : Keep wr w2 (fun _ => False) := ((Keep.refl wr (fun _ => False)).alloc (.cells #[.string r.name, .bool r.above, .int .i64 (hiW r.warn), .int .u64 (loW r.warn), .int .i64 (hiW r.crit), .int .u64 (loW r.crit), .int .i64 (hiW r.slack), .int .u64 (loW r.slack), .int .i64 r.for_, .int .i64 r.absent, .int .i64 r.again] 26 (0, 0))).trans (Keep.of_below (S := fun _ => False) hb2) (fun _ _ h => h) (fun _ _ h => h); have HBk2 := Aside0.mk (HBk.out.quiet HK2); have hbx := (hb2.block wr.heap.size (by simp)).trans (heap_alloc_new wr (.cells #[.string r.name, .bool r.above, .int .i64 (hiW r.warn), .int .u64 (loW r.warn), .int .i64 (hiW r.crit), .int .u64 (loW r.crit), .int .i64 (hiW r.slack), .int .u64 (loW r.slack), .int .i64 r.for_, .int .i64 r.absent, .int .i64 r.again] 26 (0, 0))); have u0 := blk_cell hbx 0; have u1 := blk_cell hbx 1; have u2 := blk_cell hbx 2; have u3 := blk_cell hbx 3; have u4 := blk_cell hbx 4; have u5 := blk_cell hbx 5; have u6 := blk_cell hbx 6; have u7 := blk_cell hbx 7; have u8 := blk_cell hbx 8; have u9 := blk_cell hbx 9; have u10 := blk_cell hbx 10; clear hb2 HK2 hbx)
              | (go_at_call 25; (with_reducible refine (book_find HBk2.out r.name (by omega)).mono ?_); rintro e w' ⟨rfl, rfl⟩; rw [HFV.out]))
            go_ret3
            exact ⟨HBel2.out, .inr (.inl ⟨H64.out, i, HRs.out, rfl⟩)⟩
          | none =>
            rw [if_neg (by rintro (q | q); exact q hym; exact hdup.1 q hd)] at hnk
            rw [← htk] at hnk
            have HNK := Aside0.mk hnk
            have HTK := Aside0.mk htk
            have HFV := Aside0.mk (findV_none hd)
            have hL6 : L.length ≤ 1000000 := by omega
            have HRL := Aside0.mk (fun w2 : World => show RuleAt (w2.alloc (.cells #[.string r.name, .bool r.above, .int .i64 (hiW r.warn), .int .u64 (loW r.warn), .int .i64 (hiW r.crit), .int .u64 (loW r.crit), .int .i64 (hiW r.slack), .int .u64 (loW r.slack), .int .i64 r.for_, .int .i64 r.absent, .int .i64 r.again, .int .i64 1, .int .i64 1, .int .i64 0, .int .i64 0, .int .i64 0, .int .i64 0, .int .i64 0, .bool false, .int .i64 0, .nilFunc] 76 (0, 0))) w2.heap.size r stt0 .nilFunc from heap_alloc_new w2 _)
            have HLL := Aside0.mk hLl
            clear hym hnk hdup hdr htk hr hri hm hlk hd hLl
            go_wp2_with (first
              | (go_at_call 33; (with_reducible refine (HMAY.out _).mono ?_); rintro e w2 ⟨rfl, hb2⟩; have HBel2 := Aside0.mk (hop (HBel.out.alloc HBel.out.size (.cells #[.string r.name, .bool r.above, .int .i64 (hiW r.warn), .int .u64 (loW r.warn), .int .i64 (hiW r.crit), .int .u64 (loW r.crit), .int .i64 (hiW r.slack), .int .u64 (loW r.slack), .int .i64 r.for_, .int .i64 r.absent, .int .i64 r.again] 26 (0, 0))) hb2); have HK2 : Keep wr w2 (fun _ => False) := ((Keep.refl wr (fun _ => False)).alloc (.cells #[.string r.name, .bool r.above, .int .i64 (hiW r.warn), .int .u64 (loW r.warn), .int .i64 (hiW r.crit), .int .u64 (loW r.crit), .int .i64 (hiW r.slack), .int .u64 (loW r.slack), .int .i64 r.for_, .int .i64 r.absent, .int .i64 r.again] 26 (0, 0))).trans (Keep.of_below (S := fun _ => False) hb2) (fun _ _ h => h) (fun _ _ h => h); have HBk2 := Aside0.mk (HBk.out.quiet HK2); have hbx := (hb2.block wr.heap.size (by simp)).trans (heap_alloc_new wr (.cells #[.string r.name, .bool r.above, .int .i64 (hiW r.warn), .int .u64 (loW r.warn), .int .i64 (hiW r.crit), .int .u64 (loW r.crit), .int .i64 (hiW r.slack), .int .u64 (loW r.slack), .int .i64 r.for_, .int .i64 r.absent, .int .i64 r.again] 26 (0, 0))); have u0 := blk_cell hbx 0; have u1 := blk_cell hbx 1; have u2 := blk_cell hbx 2; have u3 := blk_cell hbx 3; have u4 := blk_cell hbx 4; have u5 := blk_cell hbx 5; have u6 := blk_cell hbx 6; have u7 := blk_cell hbx 7; have u8 := blk_cell hbx 8; have u9 := blk_cell hbx 9; have u10 := blk_cell hbx 10; clear hb2 HK2 hbx)
              | (go_at_call 25; (with_reducible refine (book_find HBk2.out r.name (by omega)).mono ?_); rintro e w' ⟨rfl, rfl⟩; rw [HFV.out])
              | (go_at_call 26; (with_reducible refine (rule_enter _ w2.heap.size r stt0 _ (HRL.out w2) 1).mono ?_); rintro e w4 ⟨rfl, h4, hk4⟩; have HR4 := Aside0.mk (show RuleS w4 w2.heap.size r stt0 from h4); have HBk4 := Aside0.mk ((HBk2.out.quiet ((Keep.refl w2 (fun _ => False)).alloc (.cells #[.string r.name, .bool r.above, .int .i64 (hiW r.warn), .int .u64 (loW r.warn), .int .i64 (hiW r.crit), .int .u64 (loW r.crit), .int .i64 (hiW r.slack), .int .u64 (loW r.slack), .int .i64 r.for_, .int .i64 r.absent, .int .i64 r.again, .int .i64 1, .int .i64 1, .int .i64 0, .int .i64 0, .int .i64 0, .int .i64 0, .int .i64 0, .bool false, .int .i64 0, .nilFunc] 76 (0, 0)))).keep hk4 (fun e => (by have := blk_lt HBk2.out.blk; omega)) (fun k e e2 => (by have := R_lt' HBk2.out.row k e; omega)) (fun x hx e => (by have := blk_lt (HBk2.out.rules x hx).1; omega))); have HK4 := Aside0.mk (show Keep w2 w4 (fun _ => False) from ⟨hk4.os, hk4.tape, hk4.output, Nat.le_trans (by simp) hk4.size, fun k hk _ => (hk4.block k (by simp; omega) (by omega)).trans (Below.heap_alloc w2 _ k hk)⟩); have b0 := blk_cell HBk4.out.blk 0; clear h4 hk4)
              | ((with_reducible refine gate_builtin (b := .append) (xs := #[.tmp 41, .tmp 43]) rfl ?_); at_builtin; refine Kd.R_append kp (w0 := w4) w.heap.size rfl (.tmp 41) (.tmp 43) 66 72 (.pointer none) 8 rfl Try.underlying66 info_rule rfl (by decide) (by omega) (.slice A L.length c) (L.map (·.1)) w2.heap.size [.pointer (some ⟨w2.heap.size, 0, none⟩)] (fun _ => True) (fun _ => False) rfl rfl ?aP (fun _ hk => hk.elim) ?aF ?aO ?aB ?aS ?aL ?_; (case aP => exact rfl); (case aB => exact Below.refl _ _); (case aF => exact (fun _ _ => trivial)); (case aO => exact HBk4.out.row); (case aS => have := HBel2.out.size; have := HK4.out.size; omega); (case aL => rw [List.length_map]; omega); intro v5 w5 ho5 _ hg5 hat5; obtain ⟨A5, c5, ev5⟩ := Kd.R_slice ho5; rw [List.length_append, List.length_map, List.length_cons, List.length_nil] at ev5; subst ev5; have HG5 := Aside0.mk (grown_keep hg5); have HO5 := Aside0.mk ho5; have hbb := (hg5.block w.heap.size (blk_lt HBk4.out.blk) (fun e => (by obtain ⟨cs, fr, h1⟩ := R_typed HBk4.out.row _ e.symm; exact ne_typed h1 HBk4.out.blk (by decide) rfl))).trans HBk4.out.blk; have g0 := blk_cell hbb 0; have gf0 := blk_frozen hbb 0; have HB5 := Aside0.mk hbb; have HBB := Aside0.mk (blk_put hbb 0 (.slice A5 (L.length + (0 + 1)) c5) rfl); clear ho5 hg5 hat5 hbb))
            go_roundg k1
            case rel =>
              have hz := HK4.out.size
              have hz2 := HBel2.out.size
              have hk5 : Keep w4 (w5.setCell ⟨w.heap.size, 0, none⟩ (.slice A5 (L.length + (0 + 1)) c5)) (fun k => k = w.heap.size ∨ some k = (Value.slice A L.length c).ownBlock) := (HG5.out.mono (fun k _ h => .inr h)).set _ _ (.inl (.inl rfl))
              refine ⟨i + 1, A5, c5, L ++ [(w2.heap.size, r, stt0)], by go_num, by omega, ⟨⟨?_, ?_, ?_, ?_, Nat.le_refl _⟩⟩, ⟨?_⟩, HNK, ⟨?_⟩⟩
              · rw [List.length_append]; exact HBB.out
              · rw [List.length_append, List.map_append]
                refine R_keep HO5.out ((Keep.refl w5 (fun k => k = w.heap.size)).set ⟨w.heap.size, 0, none⟩ _ (.inl rfl)) (fun k e e2 => ?_)
                obtain ⟨cs, fr, h1⟩ := R_typed HO5.out k e
                exact ne_typed h1 HB5.out (by decide) e2
              · intro x hx
                rcases List.mem_append.1 hx with hx | hx
                · have hxr := HBk4.out.rules x hx
                  refine ⟨(hk5.block x.1 (blk_lt hxr.1) ?_).trans hxr.1, hxr.2⟩
                  rintro (e | e)
                  · exact ne_typed hxr.1 HBk4.out.blk (by decide) e
                  · obtain ⟨cs, fr, h1⟩ := R_typed HBk4.out.row _ e.symm
                    exact ne_typed hxr.1 h1 (by decide) rfl
                · rw [List.mem_singleton] at hx
                  subst hx
                  refine ⟨(hk5.block w2.heap.size (blk_lt HR4.out) ?_).trans HR4.out, hz2⟩
                  rintro (e | e)
                  · exact ne_typed HR4.out HBk4.out.blk (by decide) e
                  · obtain ⟨cs, fr, h1⟩ := R_typed HBk4.out.row _ e.symm
                    exact ne_typed HR4.out h1 (by decide) rfl
              · rw [List.map_append, List.nodup_append]
                refine ⟨HBk4.out.nodup, by simp, ?_⟩
                intro a ha b hb hab
                rw [List.map_cons, List.map_nil, List.mem_singleton] at hb
                subst hb
                subst hab
                obtain ⟨x, hx, hxe⟩ := List.mem_map.1 ha
                have := blk_lt (HBk2.out.rules x hx).1
                omega
              · rw [List.map_append, HL.out, HTK.out, List.map_append]
                rfl
              · have h2 := HBel2.out
                have h4 : Below w.heap.size w w4 := h2.trans (HK4.out.below h2.size (fun k hk => hk.elim))
                refine h4.trans (hk5.below h4.size (fun k hk => ?_))
                rcases hk with e | e
                · omega
                · obtain ⟨inner, ho⟩ := Kd.R_own HBk4.out.row
                  exact own_base ho k e.symm
            case measure => omega
end Go.Proofs.Ytadmigijbfdboaa.Q
