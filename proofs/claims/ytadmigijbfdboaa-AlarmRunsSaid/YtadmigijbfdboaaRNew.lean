import Derived.Test.YtadmigijbfdboaaRBoth
namespace Go.Proofs.Ytadmigijbfdboaa.Q
open Go.RowKit Go.Proofs.YtadmigijbfdboaaW.PrintWords Go.Proofs.YtadmigijbfdboaaW.PrintLast Go.Proofs.YtadmigijbfdboaaW.PrintMore Go.Proofs.YtadmigijbfdboaaV
set_option linter.unusedVariables false
set_option linter.unusedSimpArgs false

theorem results_cell_row3 {P : Program} {fn : Func} {p u v : Tmp} {ty : TypeId} (h : fn.results = #[.cell p ty, .tmp u, .tmp v]) (tmps : Array Value) (w : World) (g : Nat) (t : TypeId) (cs : Array Value) (fr : Nat × Nat) (d : TypeDesc)
    (hp : tmps.getD p undef = .pointer (some ⟨g, 0, none⟩)) (hg : w.heap[g]? = some (.cells cs t fr))
    (hu : P.underlying ty = some d) (hd : (match d with | .struct _ | .array _ _ => true | _ => false) = true) (hi : (P.info? ty).map (·.size) = some cs.size) :
    (results fn tmps).run P w = .ok (.tuple #[.agg cs, tmps.getD u undef, tmps.getD v undef]) w := by
  have hp' : tmps[p]?.getD undef = .pointer (some ⟨g, 0, none⟩) := by simpa using hp
  simp [results, h, hp', asAddr, run_loadVar_row w g t ty cs fr d hg hu hd hi]
/-- A rule's standing, as the reference keeps it. -/
def kKept : Kd (Rul × Stt) where
  sz := 19
  E := []
  K := fun _ x cs => cs = kc x.1 x.2
  M := fun _ _ _ x cs => cs = kc x.1 x.2
  K_len := by rintro _ x _ rfl; rfl
  K_one := by
    rintro _ x _ rfl u hu
    simp only [kc, List.mem_cons, List.not_mem_nil, or_false] at hu
    rcases hu with rfl | rfl | rfl | rfl | rfl | rfl | rfl | rfl | rfl | rfl | rfl | rfl | rfl | rfl | rfl | rfl | rfl | rfl | rfl <;> rfl
  K_below := fun _ h => h
  K_of_M := fun h => h
  M_mono := fun _ h => h
  M_bound := fun h => h
  M_move := fun _ h => h
  M_lower := fun _ h => h
theorem info_kept : (Try.prog.info? 89).map (fun i => (i.zero, i.size, i.bytes)) = some (some (.agg #[.string ⟨#[]⟩, .bool false, .int .i64 0, .int .u64 0, .int .i64 0, .int .u64 0, .int .i64 0, .int .u64 0, .int .i64 0, .int .i64 0, .int .i64 0, .int .i64 0, .int .i64 0, .int .i64 0, .int .i64 0, .int .i64 0, .int .i64 0, .int .i64 0, .int .i64 0]), 19, 160) := by kernel_rfl
def st0 (rs : List Rul) : List (Rul × Stt) := rs.map (fun r => (r, stt0))
def ents (rs : List Rul) : List Ent := rs.map (fun r => (0, r, stt0))
theorem book_of_R {w : World} {gb : Nat} {A : Option Addr} {c base : Nat} {ok : Nat → Prop} {L : List Ent} {xs : List (Rul × Stt)} (hb : w.heap[gb]? = some (.cells #[.slice A xs.length c] 55 (0, 0))) (h : Kd.R kKept 89 w base ok (.slice A xs.length c) xs) (hL : L.map (·.2) = xs) : ∃ g, RBookAt w gb g 0 A c L ∧ (L ≠ [] → base ≤ g) := by
  have hl : L.length = xs.length := by rw [← hL, List.length_map]
  by_cases h0 : L = []
  · subst h0
    exact ⟨0, ⟨by rw [hl]; exact hb, fun q => absurd rfl q, fun i x hx => by simp at hx, fun q => absurd rfl q⟩, fun q => absurd rfl q⟩
  · have hp : 0 < xs.length := by rw [← hl]; exact List.length_pos_iff.2 h0
    obtain ⟨g, cap, e, hbase, hlt, cells, hc⟩ := Kd.R_form h hp
    injection e with e1 e2 e3
    subst e1
    obtain ⟨inner, ho⟩ := Kd.R_own h
    obtain ⟨-, -, hC⟩ := Kd.R_reads' h
    refine ⟨g, ⟨by rw [hl]; exact hb, fun _ => rfl, fun i x hx => ⟨fun j u hu => ?_, fun j hj => World.ownsRow.frozenAt ho _⟩, fun _ => ne_typed hb hc (by decide)⟩, fun _ => hbase⟩
    have hx2 : xs[i]? = some x.2 := by rw [← hL, List.getElem?_map, hx]; rfl
    have hi := (List.getElem?_eq_some_iff.1 hx2).1
    obtain ⟨ad, cs, e, hcl, hK, hcell⟩ := Kd.C_get hC x.2 (i : Int) (by omega) (by omega)
    injection e with e
    subst e
    have hK' : cs = kc x.2.1 x.2.2 := by
      have : (xs.getD (i : Int).toNat x.2) = x.2 := by rw [Int.toNat_natCast, List.getD_eq_getElem?_getD, hx2]; rfl
      rw [this] at hK
      exact hK
    have := hcell j u (by rw [hK']; exact hu)
    rw [Int.toNat_natCast, add_none, show 0 + (i * kKept.sz + j) = 0 + i * 19 + j by rw [show kKept.sz = 19 from rfl]; omega] at this
    exact this
theorem find_of_R {w : World} {gb : Nat} {A : Option Addr} {c base : Nat} {ok : Nat → Prop} {rs : List Rul} {n : Nat} (hn : rs.length = n) (hb : w.heap[gb]? = some (.cells #[.slice A n c] 55 (0, 0))) (h : Kd.R kKept 89 w base ok (.slice A n c) (st0 rs)) (name : ByteArray) (hL : n ≤ 1000000) :
    Calls Try.prog 34 #[.pointer (some ⟨gb, 0, none⟩), .string name] w fun e w' => e = .returned (.int .i64 (idxI (ents rs) name)) ∧ w = w' := by
  have hl : (st0 rs).length = n := by rw [← hn]; exact List.length_map ..
  rw [← hl] at hb h
  obtain ⟨g, hg, -⟩ := book_of_R (L := ents rs) hb h (by unfold ents st0; rw [List.map_map]; rfl)
  exact refb_find hg name (by rw [show (ents rs).length = rs.length from List.length_map .., hn]; exact hL)
theorem idx_ents (rs : List Rul) (name : ByteArray) : (∃ x ∈ rs, x.name = name) ↔ idxP (ents rs) name ≠ none := by
  rw [Ne, idxP, List.findIdx?_eq_none_iff]
  constructor
  · rintro ⟨y, hy, hn⟩ hc
    have := hc (0, y, stt0) (List.mem_map.2 ⟨y, hy, rfl⟩)
    simp [hn] at this
  · intro hc
    simp only [Classical.not_forall] at hc
    obtain ⟨x, hx, hn⟩ := hc
    obtain ⟨y, hy, rfl⟩ := List.mem_map.1 hx
    exact ⟨y, hy, by simpa using hn⟩
theorem KR_keep {w w' : World} {e base : Nat} {ok : Nat → Prop} {v : Value} {xs : List (Rul × Stt)} {S : Nat → Prop} (h : Kd.R kKept e w base ok v xs) (hk : Keep w w' S) (hS : ∀ k, v.ownBlock = some k → ¬ S k) : Kd.R kKept e w' base ok v xs := by
  obtain ⟨h0, inner, ho, hr⟩ := h
  exact ⟨h0, inner, own_move ho (fun k e => hk.block k (own_lt ho k e) (hS k e)), hr.imp_ (fun _ _ hp => hp)⟩
theorem KR_typed {w : World} {e base : Nat} {ok : Nat → Prop} {v : Value} {xs : List (Rul × Stt)} (h : Kd.R kKept e w base ok v xs) (k : Nat) (hk : v.ownBlock = some k) : ∃ cells, w.heap[k]? = some (.cells cells e (0, 0)) := by
  obtain ⟨inner, ho⟩ := Kd.R_own h
  exact own_typed ho k hk
theorem drew_alloc (w : World) (o : Obj) : (w.alloc o).drew = w.drew.alloc o := rfl
theorem st0_snoc (rs : List Rul) (r : Rul) : st0 (rs ++ [r]) = st0 rs ++ [(r, stt0)] := by unfold st0; rw [List.map_append]; rfl
theorem st0_length (rs : List Rul) : (st0 rs).length = rs.length := List.length_map ..

set_option maxHeartbeats 12800000 in
set_option maxRecDepth 4000 in
theorem ref_New {w : World} {A0 : Option Addr} {c0 : Nat} {rs : List Rul} (hC : Kd.C kRul w A0 rs.length rs) (hin : ∀ r ∈ rs, RulIn r) (R : Option Nat) (hR : newK [] rs = R) :
    Calls Try.prog 16 #[.slice A0 rs.length c0] w fun e w' => Below w.heap.size w w' ∧
      ((64 < rs.length ∧ e = .returned (.tuple #[.agg #[.slice none 0 0], .int .i64 64, .int .i64 3])) ∨
       (¬ 64 < rs.length ∧ ∃ i, R = some i ∧ e = .returned (.tuple #[.agg #[.slice none 0 0], .int .i64 i, .int .i64 230])) ∨
       (¬ 64 < rs.length ∧ R = none ∧ ∃ A c, e = .returned (.tuple #[.agg #[.slice A rs.length c], .int .i64 0, .int .i64 0]) ∧ Kd.R kKept 89 w' w.heap.size (fun _ => True) (.slice A rs.length c) (st0 rs))) := by
  have HC := Aside0.mk hC
  have HB0 := Aside0.mk ((Below.refl w.heap.size w).alloc (Nat.le_refl _) (.cells #[.slice none 0 0] 55 (0, 0)))
  have HN0 := Aside0.mk (heap_alloc_new w (.cells #[.slice none 0 0] 55 (0, 0)))
  have hlen := hC.2.1
  by_cases h64 : 64 < rs.length
  · have d1 : decide ((64 : Int) < (rs.length : Int)) = true := decide_eq_true (by omega)
    have H64 := Aside0.mk h64
    have z0 := blk_cell HN0.out 0
    have z1 := blk_frozen HN0.out 0
    clear hC h64
    go_enter Try.func16, Try.ntmps16
    go_wp2
    refine bodyPost_ret (results_cell_row3 rfl _ _ w.heap.size 55 _ (0, 0) _ rfl HN0.out Try.underlying55 rfl (by kernel_rfl)) rfl ?_
    exact ⟨HB0.out, .inl ⟨H64.out, rfl⟩⟩
  · have d1 : decide ((64 : Int) < (rs.length : Int)) = false := decide_eq_false (by omega)
    have H64 := Aside0.mk h64
    have HR := Aside0.mk hR
    have HN1 := Aside0.mk (heap_alloc2_new w (.cells #[.slice none 0 0] 55 (0, 0)) (.cells #[.slice none 0 0] 55 (0, 0)))
    have HN00 := Aside0.mk (blk_alloc HN0.out (.cells #[.slice none 0 0] 55 (0, 0)))
    have HB1 := Aside0.mk (HB0.out.alloc HB0.out.size (.cells #[.slice none 0 0] 55 (0, 0)))
    have z0 := blk_cell HN1.out 0
    have z1 := blk_frozen HN1.out 0
    have hr64 : rs.length ≤ 64 := by omega
    clear hC h64 hR
    go_enter Try.func16, Try.ntmps16
    go_wp2
    go_loopg [6] rs.length (fun kq v6 w' => ∃ (i : Nat) (A : Option Addr) (c : Nat), v6 = .int .i64 i ∧ i + kq = rs.length ∧ Aside0 (w'.heap[w.heap.size]? = some (.cells #[.slice none 0 0] 55 (0, 0))) ∧ Aside0 (w'.heap[w.heap.size + 1]? = some (.cells #[.slice A i c] 55 (0, 0))) ∧ Aside0 (Kd.R kKept 89 w' w.heap.size (fun _ => True) (.slice A i c) (st0 (rs.take i))) ∧ Aside0 (newK (rs.take i) (rs.drop i) = R) ∧ Aside0 (Below w.heap.size w w'))
    case atStart =>
      exact ⟨0, none, 0, rfl, by omega, HN00, HN1, ⟨Kd.R_nil _ _ _ _ _⟩, HR, HB1⟩
    case round =>
      clear z0 z1
      obtain ⟨i, A, c, rfl, hik, HNr, HNb, HRR, HN, HBel⟩ := hrel
      have q0 := blk_cell HNr.out 0
      have q1 := blk_frozen HNr.out 0
      cases gk with
      | zero =>
        obtain rfl : i = rs.length := by omega
        have d2 : decide (rs.length < rs.length) = false := decide_eq_false (by omega)
        have e1 := HN.out
        rw [List.drop_eq_nil_of_le (by omega)] at e1
        have e2 := HRR.out
        rw [List.take_of_length_le (by omega)] at e2
        have HRn := Aside0.mk (show R = none from e1.symm)
        have b0 := blk_cell HNb.out 0
        have HF := Aside0.mk (blk_put (cs' := #[.slice A rs.length c]) HNr.out 0 (.slice A rs.length c) rfl)
        have hk : Keep wr (wr.setCell ⟨w.heap.size, 0, none⟩ (.slice A rs.length c)) (fun k => k = w.heap.size) := (Keep.refl _ _).set _ _ (.inl rfl)
        have HBF := Aside0.mk (HBel.out.trans (hk.below HBel.out.size (fun k q => by have q2 : k = w.heap.size := q; omega)))
        have HRF := Aside0.mk (KR_keep e2 hk (fun k e q => by obtain ⟨cs, h1⟩ := KR_typed e2 k e; exact ne_typed h1 HNr.out (by decide) q))
        clear e1 e2 hk
        go_wp2
        refine bodyPost_ret (results_cell_row3 rfl _ _ w.heap.size 55 _ (0, 0) _ rfl HF.out Try.underlying55 rfl (by kernel_rfl)) rfl ?_
        exact ⟨HBF.out, .inr (.inr ⟨H64.out, HRn.out, A, c, rfl, HRF.out⟩)⟩
      | succ k1 =>
        have hlt : i < rs.length := by omega
        have d2 : decide (i < rs.length) = true := decide_eq_true hlt
        obtain ⟨r, hr⟩ : ∃ r, rs[i]? = some r := ⟨rs[i], List.getElem?_eq_getElem hlt⟩
        have hri := hin r (List.mem_of_getElem? hr)
        have HRI := Aside0.mk hr
        obtain ⟨ad, rfl, x0, x1, x2, x3, x4, x5, x6, x7, x8, x9, x10⟩ := at_Rul (Kd.C_below HC.out HBel.out) i r hr
        have hdr : rs.drop i = r :: rs.drop (i + 1) := by rw [List.drop_eq_getElem_cons hlt]; congr 1; exact (List.getElem?_eq_some_iff.1 hr).2
        have htk : rs.take (i + 1) = rs.take i ++ [r] := by rw [List.take_succ_eq_append_getElem hlt]; congr 2; exact (List.getElem?_eq_some_iff.1 hr).2
        have hnk := HN.out
        rw [hdr] at hnk
        simp only [newK] at hnk
        have hlk : (rs.take i).length = i := by rw [List.length_take]; omega
        have hdup := idx_ents (rs.take i) r.name
        have HLK := Aside0.mk hlk
        have HMAY := Aside0.mk (fun W => ref_May W r hri)
        obtain ⟨m, hm⟩ : ∃ m, m = decide (MayP r) := ⟨_, rfl⟩
        rw [← hm] at HMAY
        unfold ruleA at HMAY
        have hi6 : i ≤ 1000000 := by omega
        cases m with
        | false =>
          have hnm : ¬ MayP r := of_decide_eq_false hm.symm
          rw [if_pos (.inl hnm), hlk] at hnk
          have HRs := Aside0.mk hnk.symm
          clear hnm hnk hdup hdr htk hr hri hm hlk
          go_wp2_with (first
            | (go_at_call 22; (with_reducible refine (HMAY.out _).mono ?_); rintro e w2 ⟨rfl, hb2⟩; have HBel2 := Aside0.mk (hop HBel.out hb2); have HNr2 := Aside0.mk ((hb2.block _ (blk_lt HNr.out)).trans HNr.out); have HNb2 := Aside0.mk ((hb2.block _ (blk_lt HNb.out)).trans HNb.out); have HRR2 := Aside0.mk (KR_keep HRR.out (below_keep hb2) (fun _ _ q => q)); obtain ⟨ad_, hA_, y0, y1, y2, y3, y4, y5, y6, y7, y8, y9, y10⟩ := at_Rul (Kd.C_below HC.out HBel2.out) i r HRI.out; injection hA_ with hA_; subst hA_; have q2 := blk_cell HNr2.out 0; have q3 := blk_frozen HNr2.out 0; clear hb2))
          have HF := Aside0.mk (blk_put (cs' := #[.slice none 0 0]) HNr2.out 0 (.slice none 0 0) rfl)
          have hk : Keep w2 (w2.setCell ⟨w.heap.size, 0, none⟩ (.slice none 0 0)) (fun k => k = w.heap.size) := (Keep.refl _ _).set _ _ (.inl rfl)
          have HBF := Aside0.mk (HBel2.out.trans (hk.below HBel2.out.size (fun k q => by have q2 : k = w.heap.size := q; omega)))
          refine bodyPost_ret (results_cell_row3 rfl _ _ w.heap.size 55 _ (0, 0) _ rfl HF.out Try.underlying55 rfl (by kernel_rfl)) rfl ?_
          exact ⟨HBF.out, .inr (.inl ⟨H64.out, i, HRs.out, rfl⟩)⟩
        | true =>
          have hym : MayP r := of_decide_eq_true hm.symm
          cases hd : idxP (ents (rs.take i)) r.name with
          | some j =>
            rw [if_pos (.inr (hdup.2 (by rw [hd]; exact fun e => by cases e))), hlk] at hnk
            have HRs := Aside0.mk hnk.symm
            have HFV := Aside0.mk (show idxI (ents (rs.take i)) r.name = (j : Int) by unfold idxI; rw [hd])
            have d4 : decide ((0 : Int) ≤ (j : Int)) = true := decide_eq_true (by omega)
            clear hym hnk hdup hdr htk hr hri hm hlk hd
            go_wp2_with (first
              | (go_at_call 22; (with_reducible refine (HMAY.out _).mono ?_); rintro e w2 ⟨rfl, hb2⟩; have HBel2 := Aside0.mk (hop HBel.out hb2); have HNr2 := Aside0.mk ((hb2.block _ (blk_lt HNr.out)).trans HNr.out); have HNb2 := Aside0.mk ((hb2.block _ (blk_lt HNb.out)).trans HNb.out); have HRR2 := Aside0.mk (KR_keep HRR.out (below_keep hb2) (fun _ _ q => q)); obtain ⟨ad_, hA_, y0, y1, y2, y3, y4, y5, y6, y7, y8, y9, y10⟩ := at_Rul (Kd.C_below HC.out HBel2.out) i r HRI.out; injection hA_ with hA_; subst hA_; have q2 := blk_cell HNr2.out 0; have q3 := blk_frozen HNr2.out 0; clear hb2)
              | (go_at_call 34; (with_reducible refine (find_of_R HLK.out HNb2.out HRR2.out r.name hi6).mono ?_); rintro e w' ⟨rfl, rfl⟩; rw [HFV.out]))
            have HF := Aside0.mk (blk_put (cs' := #[.slice none 0 0]) HNr2.out 0 (.slice none 0 0) rfl)
            have hk : Keep w2 (w2.setCell ⟨w.heap.size, 0, none⟩ (.slice none 0 0)) (fun k => k = w.heap.size) := (Keep.refl _ _).set _ _ (.inl rfl)
            have HBF := Aside0.mk (HBel2.out.trans (hk.below HBel2.out.size (fun k q => by have q2 : k = w.heap.size := q; omega)))
            refine bodyPost_ret (results_cell_row3 rfl _ _ w.heap.size 55 _ (0, 0) _ rfl HF.out Try.underlying55 rfl (by kernel_rfl)) rfl ?_
            exact ⟨HBF.out, .inr (.inl ⟨H64.out, i, HRs.out, rfl⟩)⟩
          | none =>
            rw [if_neg (by rintro (q | q); exact q hym; exact hdup.1 q hd)] at hnk
            rw [← htk] at hnk
            have HNK := Aside0.mk hnk
            have HTK := Aside0.mk htk
            have HFV := Aside0.mk (show idxI (ents (rs.take i)) r.name = -1 by unfold idxI; rw [hd])
            clear hym hnk hdup hdr htk hr hri hm hlk hd
            go_upto_region 9 with (first
              | (go_at_call 22; (with_reducible refine (HMAY.out _).mono ?_); rintro e w2 ⟨rfl, hb2⟩; have HBel2 := Aside0.mk (hop HBel.out hb2); have HNr2 := Aside0.mk ((hb2.block _ (blk_lt HNr.out)).trans HNr.out); have HNb2 := Aside0.mk ((hb2.block _ (blk_lt HNb.out)).trans HNb.out); have HRR2 := Aside0.mk (KR_keep HRR.out (below_keep hb2) (fun _ _ q => q)); obtain ⟨ad_, hA_, y0, y1, y2, y3, y4, y5, y6, y7, y8, y9, y10⟩ := at_Rul (Kd.C_below HC.out HBel2.out) i r HRI.out; injection hA_ with hA_; subst hA_; have q2 := blk_cell HNr2.out 0; have q3 := blk_frozen HNr2.out 0; clear hb2)
              | (go_at_call 34; (with_reducible refine (find_of_R HLK.out HNb2.out HRR2.out r.name hi6).mono ?_); rintro e w' ⟨rfl, rfl⟩; rw [HFV.out]))
            have b0 := blk_cell HNb2.out 0
            have b1 := blk_frozen HNb2.out 0
            refine start_ (n := 11) (S := fun w' => w'.cell? ⟨w.heap.size + 1, 0, none⟩ = some (.slice A i c) ∧ w'.cell? (ad.add (i * 11)) = some (.string r.name) ∧ w'.cell? ⟨(ad.add (i * 11)).block, (ad.add (i * 11)).off + 1, none⟩ = some (.bool r.above) ∧ w'.cell? ⟨(ad.add (i * 11)).block, (ad.add (i * 11)).off + 2, none⟩ = some (.int .i64 (hiW r.warn)) ∧ w'.cell? ⟨(ad.add (i * 11)).block, (ad.add (i * 11)).off + 3, none⟩ = some (.int .u64 (loW r.warn)) ∧ w'.cell? ⟨(ad.add (i * 11)).block, (ad.add (i * 11)).off + 4, none⟩ = some (.int .i64 (hiW r.crit)) ∧ w'.cell? ⟨(ad.add (i * 11)).block, (ad.add (i * 11)).off + 5, none⟩ = some (.int .u64 (loW r.crit)) ∧ w'.cell? ⟨(ad.add (i * 11)).block, (ad.add (i * 11)).off + 6, none⟩ = some (.int .i64 (hiW r.slack)) ∧ w'.cell? ⟨(ad.add (i * 11)).block, (ad.add (i * 11)).off + 7, none⟩ = some (.int .u64 (loW r.slack)) ∧ w'.cell? ⟨(ad.add (i * 11)).block, (ad.add (i * 11)).off + 8, none⟩ = some (.int .i64 r.for_) ∧ w'.cell? ⟨(ad.add (i * 11)).block, (ad.add (i * 11)).off + 9, none⟩ = some (.int .i64 r.absent) ∧ w'.cell? ⟨(ad.add (i * 11)).block, (ad.add (i * 11)).off + 10, none⟩ = some (.int .i64 r.again)) (ds := [8, 10]) #[false, false, false, false, false, false, false, false, false, false, false] (by kernel_rfl) rfl rfl ⟨b0, y0, y1, y2, y3, y4, y5, y6, y7, y8, y9, y10⟩ (fun hHeld => ?_)
            refine pure_ (i := 0) (N := some 35) (v := ?_) (a' := ?_) #[true, false, false, false, false, false, false, false, false, false, false] rfl rfl (by kernel_rfl) (fun _ _ _ h => h) (Or.inl ⟨by rfl, ?_⟩) ?_ ?_
            rotate_left
            · intro w'
              go_simp
              with_reducible rfl
            rotate_left
            · simp only [Act.put, List.setIfInBounds_toArray, List.set_cons_zero, List.set_cons_succ, i64_w, i32_w]
              rfl
            refine pure_ (i := 2) (N := some 37) (v := ?_) (a' := ?_) #[true, false, true, false, false, false, false, false, false, false, false] rfl rfl (by kernel_rfl) (fun _ _ _ h => h) (Or.inl ⟨by rfl, ?_⟩) ?_ ?_
            rotate_left
            · intro w'
              go_simp
              with_reducible rfl
            rotate_left
            · simp only [Act.put, List.setIfInBounds_toArray, List.set_cons_zero, List.set_cons_succ, i64_w, i32_w]
              rfl
            refine pure_ (i := 3) (N := some 38) (v := ?_) (a' := ?_) #[true, false, true, true, false, false, false, false, false, false, false] rfl rfl (by kernel_rfl) (fun _ _ _ h => h) (Or.inl ⟨by rfl, ?_⟩) ?_ ?_
            rotate_left
            · intro w'
              go_simp
              with_reducible rfl
            rotate_left
            · simp only [Act.put, List.setIfInBounds_toArray, List.set_cons_zero, List.set_cons_succ, i64_w, i32_w]
              rfl
            refine pure_ (i := 4) (N := some 39) (v := ?_) (a' := ?_) #[true, false, true, true, true, false, false, false, false, false, false] rfl rfl (by kernel_rfl) (fun _ _ _ h => h) (Or.inl ⟨by rfl, ?_⟩) ?_ ?_
            rotate_left
            · intro w'
              go_simp
              with_reducible rfl
            rotate_left
            · simp only [Act.put, List.setIfInBounds_toArray, List.set_cons_zero, List.set_cons_succ, i64_w, i32_w]
              rfl
            refine take_ (i := 1) (N := some 36) (v := ?_) (a' := ?_) #[true, true, true, true, true, false, false, false, false, false, false] rfl rfl (by kernel_rfl) (fun _ _ _ h => h) (Or.inl ⟨by rfl, ?_⟩) hHeld ?_ ?_
            rotate_left
            · rintro w' ⟨s0, s1, s2, s3, s4, s5, s6, s7, s8, s9, s10, s11⟩
              go_simp
              with_reducible rfl
            rotate_left
            · simp only [Act.put, List.setIfInBounds_toArray, List.set_cons_zero, List.set_cons_succ, i64_w, i32_w]
              rfl
            refine take_ (i := 5) (N := some 40) (v := ?_) (a' := ?_) #[true, true, true, true, true, true, false, false, false, false, false] rfl rfl (by kernel_rfl) (fun _ _ _ h => h) (Or.inl ⟨by rfl, ?_⟩) hHeld ?_ ?_
            rotate_left
            · rintro w' ⟨s0, s1, s2, s3, s4, s5, s6, s7, s8, s9, s10, s11⟩
              go_simp
              with_reducible rfl
            rotate_left
            · simp only [Act.put, List.setIfInBounds_toArray, List.set_cons_zero, List.set_cons_succ, i64_w, i32_w]
              rfl
            refine pure_ (i := 6) (N := some 41) (v := ?_) (a' := ?_) #[true, true, true, true, true, true, true, false, false, false, false] rfl rfl (by kernel_rfl) (fun _ _ _ h => h) (Or.inl ⟨by rfl, ?_⟩) ?_ ?_
            rotate_left
            · intro w'
              go_simp
              with_reducible rfl
            rotate_left
            · simp only [Act.put, List.setIfInBounds_toArray, List.set_cons_zero, List.set_cons_succ, i64_w, i32_w]
              rfl
            refine one_ (i := 7) (N := some 42) #[true, true, true, true, true, true, true, true, false, false, false] rfl rfl (by kernel_rfl) (by decide) (fun K hK => ?_)
            refine value_ (w1 := ?_) (v := ?_) (by rfl) rfl ?_ ?_
            rotate_left 2
            · go_simp
              constructor
              · rfl
              · rfl
            refine hK.out _ _ ⟨(World.cell?_alloc_lt _ _ _ (World.block_lt_of_cell? _ _ (hHeld.1))).trans (hHeld.1), (World.cell?_alloc_lt _ _ _ (World.block_lt_of_cell? _ _ (hHeld.2.1))).trans (hHeld.2.1), (World.cell?_alloc_lt _ _ _ (World.block_lt_of_cell? _ _ (hHeld.2.2.1))).trans (hHeld.2.2.1), (World.cell?_alloc_lt _ _ _ (World.block_lt_of_cell? _ _ (hHeld.2.2.2.1))).trans (hHeld.2.2.2.1), (World.cell?_alloc_lt _ _ _ (World.block_lt_of_cell? _ _ (hHeld.2.2.2.2.1))).trans (hHeld.2.2.2.2.1), (World.cell?_alloc_lt _ _ _ (World.block_lt_of_cell? _ _ (hHeld.2.2.2.2.2.1))).trans (hHeld.2.2.2.2.2.1), (World.cell?_alloc_lt _ _ _ (World.block_lt_of_cell? _ _ (hHeld.2.2.2.2.2.2.1))).trans (hHeld.2.2.2.2.2.2.1), (World.cell?_alloc_lt _ _ _ (World.block_lt_of_cell? _ _ (hHeld.2.2.2.2.2.2.2.1))).trans (hHeld.2.2.2.2.2.2.2.1), (World.cell?_alloc_lt _ _ _ (World.block_lt_of_cell? _ _ (hHeld.2.2.2.2.2.2.2.2.1))).trans (hHeld.2.2.2.2.2.2.2.2.1), (World.cell?_alloc_lt _ _ _ (World.block_lt_of_cell? _ _ (hHeld.2.2.2.2.2.2.2.2.2.1))).trans (hHeld.2.2.2.2.2.2.2.2.2.1), (World.cell?_alloc_lt _ _ _ (World.block_lt_of_cell? _ _ (hHeld.2.2.2.2.2.2.2.2.2.2.1))).trans (hHeld.2.2.2.2.2.2.2.2.2.2.1), (World.cell?_alloc_lt _ _ _ (World.block_lt_of_cell? _ _ (hHeld.2.2.2.2.2.2.2.2.2.2.2))).trans (hHeld.2.2.2.2.2.2.2.2.2.2.2)⟩ (fun hHeld => ?_)
            clear hK K
            refine norm_ (a' := ?_) ?_ ?_
            rotate_left
            · show Act.put _ (some 42) _ = _
              simp only [Act.put, List.setIfInBounds_toArray, List.set_cons_zero, List.set_cons_succ, i64_w, i32_w]
              rfl
            refine last_ (i := 8) (N := some 43) #[true, true, true, true, true, true, true, true, true, false, false] rfl rfl (by kernel_rfl) (by decide) (fun K hK => ?_)
            rw [drew_alloc]
            refine Kd.R_append_step kKept (w0 := w2) w.heap.size (by rfl) (.tmp 36) (.tmp 42) 53 89 (.agg #[.string ⟨#[]⟩, .bool false, .int .i64 0, .int .u64 0, .int .i64 0, .int .u64 0, .int .i64 0, .int .u64 0, .int .i64 0, .int .i64 0, .int .i64 0, .int .i64 0, .int .i64 0, .int .i64 0, .int .i64 0, .int .i64 0, .int .i64 0, .int .i64 0, .int .i64 0]) 160 rfl Try.underlying53 info_kept rfl (by decide) (by omega) (.slice A i c) (st0 (rs.take i)) (r, stt0) [.string r.name, .bool r.above, .int .i64 (hiW r.warn), .int .u64 (loW r.warn), .int .i64 (hiW r.crit), .int .u64 (loW r.crit), .int .i64 (hiW r.slack), .int .u64 (loW r.slack), .int .i64 r.for_, .int .i64 r.absent, .int .i64 r.again, .int .i64 1, .int .i64 1, .int .i64 0, .int .i64 0, .int .i64 0, .int .i64 0, .int .i64 (-1), .int .i64 0] (fun _ => True) (fun _ => False) rfl rfl ?aP (fun _ hk => hk.elim) ?aF ?aO ?aB ?aS ?aL ?_
            (case aP => exact rfl)
            (case aB => first | exact Below.refl _ _ | exact below_drew (Below.refl _ _))
            (case aF => exact (fun _ _ => trivial))
            (case aO => first | exact HRR2.out | exact KR_keep HRR2.out ((Keep.refl w2 (fun _ => False)).drew) (fun _ _ q => q))
            (case aS => exact HBel2.out.size)
            (case aL => rw [st0_length, HLK.out]; omega)
            intro v5 w5 ho5 _ hg5 hat5
            obtain ⟨A5, c5, ev5⟩ := Kd.R_slice ho5
            rw [List.length_append, st0_length, HLK.out, List.length_singleton] at ev5
            subst ev5
            have HG5 := Aside0.mk (grown_keep hg5)
            have HO5 := Aside0.mk ho5
            have hne5 : ∀ k, k = w.heap.size ∨ k = w.heap.size + 1 → some k ≠ (Value.slice A i c).ownBlock := fun k hk e => by obtain ⟨cs, h1⟩ := KR_typed HRR2.out _ e.symm; rcases hk with rfl | rfl; exact ne_typed h1 HNr2.out (by decide) rfl; exact ne_typed h1 HNb2.out (by decide) rfl
            have hbr := (hg5.block w.heap.size (blk_lt HNr2.out) (hne5 _ (.inl rfl))).trans HNr2.out
            have hbb := (hg5.block (w.heap.size + 1) (blk_lt HNb2.out) (hne5 _ (.inr rfl))).trans HNb2.out
            have g0 := blk_cell hbb 0
            have g1 := blk_frozen hbb 0
            have HBR := Aside0.mk hbr
            have HBB := Aside0.mk hbb
            clear hbr hbb ho5 hg5 hat5 hne5
            refine hK.out _ _ ?_
            clear hK K
            refine norm_ (a' := ?_) ?_ ?_
            rotate_left
            · show Act.put _ (some 43) _ = _
              simp only [Act.put, List.setIfInBounds_toArray, List.set_cons_zero, List.set_cons_succ, i64_w, i32_w]
              rfl
            refine pure_ (i := 9) (N := some 44) (v := ?_) (a' := ?_) #[true, true, true, true, true, true, true, true, true, true, false] rfl rfl (by kernel_rfl) (fun _ _ _ h => h) (Or.inl ⟨by rfl, ?_⟩) ?_ ?_
            rotate_left
            · intro w'
              go_simp
              with_reducible rfl
            rotate_left
            · simp only [Act.put, List.setIfInBounds_toArray, List.set_cons_zero, List.set_cons_succ, i64_w, i32_w]
              rfl
            refine last_ (i := 10) (N := none) #[true, true, true, true, true, true, true, true, true, true, true] rfl rfl (by kernel_rfl) (by decide) (fun K hK => ?_)
            refine skip_ (w1 := ?_) (by rfl) rfl ?_ ?_
            rotate_left
            · go_simp
              rfl
            refine hK.out _ _ ?_
            clear hK K
            refine done_ (by kernel_rfl) ?_
            go_wp2_with (fail)
            go_roundg k1
            case rel =>
              have hk6 : Keep w5 (w5.setCell ⟨w.heap.size + 1, 0, none⟩ (.slice A5 (i + 1) c5)) (fun k => k = w.heap.size + 1) := (Keep.refl _ _).set _ _ (.inl rfl)
              have hk5 : Keep w2 w5 (fun k => some k = (Value.slice A i c).ownBlock) := by first | exact HG5.out | exact ((Keep.refl w2 _).drew).trans HG5.out (fun _ _ q => q) (fun _ _ q => q)
              have hk7 : Keep w2 (w5.setCell ⟨w.heap.size + 1, 0, none⟩ (.slice A5 (i + 1) c5)) (fun k => k = w.heap.size + 1 ∨ some k = (Value.slice A i c).ownBlock) := (hk5.mono (fun k _ h => .inr h)).set _ _ (.inl (.inl rfl))
              refine ⟨i + 1, A5, c5, by go_num, by omega, ⟨?_⟩, ⟨?_⟩, ⟨?_⟩, HNK, ⟨?_⟩⟩
              · exact (hk6.block w.heap.size (blk_lt HBR.out) (by omega)).trans HBR.out
              · exact blk_put (cs' := #[.slice A5 (i + 1) c5]) HBB.out 0 _ rfl
              · rw [HTK.out, st0_snoc]
                exact KR_keep HO5.out hk6 (fun k e q => by obtain ⟨cs, h1⟩ := KR_typed HO5.out k e; exact ne_typed h1 HBB.out (by decide) q)
              · refine HBel2.out.trans (hk7.below HBel2.out.size (fun k q => ?_))
                rcases q with e | e
                · omega
                · obtain ⟨inner, ho⟩ := Kd.R_own HRR2.out
                  exact own_base ho k e.symm
            case measure => omega
end Go.Proofs.Ytadmigijbfdboaa.Q
