import Derived.Test.YtoakooebmnjkhaaWRef2
namespace Go.Proofs.Ytoakooebmnjkhaa.Q
open Go.RowKit Go.Proofs.YtoakooebmnjkhaaW.PrintWords Go.Proofs.YtoakooebmnjkhaaW.PrintLast Go.Proofs.YtoakooebmnjkhaaW.PrintMore Go.Proofs.YtoakooebmnjkhaaV
set_option linter.unusedVariables false
set_option linter.unusedSimpArgs false

theorem results_cell_row2 {P : Program} {fn : Func} {p u : Tmp} {ty : TypeId} (h : fn.results = #[.cell p ty, .tmp u]) (tmps : Array Value) (w : World) (g : Nat) (t : TypeId) (cs : Array Value) (fr : Nat × Nat) (d : TypeDesc)
    (hp : tmps.getD p undef = .pointer (some ⟨g, 0, none⟩)) (hg : w.heap[g]? = some (.cells cs t fr))
    (hu : P.underlying ty = some d) (hd : (match d with | .struct _ | .array _ _ => true | _ => false) = true) (hi : (P.info? ty).map (·.size) = some cs.size) :
    (results fn tmps).run P w = .ok (.tuple #[.agg cs, tmps.getD u undef]) w := by
  have hp' : tmps[p]?.getD undef = .pointer (some ⟨g, 0, none⟩) := by simpa using hp
  simp [results, h, hp', asAddr, run_loadVar_row w g t ty cs fr d hg hu hd hi]
theorem win_awake (w : World) : Calls Try.prog 13 #[] w fun e w' => e = .returned (.bool true) ∧ w = w' := by
  have H1 := Aside0.mk (fun W => win_Of 25 10 W (by unfold in64; omega) (by omega))
  have H2 := Aside0.mk (fun W => win_Of (-1) 10 W (by unfold in64; omega) (by omega))
  rw [show (25 : Int) / 10 = 2 from rfl] at H1
  rw [show (-1 : Int) / 10 = -1 from rfl] at H2
  go_enter Try.func13, Try.ntmps13
  go_wp2_with (first
    | (go_at_call 14; (with_reducible refine (H1.out _).mono ?_); rintro e w' ⟨rfl, rfl⟩)
    | (go_at_call 14; (with_reducible refine (H2.out _).mono ?_); rintro e w' ⟨rfl, rfl⟩))
  go_ret
  exact ⟨rfl, rfl⟩
theorem win_New_bad {wd : Int} (hw : ¬ (1 ≤ wd ∧ wd ≤ 1048576)) (w : World) : Calls Try.prog 29 #[.int .i64 wd] w fun e w' => e = .returned (.tuple #[.pointer none, .int .i64 61]) ∧ w = w' := by
  have HW := Aside0.mk (fun W => win_wrong wd W (q := true) (decide_eq_true (by omega)))
  go_enter Try.func29, Try.ntmps29
  go_wp2_with (first | (go_at_call 34; (with_reducible refine (HW.out _).mono ?_); rintro e w' ⟨rfl, rfl⟩))
  go_ret2
  exact ⟨rfl, rfl⟩
theorem win_New_ok {wd : Int} (hw : 1 ≤ wd ∧ wd ≤ 1048576) (w : World) : Calls Try.prog 29 #[.int .i64 wd] w fun e w' => e = .returned (.tuple #[.pointer (some ⟨w.heap.size + 1, 0, none⟩), .int .i64 0]) ∧ BkAt w' (w.heap.size + 1) w.heap.size ⟨wd, -9223372036854775808, []⟩ ∧ Below w.heap.size w w' := by
  have HW := Aside0.mk (fun W => win_wrong wd W (ok_wrong hw))
  have hown := World.ownsMap_made (H := Unit) w Try.prog 2 unitElem
  have hmap : MapIs ((w.alloc (.map #[] 0)).alloc (.cells #[.int .i64 wd, .map (some w.heap.size), .int .i64 (-9223372036854775808)] 39 (0, 0))) w.heap.size [] := ⟨_, hown.alloc _, SetIs.empty⟩
  have hblk : ((w.alloc (.map #[] 0)).alloc (.cells #[.int .i64 wd, .map (some w.heap.size), .int .i64 (-9223372036854775808)] 39 (0, 0))).heap[w.heap.size + 1]? = some (.cells #[.int .i64 wd, .map (some w.heap.size), .int .i64 (-9223372036854775808)] 39 (0, 0)) := heap_alloc2_new _ _ _
  have hok : BkOk ⟨wd, -9223372036854775808, []⟩ := ⟨hw, (show in64 (-9223372036854775808) by unfold in64; omega), (List.Pairwise.nil : Rise []), (fun x hx => absurd hx List.not_mem_nil), (fun x hx => absurd hx List.not_mem_nil), Nat.zero_le _⟩
  have HBK := Aside0.mk (show BkAt _ (w.heap.size + 1) w.heap.size ⟨wd, -9223372036854775808, []⟩ from ⟨hblk, hmap, hok⟩)
  have HB := Aside0.mk (below_alloc (below_alloc (Below.refl w.heap.size w) (.map #[] 0)) (.cells #[.int .i64 wd, .map (some w.heap.size), .int .i64 (-9223372036854775808)] 39 (0, 0)))
  have hmm := @run_makeMap Try.prog
  clear hown hmap hblk hok hw
  go_enter Try.func29, Try.ntmps29
  go_wp2_with (first | (go_at_call 34; (with_reducible refine (HW.out _).mono ?_); rintro e w' ⟨rfl, rfl⟩))
  go_ret2
  exact ⟨rfl, HBK.out, HB.out⟩
theorem rb_New_bad {wd : Int} (hw : ¬ (1 ≤ wd ∧ wd ≤ 1048576)) (w : World) : Calls Try.prog 31 #[.int .i64 wd] w fun e w' => e = .returned (.tuple #[.agg #[.int .i64 0, .slice none 0 0, .int .i64 0, .bool false], .int .i64 61]) ∧ Below w.heap.size w w' := by
  have HW := Aside0.mk (fun W => rw_bad wd W (q := true) (decide_eq_true (by omega)))
  have HN := Aside0.mk (heap_alloc_new w (.cells #[.int .i64 0, .slice none 0 0, .int .i64 0, .bool false] 54 (0, 0)))
  have HB := Aside0.mk (below_alloc (Below.refl w.heap.size w) (.cells #[.int .i64 0, .slice none 0 0, .int .i64 0, .bool false] 54 (0, 0)))
  go_enter Try.func31, Try.ntmps31
  go_wp2_with (first | (go_at_call 36; (with_reducible refine (HW.out _).mono ?_); rintro e w' ⟨rfl, rfl⟩))
  refine bodyPost_ret (results_cell_row2 rfl _ _ w.heap.size 54 _ (0, 0) _ rfl HN.out Try.underlying54 rfl (by kernel_rfl)) rfl ?_
  exact ⟨rfl, HB.out⟩
theorem rb_New_ok {wd : Int} (hw : 1 ≤ wd ∧ wd ≤ 1048576) (w : World) : Calls Try.prog 31 #[.int .i64 wd] w fun e w' => e = .returned (.tuple #[.agg #[.int .i64 wd, .slice none 0 0, .int .i64 (-9223372036854775808), .bool true], .int .i64 0]) ∧ Below w.heap.size w w' := by
  have HW := Aside0.mk (fun W => rw_bad wd W (ok_wrong hw))
  have HN := Aside0.mk (heap_alloc_new w (.cells #[.int .i64 wd, .slice none 0 0, .int .i64 (-9223372036854775808), .bool true] 54 (0, 0)))
  have HB := Aside0.mk (below_alloc (Below.refl w.heap.size w) (.cells #[.int .i64 wd, .slice none 0 0, .int .i64 (-9223372036854775808), .bool true] 54 (0, 0)))
  go_enter Try.func31, Try.ntmps31
  go_wp2_with (first | (go_at_call 36; (with_reducible refine (HW.out _).mono ?_); rintro e w' ⟨rfl, rfl⟩))
  refine bodyPost_ret (results_cell_row2 rfl _ _ w.heap.size 54 _ (0, 0) _ rfl HN.out Try.underlying54 rfl (by kernel_rfl)) rfl ?_
  exact ⟨rfl, HB.out⟩
/-- A call that a script holds. -/
structure OpW where
  kind : Int
  t : Int
def kOpW : Kd OpW := Kd.iso (Kd.pair (Kd.int .i64) (Kd.int .i64)) (fun o : OpW => (o.kind, o.t))
theorem kOpW_open {w : World} {o : OpW} {cs : List Value} (h : kOpW.K w o cs) : cs = [.int .i64 o.kind, .int .i64 o.t] := by
  obtain ⟨_, _, rfl, rfl, rfl⟩ := h
  exact rfl
theorem at_OpW {w : World} {A : Option Addr} {n : Nat} {xs : List OpW} (h : Kd.C kOpW w A n xs) (i : Nat) (o : OpW) (hi : xs[i]? = some o) : ∃ ad, A = some ad ∧ w.cell? (ad.add (i * 2)) = some (.int .i64 o.kind) ∧ w.cell? ⟨(ad.add (i * 2)).block, (ad.add (i * 2)).off + 1, none⟩ = some (.int .i64 o.t) := by
  have hn : xs.length = n := h.1
  have hl := (List.getElem?_eq_some_iff.1 hi).1
  obtain ⟨ad, c, e, _, hK, hc0⟩ := Kd.C_get h ⟨0, 0⟩ (i : Int) (by omega) (by omega)
  have hc : ∀ j u, c[j]? = some u → w.cell? (ad.add (i * 2 + j)) = some u := by
    intro j u hj
    have := hc0 j u hj
    rw [Int.toNat_natCast] at this
    exact this
  have hx : xs.getD (i : Int).toNat ⟨0, 0⟩ = o := by rw [Int.toNat_natCast, List.getD_eq_getElem?_getD, hi]; rfl
  rw [hx] at hK
  obtain rfl := kOpW_open hK
  exact ⟨ad, e, hc 0 _ rfl, by rw [← add_field _ _ 1 (by omega)]; exact hc 1 _ rfl⟩
/-- The two books side by side. -/
structure Two (w0 w : World) (gb gm gr : Nat) (b b2 : BkS) : Prop where
  a : BkAt w gb gm b
  r : ∃ A c, RbAt w w0.heap.size gr A c b2
  bel : Below w0.heap.size w0 w
  lo : w0.heap.size ≤ gb ∧ w0.heap.size ≤ gm ∧ w0.heap.size ≤ gr
theorem Two.apart {w0 w : World} {gb gm gr : Nat} {b b2 : BkS} (h : Two w0 w gb gm gr b b2) : gb ≠ gr ∧ gm ≠ gr := by
  obtain ⟨A, c, hr⟩ := h.r
  refine ⟨ne_typed h.a.blk hr.blk (by decide), fun e => ?_⟩
  obtain ⟨D, ⟨es, clock, hb, -⟩, -⟩ := h.a.map
  have := hr.blk
  rw [← e, hb] at this
  cases this
theorem Two.quiet {w0 w w' : World} {gb gm gr : Nat} {b b2 : BkS} (h : Two w0 w gb gm gr b b2) (hb : Below w.heap.size w w') : Two w0 w' gb gm gr b b2 := by
  obtain ⟨A, c, hr⟩ := h.r
  exact ⟨h.a.quiet (below_keep hb), ⟨A, c, hr.keep (below_keep hb) (fun q => q) (fun _ _ q => q)⟩, hop h.bel hb, h.lo⟩
theorem Two.aMoves {w0 w w' : World} {gb gm gr : Nat} {b b2 b' : BkS} (h : Two w0 w gb gm gr b b2) (ha : BkAt w' gb gm b') (hk : Keep w w' (fun k => k = gb ∨ k = gm)) : Two w0 w' gb gm gr b' b2 := by
  obtain ⟨A, c, hr⟩ := h.r
  obtain ⟨n1, n2⟩ := h.apart
  refine ⟨ha, ⟨A, c, hr.keep hk (by rintro (e | e); exact n1 e.symm; exact n2 e.symm) (fun k e q => ?_)⟩, h.bel.trans (hk.below h.bel.size (fun k q => by have := h.lo; omega)), h.lo⟩
  obtain ⟨cs, fr, h1⟩ := R_typed hr.row k e
  rcases q with rfl | rfl
  · exact ne_typed h1 h.a.blk (by decide) rfl
  · obtain ⟨D, ⟨es, clock, hb, -⟩, -⟩ := h.a.map
    rw [hb] at h1
    cases h1
theorem Two.bMoves {w0 w w' : World} {gb gm gr : Nat} {b b2 b' : BkS} (h : Two w0 w gb gm gr b b2) (hb : ∃ A c, RbAt w' w0.heap.size gr A c b') (hk : Keep w w' (fun k => k = gr)) : Two w0 w' gb gm gr b b' := by
  obtain ⟨n1, n2⟩ := h.apart
  exact ⟨h.a.keep hk n1 n2, hb, h.bel.trans (hk.below h.bel.size (fun k q => by have := h.lo; omega)), h.lo⟩
theorem Two.PutA {w0 w : World} {gb gm gr : Nat} {b b2 : BkS} (h : Two w0 w gb gm gr b b2) {t : Int} (ht : in64 t) {x e : Int} {b' : BkS} (hp : putP b t = (x, e, b')) :
    Calls Try.prog 25 #[.pointer (some ⟨gb, 0, none⟩), .int .i64 t] w fun e1 w' => e1 = .returned (.tuple #[.int .i64 x, .int .i64 e]) ∧ Two w0 w' gb gm gr b' b2 ∧ Keep w w' (fun k => k = gm) := by
  refine (book_Put h.a t ht hp).mono ?_
  rintro e1 w' ⟨rfl, h1, h2⟩
  exact ⟨rfl, h.aMoves h1 (h2.mono (fun k _ q => .inr q)), h2⟩
theorem Two.PutB {w0 w : World} {gb gm gr : Nat} {b b2 : BkS} (h : Two w0 w gb gm gr b b2) {t : Int} (ht : in64 t) {x e : Int} {b' : BkS} (hp : putP b2 t = (x, e, b')) :
    Calls Try.prog 32 #[.pointer (some ⟨gr, 0, none⟩), .int .i64 t] w fun e1 w' => e1 = .returned (.tuple #[.int .i64 x, .int .i64 e]) ∧ Two w0 w' gb gm gr b b' := by
  obtain ⟨A, c, hr⟩ := h.r
  refine (rb_Put hr h.bel.size t ht hp).mono ?_
  rintro e1 w' ⟨rfl, h1, h2⟩
  exact ⟨rfl, h.bMoves h1 h2⟩
/-- What was made since a world. -/
def NewRow (w0 w : World) (v : Value) (l : List Int) : Prop := Kd.R (Kd.int .i64) 2 w w0.heap.size (fun _ => True) v l
theorem Two.CloseA {w0 w : World} {gb gm gr : Nat} {b b2 : BkS} (h : Two w0 w gb gm gr b b2) {t : Int} (ht : in64 t) {l : List Int} {b' : BkS} (hp : closeP b t = (l, b')) :
    Calls Try.prog 26 #[.pointer (some ⟨gb, 0, none⟩), .int .i64 t] w fun e1 w' => ∃ A c, e1 = .returned (.slice A l.length c) ∧ NewRow w w' (.slice A l.length c) l ∧ Two w0 w' gb gm gr b' b2 ∧ Keep w w' (fun k => k = gb ∨ k = gm) := by
  refine (book_Close h.a t ht hp).mono ?_
  rintro e1 w' ⟨A, c, rfl, h1, h2, h3⟩
  exact ⟨A, c, rfl, h1, h.aMoves h2 h3, h3⟩
theorem Two.CloseB {w0 w : World} {gb gm gr : Nat} {b b2 : BkS} (h : Two w0 w gb gm gr b b2) {t : Int} (ht : in64 t) {l : List Int} {b' : BkS} (hp : closeP b2 t = (l, b')) :
    Calls Try.prog 33 #[.pointer (some ⟨gr, 0, none⟩), .int .i64 t] w fun e1 w' => ∃ A c, e1 = .returned (.slice A l.length c) ∧ NewRow w w' (.slice A l.length c) l ∧ Two w0 w' gb gm gr b b' ∧ Keep w w' (fun k => k = gr) := by
  obtain ⟨A, c, hr⟩ := h.r
  refine (rb_Close hr h.bel.size t ht hp).mono ?_
  rintro e1 w' ⟨A1, c1, rfl, h1, h2, h3⟩
  exact ⟨A1, c1, rfl, h1, h.bMoves h2 h3, h3⟩
theorem Two.OpenA {w0 w : World} {gb gm gr : Nat} {b b2 : BkS} (h : Two w0 w gb gm gr b b2) :
    Calls Try.prog 27 #[.pointer (some ⟨gb, 0, none⟩)] w fun e1 w' => ∃ A c, e1 = .returned (.slice A b.L.length c) ∧ NewRow w w' (.slice A b.L.length c) b.L ∧ Below w.heap.size w w' ∧ Two w0 w' gb gm gr b b2 := by
  refine (book_Open h.a).mono ?_
  rintro e1 w' ⟨A, c, rfl, h1, h2⟩
  exact ⟨A, c, rfl, h1, h2, h.quiet h2⟩
theorem NewRow.C {w0 w : World} {A : Option Addr} {c : Nat} {l : List Int} (h : NewRow w0 w (.slice A l.length c) l) : Kd.C (Kd.int .i64) w A l.length l := (Kd.R_reads' h).2.2
theorem NewRow.keep {w0 w w' : World} {v : Value} {l : List Int} {S : Nat → Prop} (h : NewRow w0 w v l) (hk : Keep w w' S) (hS : ∀ k, S k → k < w0.heap.size) : NewRow w0 w' v l := R_keep h hk (fun k e q => by have := own_base (Kd.own_of_R h) k e; have := hS k q; omega)
theorem closeP_len (b : BkS) (m : Int) : (closeP b m).1.length ≤ b.L.length := by
  unfold closeP
  split
  · exact Nat.zero_le _
  · split
    · exact Nat.zero_le _
    · exact List.length_filter_le _ _
set_option maxHeartbeats 1600000 in
theorem law_Plays_bad (w : World) {wd : Int} (hw : ¬ (1 ≤ wd ∧ wd ≤ 1048576)) (S0 : Option Addr) (n0 c0 : Nat) :
    Calls Try.prog 12 #[.int .i64 wd, .slice S0 n0 c0] w fun e w' => e = .returned (.bool true) ∧ Below w.heap.size w w' := by
  have HN := Aside0.mk (fun W => win_New_bad hw W)
  have HR := Aside0.mk (fun W => rb_New_bad hw W)
  clear hw
  go_enter Try.func12, Try.ntmps12
  go_wp2_with (first
    | (go_at_call 29; (with_reducible refine (HN.out _).mono ?_); rintro e w' ⟨rfl, rfl⟩)
    | (go_at_call 31; (with_reducible refine (HR.out _).mono ?_); rintro e w2 ⟨rfl, hb⟩; have HB := Aside0.mk (below_alloc hb (.cells #[.int .i64 0, .slice none 0 0, .int .i64 0, .bool false] 54 (0, 0))); clear hb)
    | (go_at_call 13; (with_reducible refine (win_awake _).mono ?_); rintro e w' ⟨rfl, rfl⟩))
  go_ret
  exact ⟨rfl, HB.out⟩
set_option maxHeartbeats 12800000 in
set_option maxRecDepth 4000 in
theorem law_Plays_ok (w : World) {wd : Int} (hw : 1 ≤ wd ∧ wd ≤ 1048576) {S0 : Option Addr} {c0 : Nat} {os : List OpW} (hS : Kd.C kOpW w S0 os.length os) (hos : ∀ o ∈ os, in64 o.t) :
    Calls Try.prog 12 #[.int .i64 wd, .slice S0 os.length c0] w fun e w' => e = .returned (.bool true) ∧ Below w.heap.size w w' := by
  have HN := Aside0.mk (win_New_ok hw w)
  have HR := Aside0.mk (fun W => rb_New_ok hw W)
  have HS := Aside0.mk hS
  have HOS := Aside0.mk hos
  have hls := hS.2.1
  clear hw hS hos
  go_enter Try.func12, Try.ntmps12
  go_wp2_with (first
    | (go_at_call 29; (with_reducible refine (HN.out).mono ?_); rintro e w1 ⟨rfl, hbk, hb⟩; have HBK := Aside0.mk hbk; have HB1 := Aside0.mk hb; clear hbk hb)
    | (go_at_call 31; (with_reducible refine (HR.out _).mono ?_); rintro e w2 ⟨rfl, hb⟩; have HB2 := Aside0.mk (below_alloc hb (.cells #[.int .i64 wd, .slice none 0 0, .int .i64 (-9223372036854775808), .bool true] 54 (0, 0))); have HB3 := Aside0.mk hb; clear hb))
  have hT : Two w (w2.alloc (.cells #[.int .i64 wd, .slice none 0 0, .int .i64 (-9223372036854775808), .bool true] 54 (0, 0))) (w.heap.size + 1) w.heap.size w2.heap.size ⟨wd, -9223372036854775808, []⟩ ⟨wd, -9223372036854775808, []⟩ := by
    have hbk := HBK.out.quiet (below_keep HB2.out)
    exact ⟨hbk, ⟨none, 0, ⟨heap_alloc_new _ _, Kd.R_nil _ _ _ _ _, hbk.ok⟩⟩, hop HB1.out HB2.out, by have := HB1.out.size; have := HB3.out.size; omega⟩
  have HT0 := Aside0.mk hT
  obtain ⟨gb, hgb⟩ : ∃ x, x = w.heap.size + 1 := ⟨_, rfl⟩
  obtain ⟨gm, hgm⟩ : ∃ x, x = w.heap.size := ⟨_, rfl⟩
  obtain ⟨gr, hgr⟩ : ∃ x, x = w2.heap.size := ⟨_, rfl⟩
  have HT1 := Aside0.mk (show Two w (w2.alloc (.cells #[.int .i64 wd, .slice none 0 0, .int .i64 (-9223372036854775808), .bool true] 54 (0, 0))) gb gm gr ⟨wd, -9223372036854775808, []⟩ ⟨wd, -9223372036854775808, []⟩ by rw [hgb, hgm, hgr]; exact HT0.out)
  rw [← hgr, ← hgb]
  clear hT HT0 HBK HB1 HB2 HB3 HN HR hgb hgm hgr
  go_loopg [9] os.length (fun kq v9 w' => ∃ (i : Nat) (b : BkS), v9 = .int .i64 i ∧ i + kq = os.length ∧ Aside0 (Two w w' gb gm gr b b))
  case atStart => exact ⟨0, _, rfl, by omega, HT1⟩
  case round =>
    clear HT1
    obtain ⟨i, b, rfl, hik, HT⟩ := hrel
    obtain ⟨A2, c2, hr⟩ := HT.out.r
    have HRB := Aside0.mk hr
    have hll := hr.ok.len
    cases gk with
    | zero =>
      have d1 : decide (i < os.length) = false := decide_eq_false (by omega)
      have HTd := Aside0.mk (HT.out.quiet ((Below.refl wr.heap.size wr).drew))
      have HRd := Aside0.mk (hr.keep (below_keep ((Below.refl wr.heap.size wr).drew)) (fun q => q) (fun _ _ q => q))
      have r1 := blk_cell HRd.out.blk 1
      have r2 := blk_cell HRd.out.blk 2
      have hl6 : b.L.length ≤ 1000000 := by omega
      have ebb : (b.bound == b.bound) = true := by simp
      clear hr
      go_upto_region 25 with (fail)
      go_region_with (first
        | (go_at_call 27; (with_reducible refine (HTd.out.OpenA).mono ?_); rintro e w5 ⟨Aa, ca, rfl, hn, hb, ht5⟩; have HTa := Aside0.mk ht5; have NRa := Aside0.mk hn; have HR5 := Aside0.mk (HRd.out.keep (below_keep hb) (fun q => q) (fun _ _ q => q)); have s1 := blk_cell HR5.out.blk 1; have s2 := blk_cell HR5.out.blk 2; clear hn hb ht5)
        | (go_at_call 19; (with_reducible refine (same_is hl6 NRa.out.C (Kd.R_reads' HR5.out.row).2.2).mono ?_); rintro e w7 ⟨rfl, hb⟩; have HTy := Aside0.mk (HTa.out.quiet hb); have HR7 := Aside0.mk (HR5.out.keep (below_keep hb) (fun q => q) (fun _ _ q => q)); have u1 := blk_cell HR7.out.blk 1; have u2 := blk_cell HR7.out.blk 2; clear hb)
        | (go_at_call 28; (with_reducible refine (book_Closed HTy.out.a).mono ?_); rintro e w' ⟨rfl, rfl⟩))
      all_goals
        go_wp2_with (fail)
        go_ret
        exact ⟨rfl, HTy.out.bel⟩
    | succ k1 =>
      have hlt : i < os.length := by omega
      have d1 : decide (i < os.length) = true := decide_eq_true hlt
      obtain ⟨o, ho⟩ : ∃ o, os[i]? = some o := ⟨os[i], List.getElem?_eq_getElem hlt⟩
      have hov := HOS.out o (List.mem_of_getElem? ho)
      obtain ⟨ad, rfl, x0, x1⟩ := at_OpW (Kd.C_below HS.out HT.out.bel) i o ho
      obtain ⟨kd, t⟩ := o
      have HV := Aside0.mk (show in64 t from hov)
      have O1 := Aside0.mk (heap_alloc_new wr (.cells #[.int .i64 kd, .int .i64 t] 50 (0, 0)))
      have HT1 := Aside0.mk (HT.out.quiet ((Below.refl wr.heap.size wr).alloc (Nat.le_refl _) (.cells #[.int .i64 kd, .int .i64 t] 50 (0, 0))))
      have HR1 := Aside0.mk (hr.keep (below_keep ((Below.refl wr.heap.size wr).alloc (Nat.le_refl _) (.cells #[.int .i64 kd, .int .i64 t] 50 (0, 0)))) (fun q => q) (fun _ _ q => q))
      have HGL := Aside0.mk (show gb < wr.heap.size ∧ gm < wr.heap.size ∧ gr < wr.heap.size from ⟨blk_lt HT.out.a.blk, HT.out.a.map.lt, blk_lt hr.blk⟩)
      clear ho hov hr HT
      by_cases h0 : kd = 0
      · have k0_ : (kd == 0) = true := beq_iff_eq.mpr h0
        obtain ⟨x, er, b', hp⟩ : ∃ x er b', putP b t = (x, er, b') := ⟨_, _, _, rfl⟩
        have HP := Aside0.mk hp
        have ex : (x == x) = true := by simp
        have en : (er == er) = true := by simp
        clear h0 hp
        go_wp2_with (first
          | (go_at_call 25; (with_reducible refine (HT1.out.PutA HV.out HP.out).mono ?_); rintro e w5 ⟨rfl, ht5, hk5⟩; have HTa := Aside0.mk ht5; have O5 := Aside0.mk ((hk5.block wr.heap.size (blk_lt O1.out) (by have := HGL.out; omega)).trans O1.out); have p1 := blk_cell O5.out 1; clear ht5 hk5)
          | (go_at_call 32; (with_reducible refine (HTa.out.PutB HV.out HP.out).mono ?_); rintro e w6 ⟨rfl, ht6⟩; have HTz := Aside0.mk ht6; clear ht6))
        go_roundg k1
        case rel => exact ⟨i + 1, b', by go_num, by omega, HTz⟩
        case measure => omega
      · have k0_ : (kd == 0) = false := beq_eq_false_iff_ne.mpr h0
        by_cases h1 : kd = 1
        · have k1_ : (kd == 1) = true := beq_iff_eq.mpr h1
          obtain ⟨l, b', hp⟩ : ∃ l b', closeP b t = (l, b') := ⟨_, _, rfl⟩
          have HP := Aside0.mk hp
          have hl6 : l.length ≤ 1000000 := by have := closeP_len b t; rw [hp] at this; have h9 : l.length ≤ b.L.length := this; omega
          clear h0 h1 hp
          go_upto_region 18 with (fail)
          have HTd := Aside0.mk (HT1.out.quiet ((Below.refl (wr.alloc (.cells #[.int .i64 kd, .int .i64 t] 50 (0, 0))).heap.size (wr.alloc (.cells #[.int .i64 kd, .int .i64 t] 50 (0, 0)))).drew))
          have HRd := Aside0.mk (HR1.out.keep (below_keep ((Below.refl (wr.alloc (.cells #[.int .i64 kd, .int .i64 t] 50 (0, 0))).heap.size (wr.alloc (.cells #[.int .i64 kd, .int .i64 t] 50 (0, 0)))).drew)) (fun q => q) (fun _ _ q => q))
          have Od := Aside0.mk (show (wr.alloc (.cells #[.int .i64 kd, .int .i64 t] 50 (0, 0))).drew.heap[wr.heap.size]? = _ from O1.out)
          have p1 := blk_cell Od.out 1
          have r1 := blk_cell HRd.out.blk 1
          have r2 := blk_cell HRd.out.blk 2
          go_region_with (first
            | (go_at_call 26; (with_reducible refine (HTd.out.CloseA HV.out HP.out).mono ?_); rintro e w5 ⟨Aa, ca, rfl, hn, ht5, hk5⟩; have HTa := Aside0.mk ht5; have NRx := Aside0.mk hn; have O5 := Aside0.mk ((hk5.block wr.heap.size (blk_lt Od.out) (by have := HGL.out; rintro (q | q) <;> omega)).trans Od.out); have p5 := blk_cell O5.out 1; clear hn ht5 hk5)
            | (go_at_call 33; (with_reducible refine (HTa.out.CloseB HV.out HP.out).mono ?_); rintro e w6 ⟨Ab, cb, rfl, hn, ht6, hk6⟩; have HTz := Aside0.mk ht6; have NRb := Aside0.mk hn; have NRa := Aside0.mk (NRx.out.keep hk6 (fun k q => (by have := HGL.out; have h9 : (wr.alloc (.cells #[.int .i64 kd, .int .i64 t] 50 (0, 0))).drew.heap.size = wr.heap.size + 1 := (by show (wr.alloc (.cells #[.int .i64 kd, .int .i64 t] 50 (0, 0))).heap.size = _; simp); omega))); clear hn ht6 hk6 HTa)
            | (go_at_call 33; (with_reducible refine (HTd.out.CloseB HV.out HP.out).mono ?_); rintro e w5 ⟨Ab, cb, rfl, hn, ht5, hk5⟩; have HTb := Aside0.mk ht5; have NRy := Aside0.mk hn; have O5 := Aside0.mk ((hk5.block wr.heap.size (blk_lt Od.out) (by have := HGL.out; omega)).trans Od.out); have p5 := blk_cell O5.out 1; clear hn ht5 hk5)
            | (go_at_call 26; (with_reducible refine (HTb.out.CloseA HV.out HP.out).mono ?_); rintro e w6 ⟨Aa, ca, rfl, hn, ht6, hk6⟩; have HTz := Aside0.mk ht6; have NRa := Aside0.mk hn; have NRb := Aside0.mk (NRy.out.keep hk6 (fun k q => (by have := HGL.out; have h9 : (wr.alloc (.cells #[.int .i64 kd, .int .i64 t] 50 (0, 0))).drew.heap.size = wr.heap.size + 1 := (by show (wr.alloc (.cells #[.int .i64 kd, .int .i64 t] 50 (0, 0))).heap.size = _; simp); omega))); clear hn ht6 hk6 HTb)
            | (go_at_call 19; (with_reducible refine (same_is hl6 NRa.out.C NRb.out.C).mono ?_); rintro e w7 ⟨rfl, hb⟩; have HTy := Aside0.mk (HTz.out.quiet hb); clear hb))
          all_goals
            go_wp2_with (fail)
            go_roundg k1
            case rel => exact ⟨i + 1, b', by go_num, by omega, HTy⟩
            case measure => omega
        · have k1_ : (kd == 1) = false := beq_eq_false_iff_ne.mpr h1
          have hl6 : b.L.length ≤ 1000000 := by omega
          by_cases h2 : kd = 2
          · have k2_ : (kd == 2) = true := beq_iff_eq.mpr h2
            clear h0 h1 h2
            go_upto_region 20 with (fail)
            have HTd := Aside0.mk (HT1.out.quiet ((Below.refl (wr.alloc (.cells #[.int .i64 kd, .int .i64 t] 50 (0, 0))).heap.size (wr.alloc (.cells #[.int .i64 kd, .int .i64 t] 50 (0, 0)))).drew))
            have HRd := Aside0.mk (HR1.out.keep (below_keep ((Below.refl (wr.alloc (.cells #[.int .i64 kd, .int .i64 t] 50 (0, 0))).heap.size (wr.alloc (.cells #[.int .i64 kd, .int .i64 t] 50 (0, 0)))).drew)) (fun q => q) (fun _ _ q => q))
            have Od := Aside0.mk (show (wr.alloc (.cells #[.int .i64 kd, .int .i64 t] 50 (0, 0))).drew.heap[wr.heap.size]? = _ from O1.out)
            have p1 := blk_cell Od.out 1
            have r1 := blk_cell HRd.out.blk 1
            have r2 := blk_cell HRd.out.blk 2
            go_region_with (first
              | (go_at_call 27; (with_reducible refine (HTd.out.OpenA).mono ?_); rintro e w5 ⟨Aa, ca, rfl, hn, hb, ht5⟩; have HTa := Aside0.mk ht5; have NRa := Aside0.mk hn; have HR5 := Aside0.mk (HRd.out.keep (below_keep hb) (fun q => q) (fun _ _ q => q)); have s1 := blk_cell HR5.out.blk 1; have s2 := blk_cell HR5.out.blk 2; clear hn hb ht5)
              | (go_at_call 19; (with_reducible refine (same_is hl6 NRa.out.C (Kd.R_reads' HR5.out.row).2.2).mono ?_); rintro e w7 ⟨rfl, hb⟩; have HTy := Aside0.mk (HTa.out.quiet hb); have HR7 := Aside0.mk (HR5.out.keep (below_keep hb) (fun q => q) (fun _ _ q => q)); have u1 := blk_cell HR7.out.blk 1; have u2 := blk_cell HR7.out.blk 2; clear hb))
            all_goals
              go_wp2_with (fail)
              go_roundg k1
              case rel => exact ⟨i + 1, b, by go_num, by omega, HTy⟩
              case measure => omega
          · have k2_ : (kd == 2) = false := beq_eq_false_iff_ne.mpr h2
            by_cases h3 : kd = 3
            · have k3_ : (kd == 3) = true := beq_iff_eq.mpr h3
              have ebb : (b.bound == b.bound) = true := by simp
              clear h0 h1 h2 h3
              go_upto_region 22 with (fail)
              have HTd := Aside0.mk (HT1.out.quiet ((Below.refl (wr.alloc (.cells #[.int .i64 kd, .int .i64 t] 50 (0, 0))).heap.size (wr.alloc (.cells #[.int .i64 kd, .int .i64 t] 50 (0, 0)))).drew))
              have HRd := Aside0.mk (HR1.out.keep (below_keep ((Below.refl (wr.alloc (.cells #[.int .i64 kd, .int .i64 t] 50 (0, 0))).heap.size (wr.alloc (.cells #[.int .i64 kd, .int .i64 t] 50 (0, 0)))).drew)) (fun q => q) (fun _ _ q => q))
              have Od := Aside0.mk (show (wr.alloc (.cells #[.int .i64 kd, .int .i64 t] 50 (0, 0))).drew.heap[wr.heap.size]? = _ from O1.out)
              have p1 := blk_cell Od.out 1
              have r1 := blk_cell HRd.out.blk 1
              have r2 := blk_cell HRd.out.blk 2
              go_region_with (first
                | (go_at_call 28; (with_reducible refine (book_Closed HTd.out.a).mono ?_); rintro e w' ⟨rfl, rfl⟩))
              all_goals
                go_wp2_with (fail)
                go_roundg k1
                case rel => exact ⟨i + 1, b, by go_num, by omega, HTd⟩
                case measure => omega
            · have k3_ : (kd == 3) = false := beq_eq_false_iff_ne.mpr h3
              clear h0 h1 h2 h3
              go_wp2_with (fail)
              go_roundg k1
              case rel => exact ⟨i + 1, b, by go_num, by omega, HT1⟩
              case measure => omega
theorem law_WindowPlays (w : World) {wd : Int} {S0 : Option Addr} {c0 : Nat} {os : List OpW} (hS : Kd.C kOpW w S0 os.length os) (hos : ∀ o ∈ os, in64 o.t) :
    Calls Try.prog 12 #[.int .i64 wd, .slice S0 os.length c0] w fun e w' => e = .returned (.bool true) ∧ Below w.heap.size w w' := by
  by_cases hw : 1 ≤ wd ∧ wd ≤ 1048576
  · exact law_Plays_ok w hw hS hos
  · exact law_Plays_bad w hw S0 _ c0
end Go.Proofs.Ytoakooebmnjkhaa.Q
