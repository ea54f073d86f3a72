import Derived.Test.YtoakooebmnjkhaaLPlays
namespace Go.Proofs.Ytoakooebmnjkhaa.Q
open Go.RowKit Go.Proofs.YtoakooebmnjkhaaW.PrintWords Go.Proofs.YtoakooebmnjkhaaW.PrintLast Go.Proofs.YtoakooebmnjkhaaW.PrintMore Go.Proofs.YtoakooebmnjkhaaV
set_option linter.unusedVariables false
set_option linter.unusedSimpArgs false

/-- What holds of a book, of what was put in and of what was told. -/
structure OnceI (b : BkS) (put told : List Int) : Prop where
  rise : Rise told
  le : ∀ x ∈ told, x ≤ b.bound
  a : ∀ x ∈ put, x ∈ b.L ∨ x ∈ told
  c : ∀ x ∈ b.L, x ∈ put
  d : ∀ x ∈ told, x ∈ put
  len : told.length + b.L.length ≤ put.length
theorem OnceI.start (b : BkS) (h : b.L = []) : OnceI b [] [] := ⟨List.Pairwise.nil, fun x hx => absurd hx List.not_mem_nil, fun x hx => absurd hx List.not_mem_nil, fun x hx => by rw [h] at hx; exact absurd hx List.not_mem_nil, fun x hx => absurd hx List.not_mem_nil, by rw [h]; exact Nat.le_refl _⟩
theorem putP_cases {b : BkS} {t x e : Int} {b' : BkS} (h : putP b t = (x, e, b')) : (e = 62 ∧ b' = b) ∨ (e = 3 ∧ b' = b) ∨ (e = 0 ∧ x = t / b.wd ∧ b.bound < x ∧ ((x ∈ b.L ∧ b' = b) ∨ (x ∉ b.L ∧ b' = { b with L := insG x b.L }))) := by
  unfold putP at h
  split at h
  · obtain ⟨rfl, h2⟩ := Prod.mk.inj h
    obtain ⟨rfl, rfl⟩ := Prod.mk.inj h2
    exact .inl ⟨rfl, rfl⟩
  · split at h
    · obtain ⟨rfl, h2⟩ := Prod.mk.inj h
      obtain ⟨rfl, rfl⟩ := Prod.mk.inj h2
      exact .inr (.inr ⟨rfl, rfl, by omega, .inl ⟨by assumption, rfl⟩⟩)
    · split at h
      · obtain ⟨rfl, h2⟩ := Prod.mk.inj h
        obtain ⟨rfl, rfl⟩ := Prod.mk.inj h2
        exact .inr (.inl ⟨rfl, rfl⟩)
      · obtain ⟨rfl, h2⟩ := Prod.mk.inj h
        obtain ⟨rfl, rfl⟩ := Prod.mk.inj h2
        exact .inr (.inr ⟨rfl, rfl, by omega, .inr ⟨by assumption, rfl⟩⟩)
theorem OnceI.put {b b' : BkS} {put told : List Int} (h : OnceI b put told) {t x : Int} (hp : putP b t = (x, 0, b')) : OnceI b' (put ++ [x]) told ∧ ∀ y ∈ told, y < x := by
  rcases putP_cases hp with ⟨q, -⟩ | ⟨q, -⟩ | ⟨-, -, hb, hr⟩
  · cases q
  · cases q
  · have hlt : ∀ y ∈ told, y < x := fun y hy => by have := h.le y hy; omega
    rcases hr with ⟨hm, rfl⟩ | ⟨hm, rfl⟩
    · refine ⟨⟨h.rise, h.le, fun y hy => ?_, fun y hy => List.mem_append.2 (.inl (h.c y hy)), fun y hy => List.mem_append.2 (.inl (h.d y hy)), by rw [List.length_append]; have := h.len; omega⟩, hlt⟩
      rcases List.mem_append.1 hy with hy | hy
      · exact h.a y hy
      · rw [List.mem_singleton] at hy
        subst hy
        exact .inl hm
    · refine ⟨⟨h.rise, h.le, fun y hy => ?_, fun y hy => ?_, fun y hy => List.mem_append.2 (.inl (h.d y hy)), ?_⟩, hlt⟩
      · rcases List.mem_append.1 hy with hy | hy
        · exact (h.a y hy).imp (fun q => mem_insG.2 (.inr q)) id
        · rw [List.mem_singleton] at hy
          exact .inl (mem_insG.2 (.inl hy))
      · rcases mem_insG.1 hy with hy | hy
        · exact List.mem_append.2 (.inr (by rw [List.mem_singleton]; exact hy))
        · exact List.mem_append.2 (.inl (h.c y hy))
      · show told.length + (insG x b.L).length ≤ _
        rw [length_insG, List.length_append, List.length_singleton]
        have := h.len
        omega
theorem OnceI.close {b b' : BkS} {put told : List Int} (h : OnceI b put told) (ok : BkOk b) {m : Int} {l : List Int} (hc : closeP b m = (l, b')) : OnceI b' put (told ++ l) := by
  unfold closeP at hc
  split at hc
  · obtain ⟨rfl, rfl⟩ := Prod.mk.inj hc
    rw [List.append_nil]
    exact h
  · split at hc
    · obtain ⟨rfl, rfl⟩ := Prod.mk.inj hc
      rw [List.append_nil]
      exact h
    · rename_i h1 h2
      obtain ⟨rfl, rfl⟩ := Prod.mk.inj hc
      refine ⟨?_, fun x hx => ?_, fun x hx => ?_, fun x hx => h.c x (List.mem_filter.1 hx).1, fun x hx => ?_, ?_⟩
      · refine List.pairwise_append.2 ⟨h.rise, ok.rise.filter _, fun x hx y hy => ?_⟩
        have := h.le x hx
        have := ok.above y (List.mem_filter.1 hy).1
        omega
      · show x ≤ m / b.wd - 1
        rcases List.mem_append.1 hx with hx | hx
        · have := h.le x hx
          omega
        · exact of_decide_eq_true (List.mem_filter.1 hx).2
      · rcases h.a x hx with q | q
        · by_cases hq : x ≤ m / b.wd - 1
          · exact .inr (List.mem_append.2 (.inr (List.mem_filter.2 ⟨q, decide_eq_true hq⟩)))
          · exact .inl (List.mem_filter.2 ⟨q, decide_eq_true (by omega)⟩)
        · exact .inr (List.mem_append.2 (.inl q))
      · rcases List.mem_append.1 hx with hx | hx
        · exact h.d x hx
        · exact h.c x (List.mem_filter.1 hx).1
      · show (told ++ b.L.filter _).length + (b.L.filter _).length ≤ _
        have e : ∀ L : List Int, (L.filter (fun x => decide (x ≤ m / b.wd - 1))).length + (L.filter (fun x => decide (m / b.wd - 1 < x))).length = L.length := by
          intro L
          induction L with
          | nil => rfl
          | cons a t ih =>
            by_cases q : a ≤ m / b.wd - 1
            · rw [List.filter_cons_of_pos (by simpa using q), List.filter_cons_of_neg (by simp; omega)]
              simp only [List.length_cons]
              omega
            · rw [List.filter_cons_of_neg (by simpa using q), List.filter_cons_of_pos (by simp; omega)]
              simp only [List.length_cons]
              omega
        have := e b.L
        have := h.len
        rw [List.length_append]
        omega
theorem rise_last {t : List Int} {x y : Int} {r : List Int} (h : Rise ((t ++ [x]) ++ y :: r)) : x < y := by
  rw [List.append_assoc] at h
  have := (List.pairwise_append.1 h).2.1
  exact (List.pairwise_cons.1 this).1 y (List.mem_cons_self ..)
theorem BkAt.grown {w w' : World} {gb gm : Nat} {b : BkS} (h : BkAt w gb gm b) {base : Nat} {ok : Nat → Prop} {v : Value} {l : List Int} (hR : Kd.R (Kd.int .i64) 2 w base ok v l) (hk : Keep w w' (fun k => some k = v.ownBlock)) : BkAt w' gb gm b := by
  refine h.keep hk (fun e => ?_) (fun e => ?_)
  · obtain ⟨cs, fr, h1⟩ := R_typed hR _ e.symm
    exact ne_typed h1 h.blk (by decide) rfl
  · obtain ⟨cs, fr, h1⟩ := R_typed hR _ e.symm
    obtain ⟨D, ⟨es, clock, hb, -⟩, -⟩ := h.map
    rw [hb] at h1
    cases h1
theorem row_book {w w' : World} {gb gm : Nat} {b : BkS} (h : BkAt w gb gm b) {base : Nat} {ok : Nat → Prop} {v : Value} {l : List Int} (hR : Kd.R (Kd.int .i64) 2 w base ok v l) (hk : Keep w w' (fun k => k = gb ∨ k = gm)) : Kd.R (Kd.int .i64) 2 w' base ok v l := by
  refine R_keep hR hk (fun k e q => ?_)
  obtain ⟨cs, fr, h1⟩ := R_typed hR k e
  rcases q with rfl | rfl
  · exact ne_typed h1 h.blk (by decide) rfl
  · obtain ⟨D, ⟨es, clock, hb, -⟩, -⟩ := h.map
    rw [hb] at h1
    cases h1
/-- Two rows are not one. -/
def Apart (v u : Value) : Prop := ∀ k, v.ownBlock = some k → u.ownBlock ≠ some k
theorem Apart.symm {v u : Value} (h : Apart v u) : Apart u v := fun k e q => h k q e
theorem Apart.append {w : World} {base : Nat} {ok : Nat → Prop} {v v5 u : Value} {l : List Int} (h : Apart v u) (hu : Kd.R (Kd.int .i64) 2 w base ok u l) (hat : v5.ownBlock = v.ownBlock ∨ ∃ b, v5.ownBlock = some b ∧ w.heap.size ≤ b) : Apart v5 u := by
  intro k e q
  rcases hat with h1 | ⟨z, h1, hz⟩
  · exact h k (h1.symm.trans e) q
  · have := R_lt' hu k q
    rw [h1] at e
    injection e with e
    omega
theorem Apart.fresh {w w' : World} {base : Nat} {ok ok' : Nat → Prop} {v u : Value} {l l' : List Int} (hv : Kd.R (Kd.int .i64) 2 w' w.heap.size ok v l) (hu : Kd.R (Kd.int .i64) 2 w base ok' u l') : Apart v u := by
  intro k e q
  have := own_base (Kd.own_of_R hv) k e
  have := R_lt' hu k q
  omega
theorem at_last {w : World} {A : Option Addr} {t : List Int} {x : Int} (hC : Kd.C (Kd.int .i64) w A (t ++ [x]).length (t ++ [x])) : ∃ ad, A = some ad ∧ w.cell? (ad.add t.length) = some (.int .i64 x) := by
  obtain ⟨ad, hA, q1⟩ := ReadsOf.at_ (Kd.reads_of_C (enc := Value.int .i64) (d := (0 : Int)) (h1 := fun _ => rfl) hC) (t.length : Int) (by omega) (by rw [List.length_append, List.length_singleton]; omega)
  refine ⟨ad, hA, ?_⟩
  rw [Int.toNat_natCast, show rdOf 0 (t ++ [x]) (t.length : Int) = x by unfold rdOf; rw [Int.toNat_natCast, List.getD_eq_getElem?_getD, List.getElem?_append_right (Nat.le_refl _)]; simp] at q1
  exact q1
theorem at_i {w : World} {A : Option Addr} {l : List Int} {n i : Nat} {y : Int} (hC : Kd.C (Kd.int .i64) w A n l) (hy : l[i]? = some y) : ∃ ad, A = some ad ∧ w.cell? (ad.add i) = some (.int .i64 y) := by
  have hn : l.length = n := hC.1
  have hi := (List.getElem?_eq_some_iff.1 hy).1
  obtain ⟨ad, hA, q1⟩ := ReadsOf.at_ (Kd.reads_of_C (enc := Value.int .i64) (d := (0 : Int)) (h1 := fun _ => rfl) hC) (i : Int) (by omega) (by omega)
  refine ⟨ad, hA, ?_⟩
  rw [Int.toNat_natCast, show rdOf 0 l (i : Int) = y by unfold rdOf; rw [Int.toNat_natCast, List.getD_eq_getElem?_getD, hy]; rfl] at q1
  exact q1
set_option maxHeartbeats 1600000 in
theorem law_has {w : World} {A : Option Addr} {c : Nat} {l : List Int} (hl : l.length ≤ 140737488355328) (hC : Kd.C (Kd.int .i64) w A l.length l) (id : Int) {q : Bool} (hq : decide (id ∈ l) = q) :
    Calls Try.prog 30 #[.slice A l.length c, .int .i64 id] w fun e w' => e = .returned (.bool q) ∧ w = w' := by
  have HC := Aside0.mk hC
  have HQ := Aside0.mk hq
  clear hC hq
  go_enter Try.func30, Try.ntmps30
  go_wp2
  go_loopg [9] l.length (fun kq v9 w' => ∃ i : Nat, v9 = .int .i64 i ∧ i + kq = l.length ∧ Aside0 (id ∉ l.take i) ∧ w' = w)
  case atStart => exact ⟨0, rfl, by omega, ⟨by simp⟩, rfl⟩
  case round =>
    obtain ⟨i, rfl, hik, HN, rfl⟩ := hrel
    cases gk with
    | zero =>
      have d1 : decide (i < l.length) = false := decide_eq_false (by omega)
      have HF := Aside0.mk (show q = false by rw [← HQ.out]; have := HN.out; rw [List.take_of_length_le (by omega)] at this; exact decide_eq_false this)
      go_wp2
      go_ret
      rw [HF.out]
      exact ⟨rfl, rfl⟩
    | succ k1 =>
      have hlt : i < l.length := by omega
      have d1 : decide (i < l.length) = true := decide_eq_true hlt
      obtain ⟨x, hx⟩ : ∃ x, l[i]? = some x := ⟨l[i], List.getElem?_eq_getElem hlt⟩
      obtain ⟨ad, hA, q1⟩ := at_i HC.out hx
      subst hA
      have htk : l.take (i + 1) = l.take i ++ [x] := by rw [List.take_add_one, hx]; rfl
      by_cases he : x = id
      · have e1 : (x == id) = true := beq_iff_eq.mpr he
        have HT := Aside0.mk (show q = true by rw [← HQ.out]; exact decide_eq_true (by rw [← he]; exact List.mem_of_getElem? hx))
        clear he hx htk
        go_wp2
        go_ret
        rw [HT.out]
        exact ⟨rfl, rfl⟩
      · have e1 : (x == id) = false := beq_eq_false_iff_ne.mpr he
        have HN2 := Aside0.mk (show id ∉ l.take (i + 1) by rw [htk, List.mem_append, List.mem_singleton]; rintro (q | q); exact HN.out q; exact he q.symm)
        clear he hx htk HN
        go_wp2
        go_roundg k1
        case rel => exact ⟨i + 1, by go_num, by omega, HN2, rfl⟩
        case measure => omega
set_option maxHeartbeats 1600000 in
set_option maxRecDepth 4000 in
theorem law_Once_bad (w : World) {wd : Int} (hw : ¬ (1 ≤ wd ∧ wd ≤ 1048576)) (S0 : Option Addr) (n0 c0 : Nat) :
    Calls Try.prog 11 #[.int .i64 wd, .slice S0 n0 c0] w fun e w' => e = .returned (.bool true) ∧ Below w.heap.size w w' := by
  have HN := Aside0.mk (fun W => win_New_bad hw W)
  have hh : decide (wd < 1) = true ∨ (decide (wd < 1) = false ∧ decide (1048576 < wd) = true) := by
    simp only [decide_eq_true_eq, decide_eq_false_iff_not]
    omega
  clear hw
  rcases hh with d1 | ⟨d1, d2⟩
  all_goals
    go_enter Try.func11, Try.ntmps11
    go_wp2_with (first
      | (go_at_call 29; (with_reducible refine (HN.out _).mono ?_); rintro e w' ⟨rfl, rfl⟩))
    go_ret
    exact ⟨rfl, Below.refl _ _⟩
/-- The book and the two lists. -/
structure On (w0 w : World) (gb gm : Nat) (b : BkS) (vp : Value) (put : List Int) (vt : Value) (told : List Int) : Prop where
  bk : BkAt w gb gm b
  rp : Kd.R (Kd.int .i64) 2 w w0.heap.size (fun _ => True) vp put
  rt : Kd.R (Kd.int .i64) 2 w w0.heap.size (fun _ => True) vt told
  ap : Apart vp vt
  bel : Below w0.heap.size w0 w
  lo : w0.heap.size ≤ gb ∧ w0.heap.size ≤ gm
theorem On.book {w0 w w' : World} {gb gm : Nat} {b b' : BkS} {vp vt : Value} {put told : List Int} (h : On w0 w gb gm b vp put vt told) (hb : BkAt w' gb gm b') (hk : Keep w w' (fun k => k = gb ∨ k = gm)) : On w0 w' gb gm b' vp put vt told :=
  ⟨hb, row_book h.bk h.rp hk, row_book h.bk h.rt hk, h.ap, h.bel.trans (hk.below h.bel.size (fun k q => by have := h.lo; omega)), h.lo⟩
theorem On.quiet {w0 w w' : World} {gb gm : Nat} {b : BkS} {vp vt : Value} {put told : List Int} (h : On w0 w gb gm b vp put vt told) (hb : Below w.heap.size w w') : On w0 w' gb gm b vp put vt told :=
  ⟨h.bk.quiet (below_keep hb), R_keep h.rp (below_keep hb) (fun _ _ q => q), R_keep h.rt (below_keep hb) (fun _ _ q => q), h.ap, hop h.bel hb, h.lo⟩
theorem On.putOn {w0 w w5 : World} {gb gm : Nat} {b : BkS} {vp vt v5 : Value} {put told p5 : List Int} (h : On w0 w gb gm b vp put vt told) (ho : Kd.R (Kd.int .i64) 2 w5 w0.heap.size (fun _ => True) v5 p5) (hb : Below w0.heap.size w w5) (hg : w.grownBy w5 vp.ownBlock) (hat : v5.ownBlock = vp.ownBlock ∨ ∃ b, v5.ownBlock = some b ∧ w.heap.size ≤ b) : On w0 w5 gb gm b v5 p5 vt told :=
  ⟨h.bk.grown h.rp (grown_k hg), ho, R_keep h.rt (grown_k hg) (fun k e q => h.ap k q.symm e), h.ap.append h.rt hat, h.bel.trans hb, h.lo⟩
theorem On.toldOn {w0 w w5 : World} {gb gm : Nat} {b : BkS} {vp vt v5 : Value} {put told p5 : List Int} (h : On w0 w gb gm b vp put vt told) (ho : Kd.R (Kd.int .i64) 2 w5 w0.heap.size (fun _ => True) v5 p5) (hb : Below w0.heap.size w w5) (hg : w.grownBy w5 vt.ownBlock) (hat : v5.ownBlock = vt.ownBlock ∨ ∃ b, v5.ownBlock = some b ∧ w.heap.size ≤ b) : On w0 w5 gb gm b vp put v5 p5 :=
  ⟨h.bk.grown h.rt (grown_k hg), R_keep h.rp (grown_k hg) (fun k e q => h.ap k e q.symm), ho, (h.ap.symm.append h.rp hat).symm, h.bel.trans hb, h.lo⟩

set_option maxHeartbeats 25600000 in
set_option maxRecDepth 4000 in
theorem law_Once_ok (w : World) {wd : Int} (hw : 1 ≤ wd ∧ wd ≤ 1048576) {S0 : Option Addr} {c0 : Nat} {os : List OpW} (hS : Kd.C kOpW w S0 os.length os) (hos : ∀ o ∈ os, in64 o.t) (h16 : os.length ≤ 17592186044416) :
    Calls Try.prog 11 #[.int .i64 wd, .slice S0 os.length c0] w fun e w' => e = .returned (.bool true) ∧ Below w.heap.size w w' := by
  have HN := Aside0.mk (win_New_ok hw w)
  have HS := Aside0.mk hS
  have HOS := Aside0.mk hos
  have HW := Aside0.mk hw
  have d1 : decide (wd < 1) = false := decide_eq_false (by omega)
  have d2 : decide (1048576 < wd) = false := decide_eq_false (by omega)
  clear hw hS hos
  go_enter Try.func11, Try.ntmps11
  go_wp2_with (first
    | (go_at_call 29; (with_reducible refine (HN.out).mono ?_); rintro e w1 ⟨rfl, hbk, hb⟩; have HBK := Aside0.mk hbk; have HB1 := Aside0.mk hb; clear hbk hb))
  obtain ⟨gb, hgb⟩ : ∃ x, x = w.heap.size + 1 := ⟨_, rfl⟩
  obtain ⟨gm, hgm⟩ : ∃ x, x = w.heap.size := ⟨_, rfl⟩
  have hb1 := HBK.out
  have HON := Aside0.mk (show On w w1 gb gm ⟨wd, -9223372036854775808, []⟩ (.slice none 0 0) [] (.slice none 0 0) [] from ⟨by rw [hgb, hgm]; exact hb1, Kd.R_nil _ _ _ _ _, Kd.R_nil _ _ _ _ _, fun k e => by simp [Value.ownBlock] at e, HB1.out, by omega⟩)
  rw [← hgb]
  clear hb1 HBK HB1 HN hgb hgm d1 d2
  go_loopg [7, 8, 9] os.length (fun kq v7 v8 v9 w' => ∃ (i : Nat) (b : BkS) (put told : List Int) (Ap At : Option Addr) (cp ct : Nat), v7 = .slice Ap put.length cp ∧ v8 = .slice At told.length ct ∧ v9 = .int .i64 i ∧ i + kq = os.length ∧ put.length ≤ i ∧ Aside0 (On w w' gb gm b (.slice Ap put.length cp) put (.slice At told.length ct) told) ∧ Aside0 (OnceI b put told) ∧ Aside0 (b.wd = wd))
  case atStart => exact ⟨0, _, [], [], none, none, 0, 0, rfl, rfl, rfl, by omega, Nat.le_refl _, HON, ⟨OnceI.start _ rfl⟩, ⟨rfl⟩⟩
  case round =>
    clear HON
    obtain ⟨i, b, put, told, Ap, At, cp, ct, rfl, rfl, rfl, hik, hpl, HON, HI, HWD⟩ := hrel
    have htl : told.length ≤ put.length := by have := HI.out.len; omega
    cases gk with
    | zero =>
      have d1 : decide (i < os.length) = false := decide_eq_false (by omega)
      go_wp2_with (first
        | (go_at_call 27; (with_reducible refine (book_Open HON.out.bk).mono ?_); rintro e w5 ⟨Ao, co, rfl, hn, hb⟩; have HON5 := Aside0.mk (HON.out.quiet hb); have HOP := Aside0.mk hn; clear hn hb))
      have hbl := HON.out.bk.ok.len
      have HCo := Aside0.mk (Kd.R_reads' HOP.out).2.2
      have HCp := Aside0.mk (Kd.R_reads' HON5.out.rp).2.2
      have HCt := Aside0.mk (Kd.R_reads' HON5.out.rt).2.2
      clear HON HOP
      go_loopg [156] put.length (fun kq v156 w' => ∃ j : Nat, v156 = .int .i64 j ∧ j + kq = put.length ∧ w' = w5)
      case atStart => exact ⟨0, rfl, by omega, rfl⟩
      case round =>
        obtain ⟨j, rfl, hjk, rfl⟩ := hrel
        cases gk with
        | zero =>
          have d4 : decide (j < put.length) = false := decide_eq_false (by omega)
          go_wp2_with (fail)
          go_loopg [170] told.length (fun kq v170 w' => ∃ j : Nat, v170 = .int .i64 j ∧ j + kq = told.length ∧ w' = wr)
          case atStart => exact ⟨0, rfl, by omega, rfl⟩
          case round =>
            obtain ⟨j2, rfl, hjk2, rfl⟩ := hrel
            cases gk with
            | zero =>
              have d5 : decide (j2 < told.length) = false := decide_eq_false (by omega)
              obtain ⟨x, er, b', hp⟩ : ∃ x er b', putP b 4611686018427387903 = (x, er, b') := ⟨_, _, _, rfl⟩
              have HP := Aside0.mk hp
              have hin : in64 4611686018427387903 := by unfold in64; omega
              rcases putP_cases hp with ⟨rfl, -⟩ | ⟨rfl, -⟩ | ⟨rfl, hx, -, -⟩
              · clear hp
                go_wp2_with (first
                  | (go_at_call 25; (with_reducible refine (book_Put HON5.out.bk 4611686018427387903 hin HP.out).mono ?_); rintro e w6 ⟨rfl, hb6, hk6⟩; have HON6 := Aside0.mk (HON5.out.book hb6 (hk6.mono (fun k _ q => .inr q))); clear hb6 hk6))
                go_ret
                exact ⟨rfl, HON6.out.bel⟩
              · clear hp
                go_wp2_with (first
                  | (go_at_call 25; (with_reducible refine (book_Put HON5.out.bk 4611686018427387903 hin HP.out).mono ?_); rintro e w6 ⟨rfl, hb6, hk6⟩; have HON6 := Aside0.mk (HON5.out.book hb6 (hk6.mono (fun k _ q => .inr q))); clear hb6 hk6))
                go_ret
                exact ⟨rfl, HON6.out.bel⟩
              · have dx : decide (0 < x) = true := decide_eq_true (by
                  rw [hx, HWD.out]
                  have := HW.out
                  exact (Int.le_ediv_iff_mul_le (show (0 : Int) < wd by omega)).2 (by omega))
                clear hp hx
                go_wp2_with (first
                  | (go_at_call 25; (with_reducible refine (book_Put HON5.out.bk 4611686018427387903 hin HP.out).mono ?_); rintro e w6 ⟨rfl, hb6, hk6⟩; have HON6 := Aside0.mk (HON5.out.book hb6 (hk6.mono (fun k _ q => .inr q))); clear hb6 hk6))
                go_ret
                exact ⟨rfl, HON6.out.bel⟩
            | succ k3 =>
              have hlt3 : j2 < told.length := by omega
              have d5 : decide (j2 < told.length) = true := decide_eq_true hlt3
              obtain ⟨y, hy⟩ : ∃ y, told[j2]? = some y := ⟨told[j2], List.getElem?_eq_getElem hlt3⟩
              obtain ⟨td, hAt, q1⟩ := at_i HCt.out hy
              have hm : decide (y ∈ put) = true := decide_eq_true (HI.out.d y (List.mem_of_getElem? hy))
              subst hAt
              clear hy
              go_wp2_with (first
                | (go_at_call 30; (with_reducible refine (law_has (l := put) (by omega) HCp.out _ hm).mono ?_); rintro e w' ⟨rfl, rfl⟩))
              go_roundg k3
              case rel => exact ⟨j2 + 1, by go_num, by omega, rfl⟩
              case measure => omega
        | succ k3 =>
          have hlt3 : j < put.length := by omega
          have d4 : decide (j < put.length) = true := decide_eq_true hlt3
          obtain ⟨y, hy⟩ : ∃ y, put[j]? = some y := ⟨put[j], List.getElem?_eq_getElem hlt3⟩
          obtain ⟨pd, hAp, q1⟩ := at_i HCp.out hy
          have ha := HI.out.a y (List.mem_of_getElem? hy)
          have hdis : ¬ (y ∈ b.L ∧ y ∈ told) := by
            rintro ⟨u1, u2⟩
            have := HON5.out.bk.ok.above y u1
            have := HI.out.le y u2
            omega
          subst hAp
          clear hy
          by_cases hyl : y ∈ b.L
          · have m1 : decide (y ∈ b.L) = true := decide_eq_true hyl
            have m2 : decide (y ∈ told) = false := decide_eq_false (fun q => hdis ⟨hyl, q⟩)
            clear ha hdis hyl
            go_wp2_with (first
              | (go_at_call 30; (with_reducible refine (law_has (l := b.L) (by omega) HCo.out _ m1).mono ?_); rintro e w' ⟨rfl, rfl⟩)
              | (go_at_call 30; (with_reducible refine (law_has (l := told) (by omega) HCt.out _ m2).mono ?_); rintro e w' ⟨rfl, rfl⟩))
            go_roundg k3
            case rel => exact ⟨j + 1, by go_num, by omega, rfl⟩
            case measure => omega
          · have m1 : decide (y ∈ b.L) = false := decide_eq_false hyl
            have m2 : decide (y ∈ told) = true := decide_eq_true (ha.resolve_left hyl)
            clear ha hdis hyl
            go_wp2_with (first
              | (go_at_call 30; (with_reducible refine (law_has (l := b.L) (by omega) HCo.out _ m1).mono ?_); rintro e w' ⟨rfl, rfl⟩)
              | (go_at_call 30; (with_reducible refine (law_has (l := told) (by omega) HCt.out _ m2).mono ?_); rintro e w' ⟨rfl, rfl⟩))
            go_roundg k3
            case rel => exact ⟨j + 1, by go_num, by omega, rfl⟩
            case measure => omega
    | succ k1 =>
      have hlt : i < os.length := by omega
      have d1 : decide (i < os.length) = true := decide_eq_true hlt
      obtain ⟨o, ho⟩ : ∃ o, os[i]? = some o := ⟨os[i], List.getElem?_eq_getElem hlt⟩
      have hov := HOS.out o (List.mem_of_getElem? ho)
      have HAT := Aside0.mk (fun (W : World) (h : Below w.heap.size w W) => at_OpW (Kd.C_below HS.out h) i o ho)
      obtain ⟨ad, rfl, x0, x1⟩ := HAT.out wr HON.out.bel
      obtain ⟨kd, t⟩ := o
      have HV := Aside0.mk (show in64 t from hov)
      clear ho hov
      by_cases h0 : kd = 0
      · have k0_ : (kd == 0) = true := beq_iff_eq.mpr h0
        have k1_ : (kd == 1) = false := beq_eq_false_iff_ne.mpr (by omega)
        obtain ⟨x, er, b', hp⟩ : ∃ x er b', putP b t = (x, er, b') := ⟨_, _, _, rfl⟩
        have HP := Aside0.mk hp
        have HWD2 := Aside0.mk (show b'.wd = wd by rcases putP_cases hp with ⟨-, q⟩ | ⟨-, q⟩ | ⟨-, -, -, ⟨-, q⟩ | ⟨-, q⟩⟩ <;> rw [q] <;> exact HWD.out)
        have HOF := Aside0.mk (fun W => win_Of t wd W HV.out HW.out)
        clear h0
        rcases putP_cases hp with ⟨rfl, hb⟩ | ⟨rfl, hb⟩ | ⟨rfl, hx, -, -⟩
        · subst hb
          clear hp
          go_wp2_with (first
            | (go_at_call 25; (with_reducible refine (book_Put HON.out.bk t HV.out HP.out).mono ?_); rintro e w5 ⟨rfl, hb5, hk5⟩; have HON5 := Aside0.mk (HON.out.book hb5 (hk5.mono (fun k _ q => .inr q))); obtain ⟨ad2, hA2, y0, y1⟩ := HAT.out w5 HON5.out.bel; injection hA2 with hA2; subst hA2; clear hb5 hk5)
            | (go_at_call 14; (with_reducible refine (HOF.out _).mono ?_); rintro e w' ⟨rfl, rfl⟩))
          go_roundg k1
          case rel => exact ⟨i + 1, b', put, told, Ap, At, cp, ct, rfl, rfl, by go_num, by omega, by omega, HON5, HI, HWD2⟩
          case measure => omega
        · subst hb
          clear hp
          go_wp2_with (first
            | (go_at_call 25; (with_reducible refine (book_Put HON.out.bk t HV.out HP.out).mono ?_); rintro e w5 ⟨rfl, hb5, hk5⟩; have HON5 := Aside0.mk (HON.out.book hb5 (hk5.mono (fun k _ q => .inr q))); obtain ⟨ad2, hA2, y0, y1⟩ := HAT.out w5 HON5.out.bel; injection hA2 with hA2; subst hA2; clear hb5 hk5)
            | (go_at_call 14; (with_reducible refine (HOF.out _).mono ?_); rintro e w' ⟨rfl, rfl⟩))
          go_roundg k1
          case rel => exact ⟨i + 1, b', put, told, Ap, At, cp, ct, rfl, rfl, by go_num, by omega, by omega, HON5, HI, HWD2⟩
          case measure => omega
        · have hx2 : x = t / wd := by rw [hx, HWD.out]
          rw [← hx2] at HOF
          have HI2 := Aside0.mk (HI.out.put hp)
          have exx : (x != x) = false := by simp
          clear hp hx hx2
          rcases List.eq_nil_or_concat told with hn | ⟨t', tl, hn⟩
          · have hn0 : told.length = 0 := by rw [hn]; rfl
            subst hn
            go_wp2_with (first
              | (go_at_call 25; (with_reducible refine (book_Put HON.out.bk t HV.out HP.out).mono ?_); rintro e w5 ⟨rfl, hb5, hk5⟩; have HON5 := Aside0.mk (HON.out.book hb5 (hk5.mono (fun k _ q => .inr q))); obtain ⟨ad2, hA2, y0, y1⟩ := HAT.out w5 HON5.out.bel; injection hA2 with hA2; subst hA2; clear hb5 hk5)
              | (go_at_call 14; (with_reducible refine (HOF.out _).mono ?_); rintro e w' ⟨rfl, rfl⟩)
              | ((with_reducible refine gate_builtin (b := .append) (xs := #[.tmp 112, .tmp 114]) rfl ?_); at_builtin; refine Kd.R_append (Kd.int .i64) (w0 := w5) w.heap.size rfl (.tmp 112) (.tmp 114) 30 2 (.int .i64 0) 8 rfl Try.underlying30 info64 rfl (by decide) (by omega) (.slice Ap put.length cp) (put) (x) [.int .i64 (x)] (fun _ => True) (fun _ => False) rfl rfl ?aP (fun _ hk => hk.elim) ?aF ?aO ?aB ?aS ?aL ?_; (case aP => exact rfl); (case aB => exact Below.refl _ _); (case aF => exact (fun _ _ => trivial)); (case aO => exact HON5.out.rp); (case aS => exact HON5.out.bel.size); (case aL => omega); intro v5 w6_ ho hb hg hat; obtain ⟨A5, c5, ev⟩ := Kd.R_slice ho; subst ev; have HON6 := Aside0.mk (HON5.out.putOn ho hb hg hat); obtain ⟨ad3, hA3, z0, z1⟩ := HAT.out w6_ HON6.out.bel; injection hA3 with hA3; subst hA3; clear ho hb hg hat))
            go_roundg k1
            case rel => exact ⟨i + 1, b', put ++ [x], [], A5, At, c5, ct, by rw [List.length_append, List.length_singleton], rfl, by go_num, by omega, by rw [List.length_append, List.length_singleton]; omega, HON6, ⟨HI2.out.1⟩, HWD2⟩
            case measure => omega
          · rw [List.concat_eq_append] at hn
            have d5 : decide (x ≤ tl) = false := decide_eq_false (by have := HI2.out.2 tl (by rw [hn]; simp); omega)
            have ht6 : t'.length + 1 ≤ 17592186044416 := by rw [hn, List.length_append, List.length_singleton] at htl; omega
            subst hn
            go_wp2_with (first
              | (go_at_call 25; (with_reducible refine (book_Put HON.out.bk t HV.out HP.out).mono ?_); rintro e w5 ⟨rfl, hb5, hk5⟩; have HON5 := Aside0.mk (HON.out.book hb5 (hk5.mono (fun k _ q => .inr q))); obtain ⟨ad2, hA2, y0, y1⟩ := HAT.out w5 HON5.out.bel; injection hA2 with hA2; subst hA2; obtain ⟨td, hAt, zt⟩ := at_last (Kd.R_reads' HON5.out.rt).2.2; subst hAt; clear hb5 hk5)
              | (go_at_call 14; (with_reducible refine (HOF.out _).mono ?_); rintro e w' ⟨rfl, rfl⟩)
              | ((with_reducible refine gate_builtin (b := .append) (xs := #[.tmp 112, .tmp 114]) rfl ?_); at_builtin; refine Kd.R_append (Kd.int .i64) (w0 := w5) w.heap.size rfl (.tmp 112) (.tmp 114) 30 2 (.int .i64 0) 8 rfl Try.underlying30 info64 rfl (by decide) (by omega) (.slice Ap put.length cp) (put) (x) [.int .i64 (x)] (fun _ => True) (fun _ => False) rfl rfl ?aP (fun _ hk => hk.elim) ?aF ?aO ?aB ?aS ?aL ?_; (case aP => exact rfl); (case aB => exact Below.refl _ _); (case aF => exact (fun _ _ => trivial)); (case aO => exact HON5.out.rp); (case aS => exact HON5.out.bel.size); (case aL => omega); intro v5 w6_ ho hb hg hat; obtain ⟨A5, c5, ev⟩ := Kd.R_slice ho; subst ev; have HON6 := Aside0.mk (HON5.out.putOn ho hb hg hat); obtain ⟨ad3, hA3, z0, z1⟩ := HAT.out w6_ HON6.out.bel; injection hA3 with hA3; subst hA3; clear ho hb hg hat))
            go_roundg k1
            case rel => exact ⟨i + 1, b', put ++ [x], t' ++ [tl], A5, some td, c5, ct, by rw [List.length_append, List.length_singleton], by simp, by go_num, by omega, by rw [List.length_append, List.length_singleton]; omega, HON6, ⟨HI2.out.1⟩, HWD2⟩
            case measure => omega
      · have k0_ : (kd == 0) = false := beq_eq_false_iff_ne.mpr h0
        by_cases h1 : kd = 1
        · have k1_ : (kd == 1) = true := beq_iff_eq.mpr h1
          obtain ⟨l, b', hp⟩ : ∃ l b', closeP b t = (l, b') := ⟨_, _, rfl⟩
          have HP := Aside0.mk hp
          have HWD2 := Aside0.mk (show b'.wd = wd by unfold closeP at hp; split at hp; (obtain ⟨-, rfl⟩ := Prod.mk.inj hp; exact HWD.out); split at hp; (obtain ⟨-, rfl⟩ := Prod.mk.inj hp; exact HWD.out); (obtain ⟨-, rfl⟩ := Prod.mk.inj hp; exact HWD.out))
          have HI2 := Aside0.mk (HI.out.close HON.out.bk.ok hp)
          have htl2 : told.length + l.length ≤ put.length := by have := HI2.out.len; rw [List.length_append] at this; omega
          clear h0 h1 hp
          go_wp2_with (first
            | (go_at_call 26; (with_reducible refine (book_Close HON.out.bk t HV.out HP.out).mono ?_); rintro e w5 ⟨Al, cl, rfl, hn, hb5, hk5⟩; have HON5 := Aside0.mk (HON.out.book hb5 hk5); have HL := Aside0.mk (show Kd.R (Kd.int .i64) 2 w5 w.heap.size (fun _ => True) (.slice Al l.length cl) l from R_tight hn (fun k e => ⟨rfl, trivial, Nat.le_trans HON.out.bel.size (own_base (Kd.own_of_R hn) k e)⟩)); have HAL := Aside0.mk (Apart.fresh hn HON.out.rt); clear hn hb5 hk5))
          go_loopg [8, 130] l.length (fun kq v8 v130 w' => ∃ (k : Nat) (tk : List Int) (At : Option Addr) (ct : Nat), v8 = .slice At tk.length ct ∧ v130 = .int .i64 k ∧ k + kq = l.length ∧ Aside0 (tk.length = told.length + k) ∧ Aside0 (tk = told ++ l.take k) ∧ Aside0 (On w w' gb gm b' (.slice Ap put.length cp) put (.slice At tk.length ct) tk) ∧ Aside0 (Kd.R (Kd.int .i64) 2 w' w.heap.size (fun _ => True) (.slice Al l.length cl) l) ∧ Aside0 (Apart (.slice Al l.length cl) (.slice At tk.length ct)))
          case atStart => exact ⟨0, told, At, ct, rfl, rfl, by omega, ⟨rfl⟩, ⟨by simp⟩, HON5, HL, HAL⟩
          case round =>
            clear HON5 HL HAL HON HI HAT x0 x1
            obtain ⟨k, tk, At, ct, rfl, rfl, hkk, HLK, HTK0, HON, HL, HAL⟩ := hrel
            cases gk with
            | zero =>
              have d4 : decide (k < l.length) = false := decide_eq_false (by omega)
              have HI3 := Aside0.mk (show OnceI b' put tk by have := HTK0.out; rw [List.take_of_length_le (by omega)] at this; rw [this]; exact HI2.out)
              go_wp2_with (fail)
              go_roundg k1
              case rel => exact ⟨i + 1, b', put, tk, Ap, At, cp, ct, rfl, rfl, by go_num, by omega, by omega, HON, HI3, HWD2⟩
              case measure => omega
            | succ k2 =>
              have hlt2 : k < l.length := by omega
              have d4 : decide (k < l.length) = true := decide_eq_true hlt2
              obtain ⟨y, hy⟩ : ∃ y, l[k]? = some y := ⟨l[k], List.getElem?_eq_getElem hlt2⟩
              obtain ⟨ld, hAl, q1⟩ := at_i (Kd.R_reads' HL.out).2.2 hy
              subst hAl
              have HTK := Aside0.mk (show tk ++ [y] = told ++ l.take (k + 1) by rw [HTK0.out, List.take_add_one, hy, ← List.append_assoc]; rfl)
              have HRS := Aside0.mk (show Rise (tk ++ y :: l.drop (k + 1)) by
                have h9 := HI2.out.rise
                rw [← List.take_append_drop k l, List.drop_eq_getElem_cons hlt2, (List.getElem?_eq_some_iff.1 hy).2, ← List.append_assoc, ← HTK0.out] at h9
                exact h9)
              clear hy HTK0
              rcases List.eq_nil_or_concat tk with hn | ⟨t', tl, hn⟩
              · subst hn
                go_wp2_with (first
                  | ((with_reducible refine gate_builtin (b := .append) (xs := #[.tmp 147, .tmp 149]) rfl ?_); at_builtin; refine Kd.R_append (Kd.int .i64) (w0 := wr) w.heap.size rfl (.tmp 147) (.tmp 149) 30 2 (.int .i64 0) 8 rfl Try.underlying30 info64 rfl (by decide) (by omega) (.slice At ([] : List Int).length ct) (([] : List Int)) (y) [.int .i64 (y)] (fun _ => True) (fun _ => False) rfl rfl ?aP (fun _ hk => hk.elim) ?aF ?aO ?aB ?aS ?aL ?_; (case aP => exact rfl); (case aB => exact Below.refl _ _); (case aF => exact (fun _ _ => trivial)); (case aO => exact (by have h_ := HON.out.rt; first | exact h_ | (rwa [List.length_append, List.length_singleton] at h_))); (case aS => exact HON.out.bel.size); (case aL => have h9 := HLK.out; simp only [List.length_append, List.length_singleton, List.length_nil] at h9 ⊢; omega); intro v5 w5 ho hb hg hat; obtain ⟨A5, c5, ev⟩ := Kd.R_slice ho; subst ev; have HON6 := Aside0.mk (HON.out.toldOn ho hb hg hat); have HL6 := Aside0.mk (R_keep HL.out (grown_k hg) (fun k e q => HAL.out k e q.symm)); have HAL6 := Aside0.mk ((HAL.out.symm.append HL.out hat).symm); clear ho hb hg hat))
                go_roundg k2
                case rel => exact ⟨k + 1, ([] : List Int) ++ [y], A5, c5, by simp, by go_num, by omega, ⟨by have h9 := HLK.out; simp only [List.length_append, List.length_singleton, List.length_nil] at h9 ⊢; omega⟩, HTK, HON6, HL6, HAL6⟩
                case measure => omega
              · rw [List.concat_eq_append] at hn
                have ht6 : t'.length + 1 ≤ 17592186044416 := by have h9 := HLK.out; rw [hn, List.length_append, List.length_singleton] at h9; omega
                subst hn
                have d5 : decide (y ≤ tl) = false := decide_eq_false (by have := rise_last HRS.out; omega)
                obtain ⟨td, hAt, zt⟩ := at_last (Kd.R_reads' HON.out.rt).2.2
                subst hAt
                go_wp2_with (first
                  | ((with_reducible refine gate_builtin (b := .append) (xs := #[.tmp 147, .tmp 149]) rfl ?_); at_builtin; refine Kd.R_append (Kd.int .i64) (w0 := wr) w.heap.size rfl (.tmp 147) (.tmp 149) 30 2 (.int .i64 0) 8 rfl Try.underlying30 info64 rfl (by decide) (by omega) ((.slice (some td) (t' ++ [tl]).length ct)) ((t' ++ [tl])) (y) [.int .i64 (y)] (fun _ => True) (fun _ => False) rfl rfl ?aP (fun _ hk => hk.elim) ?aF ?aO ?aB ?aS ?aL ?_; (case aP => exact rfl); (case aB => exact Below.refl _ _); (case aF => exact (fun _ _ => trivial)); (case aO => exact (by have h_ := HON.out.rt; first | exact h_ | (rwa [List.length_append, List.length_singleton] at h_))); (case aS => exact HON.out.bel.size); (case aL => have h9 := HLK.out; simp only [List.length_append, List.length_singleton, List.length_nil] at h9 ⊢; omega); intro v5 w5 ho hb hg hat; obtain ⟨A5, c5, ev⟩ := Kd.R_slice ho; subst ev; have HON6 := Aside0.mk (HON.out.toldOn ho hb hg hat); have HL6 := Aside0.mk (R_keep HL.out (grown_k hg) (fun k e q => HAL.out k e q.symm)); have HAL6 := Aside0.mk ((HAL.out.symm.append HL.out hat).symm); clear ho hb hg hat))
                go_roundg k2
                case rel => exact ⟨k + 1, (t' ++ [tl]) ++ [y], A5, c5, by simp, by go_num, by omega, ⟨by have h9 := HLK.out; simp only [List.length_append, List.length_singleton, List.length_nil] at h9 ⊢; omega⟩, HTK, HON6, HL6, HAL6⟩
                case measure => omega
        · have k1_ : (kd == 1) = false := beq_eq_false_iff_ne.mpr h1
          clear h0 h1
          go_wp2_with (fail)
          go_roundg k1
          case rel => exact ⟨i + 1, b, put, told, Ap, At, cp, ct, rfl, rfl, by go_num, by omega, by omega, HON, HI, HWD⟩
          case measure => omega
theorem law_WindowOnce (w : World) {wd : Int} {S0 : Option Addr} {c0 : Nat} {os : List OpW} (hS : Kd.C kOpW w S0 os.length os) (hos : ∀ o ∈ os, in64 o.t) (h16 : os.length ≤ 17592186044416) :
    Calls Try.prog 11 #[.int .i64 wd, .slice S0 os.length c0] w fun e w' => e = .returned (.bool true) ∧ Below w.heap.size w w' := by
  by_cases hw : 1 ≤ wd ∧ wd ≤ 1048576
  · exact law_Once_ok w hw hS hos h16
  · exact law_Once_bad w hw S0 _ c0
end Go.Proofs.Ytoakooebmnjkhaa.Q
