import Derived.Test.YtoakooebmnjkhaaWBook
namespace Go.Proofs.Ytoakooebmnjkhaa.Q
open Go.RowKit Go.Proofs.YtoakooebmnjkhaaW.PrintWords Go.Proofs.YtoakooebmnjkhaaW.PrintLast Go.Proofs.YtoakooebmnjkhaaW.PrintMore Go.Proofs.YtoakooebmnjkhaaV
set_option linter.unusedVariables false
set_option linter.unusedSimpArgs false

theorem look64 {w : World} {gm : Nat} {L : List Int} (h : MapIs w gm L) {x : Int} (hx : in64 x) {q : Bool} (hq : decide (x ∈ L) = q) : (Instr.lookup 37 (.map (some gm)) (.int .i64 x) true).run Try.prog w = .ok (.tuple #[.agg #[], .bool q]) w := by
  obtain ⟨D, hown, hS⟩ := h
  obtain ⟨v, ps, hrun, hv⟩ := hown.look_ok k64 Try.underlying37 (Try.zeroValue60 w) unitElem_mk (key64 hx)
  obtain ⟨rfl, -⟩ := unitElem_inv hv
  rw [hrun, hS.has, hq]
theorem len64 {w : World} {gm : Nat} {L : List Int} (h : MapIs w gm L) (ty : TypeId) : (Builtin.len_ #[37] ty #[.map (some gm)]).run Try.prog w = .ok (.int .i64 (L.length : Int)) w := by
  obtain ⟨D, hown, hS⟩ := h
  rw [hown.len Try.underlying37 ty, hS.size]
theorem MapIs.tight {w : World} {gm n : Nat} {D : DataW Unit} {L : List Int} (h : w.ownsMap Try.prog 2 unitElem gm n D) (hS : SetIs D L) : MapIs w gm L := ⟨D, by rw [← hS.size]; exact owns_tight h, hS⟩

set_option maxHeartbeats 3200000 in
set_option maxRecDepth 4000 in
theorem book_Put {w : World} {gb gm : Nat} {b : BkS} (h : BkAt w gb gm b) (t : Int) (ht : in64 t) {x e : Int} {b' : BkS} (hp : putP b t = (x, e, b')) :
    Calls Try.prog 25 #[.pointer (some ⟨gb, 0, none⟩), .int .i64 t] w fun e1 w' => e1 = .returned (.tuple #[.int .i64 x, .int .i64 e]) ∧ BkAt w' gb gm b' ∧ Keep w w' (fun k => k = gm) := by
  have HM := Aside0.mk (book_made h)
  have HF := Aside0.mk (win_floor t b.wd w ht h.ok.wd.1)
  have HB := Aside0.mk h
  have c0 := blk_cell h.blk 0
  have c1 := blk_cell h.blk 1
  have c2 := blk_cell h.blk 2
  have hd := div_in64 ht h.ok.wd.1
  have hok := putP_ok h.ok ht
  rw [hp] at hok
  have HOK := Aside0.mk hok
  unfold putP at hp
  obtain ⟨q, hq⟩ : ∃ q, q = t / b.wd := ⟨_, rfl⟩
  rw [← hq] at HF hp hd
  have HD := Aside0.mk hd
  by_cases h1 : q ≤ b.bound
  · rw [if_pos h1] at hp
    obtain ⟨rfl, hp2⟩ := Prod.mk.inj hp
    obtain ⟨rfl, rfl⟩ := Prod.mk.inj hp2
    have d1 : decide (q ≤ b.bound) = true := decide_eq_true h1
    clear h hp hp2 hq hd hok h1
    go_enter Try.func25, Try.ntmps25
    go_wp2_with (first
      | (go_at_call 38; (with_reducible refine (HM.out).mono ?_); rintro e w' ⟨rfl, rfl⟩)
      | (go_at_call 35; (with_reducible refine (HF.out).mono ?_); rintro e w' ⟨rfl, rfl⟩))
    go_ret2
    exact ⟨rfl, HB.out, Keep.refl _ _⟩
  · rw [if_neg h1] at hp
    have d1 : decide (q ≤ b.bound) = false := decide_eq_false h1
    have hA : BkAt (w.alloc (.cells #[] 60 (0, 0))) gb gm b := h.quiet (below_keep (below_alloc (Below.refl w.heap.size w) (.cells #[] 60 (0, 0))))
    have HA := Aside0.mk hA
    have HKA := Aside0.mk ((Keep.refl w (fun k => k = gm)).alloc (.cells #[] 60 (0, 0)))
    have a1 := blk_cell hA.blk 1
    have hlen := len64 hA.map 3
    by_cases h2 : q ∈ b.L
    · rw [if_pos h2] at hp
      obtain ⟨rfl, hp2⟩ := Prod.mk.inj hp
      obtain ⟨rfl, rfl⟩ := Prod.mk.inj hp2
      have hlook := look64 h.map hd (decide_eq_true h2)
      have HMEM := Aside0.mk h2
      obtain ⟨D, hown, hS⟩ := hA.map
      have hle := h.ok.len
      have hmx : b.L.length < maxLen := by unfold maxLen; omega
      have hkey := key64 hd
      have HOWN := Aside0.mk hown
      have HSET := Aside0.mk hS
      clear h hA hp hp2 hq hd hok h1 h2 hown hS hle
      go_enter Try.func25, Try.ntmps25
      go_wp2_with (first
        | (go_at_call 38; (with_reducible refine (HM.out).mono ?_); rintro e w' ⟨rfl, rfl⟩)
        | (go_at_call 35; (with_reducible refine (HF.out).mono ?_); rintro e w' ⟨rfl, rfl⟩)
        | (refine wpList_mapUpdate_in _ rfl _ _ _ 37 rfl 2 60 k64 Try.underlying37 unitElem gm b.L.length D rfl HOWN.out hmx (.int .i64 q) (.agg #[]) (kI q) rfl rfl hkey (.agg []) [] unitElem_mk ?_; intro w1 hown1 hturn1; have HOWN1 := Aside0.mk hown1; have HT1 := Aside0.mk (turned_keep hturn1); clear hown1 hturn1))
      go_ret2
      exact ⟨rfl, ⟨(HT1.out.block gb (blk_lt HA.out.blk) HA.out.ne).trans HA.out.blk, MapIs.tight HOWN1.out (HSET.out.again HMEM.out _), HOK.out⟩, HKA.out.trans HT1.out (fun _ _ q => q) (fun _ _ q => q)⟩
    · rw [if_neg h2] at hp
      have hlook := look64 h.map hd (decide_eq_false h2)
      by_cases h3 : 4096 ≤ b.L.length
      · rw [if_pos h3] at hp
        obtain ⟨rfl, hp2⟩ := Prod.mk.inj hp
        obtain ⟨rfl, rfl⟩ := Prod.mk.inj hp2
        have d3 : decide ((4096 : Int) ≤ (b.L.length : Int)) = true := decide_eq_true (by omega)
        clear h hA hp hp2 hq hd hok h1 h2 h3
        go_enter Try.func25, Try.ntmps25
        go_wp2_with (first
          | (go_at_call 38; (with_reducible refine (HM.out).mono ?_); rintro e w' ⟨rfl, rfl⟩)
          | (go_at_call 35; (with_reducible refine (HF.out).mono ?_); rintro e w' ⟨rfl, rfl⟩))
        go_ret2
        exact ⟨rfl, HA.out, HKA.out⟩
      · rw [if_neg h3] at hp
        obtain ⟨rfl, hp2⟩ := Prod.mk.inj hp
        obtain ⟨rfl, rfl⟩ := Prod.mk.inj hp2
        have d3 : decide ((4096 : Int) ≤ (b.L.length : Int)) = false := decide_eq_false (by omega)
        have HNM := Aside0.mk h2
        obtain ⟨D, hown, hS⟩ := hA.map
        have hmx : b.L.length < maxLen := by unfold maxLen; omega
        have hkey := key64 hd
        have HOWN := Aside0.mk hown
        have HSET := Aside0.mk hS
        clear h hA hp hp2 hq hd hok h1 h2 h3 hown hS
        go_enter Try.func25, Try.ntmps25
        go_wp2_with (first
          | (go_at_call 38; (with_reducible refine (HM.out).mono ?_); rintro e w' ⟨rfl, rfl⟩)
          | (go_at_call 35; (with_reducible refine (HF.out).mono ?_); rintro e w' ⟨rfl, rfl⟩)
          | (refine wpList_mapUpdate_in _ rfl _ _ _ 37 rfl 2 60 k64 Try.underlying37 unitElem gm b.L.length D rfl HOWN.out hmx (.int .i64 q) (.agg #[]) (kI q) rfl rfl hkey (.agg []) [] unitElem_mk ?_; intro w1 hown1 hturn1; have HOWN1 := Aside0.mk hown1; have HT1 := Aside0.mk (turned_keep hturn1); clear hown1 hturn1))
        go_ret2
        exact ⟨rfl, ⟨(HT1.out.block gb (blk_lt HA.out.blk) HA.out.ne).trans HA.out.blk, MapIs.tight HOWN1.out (HSET.out.put HNM.out (fun y => mem_insG) (length_insG _ _) _), HOK.out⟩, HKA.out.trans HT1.out (fun _ _ q => q) (fun _ _ q => q)⟩
end Go.Proofs.Ytoakooebmnjkhaa.Q
