import Derived.Test.YtadmigijbfdboaaAGap
namespace Go.Proofs.Ytadmigijbfdboaa.Q
open Go.RowKit Go.Proofs.YtadmigijbfdboaaW.PrintWords Go.Proofs.YtadmigijbfdboaaW.PrintLast Go.Proofs.YtadmigijbfdboaaW.PrintMore Go.Proofs.YtadmigijbfdboaaV
set_option linter.unusedVariables false
set_option linter.unusedSimpArgs false

set_option maxHeartbeats 3200000 in
set_option maxRecDepth 4000 in
theorem book_Feed_err {w : World} {B gb : Nat} {A : Option Addr} {c : Nat} {L : List Ent} (h : BookAt w B gb A c L) (name : ByteArray) (at_ : Int) (is : Bool) (va vb : Int) (hL : L.length ≤ 1000000) (er : Int)
    (her : (idxP L name = none ∧ er = 231) ∨ (∃ i g r s, idxP L name = some i ∧ L[i]? = some (g, r, s) ∧ ((¬ inT at_ ∧ er = 1) ∨ (inT at_ ∧ s.any = true ∧ at_ ≤ s.last ∧ er = 232)))) :
    Calls Try.prog 11 #[.pointer (some ⟨gb, 0, none⟩), .string name, .int .i64 at_, .agg #[.bool is, .int .i64 va, .int .u64 vb]] w fun e w' => e = .returned (.tuple #[.slice none 0 0, .int .i64 er]) ∧ Below w.heap.size w w' := by
  obtain ⟨W, hW⟩ : ∃ W, W = w.alloc (.cells #[.bool is, .int .i64 va, .int .u64 vb] 37 (0, 0)) := ⟨_, rfl⟩
  have hb : Below w.heap.size w W := by rw [hW]; exact (Below.refl _ _).alloc (Nat.le_refl _) _
  have hBW := h.quiet (below_keep hb)
  have HF := Aside0.mk (book_find hBW name hL)
  have c1 : W.cell? ⟨gb, 1, none⟩ = some (.bool true) := blk_cell hBW.blk 1
  have HB := Aside0.mk hb
  have HW := Aside0.mk hW
  rcases her with ⟨hi, rfl⟩ | ⟨i, g, r, s, hi, hx, her⟩
  · rw [findV_none hi] at HF
    clear h hW hb hBW hi
    go_enter Try.func11, Try.ntmps11
    go_upto_region 1 with (fail)
    rw [← HW.out]
    go_wp2_with (first | (go_at_call 25; (with_reducible refine (HF.out).mono ?_); rintro e w1 ⟨rfl, rfl⟩))
    go_ret2
    exact ⟨rfl, HB.out⟩
  · obtain ⟨x', hx', hn, hvv⟩ := idxP_lt hi
    rw [hx] at hx'
    injection hx' with hx'
    subst hx'
    rw [hvv] at HF
    have hR : RuleAt W g r s (respV g s.state) := (hBW.rules _ (List.mem_of_getElem? hx)).1
    have q1 : W.cell? ⟨g, 18, none⟩ = some (.bool s.any) := blk_cell hR 18
    have q2 : W.cell? ⟨g, 17, none⟩ = some (.int .i64 s.last) := blk_cell hR 17
    rcases her with ⟨ht, rfl⟩ | ⟨ht, ha, hp, rfl⟩
    · have dd : decide (at_ < 0) = true ∨ (decide (at_ < 0) = false ∧ decide (1099511627775 < at_) = true) := by
        unfold inT at ht
        simp only [decide_eq_true_eq, decide_eq_false_iff_not]
        omega
      clear h hW hb hBW hi hx hn hvv hR q1 q2 ht
      rcases dd with d1 | ⟨d1, d2⟩
      all_goals
        go_enter Try.func11, Try.ntmps11
        go_upto_region 1 with (fail)
        rw [← HW.out]
        go_wp2_with (first | (go_at_call 25; (with_reducible refine (HF.out).mono ?_); rintro e w1 ⟨rfl, rfl⟩))
        go_ret2
        exact ⟨rfl, HB.out⟩
    · have d1 : decide (at_ < 0) = false := decide_eq_false (by have := ht.1; omega)
      have d2 : decide (1099511627775 < at_) = false := decide_eq_false (by have := ht.2; omega)
      have d3 : decide (at_ ≤ s.last) = true := decide_eq_true hp
      rw [ha] at q1
      clear h hW hb hBW hi hx hn hvv hR ht ha hp
      go_enter Try.func11, Try.ntmps11
      go_upto_region 1 with (fail)
      rw [← HW.out]
      go_wp2_with (first | (go_at_call 25; (with_reducible refine (HF.out).mono ?_); rintro e w1 ⟨rfl, rfl⟩))
      go_ret2
      exact ⟨rfl, HB.out⟩

/-- Every Feed. -/
theorem book_Feed {w : World} {B gb : Nat} {A : Option Addr} {c : Nat} {L : List Ent} (h : BookAt w B gb A c L) (hB : B ≤ w.heap.size) (name : ByteArray) (at_ : Int) (is : Bool) (val : Int) (hL : L.length ≤ 1000000) (hok : ∀ x ∈ L, RulOk x.2.1 ∧ SttOk x.2.2) (hv : inW val) :
    Calls Try.prog 11 #[.pointer (some ⟨gb, 0, none⟩), .string name, .int .i64 at_, .agg #[.bool is, .int .i64 (hiW val), .int .u64 (loW val)]] w fun e w' => ∃ A' c', e = .returned (.tuple #[.slice A' (feedP L name at_ is val).1.length c', .int .i64 (feedP L name at_ is val).2.1]) ∧ AlrsAt w' A' (feedP L name at_ is val).1 ∧ (∀ ad, A' = some ad → w.heap.size ≤ ad.block) ∧ BookAt w' B gb A c (feedP L name at_ is val).2.2 ∧ Keep w w' (fun k => ∃ x ∈ L, k = x.1) := by
  have err : ∀ er, feedP L name at_ is val = ([], er, L) → ((idxP L name = none ∧ er = 231) ∨ (∃ i g r s, idxP L name = some i ∧ L[i]? = some (g, r, s) ∧ ((¬ inT at_ ∧ er = 1) ∨ (inT at_ ∧ s.any = true ∧ at_ ≤ s.last ∧ er = 232)))) → Calls Try.prog 11 #[.pointer (some ⟨gb, 0, none⟩), .string name, .int .i64 at_, .agg #[.bool is, .int .i64 (hiW val), .int .u64 (loW val)]] w fun e w' => ∃ A' c', e = .returned (.tuple #[.slice A' (feedP L name at_ is val).1.length c', .int .i64 (feedP L name at_ is val).2.1]) ∧ AlrsAt w' A' (feedP L name at_ is val).1 ∧ (∀ ad, A' = some ad → w.heap.size ≤ ad.block) ∧ BookAt w' B gb A c (feedP L name at_ is val).2.2 ∧ Keep w w' (fun k => ∃ x ∈ L, k = x.1) := by
    intro er he hc
    refine (book_Feed_err h name at_ is (hiW val) (loW val) hL er hc).mono ?_
    rintro e w' ⟨rfl, hb⟩
    rw [he]
    exact ⟨none, 0, rfl, .inl rfl, fun ad e => by (cases e), h.quiet (below_keep hb), Keep.of_below hb⟩
  cases hi : idxP L name with
  | none => exact err 231 (by unfold feedP; rw [hi]) (.inl ⟨hi, rfl⟩)
  | some i =>
    obtain ⟨x, hx, -, -⟩ := idxP_lt hi
    obtain ⟨g, r, s⟩ := x
    by_cases ht : inT at_
    · by_cases hp : s.any = true ∧ at_ ≤ s.last
      · exact err 232 (by unfold feedP; rw [hi]; simp only [hx]; rw [if_neg (fun q => q ht), if_pos hp]) (.inr ⟨i, g, r, s, hi, hx, .inr ⟨ht, hp.1, hp.2, rfl⟩⟩)
      · have he : feedP L name at_ is val = (alertsP r (stepP r s at_ is val) at_ is (if is then val else 0), 0, L.set i (g, r, saidP r (stepP r s at_ is val) at_)) := by
          unfold feedP; rw [hi]; simp only [hx]; rw [if_neg (fun q => q ht), if_neg hp]
        have hpast : (s.any && decide (at_ ≤ s.last)) = false := by
          cases ha : s.any with
          | false => rfl
          | true => simp only [Bool.true_and]; exact decide_eq_false (fun q => hp ⟨ha, q⟩)
        have hm := hok _ (List.mem_of_getElem? hx)
        rw [he]
        cases is with
        | true => exact book_Feed_is h hB name at_ val hL hi hx hm.1 hm.2 ht hpast hv
        | false => exact book_Feed_gap h hB name at_ val hL hi hx hm.1 hm.2 ht hpast
    · exact err 1 (by unfold feedP; rw [hi]; simp only [hx]; rw [if_pos ht]) (.inr ⟨i, g, r, s, hi, hx, .inl ⟨ht, rfl⟩⟩)
end Go.Proofs.Ytadmigijbfdboaa.Q
