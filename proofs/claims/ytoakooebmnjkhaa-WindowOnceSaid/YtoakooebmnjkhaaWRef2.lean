import Derived.Test.YtoakooebmnjkhaaWRef
import Derived.BigQuiet
namespace Go.Proofs.Ytoakooebmnjkhaa.Q
open Go.RowKit Go.Proofs.YtoakooebmnjkhaaW.PrintWords Go.Proofs.YtoakooebmnjkhaaW.PrintLast Go.Proofs.YtoakooebmnjkhaaW.PrintMore Go.Proofs.YtoakooebmnjkhaaV
set_option linter.unusedVariables false
set_option linter.unusedSimpArgs false

theorem rb_fin2 {w w5 : World} {n0 gr : Nat} {A : Option Addr} {c : Nat} {b : BkS} (h : RbAt w n0 gr A c b) (hn0 : n0 ≤ w.heap.size) {id : Int} (hB : Below w.heap.size (w.setCell ⟨gr, 2, none⟩ (.int .i64 id)) w5) {l : List Int} {A5 : Option Addr} {c5 : Nat} (hR : Kd.R (Kd.int .i64) 2 w5 w.heap.size (fun _ => True) (.slice A5 l.length c5) l) (hok : BkOk { b with bound := id, L := l }) :
    RbAt (w5.setCell ⟨gr, 1, none⟩ (.slice A5 l.length c5)) n0 gr A5 c5 { b with bound := id, L := l } ∧ Keep w (w5.setCell ⟨gr, 1, none⟩ (.slice A5 l.length c5)) (fun k => k = gr) := by
  have hsetK : Keep w5 (w5.setCell ⟨gr, 1, none⟩ (.slice A5 l.length c5)) (fun k => k = gr) := (Keep.refl _ _).set _ _ (.inl rfl)
  have hne5 : ∀ k, (Value.slice A5 l.length c5).ownBlock = some k → ¬ k = gr := fun k e q => by have := own_base (Kd.own_of_R hR) k e; have := blk_lt h.blk; omega
  have hr2 := R_keep hR hsetK hne5
  have hb1 : (w.setCell ⟨gr, 2, none⟩ (.int .i64 id)).heap[gr]? = some (.cells #[.int .i64 b.wd, .slice A b.L.length c, .int .i64 id, .bool true] 54 (0, 0)) := blk_put h.blk 2 _ rfl
  have hk1 : Keep w (w.setCell ⟨gr, 2, none⟩ (.int .i64 id)) (fun k => k = gr) := (Keep.refl _ _).set _ _ (.inl rfl)
  have hk2 : Keep (w.setCell ⟨gr, 2, none⟩ (.int .i64 id)) w5 (fun k => k = gr) := Keep.of_below (S := fun k => k = gr) (by rw [World.size_setCell]; exact hB)
  refine ⟨⟨blk_put (cs' := #[.int .i64 b.wd, .slice A5 l.length c5, .int .i64 id, .bool true]) ((hB.block gr (blk_lt h.blk)).trans hb1) 1 _ rfl, ?_, hok⟩, (hk1.trans hk2 (fun _ _ q => q) (fun _ _ q => q)).trans hsetK (fun _ _ q => q) (fun _ _ q => q)⟩
  exact R_tight hr2 (fun k e => ⟨rfl, trivial, Nat.le_trans hn0 (own_base (Kd.own_of_R hR) k e)⟩)
set_option maxHeartbeats 12800000 in
set_option maxRecDepth 4000 in
theorem rb_Close {w : World} {n0 gr : Nat} {A : Option Addr} {c : Nat} {b : BkS} (h : RbAt w n0 gr A c b) (hn0 : n0 ≤ w.heap.size) (m : Int) (hm : in64 m) {l0 : List Int} {b' : BkS} (hc : closeP b m = (l0, b')) :
    Calls Try.prog 33 #[.pointer (some ⟨gr, 0, none⟩), .int .i64 m] w fun e w' => ∃ Ao co, e = .returned (.slice Ao l0.length co) ∧ Kd.R (Kd.int .i64) 2 w' w.heap.size (fun _ => True) (.slice Ao l0.length co) l0 ∧ (∃ A' c', RbAt w' n0 gr A' c' b') ∧ Keep w w' (fun k => k = gr) := by
  have HK := Aside0.mk h
  have c0 := blk_cell h.blk 0
  have c1 := blk_cell h.blk 1
  have c2 := blk_cell h.blk 2
  have hd := div_in64 hm h.ok.wd.1
  have hok := closeP_ok h.ok hm
  rw [hc] at hok
  have HOK := Aside0.mk hok
  have hthr := fun {a e : Int} => @rw_Through m b.wd w hm h.ok.wd a e
  unfold closeP at hc
  obtain ⟨q, hq⟩ : ∃ q, q = m / b.wd := ⟨_, rfl⟩
  rw [← hq] at hc hthr hd
  by_cases h1 : q = -9223372036854775808
  · rw [if_pos h1] at hc
    obtain ⟨rfl, rfl⟩ := Prod.mk.inj hc
    have HT := Aside0.mk (hthr (by rw [if_pos h1]))
    clear h hc hq hd hok h1 hthr
    go_enter Try.func33, Try.ntmps33
    go_wp2_with (first
      | (go_at_call 16; (with_reducible refine (HT.out).mono ?_); rintro e w' ⟨rfl, rfl⟩))
    go_ret
    exact ⟨none, 0, rfl, Kd.R_nil _ _ _ _ _, ⟨A, c, HK.out⟩, Keep.refl _ _⟩
  · rw [if_neg h1] at hc
    have HT := Aside0.mk (hthr (by rw [if_neg h1]))
    obtain ⟨id, hid⟩ : ∃ id, id = q - 1 := ⟨_, rfl⟩
    rw [← hid] at hc HT
    by_cases h2 : id ≤ b.bound
    · rw [if_pos h2] at hc
      obtain ⟨rfl, rfl⟩ := Prod.mk.inj hc
      have d2 : decide (id ≤ b.bound) = true := decide_eq_true h2
      clear h hc hq hd hok h1 h2 hthr hid
      go_enter Try.func33, Try.ntmps33
      go_wp2_with (first
        | (go_at_call 16; (with_reducible refine (HT.out).mono ?_); rintro e w' ⟨rfl, rfl⟩))
      go_ret
      exact ⟨none, 0, rfl, Kd.R_nil _ _ _ _ _, ⟨A, c, HK.out⟩, Keep.refl _ _⟩
    · rw [if_neg h2] at hc
      obtain ⟨hl0, hb'⟩ := Prod.mk.inj hc
      have HL0 := Aside0.mk hl0
      have HB' := Aside0.mk hb'
      have d2 : decide (id ≤ b.bound) = false := decide_eq_false h2
      have f2 := blk_frozen h.blk 2
      have hll := h.ok.len
      obtain ⟨W1, hW1⟩ : ∃ W1, W1 = w.setCell ⟨gr, 2, none⟩ (.int .i64 id) := ⟨_, rfl⟩
      have hblk : W1.heap[gr]? = some (.cells #[.int .i64 b.wd, .slice A b.L.length c, .int .i64 id, .bool true] 54 (0, 0)) := by rw [hW1]; exact blk_put h.blk 2 _ rfl
      have HBL := Aside0.mk hblk
      have hk1 : Keep w W1 (fun k => k = gr) := by rw [hW1]; exact (Keep.refl _ _).set _ _ (.inl rfl)
      have hrow := R_keep h.row hk1 (fun k e q => h.ne k e q)
      obtain ⟨-, -, hC⟩ := Kd.R_reads' hrow
      have HC := Aside0.mk hC
      have HSZ := Aside0.mk (show W1.heap.size = w.heap.size by rw [hW1]; simp)
      have HGL := Aside0.mk (blk_lt h.blk)
      have HW1 := Aside0.mk hW1
      clear h hc hq hd hok h1 h2 hthr hid hblk hk1 hrow hC hW1 hl0 hb'
      go_enter Try.func33, Try.ntmps33
      go_wp2_with (first
        | (go_at_call 16; (with_reducible refine (HT.out).mono ?_); rintro e w' ⟨rfl, rfl⟩))
      rw [← HW1.out]
      clear c0 c1 c2 f2 d2
      go_loopg [7, 8, 9] b.L.length (fun kq v7 v8 v9 w' => ∃ (i : Nat) (lo li : List Int) (Ao Ai : Option Addr) (co ci : Nat), v7 = .slice Ao lo.length co ∧ v8 = .slice Ai li.length ci ∧ v9 = .int .i64 i ∧ i + kq = b.L.length ∧ lo.length ≤ i ∧ li.length ≤ i ∧ Aside0 (Kd.R (Kd.int .i64) 2 w' w.heap.size (fun _ => True) (.slice Ao lo.length co) lo) ∧ Aside0 (Kd.R (Kd.int .i64) 2 w' w.heap.size (fun _ => True) (.slice Ai li.length ci) li) ∧ Aside0 (∀ k, (Value.slice Ao lo.length co).ownBlock = some k → (Value.slice Ai li.length ci).ownBlock ≠ some k) ∧ Aside0 (lo = (b.L.take i).filter (fun x => decide (x ≤ id)) ∧ li = (b.L.take i).filter (fun x => decide (id < x))) ∧ Aside0 (Below w.heap.size W1 w'))
      case atStart => exact ⟨0, [], [], none, none, 0, 0, rfl, rfl, rfl, by omega, by simp, by simp, ⟨Kd.R_nil _ _ _ _ _⟩, ⟨Kd.R_nil _ _ _ _ _⟩, ⟨fun k e => by simp [Value.ownBlock] at e⟩, ⟨by simp⟩, ⟨Below.refl _ _⟩⟩
      case round =>
        obtain ⟨i, lo, li, Ao, Ai, co, ci, rfl, rfl, rfl, hik, hle1, hle2, HRo, HRi, HAP, HL, HBel⟩ := hrel
        have HBB := Aside0.mk ((HBel.out.block gr HGL.out).trans HBL.out)
        have k1 := blk_cell HBB.out 1
        cases gk with
        | zero =>
          obtain rfl : i = b.L.length := by omega
          have d4 : decide (b.L.length < b.L.length) = false := decide_eq_false (by omega)
          have hL := HL.out
          rw [List.take_of_length_le (Nat.le_refl _)] at hL
          have HL1 := Aside0.mk (hL.1.trans HL0.out)
          have HL2 := Aside0.mk hL.2
          have f1 := blk_frozen HBB.out 1
          clear hL HL
          go_wp2_with (fail)
          go_ret
          have hbel := HBel.out
          rw [HW1.out] at hbel
          obtain ⟨z1, z2⟩ := rb_fin2 HK.out hn0 hbel HRi.out (by rw [HL2.out]; rw [HB'.out]; exact HOK.out)
          have z3 : ({ b with bound := id, L := li } : BkS) = b' := by rw [HL2.out]; exact HB'.out
          rw [z3] at z1
          have hsetK : Keep wr (wr.setCell ⟨gr, 1, none⟩ (.slice Ai li.length ci)) (fun k => k = gr) := (Keep.refl _ _).set _ _ (.inl rfl)
          have hro := R_keep HRo.out hsetK (fun k e q => by have := own_base (Kd.own_of_R HRo.out) k e; have := HGL.out; omega)
          rw [← HL1.out]
          exact ⟨Ao, co, rfl, hro, ⟨Ai, ci, z1⟩, z2⟩
        | succ k2 =>
          have hlt : i < b.L.length := by omega
          have d4 : decide (i < b.L.length) = true := decide_eq_true hlt
          obtain ⟨y, hy⟩ : ∃ y, b.L[i]? = some y := ⟨b.L[i], List.getElem?_eq_getElem hlt⟩
          have htk : b.L.take (i + 1) = b.L.take i ++ [y] := by rw [List.take_add_one, hy]; rfl
          have hCr : Kd.C (Kd.int .i64) wr A b.L.length b.L := Kd.C_below HC.out (by rw [HSZ.out]; exact HBel.out)
          obtain ⟨ad, hA, q1⟩ := ReadsOf.at_ (Kd.reads_of_C (enc := Value.int .i64) (d := (0 : Int)) (h1 := fun _ => rfl) hCr) (i : Int) (by omega) (by omega)
          subst hA
          rw [Int.toNat_natCast, show rdOf 0 b.L (i : Int) = y by unfold rdOf; rw [Int.toNat_natCast, List.getD_eq_getElem?_getD, hy]; rfl] at q1
          by_cases hyi : y ≤ id
          · have d5 : decide (y ≤ id) = true := decide_eq_true hyi
            have d6 : decide (id < y) = false := decide_eq_false (by omega)
            have HL2 := Aside0.mk (show lo ++ [y] = (b.L.take (i + 1)).filter (fun x => decide (x ≤ id)) ∧ li = (b.L.take (i + 1)).filter (fun x => decide (id < x)) by
              rw [htk, List.filter_append, List.filter_append, ← HL.out.1, ← HL.out.2]
              simp [d5, d6])
            clear hy htk hCr hyi HL d6
            go_wp2_with (first
              | ((with_reducible refine gate_builtin (b := .append) (xs := #[.tmp 51, .tmp 59]) rfl ?_); at_builtin; refine Kd.R_append (Kd.int .i64) (w0 := wr) w.heap.size rfl (.tmp 51) (.tmp 59) 30 2 (.int .i64 0) 8 rfl Try.underlying30 info64 rfl (by decide) (by omega) (.slice Ao lo.length co) (lo) (y) [.int .i64 (y)] (fun _ => True) (fun _ => False) rfl rfl ?aP (fun _ hk => hk.elim) ?aF ?aO ?aB ?aS ?aL ?_; (case aP => exact rfl); (case aB => exact Below.refl _ _); (case aF => exact (fun _ _ => trivial)); (case aO => exact HRo.out); (case aS => have := HBel.out.size; have := HSZ.out; omega); (case aL => omega); intro v5 w5 ho hb hg hat; obtain ⟨A5, c5, ev⟩ := Kd.R_slice ho; subst ev; have HO5 := Aside0.mk ho; have HB5 := Aside0.mk (HBel.out.trans hb); have HI5 := Aside0.mk (R_keep HRi.out (grown_k hg) (fun k e q => HAP.out k q.symm e)); have HAP5 := Aside0.mk (show ∀ k, (Value.slice A5 (lo ++ [y]).length c5).ownBlock = some k → (Value.slice Ai li.length ci).ownBlock ≠ some k from fun k e q => (by rcases hat with h_ | ⟨z, h_, hz⟩; exact HAP.out k (h_.symm.trans e) q; have h2_ := R_lt' HRi.out k q; rw [h_] at e; injection e with e; omega)); clear ho hb hg hat))
            go_roundg k2
            case rel => exact ⟨i + 1, lo ++ [y], li, A5, Ai, c5, ci, by rw [List.length_append, List.length_singleton], rfl, by go_num, by omega, by rw [List.length_append, List.length_singleton]; omega, by omega, HO5, HI5, HAP5, HL2, HB5⟩
            case measure => omega
          · have d5 : decide (y ≤ id) = false := decide_eq_false hyi
            have d6 : decide (id < y) = true := decide_eq_true (by omega)
            have HL2 := Aside0.mk (show lo = (b.L.take (i + 1)).filter (fun x => decide (x ≤ id)) ∧ li ++ [y] = (b.L.take (i + 1)).filter (fun x => decide (id < x)) by
              rw [htk, List.filter_append, List.filter_append, ← HL.out.1, ← HL.out.2]
              simp [d5, d6])
            clear hy htk hCr hyi HL d6
            go_wp2_with (first
              | ((with_reducible refine gate_builtin (b := .append) (xs := #[.tmp 61, .tmp 69]) rfl ?_); at_builtin; refine Kd.R_append (Kd.int .i64) (w0 := wr) w.heap.size rfl (.tmp 61) (.tmp 69) 30 2 (.int .i64 0) 8 rfl Try.underlying30 info64 rfl (by decide) (by omega) (.slice Ai li.length ci) (li) (y) [.int .i64 (y)] (fun _ => True) (fun _ => False) rfl rfl ?aP (fun _ hk => hk.elim) ?aF ?aO ?aB ?aS ?aL ?_; (case aP => exact rfl); (case aB => exact Below.refl _ _); (case aF => exact (fun _ _ => trivial)); (case aO => exact HRi.out); (case aS => have := HBel.out.size; have := HSZ.out; omega); (case aL => omega); intro v5 w5 ho hb hg hat; obtain ⟨A5, c5, ev⟩ := Kd.R_slice ho; subst ev; have HO5 := Aside0.mk ho; have HB5 := Aside0.mk (HBel.out.trans hb); have HI5 := Aside0.mk (R_keep HRo.out (grown_k hg) (fun k e q => HAP.out k e q.symm)); have HAP5 := Aside0.mk (show ∀ k, (Value.slice Ao lo.length co).ownBlock = some k → (Value.slice A5 (li ++ [y]).length c5).ownBlock ≠ some k from fun k e q => (by rcases hat with h_ | ⟨z, h_, hz⟩; exact HAP.out k e (h_.symm.trans q); have h2_ := R_lt' HRo.out k e; rw [h_] at q; injection q with q; omega)); clear ho hb hg hat))
            go_roundg k2
            case rel => exact ⟨i + 1, lo, li ++ [y], Ao, A5, co, c5, rfl, by rw [List.length_append, List.length_singleton], by go_num, by omega, by omega, by rw [List.length_append, List.length_singleton]; omega, HI5, HO5, HAP5, HL2, HB5⟩
            case measure => omega
theorem same_is {w : World} {A B : Option Addr} {c d : Nat} {l : List Int} (hl : l.length ≤ 1000000) (hA : Kd.C (Kd.int .i64) w A l.length l) (hB : Kd.C (Kd.int .i64) w B l.length l) :
    Calls Try.prog 19 #[.slice A l.length c, .slice B l.length d] w fun e w' => e = .returned (.bool true) ∧ Below w.heap.size w w' := by
  have HA := Aside0.mk hA
  have HB := Aside0.mk hB
  clear hA hB
  go_enter Try.func19, Try.ntmps19
  go_wp2
  go_loopg [5] l.length (fun kq v5 w' => ∃ i : Nat, v5 = .int .i64 i ∧ i + kq = l.length ∧ ∃ n, w' = w.drewN n)
  case atStart => exact ⟨0, rfl, by omega, 0, rfl⟩
  case round =>
    obtain ⟨i, rfl, hik, nn, rfl⟩ := hrel
    cases gk with
    | zero =>
      have d1 : decide (i < l.length) = false := decide_eq_false (by omega)
      go_wp2
      go_ret
      exact ⟨rfl, pw_below_drewN (Below.refl _ _) _⟩
    | succ k1 =>
      have hlt : i < l.length := by omega
      have d1 : decide (i < l.length) = true := decide_eq_true hlt
      obtain ⟨y, hy⟩ : ∃ y, l[i]? = some y := ⟨l[i], List.getElem?_eq_getElem hlt⟩
      have hrd : rdOf 0 l (i : Int) = y := by unfold rdOf; rw [Int.toNat_natCast, List.getD_eq_getElem?_getD, hy]; rfl
      obtain ⟨ad, hA, p1⟩ := ReadsOf.at_ (Kd.reads_of_C (enc := Value.int .i64) (d := (0 : Int)) (h1 := fun _ => rfl) HA.out) (i : Int) (by omega) (by omega)
      obtain ⟨bd, hB, q1⟩ := ReadsOf.at_ (Kd.reads_of_C (enc := Value.int .i64) (d := (0 : Int)) (h1 := fun _ => rfl) HB.out) (i : Int) (by omega) (by omega)
      subst hA
      subst hB
      rw [Int.toNat_natCast, hrd] at p1 q1
      have p2 : ∀ n, (w.drewN n).cell? _ = _ := fun n => p1
      have q2 : ∀ n, (w.drewN n).cell? _ = _ := fun n => q1
      have e1 : (y != y) = false := by simp
      clear hy hrd p1 q1
      go_upto_region 6 with (fail)
      go_quiet (fail)
      go_wp2
      go_roundg k1
      case rel => exact ⟨i + 1, by go_num, by omega, nn + nq, by simp [World.drewN_drewN]⟩
      case measure => omega
end Go.Proofs.Ytoakooebmnjkhaa.Q
