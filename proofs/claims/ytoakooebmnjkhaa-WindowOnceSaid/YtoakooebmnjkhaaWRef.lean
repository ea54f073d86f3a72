import Derived.Test.YtoakooebmnjkhaaWClose
namespace Go.Proofs.Ytoakooebmnjkhaa.Q
open Go.RowKit Go.Proofs.YtoakooebmnjkhaaW.PrintWords Go.Proofs.YtoakooebmnjkhaaW.PrintLast Go.Proofs.YtoakooebmnjkhaaW.PrintMore Go.Proofs.YtoakooebmnjkhaaV
set_option linter.unusedVariables false
set_option linter.unusedSimpArgs false

theorem rw_bad (wd : Int) (w : World) {q : Bool} (hq : decide (wd < 1 ∨ wd > 1048576) = q) : Calls Try.prog 36 #[.int .i64 wd] w fun e w' => e = .returned (.bool q) ∧ w = w' := by
  subst hq
  by_cases h1 : wd < 1
  · have d1 : decide (wd < 1) = true := decide_eq_true h1
    have HQ := Aside0.mk (show decide (wd < 1 ∨ wd > 1048576) = true from decide_eq_true (.inl h1))
    go_enter Try.func36, Try.ntmps36
    go_wp2
    go_ret
    first | (rw [HQ.out]; exact ⟨rfl, rfl⟩) | exact ⟨rfl, rfl⟩
  · have d1 : decide (wd < 1) = false := decide_eq_false h1
    by_cases h2 : 1048576 < wd
    · have d2 : decide (1048576 < wd) = true := decide_eq_true h2
      have HQ := Aside0.mk (show decide (wd < 1 ∨ wd > 1048576) = true from decide_eq_true (.inr h2))
      go_enter Try.func36, Try.ntmps36
      go_wp2
      go_ret
      first | (rw [HQ.out]; exact ⟨rfl, rfl⟩) | exact ⟨rfl, rfl⟩
    · have d2 : decide (1048576 < wd) = false := decide_eq_false h2
      have HQ := Aside0.mk (show decide (wd < 1 ∨ wd > 1048576) = false from decide_eq_false (by omega))
      go_enter Try.func36, Try.ntmps36
      go_wp2
      go_ret
      first | (rw [HQ.out]; exact ⟨rfl, rfl⟩) | exact ⟨rfl, rfl⟩
set_option maxHeartbeats 1600000 in
theorem rw_Of (t wd : Int) (w : World) (ht : in64 t) (hw : 1 ≤ wd ∧ wd ≤ 1048576) : Calls Try.prog 20 #[.int .i64 t, .int .i64 wd] w fun e' w' => e' = .returned (.tuple #[.int .i64 (t / wd), .int .i64 0]) ∧ w = w' := by
  have HW := Aside0.mk (fun W => rw_bad wd W (ok_wrong hw))
  have HF := Aside0.mk (Math.floor_eq t wd hw.1 ht.1 ht.2)
  have hne : (wd == 0) = false := beq_eq_false_iff_ne.mpr (by omega)
  have hne2 : ¬ wd = 0 := by omega
  by_cases hm : Int.tmod t wd < 0
  · have d1 : decide (Int.tmod t wd < 0) = true := decide_eq_true hm
    rw [if_pos hm] at HF
    go_enter Try.func20, Try.ntmps20
    go_wp2_with (first | (go_at_call 36; (with_reducible refine (HW.out _).mono ?_); rintro e w' ⟨rfl, rfl⟩))
    go_ret2
    exact ⟨by rw [← HF.out]; rfl, rfl⟩
  · have d1 : decide (Int.tmod t wd < 0) = false := decide_eq_false hm
    rw [if_neg hm] at HF
    go_enter Try.func20, Try.ntmps20
    go_wp2_with (first | (go_at_call 36; (with_reducible refine (HW.out _).mono ?_); rintro e w' ⟨rfl, rfl⟩))
    go_ret2
    exact ⟨by rw [← HF.out]; rfl, rfl⟩
set_option maxHeartbeats 1600000 in
theorem rw_Through (m wd : Int) (w : World) (hm : in64 m) (hw : 1 ≤ wd ∧ wd ≤ 1048576) {a e : Int} (hae : (if m / wd = -9223372036854775808 then ((0 : Int), (60 : Int)) else (m / wd - 1, 0)) = (a, e)) : Calls Try.prog 16 #[.int .i64 m, .int .i64 wd] w fun e' w' => e' = .returned (.tuple #[.int .i64 a, .int .i64 e]) ∧ w = w' := by
  have HF := Aside0.mk (fun W => rw_Of m wd W hm hw)
  have hd := div_in64 hm hw.1
  obtain ⟨q, hq⟩ : ∃ q, q = m / wd := ⟨_, rfl⟩
  rw [← hq] at HF hae hd
  by_cases h0 : q = -9223372036854775808
  · have e0 : (q == -9223372036854775808) = true := beq_iff_eq.mpr h0
    rw [if_pos h0] at hae
    obtain ⟨rfl, rfl⟩ := Prod.mk.inj hae
    clear h0 hq
    go_enter Try.func16, Try.ntmps16
    go_wp2_with (first | (go_at_call 20; (with_reducible refine (HF.out _).mono ?_); rintro e w' ⟨rfl, rfl⟩))
    go_ret2
    exact ⟨rfl, rfl⟩
  · have e0 : (q == -9223372036854775808) = false := beq_eq_false_iff_ne.mpr h0
    rw [if_neg h0] at hae
    obtain ⟨rfl, rfl⟩ := Prod.mk.inj hae
    have b1 : -9223372036854775808 ≤ q - 1 := by have := hd.1; omega
    have b2 : q - 1 ≤ 9223372036854775807 := by have := hd.2; omega
    clear h0 hq
    go_enter Try.func16, Try.ntmps16
    go_wp2_with (first | (go_at_call 20; (with_reducible refine (HF.out _).mono ?_); rintro e w' ⟨rfl, rfl⟩))
    go_ret2
    exact ⟨rfl, rfl⟩
/-- The reference's book; its row was made from n0 on. -/
structure RbAt (w : World) (n0 gr : Nat) (A : Option Addr) (c : Nat) (b : BkS) : Prop where
  blk : w.heap[gr]? = some (.cells #[.int .i64 b.wd, .slice A b.L.length c, .int .i64 b.bound, .bool true] 54 (0, 0))
  row : Kd.R (Kd.int .i64) 2 w n0 (fun _ => True) (.slice A b.L.length c) b.L
  ok : BkOk b
theorem RbAt.keep {w w' : World} {n0 gr : Nat} {A : Option Addr} {c : Nat} {b : BkS} {S : Nat → Prop} (h : RbAt w n0 gr A c b) (hk : Keep w w' S) (h1 : ¬ S gr) (h2 : ∀ k, (Value.slice A b.L.length c).ownBlock = some k → ¬ S k) : RbAt w' n0 gr A c b :=
  ⟨(hk.block gr (blk_lt h.blk) h1).trans h.blk, R_keep h.row hk h2, h.ok⟩
theorem RbAt.ne {w : World} {n0 gr : Nat} {A : Option Addr} {c : Nat} {b : BkS} (h : RbAt w n0 gr A c b) : ∀ k, (Value.slice A b.L.length c).ownBlock = some k → k ≠ gr := by
  intro k e
  obtain ⟨cs, fr, h1⟩ := R_typed h.row k e
  exact ne_typed h1 h.blk (by decide)
set_option maxHeartbeats 1600000 in
theorem rb_Has {w : World} {n0 gr : Nat} {A : Option Addr} {c : Nat} {b : BkS} (h : RbAt w n0 gr A c b) (id : Int) {q : Bool} (hq : decide (id ∈ b.L) = q) :
    Calls Try.prog 40 #[.pointer (some ⟨gr, 0, none⟩), .int .i64 id] w fun e w' => e = .returned (.bool q) ∧ w = w' := by
  have c1 := blk_cell h.blk 1
  have hll := h.ok.len
  obtain ⟨-, -, hC⟩ := Kd.R_reads' h.row
  have HC := Aside0.mk hC
  have HQ := Aside0.mk hq
  clear h hC hq
  go_enter Try.func40, Try.ntmps40
  go_wp2
  go_loopg [5] b.L.length (fun kq v5 w' => ∃ i : Nat, v5 = .int .i64 i ∧ i + kq = b.L.length ∧ Aside0 (id ∉ b.L.take i) ∧ w' = w)
  case atStart => exact ⟨0, rfl, by omega, ⟨by simp⟩, rfl⟩
  case round =>
    obtain ⟨i, rfl, hik, HN, rfl⟩ := hrel
    cases gk with
    | zero =>
      have d1 : decide (i < b.L.length) = false := decide_eq_false (by omega)
      have HF := Aside0.mk (show q = false by rw [← HQ.out]; have := HN.out; rw [List.take_of_length_le (by omega)] at this; exact decide_eq_false this)
      go_wp2
      go_ret
      rw [HF.out]
      exact ⟨rfl, rfl⟩
    | succ k1 =>
      have hlt : i < b.L.length := by omega
      have d1 : decide (i < b.L.length) = true := decide_eq_true hlt
      obtain ⟨x, hx⟩ : ∃ x, b.L[i]? = some x := ⟨b.L[i], List.getElem?_eq_getElem hlt⟩
      obtain ⟨ad, hA, q1⟩ := ReadsOf.at_ (Kd.reads_of_C (enc := Value.int .i64) (d := (0 : Int)) (h1 := fun _ => rfl) HC.out) (i : Int) (by omega) (by omega)
      subst hA
      rw [Int.toNat_natCast, show rdOf 0 b.L (i : Int) = x by unfold rdOf; rw [Int.toNat_natCast, List.getD_eq_getElem?_getD, hx]; rfl] at q1
      have htk : b.L.take (i + 1) = b.L.take i ++ [x] := by rw [List.take_add_one, hx]; rfl
      by_cases he : x = id
      · have e1 : (x == id) = true := beq_iff_eq.mpr he
        have HT := Aside0.mk (show q = true by rw [← HQ.out]; exact decide_eq_true (by rw [← he]; exact List.mem_of_getElem? hx))
        clear he hx htk
        go_wp2
        go_ret
        rw [HT.out]
        exact ⟨rfl, rfl⟩
      · have e1 : (x == id) = false := beq_eq_false_iff_ne.mpr he
        have HN2 := Aside0.mk (show id ∉ b.L.take (i + 1) by rw [htk, List.mem_append, List.mem_singleton]; rintro (q | q); exact HN.out q; exact he q.symm)
        clear he hx htk HN
        go_wp2
        go_roundg k1
        case rel => exact ⟨i + 1, by go_num, by omega, HN2, rfl⟩
        case measure => omega
theorem insG_front {id : Int} : ∀ {L1 L2 : List Int}, (∀ x ∈ L1, ¬ id < x) → insG id (L1 ++ L2) = L1 ++ insG id L2 := by
  intro L1
  induction L1 with
  | nil => intro L2 _; rfl
  | cons a t ih =>
    intro L2 h
    rw [List.cons_append, insG, if_neg (h a (List.mem_cons_self ..)), ih (fun x hx => h x (List.mem_cons_of_mem _ hx))]
    rfl

theorem rb_fin {w w5 : World} {n0 gr : Nat} {A : Option Addr} {c : Nat} {b : BkS} (h : RbAt w n0 gr A c b) (hn0 : n0 ≤ w.heap.size) (hB : Below w.heap.size w w5) {l : List Int} {A5 : Option Addr} {c5 n : Nat} (hn : n = l.length) (hR : Kd.R (Kd.int .i64) 2 w5 w.heap.size (fun _ => True) (.slice A5 l.length c5) l) {id : Int} (hE : l = insG id b.L) (hok : BkOk { b with L := insG id b.L }) :
    RbAt (w5.setCell ⟨gr, 1, none⟩ (.slice A5 n c5)) n0 gr A5 c5 { b with L := insG id b.L } ∧ Keep w (w5.setCell ⟨gr, 1, none⟩ (.slice A5 n c5)) (fun k => k = gr) := by
  subst hn
  subst hE
  have hsetK : Keep w5 (w5.setCell ⟨gr, 1, none⟩ (.slice A5 (insG id b.L).length c5)) (fun k => k = gr) := (Keep.refl _ _).set _ _ (.inl rfl)
  have hne5 : ∀ k, (Value.slice A5 (insG id b.L).length c5).ownBlock = some k → ¬ k = gr := fun k e q => by have := own_base (Kd.own_of_R hR) k e; have := blk_lt h.blk; omega
  have hr2 := R_keep hR hsetK hne5
  refine ⟨⟨blk_put (cs' := #[.int .i64 b.wd, .slice A5 (insG id b.L).length c5, .int .i64 b.bound, .bool true]) ((hB.block gr (blk_lt h.blk)).trans h.blk) 1 _ rfl, ?_, hok⟩, (Keep.of_below (S := fun k => k = gr) hB).trans hsetK (fun _ _ q => q) (fun _ _ q => q)⟩
  exact R_tight hr2 (fun k e => ⟨rfl, trivial, Nat.le_trans hn0 (own_base (Kd.own_of_R hR) k e)⟩)

set_option maxHeartbeats 6400000 in
set_option maxRecDepth 4000 in
theorem rb_Put {w : World} {n0 gr : Nat} {A : Option Addr} {c : Nat} {b : BkS} (h : RbAt w n0 gr A c b) (hn0 : n0 ≤ w.heap.size) (t : Int) (ht : in64 t) {x e : Int} {b' : BkS} (hp : putP b t = (x, e, b')) :
    Calls Try.prog 32 #[.pointer (some ⟨gr, 0, none⟩), .int .i64 t] w fun e1 w' => e1 = .returned (.tuple #[.int .i64 x, .int .i64 e]) ∧ (∃ A' c', RbAt w' n0 gr A' c' b') ∧ Keep w w' (fun k => k = gr) := by
  have HF := Aside0.mk (rw_Of t b.wd w ht h.ok.wd)
  have HB := Aside0.mk h
  have c0 := blk_cell h.blk 0
  have c1 := blk_cell h.blk 1
  have c2 := blk_cell h.blk 2
  have hd := div_in64 ht h.ok.wd.1
  have hok := putP_ok h.ok ht
  rw [hp] at hok
  have HOK := Aside0.mk hok
  unfold putP at hp
  obtain ⟨q, hq⟩ : ∃ q, q = t / b.wd := ⟨_, rfl⟩
  rw [← hq] at HF hp hd
  by_cases h1 : q ≤ b.bound
  · rw [if_pos h1] at hp
    obtain ⟨rfl, hp2⟩ := Prod.mk.inj hp
    obtain ⟨rfl, rfl⟩ := Prod.mk.inj hp2
    have d1 : decide (q ≤ b.bound) = true := decide_eq_true h1
    clear h hp hp2 hq hd hok h1
    go_enter Try.func32, Try.ntmps32
    go_wp2_with (first | (go_at_call 20; (with_reducible refine (HF.out).mono ?_); rintro e w' ⟨rfl, rfl⟩))
    go_ret2
    exact ⟨rfl, ⟨A, c, HB.out⟩, Keep.refl _ _⟩
  · rw [if_neg h1] at hp
    have d1 : decide (q ≤ b.bound) = false := decide_eq_false h1
    by_cases h2 : q ∈ b.L
    · rw [if_pos h2] at hp
      obtain ⟨rfl, hp2⟩ := Prod.mk.inj hp
      obtain ⟨rfl, rfl⟩ := Prod.mk.inj hp2
      have HH := Aside0.mk (rb_Has h q (decide_eq_true h2))
      clear h hp hp2 hq hd hok h1 h2
      go_enter Try.func32, Try.ntmps32
      go_wp2_with (first | (go_at_call 20; (with_reducible refine (HF.out).mono ?_); rintro e w' ⟨rfl, rfl⟩) | (go_at_call 40; (with_reducible refine (HH.out).mono ?_); rintro e w' ⟨rfl, rfl⟩))
      go_ret2
      exact ⟨rfl, ⟨A, c, HB.out⟩, Keep.refl _ _⟩
    · rw [if_neg h2] at hp
      have HH := Aside0.mk (rb_Has h q (decide_eq_false h2))
      by_cases h3 : 4096 ≤ b.L.length
      · rw [if_pos h3] at hp
        obtain ⟨rfl, hp2⟩ := Prod.mk.inj hp
        obtain ⟨rfl, rfl⟩ := Prod.mk.inj hp2
        have d3 : decide ((4096 : Int) ≤ (b.L.length : Int)) = true := decide_eq_true (by omega)
        clear h hp hp2 hq hd hok h1 h2 h3
        go_enter Try.func32, Try.ntmps32
        go_wp2_with (first | (go_at_call 20; (with_reducible refine (HF.out).mono ?_); rintro e w' ⟨rfl, rfl⟩) | (go_at_call 40; (with_reducible refine (HH.out).mono ?_); rintro e w' ⟨rfl, rfl⟩))
        go_ret2
        exact ⟨rfl, ⟨A, c, HB.out⟩, Keep.refl _ _⟩
      · rw [if_neg h3] at hp
        obtain ⟨rfl, hp2⟩ := Prod.mk.inj hp
        obtain ⟨rfl, hb'⟩ := Prod.mk.inj hp2
        have HB' := Aside0.mk hb'
        have d3 : decide ((4096 : Int) ≤ (b.L.length : Int)) = false := decide_eq_false (by omega)
        have hlt3 : b.L.length < 4096 := by omega
        obtain ⟨-, -, hC⟩ := Kd.R_reads' h.row
        have HC := Aside0.mk hC
        have HGL := Aside0.mk (blk_lt h.blk)
        clear h hp hp2 hq hd hok h1 h2 h3 hC hb'
        go_enter Try.func32, Try.ntmps32
        go_wp2_with (first | (go_at_call 20; (with_reducible refine (HF.out).mono ?_); rintro e w' ⟨rfl, rfl⟩) | (go_at_call 40; (with_reducible refine (HH.out).mono ?_); rintro e w' ⟨rfl, rfl⟩))
        go_loopg [9, 10, 11] b.L.length (fun kq v9 v10 v11 w' => ∃ (i : Nat) (l : List Int) (A' : Option Addr) (c' : Nat) (dn : Bool), v9 = .slice A' l.length c' ∧ v10 = .bool dn ∧ v11 = .int .i64 i ∧ i + kq = b.L.length ∧ l.length ≤ i + 1 ∧ Aside0 (Kd.R (Kd.int .i64) 2 w' w.heap.size (fun _ => True) (.slice A' l.length c') l) ∧ Aside0 (Below w.heap.size w w') ∧ Aside0 (dn = false → l = b.L.take i ∧ ∀ y ∈ b.L.take i, ¬ q < y) ∧ Aside0 (dn = true → l ++ b.L.drop i = insG q b.L))
        case atStart => exact ⟨0, [], none, 0, false, rfl, rfl, rfl, by omega, by simp, ⟨Kd.R_nil _ _ _ _ _⟩, ⟨Below.refl _ _⟩, ⟨fun _ => ⟨by simp, fun y hy => by simp at hy⟩⟩, ⟨fun q => by cases q⟩⟩
        case round =>
          obtain ⟨i, l, A', c', dn, rfl, rfl, rfl, hik, hle, HR, HBel, HU, HD⟩ := hrel
          have k1 := blk_cell ((HBel.out.block gr HGL.out).trans HB.out.blk) 1
          have HBB := Aside0.mk ((HBel.out.block gr HGL.out).trans HB.out.blk)
          cases gk with
          | zero =>
            obtain rfl : i = b.L.length := by omega
            have d4 : decide (b.L.length < b.L.length) = false := decide_eq_false (by omega)
            cases dn with
            | true =>
              have hD := HD.out rfl
              rw [List.drop_eq_nil_of_le (Nat.le_refl _), List.append_nil] at hD
              have HE := Aside0.mk hD
              have f1 := blk_frozen HBB.out 1
              clear hD HU HD
              go_wp2_with (fail)
              go_ret2
              obtain ⟨z1, z2⟩ := rb_fin HB.out hn0 HBel.out (n := l.length) (by simp) HR.out HE.out (by rw [HB'.out]; exact HOK.out)
              rw [HB'.out] at z1
              exact ⟨rfl, ⟨A', c', z1⟩, z2⟩
            | false =>
              obtain ⟨hU1, hU2⟩ := HU.out rfl
              rw [List.take_of_length_le (Nat.le_refl _)] at hU1 hU2
              have HE := Aside0.mk (show l ++ [q] = insG q b.L by have := insG_front (id := q) (L2 := []) hU2; rw [List.append_nil] at this; rw [this, hU1]; rfl)
              clear hU1 hU2 HU HD
              go_wp2_with (first
                | ((with_reducible refine gate_builtin (b := .append) (xs := #[.tmp 76, .tmp 78]) rfl ?_); at_builtin; refine Kd.R_append (Kd.int .i64) (w0 := w) w.heap.size rfl (.tmp 76) (.tmp 78) 30 2 (.int .i64 0) 8 rfl Try.underlying30 info64 rfl (by decide) (by omega) (.slice A' l.length c') (l) (q) [.int .i64 (q)] (fun _ => True) (fun _ => False) rfl rfl ?aP (fun _ hk => hk.elim) ?aF ?aO ?aB ?aS ?aL ?_; (case aP => exact rfl); (case aB => exact HBel.out); (case aF => exact (fun _ _ => trivial)); (case aO => exact HR.out); (case aS => exact HBel.out.size); (case aL => (try simp only [List.length_append, List.length_singleton]); omega); intro v5 w5 ho hb hg hat; obtain ⟨A5, c5, ev⟩ := Kd.R_slice ho; subst ev; have HO5 := Aside0.mk ho; have HB5 := Aside0.mk hb; have HBB5 := Aside0.mk ((hb.block gr HGL.out).trans HB.out.blk); have k5 := blk_cell HBB5.out 1; have f5 := blk_frozen HBB5.out 1; clear ho hb hg hat))
              go_ret2
              obtain ⟨z1, z2⟩ := rb_fin HB.out hn0 HB5.out (n := l.length + 1) (by simp) HO5.out HE.out (by rw [HB'.out]; exact HOK.out)
              rw [HB'.out] at z1
              exact ⟨rfl, ⟨A5, c5, z1⟩, z2⟩
          | succ k2 =>
            have hlt : i < b.L.length := by omega
            have d4 : decide (i < b.L.length) = true := decide_eq_true hlt
            obtain ⟨y, hy⟩ : ∃ y, b.L[i]? = some y := ⟨b.L[i], List.getElem?_eq_getElem hlt⟩
            have htk : b.L.take (i + 1) = b.L.take i ++ [y] := by rw [List.take_add_one, hy]; rfl
            have hdr : b.L.drop i = y :: b.L.drop (i + 1) := by rw [List.drop_eq_getElem_cons hlt]; congr 1; exact (List.getElem?_eq_some_iff.1 hy).2
            obtain ⟨ad, hA, q1⟩ := ReadsOf.at_ (Kd.reads_of_C (enc := Value.int .i64) (d := (0 : Int)) (h1 := fun _ => rfl) (Kd.C_below HC.out HBel.out)) (i : Int) (by omega) (by omega)
            subst hA
            rw [Int.toNat_natCast, show rdOf 0 b.L (i : Int) = y by unfold rdOf; rw [Int.toNat_natCast, List.getD_eq_getElem?_getD, hy]; rfl] at q1
            cases dn with
            | true =>
              have HD2 := Aside0.mk (show (l ++ [y]) ++ b.L.drop (i + 1) = insG q b.L by rw [List.append_assoc, List.singleton_append, ← hdr]; exact HD.out rfl)
              clear hy htk hdr HU HD
              go_wp2_with (first
                | ((with_reducible refine gate_builtin (b := .append) (xs := #[.tmp 64, .tmp 72]) rfl ?_); at_builtin; refine Kd.R_append (Kd.int .i64) (w0 := w) w.heap.size rfl (.tmp 64) (.tmp 72) 30 2 (.int .i64 0) 8 rfl Try.underlying30 info64 rfl (by decide) (by omega) (.slice A' l.length c') (l) (y) [.int .i64 (y)] (fun _ => True) (fun _ => False) rfl rfl ?aP (fun _ hk => hk.elim) ?aF ?aO ?aB ?aS ?aL ?_; (case aP => exact rfl); (case aB => exact HBel.out); (case aF => exact (fun _ _ => trivial)); (case aO => exact HR.out); (case aS => exact HBel.out.size); (case aL => (try simp only [List.length_append, List.length_singleton]); omega); intro v5 w5 ho hb hg hat; obtain ⟨A5, c5, ev⟩ := Kd.R_slice ho; subst ev; have HO5 := Aside0.mk ho; have HB5 := Aside0.mk hb; clear ho hb hg hat))
              go_roundg k2
              case rel => exact ⟨i + 1, l ++ [y], A5, c5, true, by rw [List.length_append, List.length_singleton], rfl, by go_num, by omega, by rw [List.length_append, List.length_singleton]; omega, HO5, HB5, ⟨fun q => by cases q⟩, ⟨fun _ => HD2.out⟩⟩
              case measure => omega
            | false =>
              obtain ⟨hU1, hU2⟩ := HU.out rfl
              by_cases hlt2 : q < y
              · have d5 : decide (q < y) = true := decide_eq_true hlt2
                have hli : l.length ≤ i := by rw [hU1, List.length_take]; omega
                have HD2 := Aside0.mk (show (l ++ [q] ++ [y]) ++ b.L.drop (i + 1) = insG q b.L by
                  have := insG_front (id := q) (L2 := b.L.drop i) hU2
                  rw [List.take_append_drop, hdr, insG, if_pos hlt2] at this
                  rw [this, hU1]
                  simp)
                have HRD := Aside0.mk (show rdOf 0 b.L (i : Int) = y by unfold rdOf; rw [Int.toNat_natCast, List.getD_eq_getElem?_getD, hy]; rfl)
                clear hy htk hdr HU HD hU1 hU2 hlt2
                go_wp2_with (first
                  | ((with_reducible refine gate_builtin (b := .append) (xs := #[.tmp 60, .tmp 62]) rfl ?_); at_builtin; refine Kd.R_append (Kd.int .i64) (w0 := w) w.heap.size rfl (.tmp 60) (.tmp 62) 30 2 (.int .i64 0) 8 rfl Try.underlying30 info64 rfl (by decide) (by omega) (.slice A' l.length c') (l) (q) [.int .i64 (q)] (fun _ => True) (fun _ => False) rfl rfl ?aP (fun _ hk => hk.elim) ?aF ?aO ?aB ?aS ?aL ?_; (case aP => exact rfl); (case aB => exact HBel.out); (case aF => exact (fun _ _ => trivial)); (case aO => exact HR.out); (case aS => exact HBel.out.size); (case aL => (try simp only [List.length_append, List.length_singleton]); omega); intro v5 w5 ho hb hg hat; obtain ⟨A5, c5, ev⟩ := Kd.R_slice ho; subst ev; have HO5 := Aside0.mk ho; have HB5 := Aside0.mk hb; have k5 := blk_cell ((hb.block gr HGL.out).trans HB.out.blk) 1; obtain ⟨ad2, hA2, q5⟩ := ReadsOf.at_ (Kd.reads_of_C (enc := Value.int .i64) (d := (0 : Int)) (h1 := fun _ => rfl) (Kd.C_below HC.out hb)) (i : Int) (by omega) (by omega); injection hA2 with hA2; subst hA2; rw [Int.toNat_natCast, HRD.out] at q5; clear ho hb hg hat)
                  | ((with_reducible refine gate_builtin (b := .append) (xs := #[.tmp 64, .tmp 72]) rfl ?_); at_builtin; refine Kd.R_append (Kd.int .i64) (w0 := w) w.heap.size rfl (.tmp 64) (.tmp 72) 30 2 (.int .i64 0) 8 rfl Try.underlying30 info64 rfl (by decide) (by omega) (.slice A5 (l.length + 1) c5) (l ++ [q]) (y) [.int .i64 (y)] (fun _ => True) (fun _ => False) rfl rfl ?aP (fun _ hk => hk.elim) ?aF ?aO ?aB ?aS ?aL ?_; (case aP => exact rfl); (case aB => exact HB5.out); (case aF => exact (fun _ _ => trivial)); (case aO => exact (by have h_ := HO5.out; rwa [List.length_append, List.length_singleton] at h_)); (case aS => exact HB5.out.size); (case aL => (try simp only [List.length_append, List.length_singleton]); omega); intro v6 w6 ho hb hg hat; obtain ⟨A6, c6, ev⟩ := Kd.R_slice ho; subst ev; have HO6 := Aside0.mk ho; have HB6 := Aside0.mk hb; clear ho hb hg hat))
                go_roundg k2
                case rel => exact ⟨i + 1, l ++ [q] ++ [y], A6, c6, true, by simp, rfl, by go_num, by omega, by simp; omega, HO6, HB6, ⟨fun q => by cases q⟩, ⟨fun _ => HD2.out⟩⟩
                case measure => omega
              · have d5 : decide (q < y) = false := decide_eq_false hlt2
                have HU2 := Aside0.mk (show l ++ [y] = b.L.take (i + 1) ∧ ∀ z ∈ b.L.take (i + 1), ¬ q < z by
                  rw [htk, hU1]
                  refine ⟨rfl, fun z hz => ?_⟩
                  rcases List.mem_append.1 hz with hz | hz
                  · exact hU2 z hz
                  · rw [List.mem_singleton] at hz
                    subst hz
                    exact hlt2)
                clear hy htk hdr HU HD hU1 hU2 hlt2
                go_wp2_with (first
                  | ((with_reducible refine gate_builtin (b := .append) (xs := #[.tmp 64, .tmp 72]) rfl ?_); at_builtin; refine Kd.R_append (Kd.int .i64) (w0 := w) w.heap.size rfl (.tmp 64) (.tmp 72) 30 2 (.int .i64 0) 8 rfl Try.underlying30 info64 rfl (by decide) (by omega) (.slice A' l.length c') (l) (y) [.int .i64 (y)] (fun _ => True) (fun _ => False) rfl rfl ?aP (fun _ hk => hk.elim) ?aF ?aO ?aB ?aS ?aL ?_; (case aP => exact rfl); (case aB => exact HBel.out); (case aF => exact (fun _ _ => trivial)); (case aO => exact HR.out); (case aS => exact HBel.out.size); (case aL => (try simp only [List.length_append, List.length_singleton]); omega); intro v5 w5 ho hb hg hat; obtain ⟨A5, c5, ev⟩ := Kd.R_slice ho; subst ev; have HO5 := Aside0.mk ho; have HB5 := Aside0.mk hb; clear ho hb hg hat))
                go_roundg k2
                case rel => exact ⟨i + 1, l ++ [y], A5, c5, false, by rw [List.length_append, List.length_singleton], rfl, by go_num, by omega, by rw [List.length_append, List.length_singleton]; omega, HO5, HB5, ⟨fun _ => HU2.out⟩, ⟨fun q => by cases q⟩⟩
                case measure => omega
end Go.Proofs.Ytoakooebmnjkhaa.Q
