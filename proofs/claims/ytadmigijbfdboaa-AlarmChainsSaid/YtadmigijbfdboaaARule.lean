import Derived.Test.YtadmigijbfdboaaMA
import Derived.Laws.EntriesVeiled
namespace Go.Proofs.Ytadmigijbfdboaa.Q
open Go.RowKit Go.Proofs.YtadmigijbfdboaaW.PrintWords Go.Proofs.YtadmigijbfdboaaW.PrintLast Go.Proofs.YtadmigijbfdboaaW.PrintMore Go.Proofs.YtadmigijbfdboaaV
set_option linter.unusedVariables false
set_option linter.unusedSimpArgs false

/-- A rule. -/
structure Rul where
  name : ByteArray
  above : Bool
  warn : Int
  crit : Int
  slack : Int
  for_ : Int
  absent : Int
  again : Int
/-- How one stands. -/
structure Stt where
  state : Int
  said : Int
  saidAt : Int
  next : Int
  points : Int
  gaps : Int
  last : Int
  any : Bool
  muted : Int
def ruleCells (r : Rul) (s : Stt) (resp : Value) : Array Value :=
  #[.string r.name, .bool r.above, .int .i64 (hiW r.warn), .int .u64 (loW r.warn), .int .i64 (hiW r.crit), .int .u64 (loW r.crit), .int .i64 (hiW r.slack), .int .u64 (loW r.slack), .int .i64 r.for_, .int .i64 r.absent, .int .i64 r.again,
    .int .i64 s.state, .int .i64 s.said, .int .i64 s.saidAt, .int .i64 s.next, .int .i64 s.points, .int .i64 s.gaps, .int .i64 s.last, .bool s.any, .int .i64 s.muted, resp]
def RuleAt (w : World) (g : Nat) (r : Rul) (s : Stt) (v : Value) : Prop := w.heap[g]? = some (.cells (ruleCells r s v) 76 (0, 0))
/-- What the next value does in a state. -/
def respF (n : Int) : Nat := if n = 2 then 40 else if n = 3 then 41 else 42
def respV (g : Nat) (n : Int) : Value := .func (.func (respF n)) #[.pointer (some ⟨g, 0, none⟩)] #[]
def enterS (s : Stt) (n : Int) : Stt := { s with state := n, next := 0, points := 0 }
def beyondP (r : Rul) (v t sl : Int) : Bool := if r.above then decide (t - sl ≤ v) else decide (v ≤ t + sl)
def levelP (r : Rul) (v ws cs : Int) : Int := if beyondP r v r.crit cs then 3 else if beyondP r v r.warn ws then 2 else 1
theorem sgn_nonneg (z : Int) : (0 ≤ sgn z) ↔ 0 ≤ z := by unfold sgn; split <;> (try split) <;> omega
theorem sgn_nonpos (z : Int) : (sgn z ≤ 0) ↔ z ≤ 0 := by unfold sgn; split <;> (try split) <;> omega

set_option maxHeartbeats 800000 in
theorem rule_enter (w : World) (g : Nat) (r : Rul) (s : Stt) (v : Value) (h : RuleAt w g r s v) (n : Int) :
    Calls Try.prog 26 #[.pointer (some ⟨g, 0, none⟩), .int .i64 n] w fun e w' => e = .returned (.tuple #[]) ∧ RuleAt w' g r (enterS s n) (respV g n) ∧ Keep w w' (fun k => k = g) := by
  unfold RuleAt ruleCells at h
  have c1 := blk_cell h 11
  have f1 := blk_frozen h 11
  have h2 := blk_put h 11 (.int .i64 n) rfl
  have c2 := blk_cell h2 14
  have f2 := blk_frozen h2 14
  have h3 := blk_put h2 14 (.int .i64 0) rfl
  have c3 := blk_cell h3 15
  have f3 := blk_frozen h3 15
  have h4 := blk_put h3 15 (.int .i64 0) rfl
  have c4 := blk_cell h4 20
  have f4 := blk_frozen h4 20
  have H5 := Aside0.mk (fun u => blk_put h4 20 u rfl)
  have HK := Aside0.mk (fun u => ((((Keep.refl w (fun k => k = g)).set ⟨g, 11, none⟩ (.int .i64 n) (.inl rfl)).set ⟨g, 14, none⟩ (.int .i64 0) (.inl rfl)).set ⟨g, 15, none⟩ (.int .i64 0) (.inl rfl)).set ⟨g, 20, none⟩ u (.inl rfl))
  clear h h2 h3 h4
  by_cases n2 : n = 2
  · have e1 : (n == 2) = true := beq_iff_eq.mpr n2
    have HR := Aside0.mk (show respV g n = .func (.func 40) #[.pointer (some ⟨g, 0, none⟩)] #[] by unfold respV respF; rw [if_pos n2])
    clear n2
    go_enter Try.func26, Try.ntmps26
    go_wp2
    go_end0
    rw [HR.out]
    exact ⟨rfl, H5.out _, HK.out _⟩
  · have e1 : (n == 2) = false := beq_eq_false_iff_ne.mpr n2
    by_cases n3 : n = 3
    · have e2 : (n == 3) = true := beq_iff_eq.mpr n3
      have HR := Aside0.mk (show respV g n = .func (.func 41) #[.pointer (some ⟨g, 0, none⟩)] #[] by unfold respV respF; rw [if_neg n2, if_pos n3])
      clear n2 n3
      go_enter Try.func26, Try.ntmps26
      go_wp2
      go_end0
      rw [HR.out]
      exact ⟨rfl, H5.out _, HK.out _⟩
    · have e2 : (n == 3) = false := beq_eq_false_iff_ne.mpr n3
      have HR := Aside0.mk (show respV g n = .func (.func 42) #[.pointer (some ⟨g, 0, none⟩)] #[] by unfold respV respF; rw [if_neg n2, if_neg n3])
      clear n2 n3
      go_enter Try.func26, Try.ntmps26
      go_wp2
      go_end0
      rw [HR.out]
      exact ⟨rfl, H5.out _, HK.out _⟩

set_option maxHeartbeats 1600000 in
theorem rule_beyond (w : World) (g : Nat) (r : Rul) (s : Stt) (u : Value) (h : RuleAt w g r s u) (v t sl : Int) (hv : inW v) (ht : inW t) (hs : inW sl) (h1 : inW (t - sl)) (h2 : inW (t + sl)) :
    Calls Try.prog 57 #[.pointer (some ⟨g, 0, none⟩), WV v, WV t, WV sl] w fun e w' => e = .returned (.bool (beyondP r v t sl)) ∧ Below w.heap.size w w' := by
  have c1 : w.cell? ⟨g, 1, none⟩ = some (.bool r.above) := blk_cell h 1
  have hg := blk_lt h
  have HS := Aside0.mk (fun W => wide_Sub W ht hs (t - sl) 0 (.inl ⟨h1, rfl, rfl⟩))
  have HA := Aside0.mk (fun W => wide_Add W ht hs (t + sl) 0 (.inl ⟨h2, rfl, rfl⟩))
  have HC1 := Aside0.mk (fun W => wide_Cmp W hv h1)
  have HC2 := Aside0.mk (fun W => wide_Cmp W hv h2)
  have g1 := sgn_nonneg (v - (t - sl))
  have g2 := sgn_nonpos (v - (t + sl))
  unfold WV at HS HA HC1 HC2 ⊢
  obtain ⟨va, hva⟩ : ∃ a, a = hiW v := ⟨_, rfl⟩
  obtain ⟨vb, hvb⟩ : ∃ a, a = loW v := ⟨_, rfl⟩
  obtain ⟨ta, hta⟩ : ∃ a, a = hiW t := ⟨_, rfl⟩
  obtain ⟨tb, htb⟩ : ∃ a, a = loW t := ⟨_, rfl⟩
  obtain ⟨sa, hsa⟩ : ∃ a, a = hiW sl := ⟨_, rfl⟩
  obtain ⟨sb, hsb⟩ : ∃ a, a = loW sl := ⟨_, rfl⟩
  rw [← hva, ← hvb] at HC1 HC2
  rw [← hta, ← htb, ← hsa, ← hsb] at HS HA
  rw [← hva, ← hvb, ← hta, ← htb, ← hsa, ← hsb]
  obtain ⟨da, hda⟩ : ∃ a, a = hiW (t - sl) := ⟨_, rfl⟩
  obtain ⟨db, hdb⟩ : ∃ a, a = loW (t - sl) := ⟨_, rfl⟩
  obtain ⟨ea, hea⟩ : ∃ a, a = hiW (t + sl) := ⟨_, rfl⟩
  obtain ⟨eb, heb⟩ : ∃ a, a = loW (t + sl) := ⟨_, rfl⟩
  rw [← hda, ← hdb] at HS HC1
  rw [← hea, ← heb] at HA HC2
  obtain ⟨z1, hz1⟩ : ∃ a, a = sgn (v - (t - sl)) := ⟨_, rfl⟩
  obtain ⟨z2, hz2⟩ : ∃ a, a = sgn (v - (t + sl)) := ⟨_, rfl⟩
  rw [← hz1] at HC1 g1
  rw [← hz2] at HC2 g2
  have HB := Aside0.mk ((((Below.refl w.heap.size w).alloc (Nat.le_refl _) (.cells #[.int .i64 va, .int .u64 vb] 24 (0, 0))).alloc (by simp) (.cells #[.int .i64 ta, .int .u64 tb] 24 (0, 0))).alloc (by simp; omega) (.cells #[.int .i64 sa, .int .u64 sb] 24 (0, 0)))
  have N0 := Aside0.mk (new3 w (.cells #[.int .i64 va, .int .u64 vb] 24 (0, 0)) (.cells #[.int .i64 ta, .int .u64 tb] 24 (0, 0)) (.cells #[.int .i64 sa, .int .u64 sb] 24 (0, 0))).1
  obtain ⟨ab, hab⟩ : ∃ ab, ab = r.above := ⟨_, rfl⟩
  have HP := Aside0.mk (show beyondP r v t sl = if ab then decide (0 ≤ z1) else decide (z2 ≤ 0) by
    unfold beyondP
    rw [← hab]
    cases ab with
    | true => simp only [if_true]; rw [decide_eq_decide, g1]; omega
    | false => simp only [Bool.false_eq_true, if_false]; rw [decide_eq_decide, g2]; omega)
  have cA := blk_cell (blk_alloc (blk_alloc (blk_alloc h (.cells #[.int .i64 va, .int .u64 vb] 24 (0, 0))) (.cells #[.int .i64 ta, .int .u64 tb] 24 (0, 0))) (.cells #[.int .i64 sa, .int .u64 sb] 24 (0, 0))) 1
  rw [show (ruleCells r s u)[1]? = some (.bool r.above) from rfl, ← hab] at cA
  clear h c1 hva hvb hta htb hsa hsb hda hdb hea heb hz1 hz2 g1 g2 hab
  cases ab with
  | true =>
    go_enter Try.func57, Try.ntmps57
    go_wp2_with (first
      | (go_at_call 32; (with_reducible refine (HS.out _).mono ?_); rintro e w1 ⟨rfl, hb1⟩; have HB1 := Aside0.mk ((hop HB.out hb1).alloc ((hop HB.out hb1).size) (.cells #[.int .i64 da, .int .u64 db] 24 (0, 0))); have k0 := blk_cell (blk_alloc ((hb1.block _ (blk_lt N0.out)).trans N0.out) (.cells #[.int .i64 da, .int .u64 db] 24 (0, 0))) 0; have k1 := blk_cell (blk_alloc ((hb1.block _ (blk_lt N0.out)).trans N0.out) (.cells #[.int .i64 da, .int .u64 db] 24 (0, 0))) 1; clear hb1)
      | (go_at_call 50; (with_reducible refine (HC1.out _).mono ?_); rintro e w2 ⟨rfl, hb2⟩; have HB2 := Aside0.mk (hop HB1.out hb2); clear hb2))
    go_ret
    rw [HP.out]
    exact ⟨rfl, HB2.out⟩
  | false =>
    go_enter Try.func57, Try.ntmps57
    go_wp2_with (first
      | (go_at_call 58; (with_reducible refine (HA.out _).mono ?_); rintro e w1 ⟨rfl, hb1⟩; have HB1 := Aside0.mk ((hop HB.out hb1).alloc ((hop HB.out hb1).size) (.cells #[.int .i64 ea, .int .u64 eb] 24 (0, 0))); have k0 := blk_cell (blk_alloc ((hb1.block _ (blk_lt N0.out)).trans N0.out) (.cells #[.int .i64 ea, .int .u64 eb] 24 (0, 0))) 0; have k1 := blk_cell (blk_alloc ((hb1.block _ (blk_lt N0.out)).trans N0.out) (.cells #[.int .i64 ea, .int .u64 eb] 24 (0, 0))) 1; clear hb1)
      | (go_at_call 50; (with_reducible refine (HC2.out _).mono ?_); rintro e w2 ⟨rfl, hb2⟩; have HB2 := Aside0.mk (hop HB1.out hb2); clear hb2))
    go_ret
    rw [HP.out]
    exact ⟨rfl, HB2.out⟩
end Go.Proofs.Ytadmigijbfdboaa.Q
