import Derived.Test.YtadmigijbfdboaaLOne
import Derived.Test.YtadmigijbfdboaaLInv
namespace Go.Proofs.Ytadmigijbfdboaa.Q
open Go.RowKit Go.Proofs.YtadmigijbfdboaaW.PrintWords Go.Proofs.YtadmigijbfdboaaW.PrintLast Go.Proofs.YtadmigijbfdboaaW.PrintMore Go.Proofs.YtadmigijbfdboaaV
set_option linter.unusedVariables false
set_option linter.unusedSimpArgs false

/-- A call that a script holds. -/
structure OpR where
  kind : Int
  name : ByteArray
  at_ : Int
  is : Bool
  val : Int
def kOp : Kd OpR := Kd.iso (Kd.pair (Kd.int .i64) (Kd.pair Kd.string (Kd.pair (Kd.int .i64) (Kd.pair Kd.bool (Kd.pair (Kd.int .i64) (Kd.int .u64)))))) (fun o : OpR => (o.kind, o.name, o.at_, o.is, hiW o.val, loW o.val))
theorem kOp_open {w : World} {o : OpR} {cs : List Value} (h : kOp.K w o cs) : cs = [.int .i64 o.kind, .string o.name, .int .i64 o.at_, .bool o.is, .int .i64 (hiW o.val), .int .u64 (loW o.val)] := by
  obtain ⟨_, _, rfl, rfl, _, _, rfl, rfl, _, _, rfl, rfl, _, _, rfl, rfl, _, _, rfl, rfl, rfl⟩ := h
  exact rfl
def zOp : OpR := ⟨0, ⟨#[]⟩, 0, false, 0⟩
theorem at_Op {w : World} {A : Option Addr} {n : Nat} {xs : List OpR} (h : Kd.C kOp w A n xs) (i : Nat) (o : OpR) (hi : xs[i]? = some o) : ∃ ad, A = some ad ∧ w.cell? (ad.add (i * 6)) = some (.int .i64 o.kind) ∧ w.cell? ⟨(ad.add (i * 6)).block, (ad.add (i * 6)).off + 1, none⟩ = some (.string o.name) ∧ w.cell? ⟨(ad.add (i * 6)).block, (ad.add (i * 6)).off + 2, none⟩ = some (.int .i64 o.at_) ∧ w.cell? ⟨(ad.add (i * 6)).block, (ad.add (i * 6)).off + 3, none⟩ = some (.bool o.is) ∧ w.cell? ⟨(ad.add (i * 6)).block, (ad.add (i * 6)).off + 4, none⟩ = some (.int .i64 (hiW o.val)) ∧ w.cell? ⟨(ad.add (i * 6)).block, (ad.add (i * 6)).off + 5, none⟩ = some (.int .u64 (loW o.val)) := by
  have hn : xs.length = n := h.1
  have hl := (List.getElem?_eq_some_iff.1 hi).1
  obtain ⟨ad, c, e, _, hK, hc0⟩ := Kd.C_get h zOp (i : Int) (by omega) (by omega)
  have hc : ∀ j u, c[j]? = some u → w.cell? (ad.add (i * 6 + j)) = some u := by
    intro j u hj
    have := hc0 j u hj
    rw [Int.toNat_natCast] at this
    exact this
  have hx : xs.getD (i : Int).toNat zOp = o := by rw [Int.toNat_natCast, List.getD_eq_getElem?_getD, hi]; rfl
  rw [hx] at hK
  obtain rfl := kOp_open hK
  exact ⟨ad, e, hc 0 _ rfl, by rw [← add_field _ _ 1 (by omega)]; exact hc 1 _ rfl, by rw [← add_field _ _ 2 (by omega)]; exact hc 2 _ rfl, by rw [← add_field _ _ 3 (by omega)]; exact hc 3 _ rfl, by rw [← add_field _ _ 4 (by omega)]; exact hc 4 _ rfl, by rw [← add_field _ _ 5 (by omega)]; exact hc 5 _ rfl⟩

theorem idxP_one (g : Nat) (r : Rul) (s : Stt) : idxP [(g, r, s)] r.name = some 0 := by simp [idxP]
theorem feedP_bad {L : List Ent} {name : ByteArray} {i g : Nat} {r : Rul} {s : Stt} (hi : idxP L name = some i) (hx : L[i]? = some (g, r, s)) {at_ : Int} (ht : ¬ inT at_) (is : Bool) (val : Int) : feedP L name at_ is val = ([], 1, L) := by
  unfold feedP
  rw [hi]
  simp only [hx]
  rw [if_pos ht]
theorem feedP_past {L : List Ent} {name : ByteArray} {i g : Nat} {r : Rul} {s : Stt} (hi : idxP L name = some i) (hx : L[i]? = some (g, r, s)) {at_ : Int} (ht : inT at_) (hp : at_ ≤ lastP s) (is : Bool) (val : Int) : feedP L name at_ is val = ([], 232, L) := by
  have h1 : s.any = true ∧ at_ ≤ s.last := by
    unfold lastP at hp
    unfold inT at ht
    split at hp
    · rename_i q; exact ⟨q, hp⟩
    · omega
  unfold feedP
  rw [hi]
  simp only [hx]
  rw [if_neg (fun q => q ht), if_pos h1]
theorem feedP_ok {L : List Ent} {name : ByteArray} {i g : Nat} {r : Rul} {s : Stt} (hi : idxP L name = some i) (hx : L[i]? = some (g, r, s)) {at_ : Int} (ht : inT at_) (hp : lastP s < at_) (is : Bool) (val : Int) : feedP L name at_ is val = (alertsP r (stepP r s at_ is val) at_ is (if is then val else 0), 0, L.set i (g, r, saidP r (stepP r s at_ is val) at_)) := by
  have h1 : ¬ (s.any = true ∧ at_ ≤ s.last) := by
    rintro ⟨a, b⟩
    unfold lastP at hp
    rw [if_pos a] at hp
    omega
  unfold feedP
  rw [hi]
  simp only [hx]
  rw [if_neg (fun q => q ht), if_neg h1]
theorem one_Feed {w : World} {gb : Nat} {A : Option Addr} {c g : Nat} {r : Rul} {s : Stt} (h : BookAt w gb gb A c [(g, r, s)]) (iv : RInv r s) (ok : RulOk r) (at_ : Int) (is : Bool) (val : Int) (hv : inW val) (l : List Alr) (er : Int) (s2 : Stt) (hf : feedP [(g, r, s)] r.name at_ is val = (l, er, [(g, r, s2)])) :
    Calls Try.prog 11 #[.pointer (some ⟨gb, 0, none⟩), .string r.name, .int .i64 at_, .agg #[.bool is, .int .i64 (hiW val), .int .u64 (loW val)]] w fun e w' => ∃ A' c', e = .returned (.tuple #[.slice A' l.length c', .int .i64 er]) ∧ AlrsAt w' A' l ∧ (∀ ad, A' = some ad → w.heap.size ≤ ad.block) ∧ BookAt w' gb gb A c [(g, r, s2)] ∧ Keep w w' (fun k => k = g) := by
  have := book_Feed h (Nat.le_of_lt (blk_lt h.blk)) r.name at_ is val (by simp) (fun x hx => by rw [List.mem_singleton] at hx; subst hx; exact ⟨ok, iv.ok ok⟩) hv
  rw [hf] at this
  refine this.mono ?_
  rintro e w' ⟨A', c', h1, h2, h3, h4, h5⟩
  exact ⟨A', c', h1, h2, h3, h4, h5.mono (fun k _ q => by obtain ⟨x, hx, e⟩ := q; rw [List.mem_singleton] at hx; subst hx; exact e)⟩
theorem one_Feed_bad {w : World} {gb : Nat} {A : Option Addr} {c g : Nat} {r : Rul} {s : Stt} (h : BookAt w gb gb A c [(g, r, s)]) (iv : RInv r s) (ok : RulOk r) {at_ : Int} (is : Bool) {val : Int} (hv : inW val) {er : Int} (he : (¬ inT at_ ∧ er = 1) ∨ (inT at_ ∧ at_ ≤ lastP s ∧ er = 232)) :
    Calls Try.prog 11 #[.pointer (some ⟨gb, 0, none⟩), .string r.name, .int .i64 at_, .agg #[.bool is, .int .i64 (hiW val), .int .u64 (loW val)]] w fun e w' => ∃ A' c', e = .returned (.tuple #[.slice A' 0 c', .int .i64 er]) ∧ BookAt w' gb gb A c [(g, r, s)] ∧ Keep w w' (fun k => k = g) := by
  have hf : feedP [(g, r, s)] r.name at_ is val = ([], er, [(g, r, s)]) := by
    rcases he with ⟨h1, rfl⟩ | ⟨h1, h2, rfl⟩
    · exact feedP_bad (idxP_one g r s) rfl h1 is val
    · exact feedP_past (idxP_one g r s) rfl h1 h2 is val
  refine (one_Feed h iv ok at_ is val hv _ _ _ hf).mono ?_
  rintro e w' ⟨A', c', h1, h2, h3, h4, h5⟩
  exact ⟨A', c', h1, h4, h5⟩
theorem one_Feed_ok {w : World} {gb : Nat} {A : Option Addr} {c g : Nat} {r : Rul} {s : Stt} (h : BookAt w gb gb A c [(g, r, s)]) (iv : RInv r s) (ok : RulOk r) {at_ : Int} {is : Bool} {val : Int} (hv : inW val) (ht : inT at_) (hp : lastP s < at_) {s1 : Stt} (h1 : s1 = stepP r s at_ is val) :
    Calls Try.prog 11 #[.pointer (some ⟨gb, 0, none⟩), .string r.name, .int .i64 at_, .agg #[.bool is, .int .i64 (hiW val), .int .u64 (loW val)]] w fun e w' => ∃ A' c', e = .returned (.tuple #[.slice A' (alertsP r s1 at_ is (if is then val else 0)).length c', .int .i64 0]) ∧ AlrsAt w' A' (alertsP r s1 at_ is (if is then val else 0)) ∧ (∀ ad, A' = some ad → w.heap.size ≤ ad.block) ∧ BookAt w' gb gb A c [(g, r, saidP r s1 at_)] ∧ Keep w w' (fun k => k = g) := by
  subst h1
  exact one_Feed h iv ok at_ is val hv _ _ _ (feedP_ok (idxP_one g r s) rfl ht hp is val)
/-- Nothing is said. -/
theorem one_Feed_none {w : World} {gb : Nat} {A : Option Addr} {c g : Nat} {r : Rul} {s : Stt} (h : BookAt w gb gb A c [(g, r, s)]) (iv : RInv r s) (ok : RulOk r) {at_ : Int} {is : Bool} {val : Int} (hv : inW val) (ht : inT at_) (hp : lastP s < at_) {s1 : Stt} (h1 : s1 = stepP r s at_ is val) (hq : sayP r s1 at_ = none) :
    Calls Try.prog 11 #[.pointer (some ⟨gb, 0, none⟩), .string r.name, .int .i64 at_, .agg #[.bool is, .int .i64 (hiW val), .int .u64 (loW val)]] w fun e w' => ∃ A' c', e = .returned (.tuple #[.slice A' 0 c', .int .i64 0]) ∧ BookAt w' gb gb A c [(g, r, s1)] ∧ Keep w w' (fun k => k = g) := by
  refine (one_Feed_ok h iv ok hv ht hp h1).mono ?_
  rintro e w' ⟨A', c', rfl, h2, h3, h4, h5⟩
  have e1 : alertsP r s1 at_ is (if is then val else 0) = [] := by unfold alertsP; rw [hq]
  have e2 : saidP r s1 at_ = s1 := by unfold saidP; rw [hq]
  rw [e1]
  rw [e2] at h4
  exact ⟨A', c', rfl, h4, h5⟩
/-- One word is said. -/
theorem one_Feed_some {w : World} {gb : Nat} {A : Option Addr} {c g : Nat} {r : Rul} {s : Stt} (h : BookAt w gb gb A c [(g, r, s)]) (iv : RInv r s) (ok : RulOk r) {at_ : Int} {is : Bool} {val : Int} (hv : inW val) (ht : inT at_) (hp : lastP s < at_) {s1 : Stt} (h1 : s1 = stepP r s at_ is val) {q : Bool} (hq : sayP r s1 at_ = some q) {x : Int} (hx : x = if is then val else 0) :
    Calls Try.prog 11 #[.pointer (some ⟨gb, 0, none⟩), .string r.name, .int .i64 at_, .agg #[.bool is, .int .i64 (hiW val), .int .u64 (loW val)]] w fun e w' => ∃ ga c', e = .returned (.tuple #[.slice (some ⟨ga, 0, none⟩) 1 c', .int .i64 0]) ∧ w'.heap[ga]? = some (.cells #[.string r.name, .int .i64 at_, .int .i64 s1.said, .int .i64 s1.state, .bool q, .bool is, .int .i64 (hiW x), .int .u64 (loW x)] 48 (0, 0)) ∧ w.heap.size ≤ ga ∧ BookAt w' gb gb A c [(g, r, { s1 with said := s1.state, saidAt := at_ })] ∧ Keep w w' (fun k => k = g) := by
  refine (one_Feed_ok h iv ok hv ht hp h1).mono ?_
  rintro e w' ⟨A', c', rfl, h2, h3, h4, h5⟩
  subst hx
  have e1 : alertsP r s1 at_ is (if is then val else 0) = [⟨r.name, at_, s1.said, s1.state, q, is, if is then val else 0⟩] := by unfold alertsP; rw [hq]
  have e2 : saidP r s1 at_ = { s1 with said := s1.state, saidAt := at_ } := by unfold saidP; rw [hq]
  rw [e1] at h2 ⊢
  rw [e2] at h4
  rcases h2 with h2 | ⟨a, ga, e, rfl, hg⟩
  · cases h2
  · injection e with e
    subst e
    exact ⟨ga, c', rfl, hg, h3 _ rfl, h4, h5⟩
theorem one_Mute {w : World} {gb : Nat} {A : Option Addr} {c g : Nat} {r : Rul} {s : Stt} (h : BookAt w gb gb A c [(g, r, s)]) {t : Int} (ht : inT t) :
    Calls Try.prog 19 #[.pointer (some ⟨gb, 0, none⟩), .string r.name, .int .i64 t] w fun e w' => e = .returned (.int .i64 0) ∧ BookAt w' gb gb A c [(g, r, { s with muted := t })] ∧ Keep w w' (fun k => k = g) := by
  have := book_Mute h r.name t (by simp)
  rw [show muteP [(g, r, s)] r.name t = (0, [(g, r, { s with muted := t })]) by unfold muteP; rw [idxP_one]; simp only [if_pos ht]; rfl] at this
  refine this.mono ?_
  rintro e w' ⟨h1, h2, h5⟩
  exact ⟨h1, h2, h5.mono (fun k _ q => by obtain ⟨x, hx, e⟩ := q; rw [List.mem_singleton] at hx; subst hx; exact e)⟩
theorem one_Mute_bad {w : World} {gb : Nat} {A : Option Addr} {c g : Nat} {r : Rul} {s : Stt} (h : BookAt w gb gb A c [(g, r, s)]) {t : Int} (ht : ¬ inT t) :
    Calls Try.prog 19 #[.pointer (some ⟨gb, 0, none⟩), .string r.name, .int .i64 t] w fun e w' => e = .returned (.int .i64 1) ∧ BookAt w' gb gb A c [(g, r, s)] ∧ Keep w w' (fun k => k = g) := by
  have := book_Mute h r.name t (by simp)
  rw [show muteP [(g, r, s)] r.name t = (1, [(g, r, s)]) by unfold muteP; rw [idxP_one]; simp only [if_neg ht]] at this
  refine this.mono ?_
  rintro e w' ⟨h1, h2, h5⟩
  exact ⟨h1, h2, h5.mono (fun k _ q => by obtain ⟨x, hx, e⟩ := q; rw [List.mem_singleton] at hx; subst hx; exact e)⟩
theorem one_State {w : World} {gb : Nat} {A : Option Addr} {c g : Nat} {r : Rul} {s : Stt} (h : BookAt w gb gb A c [(g, r, s)]) :
    Calls Try.prog 12 #[.pointer (some ⟨gb, 0, none⟩), .string r.name] w fun e w' => e = .returned (.tuple #[.int .i64 s.state, .bool true]) ∧ w = w' := by
  have := book_State h r.name (by simp)
  rw [show stateP [(g, r, s)] r.name = (s.state, true) by unfold stateP; rw [idxP_one]; rfl] at this
  exact this
/-- A book of one rule that may be. -/
theorem law_one_may (w : World) {r : Rul} (hin : RulIn r) (hm : MayP r) :
    Calls Try.prog 9 #[.agg (ruleA r)] w fun e w' => ∃ gb A c g, Below w.heap.size w w' ∧ w.heap.size ≤ gb ∧ gb ≤ g ∧ e = .returned (.tuple #[.pointer (some ⟨gb, 0, none⟩), .bool true, .bool true]) ∧ BookAt w' gb gb A c [(g, r, stt0)] := by
  refine (law_one w r hin).mono ?_
  rintro e w' ⟨hb, ⟨h, -⟩ | ⟨-, gb, A, c, g, h1, h2, h3⟩⟩
  · exact (h hm).elim
  · exact ⟨gb, A, c, g, hb, h1, (h3.rules _ (List.mem_singleton.2 rfl)).2, h2, h3⟩
theorem law_one_not (w : World) {r : Rul} (hin : RulIn r) (hm : ¬ MayP r) :
    Calls Try.prog 9 #[.agg (ruleA r)] w fun e w' => Below w.heap.size w w' ∧ e = .returned (.tuple #[.pointer none, .bool false, .bool true]) := by
  refine (law_one w r hin).mono ?_
  rintro e w' ⟨hb, ⟨-, h⟩ | ⟨h, -⟩⟩
  · exact ⟨hb, h⟩
  · exact (hm h).elim
theorem stt0_inv {r : Rul} (ok : RulOk r) : RInv r stt0 := by
  have := ok.for_
  exact ⟨by decide, by decide, ⟨Int.le_refl _, by show (0:Int) ≤ _; omega⟩, by decide, by decide, fun h => by cases h⟩
/-- When something is said. -/
theorem say_none {r : Rul} {s : Stt} {t : Int} (h : sayP r s t = none) : t < s.muted ∨ (¬ t < s.muted ∧ s.state = s.said) := by
  unfold sayP at h
  split at h
  · rename_i q; exact .inl q
  · rename_i q
    split at h
    · rename_i q2; exact .inr ⟨q, q2⟩
    · cases h
theorem say_some {r : Rul} {s : Stt} {t : Int} {q : Bool} (h : sayP r s t = some q) : ¬ t < s.muted ∧ ((q = true ∧ s.state = s.said ∧ s.state ≠ 1 ∧ 0 < r.again) ∨ (q = false ∧ s.state ≠ s.said)) := by
  unfold sayP at h
  split at h
  · cases h
  · rename_i a
    refine ⟨a, ?_⟩
    split at h
    · rename_i b
      split at h
      · rename_i d
        injection h with h
        exact .inl ⟨h.symm, b, d.1, d.2.1⟩
      · cases h
    · rename_i b
      injection h with h
      exact .inr ⟨h.symm, b⟩
end Go.Proofs.Ytadmigijbfdboaa.Q
