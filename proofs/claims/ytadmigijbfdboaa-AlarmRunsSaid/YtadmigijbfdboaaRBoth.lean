import Derived.Test.YtadmigijbfdboaaRFeedOk
import Derived.Test.YtadmigijbfdboaaLTwo
namespace Go.Proofs.Ytadmigijbfdboaa.Q
open Go.RowKit Go.Proofs.YtadmigijbfdboaaW.PrintWords Go.Proofs.YtadmigijbfdboaaW.PrintLast Go.Proofs.YtadmigijbfdboaaW.PrintMore Go.Proofs.YtadmigijbfdboaaV
set_option linter.unusedVariables false
set_option linter.unusedSimpArgs false

def EOk (x : Ent) : Prop := RulOk x.2.1 ∧ RInv x.2.1 x.2.2 ∧ RulIn x.2.1
theorem any_RFeed {w : World} {gb g o : Nat} {A : Option Addr} {c : Nat} {L : List Ent} (h : RBookAt w gb g o A c L) (hL : L.length ≤ 1000000) (hok : ∀ x ∈ L, EOk x) {name : ByteArray} {at_ : Int} {is : Bool} {val : Int} (hv : inW val) {l : List Alr} {er : Int} {L' : List Ent} (hf : feedP L name at_ is val = (l, er, L')) :
    Calls Try.prog 17 #[.pointer (some ⟨gb, 0, none⟩), .string name, .int .i64 at_, .agg #[.bool is, .int .i64 (hiW val), .int .u64 (loW val)]] w fun e w' => ∃ A' c', e = .returned (.tuple #[.slice A' l.length c', .int .i64 er]) ∧ AlrsAt w' A' l ∧ (∀ ad, A' = some ad → w.heap.size ≤ ad.block) ∧ RBookAt w' gb g o A c L' ∧ Keep w w' (fun k => L ≠ [] ∧ k = g) := by
  have key : ∀ er, ((idxP L name = none ∧ er = 231) ∨ (∃ i n r s, idxP L name = some i ∧ L[i]? = some (n, r, s) ∧ ((¬ inT at_ ∧ er = 1) ∨ (inT at_ ∧ at_ ≤ lastP s ∧ er = 232)))) → Calls Try.prog 17 #[.pointer (some ⟨gb, 0, none⟩), .string name, .int .i64 at_, .agg #[.bool is, .int .i64 (hiW val), .int .u64 (loW val)]] w fun e w' => ∃ A' c', e = .returned (.tuple #[.slice A' ([] : List Alr).length c', .int .i64 er]) ∧ AlrsAt w' A' [] ∧ (∀ ad, A' = some ad → w.heap.size ≤ ad.block) ∧ RBookAt w' gb g o A c L ∧ Keep w w' (fun k => L ≠ [] ∧ k = g) := by
    intro er her
    refine (refb_Feed_err h name at_ is (hiW val) (loW val) hL er her).mono ?_
    rintro e w' ⟨rfl, hb⟩
    exact ⟨none, 0, rfl, .inl rfl, (fun ad e => by cases e), h.below hb, Keep.of_below hb⟩
  cases hi : idxP L name with
  | none =>
    have e0 : feedP L name at_ is val = ([], 231, L) := by unfold feedP; rw [hi]
    rw [e0] at hf
    obtain ⟨rfl, hf2⟩ := Prod.mk.inj hf
    obtain ⟨rfl, rfl⟩ := Prod.mk.inj hf2
    exact key 231 (.inl ⟨hi, rfl⟩)
  | some i =>
    obtain ⟨⟨n, r, s⟩, hx, -, -⟩ := idxP_lt hi
    obtain ⟨ok, iv, hin⟩ := hok _ (List.mem_of_getElem? hx)
    by_cases ht : inT at_
    · by_cases hp : at_ ≤ lastP s
      · rw [feedP_past hi hx ht hp is val] at hf
        obtain ⟨rfl, hf2⟩ := Prod.mk.inj hf
        obtain ⟨rfl, rfl⟩ := Prod.mk.inj hf2
        exact key 232 (.inr ⟨i, n, r, s, hi, hx, .inr ⟨ht, hp, rfl⟩⟩)
      · rw [feedP_ok hi hx ht (by omega) is val] at hf
        obtain ⟨rfl, hf2⟩ := Prod.mk.inj hf
        obtain ⟨rfl, rfl⟩ := Prod.mk.inj hf2
        refine (refb_Feed_ok h name at_ is val hL hi hx ok hin (iv.ok ok) ht (by omega) hv rfl _ rfl).mono ?_
        rintro e w' ⟨A', c', rfl, h1, h2, h3, h4⟩
        exact ⟨A', c', rfl, h1, h2, h3, h4.mono (fun k _ q => ⟨ne_of_get hx, q⟩)⟩
    · rw [feedP_bad hi hx ht is val] at hf
      obtain ⟨rfl, hf2⟩ := Prod.mk.inj hf
      obtain ⟨rfl, rfl⟩ := Prod.mk.inj hf2
      exact key 1 (.inr ⟨i, n, r, s, hi, hx, .inl ⟨ht, rfl⟩⟩)
theorem set_inv {L : List Ent} (hok : ∀ x ∈ L, EOk x) {i g : Nat} {r : Rul} {s s' : Stt} (hx : L[i]? = some (g, r, s)) (iv : RInv r s') : (∀ x ∈ L.set i (g, r, s'), EOk x ∧ ∃ y ∈ L, y.1 = x.1) ∧ (L.set i (g, r, s')).length = L.length := by
  refine ⟨fun x hxm => ?_, List.length_set⟩
  have h0 := hok _ (List.mem_of_getElem? hx)
  rcases List.mem_or_eq_of_mem_set hxm with h | rfl
  · exact ⟨hok x h, x, h, rfl⟩
  · exact ⟨⟨h0.1, iv, h0.2.2⟩, _, List.mem_of_getElem? hx, rfl⟩
theorem self_inv {L : List Ent} (hok : ∀ x ∈ L, EOk x) : (∀ x ∈ L, EOk x ∧ ∃ y ∈ L, y.1 = x.1) ∧ L.length = L.length := ⟨fun x hx => ⟨hok x hx, x, hx, rfl⟩, rfl⟩
theorem feedP_inv {L : List Ent} (hok : ∀ x ∈ L, EOk x) {name : ByteArray} {at_ : Int} {is : Bool} {val : Int} {l : List Alr} {er : Int} {L' : List Ent} (hf : feedP L name at_ is val = (l, er, L')) : (∀ x ∈ L', EOk x ∧ ∃ y ∈ L, y.1 = x.1) ∧ L'.length = L.length := by
  cases hi : idxP L name with
  | none =>
    have e0 : feedP L name at_ is val = ([], 231, L) := by unfold feedP; rw [hi]
    rw [e0] at hf
    obtain ⟨rfl, hf2⟩ := Prod.mk.inj hf
    obtain ⟨rfl, rfl⟩ := Prod.mk.inj hf2
    exact self_inv hok
  | some i =>
    obtain ⟨⟨n, r, s⟩, hx, -, -⟩ := idxP_lt hi
    obtain ⟨ok, iv, hin⟩ := hok _ (List.mem_of_getElem? hx)
    obtain ⟨l1, er1, s', iv', -, -, h⟩ := feed_any iv ok at_ is val
    rw [h L i n name hi hx] at hf
    obtain ⟨rfl, hf2⟩ := Prod.mk.inj hf
    obtain ⟨rfl, rfl⟩ := Prod.mk.inj hf2
    exact set_inv hok hx iv'
theorem muteP_inv {L : List Ent} (hok : ∀ x ∈ L, EOk x) {name : ByteArray} {t : Int} {er : Int} {L' : List Ent} (hf : muteP L name t = (er, L')) : (∀ x ∈ L', EOk x ∧ ∃ y ∈ L, y.1 = x.1) ∧ L'.length = L.length := by
  cases hi : idxP L name with
  | none =>
    have e0 : muteP L name t = (231, L) := by unfold muteP; rw [hi]
    rw [e0] at hf
    obtain ⟨rfl, rfl⟩ := Prod.mk.inj hf
    exact self_inv hok
  | some i =>
    obtain ⟨⟨n, r, s⟩, hx, -, -⟩ := idxP_lt hi
    obtain ⟨ok, iv, hin⟩ := hok _ (List.mem_of_getElem? hx)
    obtain ⟨er1, s', iv', h⟩ := mute_any iv t
    rw [h L i n name hi hx] at hf
    obtain ⟨rfl, rfl⟩ := Prod.mk.inj hf
    exact set_inv hok hx iv'
/-- The program's book and the reference's, side by side. -/
structure Mid (W0 w : World) (M gb gr g o : Nat) (A : Option Addr) (c : Nat) (A2 : Option Addr) (c2 : Nat) (La Lb : List Ent) : Prop where
  a : BookAt w gb gb A c La
  b : RBookAt w gr g o A2 c2 Lb
  bel : Below W0.heap.size W0 w
  gbn : W0.heap.size ≤ gb
  lo : gb < M
  loA : ∀ x ∈ La, x.1 < M
  loR : ∀ k, (Value.slice A La.length c).ownBlock = some k → k < M
  hir : M ≤ gr
  hig : Lb ≠ [] → M ≤ g
  oka : ∀ x ∈ La, EOk x
  okb : ∀ x ∈ Lb, EOk x
  la : La.length ≤ 64
  lb : Lb.length ≤ 64
section
variable {W0 w : World} {M gb gr g o : Nat} {A : Option Addr} {c : Nat} {A2 : Option Addr} {c2 : Nat} {La Lb : List Ent}
theorem Mid.g_lt (h : Mid W0 w M gb gr g o A c A2 c2 La Lb) (hn : Lb ≠ []) : g < w.heap.size := by
  obtain ⟨x, t, rfl⟩ := List.exists_cons_of_ne_nil hn
  exact (h.b.row 0 x rfl).lt rfl
theorem Mid.quiet (h : Mid W0 w M gb gr g o A c A2 c2 La Lb) {w' : World} (hb : Below w.heap.size w w') : Mid W0 w' M gb gr g o A c A2 c2 La Lb :=
  ⟨h.a.quiet (below_keep hb), h.b.below hb, hop h.bel hb, h.gbn, h.lo, h.loA, h.loR, h.hir, h.hig, h.oka, h.okb, h.la, h.lb⟩
theorem KeptC.keep_ne {w w' : World} {g o : Nat} {r : Rul} {s : Stt} (h : KeptC w g o (kc r s)) {S : Nat → Prop} (hk : Keep w w' S) (hS : ¬ S g) : KeptC w' g o (kc r s) := h.keep (h.lt rfl) hk hS
theorem RBookAt.keep {w w' : World} {gb g o : Nat} {A : Option Addr} {c : Nat} {L : List Ent} (h : RBookAt w gb g o A c L) {S : Nat → Prop} (hk : Keep w w' S) (h1 : ¬ S gb) (h2 : L ≠ [] → ¬ S g) : RBookAt w' gb g o A c L :=
  ⟨(hk.block gb (blk_lt h.blk) h1).trans h.blk, h.at_, fun i x hx => (h.row i x hx).keep_ne hk (h2 (ne_of_get hx)), h.ne⟩
theorem Mid.aMoves (h : Mid W0 w M gb gr g o A c A2 c2 La Lb) {w' : World} {La' : List Ent} (ha : BookAt w' gb gb A c La') (hk : Keep w w' (fun k => ∃ x ∈ La, k = x.1)) (hi : (∀ x ∈ La', EOk x ∧ ∃ y ∈ La, y.1 = x.1) ∧ La'.length = La.length) : Mid W0 w' M gb gr g o A c A2 c2 La' Lb := by
  refine ⟨ha, h.b.keep hk ?_ ?_, h.bel.trans (hk.below h.bel.size (fun k q => ?_)), h.gbn, h.lo, fun x hx => ?_, ?_, h.hir, h.hig, fun x hx => (hi.1 x hx).1, h.okb, by rw [hi.2]; exact h.la, h.lb⟩
  · rintro ⟨x, hx, e⟩
    have := h.loA x hx
    have := h.hir
    omega
  · rintro hn ⟨x, hx, e⟩
    have := h.loA x hx
    have := h.hig hn
    omega
  · obtain ⟨x, hx, rfl⟩ := q
    have := (h.a.rules x hx).2
    have := h.gbn
    omega
  · obtain ⟨-, y, hy, e⟩ := hi.1 x hx
    rw [← e]
    exact h.loA y hy
  · rw [hi.2]
    exact h.loR
theorem Mid.bMoves (h : Mid W0 w M gb gr g o A c A2 c2 La Lb) {w' : World} {Lb' : List Ent} (hb : RBookAt w' gr g o A2 c2 Lb') (hk : Keep w w' (fun k => Lb ≠ [] ∧ k = g)) (hi : (∀ x ∈ Lb', EOk x ∧ ∃ y ∈ Lb, y.1 = x.1) ∧ Lb'.length = Lb.length) : Mid W0 w' M gb gr g o A c A2 c2 La Lb' := by
  refine ⟨h.a.keep hk ?_ ?_ ?_, hb, h.bel.trans (hk.below h.bel.size (fun k q => ?_)), h.gbn, h.lo, h.loA, h.loR, h.hir, ?_, h.oka, fun x hx => (hi.1 x hx).1, h.la, by rw [hi.2]; exact h.lb⟩
  · rintro ⟨hn, e⟩
    have := h.hig hn
    have := h.lo
    omega
  · rintro k hk ⟨hn, e⟩
    have := h.loR k hk
    have := h.hig hn
    omega
  · rintro x hx ⟨hn, e⟩
    have := h.loA x hx
    have := h.hig hn
    omega
  · obtain ⟨hn, rfl⟩ := q
    have := h.hig hn
    have := h.lo
    have := h.gbn
    omega
  · intro hn
    refine h.hig (fun e => hn ?_)
    have := hi.2
    rw [e] at this
    exact List.length_eq_zero_iff.1 this
theorem Mid.aFrame (h : Mid W0 w M gb gr g o A c A2 c2 La Lb) {w' : World} (hk : Keep w w' (fun k => ∃ x ∈ La, k = x.1)) : ∀ k x, M ≤ k → w.heap[k]? = some x → w'.heap[k]? = some x := by
  intro k x hM hx
  refine (hk.block k (blk_lt hx) ?_).trans hx
  rintro ⟨y, hy, e⟩
  have := h.loA y hy
  omega
theorem bFrame {w w' : World} {g : Nat} {Lb : List Ent} (hk : Keep w w' (fun k => Lb ≠ [] ∧ k = g)) : ∀ k x, (Lb ≠ [] → k ≠ g) → w.heap[k]? = some x → w'.heap[k]? = some x := by
  intro k x hM hx
  exact (hk.block k (blk_lt hx) (fun q => hM q.1 q.2)).trans hx
theorem Mid.M_le (h : Mid W0 w M gb gr g o A c A2 c2 La Lb) : M ≤ w.heap.size := Nat.le_trans h.hir (Nat.le_of_lt (blk_lt h.b.blk))
theorem Mid.FeedA (h : Mid W0 w M gb gr g o A c A2 c2 La Lb) {name : ByteArray} {at_ : Int} {is : Bool} {val : Int} (hv : inW val) {l : List Alr} {er : Int} {La' : List Ent} (hf : feedP La name at_ is val = (l, er, La')) :
    Calls Try.prog 11 #[.pointer (some ⟨gb, 0, none⟩), .string name, .int .i64 at_, .agg #[.bool is, .int .i64 (hiW val), .int .u64 (loW val)]] w fun e w' => ∃ A' c', e = .returned (.tuple #[.slice A' l.length c', .int .i64 er]) ∧ AlrsAt w' A' l ∧ (∀ ad, A' = some ad → w.heap.size ≤ ad.block) ∧ Mid W0 w' M gb gr g o A c A2 c2 La' Lb ∧ (∀ k x, M ≤ k → w.heap[k]? = some x → w'.heap[k]? = some x) ∧ w.heap.size ≤ w'.heap.size := by
  refine (any_Feed h.a (by have := h.la; omega) (fun x hx => ⟨(h.oka x hx).1, (h.oka x hx).2.1⟩) hv hf).mono ?_
  rintro e w' ⟨A', c', rfl, h1, h2, h3, h4⟩
  exact ⟨A', c', rfl, h1, h2, h.aMoves h3 h4 (feedP_inv h.oka hf), h.aFrame h4, h4.size⟩
theorem Mid.FeedB (h : Mid W0 w M gb gr g o A c A2 c2 La Lb) {name : ByteArray} {at_ : Int} {is : Bool} {val : Int} (hv : inW val) {l : List Alr} {er : Int} {Lb' : List Ent} (hf : feedP Lb name at_ is val = (l, er, Lb')) :
    Calls Try.prog 17 #[.pointer (some ⟨gr, 0, none⟩), .string name, .int .i64 at_, .agg #[.bool is, .int .i64 (hiW val), .int .u64 (loW val)]] w fun e w' => ∃ A' c', e = .returned (.tuple #[.slice A' l.length c', .int .i64 er]) ∧ AlrsAt w' A' l ∧ Mid W0 w' M gb gr g o A c A2 c2 La Lb' ∧ (∀ k x, (Lb ≠ [] → k ≠ g) → w.heap[k]? = some x → w'.heap[k]? = some x) ∧ Keep w w' (fun k => Lb ≠ [] ∧ k = g) := by
  refine (any_RFeed h.b (by have := h.lb; omega) h.okb hv hf).mono ?_
  rintro e w' ⟨A', c', rfl, h1, h2, h3, h4⟩
  exact ⟨A', c', rfl, h1, h.bMoves h3 h4 (feedP_inv h.okb hf), bFrame h4, h4⟩
theorem Mid.MuteA (h : Mid W0 w M gb gr g o A c A2 c2 La Lb) {name : ByteArray} {t : Int} {er : Int} {La' : List Ent} (hf : muteP La name t = (er, La')) :
    Calls Try.prog 19 #[.pointer (some ⟨gb, 0, none⟩), .string name, .int .i64 t] w fun e w' => e = .returned (.int .i64 er) ∧ Mid W0 w' M gb gr g o A c A2 c2 La' Lb ∧ (∀ k x, M ≤ k → w.heap[k]? = some x → w'.heap[k]? = some x) := by
  refine (any_Mute h.a (by have := h.la; omega) hf).mono ?_
  rintro e w' ⟨rfl, h3, h4⟩
  exact ⟨rfl, h.aMoves h3 h4 (muteP_inv h.oka hf), h.aFrame h4⟩
theorem Mid.MuteB (h : Mid W0 w M gb gr g o A c A2 c2 La Lb) {name : ByteArray} {t : Int} {er : Int} {Lb' : List Ent} (hf : muteP Lb name t = (er, Lb')) :
    Calls Try.prog 20 #[.pointer (some ⟨gr, 0, none⟩), .string name, .int .i64 t] w fun e w' => e = .returned (.int .i64 er) ∧ Mid W0 w' M gb gr g o A c A2 c2 La Lb' ∧ (∀ k x, (Lb ≠ [] → k ≠ g) → w.heap[k]? = some x → w'.heap[k]? = some x) := by
  have := refb_Mute h.b name t (by have := h.lb; omega)
  rw [hf] at this
  refine this.mono ?_
  rintro e w' ⟨rfl, h3, h4⟩
  exact ⟨rfl, h.bMoves h3 h4 (muteP_inv h.okb hf), bFrame h4⟩
theorem Mid.StateA (h : Mid W0 w M gb gr g o A c A2 c2 La Lb) {name : ByteArray} {n : Int} {q : Bool} (hf : stateP La name = (n, q)) :
    Calls Try.prog 12 #[.pointer (some ⟨gb, 0, none⟩), .string name] w fun e w' => e = .returned (.tuple #[.int .i64 n, .bool q]) ∧ w = w' := by
  have := book_State h.a name (by have := h.la; omega)
  rw [hf] at this
  exact this
theorem Mid.StateB (h : Mid W0 w M gb gr g o A c A2 c2 La Lb) {name : ByteArray} {n : Int} {q : Bool} (hf : stateP Lb name = (n, q)) :
    Calls Try.prog 21 #[.pointer (some ⟨gr, 0, none⟩), .string name] w fun e w' => e = .returned (.tuple #[.int .i64 n, .bool q]) ∧ w = w' := by
  have := refb_State h.b name (by have := h.lb; omega)
  rw [hf] at this
  exact this
end
end Go.Proofs.Ytadmigijbfdboaa.Q
