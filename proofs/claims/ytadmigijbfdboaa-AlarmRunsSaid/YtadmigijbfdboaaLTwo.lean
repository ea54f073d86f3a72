import Derived.Test.YtadmigijbfdboaaLBook
import Derived.Test.YtadmigijbfdboaaRSame
namespace Go.Proofs.Ytadmigijbfdboaa.Q
open Go.RowKit Go.Proofs.YtadmigijbfdboaaW.PrintWords Go.Proofs.YtadmigijbfdboaaW.PrintLast Go.Proofs.YtadmigijbfdboaaW.PrintMore Go.Proofs.YtadmigijbfdboaaV
set_option linter.unusedVariables false
set_option linter.unusedSimpArgs false

/-- What a Feed of one rule does, whatever else the book holds. -/
theorem feed_any {r : Rul} {s : Stt} (iv : RInv r s) (ok : RulOk r) (at_ : Int) (is : Bool) (val : Int) : ∃ l er s', RInv r s' ∧ (inT at_ ∧ lastP s < at_ → er = 0 ∧ l = alertsP r (stepP r s at_ is val) at_ is (if is then val else 0) ∧ s' = saidP r (stepP r s at_ is val) at_) ∧ (¬ (inT at_ ∧ lastP s < at_) → l = [] ∧ s' = s ∧ er = (if inT at_ then 232 else 1)) ∧ ∀ (L : List Ent) (i g : Nat) (name : ByteArray), idxP L name = some i → L[i]? = some (g, r, s) → feedP L name at_ is val = (l, er, L.set i (g, r, s')) := by
  have hset : ∀ (L : List Ent) (i g : Nat), L[i]? = some (g, r, s) → L.set i (g, r, s) = L := by
    intro L i g h
    obtain ⟨h1, h2⟩ := List.getElem?_eq_some_iff.1 h
    rw [← h2]
    exact List.set_getElem_self h1
  by_cases ht : inT at_
  · by_cases hp : at_ ≤ lastP s
    · exact ⟨[], 232, s, iv, fun h => absurd h.2 (by omega), fun _ => ⟨rfl, rfl, by rw [if_pos ht]⟩, fun L i g name h1 h2 => by rw [hset L i g h2]; exact feedP_past h1 h2 ht hp is val⟩
    · exact ⟨_, 0, _, (iv.step ok ht (by omega) is val).sayd ht, fun _ => ⟨rfl, rfl, rfl⟩, fun h => absurd ⟨ht, by omega⟩ h, fun L i g name h1 h2 => feedP_ok h1 h2 ht (by omega) is val⟩
  · exact ⟨[], 1, s, iv, fun h => absurd h.1 ht, fun _ => ⟨rfl, rfl, by rw [if_neg ht]⟩, fun L i g name h1 h2 => by rw [hset L i g h2]; exact feedP_bad h1 h2 ht is val⟩
theorem mute_any {r : Rul} {s : Stt} (iv : RInv r s) (t : Int) : ∃ er s', RInv r s' ∧ ∀ (L : List Ent) (i g : Nat) (name : ByteArray), idxP L name = some i → L[i]? = some (g, r, s) → muteP L name t = (er, L.set i (g, r, s')) := by
  have hset : ∀ (L : List Ent) (i g : Nat), L[i]? = some (g, r, s) → L.set i (g, r, s) = L := by
    intro L i g h
    obtain ⟨h1, h2⟩ := List.getElem?_eq_some_iff.1 h
    rw [← h2]
    exact List.set_getElem_self h1
  by_cases ht : inT t
  · exact ⟨0, { s with muted := t }, iv.mute t, fun L i g name h1 h2 => by unfold muteP; rw [h1]; simp only [if_pos ht, h2]⟩
  · exact ⟨1, s, iv, fun L i g name h1 h2 => by unfold muteP; rw [h1, hset L i g h2]; simp only [if_neg ht]⟩
/-- A book beside another that has moved. -/
theorem BookAt.beside {w w' : World} {B gb : Nat} {A : Option Addr} {c : Nat} {L : List Ent} {B2 gb2 : Nat} {A2 : Option Addr} {c2 : Nat} {L2 : List Ent} (h : BookAt w B gb A c L) (h2 : BookAt w B2 gb2 A2 c2 L2) (hk : Keep w w' (fun k => ∃ x ∈ L2, k = x.1)) (hne : ∀ x ∈ L, ∀ y ∈ L2, x.1 ≠ y.1) : BookAt w' B gb A c L := by
  refine h.keep hk ?_ ?_ ?_
  · rintro ⟨y, hy, e⟩
    have hr : RuleAt w y.1 _ _ _ := (h2.rules y hy).1
    exact ne_typed h.blk hr (by decide) e
  · rintro k e ⟨y, hy, e2⟩
    have hr : RuleAt w y.1 _ _ _ := (h2.rules y hy).1
    obtain ⟨cs, fr, h1⟩ := R_typed h.row k e
    exact ne_typed h1 hr (by decide) e2
  · rintro x hx ⟨y, hy, e⟩
    exact hne x hx y hy e
theorem idx_two0 (g1 g2 : Nat) (a c : Rul) (s t : Stt) : idxP [(g1, a, s), (g2, c, t)] a.name = some 0 := by simp [idxP, List.findIdx?_cons]
theorem idx_two1 (g1 g2 : Nat) {a c : Rul} (s t : Stt) (h : a.name ≠ c.name) : idxP [(g1, a, s), (g2, c, t)] c.name = some 1 := by simp [idxP, List.findIdx?_cons, h]
theorem C_two {W : World} {g : Nat} {a c : Rul} (h : W.heap[g]? = some (.cells (ruleA a ++ ruleA c) 26 (0, 0))) : Kd.C kRul W (some ⟨g, 0, none⟩) [a, c].length [a, c] := by
  refine ⟨rfl, by simp, fun _ => ⟨_, rfl, fun j p hp => ?_⟩⟩
  have key : ∀ (o : Nat) (x : Rul) (i : Nat) (u : Value), (∀ k v, (ruleA x).toList[k]? = some v → (ruleA a ++ ruleA c)[o + k]? = some v) → (ruleA x).toList[i]? = some u → W.cell? ((⟨g, 0, none⟩ : Addr).add (o + i)) = some u := by
    intro o x i u hx hu
    have hb := blk_cell h (o + i)
    have e : (⟨g, 0, none⟩ : Addr).add (o + i) = ⟨g, o + i, none⟩ := by
      unfold Addr.add
      split
      · rename_i e; rw [e]
      · simp
    rw [e, hb, hx i u hu]
  match j, hp with
  | 0, hp =>
    injection hp with hp
    subst hp
    refine ⟨(ruleA a).toList, rfl, kRul_mk W a, fun i u hu => ?_⟩
    rw [Nat.zero_mul]
    refine key 0 a i u (fun k v hv => ?_) hu
    rw [Nat.zero_add, Array.getElem?_append_left (by have := (List.getElem?_eq_some_iff.1 hv).1; simpa using this)]
    simpa using hv
  | 1, hp =>
    injection hp with hp
    subst hp
    refine ⟨(ruleA c).toList, rfl, kRul_mk W c, fun i u hu => ?_⟩
    rw [Nat.one_mul]
    refine key 11 c i u (fun k v hv => ?_) hu
    rw [Array.getElem?_append_right (by show 11 ≤ 11 + k; omega)]
    rw [show 11 + k - (ruleA a).size = k from by show 11 + k - 11 = k; omega]
    simpa using hv
theorem newK_two {a c : Rul} (ha : MayP a) (hc : MayP c) (hn : a.name ≠ c.name) : newK [] [a, c] = none := by
  simp [newK, ha, hc, hn]
theorem len_two {α : Type} {L : List α} (h : L.length = 2) : ∃ x y, L = [x, y] := by
  cases L with
  | nil => simp at h
  | cons x t =>
    cases t with
    | nil => simp at h
    | cons y u =>
      cases u with
      | nil => exact ⟨x, y, rfl⟩
      | cons z v => simp at h
theorem L_two {L : List Ent} {a c : Rul} {s t : Stt} (h : L.map (·.2) = [(a, s), (c, t)]) : ∃ g1 g2, L = [(g1, a, s), (g2, c, t)] := by
  have hl : L.length = 2 := by have := congrArg List.length h; rwa [List.length_map] at this
  obtain ⟨x, y, rfl⟩ := len_two hl
  rw [List.map_cons, List.map_cons, List.map_nil] at h
  obtain ⟨h1, h2⟩ := List.cons.inj h
  obtain ⟨h3, -⟩ := List.cons.inj h2
  refine ⟨x.1, y.1, ?_⟩
  rw [← h1, ← h3]
theorem New_two {W : World} {g n : Nat} {a c : Rul} (hn : W.heap.size = n) (h : W.heap[g]? = some (.cells (ruleA a ++ ruleA c) 26 (0, 0))) (ha : RulIn a) (hc : RulIn c) (ma : MayP a) (mc : MayP c) (hne : a.name ≠ c.name) :
    Calls Try.prog 15 #[.slice (some ⟨g, 0, none⟩) 2 2] W fun e w' => ∃ A c' g1 g2, e = .returned (.tuple #[.pointer (some ⟨n, 0, none⟩), .int .i64 0, .int .i64 0]) ∧ Below W.heap.size W w' ∧ BookAt w' n n A c' [(g1, a, stt0), (g2, c, stt0)] ∧ n ≤ g1 ∧ n ≤ g2 ∧ g1 ≠ g2 := by
  subst hn
  refine (alarm_New (rs := [a, c]) (C_two h) (fun x hx => by simp only [List.mem_cons, List.not_mem_nil, or_false] at hx; rcases hx with rfl | rfl; exact ha; exact hc) none (newK_two ma mc hne)).mono ?_
  rintro e w' ⟨hb, h⟩
  rcases h with ⟨q, -⟩ | ⟨-, i, q, -⟩ | ⟨-, -, rfl, A, c', L, hbk, hL⟩
  · simp at q
  · cases q
  · obtain ⟨g1, g2, rfl⟩ := L_two hL
    have hnd := hbk.nodup
    simp only [List.map_cons, List.map_nil, List.nodup_cons, List.mem_singleton] at hnd
    exact ⟨A, c', g1, g2, rfl, hb, hbk, (hbk.rules (g1, a, stt0) (by simp)).2, (hbk.rules (g2, c, stt0) (by simp)).2, hnd.1⟩
theorem any_Feed {w : World} {gb : Nat} {A : Option Addr} {c : Nat} {L : List Ent} (h : BookAt w gb gb A c L) (hL : L.length ≤ 1000000) (hok : ∀ x ∈ L, RulOk x.2.1 ∧ RInv x.2.1 x.2.2) {name : ByteArray} {at_ : Int} {is : Bool} {val : Int} (hv : inW val) {l : List Alr} {er : Int} {L' : List Ent} (hf : feedP L name at_ is val = (l, er, L')) :
    Calls Try.prog 11 #[.pointer (some ⟨gb, 0, none⟩), .string name, .int .i64 at_, .agg #[.bool is, .int .i64 (hiW val), .int .u64 (loW val)]] w fun e w' => ∃ A' c', e = .returned (.tuple #[.slice A' l.length c', .int .i64 er]) ∧ AlrsAt w' A' l ∧ (∀ ad, A' = some ad → w.heap.size ≤ ad.block) ∧ BookAt w' gb gb A c L' ∧ Keep w w' (fun k => ∃ x ∈ L, k = x.1) := by
  have := book_Feed h (Nat.le_of_lt (blk_lt h.blk)) name at_ is val hL (fun x hx => ⟨(hok x hx).1, (hok x hx).2.ok (hok x hx).1⟩) hv
  rw [hf] at this
  exact this
theorem any_Mute {w : World} {gb : Nat} {A : Option Addr} {c : Nat} {L : List Ent} (h : BookAt w gb gb A c L) (hL : L.length ≤ 1000000) {name : ByteArray} {t : Int} {er : Int} {L' : List Ent} (hf : muteP L name t = (er, L')) :
    Calls Try.prog 19 #[.pointer (some ⟨gb, 0, none⟩), .string name, .int .i64 t] w fun e w' => e = .returned (.int .i64 er) ∧ BookAt w' gb gb A c L' ∧ Keep w w' (fun k => ∃ x ∈ L, k = x.1) := by
  have := book_Mute h name t hL
  rw [hf] at this
  exact this
theorem any_State {w : World} {gb : Nat} {A : Option Addr} {c : Nat} {L : List Ent} (h : BookAt w gb gb A c L) (hL : L.length ≤ 1000000) {name : ByteArray} {i g : Nat} {r : Rul} {s : Stt} (hi : idxP L name = some i) (hx : L[i]? = some (g, r, s)) :
    Calls Try.prog 12 #[.pointer (some ⟨gb, 0, none⟩), .string name] w fun e w' => e = .returned (.tuple #[.int .i64 s.state, .bool true]) ∧ w = w' := by
  have := book_State h name hL
  rw [show stateP L name = (s.state, true) by unfold stateP; rw [hi]; simp only [hx]] at this
  exact this
theorem nS1 {k g : Nat} {r : Rul} {s : Stt} (h : k ≠ g) : ¬ ∃ x ∈ [((g, r, s) : Ent)], k = x.1 := by
  rintro ⟨x, hx, e⟩
  rw [List.mem_singleton] at hx
  subst hx
  exact h e
theorem nS2 {k g1 g2 : Nat} {a c : Rul} {s t : Stt} (h1 : k ≠ g1) (h2 : k ≠ g2) : ¬ ∃ x ∈ [((g1, a, s) : Ent), (g2, c, t)], k = x.1 := by
  rintro ⟨x, hx, e⟩
  simp only [List.mem_cons, List.not_mem_nil, or_false] at hx
  rcases hx with rfl | rfl
  · exact h1 e
  · exact h2 e
theorem ge1 {n g : Nat} {r : Rul} {s : Stt} (h : n ≤ g) : ∀ k, (∃ x ∈ [((g, r, s) : Ent)], k = x.1) → n ≤ k := by
  rintro k ⟨x, hx, rfl⟩
  rw [List.mem_singleton] at hx
  subst hx
  exact h
theorem ge2 {n g1 g2 : Nat} {a c : Rul} {s t : Stt} (h1 : n ≤ g1) (h2 : n ≤ g2) : ∀ k, (∃ x ∈ [((g1, a, s) : Ent), (g2, c, t)], k = x.1) → n ≤ k := by
  rintro k ⟨x, hx, rfl⟩
  simp only [List.mem_cons, List.not_mem_nil, or_false] at hx
  rcases hx with rfl | rfl
  · exact h1
  · exact h2
theorem ne11 {g h : Nat} {a c : Rul} {s t : Stt} (hn : g ≠ h) : ∀ x ∈ [((g, a, s) : Ent)], ∀ y ∈ [((h, c, t) : Ent)], x.1 ≠ y.1 := by
  intro x hx y hy
  rw [List.mem_singleton] at hx hy
  subst hx
  subst hy
  exact hn
theorem ne12 {g h1 h2 : Nat} {a c d : Rul} {s t u : Stt} (n1 : g ≠ h1) (n2 : g ≠ h2) : ∀ x ∈ [((g, a, s) : Ent)], ∀ y ∈ [((h1, c, t) : Ent), (h2, d, u)], x.1 ≠ y.1 := by
  intro x hx y hy
  rw [List.mem_singleton] at hx
  subst hx
  simp only [List.mem_cons, List.not_mem_nil, or_false] at hy
  rcases hy with rfl | rfl
  · exact n1
  · exact n2
theorem ne21 {g h1 h2 : Nat} {a c d : Rul} {s t u : Stt} (n1 : h1 ≠ g) (n2 : h2 ≠ g) : ∀ x ∈ [((h1, c, t) : Ent), (h2, d, u)], ∀ y ∈ [((g, a, s) : Ent)], x.1 ≠ y.1 := by
  intro x hx y hy
  rw [List.mem_singleton] at hy
  subst hy
  simp only [List.mem_cons, List.not_mem_nil, or_false] at hx
  rcases hx with rfl | rfl
  · exact n1
  · exact n2
theorem ok1 {g : Nat} {a : Rul} {s : Stt} (h : RulOk a ∧ RInv a s) : ∀ x ∈ [((g, a, s) : Ent)], RulOk x.2.1 ∧ RInv x.2.1 x.2.2 := by
  intro x hx
  rw [List.mem_singleton] at hx
  subst hx
  exact h
theorem ok2 {g1 g2 : Nat} {a c : Rul} {s t : Stt} (h : RulOk a ∧ RInv a s) (h2 : RulOk c ∧ RInv c t) : ∀ x ∈ [((g1, a, s) : Ent), (g2, c, t)], RulOk x.2.1 ∧ RInv x.2.1 x.2.2 := by
  intro x hx
  simp only [List.mem_cons, List.not_mem_nil, or_false] at hx
  rcases hx with rfl | rfl
  · exact h
  · exact h2
end Go.Proofs.Ytadmigijbfdboaa.Q
