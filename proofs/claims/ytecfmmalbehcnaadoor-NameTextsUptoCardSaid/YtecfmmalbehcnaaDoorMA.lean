/- Contracts and plain laws that this claim wants, laid in one text; under no condition beyond those that each theorem states. -/
import Derived.Test.YtecfmmalbehcnaaDoorVObj
/- Patterns of names: what a text is read as, plain lists of bytes, no program in sight. -/
namespace Go.Proofs.YtecfmmalbehcnaaDoor.Q
set_option linter.unusedVariables false

/-- Of a byte: digits 1, capitals 2, small letters 3; else 0. -/
def sortB (c : UInt8) : Nat := if 48 ≤ c.toNat ∧ c.toNat ≤ 57 then 1 else if 65 ≤ c.toNat ∧ c.toNat ≤ 90 then 2 else if 97 ≤ c.toNat ∧ c.toNat ≤ 122 then 3 else 0
def cb (c : UInt8) : Bool := decide (0 < sortB c) || c == 95
def nb (c : UInt8) : Bool := cb c || c == 45
structure Gl where
  kind : Int
  text : List UInt8
  alts : List (List UInt8)
deriving DecidableEq
/-- What a reader answers: with what is left of the text. -/
inductive Res (α : Type) where
  | ok (a : α) (rest : List UInt8)
  | err (rest : List UInt8) (e : Int)
/-- Behind the bracket: the pairs of bytes of which the class is. -/
def classR (first : Bool) (acc : List (UInt8 × UInt8)) : List UInt8 → Res (List (UInt8 × UInt8))
  | [] => .err [] 31
  | c :: t =>
    if first = false ∧ c = 93 then .ok acc t
    else if cb c = false then .err (c :: t) 31
    else match t with
      | [] => classR false (acc ++ [(c, c)]) []
      | m :: u =>
        if m = 45 then
          if sortB c = 0 then .err (m :: u) 31
          else match u with
            | [] => .err [] 31
            | d :: v => if sortB d = 0 ∨ sortB d ≠ sortB c ∨ d.toNat < c.toNat then .err (d :: v) 31 else classR false (acc ++ [(c, d)]) v
        else classR false (acc ++ [(c, c)]) (m :: u)
/-- The bytes of a class, rising. -/
def coverB (acc : List (UInt8 × UInt8)) : List UInt8 := ((List.range 256).filter (fun k => acc.any (fun p => decide (p.1.toNat ≤ k ∧ k ≤ p.2.toNat)))).map UInt8.ofNat
/-- Behind a text of a choice. -/
def choiceR (acc : List (List UInt8)) (l : List UInt8) : Res (List (List UInt8)) :=
  match l with
  | [] => .err [] 31
  | c :: u =>
    if c = 44 then (if acc.length = 16 then .err (c :: u) 3 else choiceR (acc ++ [u.takeWhile nb]) (u.dropWhile nb))
    else if c = 125 then .ok acc u
    else .err (c :: u) 31
termination_by l.length
decreasing_by
  have := (List.dropWhile_sublist nb (l := u)).length_le
  simp
  omega
def pieceR (l : List UInt8) : Res Gl :=
  match l with
  | [] => .err [] 31
  | c :: t =>
    if c = 42 then .ok ⟨2, [], []⟩ t
    else if c = 63 then .ok ⟨3, [], []⟩ t
    else if c = 91 then (match classR true [] t with | .ok a r => .ok ⟨4, coverB a, []⟩ r | .err r e => .err r e)
    else if c = 123 then (match choiceR [t.takeWhile nb] (t.dropWhile nb) with | .ok a r => .ok ⟨5, [], a⟩ r | .err r e => .err r e)
    else if nb c then .ok ⟨1, l.takeWhile nb, []⟩ (l.dropWhile nb)
    else .err l 31
theorem classR_le : ∀ (l : List UInt8) (f : Bool) (acc : List (UInt8 × UInt8)) {a r}, classR f acc l = .ok a r → r.length < l.length := by
  intro l
  induction h : l.length using Nat.strongRecOn generalizing l with
  | ind n ih =>
    intro f acc a r hr
    subst h
    cases l with
    | nil => simp [classR] at hr
    | cons c t =>
      unfold classR at hr
      split at hr
      · injection hr with h1 h2
        subst h2
        simp
      · split at hr
        · cases hr
        · split at hr
          · simp [classR] at hr
          · rename_i m u
            split at hr
            · split at hr
              · cases hr
              · split at hr
                · cases hr
                · rename_i d v
                  split at hr
                  · cases hr
                  · have := ih v.length (by simp; omega) v rfl _ _ hr
                    simp
                    omega
            · have := ih (m :: u).length (by simp) (m :: u) rfl _ _ hr
              simp at this ⊢
              omega
theorem choiceR_le : ∀ (l : List UInt8) (acc : List (List UInt8)) {a r}, choiceR acc l = .ok a r → r.length < l.length := by
  intro l
  induction h : l.length using Nat.strongRecOn generalizing l with
  | ind n ih =>
    intro acc a r hr
    subst h
    cases l with
    | nil => rw [choiceR] at hr; cases hr
    | cons c u =>
      rw [choiceR] at hr
      have hd := (List.dropWhile_sublist nb (l := u)).length_le
      split at hr
      · split at hr
        · cases hr
        · have := ih (u.dropWhile nb).length (by simp; omega) _ rfl _ hr
          simp
          omega
      · split at hr
        · injection hr with h1 h2
          subst h2
          simp
        · cases hr
theorem pieceR_lt {l : List UInt8} {a : Gl} {r : List UInt8} (h : pieceR l = .ok a r) : r.length < l.length := by
  cases l with
  | nil => cases h
  | cons c t =>
    unfold pieceR at h
    dsimp only at h
    split at h
    · injection h with h1 h2; subst h2; simp
    · split at h
      · injection h with h1 h2; subst h2; simp
      · split at h
        · split at h
          · rename_i a2 r2 hc
            injection h with h1 h2
            subst h2
            have := classR_le _ _ _ hc
            simp
            omega
          · cases h
        · split at h
          · split at h
            · rename_i a2 r2 hc
              injection h with h1 h2
              subst h2
              have := choiceR_le _ _ hc
              have hd := (List.dropWhile_sublist nb (l := t)).length_le
              simp
              omega
            · cases h
          · split at h
            · rename_i hn
              injection h with h1 h2
              subst h2
              rw [List.dropWhile_cons_of_pos hn]
              have hd := (List.dropWhile_sublist nb (l := t)).length_le
              simp
              omega
            · cases h
/-- The pieces of a node, as far as a point or the end. -/
def nodeR (acc : List Gl) (l : List UInt8) : Res (List Gl) :=
  match h : pieceR l with
  | .err r e => .err r e
  | .ok g r => match hr : r with
    | [] => .ok (acc ++ [g]) []
    | c :: u => if c = 46 then .ok (acc ++ [g]) (c :: u) else nodeR (acc ++ [g]) (c :: u)
termination_by l.length
decreasing_by exact pieceR_lt h
theorem nodeR_le : ∀ (l : List UInt8) (acc : List Gl) {a r}, nodeR acc l = .ok a r → r.length < l.length := by
  intro l
  induction h : l.length using Nat.strongRecOn generalizing l with
  | ind n ih =>
    intro acc a r hr
    subst h
    rw [nodeR] at hr
    split at hr
    · cases hr
    · rename_i g r2 hp
      have hlt := pieceR_lt hp
      split at hr
      · injection hr with h1 h2
        subst h2
        exact hlt
      · rename_i c u
        split at hr
        · injection hr with h1 h2
          subst h2
          exact hlt
        · have := ih _ hlt _ rfl _ hr
          omega
/-- A pattern: its nodes. -/
def readR (acc : List (List Gl)) (l : List UInt8) : Res (List (List Gl)) :=
  match h : nodeR [] l with
  | .err r e => .err r e
  | .ok n r => match hr : r with
    | [] => .ok (acc ++ [n]) []
    | c :: u => if acc.length + 1 = 16 then .err (c :: u) 3 else readR (acc ++ [n]) u
termination_by l.length
decreasing_by
  have := nodeR_le _ _ h
  simp at this
  omega
/-- A text that is read: the pattern, or the place of the first fault and its error. -/
def compileP (s : List UInt8) : List (List Gl) × Int × Int :=
  match readR [] s with
  | .ok p _ => (p, 0, 0)
  | .err r e => ([], ((s.length - r.length : Nat) : Int), e)
end Go.Proofs.YtecfmmalbehcnaaDoor.Q

/- A class and its text: what is written is read again. -/
namespace Go.Proofs.YtecfmmalbehcnaaDoor.Q
set_option linter.unusedVariables false

/-- How many bytes go on, one behind another and of one sort. -/
def runR (c p : UInt8) : List UInt8 → Nat
  | [] => 0
  | d :: t => if 0 < sortB c ∧ sortB d = sortB c ∧ d.toNat = p.toNat + 1 then runR c d t + 1 else 0
theorem runR_le (c : UInt8) : ∀ (t : List UInt8) (p : UInt8), runR c p t ≤ t.length := by
  intro t
  induction t with
  | nil => intro p; exact Nat.le_refl _
  | cons d t ih =>
    intro p
    unfold runR
    split
    · have := ih d
      simp only [List.length_cons]
      omega
    · exact Nat.zero_le _
theorem runR_get (c : UInt8) : ∀ (t : List UInt8) (p : UInt8) (j : Nat), j < runR c p t → ∃ d, t[j]? = some d ∧ d.toNat = p.toNat + 1 + j ∧ sortB d = sortB c ∧ 0 < sortB c := by
  intro t
  induction t with
  | nil => intro p j hj; simp [runR] at hj
  | cons d t ih =>
    intro p j hj
    unfold runR at hj
    split at hj
    · rename_i h
      cases j with
      | zero => exact ⟨d, rfl, by omega, h.2.1, h.1⟩
      | succ k =>
        obtain ⟨e, h1, h2, h3⟩ := ih d k (by omega)
        exact ⟨e, by simpa using h1, by omega, h3⟩
    · omega
/-- A class's text between its brackets. -/
def rangedR (l : List UInt8) : List UInt8 :=
  match l with
  | [] => []
  | c :: t => (if 2 ≤ runR c c t then [c, 45, (t[runR c c t - 1]?).getD c] else c :: t.take (runR c c t)) ++ rangedR (t.drop (runR c c t))
termination_by l.length
decreasing_by simp; omega
def pairsR (l : List UInt8) : List (UInt8 × UInt8) :=
  match l with
  | [] => []
  | c :: t => (if 2 ≤ runR c c t then [(c, (t[runR c c t - 1]?).getD c)] else (c, c) :: (t.take (runR c c t)).map (fun d => (d, d))) ++ pairsR (t.drop (runR c c t))
termination_by l.length
decreasing_by simp; omega
theorem cb_ne {c : UInt8} (h : cb c = true) : c ≠ 45 ∧ c ≠ 93 := by
  constructor
  · rintro rfl
    revert h
    decide
  · rintro rfl
    revert h
    decide
theorem class_end (acc : List (UInt8 × UInt8)) (r : List UInt8) : classR false acc (93 :: r) = .ok acc r := by
  unfold classR
  rw [if_pos ⟨rfl, rfl⟩]
theorem class_one {f : Bool} {acc : List (UInt8 × UInt8)} {c m : UInt8} {u : List UInt8} (hc : cb c = true) (hm : m ≠ 45) : classR f acc (c :: m :: u) = classR false (acc ++ [(c, c)]) (m :: u) := by
  rw [classR.eq_def]
  dsimp only
  rw [if_neg (fun q => (cb_ne hc).2 q.2), if_neg (by rw [hc]; decide), if_neg hm]
theorem class_range {f : Bool} {acc : List (UInt8 × UInt8)} {c d : UInt8} {v : List UInt8} (h0 : 0 < sortB c) (hd : sortB d = sortB c) (hle : c.toNat ≤ d.toNat) : classR f acc (c :: 45 :: d :: v) = classR false (acc ++ [(c, d)]) v := by
  have hc : cb c = true := by unfold cb; rw [decide_eq_true h0]; rfl
  rw [classR.eq_def]
  dsimp only
  rw [if_neg (fun q => (cb_ne hc).2 q.2), if_neg (by rw [hc]; decide), if_pos rfl, if_neg (by omega)]
  rw [if_neg (by rintro (q | q | q) <;> omega)]
theorem ranged_head {s : List UInt8} (h : ∀ x ∈ s, cb x = true) (r : List UInt8) : ∃ m u, rangedR s ++ 93 :: r = m :: u ∧ m ≠ 45 := by
  cases s with
  | nil => exact ⟨93, r, by rw [rangedR]; rfl, by decide⟩
  | cons c t =>
    have hc := (cb_ne (h c (List.mem_cons_self ..))).1
    rw [rangedR]
    split
    · exact ⟨c, _, rfl, hc⟩
    · exact ⟨c, _, rfl, hc⟩
/-- What is written of a class is read as its pairs. -/
theorem class_read : ∀ (s : List UInt8) (f : Bool) (acc : List (UInt8 × UInt8)) (r : List UInt8), (∀ x ∈ s, cb x = true) → (s ≠ [] ∨ f = false) → classR f acc (rangedR s ++ 93 :: r) = .ok (acc ++ pairsR s) r := by
  intro s
  induction h : s.length using Nat.strongRecOn generalizing s with
  | ind n ih =>
    intro f acc r hs hf
    subst h
    cases s with
    | nil =>
      obtain rfl : f = false := hf.resolve_left (fun q => q rfl)
      rw [rangedR, pairsR, List.append_nil, List.nil_append]
      exact class_end acc r
    | cons c t =>
      have hc := hs c (List.mem_cons_self ..)
      have hle := runR_le c t c
      have htd : ∀ x ∈ t.drop (runR c c t), cb x = true := fun x hx => hs x (List.mem_cons_of_mem _ (List.mem_of_mem_drop hx))
      have hrec := fun acc => ih (t.drop (runR c c t)).length (by simp; omega) _ rfl false acc r htd (.inr rfl)
      rw [rangedR, pairsR]
      by_cases h2 : 2 ≤ runR c c t
      · rw [if_pos h2, if_pos h2]
        obtain ⟨d, hd, hdn, hds, h0⟩ := runR_get c t c (runR c c t - 1) (by omega)
        rw [hd]
        show classR f acc (c :: 45 :: d :: (rangedR (t.drop (runR c c t)) ++ 93 :: r)) = _
        rw [class_range h0 hds (by omega), hrec, List.append_assoc]
        rfl
      · rw [if_neg h2, if_neg h2]
        obtain ⟨m, u, hm, hm45⟩ := ranged_head htd r
        by_cases h1 : runR c c t = 0
        · rw [h1] at hm hrec ⊢
          simp only [List.drop_zero, List.take_zero, List.map_nil, List.cons_append, List.nil_append] at hm hrec ⊢
          rw [hm, class_one hc hm45, ← hm, hrec, List.append_assoc]
          rfl
        · have h1 : runR c c t = 1 := by omega
          obtain ⟨d, hd, -⟩ := runR_get c t c 0 (by omega)
          cases t with
          | nil => simp at hd
          | cons d' t' =>
            obtain rfl : d' = d := by simpa using hd
            have hcd := hs d' (by simp)
            rw [h1] at hm hrec ⊢
            simp only [List.drop_succ_cons, List.drop_zero, List.take_succ_cons, List.take_zero, List.map_cons, List.map_nil, List.cons_append, List.nil_append] at hm hrec ⊢
            rw [class_one hc (cb_ne hcd).1, hm, class_one hcd hm45, ← hm, hrec]
            simp
/-- The pairs cover just the class's bytes. -/
theorem pairs_cover : ∀ (s : List UInt8) (k : Nat), (pairsR s).any (fun p => decide (p.1.toNat ≤ k ∧ k ≤ p.2.toNat)) = true ↔ ∃ x ∈ s, x.toNat = k := by
  intro s
  induction h : s.length using Nat.strongRecOn generalizing s with
  | ind n ih =>
    intro k
    subst h
    cases s with
    | nil => rw [pairsR]; simp
    | cons c t =>
      have hle := runR_le c t c
      have hrec := ih (t.drop (runR c c t)).length (by simp; omega) _ rfl k
      have hsplit : (∃ x ∈ c :: t, x.toNat = k) ↔ (∃ x ∈ c :: t.take (runR c c t), x.toNat = k) ∨ ∃ x ∈ t.drop (runR c c t), x.toNat = k := by
        constructor
        · rintro ⟨x, hx, e⟩
          rcases List.mem_cons.1 hx with rfl | hx
          · exact .inl ⟨x, List.mem_cons_self .., e⟩
          · rw [← List.take_append_drop (runR c c t) t] at hx
            rcases List.mem_append.1 hx with hx | hx
            · exact .inl ⟨x, List.mem_cons_of_mem _ hx, e⟩
            · exact .inr ⟨x, hx, e⟩
        · rintro (⟨x, hx, e⟩ | ⟨x, hx, e⟩)
          · rcases List.mem_cons.1 hx with rfl | hx
            · exact ⟨x, List.mem_cons_self .., e⟩
            · exact ⟨x, List.mem_cons_of_mem _ (List.mem_of_mem_take hx), e⟩
          · exact ⟨x, List.mem_cons_of_mem _ (List.mem_of_mem_drop hx), e⟩
      rw [pairsR, List.any_append, Bool.or_eq_true, hrec, hsplit]
      refine or_congr ?_ Iff.rfl
      by_cases h2 : 2 ≤ runR c c t
      · rw [if_pos h2]
        obtain ⟨d, hd, hdn, hds, h0⟩ := runR_get c t c (runR c c t - 1) (by omega)
        rw [hd]
        simp only [Option.getD_some, List.any_cons, List.any_nil, Bool.or_false, decide_eq_true_eq]
        constructor
        · rintro ⟨a, b⟩
          by_cases hk : k = c.toNat
          · exact ⟨c, List.mem_cons_self .., hk.symm⟩
          · obtain ⟨e, he, hen, -⟩ := runR_get c t c (k - c.toNat - 1) (by omega)
            refine ⟨e, List.mem_cons_of_mem _ (List.mem_of_getElem? (i := k - c.toNat - 1) ?_), by omega⟩
            rw [List.getElem?_take_of_lt (by omega)]
            exact he
        · rintro ⟨x, hx, e⟩
          rcases List.mem_cons.1 hx with rfl | hx
          · omega
          · obtain ⟨j, hj⟩ := List.mem_iff_getElem?.1 hx
            have hjl : j < runR c c t := by
              have := (List.getElem?_eq_some_iff.1 hj).1
              rw [List.length_take] at this
              omega
            rw [List.getElem?_take_of_lt hjl] at hj
            obtain ⟨e2, he2, hen, -⟩ := runR_get c t c j hjl
            rw [hj] at he2
            injection he2 with he2
            subst he2
            omega
      · rw [if_neg h2]
        simp only [List.any_cons, List.any_map, Bool.or_eq_true, decide_eq_true_eq, List.any_eq_true, Function.comp]
        constructor
        · rintro (⟨a, b⟩ | ⟨x, hx, a, b⟩)
          · exact ⟨c, List.mem_cons_self .., by omega⟩
          · exact ⟨x, List.mem_cons_of_mem _ hx, by omega⟩
        · rintro ⟨x, hx, e⟩
          rcases List.mem_cons.1 hx with rfl | hx
          · exact .inl ⟨by omega, by omega⟩
          · exact .inr ⟨x, hx, by omega, by omega⟩
def RiseB (s : List UInt8) : Prop := s.Pairwise (fun a b => a.toNat < b.toNat)
theorem coverB_rise (acc : List (UInt8 × UInt8)) : RiseB (coverB acc) := by
  unfold coverB RiseB
  rw [List.pairwise_map]
  refine List.Pairwise.imp_of_mem ?_ (List.Pairwise.filter _ (List.pairwise_lt_range (n := 256)))
  intro a b ha hb hab
  have h1 := List.mem_range.1 (List.mem_filter.1 ha).1
  have h2 := List.mem_range.1 (List.mem_filter.1 hb).1
  rw [UInt8.toNat_ofNat', UInt8.toNat_ofNat']
  omega
theorem mem_coverB {acc : List (UInt8 × UInt8)} {x : UInt8} : x ∈ coverB acc ↔ acc.any (fun p => decide (p.1.toNat ≤ x.toNat ∧ x.toNat ≤ p.2.toNat)) = true := by
  unfold coverB
  rw [List.mem_map]
  constructor
  · rintro ⟨k, hk, rfl⟩
    obtain ⟨h1, h2⟩ := List.mem_filter.1 hk
    have := List.mem_range.1 h1
    rw [UInt8.toNat_ofNat', Nat.mod_eq_of_lt (by omega)]
    exact h2
  · intro h
    exact ⟨x.toNat, List.mem_filter.2 ⟨List.mem_range.2 x.toNat_lt, h⟩, UInt8.ofNat_toNat⟩
theorem rise_unique {a b : List UInt8} (ha : RiseB a) (hb : RiseB b) (hm : ∀ x, x ∈ a ↔ x ∈ b) : a = b := by
  have na : a.Nodup := ha.imp (fun h e => by rw [e] at h; omega)
  have nb_ : b.Nodup := hb.imp (fun h e => by rw [e] at h; omega)
  exact List.Perm.eq_of_pairwise (fun x y _ _ h1 h2 => by omega) ha hb ((List.perm_ext_iff_of_nodup na nb_).2 hm)
/-- A class is read again as it was. -/
theorem cover_pairs {s : List UInt8} (h : RiseB s) : coverB (pairsR s) = s := by
  refine rise_unique (coverB_rise _) h (fun x => ?_)
  rw [mem_coverB, pairs_cover]
  constructor
  · rintro ⟨y, hy, e⟩
    rw [← UInt8.toNat_inj.1 e]
    exact hy
  · exact fun hx => ⟨x, hx, rfl⟩
end Go.Proofs.YtecfmmalbehcnaaDoor.Q

/- A pattern and its text: what is written is read again. -/
namespace Go.Proofs.YtecfmmalbehcnaaDoor.Q
set_option linter.unusedVariables false

def joinR (sep : UInt8) : List (List UInt8) → List UInt8
  | [] => []
  | [a] => a
  | a :: b :: t => a ++ sep :: joinR sep (b :: t)
def writtenR (g : Gl) : List UInt8 :=
  if g.kind = 2 then [42] else if g.kind = 3 then [63] else if g.kind = 4 then 91 :: (rangedR g.text ++ [93]) else if g.kind = 5 then 123 :: (joinR 44 g.alts ++ [125]) else g.text
def nodeW (n : List Gl) : List UInt8 := n.flatMap writtenR
def wholeR (p : List (List Gl)) : List UInt8 := joinR 46 (p.map nodeW)
def GlobMay (g : Gl) : Prop :=
  (g.kind = 1 ∧ g.text ≠ [] ∧ (∀ x ∈ g.text, nb x = true) ∧ g.alts = []) ∨ ((g.kind = 2 ∨ g.kind = 3) ∧ g.text = [] ∧ g.alts = []) ∨
  (g.kind = 4 ∧ g.text ≠ [] ∧ (∀ x ∈ g.text, cb x = true) ∧ RiseB g.text ∧ g.alts = []) ∨ (g.kind = 5 ∧ g.text = [] ∧ g.alts ≠ [] ∧ g.alts.length ≤ 16 ∧ ∀ a ∈ g.alts, ∀ x ∈ a, nb x = true)
/-- Two texts do not stand side by side. -/
def ApartG : List Gl → Prop
  | [] => True
  | [_] => True
  | g :: h :: t => ¬ (g.kind = 1 ∧ h.kind = 1) ∧ ApartG (h :: t)
def NodeMay (n : List Gl) : Prop := n ≠ [] ∧ (∀ g ∈ n, GlobMay g) ∧ ApartG n
def PatMay (p : List (List Gl)) : Prop := p ≠ [] ∧ p.length ≤ 16 ∧ ∀ n ∈ p, NodeMay n
/-- No name byte stands at the beginning. -/
def NoHead (r : List UInt8) : Prop := ∀ c u, r = c :: u → nb c = false
theorem takeWhile_text {a r : List UInt8} (h : ∀ x ∈ a, nb x = true) (hr : NoHead r) : (a ++ r).takeWhile nb = a ∧ (a ++ r).dropWhile nb = r := by
  induction a with
  | nil =>
    cases r with
    | nil => exact ⟨rfl, rfl⟩
    | cons c u =>
      have := hr c u rfl
      rw [List.nil_append, List.takeWhile_cons_of_neg (by rw [this]; decide), List.dropWhile_cons_of_neg (by rw [this]; decide)]
      exact ⟨rfl, rfl⟩
  | cons x t ih =>
    have hx := h x (List.mem_cons_self ..)
    obtain ⟨h1, h2⟩ := ih (fun y hy => h y (List.mem_cons_of_mem _ hy))
    rw [List.cons_append, List.takeWhile_cons_of_pos hx, List.dropWhile_cons_of_pos hx, h1, h2]
    exact ⟨rfl, rfl⟩
theorem noHead_cons {c : UInt8} {u : List UInt8} (h : nb c = false) : NoHead (c :: u) := by
  intro d v e
  injection e with e1 e2
  rw [← e1]
  exact h
theorem noHead_nil : NoHead [] := fun c u e => by cases e
theorem joinR_cons (sep : UInt8) (a b : List UInt8) (t : List (List UInt8)) : joinR sep (a :: b :: t) = a ++ sep :: joinR sep (b :: t) := rfl
/-- A choice's texts are read again. -/
theorem choice_read : ∀ (as : List (List UInt8)) (acc : List (List UInt8)) (a : List UInt8) (r : List UInt8), (∀ b ∈ a :: as, ∀ x ∈ b, nb x = true) → acc.length + 1 + as.length ≤ 16 →
    choiceR (acc ++ [((joinR 44 (a :: as) ++ 125 :: r).takeWhile nb)]) ((joinR 44 (a :: as) ++ 125 :: r).dropWhile nb) = .ok (acc ++ a :: as) r := by
  intro as
  induction as with
  | nil =>
    intro acc a r h hl
    have ha := h a (List.mem_cons_self ..)
    obtain ⟨h1, h2⟩ := takeWhile_text (r := 125 :: r) ha (noHead_cons (by decide))
    show choiceR (acc ++ [(a ++ 125 :: r).takeWhile nb]) ((a ++ 125 :: r).dropWhile nb) = _
    rw [h1, h2, choiceR]
    rw [if_neg (by decide), if_pos rfl]
  | cons b t ih =>
    intro acc a r h hl
    have ha := h a (List.mem_cons_self ..)
    rw [joinR_cons, List.append_assoc, List.cons_append]
    obtain ⟨h1, h2⟩ := takeWhile_text (r := 44 :: (joinR 44 (b :: t) ++ 125 :: r)) ha (noHead_cons (by decide))
    rw [h1, h2, choiceR, if_pos rfl, if_neg (by rw [List.length_append, List.length_singleton]; simp only [List.length_cons] at hl; omega)]
    have := ih (acc ++ [a]) b r (fun c hc => h c (List.mem_cons_of_mem _ hc)) (by rw [List.length_append, List.length_singleton]; simp only [List.length_cons] at hl; omega)
    rw [this, List.append_assoc]
    rfl
theorem nb_ne {c : UInt8} (h : nb c = true) : c ≠ 42 ∧ c ≠ 63 ∧ c ≠ 91 ∧ c ≠ 123 ∧ c ≠ 46 := by
  refine ⟨?_, ?_, ?_, ?_, ?_⟩ <;> (rintro rfl; revert h; decide)
/-- A piece is read again. -/
theorem piece_read {g : Gl} (h : GlobMay g) {r : List UInt8} (hr : g.kind = 1 → NoHead r) : pieceR (writtenR g ++ r) = .ok g r := by
  obtain ⟨k, t, a⟩ := g
  rcases h with ⟨h1, h2, h3, h4⟩ | ⟨h1, h2, h3⟩ | ⟨h1, h2, h3, h4, h5⟩ | ⟨h1, h2, h3, h4, h5⟩
  · obtain rfl : k = 1 := h1
    obtain rfl : a = [] := h4
    obtain ⟨e1, e2⟩ := takeWhile_text h3 (hr rfl)
    show pieceR (t ++ r) = _
    cases t with
    | nil => exact absurd rfl h2
    | cons c u =>
      have hc := h3 c (List.mem_cons_self ..)
      obtain ⟨n1, n2, n3, n4, -⟩ := nb_ne hc
      change pieceR (c :: (u ++ r)) = _
      unfold pieceR
      dsimp only
      rw [if_neg n1, if_neg n2, if_neg n3, if_neg n4, if_pos hc]
      change Res.ok (⟨1, ((c :: u) ++ r).takeWhile nb, []⟩ : Gl) (((c :: u) ++ r).dropWhile nb) = _
      rw [e1, e2]
  · obtain rfl : t = [] := h2
    obtain rfl : a = [] := h3
    rcases h1 with h1 | h1
    · obtain rfl : k = 2 := h1
      rfl
    · obtain rfl : k = 3 := h1
      rfl
  · obtain rfl : k = 4 := h1
    obtain rfl : a = [] := h5
    have e := class_read t true [] r h3 (.inl h2)
    show pieceR (91 :: (rangedR t ++ [93]) ++ r) = _
    rw [List.cons_append, List.append_assoc, List.singleton_append]
    unfold pieceR
    dsimp only
    rw [if_neg (by decide), if_neg (by decide), if_pos rfl, e]
    show Res.ok (⟨4, coverB ([] ++ pairsR t), []⟩ : Gl) r = _
    rw [List.nil_append, cover_pairs h4]
  · obtain rfl : k = 5 := h1
    obtain rfl : t = [] := h2
    cases a with
    | nil => exact absurd rfl h3
    | cons b as =>
      have e := choice_read as [] b r h5 (by simp only [List.length_cons, List.length_nil] at h4 ⊢; omega)
      show pieceR (123 :: (joinR 44 (b :: as) ++ [125]) ++ r) = _
      rw [List.cons_append, List.append_assoc, List.singleton_append]
      unfold pieceR
      dsimp only
      rw [if_neg (by decide), if_neg (by decide), if_neg (by decide), if_pos rfl]
      rw [List.nil_append] at e
      rw [e]
      rfl
theorem written_head {g : Gl} (h : GlobMay g) : ∃ c u, writtenR g = c :: u ∧ c ≠ 46 ∧ (g.kind ≠ 1 → nb c = false) := by
  obtain ⟨k, t, a⟩ := g
  rcases h with ⟨h1, h2, h3, h4⟩ | ⟨h1, h2, h3⟩ | ⟨h1, h2, h3, h4, h5⟩ | ⟨h1, h2, h3, h4, h5⟩
  · obtain rfl : k = 1 := h1
    cases t with
    | nil => exact absurd rfl h2
    | cons c u => exact ⟨c, u, rfl, (nb_ne (h3 c (List.mem_cons_self ..))).2.2.2.2, fun q => absurd rfl q⟩
  · rcases h1 with h1 | h1
    · obtain rfl : k = 2 := h1
      exact ⟨42, [], rfl, by decide, fun _ => by decide⟩
    · obtain rfl : k = 3 := h1
      exact ⟨63, [], rfl, by decide, fun _ => by decide⟩
  · obtain rfl : k = 4 := h1
    exact ⟨91, _, rfl, by decide, fun _ => by decide⟩
  · obtain rfl : k = 5 := h1
    exact ⟨123, _, rfl, by decide, fun _ => by decide⟩
theorem nodeR_end {acc : List Gl} {l : List UInt8} {g : Gl} (h : pieceR l = .ok g []) : nodeR acc l = .ok (acc ++ [g]) [] := by
  rw [nodeR]
  split
  · rename_i r2 e2 hq
    rw [h] at hq
    cases hq
  · rename_i g2 r2 hq
    rw [h] at hq
    injection hq with q1 q2
    subst q1
    subst q2
    rfl
theorem nodeR_more {acc : List Gl} {l : List UInt8} {g : Gl} {c : UInt8} {u : List UInt8} (h : pieceR l = .ok g (c :: u)) :
    nodeR acc l = if c = 46 then .ok (acc ++ [g]) (c :: u) else nodeR (acc ++ [g]) (c :: u) := by
  rw [nodeR]
  split
  · rename_i r2 e2 hq
    rw [h] at hq
    cases hq
  · rename_i g2 r2 hq
    rw [h] at hq
    injection hq with q1 q2
    subst q1
    subst q2
    rfl
theorem nodeR_bad {acc : List Gl} {l : List UInt8} {r : List UInt8} {e : Int} (h : pieceR l = .err r e) : nodeR acc l = .err r e := by
  rw [nodeR]
  split
  · rename_i r2 e2 hq
    rw [h] at hq
    injection hq with q1 q2
    rw [q1, q2]
  · rename_i g2 r2 hq
    rw [h] at hq
    cases hq
theorem readR_end {acc : List (List Gl)} {l : List UInt8} {n : List Gl} (h : nodeR [] l = .ok n []) : readR acc l = .ok (acc ++ [n]) [] := by
  rw [readR]
  split
  · rename_i r2 e2 hq
    rw [h] at hq
    cases hq
  · rename_i g2 r2 hq
    rw [h] at hq
    injection hq with q1 q2
    subst q1
    subst q2
    rfl
theorem readR_more {acc : List (List Gl)} {l : List UInt8} {n : List Gl} {c : UInt8} {u : List UInt8} (h : nodeR [] l = .ok n (c :: u)) :
    readR acc l = if acc.length + 1 = 16 then .err (c :: u) 3 else readR (acc ++ [n]) u := by
  rw [readR]
  split
  · rename_i r2 e2 hq
    rw [h] at hq
    cases hq
  · rename_i g2 r2 hq
    rw [h] at hq
    injection hq with q1 q2
    subst q1
    subst q2
    rfl
theorem readR_bad {acc : List (List Gl)} {l : List UInt8} {r : List UInt8} {e : Int} (h : nodeR [] l = .err r e) : readR acc l = .err r e := by
  rw [readR]
  split
  · rename_i r2 e2 hq
    rw [h] at hq
    injection hq with q1 q2
    rw [q1, q2]
  · rename_i g2 r2 hq
    rw [h] at hq
    cases hq
/-- A node is read again, as far as a point or the end. -/
theorem node_read : ∀ (n : List Gl) (acc : List Gl) (r : List UInt8), NodeMay n → (r = [] ∨ ∃ u, r = 46 :: u) → nodeR acc (nodeW n ++ r) = .ok (acc ++ n) r := by
  intro n
  induction n with
  | nil => intro acc r h; exact absurd rfl h.1
  | cons g t ih =>
    intro acc r h hr
    have hg := h.2.1 g (List.mem_cons_self ..)
    have hrn : NoHead r := by
      rcases hr with rfl | ⟨u, rfl⟩
      · exact noHead_nil
      · exact noHead_cons (by decide)
    have e0 : nodeW (g :: t) ++ r = writtenR g ++ (nodeW t ++ r) := by
      unfold nodeW
      rw [List.flatMap_cons, List.append_assoc]
    rw [e0]
    cases t with
    | nil =>
      have hp := piece_read hg (r := r) (fun _ => hrn)
      show nodeR acc (writtenR g ++ r) = _
      rcases hr with rfl | ⟨u, rfl⟩
      · exact nodeR_end hp
      · rw [nodeR_more hp, if_pos rfl]
    | cons g2 t2 =>
      have hg2 := h.2.1 g2 (by simp)
      obtain ⟨c, u, hc, hc46, hcn⟩ := written_head hg2
      have hw : nodeW (g2 :: t2) ++ r = c :: (u ++ (nodeW t2 ++ r)) := by
        unfold nodeW
        rw [List.flatMap_cons, hc]
        simp
      have hp := piece_read hg (r := nodeW (g2 :: t2) ++ r) (fun h1 => by
        rw [hw]
        exact noHead_cons (hcn (fun h2 => h.2.2.1 ⟨h1, h2⟩)))
      have hrec := ih (acc ++ [g]) r ⟨by simp, fun x hx => h.2.1 x (List.mem_cons_of_mem _ hx), h.2.2.2⟩ hr
      rw [hw] at hp hrec ⊢
      rw [nodeR_more hp, if_neg hc46, hrec, List.append_assoc]
      rfl
/-- A pattern is read again. -/
theorem read_whole : ∀ (p : List (List Gl)) (acc : List (List Gl)), p ≠ [] → (∀ n ∈ p, NodeMay n) → acc.length + p.length ≤ 16 → readR acc (wholeR p) = .ok (acc ++ p) [] := by
  intro p
  induction p with
  | nil => intro acc h; exact absurd rfl h
  | cons n t ih =>
    intro acc _ hn hl
    have h1 := hn n (List.mem_cons_self ..)
    cases t with
    | nil =>
      have hr := node_read n [] [] h1 (.inl rfl)
      rw [List.append_nil, List.nil_append] at hr
      exact readR_end hr
    | cons n2 t2 =>
      have hr := node_read n [] (46 :: wholeR (n2 :: t2)) h1 (.inr ⟨_, rfl⟩)
      rw [List.nil_append] at hr
      have hrec := ih (acc ++ [n]) (by simp) (fun x hx => hn x (List.mem_cons_of_mem _ hx)) (by rw [List.length_append, List.length_singleton]; simp only [List.length_cons] at hl ⊢; omega)
      show readR acc (nodeW n ++ 46 :: wholeR (n2 :: t2)) = _
      rw [readR_more hr, if_neg (by simp only [List.length_cons] at hl; omega), hrec, List.append_assoc]
      rfl
theorem compile_whole {p : List (List Gl)} (h : PatMay p) : compileP (wholeR p) = (p, 0, 0) := by
  unfold compileP
  rw [read_whole p [] h.1 h.2.2 (by simpa using h.2.1)]
  rfl
end Go.Proofs.YtecfmmalbehcnaaDoor.Q

/- Patterns: what is read may be, and its text is not longer. -/
namespace Go.Proofs.YtecfmmalbehcnaaDoor.Q
set_option linter.unusedVariables false

def OkPair (p : UInt8 × UInt8) : Prop := cb p.1 = true ∧ (p.1 = p.2 ∨ (0 < sortB p.1 ∧ sortB p.2 = sortB p.1 ∧ p.1.toNat ≤ p.2.toNat))
def costP (p : UInt8 × UInt8) : Nat := if p.1 = p.2 then 1 else 3
def costs (a : List (UInt8 × UInt8)) : Nat := (a.map costP).sum
theorem costs_append (a b : List (UInt8 × UInt8)) : costs (a ++ b) = costs a + costs b := by
  unfold costs
  rw [List.map_append, List.sum_append]
theorem cb_of_sort {c : UInt8} (h : 0 < sortB c) : cb c = true := by
  unfold cb
  rw [decide_eq_true h]
  rfl
/-- What a class is read as. -/
theorem class_ok : ∀ (l : List UInt8) (f : Bool) (acc : List (UInt8 × UInt8)) {a r}, classR f acc l = .ok a r → (∀ p ∈ acc, OkPair p) → (acc ≠ [] ∨ f = true) →
    (∀ p ∈ a, OkPair p) ∧ a ≠ [] ∧ costs a + 1 + r.length ≤ costs acc + l.length := by
  intro l
  induction h : l.length using Nat.strongRecOn generalizing l with
  | ind n ih =>
    intro f acc a r hr hacc hne
    subst h
    have hadd : ∀ {p : UInt8 × UInt8}, OkPair p → ∀ q ∈ acc ++ [p], OkPair q := by
      intro p hp q hq
      rcases List.mem_append.1 hq with hq | hq
      · exact hacc q hq
      · rw [List.mem_singleton.1 hq]
        exact hp
    cases l with
    | nil => simp [classR] at hr
    | cons c t =>
      unfold classR at hr
      split at hr
      · rename_i hf
        injection hr with h1 h2
        subst h1
        subst h2
        refine ⟨hacc, hne.resolve_right (by rw [hf.1]; decide), ?_⟩
        simp only [List.length_cons]
        omega
      · split at hr
        · cases hr
        · rename_i hcb
          have hcb : cb c = true := by cases hx : cb c; exact absurd hx hcb; rfl
          split at hr
          · simp [classR] at hr
          · rename_i m u
            split at hr
            · split at hr
              · cases hr
              · rename_i hs0
                split at hr
                · cases hr
                · rename_i d v
                  split at hr
                  · cases hr
                  · rename_i hd
                    have hp : OkPair (c, d) := ⟨hcb, .inr ⟨(show 0 < sortB c by omega), (show sortB d = sortB c by omega), (show c.toNat ≤ d.toNat by omega)⟩⟩
                    obtain ⟨g1, g2, g3⟩ := ih v.length (by simp; omega) v rfl _ _ hr (hadd hp) (.inl (by simp))
                    refine ⟨g1, g2, ?_⟩
                    rw [costs_append] at g3
                    have : costs [(c, d)] ≤ 3 := by
                      show costP (c, d) + 0 ≤ 3
                      unfold costP
                      split <;> omega
                    simp only [List.length_cons]
                    omega
            · have hp : OkPair (c, c) := ⟨hcb, .inl rfl⟩
              obtain ⟨g1, g2, g3⟩ := ih (m :: u).length (by simp) (m :: u) rfl _ _ hr (hadd hp) (.inl (by simp))
              refine ⟨g1, g2, ?_⟩
              rw [costs_append] at g3
              have : costs [(c, c)] = 1 := by
                show costP (c, c) + 0 = 1
                unfold costP
                rw [if_pos rfl]
              simp only [List.length_cons] at g3 ⊢
              omega
theorem sort_between {c d x : UInt8} (h0 : 0 < sortB c) (h : sortB d = sortB c) (h1 : c.toNat ≤ x.toNat) (h2 : x.toNat ≤ d.toNat) : sortB x = sortB c := by
  unfold sortB at *
  split at h0
  · rename_i a
    rw [if_pos a] at h ⊢
    split at h
    · rw [if_pos (by omega)]
    · split at h
      · omega
      · split at h <;> omega
  · rename_i a
    rw [if_neg a] at h ⊢
    split at h0
    · rename_i b
      rw [if_pos b] at h ⊢
      split at h
      · omega
      · split at h
        · rw [if_neg (by omega), if_pos (by omega)]
        · split at h <;> omega
    · rename_i b
      rw [if_neg b] at h ⊢
      split at h0
      · rename_i e
        rw [if_pos e] at h ⊢
        split at h
        · omega
        · split at h
          · omega
          · split at h
            · rw [if_neg (by omega), if_neg (by omega), if_pos (by omega)]
            · omega
      · omega
theorem pair_sort {p : UInt8 × UInt8} (h : OkPair p) {x : UInt8} (h1 : p.1.toNat ≤ x.toNat) (h2 : x.toNat ≤ p.2.toNat) : x = p.1 ∨ (0 < sortB p.1 ∧ sortB x = sortB p.1) := by
  rcases h.2 with e | ⟨a, b, c⟩
  · left
    rw [← e] at h2
    exact UInt8.toNat_inj.1 (by omega)
  · exact .inr ⟨a, sort_between a b h1 h2⟩
theorem cover_cb {a : List (UInt8 × UInt8)} (h : ∀ p ∈ a, OkPair p) : ∀ x ∈ coverB a, cb x = true := by
  intro x hx
  rw [mem_coverB] at hx
  obtain ⟨p, hp, hq⟩ := List.any_eq_true.1 hx
  have hq := of_decide_eq_true hq
  rcases pair_sort (h p hp) hq.1 hq.2 with rfl | ⟨h0, h1⟩
  · exact (h p hp).1
  · exact cb_of_sort (by omega)
theorem cover_ne {a : List (UInt8 × UInt8)} (h : ∀ p ∈ a, OkPair p) (hne : a ≠ []) : coverB a ≠ [] := by
  cases a with
  | nil => exact absurd rfl hne
  | cons p t =>
    intro e
    have hp := h p (List.mem_cons_self ..)
    have : p.1 ∈ coverB (p :: t) := by
      rw [mem_coverB, List.any_cons, Bool.or_eq_true]
      left
      rw [decide_eq_true_eq]
      refine ⟨Nat.le_refl _, ?_⟩
      rcases hp.2 with q | ⟨-, -, q⟩
      · rw [← q]; exact Nat.le_refl _
      · exact q
    rw [e] at this
    cases this

/- ## A class is not longer. -/
/-- Behind the run nothing of the run's sort goes on. -/
theorem runR_stop (c : UInt8) : ∀ (t : List UInt8) (p d : UInt8), t[runR c p t]? = some d → 0 < sortB c → sortB d = sortB c → d.toNat ≠ p.toNat + 1 + runR c p t := by
  intro t
  induction t with
  | nil => intro p d h; simp at h
  | cons e t ih =>
    intro p d h h0 hs
    unfold runR at h ⊢
    split at h
    · rename_i hh
      rw [if_pos hh]
      have := ih e d (by simpa using h) h0 hs
      omega
    · rename_i hh
      rw [if_neg hh]
      have hd : e = d := by simpa using h
      subst hd
      intro q
      exact hh ⟨h0, hs, by omega⟩
theorem costs_filter (a : List (UInt8 × UInt8)) (f : UInt8 × UInt8 → Bool) : costs a = costs (a.filter f) + costs (a.filter (fun p => !f p)) := by
  induction a with
  | nil => rfl
  | cons p t ih =>
    have e : ∀ (q : UInt8 × UInt8) (u : List (UInt8 × UInt8)), costs (q :: u) = costP q + costs u := fun q u => by unfold costs; rw [List.map_cons, List.sum_cons]
    cases hf : f p with
    | true => rw [List.filter_cons_of_pos hf, List.filter_cons_of_neg (by rw [hf]; decide), e, e, ih]; omega
    | false => rw [List.filter_cons_of_neg (by rw [hf]; decide), List.filter_cons_of_pos (by rw [hf]; decide), e, e, ih]; omega
theorem costs_length (a : List (UInt8 × UInt8)) : a.length ≤ costs a := by
  induction a with
  | nil => exact Nat.le_refl _
  | cons p t ih =>
    have e : costs (p :: t) = costP p + costs t := by unfold costs; rw [List.map_cons, List.sum_cons]
    have : 1 ≤ costP p := by unfold costP; split <;> omega
    rw [List.length_cons]
    omega
theorem costs_one {a : List (UInt8 × UInt8)} {p : UInt8 × UInt8} (hp : p ∈ a) (h : p.1 ≠ p.2) : 3 ≤ costs a := by
  induction a with
  | nil => cases hp
  | cons q t ih =>
    have e : costs (q :: t) = costP q + costs t := by unfold costs; rw [List.map_cons, List.sum_cons]
    rcases List.mem_cons.1 hp with rfl | hp
    · have : costP p = 3 := by unfold costP; rw [if_neg h]
      omega
    · have := ih hp
      omega
theorem length_of_subset : ∀ (s m : List UInt8), s.Nodup → (∀ x ∈ s, x ∈ m) → s.length ≤ m.length := by
  intro s
  induction s with
  | nil => intro m _ _; exact Nat.zero_le _
  | cons x t ih =>
    intro m hn h
    have hx := h x (List.mem_cons_self ..)
    have := ih (m.erase x) (List.nodup_cons.1 hn).2 (fun y hy => (List.mem_erase_of_ne (fun e => (List.nodup_cons.1 hn).1 (by rw [← e]; exact hy))).2 (h y (List.mem_cons_of_mem _ hy)))
    rw [List.length_erase_of_mem hx] at this
    have h0 := List.length_pos_of_mem hx
    rw [List.length_cons]
    omega
/-- Elements one apart from another, each covered by a pair of a single byte: there are as many pairs. -/
theorem length_of_singles : ∀ (s : List UInt8) (a : List (UInt8 × UInt8)), s.Nodup → (∀ x ∈ s, ∃ p ∈ a, p.1 = x) → s.length ≤ a.length := by
  intro s a hs h
  have : s.length ≤ (a.map (·.1)).length := by
    refine length_of_subset _ _ hs ?_
    intro x hx
    obtain ⟨p, hp, e⟩ := h x hx
    exact List.mem_map.2 ⟨p, hp, e⟩
  simpa using this
theorem rise_getElem {s : List UInt8} (h : RiseB s) {i j : Nat} {x y : UInt8} (hi : s[i]? = some x) (hj : s[j]? = some y) (hij : i < j) : x.toNat < y.toNat := by
  obtain ⟨h1, e1⟩ := List.getElem?_eq_some_iff.1 hi
  obtain ⟨h2, e2⟩ := List.getElem?_eq_some_iff.1 hj
  have := List.pairwise_iff_getElem.1 h i j h1 h2 hij
  rw [e1, e2] at this
  exact this
/-- What covers a rising text, and lies in it, costs no less than the text's own writing. -/
theorem ranged_cost : ∀ (s : List UInt8) (a : List (UInt8 × UInt8)), RiseB s → (∀ p ∈ a, OkPair p) → (∀ x : UInt8, x ∈ s ↔ ∃ p ∈ a, p.1.toNat ≤ x.toNat ∧ x.toNat ≤ p.2.toNat) → (rangedR s).length ≤ costs a := by
  intro s
  induction h : s.length using Nat.strongRecOn generalizing s with
  | ind n ih =>
    intro a hs ha hc
    subst h
    cases s with
    | nil => rw [rangedR]; exact Nat.zero_le _
    | cons c t =>
      have hle := runR_le c t c
      have hts : RiseB t := (List.pairwise_cons.1 hs).2
      have hct := (List.pairwise_cons.1 hs).1
      have hk : ∃ k, k = runR c c t := ⟨_, rfl⟩
      obtain ⟨k, hk⟩ := hk
      -- within the run
      have hin : ∀ x : UInt8, x ∈ c :: t.take k ↔ (c.toNat ≤ x.toNat ∧ x.toNat ≤ c.toNat + k) ∧ x ∈ c :: t := by
        intro x
        constructor
        · intro hx
          rcases List.mem_cons.1 hx with rfl | hx
          · exact ⟨⟨by omega, by omega⟩, List.mem_cons_self ..⟩
          · obtain ⟨j, hj⟩ := List.mem_iff_getElem?.1 hx
            have hjl : j < k := by
              have := (List.getElem?_eq_some_iff.1 hj).1
              rw [List.length_take] at this
              omega
            rw [List.getElem?_take_of_lt hjl] at hj
            obtain ⟨e2, he2, hen, -⟩ := runR_get c t c j (by omega)
            rw [hj] at he2
            injection he2 with he2
            subst he2
            exact ⟨⟨by omega, by omega⟩, List.mem_cons_of_mem _ (List.mem_of_getElem? hj)⟩
        · rintro ⟨⟨h1, h2⟩, hx⟩
          rcases List.mem_cons.1 hx with rfl | hx
          · exact List.mem_cons_self ..
          · refine List.mem_cons_of_mem _ ?_
            have := hct x hx
            obtain ⟨e, he, hen, -⟩ := runR_get c t c (x.toNat - c.toNat - 1) (by omega)
            have hxe : x = e := UInt8.toNat_inj.1 (by omega)
            subst hxe
            refine List.mem_of_getElem? (i := x.toNat - c.toNat - 1) ?_
            rw [List.getElem?_take_of_lt (by omega)]
            exact he
      have hcut : ∀ x : UInt8, x ∈ t.drop k ↔ x ∈ c :: t ∧ c.toNat + k < x.toNat := by
        intro x
        constructor
        · intro hx
          refine ⟨List.mem_cons_of_mem _ (List.mem_of_mem_drop hx), ?_⟩
          apply Nat.lt_of_not_le
          intro hle2
          have hxt := List.mem_of_mem_drop hx
          have hx2 := (hin x).2 ⟨⟨by have := hct x hxt; omega, hle2⟩, List.mem_cons_of_mem _ hxt⟩
          rcases List.mem_cons.1 hx2 with rfl | hx2
          · exact absurd (hct x hxt) (by omega)
          · obtain ⟨i, hi⟩ := List.mem_iff_getElem?.1 hx2
            obtain ⟨j, hj⟩ := List.mem_iff_getElem?.1 hx
            have hil : i < k := by
              have := (List.getElem?_eq_some_iff.1 hi).1
              rw [List.length_take] at this
              omega
            rw [List.getElem?_take_of_lt hil] at hi
            rw [List.getElem?_drop] at hj
            have := rise_getElem hts hi hj (by omega)
            omega
        · rintro ⟨hx, hlt⟩
          rcases List.mem_cons.1 hx with rfl | hx
          · omega
          · rw [← List.take_append_drop k t] at hx
            rcases List.mem_append.1 hx with hx | hx
            · have := ((hin x).1 (List.mem_cons_of_mem _ hx)).1
              omega
            · exact hx
      -- a pair that meets the run lies in it
      have hpair : ∀ p ∈ a, p.1.toNat ≤ c.toNat + k → p.2.toNat ≤ c.toNat + k := by
        intro p hp h1
        apply Nat.le_of_not_lt
        intro h2
        have hOk := ha p hp
        have hle12 : p.1.toNat ≤ p.2.toNat := by omega
        have hp1 : p.1 ∈ c :: t := (hc p.1).2 ⟨p, hp, Nat.le_refl _, hle12⟩
        have hp1c : c.toNat ≤ p.1.toNat := by
          rcases List.mem_cons.1 hp1 with e | e
          · rw [e]; exact Nat.le_refl _
          · exact Nat.le_of_lt (hct _ e)
        have hne : p.1 ≠ p.2 := by intro e; rw [e] at h1; omega
        obtain ⟨h0, hs2, -⟩ := hOk.2.resolve_left hne
        -- the byte behind the run is in the text and of its sort
        have hlt := p.2.toNat_lt
        have hy : (UInt8.ofNat (c.toNat + k + 1)).toNat = c.toNat + k + 1 := by
          rw [UInt8.toNat_ofNat', Nat.mod_eq_of_lt (by omega)]
        have hym : UInt8.ofNat (c.toNat + k + 1) ∈ c :: t := (hc _).2 ⟨p, hp, by omega, by omega⟩
        have hyd := (hcut _).2 ⟨hym, by omega⟩
        have hys := sort_between h0 hs2 (x := UInt8.ofNat (c.toNat + k + 1)) (by omega) (by omega)
        -- the sort of the run's beginning
        have hcs : sortB p.1 = sortB c ∧ 0 < sortB c := by
          have hp1in := (hin p.1).2 ⟨⟨hp1c, h1⟩, hp1⟩
          rcases List.mem_cons.1 hp1in with e | e
          · rw [e] at h0 ⊢
            exact ⟨rfl, h0⟩
          · obtain ⟨j, hj⟩ := List.mem_iff_getElem?.1 e
            have hjl : j < k := by
              have := (List.getElem?_eq_some_iff.1 hj).1
              rw [List.length_take] at this
              omega
            rw [List.getElem?_take_of_lt hjl] at hj
            obtain ⟨e2, he2, hen, g1, g2⟩ := runR_get c t c j (by omega)
            rw [hj] at he2
            injection he2 with he2
            rw [he2]
            exact ⟨g1, g2⟩
        -- it stands first behind the run
        obtain ⟨i, hi⟩ := List.mem_iff_getElem?.1 hyd
        cases hz : (t.drop k)[0]? with
        | none =>
          rw [List.getElem?_eq_none_iff] at hz
          have := (List.getElem?_eq_some_iff.1 hi).1
          omega
        | some z =>
          have hzm : z ∈ t.drop k := List.mem_of_getElem? hz
          have hzgt := ((hcut z).1 hzm).2
          have hrd : RiseB (t.drop k) := hts.sublist (List.drop_sublist _ _)
          have hzy : z = UInt8.ofNat (c.toNat + k + 1) := by
            cases i with
            | zero => rw [hz] at hi; injection hi
            | succ i =>
              have := rise_getElem hrd hz hi (by omega)
              omega
          rw [List.getElem?_drop, Nat.add_zero, hk] at hz
          exact runR_stop c t c z hz hcs.2 (by rw [hzy, hys, hcs.1]) (by rw [hzy, hy, hk]; omega)
      let f : UInt8 × UInt8 → Bool := fun p => decide (p.1.toNat ≤ c.toNat + k)
      rw [costs_filter a f]
      have hmemf : ∀ p, p ∈ a.filter f ↔ p ∈ a ∧ p.1.toNat ≤ c.toNat + k := fun p => by
        rw [List.mem_filter]
        exact and_congr Iff.rfl decide_eq_true_iff
      have hmemg : ∀ p, p ∈ a.filter (fun p => !f p) ↔ p ∈ a ∧ c.toNat + k < p.1.toNat := fun p => by
        rw [List.mem_filter]
        refine and_congr Iff.rfl ?_
        show (!decide (p.1.toNat ≤ c.toNat + k)) = true ↔ _
        rw [Bool.not_eq_true', decide_eq_false_iff_not, Nat.not_le]
      have hrest : (rangedR (t.drop k)).length ≤ costs (a.filter (fun p => !f p)) := by
        refine ih (t.drop k).length (by simp; omega) _ rfl _ (hts.sublist (List.drop_sublist _ _)) (fun p hp => ha p ((hmemg p).1 hp).1) (fun x => ?_)
        rw [hcut, hc]
        constructor
        · rintro ⟨⟨p, hp, h1, h2⟩, hlt⟩
          refine ⟨p, (hmemg p).2 ⟨hp, ?_⟩, h1, h2⟩
          apply Nat.lt_of_not_le
          intro hle2
          have := hpair p hp hle2
          omega
        · rintro ⟨p, hp, h1, h2⟩
          obtain ⟨hp, hlt⟩ := (hmemg p).1 hp
          exact ⟨⟨p, hp, h1, h2⟩, by omega⟩
      have hrun : (if 2 ≤ k then [c, 45, (t[k - 1]?).getD c] else c :: t.take k).length ≤ costs (a.filter f) := by
        have hcov : ∀ x ∈ c :: t.take k, ∃ p ∈ a.filter f, p.1.toNat ≤ x.toNat ∧ x.toNat ≤ p.2.toNat := by
          intro x hx
          obtain ⟨hb, hm⟩ := (hin x).1 hx
          obtain ⟨p, hp, h1, h2⟩ := (hc x).1 hm
          exact ⟨p, (hmemf p).2 ⟨hp, by omega⟩, h1, h2⟩
        by_cases hw : ∃ p ∈ a.filter f, p.1 ≠ p.2
        · obtain ⟨p, hp, hne⟩ := hw
          have := costs_one hp hne
          split
          · simpa using this
          · rw [List.length_cons, List.length_take]
            omega
        · have hsing : ∀ x ∈ c :: t.take k, ∃ p ∈ a.filter f, p.1 = x := by
            intro x hx
            obtain ⟨p, hp, h1, h2⟩ := hcov x hx
            have he : p.1 = p.2 := Decidable.byContradiction (fun hne => hw ⟨p, hp, hne⟩)
            rw [← he] at h2
            exact ⟨p, hp, UInt8.toNat_inj.1 (by omega)⟩
          have hnd : (c :: t.take k).Nodup := by
            have : RiseB (c :: t.take k) := hs.sublist ((List.take_sublist _ _).cons_cons _)
            exact this.imp (fun h e => by rw [e] at h; omega)
          have h1 := length_of_singles _ _ hnd hsing
          have h2 := costs_length (a.filter f)
          rw [List.length_cons, List.length_take] at h1
          split
          · show 3 ≤ _
            omega
          · rw [List.length_cons, List.length_take]
            omega
      rw [rangedR, ← hk, List.length_append]
      omega
theorem cover_cost {a : List (UInt8 × UInt8)} (h : ∀ p ∈ a, OkPair p) : (rangedR (coverB a)).length ≤ costs a := by
  refine ranged_cost _ _ (coverB_rise _) h (fun x => ?_)
  rw [mem_coverB, List.any_eq_true]
  constructor
  · rintro ⟨p, hp, hq⟩
    exact ⟨p, hp, of_decide_eq_true hq⟩
  · rintro ⟨p, hp, hq⟩
    exact ⟨p, hp, decide_eq_true hq⟩

/- ## Pieces, nodes, patterns. -/
def longs (l : List (List UInt8)) : Nat := (l.map (fun x => x.length + 1)).sum
theorem longs_append (a b : List (List UInt8)) : longs (a ++ b) = longs a + longs b := by
  unfold longs
  rw [List.map_append, List.sum_append]
theorem join_long (sep : UInt8) : ∀ (l : List (List UInt8)), l ≠ [] → (joinR sep l).length + 1 = longs l := by
  intro l
  induction l with
  | nil => intro h; exact absurd rfl h
  | cons a t ih =>
    intro _
    cases t with
    | nil => show a.length + 1 = a.length + 1 + 0; rfl
    | cons b t =>
      have := ih (by simp)
      rw [joinR_cons, List.length_append, List.length_cons]
      show _ = (a.length + 1) + longs (b :: t)
      omega
theorem takeWhile_all (p : UInt8 → Bool) : ∀ (l : List UInt8), ∀ x ∈ l.takeWhile p, p x = true := by
  intro l
  induction l with
  | nil => intro x hx; cases hx
  | cons c t ih =>
    intro x hx
    by_cases hc : p c = true
    · rw [List.takeWhile_cons_of_pos hc] at hx
      rcases List.mem_cons.1 hx with rfl | hx
      · exact hc
      · exact ih x hx
    · rw [List.takeWhile_cons_of_neg hc] at hx
      cases hx
theorem dropWhile_head (l : List UInt8) : NoHead (l.dropWhile nb) := by
  induction l with
  | nil => exact noHead_nil
  | cons c t ih =>
    by_cases hc : nb c = true
    · rw [List.dropWhile_cons_of_pos hc]; exact ih
    · rw [List.dropWhile_cons_of_neg hc]
      exact noHead_cons (by simpa using hc)
theorem take_drop_length (l : List UInt8) : (l.takeWhile nb).length + (l.dropWhile nb).length = l.length := by
  rw [← List.length_append, List.takeWhile_append_dropWhile]
theorem choice_ok : ∀ (l : List UInt8) (acc : List (List UInt8)) {a r}, choiceR acc l = .ok a r → (∀ b ∈ acc, ∀ x ∈ b, nb x = true) → acc ≠ [] → acc.length ≤ 16 →
    (∀ b ∈ a, ∀ x ∈ b, nb x = true) ∧ a ≠ [] ∧ a.length ≤ 16 ∧ longs a + r.length + 1 ≤ longs acc + l.length := by
  intro l
  induction h : l.length using Nat.strongRecOn generalizing l with
  | ind n ih =>
    intro acc a r hr hacc hne hl
    subst h
    cases l with
    | nil => rw [choiceR] at hr; cases hr
    | cons c u =>
      rw [choiceR] at hr
      have hd := take_drop_length u
      split at hr
      · split at hr
        · cases hr
        · obtain ⟨g1, g2, g3, g4⟩ := ih (u.dropWhile nb).length (by simp; omega) _ rfl _ hr (by
            intro b hb
            rcases List.mem_append.1 hb with hb | hb
            · exact hacc b hb
            · rw [List.mem_singleton.1 hb]
              exact takeWhile_all nb u) (by simp) (by rw [List.length_append, List.length_singleton]; omega)
          refine ⟨g1, g2, g3, ?_⟩
          rw [longs_append] at g4
          have : longs [u.takeWhile nb] = (u.takeWhile nb).length + 1 := by unfold longs; simp
          simp only [List.length_cons]
          omega
      · split at hr
        · injection hr with h1 h2
          subst h1
          subst h2
          refine ⟨hacc, hne, hl, ?_⟩
          simp only [List.length_cons]
          omega
        · cases hr
theorem piece_ok {l : List UInt8} {g : Gl} {r : List UInt8} (h : pieceR l = .ok g r) :
    GlobMay g ∧ (g.kind = 1 → NoHead r ∧ ¬ NoHead l) ∧ (writtenR g).length + r.length ≤ l.length := by
  cases l with
  | nil => cases h
  | cons c t =>
    unfold pieceR at h
    dsimp only at h
    split at h
    · injection h with h1 h2; subst h1; subst h2
      exact ⟨.inr (.inl ⟨.inl rfl, rfl, rfl⟩), fun q => absurd q (by decide), by show 1 + _ ≤ _; simp; omega⟩
    · split at h
      · injection h with h1 h2; subst h1; subst h2
        exact ⟨.inr (.inl ⟨.inr rfl, rfl, rfl⟩), fun q => absurd q (by decide), by show 1 + _ ≤ _; simp; omega⟩
      · split at h
        · split at h
          · rename_i a2 r2 hc
            injection h with h1 h2
            subst h1
            subst h2
            obtain ⟨g1, g2, g3⟩ := class_ok _ _ _ hc (fun p hp => by cases hp) (.inr rfl)
            refine ⟨.inr (.inr (.inl ⟨rfl, cover_ne g1 g2, cover_cb g1, coverB_rise _, rfl⟩)), fun q => absurd (show (4 : Int) = 1 from q) (by decide), ?_⟩
            have := cover_cost g1
            show (91 :: (rangedR (coverB a2) ++ [93])).length + r2.length ≤ _
            simp only [List.length_cons, List.length_append, List.length_nil]
            have : costs [] = 0 := rfl
            omega
          · cases h
        · split at h
          · split at h
            · rename_i a2 r2 hc
              injection h with h1 h2
              subst h1
              subst h2
              obtain ⟨g1, g2, g3, g4⟩ := choice_ok _ _ hc (by
                intro b hb
                rw [List.mem_singleton.1 hb]
                exact takeWhile_all nb t) (by simp) (by simp)
              refine ⟨.inr (.inr (.inr ⟨rfl, rfl, g2, g3, g1⟩)), fun q => absurd (show (5 : Int) = 1 from q) (by decide), ?_⟩
              show (123 :: (joinR 44 a2 ++ [125])).length + r2.length ≤ _
              simp only [List.length_cons, List.length_append, List.length_nil]
              have h1 := join_long 44 a2 g2
              have h2 := take_drop_length t
              have h3 : longs [t.takeWhile nb] = (t.takeWhile nb).length + 1 := by unfold longs; simp
              omega
            · cases h
          · split at h
            · rename_i hn
              injection h with h1 h2
              subst h1
              subst h2
              refine ⟨.inl ⟨rfl, by rw [List.takeWhile_cons_of_pos hn]; simp, takeWhile_all nb _, rfl⟩, fun _ => ⟨dropWhile_head _, fun q => ?_⟩, ?_⟩
              · have := q c t rfl
                rw [hn] at this
                cases this
              · exact Nat.le_of_eq (take_drop_length (c :: t))
            · cases h
theorem apart_append {a : List Gl} {g : Gl} (h : ApartG a) (hl : ∀ b, a.getLast? = some b → ¬ (b.kind = 1 ∧ g.kind = 1)) : ApartG (a ++ [g]) := by
  induction a with
  | nil => trivial
  | cons b t ih =>
    cases t with
    | nil => exact ⟨hl b rfl, trivial⟩
    | cons c t => exact ⟨h.1, ih h.2 (fun x hx => hl x (by rw [List.getLast?_cons_cons]; exact hx))⟩
theorem nodeW_append (a : List Gl) (g : Gl) : (nodeW (a ++ [g])).length = (nodeW a).length + (writtenR g).length := by
  unfold nodeW
  rw [List.flatMap_append, List.length_append]
  simp
theorem node_ok : ∀ (l : List UInt8) (acc : List Gl) {n r}, nodeR acc l = .ok n r → (∀ g ∈ acc, GlobMay g) → ApartG acc → (∀ b, acc.getLast? = some b → b.kind = 1 → NoHead l) →
    NodeMay n ∧ (r = [] ∨ ∃ u, r = 46 :: u) ∧ (nodeW n).length + r.length ≤ (nodeW acc).length + l.length := by
  intro l
  induction h : l.length using Nat.strongRecOn generalizing l with
  | ind k ih =>
    intro acc n r hr hacc hap hla
    subst h
    cases hp : pieceR l with
    | err r2 e => rw [nodeR_bad hp] at hr; cases hr
    | ok g r2 =>
      obtain ⟨p1, p2, p3⟩ := piece_ok hp
      have hall : ∀ x ∈ acc ++ [g], GlobMay x := by
        intro x hx
        rcases List.mem_append.1 hx with hx | hx
        · exact hacc x hx
        · rw [List.mem_singleton.1 hx]; exact p1
      have hap2 : ApartG (acc ++ [g]) := apart_append hap (fun b hb hk => (p2 hk.2).2 (hla b hb hk.1))
      have hlast : ∀ b, (acc ++ [g]).getLast? = some b → b.kind = 1 → NoHead r2 := by
        intro b hb hk
        rw [List.getLast?_append] at hb
        have hb : g = b := by simpa using hb
        subst hb
        exact (p2 hk).1
      have hw := nodeW_append acc g
      cases r2 with
      | nil =>
        rw [nodeR_end hp] at hr
        injection hr with h1 h2
        subst h1
        subst h2
        exact ⟨⟨by simp, hall, hap2⟩, .inl rfl, by omega⟩
      | cons c u =>
        rw [nodeR_more hp] at hr
        split at hr
        · rename_i hc
          injection hr with h1 h2
          subst h1
          subst h2
          exact ⟨⟨by simp, hall, hap2⟩, .inr ⟨u, by rw [hc]⟩, by omega⟩
        · obtain ⟨g1, g2, g3⟩ := ih _ (pieceR_lt hp) _ rfl _ hr hall hap2 hlast
          exact ⟨g1, g2, by omega⟩
theorem read_ok : ∀ (l : List UInt8) (acc : List (List Gl)) {p r}, readR acc l = .ok p r → (∀ n ∈ acc, NodeMay n) → acc.length < 16 →
    PatMay p ∧ r = [] ∧ longs (p.map nodeW) ≤ longs (acc.map nodeW) + l.length + 1 := by
  intro l
  induction h : l.length using Nat.strongRecOn generalizing l with
  | ind k ih =>
    intro acc p r hr hacc hl
    subst h
    cases hp : nodeR [] l with
    | err r2 e => rw [readR_bad hp] at hr; cases hr
    | ok n r2 =>
      obtain ⟨p1, p2, p3⟩ := node_ok l [] hp (fun g hg => by cases hg) trivial (fun b hb => by cases hb)
      have hall : ∀ x ∈ acc ++ [n], NodeMay x := by
        intro x hx
        rcases List.mem_append.1 hx with hx | hx
        · exact hacc x hx
        · rw [List.mem_singleton.1 hx]; exact p1
      have hw : longs ((acc ++ [n]).map nodeW) = longs (acc.map nodeW) + ((nodeW n).length + 1) := by
        rw [List.map_append, longs_append]
        unfold longs
        simp
      have h0 : (nodeW []).length = 0 := rfl
      cases r2 with
      | nil =>
        rw [readR_end hp] at hr
        injection hr with h1 h2
        subst h1
        subst h2
        refine ⟨⟨by simp, by rw [List.length_append, List.length_singleton]; omega, hall⟩, rfl, ?_⟩
        simp only [List.length_nil] at p3
        omega
      | cons c u =>
        rw [readR_more hp] at hr
        split at hr
        · cases hr
        · have hlt := nodeR_le _ _ hp
          simp only [List.length_cons] at hlt p3
          obtain ⟨g1, g2, g3⟩ := ih u.length (by omega) u rfl _ hr hall (by rw [List.length_append, List.length_singleton]; omega)
          exact ⟨g1, g2, by omega⟩
theorem class_err : ∀ (l : List UInt8) (f : Bool) (acc : List (UInt8 × UInt8)) {r e}, classR f acc l = .err r e → e = 31 := by
  intro l
  induction h : l.length using Nat.strongRecOn generalizing l with
  | ind n ih =>
    intro f acc r e hr
    subst h
    cases l with
    | nil => simp [classR] at hr; exact hr.2.symm
    | cons c t =>
      unfold classR at hr
      split at hr
      · cases hr
      · split at hr
        · injection hr with h1 h2; exact h2.symm
        · split at hr
          · simp [classR] at hr; exact hr.2.symm
          · rename_i m u
            split at hr
            · split at hr
              · injection hr with h1 h2; exact h2.symm
              · split at hr
                · injection hr with h1 h2; exact h2.symm
                · rename_i d v
                  split at hr
                  · injection hr with h1 h2; exact h2.symm
                  · exact ih v.length (by simp; omega) v rfl _ _ hr
            · exact ih (m :: u).length (by simp) (m :: u) rfl _ _ hr
theorem choice_err : ∀ (l : List UInt8) (acc : List (List UInt8)) {r e}, choiceR acc l = .err r e → e = 31 ∨ e = 3 := by
  intro l
  induction h : l.length using Nat.strongRecOn generalizing l with
  | ind n ih =>
    intro acc r e hr
    subst h
    cases l with
    | nil => rw [choiceR] at hr; injection hr with h1 h2; exact .inl h2.symm
    | cons c u =>
      rw [choiceR] at hr
      have hd := take_drop_length u
      split at hr
      · split at hr
        · injection hr with h1 h2; exact .inr h2.symm
        · exact ih (u.dropWhile nb).length (by simp; omega) _ rfl _ hr
      · split at hr
        · cases hr
        · injection hr with h1 h2; exact .inl h2.symm
theorem piece_err {l : List UInt8} {r : List UInt8} {e : Int} (h : pieceR l = .err r e) : e = 31 ∨ e = 3 := by
  cases l with
  | nil => injection h with h1 h2; exact .inl h2.symm
  | cons c t =>
    unfold pieceR at h
    dsimp only at h
    split at h
    · cases h
    · split at h
      · cases h
      · split at h
        · split at h
          · cases h
          · rename_i hc
            injection h with h1 h2
            exact .inl (h2 ▸ class_err _ _ _ hc)
        · split at h
          · split at h
            · cases h
            · rename_i hc
              injection h with h1 h2
              exact h2 ▸ choice_err _ _ hc
          · split at h
            · cases h
            · injection h with h1 h2; exact .inl h2.symm
theorem node_err : ∀ (l : List UInt8) (acc : List Gl) {r e}, nodeR acc l = .err r e → e = 31 ∨ e = 3 := by
  intro l
  induction h : l.length using Nat.strongRecOn generalizing l with
  | ind k ih =>
    intro acc r e hr
    subst h
    cases hp : pieceR l with
    | err r2 e2 =>
      rw [nodeR_bad hp] at hr
      injection hr with h1 h2
      exact h2 ▸ piece_err hp
    | ok g r2 =>
      cases r2 with
      | nil => rw [nodeR_end hp] at hr; cases hr
      | cons c u =>
        rw [nodeR_more hp] at hr
        split at hr
        · cases hr
        · exact ih _ (pieceR_lt hp) _ rfl _ hr
theorem read_err : ∀ (l : List UInt8) (acc : List (List Gl)) {r e}, readR acc l = .err r e → e = 31 ∨ e = 3 := by
  intro l
  induction h : l.length using Nat.strongRecOn generalizing l with
  | ind k ih =>
    intro acc r e hr
    subst h
    cases hp : nodeR [] l with
    | err r2 e2 =>
      rw [readR_bad hp] at hr
      injection hr with h1 h2
      exact h2 ▸ node_err _ _ hp
    | ok n r2 =>
      cases r2 with
      | nil => rw [readR_end hp] at hr; cases hr
      | cons c u =>
        rw [readR_more hp] at hr
        split at hr
        · injection hr with h1 h2; exact .inr h2.symm
        · have hlt := nodeR_le _ _ hp
          simp only [List.length_cons] at hlt
          exact ih u.length (by omega) u rfl _ hr
theorem wholeR_long {p : List (List Gl)} (h : p ≠ []) : (wholeR p).length + 1 = longs (p.map nodeW) := join_long 46 _ (by simpa using h)
theorem compile_ok {s : List UInt8} {p : List (List Gl)} {at_ : Int} (h : compileP s = (p, at_, 0)) : PatMay p ∧ at_ = 0 ∧ (wholeR p).length ≤ s.length := by
  unfold compileP at h
  cases hr : readR [] s with
  | ok q r =>
    rw [hr] at h
    injection h with h1 h2
    injection h2 with h2 h3
    subst h1
    obtain ⟨g1, g2, g3⟩ := read_ok s [] hr (fun n hn => by cases hn) (by decide)
    refine ⟨g1, h2.symm, ?_⟩
    have := wholeR_long g1.1
    have h0 : longs (([] : List (List Gl)).map nodeW) = 0 := rfl
    omega
  | err r e =>
    rw [hr] at h
    injection h with h1 h2
    injection h2 with h2 h3
    rcases read_err _ _ hr with q | q <;> (rw [q] at h3; exact absurd h3 (by decide))
theorem compile_err {s : List UInt8} : (compileP s).2.2 ≠ 0 → (compileP s).1 = [] ∧ ((compileP s).2.2 = 31 ∨ (compileP s).2.2 = 3) := by
  unfold compileP
  cases hr : readR [] s with
  | ok q r => intro h; exact absurd rfl h
  | err r e => intro _; exact ⟨rfl, read_err _ _ hr⟩
end Go.Proofs.YtecfmmalbehcnaaDoor.Q

/- The place of a fault ahead of a text's end hangs on nothing behind it. -/
namespace Go.Proofs.YtecfmmalbehcnaaDoor.Q
set_option linter.unusedVariables false

theorem class_more : ∀ (l : List UInt8) (f : Bool) (acc : List (UInt8 × UInt8)) (m : List UInt8),
    (∀ a r, classR f acc l = .ok a r → classR f acc (l ++ m) = .ok a (r ++ m)) ∧ (∀ r e, classR f acc l = .err r e → r ≠ [] → classR f acc (l ++ m) = .err (r ++ m) e) := by
  intro l
  induction h : l.length using Nat.strongRecOn generalizing l with
  | ind n ih =>
    intro f acc m
    subst h
    cases l with
    | nil =>
      constructor
      · intro a r h; simp [classR] at h
      · intro r e h hr
        simp [classR] at h
        exact absurd h.1 hr
    | cons c t =>
      rw [List.cons_append, classR.eq_def, classR.eq_def]
      dsimp only
      by_cases h1 : f = false ∧ c = 93
      · rw [if_pos h1, if_pos h1]
        exact ⟨fun a r h => (by injection h with h1 h2; rw [h1, h2]), fun r e h => by cases h⟩
      · rw [if_neg h1, if_neg h1]
        by_cases h2 : cb c = false
        · rw [if_pos h2, if_pos h2]
          refine ⟨fun a r h => (by cases h), fun r e h _ => ?_⟩
          injection h with h3 h4
          rw [← h3, h4]
          rfl
        · rw [if_neg h2, if_neg h2]
          cases t with
          | nil =>
            constructor
            · intro a r h; simp [classR] at h
            · intro r e h hr
              simp [classR] at h
              exact absurd h.1 hr
          | cons x u =>
            rw [List.cons_append]
            dsimp only
            by_cases h3 : x = 45
            · rw [if_pos h3, if_pos h3]
              by_cases h4 : sortB c = 0
              · rw [if_pos h4, if_pos h4]
                refine ⟨fun a r h => (by cases h), fun r e h _ => ?_⟩
                injection h with h3 h4
                rw [← h3, h4]
                rfl
              · rw [if_neg h4, if_neg h4]
                cases u with
                | nil =>
                  constructor
                  · intro a r h; cases h
                  · intro r e h hr
                    injection h with h3 h4
                    exact absurd h3.symm hr
                | cons d v =>
                  rw [List.cons_append]
                  dsimp only
                  by_cases h5 : sortB d = 0 ∨ sortB d ≠ sortB c ∨ d.toNat < c.toNat
                  · rw [if_pos h5, if_pos h5]
                    refine ⟨fun a r h => (by cases h), fun r e h _ => ?_⟩
                    injection h with h3 h4
                    rw [← h3, h4]
                    rfl
                  · rw [if_neg h5, if_neg h5]
                    exact ih v.length (by simp; omega) v rfl _ _ m
            · rw [if_neg h3, if_neg h3]
              exact ih (x :: u).length (by simp) (x :: u) rfl _ _ m
theorem while_more {u m : List UInt8} (h : u.dropWhile nb ≠ []) : (u ++ m).takeWhile nb = u.takeWhile nb ∧ (u ++ m).dropWhile nb = u.dropWhile nb ++ m := by
  induction u with
  | nil => exact absurd rfl h
  | cons c t ih =>
    by_cases hc : nb c = true
    · rw [List.dropWhile_cons_of_pos hc] at h
      obtain ⟨h1, h2⟩ := ih h
      rw [List.cons_append, List.takeWhile_cons_of_pos hc, List.dropWhile_cons_of_pos hc, List.takeWhile_cons_of_pos hc, List.dropWhile_cons_of_pos hc, h1, h2]
      exact ⟨rfl, rfl⟩
    · rw [List.cons_append, List.takeWhile_cons_of_neg hc, List.dropWhile_cons_of_neg hc, List.takeWhile_cons_of_neg hc, List.dropWhile_cons_of_neg hc]
      exact ⟨rfl, rfl⟩
theorem choice_nil (acc : List (List UInt8)) : choiceR acc [] = .err [] 31 := by rw [choiceR]
theorem choice_more : ∀ (l : List UInt8) (acc : List (List UInt8)) (m : List UInt8),
    (∀ a r, choiceR acc l = .ok a r → choiceR acc (l ++ m) = .ok a (r ++ m)) ∧ (∀ r e, choiceR acc l = .err r e → r ≠ [] → choiceR acc (l ++ m) = .err (r ++ m) e) := by
  intro l
  induction h : l.length using Nat.strongRecOn generalizing l with
  | ind n ih =>
    intro acc m
    subst h
    cases l with
    | nil =>
      rw [choice_nil]
      exact ⟨fun a r h => (by cases h), fun r e h hr => by injection h with h1 h2; exact absurd h1.symm hr⟩
    | cons c u =>
      have hd := take_drop_length u
      have e1 : choiceR acc (c :: u) = if c = 44 then (if acc.length = 16 then .err (c :: u) 3 else choiceR (acc ++ [u.takeWhile nb]) (u.dropWhile nb)) else if c = 125 then .ok acc u else .err (c :: u) 31 := by rw [choiceR]
      have e2 : choiceR acc (c :: (u ++ m)) = if c = 44 then (if acc.length = 16 then .err (c :: (u ++ m)) 3 else choiceR (acc ++ [(u ++ m).takeWhile nb]) ((u ++ m).dropWhile nb)) else if c = 125 then .ok acc (u ++ m) else .err (c :: (u ++ m)) 31 := by rw [choiceR]
      rw [List.cons_append, e1, e2]
      by_cases h1 : c = 44
      · rw [if_pos h1, if_pos h1]
        by_cases h2 : acc.length = 16
        · rw [if_pos h2, if_pos h2]
          exact ⟨fun a r h => (by cases h), fun r e h hr => by injection h with h1 h2; rw [← h1, h2]; rfl⟩
        · rw [if_neg h2, if_neg h2]
          by_cases h3 : u.dropWhile nb = []
          · rw [h3, choice_nil]
            exact ⟨fun a r h => (by cases h), fun r e h hr => by injection h with h1 h2; exact absurd h1.symm hr⟩
          · rw [(while_more h3).1, (while_more h3).2]
            exact ih (u.dropWhile nb).length (by simp; omega) _ rfl _ m
      · rw [if_neg h1, if_neg h1]
        by_cases h2 : c = 125
        · rw [if_pos h2, if_pos h2]
          exact ⟨fun a r h => (by injection h with h1 h2; rw [h1, h2]), fun r e h => by cases h⟩
        · rw [if_neg h2, if_neg h2]
          exact ⟨fun a r h => (by cases h), fun r e h hr => by injection h with h1 h2; rw [← h1, h2]; rfl⟩
theorem piece_more (l m : List UInt8) : (∀ g r, pieceR l = .ok g r → r ≠ [] → pieceR (l ++ m) = .ok g (r ++ m)) ∧ (∀ r e, pieceR l = .err r e → r ≠ [] → pieceR (l ++ m) = .err (r ++ m) e) := by
  cases l with
  | nil => exact ⟨fun g r h => (by cases h), fun r e h hr => by injection h with h1 h2; exact absurd h1.symm hr⟩
  | cons c t =>
    have e1 : ∀ t, pieceR (c :: t) = if c = 42 then .ok ⟨2, [], []⟩ t
      else if c = 63 then .ok ⟨3, [], []⟩ t
      else if c = 91 then (match classR true [] t with | .ok a r => .ok ⟨4, coverB a, []⟩ r | .err r e => .err r e)
      else if c = 123 then (match choiceR [t.takeWhile nb] (t.dropWhile nb) with | .ok a r => .ok ⟨5, [], a⟩ r | .err r e => .err r e)
      else if nb c then .ok ⟨1, (c :: t).takeWhile nb, []⟩ ((c :: t).dropWhile nb)
      else .err (c :: t) 31 := fun t => rfl
    rw [List.cons_append, e1, e1]
    by_cases h1 : c = 42
    · rw [if_pos h1, if_pos h1]
      exact ⟨fun a r h _ => (by injection h with h1 h2; rw [h1, h2]), fun r e h => by cases h⟩
    · rw [if_neg h1, if_neg h1]
      by_cases h2 : c = 63
      · rw [if_pos h2, if_pos h2]
        exact ⟨fun a r h _ => (by injection h with h1 h2; rw [h1, h2]), fun r e h => by cases h⟩
      · rw [if_neg h2, if_neg h2]
        by_cases h3 : c = 91
        · rw [if_pos h3, if_pos h3]
          obtain ⟨k1, k2⟩ := class_more t true [] m
          cases hq : classR true [] t with
          | ok a r =>
            rw [k1 a r hq]
            dsimp only
            exact ⟨fun a r h _ => (by injection h with h1 h2; rw [h1, h2]), fun r e h => by cases h⟩
          | err r e =>
            dsimp only
            refine ⟨fun a r h => (by cases h), fun r2 e2 h hr => ?_⟩
            injection h with h1 h2
            rw [← h1] at hr
            rw [k2 r e hq hr, h1, h2]
        · rw [if_neg h3, if_neg h3]
          by_cases h4 : c = 123
          · rw [if_pos h4, if_pos h4]
            by_cases h5 : t.dropWhile nb = []
            · rw [h5, choice_nil]
              dsimp only
              exact ⟨fun a r h => (by cases h), fun r e h hr => by injection h with h1 h2; exact absurd h1.symm hr⟩
            · rw [(while_more h5).1, (while_more h5).2]
              obtain ⟨k1, k2⟩ := choice_more (t.dropWhile nb) [t.takeWhile nb] m
              cases hq : choiceR [t.takeWhile nb] (t.dropWhile nb) with
              | ok a r =>
                rw [k1 a r hq]
                dsimp only
                exact ⟨fun a r h _ => (by injection h with h1 h2; rw [h1, h2]), fun r e h => by cases h⟩
              | err r e =>
                dsimp only
                refine ⟨fun a r h => (by cases h), fun r2 e2 h hr => ?_⟩
                injection h with h1 h2
                rw [← h1] at hr
                rw [k2 r e hq hr, h1, h2]
          · rw [if_neg h4, if_neg h4]
            by_cases h5 : nb c = true
            · rw [if_pos h5, if_pos h5]
              refine ⟨fun a r h hr => ?_, fun r e h => by cases h⟩
              injection h with h1 h2
              rw [← h2] at hr
              have := while_more (u := c :: t) (m := m) hr
              rw [List.cons_append] at this
              rw [this.1, this.2, h1, h2]
            · rw [if_neg h5, if_neg h5]
              refine ⟨fun a r h => (by cases h), fun r e h _ => ?_⟩
              injection h with h1 h2
              rw [← h1, h2]
              rfl
theorem node_more : ∀ (l : List UInt8) (acc : List Gl) (m : List UInt8),
    (∀ a r, nodeR acc l = .ok a r → r ≠ [] → nodeR acc (l ++ m) = .ok a (r ++ m)) ∧ (∀ r e, nodeR acc l = .err r e → r ≠ [] → nodeR acc (l ++ m) = .err (r ++ m) e) := by
  intro l
  induction h : l.length using Nat.strongRecOn generalizing l with
  | ind n ih =>
    intro acc m
    subst h
    cases hp : pieceR l with
    | err r2 e2 =>
      rw [nodeR_bad hp]
      refine ⟨fun a r h => (by cases h), fun r e h hr => ?_⟩
      injection h with h1 h2
      rw [← h1] at hr
      rw [nodeR_bad ((piece_more l m).2 _ _ hp hr), h1, h2]
    | ok g r2 =>
      cases r2 with
      | nil =>
        rw [nodeR_end hp]
        refine ⟨fun a r h hr => ?_, fun r e h => by cases h⟩
        injection h with h1 h2
        exact absurd h2.symm hr
      | cons c u =>
        have hp2 := (piece_more l m).1 _ _ hp (by simp)
        rw [List.cons_append] at hp2
        rw [nodeR_more hp, nodeR_more hp2]
        by_cases hc : c = 46
        · rw [if_pos hc, if_pos hc]
          refine ⟨fun a r h hr => ?_, fun r e h => by cases h⟩
          injection h with h1 h2
          rw [← h2, h1]
          rfl
        · rw [if_neg hc, if_neg hc]
          exact ih _ (pieceR_lt hp) _ rfl _ m
theorem read_more : ∀ (l : List UInt8) (acc : List (List Gl)) (m : List UInt8) (r : List UInt8) (e : Int), readR acc l = .err r e → r ≠ [] → readR acc (l ++ m) = .err (r ++ m) e := by
  intro l
  induction h : l.length using Nat.strongRecOn generalizing l with
  | ind n ih =>
    intro acc m r e h2 hr
    subst h
    have h := h2
    clear h2
    cases hp : nodeR [] l with
    | err r2 e2 =>
      rw [readR_bad hp] at h
      injection h with h1 h2
      rw [← h1] at hr
      rw [readR_bad ((node_more l [] m).2 _ _ hp hr), h1, h2]
    | ok g r2 =>
      cases r2 with
      | nil => rw [readR_end hp] at h; cases h
      | cons c u =>
        have hp2 := (node_more l [] m).1 _ _ hp (by simp)
        rw [List.cons_append] at hp2
        rw [readR_more hp] at h
        rw [readR_more hp2]
        by_cases hc : acc.length + 1 = 16
        · rw [if_pos hc] at h ⊢
          injection h with h1 h2
          rw [← h1, h2]
          rfl
        · rw [if_neg hc] at h ⊢
          have hlt := nodeR_le _ _ hp
          simp only [List.length_cons] at hlt
          exact ih u.length (by omega) u rfl _ m r e h hr
/-- The first fault hangs on nothing behind it. -/
theorem compile_first {s m : List UInt8} (h0 : (compileP s).2.2 ≠ 0) (h : (compileP s).2.1 < s.length) : compileP (s ++ m) = compileP s := by
  unfold compileP at *
  cases hr : readR [] s with
  | ok q r => rw [hr] at h0; exact absurd rfl h0
  | err r e =>
    rw [hr] at h
    have h : ((s.length - r.length : Nat) : Int) < s.length := h
    have hne : r ≠ [] := by
      rintro rfl
      simp only [List.length_nil] at h
      omega
    rw [read_more s [] m r e hr hne]
    dsimp only
    have : (s ++ m).length - (r ++ m).length = s.length - r.length := by
      rw [List.length_append, List.length_append]
      omega
    rw [this]
end Go.Proofs.YtecfmmalbehcnaaDoor.Q

/- Names: a text cut at its points; what a pattern matches. -/
namespace Go.Proofs.YtecfmmalbehcnaaDoor.Q
set_option linter.unusedVariables false

/-- A text cut at its points. -/
def cutP : List UInt8 → List (List UInt8)
  | [] => [[]]
  | c :: t => if c = 46 then [] :: cutP t else match cutP t with
    | [] => [[c]]
    | a :: u => (c :: a) :: u
theorem cutP_ne (s : List UInt8) : cutP s ≠ [] := by
  cases s with
  | nil => simp [cutP]
  | cons c t =>
    unfold cutP
    split
    · simp
    · split <;> simp
theorem cutP_cons {c : UInt8} {t : List UInt8} (h : c ≠ 46) : ∃ a u, cutP t = a :: u ∧ cutP (c :: t) = (c :: a) :: u := by
  cases hq : cutP t with
  | nil => exact absurd hq (cutP_ne t)
  | cons a u =>
    refine ⟨a, u, rfl, ?_⟩
    rw [cutP, if_neg h, hq]
theorem cutP_dot (t : List UInt8) : cutP (46 :: t) = [] :: cutP t := by rw [cutP, if_pos rfl]
theorem join_cut : ∀ s : List UInt8, joinR 46 (cutP s) = s := by
  intro s
  induction s with
  | nil => rfl
  | cons c t ih =>
    by_cases h : c = 46
    · rw [h, cutP_dot]
      cases hq : cutP t with
      | nil => exact absurd hq (cutP_ne t)
      | cons a u => rw [joinR_cons, ← hq, ih]; rfl
    · obtain ⟨a, u, h1, h2⟩ := cutP_cons (t := t) h
      rw [h2]
      rw [h1] at ih
      cases u with
      | nil => show c :: a = c :: t; rw [show a = t from ih]
      | cons b v =>
        rw [joinR_cons] at ih ⊢
        rw [List.cons_append, ih]
theorem cut_nodot : ∀ (a : List UInt8), (∀ x ∈ a, x ≠ 46) → cutP a = [a] := by
  intro a
  induction a with
  | nil => intro _; rfl
  | cons c t ih =>
    intro h
    obtain ⟨b, u, h1, h2⟩ := cutP_cons (t := t) (h c (List.mem_cons_self ..))
    rw [ih (fun x hx => h x (List.mem_cons_of_mem _ hx))] at h1
    injection h1 with h3 h4
    rw [h2, ← h3, ← h4]
theorem cut_app : ∀ (a : List UInt8) (s : List UInt8), (∀ x ∈ a, x ≠ 46) → cutP (a ++ 46 :: s) = a :: cutP s := by
  intro a
  induction a with
  | nil => intro s _; exact cutP_dot s
  | cons c t ih =>
    intro s h
    obtain ⟨b, u, h1, h2⟩ := cutP_cons (t := t ++ 46 :: s) (h c (List.mem_cons_self ..))
    rw [ih s (fun x hx => h x (List.mem_cons_of_mem _ hx))] at h1
    injection h1 with h3 h4
    rw [List.cons_append, h2, ← h3, ← h4]
theorem cut_join : ∀ (l : List (List UInt8)), l ≠ [] → (∀ a ∈ l, ∀ x ∈ a, x ≠ 46) → cutP (joinR 46 l) = l := by
  intro l
  induction l with
  | nil => intro h; exact absurd rfl h
  | cons a t ih =>
    intro _ h
    have ha := h a (List.mem_cons_self ..)
    cases t with
    | nil => exact cut_nodot a ha
    | cons b v => rw [joinR_cons, cut_app a _ ha, ih (by simp) (fun c hc => h c (List.mem_cons_of_mem _ hc))]
theorem cut_no46 : ∀ (s : List UInt8), ∀ a ∈ cutP s, ∀ x ∈ a, x ≠ 46 := by
  intro s
  induction s with
  | nil => intro a ha x hx; simp [cutP] at ha; rw [ha] at hx; cases hx
  | cons c t ih =>
    intro a ha x hx
    by_cases h : c = 46
    · rw [h, cutP_dot] at ha
      rcases List.mem_cons.1 ha with rfl | ha
      · cases hx
      · exact ih a ha x hx
    · obtain ⟨b, u, h1, h2⟩ := cutP_cons (t := t) h
      rw [h2] at ha
      rcases List.mem_cons.1 ha with rfl | ha
      · rcases List.mem_cons.1 hx with rfl | hx
        · exact h
        · exact ih b (by rw [h1]; exact List.mem_cons_self ..) x hx
      · exact ih a (by rw [h1]; exact List.mem_cons_of_mem _ ha) x hx
def bytesP (a : List UInt8) : Bool := a.all nb
def nodeP (a : List UInt8) : Bool := !a.isEmpty && bytesP a
/-- What is a name. -/
def validP (s : List UInt8) : Bool := decide (s.length ≤ 200) && (decide ((cutP s).length ≤ 16) && (cutP s).all nodeP)
def nodesP (s : List UInt8) : List (List UInt8) := if validP s then cutP s else []
theorem validP_iff {s : List UInt8} : validP s = true ↔ s.length ≤ 200 ∧ (cutP s).length ≤ 16 ∧ ∀ a ∈ cutP s, a ≠ [] ∧ ∀ x ∈ a, nb x = true := by
  unfold validP nodeP bytesP
  simp only [Bool.and_eq_true, decide_eq_true_eq, List.all_eq_true, Bool.not_eq_true', List.isEmpty_eq_false_iff]
/-- A name as a pattern. -/
def plainP (s : List UInt8) : List (List Gl) := (cutP s).map (fun n => [⟨1, n, []⟩])
theorem plain_may {s : List UInt8} (h : validP s = true) : PatMay (plainP s) := by
  obtain ⟨h1, h2, h3⟩ := validP_iff.1 h
  refine ⟨by simp [plainP, cutP_ne], by simpa [plainP] using h2, fun n hn => ?_⟩
  obtain ⟨a, ha, rfl⟩ := List.mem_map.1 hn
  refine ⟨by simp, fun g hg => ?_, trivial⟩
  rw [List.mem_singleton.1 hg]
  exact .inl ⟨rfl, (h3 a ha).1, (h3 a ha).2, rfl⟩
theorem plain_whole (s : List UInt8) : wholeR (plainP s) = s := by
  unfold wholeR plainP
  rw [List.map_map]
  have : (nodeW ∘ fun n => [(⟨1, n, []⟩ : Gl)]) = id := by
    funext n
    show nodeW [(⟨1, n, []⟩ : Gl)] = n
    unfold nodeW
    simp [writtenR]
  rw [this, List.map_id, join_cut]
theorem compile_plain {s : List UInt8} (h : validP s = true) : compileP s = (plainP s, 0, 0) := by
  have := compile_whole (plain_may h)
  rwa [plain_whole] at this
/-- As many stars, with points between them. -/
def starsP (n : Nat) : List (List Gl) := List.replicate n [⟨2, [], []⟩]
theorem stars_may {n : Nat} (h1 : 1 ≤ n) (h2 : n ≤ 16) : PatMay (starsP n) := by
  refine ⟨by unfold starsP; simp; omega, by simpa [starsP] using h2, fun m hm => ?_⟩
  rw [List.eq_of_mem_replicate hm]
  refine ⟨by simp, fun g hg => ?_, trivial⟩
  rw [List.mem_singleton.1 hg]
  exact .inr (.inl ⟨.inl rfl, rfl, rfl⟩)

/- ## What a pattern matches. -/
def fits (t s : List UInt8) (i j : Nat) : Bool := j == i + t.length && t.isPrefixOf (s.drop i)
/-- Where a piece that begins at i can end. -/
def goes (g : Gl) (s : List UInt8) (i j : Nat) : Bool :=
  if g.kind = 1 then fits g.text s i j
  else if g.kind = 2 then decide (i ≤ j ∧ j ≤ s.length)
  else if g.kind = 3 then decide (i < s.length ∧ j = i + 1)
  else if g.kind = 4 then decide (i < s.length ∧ j = i + 1) && (match s[i]? with | some c => g.text.contains c | none => false)
  else if g.kind = 5 then g.alts.any (fun t => fits t s i j)
  else false
def nextP (g : Gl) (s : List UInt8) (l : List Bool) : List Bool := (List.range (s.length + 1)).map (fun j => (List.range (s.length + 1)).any (fun i => l.getD i false && goes g s i j))
def at0 (s : List UInt8) : List Bool := (List.range (s.length + 1)).map (fun i => i == 0)
def placesP (n : List Gl) (s : List UInt8) : List Bool := n.foldl (fun l g => nextP g s l) (at0 s)
def matchN (n : List Gl) (s : List UInt8) : Bool := (placesP n s).getD s.length false
/-- From i to j by a node's pieces. -/
def reachP (s : List UInt8) : List Gl → Nat → Nat → Prop
  | [], i, j => i = j
  | g :: t, i, j => ∃ k, k ≤ s.length ∧ goes g s i k = true ∧ reachP s t k j
theorem nextP_length (g : Gl) (s : List UInt8) (l : List Bool) : (nextP g s l).length = s.length + 1 := by simp [nextP]
theorem nextP_get {g : Gl} {s : List UInt8} {l : List Bool} {j : Nat} : (nextP g s l).getD j false = true ↔ j ≤ s.length ∧ ∃ i, i ≤ s.length ∧ l.getD i false = true ∧ goes g s i j = true := by
  unfold nextP
  rw [List.getD_eq_getElem?_getD, List.getElem?_map]
  by_cases hj : j < s.length + 1
  · rw [List.getElem?_range hj]
    simp only [Option.map_some, Option.getD_some, List.any_eq_true, List.mem_range, Bool.and_eq_true]
    constructor
    · rintro ⟨i, hi, h1, h2⟩
      exact ⟨by omega, i, by omega, h1, h2⟩
    · rintro ⟨_, i, hi, h1, h2⟩
      exact ⟨i, by omega, h1, h2⟩
  · rw [List.getElem?_eq_none (by simpa using hj)]
    simp only [Option.map_none, Option.getD_none]
    constructor
    · intro h; cases h
    · rintro ⟨h, _⟩; omega
theorem places_get (s : List UInt8) : ∀ (n : List Gl) (l : List Bool) (j : Nat), l.length = s.length + 1 → ((n.foldl (fun l g => nextP g s l) l).getD j false = true ↔ ∃ i, i ≤ s.length ∧ l.getD i false = true ∧ reachP s n i j) := by
  intro n
  induction n with
  | nil =>
    intro l j hl
    show l.getD j false = true ↔ _
    constructor
    · intro h
      refine ⟨j, ?_, h, rfl⟩
      apply Nat.le_of_not_lt
      intro hlt
      rw [List.getD_eq_getElem?_getD, List.getElem?_eq_none (by omega)] at h
      cases h
    · rintro ⟨i, _, h, rfl⟩
      exact h
  | cons g t ih =>
    intro l j hl
    rw [List.foldl_cons, ih _ _ (nextP_length g s l)]
    constructor
    · rintro ⟨k, hk, h1, h2⟩
      obtain ⟨_, i, hi, h3, h4⟩ := nextP_get.1 h1
      exact ⟨i, hi, h3, k, hk, h4, h2⟩
    · rintro ⟨i, hi, h3, k, hk, h4, h2⟩
      exact ⟨k, hk, nextP_get.2 ⟨hk, i, hi, h3, h4⟩, h2⟩
theorem at0_get (s : List UInt8) (i : Nat) : (at0 s).getD i false = true ↔ i = 0 := by
  unfold at0
  rw [List.getD_eq_getElem?_getD, List.getElem?_map]
  by_cases hj : i < s.length + 1
  · rw [List.getElem?_range hj]
    simp
  · rw [List.getElem?_eq_none (by simpa using hj)]
    simp
    omega
theorem matchN_iff {n : List Gl} {s : List UInt8} : matchN n s = true ↔ reachP s n 0 s.length := by
  unfold matchN placesP
  rw [places_get s n _ _ (by simp [at0])]
  constructor
  · rintro ⟨i, _, h, hr⟩
    rw [(at0_get s i).1 h] at hr
    exact hr
  · intro h
    exact ⟨0, Nat.zero_le _, (at0_get s 0).2 rfl, h⟩
/-- A pattern matches a name. -/
def matchP (p : List (List Gl)) (s : List UInt8) : Prop := validP s = true ∧ PatMay p ∧ (cutP s).length = p.length ∧ ∀ x ∈ p.zip (cutP s), matchN x.1 x.2 = true
theorem fits_iff {t s : List UInt8} {i j : Nat} : fits t s i j = true ↔ j = i + t.length ∧ t <+: s.drop i := by
  unfold fits
  rw [Bool.and_eq_true, beq_iff_eq, List.isPrefixOf_iff_prefix]
theorem match_text {t s : List UInt8} : matchN [⟨1, t, []⟩] s = true ↔ s = t := by
  rw [matchN_iff]
  constructor
  · rintro ⟨k, hk, h1, h2⟩
    have h2 : k = s.length := h2
    have h1 : fits t s 0 k = true := h1
    obtain ⟨h3, h4⟩ := fits_iff.1 h1
    rw [List.drop_zero] at h4
    exact (List.IsPrefix.eq_of_length h4 (by omega)).symm
  · rintro rfl
    refine ⟨s.length, Nat.le_refl _, ?_, rfl⟩
    show fits s s 0 s.length = true
    exact fits_iff.2 ⟨by omega, by rw [List.drop_zero]; exact List.prefix_rfl⟩
theorem match_star (s : List UInt8) : matchN [⟨2, [], []⟩] s = true := by
  rw [matchN_iff]
  refine ⟨s.length, Nat.le_refl _, ?_, rfl⟩
  show decide (0 ≤ s.length ∧ s.length ≤ s.length) = true
  exact decide_eq_true ⟨Nat.zero_le _, Nat.le_refl _⟩
/-- A name as a pattern matches itself and no other. -/
theorem match_plain {s o : List UInt8} (h : validP s = true) : matchP (plainP s) o ↔ s = o := by
  constructor
  · rintro ⟨h1, _, h2, h3⟩
    have : cutP o = cutP s := by
      unfold plainP at h2 h3
      rw [List.length_map] at h2
      refine List.ext_getElem h2 (fun i hi hj => ?_)
      have := h3 (((cutP s).map (fun n => [(⟨1, n, []⟩ : Gl)]))[i]'(by simpa using hj), (cutP o)[i]) (by
        refine List.mem_iff_getElem.2 ⟨i, by simp; omega, ?_⟩
        rw [List.getElem_zip])
      rw [List.getElem_map] at this
      exact match_text.1 this
    rw [← join_cut s, ← join_cut o, this]
  · rintro rfl
    refine ⟨h, plain_may h, by simp [plainP], fun x hx => ?_⟩
    obtain ⟨i, hi, rfl⟩ := List.mem_iff_getElem.1 hx
    have h1 : i < (cutP s).length := by rw [List.length_zip] at hi; omega
    have h0 : i < (plainP s).length := by rw [List.length_zip] at hi; omega
    have e : (plainP s)[i]'h0 = [⟨1, (cutP s)[i], []⟩] := by simp [plainP]
    rw [List.getElem_zip]
    show matchN ((plainP s)[i]'h0) _ = true
    rw [e]
    exact match_text.2 rfl
theorem match_stars {n : Nat} {o : List UInt8} (h1 : 1 ≤ n) (h2 : n ≤ 16) : matchP (starsP n) o ↔ (nodesP o).length = n := by
  unfold matchP nodesP
  constructor
  · rintro ⟨g1, g2, g3, _⟩
    rw [if_pos g1, g3]
    simp [starsP]
  · intro h
    by_cases hv : validP o = true
    · rw [if_pos hv] at h
      refine ⟨hv, stars_may h1 h2, by rw [h]; simp [starsP], fun x hx => ?_⟩
      have := List.of_mem_zip (show (x.1, x.2) ∈ _ from hx)
      rw [List.eq_of_mem_replicate this.1]
      exact match_star _
    · rw [if_neg hv] at h
      simp at h
      omega
end Go.Proofs.YtecfmmalbehcnaaDoor.Q

/- The law's own example: a pattern, a name that it has and one that it has not. -/
namespace Go.Proofs.YtecfmmalbehcnaaDoor.Q
set_option linter.unusedVariables false

/-- w*.[h-j]its -/
def al0 : List (List Gl) := [[⟨1, [119], []⟩, ⟨2, [], []⟩], [⟨4, [104, 105, 106], []⟩, ⟨1, [105, 116, 115], []⟩]]
def alS : List UInt8 := [119, 42, 46, 91, 104, 45, 106, 93, 105, 116, 115]
theorem al0_may : PatMay al0 := by
  refine ⟨by decide, by decide, ?_⟩
  intro n hn
  rcases List.mem_cons.1 hn with rfl | hn
  · refine ⟨by decide, ?_, ?_⟩
    · intro g hg
      rcases List.mem_cons.1 hg with rfl | hg
      · exact .inl ⟨rfl, by decide, by decide, rfl⟩
      · rw [List.mem_singleton.1 hg]
        exact .inr (.inl ⟨.inl rfl, rfl, rfl⟩)
    · exact ⟨fun q => by revert q; decide, trivial⟩
  · rw [List.mem_singleton.1 hn]
    refine ⟨by decide, ?_, ?_⟩
    · intro g hg
      rcases List.mem_cons.1 hg with rfl | hg
      · refine .inr (.inr (.inl ⟨rfl, by decide, by decide, ?_, rfl⟩))
        unfold RiseB
        decide
      · rw [List.mem_singleton.1 hg]
        exact .inl ⟨rfl, by decide, by decide, rfl⟩
    · exact ⟨fun q => by revert q; decide, trivial⟩
theorem al0_whole : wholeR al0 = alS := by
  have h : rangedR [104, 105, 106] = [104, 45, 106] := by
    rw [rangedR, show runR 104 104 [105, 106] = 2 by decide, if_pos (by decide)]
    show [104, 45, 106] ++ rangedR [] = _
    rw [rangedR]
    rfl
  unfold wholeR al0 nodeW writtenR
  simp [h, joinR, alS]
theorem al0_compile : compileP alS = (al0, 0, 0) := by rw [← al0_whole]; exact compile_whole al0_may
/-- web.hits, web.bits -/
def alA : List UInt8 := [119, 101, 98, 46, 104, 105, 116, 115]
def alB : List UInt8 := [119, 101, 98, 46, 98, 105, 116, 115]
theorem alA_valid : validP alA = true := by decide
theorem alA_match : ((al0.zip (cutP alA)).all fun x => matchN x.1 x.2) = true := by decide +kernel
theorem alB_match : ((al0.zip (cutP alB)).all fun x => matchN x.1 x.2) = false := by decide +kernel
end Go.Proofs.YtecfmmalbehcnaaDoor.Q
