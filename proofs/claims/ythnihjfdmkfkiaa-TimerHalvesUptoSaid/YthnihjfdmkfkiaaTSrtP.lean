import Derived.WalkKit
namespace Go.Proofs.Ythnihjfdmkfkiaa.Q
set_option linter.unusedVariables false
set_option linter.unusedSimpArgs false

def leB (a b : Int) : Bool := decide (a ≤ b)
/-- Two lists put together. -/
def mergeP (a b : List Int) : List Int := List.merge a b leB
/-- By rising numbers. -/
def sortP (l : List Int) : List Int := l.mergeSort leB
theorem leB_trans (a b c : Int) (h : leB a b = true) (k : leB b c = true) : leB a c = true := by simp [leB] at *; omega
theorem leB_total (a b : Int) : (leB a b || leB b a) = true := by simp [leB]; omega
def Rise (l : List Int) : Prop := l.Pairwise (fun a b => leB a b = true)
theorem mergeP_rise {a b : List Int} (ha : Rise a) (hb : Rise b) : Rise (mergeP a b) := List.pairwise_merge leB_trans leB_total a b ha hb
theorem mergeP_perm (a b : List Int) : (mergeP a b).Perm (a ++ b) := List.merge_perm_append leB
theorem sortP_rise (l : List Int) : Rise (sortP l) := List.pairwise_mergeSort leB_trans leB_total l
theorem sortP_perm (l : List Int) : (sortP l).Perm l := List.mergeSort_perm l leB
theorem rise_eq {a b : List Int} (ha : Rise a) (hb : Rise b) (h : a.Perm b) : a = b :=
  List.Perm.eq_of_pairwise (fun x y _ _ h1 h2 => by simp [leB] at h1 h2; omega) ha hb h
theorem sortP_of {a l : List Int} (ha : Rise a) (h : a.Perm l) : a = sortP l := rise_eq ha (sortP_rise l) (h.trans (sortP_perm l).symm)
/-- Neighbours put together. -/
def pairUp : List (List Int) → List (List Int)
  | [] => []
  | [x] => [x]
  | x :: y :: t => mergeP x y :: pairUp t
theorem pairUp_len : ∀ l : List (List Int), (pairUp l).length = (l.length + 1) / 2
  | [] => rfl
  | [x] => by simp [pairUp]
  | x :: y :: t => by simp only [pairUp, List.length_cons, pairUp_len t]; omega
theorem pairUp_rise : ∀ l : List (List Int), (∀ x ∈ l, Rise x) → ∀ x ∈ pairUp l, Rise x
  | [], _ => fun x hx => by simp [pairUp] at hx
  | [x], h => h
  | x :: y :: t, h => fun z hz => by
    simp only [pairUp, List.mem_cons] at hz
    rcases hz with rfl | hz
    · exact mergeP_rise (h x (by simp)) (h y (by simp))
    · exact pairUp_rise t (fun u hu => h u (by simp [hu])) z hz
theorem pairUp_perm : ∀ l : List (List Int), (pairUp l).flatten.Perm l.flatten
  | [] => List.Perm.refl _
  | [x] => List.Perm.refl _
  | x :: y :: t => by
    simp only [pairUp, List.flatten_cons]
    refine ((mergeP_perm x y).append (pairUp_perm t)).trans ?_
    rw [List.append_assoc]
theorem pairUp_two : ∀ (l : List (List Int)) (x y : List Int), l.length % 2 = 0 → pairUp (l ++ [x, y]) = pairUp l ++ [mergeP x y]
  | [], x, y, _ => rfl
  | [a], x, y, h => by simp at h
  | a :: b :: t, x, y, h => by
    simp only [List.cons_append, pairUp]
    rw [pairUp_two t x y (by simp only [List.length_cons] at h; omega)]
theorem pairUp_one : ∀ (l : List (List Int)) (x : List Int), l.length % 2 = 0 → pairUp (l ++ [x]) = pairUp l ++ [x]
  | [], x, _ => rfl
  | [a], x, h => by simp at h
  | a :: b :: t, x, h => by
    simp only [List.cons_append, pairUp]
    rw [pairUp_one t x (by simp only [List.length_cons] at h; omega)]
/-- What holds of the parts, pass by pass. -/
structure Parts (l : List Int) (ps : List (List Int)) : Prop where
  rise : ∀ x ∈ ps, Rise x
  perm : ps.flatten.Perm l
theorem Parts.up {l : List Int} {ps : List (List Int)} (h : Parts l ps) : Parts l (pairUp ps) := ⟨pairUp_rise ps h.rise, (pairUp_perm ps).trans h.perm⟩
theorem Parts.ones (l : List Int) : Parts l (l.map (fun x => [x])) := by
  refine ⟨fun x hx => ?_, ?_⟩
  · obtain ⟨a, -, rfl⟩ := List.mem_map.1 hx
    exact List.pairwise_singleton _ _
  · have : (l.map (fun x => [x])).flatten = l := by induction l with
      | nil => rfl
      | cons a t ih => simp [ih]
    rw [this]
theorem Parts.one {l x : List Int} (h : Parts l [x]) : x = sortP l := by
  refine sortP_of (h.rise x (by simp)) ?_
  have := h.perm
  simpa using this
theorem Parts.none {l : List Int} (h : Parts l []) : l = [] := by
  have := h.perm
  simpa using this
theorem Parts.none' {l : List Int} {ps : List (List Int)} (h : Parts l ps) (e : ps = []) : l = [] := by
  subst e
  exact h.none
theorem Parts.one' {l : List Int} {ps : List (List Int)} (h : Parts l ps) (e : ps.length = 1) (h0 : 0 < ps.length) : ps[0] = sortP l := by
  match ps, e with
  | [x], _ => exact h.one
theorem Parts.mem_len {l x : List Int} {ps : List (List Int)} (h : Parts l ps) (hx : x ∈ ps) : x.length ≤ l.length := by
  rw [← h.perm.length_eq]
  exact (List.sublist_flatten_of_mem hx).length_le
theorem Parts.two_len {l : List Int} {ps : List (List Int)} (h : Parts l ps) {i : Nat} (hi : i + 1 < ps.length) : (ps[i]'(by omega)).length + ps[i + 1].length ≤ l.length := by
  rw [← h.perm.length_eq]
  have e : ps = ps.take i ++ (ps[i]'(by omega) :: ps[i + 1] :: ps.drop (i + 2)) := by
    conv => lhs; rw [← List.take_append_drop i ps]
    rw [List.drop_eq_getElem_cons (by omega), List.drop_eq_getElem_cons (i := i + 1) hi]
  have e2 := congrArg (fun q => q.flatten.length) e
  simp only [List.flatten_append, List.flatten_cons, List.length_append] at e2
  omega
theorem take_two {ps : List (List Int)} {i : Nat} (hi : i + 1 < ps.length) : ps.take (i + 2) = ps.take i ++ [ps[i]'(by omega), ps[i + 1]] := by
  rw [show i + 2 = i + 1 + 1 from rfl, List.take_succ_eq_append_getElem hi, List.take_succ_eq_append_getElem (i := i) (by omega), List.append_assoc]
  rfl
theorem mergeP_len (a b : List Int) : (mergeP a b).length = a.length + b.length := by rw [(mergeP_perm a b).length_eq, List.length_append]
end Go.Proofs.Ythnihjfdmkfkiaa.Q
