/- Contracts and plain laws that this claim wants, laid in one text; under no condition beyond those that each theorem states. -/
import Derived.Test.YtecfmmalbehcnaaDoorMB
import Derived.Defers
import Derived.Recover
import Derived.Laws.Pointers
import Derived.RegionTactic
import Derived.Outline
/- The reader of patterns: a class. -/
namespace Go.Proofs.YtecfmmalbehcnaaDoor.Q
open Go.Shelf Go.RowKit Go.Proofs Go.Proofs.YtecfmmalbehcnaaDoorW.PrintWords Go.Proofs.YtecfmmalbehcnaaDoorW.PrintLast Go.Proofs.YtecfmmalbehcnaaDoorW.PrintMore Go.Proofs.YtecfmmalbehcnaaDoorV
set_option linter.unusedVariables false
set_option linter.unusedSimpArgs false

/-- How a method of the reader ends that goes from a place: with what it read, or thrown. -/
def RdPost {α : Type} (w : World) (g : Nat) (s : ByteArray) (R : Res α) (Val : α → Value → World → Prop) (e : Ending) (w' : World) : Prop :=
  (∃ a j v, R = .ok a (s.data.toList.drop j) ∧ j ≤ s.size ∧ e = .returned v ∧ Val a v w' ∧ RdAt w' g s j ∧ Keep w w' (fun k => k = g)) ∨
  (∃ j er, R = .err (s.data.toList.drop j) er ∧ j ≤ s.size ∧ e = thrown j er ∧ Keep w w' (fun k => k = g))
theorem thrownPost {α : Type} {w w' : World} {g : Nat} {s : ByteArray} {R : Res α} (Val : α → Value → World → Prop) (j : Nat) {er : Int} (hj : j ≤ s.size) (hk : Keep w w' (fun k => k = g)) (h : R = .err (s.data.toList.drop j) er) :
    RdPost w g s R Val (.panicked [{ v := .iface 79 (faultV j er), recovered := false }]) w' := .inr ⟨j, er, h, hj, rfl, hk⟩
theorem okPost {α : Type} {w w' : World} {g : Nat} {s : ByteArray} {R : Res α} (Val : α → Value → World → Prop) (j : Nat) {v : Value} {a : α} (hj : j ≤ s.size) (h : R = .ok a (s.data.toList.drop j)) (hv : Val a v w') (hr : RdAt w' g s j) (hk : Keep w w' (fun k => k = g)) :
    RdPost w g s R Val (.returned v) w' := .inl ⟨a, j, v, h, hj, rfl, hv, hr, hk⟩
theorem drop_end {s : ByteArray} {j : Nat} (h : j = s.size) : s.data.toList.drop j = [] := List.drop_eq_nil_of_le (by rw [size_data]; omega)
theorem drop_at {s : ByteArray} {j : Nat} {c : UInt8} (h : s.data.toList[j]? = some c) : s.data.toList.drop j = c :: s.data.toList.drop (j + 1) := by
  obtain ⟨h1, h2⟩ := List.getElem?_eq_some_iff.1 h
  rw [List.drop_eq_getElem_cons h1, h2]
theorem sort_is (c : UInt8) {n : Nat} (h : sortB c = n) (w : World) : Calls Tryd.prog 83 #[.int .u8 (c.toNat : Int)] w fun e w' => e = .returned (.int .i64 (n : Int)) ∧ Drawn0 w w' := by
  subst h
  exact sort_calls c w
theorem cb_not {c : UInt8} (h : cb c = false) : sortB c = 0 ∧ c ≠ 95 := by
  unfold cb at h
  rw [Bool.or_eq_false_iff, decide_eq_false_iff_not, beq_eq_false_iff_ne] at h
  exact ⟨by omega, h.2⟩
theorem cb_le {c : UInt8} (h : cb c = true) : c.toNat ≤ 122 := by
  unfold cb at h
  rw [Bool.or_eq_true, decide_eq_true_eq, beq_iff_eq] at h
  rcases h with h | rfl
  · unfold sortB at h
    (repeat' split at h) <;> omega
  · decide
theorem cb_zero {c : UInt8} (h : cb c = true) (h0 : sortB c = 0) : c = 95 := by
  unfold cb at h
  rw [Bool.or_eq_true, decide_eq_true_eq, beq_iff_eq] at h
  exact h.resolve_left (by omega)
theorem wrap_u8 {x : Nat} (h : x + 1 < 256) : IntKind.u8.wrap ((x : Int) + 1) = (x : Int) + 1 := by
  simp [IntKind.wrap_u8]
  omega
theorem class_bad {f : Bool} {acc : List (UInt8 × UInt8)} {c : UInt8} {t : List UInt8} (hc : cb c = false) (h : f = true ∨ c ≠ 93) : classR f acc (c :: t) = .err (c :: t) 31 := by
  unfold classR
  rw [if_neg (fun q => by rcases h with h | h; rw [h] at q; exact absurd q.1 (by decide); exact h q.2), if_pos hc]
/-- Is a byte in one of the pairs? -/
def inAny (acc : List (UInt8 × UInt8)) (k : Nat) : Bool := acc.any (fun p => decide (p.1.toNat ≤ k ∧ k ≤ p.2.toNat))
def hasA (f : Nat → Bool) : Array Value := ((List.range 256).map (fun k => Value.bool (f k))).toArray
theorem zero117 : Tryd.zeroCells117 = hasA (fun _ => false) := by kernel_rfl
theorem hasA_size (f : Nat → Bool) : (hasA f).size = 256 := by simp [hasA]
theorem hasA_set (f : Nat → Bool) (k : Nat) (hk : k < 256) : (hasA f).setIfInBounds k (.bool true) = hasA (fun x => f x || x == k) := by
  apply Array.ext'
  rw [Array.toList_setIfInBounds]
  unfold hasA
  apply List.ext_getElem?
  intro i
  simp only [List.getElem?_set, List.getElem?_map]
  by_cases h : k = i
  · subst h
    simp [hk]
  · rw [if_neg h]
    by_cases hi : i < 256
    · simp [hi, show ¬ i = k from fun e => h e.symm]
    · simp [hi]
theorem hasA_get (f : Nat → Bool) (k : Nat) (hk : k < 256) : (hasA f)[k]? = some (.bool (f k)) := by
  simp [hasA, hk]
/-- The state of the reader of a class. -/
structure ClAt (w0 w : World) (g ga : Nat) (s : ByteArray) (j : Nat) (f : Nat → Bool) : Prop where
  rd : RdAt w g s j
  has : w.heap[ga]? = some (.cells (hasA f) 117 (0, 0))
  keep : Keep w0 w (fun k => k = g)
  new : w0.heap.size ≤ ga
  old : g < w0.heap.size
theorem ClAt.drewN {w0 w : World} {g ga : Nat} {s : ByteArray} {j : Nat} {f : Nat → Bool} (h : ClAt w0 w g ga s j f) (n : Nat) : ClAt w0 (w.drewN n) g ga s j f := ⟨h.rd, h.has, h.keep.drewN n, h.new, h.old⟩
theorem ClAt.set {w0 w : World} {g ga : Nat} {s : ByteArray} {j : Nat} {f : Nat → Bool} (h : ClAt w0 w g ga s j f) (j' : Nat) : ClAt w0 (w.setCell ⟨g, 1, none⟩ (.int .i64 (j' : Int))) g ga s j' f := by
  have hne : ga ≠ g := by have := h.new; have := h.old; omega
  refine ⟨h.rd.set j', ?_, h.keep.set _ _ (.inl rfl), h.new, h.old⟩
  exact (Below.heap_setCell _ _ _ _ (fun e => hne e)).trans h.has
theorem ClAt.put {w0 w : World} {g ga : Nat} {s : ByteArray} {j : Nat} {f : Nat → Bool} (h : ClAt w0 w g ga s j f) (k : Nat) (hk : k < 256) : ClAt w0 (w.setCell ⟨ga, k, none⟩ (.bool true)) g ga s j (fun x => f x || x == k) := by
  have hne : g ≠ ga := by have := h.new; have := h.old; omega
  refine ⟨?_, ?_, h.keep.set _ _ (.inr h.new), h.new, h.old⟩
  · exact (Below.heap_setCell _ _ _ _ (fun e => hne e)).trans h.rd
  · rw [blk_put h.has k (.bool true) rfl, hasA_set f k hk]
theorem ClAt.start {w : World} {g : Nat} {s : ByteArray} {i : Nat} (h : RdAt w g s i) : ClAt w (w.alloc (.cells Tryd.zeroCells117 117)) g w.heap.size s i (fun _ => false) :=
  ⟨h.below (below_alloc (Below.refl _ _) _), by rw [zero117]; exact heap_alloc_new _ _, (Keep.refl _ _).alloc _, Nat.le_refl _, (Array.getElem?_eq_some_iff.1 h).1⟩
/-- The bytes from a on, below b, besides. -/
def upf (f : Nat → Bool) (a b : Nat) : Nat → Bool := fun x => f x || (decide (a ≤ x) && decide (x < b))
theorem upf_start (f : Nat → Bool) (a : Nat) : upf f a a = f := by
  funext x
  unfold upf
  by_cases h : a ≤ x
  · rw [decide_eq_true h, decide_eq_false (by omega)]; simp
  · rw [decide_eq_false h]; simp
theorem upf_step (f : Nat → Bool) (a k : Nat) (h : a ≤ k) : (fun x => upf f a k x || x == k) = upf f a (k + 1) := by
  funext x
  unfold upf
  by_cases hx : x = k
  · subst hx
    simp [h]
  · rw [show (x == k) = false from beq_eq_false_iff_ne.2 hx, Bool.or_false, show decide (x < k + 1) = decide (x < k) by rw [decide_eq_decide]; omega]
theorem upf_end (acc : List (UInt8 × UInt8)) (c d : UInt8) : upf (inAny acc) c.toNat (d.toNat + 1) = inAny (acc ++ [(c, d)]) := by
  funext x
  unfold upf inAny
  rw [List.any_append]
  simp only [List.any_cons, List.any_nil, Bool.or_false]
  congr 1
  rw [Bool.eq_iff_iff]
  simp
  omega
theorem rd_moreB {w : World} {g : Nat} {s : ByteArray} {i : Nat} (h : RdAt w g s i) (c : UInt8) {b : Bool} (hb : decide (s.data.toList[i]? = some c) = b) :
    Calls Tryd.prog 105 #[.pointer (some ⟨g, 0, none⟩), .int .u8 (c.toNat : Int)] w fun e w' => e = .returned (.bool b) ∧ Drawn0 w w' := by
  subst hb
  exact rd_more h c
theorem class_single {f : Bool} {acc : List (UInt8 × UInt8)} {c : UInt8} {t : List UInt8} (hc : cb c = true) (hm : ∀ u, t ≠ 45 :: u) : classR f acc (c :: t) = classR false (acc ++ [(c, c)]) t := by
  have h93 : c ≠ 93 := (cb_ne hc).2
  cases t with
  | nil =>
    rw [classR.eq_def]
    dsimp only
    rw [if_neg (fun q => h93 q.2), if_neg (by rw [hc]; decide)]
  | cons m u => exact class_one hc (fun q => hm u (by rw [q]))
theorem class_dash0 {f : Bool} {acc : List (UInt8 × UInt8)} {c : UInt8} {u : List UInt8} (hc : cb c = true) (h0 : sortB c = 0) : classR f acc (c :: 45 :: u) = .err (45 :: u) 31 := by
  have h93 : c ≠ 93 := (cb_ne hc).2
  rw [classR.eq_def]
  dsimp only
  rw [if_neg (fun q => h93 q.2), if_neg (by rw [hc]; decide), if_pos rfl, if_pos h0]
theorem class_dashE {f : Bool} {acc : List (UInt8 × UInt8)} {c : UInt8} (hc : cb c = true) (h0 : sortB c ≠ 0) : classR f acc [c, 45] = .err [] 31 := by
  have h93 : c ≠ 93 := (cb_ne hc).2
  rw [classR.eq_def]
  dsimp only
  rw [if_neg (fun q => h93 q.2), if_neg (by rw [hc]; decide), if_pos rfl, if_neg h0]
theorem class_dashB {f : Bool} {acc : List (UInt8 × UInt8)} {c d : UInt8} {v : List UInt8} (hc : cb c = true) (h0 : sortB c ≠ 0) (hd : sortB d = 0 ∨ sortB d ≠ sortB c ∨ d.toNat < c.toNat) : classR f acc (c :: 45 :: d :: v) = .err (d :: v) 31 := by
  have h93 : c ≠ 93 := (cb_ne hc).2
  rw [classR.eq_def]
  dsimp only
  rw [if_neg (fun q => h93 q.2), if_neg (by rw [hc]; decide), if_pos rfl, if_neg h0, if_pos hd]
/-- The bytes of a class below a number. -/
def outs (F : Nat → Bool) (k : Nat) : List Int := ((List.range k).filter F).map (fun x : Nat => (x : Int))
theorem outs_succ (F : Nat → Bool) (k : Nat) : outs F (k + 1) = outs F k ++ (if F k = true then [(k : Int)] else []) := by
  unfold outs
  rw [List.range_succ, List.filter_append, List.map_append]
  congr 1
  cases h : F k <;> simp [h]
theorem outs_cover (acc : List (UInt8 × UInt8)) : strOfNums (outs (inAny acc) 256) = strB (coverB acc) := by
  unfold strOfNums strB outs coverB inAny
  rw [List.map_map]
  rfl
theorem run_has (F : Nat → Bool) (k : Nat) (hk : k < 256) (W : World) : (Instr.index 117 (.agg (hasA F)) (.int .i64 (k : Int))).run Tryd.prog W = .ok (.bool (F k)) W := by
  have hg := hasA_get F k hk
  have h1 : (0 : Int) ≤ (k : Int) ∧ (k : Int) < 256 := by omega
  simp [Instr.index, asIntOf, run_underlying Tryd.underlying117, Tryd.sizeOf4, Tryd.isAgg4, part, h1, hg, Result.andThen]
  intro h; omega
theorem wrap_u8' {x : Nat} (h : x < 256) : IntKind.u8.wrap (x : Int) = (x : Int) := by
  simp [IntKind.wrap_u8]
  omega
theorem info_u8 : (Tryd.prog.info? 5).map (fun i => (i.zero, i.size, i.bytes)) = some (some (.int .u8 0), 1, 1) := by kernel_rfl
set_option maxHeartbeats 4000000 in
set_option maxRecDepth 100000 in
theorem rd_class {w : World} {g : Nat} {s : ByteArray} {i : Nat} (h : RdAt w g s i) (hi : i ≤ s.size) (hs : s.size ≤ 140737488355328) :
    Calls Tryd.prog 87 #[.pointer (some ⟨g, 0, none⟩)] w (RdPost w g s (classR true [] (s.data.toList.drop i)) (fun a v _ => v = .string (strB (coverB a)))) := by
  have HS := Aside0.mk (ClAt.start h)
  clear h
  go_enter Tryd.func87, Tryd.ntmps87
  go_wp2
  go_loopg [4] (s.size + 1 - i) (fun kq v4 w' => ∃ (f : Bool) (j : Nat) (acc : List (UInt8 × UInt8)), v4 = .bool f ∧ j + kq = s.size + 1 ∧ j ≤ s.size ∧ Aside0 (classR f acc (s.data.toList.drop j) = classR true [] (s.data.toList.drop i)) ∧ Aside0 (ClAt w w' g w.heap.size s j (inAny acc)))
  case atStart => exact ⟨true, i, [], rfl, by omega, hi, ⟨rfl⟩, HS⟩
  case round =>
    obtain ⟨f, j, acc, rfl, hjq, hjs, HC, HR⟩ := hrel
    clear HS
    by_cases hj : j = s.size
    · have HE := Aside0.mk (show classR true [] (s.data.toList.drop i) = .err (s.data.toList.drop j) 31 by rw [← HC.out, drop_end hj]; rfl)
      have HJ := Aside0.mk hj
      clear HC hj
      cases f with
      | true =>
        go_wp2_with (first | (go_at_call 86; (with_reducible refine Calls.mono (rd_end (by first | exact HR.out.rd | exact (HR.out.drewN _).rd) HJ.out) ?_); rintro e w' ⟨rfl, ⟨nd, rfl⟩⟩; unfold thrown))
        exact ⟨rfl, thrownPost _ j (by omega) (by first | exact HR.out.keep | exact (HR.out.drewN _).keep) (by exact HE.out)⟩
      | false =>
        go_wp2_with (first | (go_at_call 86; (with_reducible refine Calls.mono (rd_end (by first | exact HR.out.rd | exact (HR.out.drewN _).rd) HJ.out) ?_); rintro e w' ⟨rfl, ⟨nd, rfl⟩⟩; unfold thrown))
        exact ⟨rfl, thrownPost _ j (by omega) (by first | exact HR.out.keep | exact (HR.out.drewN _).keep) (by exact HE.out)⟩
    · obtain ⟨c, hb⟩ := get_lt (s := s) (i := j) (by omega)
      have HD := Aside0.mk (drop_at hb)
      rw [HD.out] at HC
      have hj2 : j < s.size := by omega
      clear hj
      cases f with
      | true =>
        by_cases hcb : cb c = false
        · have HE := Aside0.mk (show classR true [] (s.data.toList.drop i) = .err (s.data.toList.drop j) 31 by rw [← HC.out, HD.out, class_bad hcb (.inl rfl)])
          obtain ⟨hs0, h95⟩ := cb_not hcb
          have d1 : ((0 : Int) == 0) = true := rfl
          have d2 : ((c.toNat : Int) != 95) = true := bne_iff_ne.2 (fun e => h95 ((eq_byte c 95).1 e))
          have HQ := Aside0.mk hs0
          clear hcb hs0 h95 HC
          go_wp2_with (first | (go_at_call 86; (with_reducible refine Calls.mono (rd_now (by first | exact HR.out.rd | exact (HR.out.drewN _).rd) hb) ?_); rintro e w' ⟨rfl, ⟨nd, rfl⟩⟩) | (go_at_call 83; (with_reducible refine Calls.mono (sort_is c HQ.out _) ?_); rintro e w' ⟨rfl, ⟨nd, rfl⟩⟩) | (go_at_call 62; (with_reducible refine Calls.mono (rd_stop (by first | exact HR.out.rd | exact (HR.out.drewN _).rd) 31) ?_); rintro e w' ⟨rfl, rfl⟩; unfold thrown))
          exact ⟨rfl, thrownPost _ j (by omega) (by first | exact HR.out.keep | exact (HR.out.drewN _).keep) (by exact HE.out)⟩
        · rw [Bool.not_eq_false] at hcb
          obtain ⟨n, hn⟩ : ∃ n, sortB c = n := ⟨_, rfl⟩
          have HQ := Aside0.mk hn
          have HCB := Aside0.mk hcb
          have hc122 := cb_le hcb
          have f1 : wr.frozen? ⟨g, 1, none⟩ = false := blk_frozen HR.out.rd 1
          have c1 : wr.cell? ⟨g, 1, none⟩ = some (.int .i64 (j : Int)) := blk_cell HR.out.rd 1
          cases gk with
          | zero => omega
          | succ k1 =>
          by_cases h0 : n = 0
          · have HN := Aside0.mk h0
            have d1 : ((n : Int) == 0) = true := by rw [h0]; rfl
            have d2 : ((c.toNat : Int) != 95) = false := by
              have := cb_zero hcb (hn.trans h0)
              rw [this]; rfl
            clear hcb hn h0
            go_upto_region 10 with (first | (go_at_call 86; (with_reducible refine Calls.mono (rd_now (by first | exact HR.out.rd | exact (HR.out.drewN _).rd) hb) ?_); rintro e w' ⟨rfl, ⟨nd, rfl⟩⟩) | (go_at_call 83; (with_reducible refine Calls.mono (sort_is c HQ.out _) ?_); rintro e w' ⟨rfl, ⟨nd2, rfl⟩⟩))
            generalize hW : World.drewN _ _ = wq2
            have HW2 := Aside0.mk (show ClAt w wq2 g w.heap.size s (j) (inAny acc) by rw [← hW]; exact HR.out.drewN _)
            clear hW
            generalize hV : World.setCell wq2 _ _ = w2
            have HR2 := Aside0.mk (show ClAt w w2 g w.heap.size s (j + 1) (inAny acc) by rw [← hV]; exact HW2.out.set (j + 1))
            clear hV HW2
            clear f1 c1 d1 d2
            by_cases hm : s.data.toList[j + 1]? = some 45
            · have HM := Aside0.mk hm
              have HD2 := Aside0.mk (drop_at hm)
              have hj3 := (List.getElem?_eq_some_iff.1 hm).1
              rw [size_data] at hj3
              have HX := Aside0.mk (decide_eq_true hm)
              clear hm
              have HE := Aside0.mk (show classR true [] (s.data.toList.drop i) = .err (s.data.toList.drop (j + 1)) 31 by rw [← HC.out, HD2.out, class_dash0 HCB.out (HQ.out.trans HN.out)])
              have d1 : ((n : Int) == 0) = true := by rw [HN.out]; rfl
              go_wp2_with (first | (go_at_call 105; (with_reducible refine Calls.mono (rd_moreB (by first | exact HR2.out.rd | exact (HR2.out.drewN _).rd) 45 HX.out) ?_); rintro e w' ⟨rfl, ⟨nd, rfl⟩⟩) | (go_at_call 83; (with_reducible refine Calls.mono (sort_is c HQ.out _) ?_); rintro e w' ⟨rfl, ⟨nd2, rfl⟩⟩) | (go_at_call 62; (with_reducible refine Calls.mono (rd_stop (by first | exact HR2.out.rd | exact (HR2.out.drewN _).rd) 31) ?_); rintro e w' ⟨rfl, rfl⟩; unfold thrown))
              exact ⟨rfl, thrownPost _ (j + 1) (by omega) (by first | exact HR2.out.keep | exact (HR2.out.drewN _).keep) (by exact HE.out)⟩
            · have HC2 := Aside0.mk (show classR false (acc ++ [(c, c)]) (s.data.toList.drop (j + 1)) = classR true [] (s.data.toList.drop i) by
                rw [← HC.out, class_single HCB.out (fun u e => hm (by
                  have := congrArg (fun l => l[0]?) e
                  simpa using this))])
              have HX := Aside0.mk (decide_eq_false hm)
              clear hm
              go_wp2_with (first | (go_at_call 105; (with_reducible refine Calls.mono (rd_moreB (by first | exact HR2.out.rd | exact (HR2.out.drewN _).rd) 45 HX.out) ?_); rintro e w' ⟨rfl, ⟨nd, rfl⟩⟩))
              go_loopg [7] (c.toNat + 1 - c.toNat) (fun kq v7 w' => ∃ k : Nat, v7 = .int .u8 (k : Int) ∧ k + kq = c.toNat + 1 ∧ c.toNat ≤ k ∧ Aside0 (ClAt w w' g w.heap.size s (j + 1) (upf (inAny acc) c.toNat k)))
              case atStart => exact ⟨c.toNat, rfl, by omega, Nat.le_refl _, ⟨by rw [upf_start]; first | exact HR2.out | exact HR2.out.drewN _⟩⟩
              case round =>
                obtain ⟨k, rfl, hkq, hck, HI⟩ := hrel
                by_cases hk : k ≤ c.toNat
                · cases gk with
                  | zero => omega
                  | succ k2 =>
                    have d8 : decide ((k : Int) ≤ (c.toNat : Int)) = true := decide_eq_true (by omega)
                    have ca : wr.cell? ⟨w.heap.size, k, none⟩ = some (.bool (upf (inAny acc) c.toNat k k)) := (blk_cell HI.out.has k).trans (hasA_get _ k (by omega))
                    have fa : wr.frozen? ⟨w.heap.size, k, none⟩ = false := blk_frozen HI.out.has k
                    have b1 : (k : Int) < 256 := by omega
                    have b2 : IntKind.u8.wrap ((k : Int) + 1) = (k : Int) + 1 := wrap_u8 (by omega)
                    go_wp2
                    go_roundg k2
                    case rel => exact ⟨k + 1, by go_num, by omega, by omega, ⟨by rw [← upf_step _ _ _ hck]; exact HI.out.put k (by omega)⟩⟩
                    case measure => omega
                · have hke : k = c.toNat + 1 := by omega
                  subst hke
                  have d8 : decide (((c.toNat + 1 : Nat) : Int) ≤ (c.toNat : Int)) = false := decide_eq_false (by omega)
                  go_wp2
                  go_roundg (k1)
                  case rel => exact ⟨false, j + 1, acc ++ [(c, c)], rfl, by omega, by omega, HC2, ⟨by rw [← upf_end]; exact HI.out⟩⟩
                  case measure => omega
          · have HN := Aside0.mk h0
            have d1 : ((n : Int) == 0) = false := beq_eq_false_iff_ne.2 (by omega)
            clear hcb hn h0
            go_upto_region 10 with (first | (go_at_call 86; (with_reducible refine Calls.mono (rd_now (by first | exact HR.out.rd | exact (HR.out.drewN _).rd) hb) ?_); rintro e w' ⟨rfl, ⟨nd, rfl⟩⟩) | (go_at_call 83; (with_reducible refine Calls.mono (sort_is c HQ.out _) ?_); rintro e w' ⟨rfl, ⟨nd2, rfl⟩⟩))
            generalize hW : World.drewN _ _ = wq2
            have HW2 := Aside0.mk (show ClAt w wq2 g w.heap.size s (j) (inAny acc) by rw [← hW]; exact HR.out.drewN _)
            clear hW
            generalize hV : World.setCell wq2 _ _ = w2
            have HR2 := Aside0.mk (show ClAt w w2 g w.heap.size s (j + 1) (inAny acc) by rw [← hV]; exact HW2.out.set (j + 1))
            clear hV HW2
            clear f1 c1 d1
            by_cases hm : s.data.toList[j + 1]? = some 45
            · have HM := Aside0.mk hm
              have HD2 := Aside0.mk (drop_at hm)
              have hj3 := (List.getElem?_eq_some_iff.1 hm).1
              rw [size_data] at hj3
              have HX := Aside0.mk (decide_eq_true hm)
              clear hm
              have d1 : ((n : Int) == 0) = false := beq_eq_false_iff_ne.2 (by have := HN.out; omega)
              have f1 : w2.frozen? ⟨g, 1, none⟩ = false := blk_frozen HR2.out.rd 1
              have c1 : w2.cell? ⟨g, 1, none⟩ = some (.int .i64 ((j + 1 : Nat) : Int)) := blk_cell HR2.out.rd 1
              go_upto_region 14 with (first | (go_at_call 105; (with_reducible refine Calls.mono (rd_moreB (by first | exact HR2.out.rd | exact (HR2.out.drewN _).rd) 45 HX.out) ?_); rintro e w' ⟨rfl, ⟨nd, rfl⟩⟩) | (go_at_call 83; (with_reducible refine Calls.mono (sort_is c HQ.out _) ?_); rintro e w' ⟨rfl, ⟨nd2, rfl⟩⟩))
              generalize hW : World.drewN _ _ = wq3
              have HW3 := Aside0.mk (show ClAt w wq3 g w.heap.size s (j + 1) (inAny acc) by rw [← hW]; exact HR2.out.drewN _)
              clear hW
              generalize hV : World.setCell wq3 _ _ = w3
              have HR3 := Aside0.mk (show ClAt w w3 g w.heap.size s (j + 1 + 1) (inAny acc) by rw [← hV]; exact HW3.out.set (j + 1 + 1))
              clear hV HW3
              clear f1 c1 d1
              by_cases hj : j + 1 + 1 = s.size
              · have HJ := Aside0.mk hj
                have HE := Aside0.mk (show classR true [] (s.data.toList.drop i) = .err (s.data.toList.drop (j + 1 + 1)) 31 by rw [← HC.out, HD2.out, drop_end hj, class_dashE HCB.out (by rw [HQ.out]; exact HN.out)])
                clear hj
                go_wp2_with (first | (go_at_call 86; (with_reducible refine Calls.mono (rd_end (by first | exact HR3.out.rd | exact (HR3.out.drewN _).rd) HJ.out) ?_); rintro e w' ⟨rfl, ⟨nd, rfl⟩⟩; unfold thrown))
                exact ⟨rfl, thrownPost _ (j + 1 + 1) (by omega) (by first | exact HR3.out.keep | exact (HR3.out.drewN _).keep) (by exact HE.out)⟩
              · obtain ⟨d, hbd⟩ := get_lt (s := s) (i := j + 1 + 1) (by omega)
                have HD3 := Aside0.mk (drop_at hbd)
                obtain ⟨n2, hn2⟩ : ∃ n2, sortB d = n2 := ⟨_, rfl⟩
                have HQ2 := Aside0.mk hn2
                have hj4 : j + 1 + 1 < s.size := by omega
                have f1 : w3.frozen? ⟨g, 1, none⟩ = false := blk_frozen HR3.out.rd 1
                have c1 : w3.cell? ⟨g, 1, none⟩ = some (.int .i64 ((j + 1 + 1 : Nat) : Int)) := blk_cell HR3.out.rd 1
                clear hj
                by_cases h2 : n2 = 0
                · have HE := Aside0.mk (show classR true [] (s.data.toList.drop i) = .err (s.data.toList.drop (j + 1 + 1)) 31 by rw [← HC.out, HD2.out, HD3.out, class_dashB HCB.out (by rw [HQ.out]; exact HN.out) (.inl (hn2.trans h2))])
                  have d1 : ((n2 : Int) == 0) = true := by rw [h2]; rfl
                  clear hn2 h2
                  go_wp2_with (first | (go_at_call 86; (with_reducible refine Calls.mono (rd_now (by first | exact HR3.out.rd | exact (HR3.out.drewN _).rd) hbd) ?_); rintro e w' ⟨rfl, ⟨nd, rfl⟩⟩) | (go_at_call 83; (with_reducible refine Calls.mono (sort_is d HQ2.out _) ?_); rintro e w' ⟨rfl, ⟨nd2, rfl⟩⟩) | (go_at_call 62; (with_reducible refine Calls.mono (rd_stop (by first | exact HR3.out.rd | exact (HR3.out.drewN _).rd) 31) ?_); rintro e w' ⟨rfl, rfl⟩; unfold thrown))
                  exact ⟨rfl, thrownPost _ (j + 1 + 1) (by omega) (by first | exact HR3.out.keep | exact (HR3.out.drewN _).keep) (by exact HE.out)⟩
                · by_cases h3 : n2 = n
                  · have d1 : ((n2 : Int) == 0) = false := beq_eq_false_iff_ne.2 (by omega)
                    subst h3
                    have d2 : ((n2 : Int) != (n2 : Int)) = false := by simp
                    by_cases h4 : d.toNat < c.toNat
                    · have HE := Aside0.mk (show classR true [] (s.data.toList.drop i) = .err (s.data.toList.drop (j + 1 + 1)) 31 by rw [← HC.out, HD2.out, HD3.out, class_dashB HCB.out (by rw [HQ.out]; exact HN.out) (.inr (.inr h4))])
                      have d3 : decide (d.toNat < c.toNat) = true := decide_eq_true h4
                      clear hn2 h2 h4
                      go_wp2_with (first | (go_at_call 86; (with_reducible refine Calls.mono (rd_now (by first | exact HR3.out.rd | exact (HR3.out.drewN _).rd) hbd) ?_); rintro e w' ⟨rfl, ⟨nd, rfl⟩⟩) | (go_at_call 83; (with_reducible refine Calls.mono (sort_is d HQ2.out _) ?_); rintro e w' ⟨rfl, ⟨nd2, rfl⟩⟩) | (go_at_call 83; (with_reducible refine Calls.mono (sort_is c HQ.out _) ?_); rintro e w' ⟨rfl, ⟨nd2, rfl⟩⟩) | (go_at_call 62; (with_reducible refine Calls.mono (rd_stop (by first | exact HR3.out.rd | exact (HR3.out.drewN _).rd) 31) ?_); rintro e w' ⟨rfl, rfl⟩; unfold thrown))
                      exact ⟨rfl, thrownPost _ (j + 1 + 1) (by omega) (by first | exact HR3.out.keep | exact (HR3.out.drewN _).keep) (by exact HE.out)⟩
                    · have HC2 := Aside0.mk (show classR false (acc ++ [(c, d)]) (s.data.toList.drop (j + 1 + 1 + 1)) = classR true [] (s.data.toList.drop i) by
                        rw [← HC.out, HD2.out, HD3.out, class_range (by rw [HQ.out]; have := HN.out; omega) (by rw [HQ2.out, HQ.out]) (by omega)])
                      have d3 : decide (d.toNat < c.toNat) = false := decide_eq_false h4
                      have hd122 : d.toNat ≤ 122 := cb_le (cb_of_sort (by omega))
                      have hcd : c.toNat ≤ d.toNat := by omega
                      clear hn2 h2 h4
                      go_upto_region 18 with (first | (go_at_call 86; (with_reducible refine Calls.mono (rd_now (by first | exact HR3.out.rd | exact (HR3.out.drewN _).rd) hbd) ?_); rintro e w' ⟨rfl, ⟨nd, rfl⟩⟩) | (go_at_call 83; (with_reducible refine Calls.mono (sort_is d HQ2.out _) ?_); rintro e w' ⟨rfl, ⟨nd2, rfl⟩⟩) | (go_at_call 83; (with_reducible refine Calls.mono (sort_is c HQ.out _) ?_); rintro e w' ⟨rfl, ⟨nd2, rfl⟩⟩))
                      generalize hW : World.drewN _ _ = wq4
                      have HW4 := Aside0.mk (show ClAt w wq4 g w.heap.size s (j + 1 + 1) (inAny acc) by rw [← hW]; exact HR3.out.drewN _)
                      clear hW
                      generalize hV : World.setCell wq4 _ _ = w4
                      have HR4 := Aside0.mk (show ClAt w w4 g w.heap.size s (j + 1 + 1 + 1) (inAny acc) by rw [← hV]; exact HW4.out.set (j + 1 + 1 + 1))
                      clear hV HW4
                      clear f1 c1 d1 d2 d3
                      go_wp2
                      go_loopg [7] (d.toNat + 1 - c.toNat) (fun kq v7 w' => ∃ k : Nat, v7 = .int .u8 (k : Int) ∧ k + kq = d.toNat + 1 ∧ c.toNat ≤ k ∧ Aside0 (ClAt w w' g w.heap.size s (j + 1 + 1 + 1) (upf (inAny acc) c.toNat k)))
                      case atStart => exact ⟨c.toNat, rfl, by omega, Nat.le_refl _, ⟨by rw [upf_start]; first | exact HR4.out | exact HR4.out.drewN _⟩⟩
                      case round =>
                        obtain ⟨k, rfl, hkq, hck, HI⟩ := hrel
                        by_cases hk : k ≤ d.toNat
                        · cases gk with
                          | zero => omega
                          | succ k2 =>
                            have d8 : decide ((k : Int) ≤ (d.toNat : Int)) = true := decide_eq_true (by omega)
                            have ca : wr.cell? ⟨w.heap.size, k, none⟩ = some (.bool (upf (inAny acc) c.toNat k k)) := (blk_cell HI.out.has k).trans (hasA_get _ k (by omega))
                            have fa : wr.frozen? ⟨w.heap.size, k, none⟩ = false := blk_frozen HI.out.has k
                            have b1 : (k : Int) < 256 := by omega
                            have b2 : IntKind.u8.wrap ((k : Int) + 1) = (k : Int) + 1 := wrap_u8 (by omega)
                            go_wp2
                            go_roundg k2
                            case rel => exact ⟨k + 1, by go_num, by omega, by omega, ⟨by rw [← upf_step _ _ _ hck]; exact HI.out.put k (by omega)⟩⟩
                            case measure => omega
                        · have hke : k = d.toNat + 1 := by omega
                          subst hke
                          have d8 : decide (((d.toNat + 1 : Nat) : Int) ≤ (d.toNat : Int)) = false := decide_eq_false (by omega)
                          go_wp2
                          go_roundg (k1 - 2)
                          case rel => exact ⟨false, j + 1 + 1 + 1, acc ++ [(c, d)], rfl, by omega, by omega, HC2, ⟨by rw [← upf_end]; exact HI.out⟩⟩
                          case measure => omega
                  · have HE := Aside0.mk (show classR true [] (s.data.toList.drop i) = .err (s.data.toList.drop (j + 1 + 1)) 31 by rw [← HC.out, HD2.out, HD3.out, class_dashB HCB.out (by rw [HQ.out]; exact HN.out) (.inr (.inl (by rw [HQ2.out, HQ.out]; exact h3)))])
                    have d1 : ((n2 : Int) == 0) = false := beq_eq_false_iff_ne.2 (by omega)
                    have d2 : ((n2 : Int) != (n : Int)) = true := bne_iff_ne.2 (by omega)
                    clear hn2 h2 h3
                    go_wp2_with (first | (go_at_call 86; (with_reducible refine Calls.mono (rd_now (by first | exact HR3.out.rd | exact (HR3.out.drewN _).rd) hbd) ?_); rintro e w' ⟨rfl, ⟨nd, rfl⟩⟩) | (go_at_call 83; (with_reducible refine Calls.mono (sort_is d HQ2.out _) ?_); rintro e w' ⟨rfl, ⟨nd2, rfl⟩⟩) | (go_at_call 83; (with_reducible refine Calls.mono (sort_is c HQ.out _) ?_); rintro e w' ⟨rfl, ⟨nd2, rfl⟩⟩) | (go_at_call 62; (with_reducible refine Calls.mono (rd_stop (by first | exact HR3.out.rd | exact (HR3.out.drewN _).rd) 31) ?_); rintro e w' ⟨rfl, rfl⟩; unfold thrown))
                    exact ⟨rfl, thrownPost _ (j + 1 + 1) (by omega) (by first | exact HR3.out.keep | exact (HR3.out.drewN _).keep) (by exact HE.out)⟩
            · have HC2 := Aside0.mk (show classR false (acc ++ [(c, c)]) (s.data.toList.drop (j + 1)) = classR true [] (s.data.toList.drop i) by
                rw [← HC.out, class_single HCB.out (fun u e => hm (by
                  have := congrArg (fun l => l[0]?) e
                  simpa using this))])
              have HX := Aside0.mk (decide_eq_false hm)
              clear hm
              go_wp2_with (first | (go_at_call 105; (with_reducible refine Calls.mono (rd_moreB (by first | exact HR2.out.rd | exact (HR2.out.drewN _).rd) 45 HX.out) ?_); rintro e w' ⟨rfl, ⟨nd, rfl⟩⟩))
              go_loopg [7] (c.toNat + 1 - c.toNat) (fun kq v7 w' => ∃ k : Nat, v7 = .int .u8 (k : Int) ∧ k + kq = c.toNat + 1 ∧ c.toNat ≤ k ∧ Aside0 (ClAt w w' g w.heap.size s (j + 1) (upf (inAny acc) c.toNat k)))
              case atStart => exact ⟨c.toNat, rfl, by omega, Nat.le_refl _, ⟨by rw [upf_start]; first | exact HR2.out | exact HR2.out.drewN _⟩⟩
              case round =>
                obtain ⟨k, rfl, hkq, hck, HI⟩ := hrel
                by_cases hk : k ≤ c.toNat
                · cases gk with
                  | zero => omega
                  | succ k2 =>
                    have d8 : decide ((k : Int) ≤ (c.toNat : Int)) = true := decide_eq_true (by omega)
                    have ca : wr.cell? ⟨w.heap.size, k, none⟩ = some (.bool (upf (inAny acc) c.toNat k k)) := (blk_cell HI.out.has k).trans (hasA_get _ k (by omega))
                    have fa : wr.frozen? ⟨w.heap.size, k, none⟩ = false := blk_frozen HI.out.has k
                    have b1 : (k : Int) < 256 := by omega
                    have b2 : IntKind.u8.wrap ((k : Int) + 1) = (k : Int) + 1 := wrap_u8 (by omega)
                    go_wp2
                    go_roundg k2
                    case rel => exact ⟨k + 1, by go_num, by omega, by omega, ⟨by rw [← upf_step _ _ _ hck]; exact HI.out.put k (by omega)⟩⟩
                    case measure => omega
                · have hke : k = c.toNat + 1 := by omega
                  subst hke
                  have d8 : decide (((c.toNat + 1 : Nat) : Int) ≤ (c.toNat : Int)) = false := decide_eq_false (by omega)
                  go_wp2
                  go_roundg (k1)
                  case rel => exact ⟨false, j + 1, acc ++ [(c, c)], rfl, by omega, by omega, HC2, ⟨by rw [← upf_end]; exact HI.out⟩⟩
                  case measure => omega
      | false =>
        by_cases h93 : c = 93
        · have HE := Aside0.mk (show classR true [] (s.data.toList.drop i) = .ok acc (s.data.toList.drop (j + 1)) by rw [← HC.out, h93, class_end])
          have d93 : ((c.toNat : Int) != 93) = false := by rw [h93]; rfl
          have f1 : wr.frozen? ⟨g, 1, none⟩ = false := blk_frozen HR.out.rd 1
          have c1 : wr.cell? ⟨g, 1, none⟩ = some (.int .i64 (j : Int)) := blk_cell HR.out.rd 1
          clear HC h93
          obtain ⟨F, hF⟩ : ∃ F, inAny acc = F := ⟨_, rfl⟩
          rw [hF] at HR
          have HF := Aside0.mk hF
          clear hF
          go_upto_region 24 with (first | (go_at_call 86; (with_reducible refine Calls.mono (rd_now (by first | exact HR.out.rd | exact (HR.out.drewN _).rd) hb) ?_); rintro e w' ⟨rfl, ⟨nd, rfl⟩⟩))
          generalize hW : World.drewN _ _ = wq2
          have HW2 := Aside0.mk (show ClAt w wq2 g w.heap.size s j F by rw [← hW]; exact HR.out.drewN _)
          clear hW
          generalize hV : World.setCell wq2 _ _ = w2
          have HR2 := Aside0.mk (show ClAt w w2 g w.heap.size s (j + 1) F by rw [← hV]; exact HW2.out.set (j + 1))
          clear hV HW2 f1 c1 d93
          go_wp2_with (refine wpList_load_row rfl 117 _ rfl w.heap.size rfl 117 _ (0, 0) _ HR2.out.has Tryd.underlying117 rfl (by rw [hasA_size]; kernel_rfl) ?_)
          go_loopg [8, 9, 10, 92] 257 (fun kq v8 v9 v10 v92 w' => ∃ (k : Nat) (L : List Int) (A : Option Addr) (c8 : Nat), v92 = .int .i64 (k : Int) ∧ v8 = .slice A L.length c8 ∧ k + kq = 257 ∧ k ≤ 256 ∧ L.length ≤ k ∧ Aside0 (L = outs F k) ∧ Aside0 (Kd.R (Kd.int .u8) 5 w' w.heap.size (fun _ => True) (.slice A L.length c8) L) ∧ Aside0 (RdAt w' g s (j + 1)) ∧ Aside0 (Keep w w' (fun k => k = g)))
          case atStart => exact ⟨0, [], none, 0, rfl, rfl, by omega, by omega, by simp, ⟨rfl⟩, ⟨Kd.R_nil _ _ _ _ _⟩, ⟨HR2.out.rd⟩, ⟨HR2.out.keep⟩⟩
          case round =>
            obtain ⟨k, L, A, c8, rfl, rfl, hkq, hk, hLk, HL, HO, HRD, HK⟩ := hrel
            by_cases hk2 : k < 256
            · cases gk with
              | zero => omega
              | succ k2 =>
                have d8 : decide ((k : Int) < 256) = true := decide_eq_true (by omega)
                have hi : ∀ W : World, (Instr.index 117 (.agg (hasA F)) (.int .i64 (k : Int))).run Tryd.prog W = .ok (.bool (F k)) W := fun W => run_has F k hk2 W
                have hw8 : IntKind.u8.wrap (k : Int) = (k : Int) := wrap_u8' hk2
                have HO8 := Aside0.mk (outs_succ F k)
                cases hFk : F k with
                | true =>
                  rw [hFk] at hi HO8
                  have hsz := HK.out.size
                  go_wp2_with (first
                    | ((with_reducible refine gate_builtin (b := .append) (xs := #[.tmp 97, .tmp 100]) rfl ?_); at_builtin; refine Kd.R_append (Kd.int .u8) (w0 := wr) w.heap.size rfl (.tmp 97) (.tmp 100) 63 5 (.int .u8 0) 1 rfl Tryd.underlying63 info_u8 rfl (by decide) (by omega) (.slice A L.length c8) L (k : Int) [.int .u8 (k : Int)] (fun _ => True) (fun _ => False) rfl rfl ?aP (fun _ hk => hk.elim) ?aF ?aO ?aB ?aS ?aL ?_; (case aP => exact rfl); (case aB => exact Below.refl _ _); (case aF => exact (fun _ _ => trivial)); (case aO => exact HO.out); (case aS => exact hsz); (case aL => omega); intro v5 w5 ho5 _ hg5 hat5; obtain ⟨H2, hH2⟩ : ∃ l : List Int, l = L ++ [(k : Int)] := ⟨_, rfl⟩; rw [← hH2] at ho5; have NH := Aside0.mk hH2; clear hH2; obtain ⟨A5, c5, ev5⟩ := Kd.R_slice ho5; subst ev5; have HO5 := Aside0.mk ho5; have HG5 := Aside0.mk hg5; clear ho5 hg5 hat5))
                  go_roundg k2
                  case rel =>
                    have kg := grown_keep HG5.out
                    refine ⟨k + 1, H2, A5, c5, by go_num, rfl, by omega, by omega, by rw [NH.out, List.length_append, List.length_singleton]; omega, ⟨by rw [NH.out, HL.out]; exact (HO8.out.trans (by simp)).symm⟩, HO5, ⟨HRD.out.keep kg (fun e => ?_)⟩, ⟨HK.out.grown HG5.out (fun q e => .inr ?_)⟩⟩
                    · obtain ⟨cs, fr, h1⟩ := R_typed HO.out g e.symm
                      exact ne_typed h1 HRD.out (by decide) rfl
                    · obtain ⟨inner, ho⟩ := Kd.R_own HO.out
                      exact own_base ho q e
                  case measure => omega
                | false =>
                  rw [hFk] at hi HO8
                  go_wp2
                  go_roundg k2
                  case rel => exact ⟨k + 1, L, A, c8, by go_num, rfl, by omega, by omega, by omega, ⟨by rw [HL.out]; exact (HO8.out.trans (by simp)).symm⟩, HO, HRD, HK⟩
                  case measure => omega
            · have hke : k = 256 := by omega
              subst hke
              have d8 : decide (((256 : Nat) : Int) < 256) = false := by decide
              have HV := Aside0.mk (show strOfNums L = strB (coverB acc) by rw [HL.out, ← HF.out, outs_cover])
              have hcv := Kd.C_string (dst := 9) Tryd.underlying63 Tryd.underlying5 Tryd.underlying9 (Kd.R_reads' HO.out).2.2 (c := c8)
              rw [HV.out] at hcv
              go_wp2
              go_ret
              exact okPost _ (j + 1) (by omega) HE.out rfl HRD.out HK.out
        · have d93 : ((c.toNat : Int) != 93) = true := bne_iff_ne.2 (fun e => h93 ((eq_byte c 93).1 e))
          by_cases hcb : cb c = false
          · have HE := Aside0.mk (show classR true [] (s.data.toList.drop i) = .err (s.data.toList.drop j) 31 by rw [← HC.out, HD.out, class_bad hcb (.inr h93)])
            obtain ⟨hs0, h95⟩ := cb_not hcb
            have d1 : ((0 : Int) == 0) = true := rfl
            have d2 : ((c.toNat : Int) != 95) = true := bne_iff_ne.2 (fun e => h95 ((eq_byte c 95).1 e))
            have HQ := Aside0.mk hs0
            clear hcb hs0 h95 HC
            go_wp2_with (first | (go_at_call 86; (with_reducible refine Calls.mono (rd_now (by first | exact HR.out.rd | exact (HR.out.drewN _).rd) hb) ?_); rintro e w' ⟨rfl, ⟨nd, rfl⟩⟩) | (go_at_call 83; (with_reducible refine Calls.mono (sort_is c HQ.out _) ?_); rintro e w' ⟨rfl, ⟨nd, rfl⟩⟩) | (go_at_call 62; (with_reducible refine Calls.mono (rd_stop (by first | exact HR.out.rd | exact (HR.out.drewN _).rd) 31) ?_); rintro e w' ⟨rfl, rfl⟩; unfold thrown))
            exact ⟨rfl, thrownPost _ j (by omega) (by first | exact HR.out.keep | exact (HR.out.drewN _).keep) (by exact HE.out)⟩
          · rw [Bool.not_eq_false] at hcb
            obtain ⟨n, hn⟩ : ∃ n, sortB c = n := ⟨_, rfl⟩
            have HQ := Aside0.mk hn
            have HCB := Aside0.mk hcb
            have hc122 := cb_le hcb
            have f1 : wr.frozen? ⟨g, 1, none⟩ = false := blk_frozen HR.out.rd 1
            have c1 : wr.cell? ⟨g, 1, none⟩ = some (.int .i64 (j : Int)) := blk_cell HR.out.rd 1
            cases gk with
            | zero => omega
            | succ k1 =>
            by_cases h0 : n = 0
            · have HN := Aside0.mk h0
              have d1 : ((n : Int) == 0) = true := by rw [h0]; rfl
              have d2 : ((c.toNat : Int) != 95) = false := by
                have := cb_zero hcb (hn.trans h0)
                rw [this]; rfl
              clear hcb hn h0
              go_upto_region 10 with (first | (go_at_call 86; (with_reducible refine Calls.mono (rd_now (by first | exact HR.out.rd | exact (HR.out.drewN _).rd) hb) ?_); rintro e w' ⟨rfl, ⟨nd, rfl⟩⟩) | (go_at_call 83; (with_reducible refine Calls.mono (sort_is c HQ.out _) ?_); rintro e w' ⟨rfl, ⟨nd2, rfl⟩⟩))
              generalize hW : World.drewN _ _ = wq2
              have HW2 := Aside0.mk (show ClAt w wq2 g w.heap.size s (j) (inAny acc) by rw [← hW]; exact HR.out.drewN _)
              clear hW
              generalize hV : World.setCell wq2 _ _ = w2
              have HR2 := Aside0.mk (show ClAt w w2 g w.heap.size s (j + 1) (inAny acc) by rw [← hV]; exact HW2.out.set (j + 1))
              clear hV HW2
              clear f1 c1 d1 d2
              by_cases hm : s.data.toList[j + 1]? = some 45
              · have HM := Aside0.mk hm
                have HD2 := Aside0.mk (drop_at hm)
                have hj3 := (List.getElem?_eq_some_iff.1 hm).1
                rw [size_data] at hj3
                have HX := Aside0.mk (decide_eq_true hm)
                clear hm
                have HE := Aside0.mk (show classR true [] (s.data.toList.drop i) = .err (s.data.toList.drop (j + 1)) 31 by rw [← HC.out, HD2.out, class_dash0 HCB.out (HQ.out.trans HN.out)])
                have d1 : ((n : Int) == 0) = true := by rw [HN.out]; rfl
                go_wp2_with (first | (go_at_call 105; (with_reducible refine Calls.mono (rd_moreB (by first | exact HR2.out.rd | exact (HR2.out.drewN _).rd) 45 HX.out) ?_); rintro e w' ⟨rfl, ⟨nd, rfl⟩⟩) | (go_at_call 83; (with_reducible refine Calls.mono (sort_is c HQ.out _) ?_); rintro e w' ⟨rfl, ⟨nd2, rfl⟩⟩) | (go_at_call 62; (with_reducible refine Calls.mono (rd_stop (by first | exact HR2.out.rd | exact (HR2.out.drewN _).rd) 31) ?_); rintro e w' ⟨rfl, rfl⟩; unfold thrown))
                exact ⟨rfl, thrownPost _ (j + 1) (by omega) (by first | exact HR2.out.keep | exact (HR2.out.drewN _).keep) (by exact HE.out)⟩
              · have HC2 := Aside0.mk (show classR false (acc ++ [(c, c)]) (s.data.toList.drop (j + 1)) = classR true [] (s.data.toList.drop i) by
                  rw [← HC.out, class_single HCB.out (fun u e => hm (by
                    have := congrArg (fun l => l[0]?) e
                    simpa using this))])
                have HX := Aside0.mk (decide_eq_false hm)
                clear hm
                go_wp2_with (first | (go_at_call 105; (with_reducible refine Calls.mono (rd_moreB (by first | exact HR2.out.rd | exact (HR2.out.drewN _).rd) 45 HX.out) ?_); rintro e w' ⟨rfl, ⟨nd, rfl⟩⟩))
                go_loopg [7] (c.toNat + 1 - c.toNat) (fun kq v7 w' => ∃ k : Nat, v7 = .int .u8 (k : Int) ∧ k + kq = c.toNat + 1 ∧ c.toNat ≤ k ∧ Aside0 (ClAt w w' g w.heap.size s (j + 1) (upf (inAny acc) c.toNat k)))
                case atStart => exact ⟨c.toNat, rfl, by omega, Nat.le_refl _, ⟨by rw [upf_start]; first | exact HR2.out | exact HR2.out.drewN _⟩⟩
                case round =>
                  obtain ⟨k, rfl, hkq, hck, HI⟩ := hrel
                  by_cases hk : k ≤ c.toNat
                  · cases gk with
                    | zero => omega
                    | succ k2 =>
                      have d8 : decide ((k : Int) ≤ (c.toNat : Int)) = true := decide_eq_true (by omega)
                      have ca : wr.cell? ⟨w.heap.size, k, none⟩ = some (.bool (upf (inAny acc) c.toNat k k)) := (blk_cell HI.out.has k).trans (hasA_get _ k (by omega))
                      have fa : wr.frozen? ⟨w.heap.size, k, none⟩ = false := blk_frozen HI.out.has k
                      have b1 : (k : Int) < 256 := by omega
                      have b2 : IntKind.u8.wrap ((k : Int) + 1) = (k : Int) + 1 := wrap_u8 (by omega)
                      go_wp2
                      go_roundg k2
                      case rel => exact ⟨k + 1, by go_num, by omega, by omega, ⟨by rw [← upf_step _ _ _ hck]; exact HI.out.put k (by omega)⟩⟩
                      case measure => omega
                  · have hke : k = c.toNat + 1 := by omega
                    subst hke
                    have d8 : decide (((c.toNat + 1 : Nat) : Int) ≤ (c.toNat : Int)) = false := decide_eq_false (by omega)
                    go_wp2
                    go_roundg (k1)
                    case rel => exact ⟨false, j + 1, acc ++ [(c, c)], rfl, by omega, by omega, HC2, ⟨by rw [← upf_end]; exact HI.out⟩⟩
                    case measure => omega
            · have HN := Aside0.mk h0
              have d1 : ((n : Int) == 0) = false := beq_eq_false_iff_ne.2 (by omega)
              clear hcb hn h0
              go_upto_region 10 with (first | (go_at_call 86; (with_reducible refine Calls.mono (rd_now (by first | exact HR.out.rd | exact (HR.out.drewN _).rd) hb) ?_); rintro e w' ⟨rfl, ⟨nd, rfl⟩⟩) | (go_at_call 83; (with_reducible refine Calls.mono (sort_is c HQ.out _) ?_); rintro e w' ⟨rfl, ⟨nd2, rfl⟩⟩))
              generalize hW : World.drewN _ _ = wq2
              have HW2 := Aside0.mk (show ClAt w wq2 g w.heap.size s (j) (inAny acc) by rw [← hW]; exact HR.out.drewN _)
              clear hW
              generalize hV : World.setCell wq2 _ _ = w2
              have HR2 := Aside0.mk (show ClAt w w2 g w.heap.size s (j + 1) (inAny acc) by rw [← hV]; exact HW2.out.set (j + 1))
              clear hV HW2
              clear f1 c1 d1
              by_cases hm : s.data.toList[j + 1]? = some 45
              · have HM := Aside0.mk hm
                have HD2 := Aside0.mk (drop_at hm)
                have hj3 := (List.getElem?_eq_some_iff.1 hm).1
                rw [size_data] at hj3
                have HX := Aside0.mk (decide_eq_true hm)
                clear hm
                have d1 : ((n : Int) == 0) = false := beq_eq_false_iff_ne.2 (by have := HN.out; omega)
                have f1 : w2.frozen? ⟨g, 1, none⟩ = false := blk_frozen HR2.out.rd 1
                have c1 : w2.cell? ⟨g, 1, none⟩ = some (.int .i64 ((j + 1 : Nat) : Int)) := blk_cell HR2.out.rd 1
                go_upto_region 14 with (first | (go_at_call 105; (with_reducible refine Calls.mono (rd_moreB (by first | exact HR2.out.rd | exact (HR2.out.drewN _).rd) 45 HX.out) ?_); rintro e w' ⟨rfl, ⟨nd, rfl⟩⟩) | (go_at_call 83; (with_reducible refine Calls.mono (sort_is c HQ.out _) ?_); rintro e w' ⟨rfl, ⟨nd2, rfl⟩⟩))
                generalize hW : World.drewN _ _ = wq3
                have HW3 := Aside0.mk (show ClAt w wq3 g w.heap.size s (j + 1) (inAny acc) by rw [← hW]; exact HR2.out.drewN _)
                clear hW
                generalize hV : World.setCell wq3 _ _ = w3
                have HR3 := Aside0.mk (show ClAt w w3 g w.heap.size s (j + 1 + 1) (inAny acc) by rw [← hV]; exact HW3.out.set (j + 1 + 1))
                clear hV HW3
                clear f1 c1 d1
                by_cases hj : j + 1 + 1 = s.size
                · have HJ := Aside0.mk hj
                  have HE := Aside0.mk (show classR true [] (s.data.toList.drop i) = .err (s.data.toList.drop (j + 1 + 1)) 31 by rw [← HC.out, HD2.out, drop_end hj, class_dashE HCB.out (by rw [HQ.out]; exact HN.out)])
                  clear hj
                  go_wp2_with (first | (go_at_call 86; (with_reducible refine Calls.mono (rd_end (by first | exact HR3.out.rd | exact (HR3.out.drewN _).rd) HJ.out) ?_); rintro e w' ⟨rfl, ⟨nd, rfl⟩⟩; unfold thrown))
                  exact ⟨rfl, thrownPost _ (j + 1 + 1) (by omega) (by first | exact HR3.out.keep | exact (HR3.out.drewN _).keep) (by exact HE.out)⟩
                · obtain ⟨d, hbd⟩ := get_lt (s := s) (i := j + 1 + 1) (by omega)
                  have HD3 := Aside0.mk (drop_at hbd)
                  obtain ⟨n2, hn2⟩ : ∃ n2, sortB d = n2 := ⟨_, rfl⟩
                  have HQ2 := Aside0.mk hn2
                  have hj4 : j + 1 + 1 < s.size := by omega
                  have f1 : w3.frozen? ⟨g, 1, none⟩ = false := blk_frozen HR3.out.rd 1
                  have c1 : w3.cell? ⟨g, 1, none⟩ = some (.int .i64 ((j + 1 + 1 : Nat) : Int)) := blk_cell HR3.out.rd 1
                  clear hj
                  by_cases h2 : n2 = 0
                  · have HE := Aside0.mk (show classR true [] (s.data.toList.drop i) = .err (s.data.toList.drop (j + 1 + 1)) 31 by rw [← HC.out, HD2.out, HD3.out, class_dashB HCB.out (by rw [HQ.out]; exact HN.out) (.inl (hn2.trans h2))])
                    have d1 : ((n2 : Int) == 0) = true := by rw [h2]; rfl
                    clear hn2 h2
                    go_wp2_with (first | (go_at_call 86; (with_reducible refine Calls.mono (rd_now (by first | exact HR3.out.rd | exact (HR3.out.drewN _).rd) hbd) ?_); rintro e w' ⟨rfl, ⟨nd, rfl⟩⟩) | (go_at_call 83; (with_reducible refine Calls.mono (sort_is d HQ2.out _) ?_); rintro e w' ⟨rfl, ⟨nd2, rfl⟩⟩) | (go_at_call 62; (with_reducible refine Calls.mono (rd_stop (by first | exact HR3.out.rd | exact (HR3.out.drewN _).rd) 31) ?_); rintro e w' ⟨rfl, rfl⟩; unfold thrown))
                    exact ⟨rfl, thrownPost _ (j + 1 + 1) (by omega) (by first | exact HR3.out.keep | exact (HR3.out.drewN _).keep) (by exact HE.out)⟩
                  · by_cases h3 : n2 = n
                    · have d1 : ((n2 : Int) == 0) = false := beq_eq_false_iff_ne.2 (by omega)
                      subst h3
                      have d2 : ((n2 : Int) != (n2 : Int)) = false := by simp
                      by_cases h4 : d.toNat < c.toNat
                      · have HE := Aside0.mk (show classR true [] (s.data.toList.drop i) = .err (s.data.toList.drop (j + 1 + 1)) 31 by rw [← HC.out, HD2.out, HD3.out, class_dashB HCB.out (by rw [HQ.out]; exact HN.out) (.inr (.inr h4))])
                        have d3 : decide (d.toNat < c.toNat) = true := decide_eq_true h4
                        clear hn2 h2 h4
                        go_wp2_with (first | (go_at_call 86; (with_reducible refine Calls.mono (rd_now (by first | exact HR3.out.rd | exact (HR3.out.drewN _).rd) hbd) ?_); rintro e w' ⟨rfl, ⟨nd, rfl⟩⟩) | (go_at_call 83; (with_reducible refine Calls.mono (sort_is d HQ2.out _) ?_); rintro e w' ⟨rfl, ⟨nd2, rfl⟩⟩) | (go_at_call 83; (with_reducible refine Calls.mono (sort_is c HQ.out _) ?_); rintro e w' ⟨rfl, ⟨nd2, rfl⟩⟩) | (go_at_call 62; (with_reducible refine Calls.mono (rd_stop (by first | exact HR3.out.rd | exact (HR3.out.drewN _).rd) 31) ?_); rintro e w' ⟨rfl, rfl⟩; unfold thrown))
                        exact ⟨rfl, thrownPost _ (j + 1 + 1) (by omega) (by first | exact HR3.out.keep | exact (HR3.out.drewN _).keep) (by exact HE.out)⟩
                      · have HC2 := Aside0.mk (show classR false (acc ++ [(c, d)]) (s.data.toList.drop (j + 1 + 1 + 1)) = classR true [] (s.data.toList.drop i) by
                          rw [← HC.out, HD2.out, HD3.out, class_range (by rw [HQ.out]; have := HN.out; omega) (by rw [HQ2.out, HQ.out]) (by omega)])
                        have d3 : decide (d.toNat < c.toNat) = false := decide_eq_false h4
                        have hd122 : d.toNat ≤ 122 := cb_le (cb_of_sort (by omega))
                        have hcd : c.toNat ≤ d.toNat := by omega
                        clear hn2 h2 h4
                        go_upto_region 18 with (first | (go_at_call 86; (with_reducible refine Calls.mono (rd_now (by first | exact HR3.out.rd | exact (HR3.out.drewN _).rd) hbd) ?_); rintro e w' ⟨rfl, ⟨nd, rfl⟩⟩) | (go_at_call 83; (with_reducible refine Calls.mono (sort_is d HQ2.out _) ?_); rintro e w' ⟨rfl, ⟨nd2, rfl⟩⟩) | (go_at_call 83; (with_reducible refine Calls.mono (sort_is c HQ.out _) ?_); rintro e w' ⟨rfl, ⟨nd2, rfl⟩⟩))
                        generalize hW : World.drewN _ _ = wq4
                        have HW4 := Aside0.mk (show ClAt w wq4 g w.heap.size s (j + 1 + 1) (inAny acc) by rw [← hW]; exact HR3.out.drewN _)
                        clear hW
                        generalize hV : World.setCell wq4 _ _ = w4
                        have HR4 := Aside0.mk (show ClAt w w4 g w.heap.size s (j + 1 + 1 + 1) (inAny acc) by rw [← hV]; exact HW4.out.set (j + 1 + 1 + 1))
                        clear hV HW4
                        clear f1 c1 d1 d2 d3
                        go_wp2
                        go_loopg [7] (d.toNat + 1 - c.toNat) (fun kq v7 w' => ∃ k : Nat, v7 = .int .u8 (k : Int) ∧ k + kq = d.toNat + 1 ∧ c.toNat ≤ k ∧ Aside0 (ClAt w w' g w.heap.size s (j + 1 + 1 + 1) (upf (inAny acc) c.toNat k)))
                        case atStart => exact ⟨c.toNat, rfl, by omega, Nat.le_refl _, ⟨by rw [upf_start]; first | exact HR4.out | exact HR4.out.drewN _⟩⟩
                        case round =>
                          obtain ⟨k, rfl, hkq, hck, HI⟩ := hrel
                          by_cases hk : k ≤ d.toNat
                          · cases gk with
                            | zero => omega
                            | succ k2 =>
                              have d8 : decide ((k : Int) ≤ (d.toNat : Int)) = true := decide_eq_true (by omega)
                              have ca : wr.cell? ⟨w.heap.size, k, none⟩ = some (.bool (upf (inAny acc) c.toNat k k)) := (blk_cell HI.out.has k).trans (hasA_get _ k (by omega))
                              have fa : wr.frozen? ⟨w.heap.size, k, none⟩ = false := blk_frozen HI.out.has k
                              have b1 : (k : Int) < 256 := by omega
                              have b2 : IntKind.u8.wrap ((k : Int) + 1) = (k : Int) + 1 := wrap_u8 (by omega)
                              go_wp2
                              go_roundg k2
                              case rel => exact ⟨k + 1, by go_num, by omega, by omega, ⟨by rw [← upf_step _ _ _ hck]; exact HI.out.put k (by omega)⟩⟩
                              case measure => omega
                          · have hke : k = d.toNat + 1 := by omega
                            subst hke
                            have d8 : decide (((d.toNat + 1 : Nat) : Int) ≤ (d.toNat : Int)) = false := decide_eq_false (by omega)
                            go_wp2
                            go_roundg (k1 - 2)
                            case rel => exact ⟨false, j + 1 + 1 + 1, acc ++ [(c, d)], rfl, by omega, by omega, HC2, ⟨by rw [← upf_end]; exact HI.out⟩⟩
                            case measure => omega
                    · have HE := Aside0.mk (show classR true [] (s.data.toList.drop i) = .err (s.data.toList.drop (j + 1 + 1)) 31 by rw [← HC.out, HD2.out, HD3.out, class_dashB HCB.out (by rw [HQ.out]; exact HN.out) (.inr (.inl (by rw [HQ2.out, HQ.out]; exact h3)))])
                      have d1 : ((n2 : Int) == 0) = false := beq_eq_false_iff_ne.2 (by omega)
                      have d2 : ((n2 : Int) != (n : Int)) = true := bne_iff_ne.2 (by omega)
                      clear hn2 h2 h3
                      go_wp2_with (first | (go_at_call 86; (with_reducible refine Calls.mono (rd_now (by first | exact HR3.out.rd | exact (HR3.out.drewN _).rd) hbd) ?_); rintro e w' ⟨rfl, ⟨nd, rfl⟩⟩) | (go_at_call 83; (with_reducible refine Calls.mono (sort_is d HQ2.out _) ?_); rintro e w' ⟨rfl, ⟨nd2, rfl⟩⟩) | (go_at_call 83; (with_reducible refine Calls.mono (sort_is c HQ.out _) ?_); rintro e w' ⟨rfl, ⟨nd2, rfl⟩⟩) | (go_at_call 62; (with_reducible refine Calls.mono (rd_stop (by first | exact HR3.out.rd | exact (HR3.out.drewN _).rd) 31) ?_); rintro e w' ⟨rfl, rfl⟩; unfold thrown))
                      exact ⟨rfl, thrownPost _ (j + 1 + 1) (by omega) (by first | exact HR3.out.keep | exact (HR3.out.drewN _).keep) (by exact HE.out)⟩
              · have HC2 := Aside0.mk (show classR false (acc ++ [(c, c)]) (s.data.toList.drop (j + 1)) = classR true [] (s.data.toList.drop i) by
                  rw [← HC.out, class_single HCB.out (fun u e => hm (by
                    have := congrArg (fun l => l[0]?) e
                    simpa using this))])
                have HX := Aside0.mk (decide_eq_false hm)
                clear hm
                go_wp2_with (first | (go_at_call 105; (with_reducible refine Calls.mono (rd_moreB (by first | exact HR2.out.rd | exact (HR2.out.drewN _).rd) 45 HX.out) ?_); rintro e w' ⟨rfl, ⟨nd, rfl⟩⟩))
                go_loopg [7] (c.toNat + 1 - c.toNat) (fun kq v7 w' => ∃ k : Nat, v7 = .int .u8 (k : Int) ∧ k + kq = c.toNat + 1 ∧ c.toNat ≤ k ∧ Aside0 (ClAt w w' g w.heap.size s (j + 1) (upf (inAny acc) c.toNat k)))
                case atStart => exact ⟨c.toNat, rfl, by omega, Nat.le_refl _, ⟨by rw [upf_start]; first | exact HR2.out | exact HR2.out.drewN _⟩⟩
                case round =>
                  obtain ⟨k, rfl, hkq, hck, HI⟩ := hrel
                  by_cases hk : k ≤ c.toNat
                  · cases gk with
                    | zero => omega
                    | succ k2 =>
                      have d8 : decide ((k : Int) ≤ (c.toNat : Int)) = true := decide_eq_true (by omega)
                      have ca : wr.cell? ⟨w.heap.size, k, none⟩ = some (.bool (upf (inAny acc) c.toNat k k)) := (blk_cell HI.out.has k).trans (hasA_get _ k (by omega))
                      have fa : wr.frozen? ⟨w.heap.size, k, none⟩ = false := blk_frozen HI.out.has k
                      have b1 : (k : Int) < 256 := by omega
                      have b2 : IntKind.u8.wrap ((k : Int) + 1) = (k : Int) + 1 := wrap_u8 (by omega)
                      go_wp2
                      go_roundg k2
                      case rel => exact ⟨k + 1, by go_num, by omega, by omega, ⟨by rw [← upf_step _ _ _ hck]; exact HI.out.put k (by omega)⟩⟩
                      case measure => omega
                  · have hke : k = c.toNat + 1 := by omega
                    subst hke
                    have d8 : decide (((c.toNat + 1 : Nat) : Int) ≤ (c.toNat : Int)) = false := decide_eq_false (by omega)
                    go_wp2
                    go_roundg (k1)
                    case rel => exact ⟨false, j + 1, acc ++ [(c, c)], rfl, by omega, by omega, HC2, ⟨by rw [← upf_end]; exact HI.out⟩⟩
                    case measure => omega
end Go.Proofs.YtecfmmalbehcnaaDoor.Q

/- The reader of patterns: a choice. -/
namespace Go.Proofs.YtecfmmalbehcnaaDoor.Q
open Go.Shelf Go.RowKit Go.Proofs Go.Proofs.YtecfmmalbehcnaaDoorW.PrintWords Go.Proofs.YtecfmmalbehcnaaDoorW.PrintLast Go.Proofs.YtecfmmalbehcnaaDoorW.PrintMore Go.Proofs.YtecfmmalbehcnaaDoorV
set_option linter.unusedVariables false
set_option linter.unusedSimpArgs false

theorem dropWhile_drop (l : List UInt8) : l.dropWhile nb = l.drop (l.takeWhile nb).length := by
  have h := List.takeWhile_append_dropWhile (p := nb) (l := l)
  have e : l.drop (l.takeWhile nb).length = (l.takeWhile nb ++ l.dropWhile nb).drop (l.takeWhile nb).length := by rw [h]
  rw [e, List.drop_left]
theorem dropWhile_run (s : ByteArray) (i : Nat) : (s.data.toList.drop i).dropWhile nb = s.data.toList.drop (i + (runB s i).length) := by
  rw [dropWhile_drop, List.drop_drop]
  rfl
theorem info_str : (Tryd.prog.info? 9).map (fun i => (i.zero, i.size, i.bytes)) = some (some (.string ⟨#[]⟩), 1, 16) := by kernel_rfl
/-- A row of texts of one's own. -/
def OwnS (w : World) (base : Nat) (v : Value) (X : List ByteArray) : Prop := Kd.R Kd.string 9 w base (fun _ => True) v X
theorem OwnS.keep {w w' : World} {base : Nat} {v : Value} {X : List ByteArray} {S : Nat → Prop} (h : OwnS w base v X) (hk : Keep w w' S) (hS : ∀ k, v.ownBlock = some k → ¬ S k) : OwnS w' base v X := R_keep h hk hS
theorem OwnS.ne {w : World} {base g : Nat} {v : Value} {X : List ByteArray} {s : ByteArray} {i : Nat} (h : OwnS w base v X) (hr : RdAt w g s i) : ∀ k, v.ownBlock = some k → k ≠ g := fun k e => by
  obtain ⟨cs, fr, h1⟩ := R_typed h k e
  exact ne_typed h1 hr (by decide)
theorem OwnS.one (w : World) (base : Nat) (t : ByteArray) (hb : base ≤ w.heap.size) : OwnS (w.alloc (.cells #[.string t] 9)) base (.slice (some ⟨w.heap.size, 0, none⟩) ([t].length) 1) [t] :=
  R_block (xs := [t]) (heap_alloc_new w _) hb trivial (by simp)
theorem choice_end {acc : List (List UInt8)} {u : List UInt8} : choiceR acc (125 :: u) = .ok acc u := by
  rw [choiceR]
  rw [if_neg (by decide), if_pos rfl]
theorem choice_bad {acc : List (List UInt8)} {c : UInt8} {u : List UInt8} (h1 : c ≠ 44) (h2 : c ≠ 125) : choiceR acc (c :: u) = .err (c :: u) 31 := by
  rw [choiceR]
  rw [if_neg h1, if_neg h2]
theorem choice_many {acc : List (List UInt8)} {u : List UInt8} (h : acc.length = 16) : choiceR acc (44 :: u) = .err (44 :: u) 3 := by
  rw [choiceR]
  rw [if_pos rfl, if_pos h]
theorem choice_go {acc : List (List UInt8)} {u : List UInt8} (h : acc.length ≠ 16) : choiceR acc (44 :: u) = choiceR (acc ++ [u.takeWhile nb]) (u.dropWhile nb) := by
  rw [choiceR]
  rw [if_pos rfl, if_neg h]
/-- What a choice is read as, behind its brace. -/
def choiceAt (s : ByteArray) (i : Nat) : Res (List (List UInt8)) := choiceR [(s.data.toList.drop i).takeWhile nb] ((s.data.toList.drop i).dropWhile nb)
set_option maxHeartbeats 4000000 in
set_option maxRecDepth 100000 in
theorem rd_choice {w : World} {g : Nat} {s : ByteArray} {i : Nat} (h : RdAt w g s i) (hi : i ≤ s.size) (hs : s.size ≤ 140737488355328) :
    Calls Tryd.prog 88 #[.pointer (some ⟨g, 0, none⟩)] w (RdPost w g s (choiceAt s i) (fun a v w' => OwnS w' w.heap.size v (a.map strB))) := by
  have HT := Aside0.mk (rd_text h hi hs)
  have hg := blk_lt h
  have HJ0 := Aside0.mk (runB_le s i hi)
  clear h
  go_enter Tryd.func88, Tryd.ntmps88
  go_wp2_with (go_at_call 89; (with_reducible refine (HT.out).mono ?_); rintro e w1 ⟨rfl, hrd, hk⟩; have HR1 := Aside0.mk hrd; have HK1 := Aside0.mk hk; clear hrd hk)
  go_loopg [3] (s.size + 1 - (i + (runB s i).length)) (fun kq v3 w' => ∃ (j : Nat) (acc : List (List UInt8)) (X : List ByteArray) (A : Option Addr) (c3 : Nat), v3 = .slice A X.length c3 ∧ j + kq = s.size + 1 ∧ j ≤ s.size ∧ 1 ≤ X.length ∧ X.length ≤ 16 ∧ Aside0 (X = acc.map strB) ∧ Aside0 (choiceR acc (s.data.toList.drop j) = choiceAt s i) ∧ Aside0 (OwnS w' w.heap.size (.slice A X.length c3) X) ∧ Aside0 (RdAt w' g s j) ∧ Aside0 (Keep w w' (fun k => k = g)))
  case atStart =>
    have hsz := HK1.out.size
    have hj := HJ0.out
    refine ⟨i + (runB s i).length, [runB s i], [strB (runB s i)], _, _, rfl, by omega, hj, by simp, by simp, ⟨rfl⟩, ⟨?_⟩, ⟨OwnS.one _ _ _ hsz⟩, ⟨HR1.out.below (below_alloc (Below.refl _ _) _)⟩, ⟨HK1.out.alloc _⟩⟩
    unfold choiceAt
    rw [dropWhile_run]
    rfl
  case round =>
    obtain ⟨j, acc, X, A, c3, rfl, hjq, hjs, hX1, hX2, HX, HC, HO, HR, HK⟩ := hrel
    clear HT HR1 HK1
    have f1 : wr.frozen? ⟨g, 1, none⟩ = false := blk_frozen HR.out 1
    have c1 : wr.cell? ⟨g, 1, none⟩ = some (.int .i64 (j : Int)) := blk_cell HR.out 1
    by_cases hj : j = s.size
    · have HE := Aside0.mk (show choiceAt s i = .err (s.data.toList.drop j) 31 by rw [← HC.out, drop_end hj, choice_nil])
      have HJ := Aside0.mk hj
      clear HC hj
      go_wp2_with (first | (go_at_call 86; (with_reducible refine Calls.mono (rd_end (by first | exact HR.out | exact (HR.out.drewN _)) HJ.out) ?_); rintro e w' ⟨rfl, ⟨nd, rfl⟩⟩; unfold thrown))
      exact ⟨rfl, thrownPost _ j (by omega) (by first | exact HK.out | exact (HK.out.drewN _)) (by exact HE.out)⟩
    · obtain ⟨c, hb⟩ := get_lt (s := s) (i := j) (by omega)
      have HD := Aside0.mk (drop_at hb)
      rw [HD.out] at HC
      have hj2 : j < s.size := by omega
      clear hj
      by_cases hc : c = 44
      · have dc : ((c.toNat : Int) == 44) = true := beq_iff_eq.2 (by rw [hc]; rfl)
        by_cases hm : X.length = 16
        · have HE := Aside0.mk (show choiceAt s i = .err (s.data.toList.drop j) 3 by rw [← HC.out, HD.out, hc, choice_many (by have := congrArg List.length HX.out; rw [List.length_map] at this; omega)])
          have dm : ((X.length : Int) == 16) = true := beq_iff_eq.2 (by omega)
          clear HC hc hm
          go_wp2_with (first
            | (go_at_call 86; (with_reducible refine Calls.mono (rd_now (by first | exact HR.out | exact (HR.out.drewN _)) hb) ?_); rintro e w' ⟨rfl, ⟨nd, rfl⟩⟩)
            | (go_at_call 62; (with_reducible refine Calls.mono (rd_stop (by first | exact HR.out | exact HR.out.drewN _) 3) ?_); rintro e w' ⟨rfl, rfl⟩; unfold thrown))
          exact ⟨rfl, thrownPost _ j (by omega) (by first | exact HK.out | exact (HK.out.drewN _)) (by exact HE.out)⟩
        · cases gk with
          | zero => omega
          | succ k1 =>
          have hrl := runB_le s (j + 1) (by omega)
          have HC2 := Aside0.mk (show choiceR (acc ++ [runB s (j + 1)]) (s.data.toList.drop (j + 1 + (runB s (j + 1)).length)) = choiceAt s i by
            rw [← HC.out, hc, choice_go (by have := congrArg List.length HX.out; rw [List.length_map] at this; omega), dropWhile_run]
            rfl)
          have dm : ((X.length : Int) == 16) = false := beq_eq_false_iff_ne.2 (by omega)
          have hX3 : X.length ≤ 15 := by omega
          obtain ⟨t, ht⟩ : ∃ t, runB s (j + 1) = t := ⟨_, rfl⟩
          rw [ht] at HC2 hrl
          have HTT := Aside0.mk ht
          clear HC hc hm ht
          go_upto_region 6 with (first | (go_at_call 86; (with_reducible refine Calls.mono (rd_now (by first | exact HR.out | exact (HR.out.drewN _)) hb) ?_); rintro e w' ⟨rfl, ⟨nd, rfl⟩⟩))
          generalize hW : World.drewN _ _ = wq2
          have HRq := Aside0.mk (show RdAt wq2 g s j by rw [← hW]; exact HR.out.drewN _)
          have HKq := Aside0.mk (show Keep w wq2 (fun k => k = g) by rw [← hW]; exact HK.out.drewN _)
          have HOq := Aside0.mk (show OwnS wq2 w.heap.size (.slice A X.length c3) X by rw [← hW]; exact HO.out)
          clear hW
          generalize hV : World.setCell wq2 _ _ = w2
          have HR2 := Aside0.mk (show RdAt w2 g s (j + 1) by rw [← hV]; exact HRq.out.set (j + 1))
          have HK2 := Aside0.mk (show Keep w w2 (fun k => k = g) by rw [← hV]; exact HKq.out.set _ _ (.inl rfl))
          have HO2 := Aside0.mk (show OwnS w2 w.heap.size (.slice A X.length c3) X by rw [← hV]; exact HOq.out.keep ((Keep.refl _ (fun k => k = g)).set _ _ (.inl rfl)) (HOq.out.ne HRq.out))
          clear hV HRq HKq HOq f1 c1 dc dm
          have HT2 := Aside0.mk (rd_text HR2.out (by omega) hs)
          rw [HTT.out] at HT2
          go_wp2_with (first
            | (go_at_call 89; (with_reducible refine (HT2.out).mono ?_); rintro e w3 ⟨rfl, hrd, hk⟩; have HR3 := Aside0.mk hrd; have HK3 := Aside0.mk (HK2.out.trans hk (fun _ _ h => h) (fun _ _ h => h)); have HO3 := Aside0.mk (HO2.out.keep hk (HO2.out.ne HR2.out)); have hsz := HK3.out.size; clear hrd hk)
            | ((with_reducible refine gate_builtin (b := .append) (xs := #[.tmp 22, .tmp 25]) rfl ?_); at_builtin; refine Kd.R_append Kd.string (w0 := w3) w.heap.size rfl (.tmp 22) (.tmp 25) 34 9 (.string ⟨#[]⟩) 16 rfl Tryd.underlying34 info_str rfl (by decide) (by omega) (.slice A X.length c3) X (strB t) [.string (strB t)] (fun _ => True) (fun _ => False) rfl rfl ?aP (fun _ hk => hk.elim) ?aF ?aO ?aB ?aS ?aL ?_; (case aP => exact rfl); (case aB => exact Below.refl _ _); (case aF => exact (fun _ _ => trivial)); (case aO => exact HO3.out); (case aS => exact hsz); (case aL => omega); intro v5 w5 ho5 _ hg5 hat5; obtain ⟨H2, hH2⟩ : ∃ l : List ByteArray, l = X ++ [strB t] := ⟨_, rfl⟩; rw [← hH2] at ho5; have NH := Aside0.mk hH2; clear hH2; obtain ⟨A5, c5, ev5⟩ := Kd.R_slice ho5; subst ev5; have HO5 := Aside0.mk ho5; have HG5 := Aside0.mk hg5; clear ho5 hg5 hat5))
          go_roundg (k1 - t.length)
          case rel =>
            have kg := grown_keep HG5.out
            have hl : H2.length = X.length + 1 := by rw [NH.out, List.length_append]; rfl
            refine ⟨j + 1 + t.length, acc ++ [t], H2, A5, c5, rfl, by omega, by omega, by omega, by omega, ⟨by rw [NH.out, HX.out, List.map_append]; rfl⟩, HC2, HO5, ⟨HR3.out.keep kg (fun e => ?_)⟩, ⟨HK3.out.grown HG5.out (fun q e => .inr ?_)⟩⟩
            · exact HO3.out.ne HR3.out g e.symm rfl
            · obtain ⟨inner, ho⟩ := Kd.R_own HO3.out
              exact own_base ho q e
          case measure => omega
      · have dc : ((c.toNat : Int) == 44) = false := beq_eq_false_iff_ne.2 (fun e => hc ((eq_byte c 44).1 e))
        by_cases hc2 : c = 125
        · have HE := Aside0.mk (show choiceAt s i = .ok acc (s.data.toList.drop (j + 1)) by rw [← HC.out, hc2, choice_end])
          have dc2 : ((c.toNat : Int) != 125) = false := by rw [hc2]; rfl
          clear HC hc hc2
          go_upto_region 10 with (first | (go_at_call 86; (with_reducible refine Calls.mono (rd_now (by first | exact HR.out | exact (HR.out.drewN _)) hb) ?_); rintro e w' ⟨rfl, ⟨nd, rfl⟩⟩))
          generalize hW : World.drewN _ _ = wq2
          have HRq := Aside0.mk (show RdAt wq2 g s j by rw [← hW]; exact HR.out.drewN _)
          have HKq := Aside0.mk (show Keep w wq2 (fun k => k = g) by rw [← hW]; exact HK.out.drewN _)
          have HOq := Aside0.mk (show OwnS wq2 w.heap.size (.slice A X.length c3) X by rw [← hW]; exact HO.out)
          clear hW
          go_wp2
          go_ret
          exact okPost _ (j + 1) (by omega) HE.out (by rw [← HX.out]; exact HOq.out.keep ((Keep.refl _ (fun k => k = g)).set _ _ (.inl rfl)) (HOq.out.ne HRq.out)) (HRq.out.set (j + 1)) (HKq.out.set _ _ (.inl rfl))
        · have HE := Aside0.mk (show choiceAt s i = .err (s.data.toList.drop j) 31 by rw [← HC.out, HD.out, choice_bad hc hc2])
          have dc2 : ((c.toNat : Int) != 125) = true := bne_iff_ne.2 (fun e => hc2 ((eq_byte c 125).1 e))
          clear HC hc hc2
          go_wp2_with (first
            | (go_at_call 86; (with_reducible refine Calls.mono (rd_now (by first | exact HR.out | exact (HR.out.drewN _)) hb) ?_); rintro e w' ⟨rfl, ⟨nd, rfl⟩⟩)
            | (go_at_call 62; (with_reducible refine Calls.mono (rd_stop (by first | exact HR.out | exact HR.out.drewN _) 31) ?_); rintro e w' ⟨rfl, rfl⟩; unfold thrown))
          exact ⟨rfl, thrownPost _ j (by omega) (by first | exact HK.out | exact (HK.out.drewN _)) (by exact HE.out)⟩
end Go.Proofs.YtecfmmalbehcnaaDoor.Q

/- The reader of patterns: a piece. -/
namespace Go.Proofs.YtecfmmalbehcnaaDoor.Q
open Go.Shelf Go.RowKit Go.Proofs Go.Proofs.YtecfmmalbehcnaaDoorW.PrintWords Go.Proofs.YtecfmmalbehcnaaDoorW.PrintLast Go.Proofs.YtecfmmalbehcnaaDoorW.PrintMore Go.Proofs.YtecfmmalbehcnaaDoorV
set_option linter.unusedVariables false
set_option linter.unusedSimpArgs false

/-- A piece as a value of one's own. -/
def GlobV (w : World) (base : Nat) (v : Value) (a : Gl) : Prop := ∃ va, v = .agg #[.int .i64 a.kind, .string (strB a.text), va] ∧ OwnS w base va (a.alts.map strB)
abbrev zeroG : Array Value := #[.int .i64 0, .string ⟨#[]⟩, .slice none 0 0]
structure PcAt (w0 w : World) (g g0 : Nat) (s : ByteArray) (j : Nat) (cs : Array Value) : Prop where
  rd : RdAt w g s j
  res : w.heap[g0]? = some (.cells cs 43 (0, 0))
  keep : Keep w0 w (fun k => k = g)
  new : w0.heap.size ≤ g0
  old : g < w0.heap.size
theorem PcAt.drewN {w0 w : World} {g g0 : Nat} {s : ByteArray} {j : Nat} {cs : Array Value} (h : PcAt w0 w g g0 s j cs) (n : Nat) : PcAt w0 (w.drewN n) g g0 s j cs := ⟨h.rd, h.res, h.keep.drewN n, h.new, h.old⟩
theorem PcAt.set {w0 w : World} {g g0 : Nat} {s : ByteArray} {j : Nat} {cs : Array Value} (h : PcAt w0 w g g0 s j cs) (j' : Nat) : PcAt w0 (w.setCell ⟨g, 1, none⟩ (.int .i64 (j' : Int))) g g0 s j' cs := by
  have hne : g0 ≠ g := by have := h.new; have := h.old; omega
  exact ⟨h.rd.set j', (Below.heap_setCell _ _ _ _ (fun e => hne e)).trans h.res, h.keep.set _ _ (.inl rfl), h.new, h.old⟩
theorem PcAt.put {w0 w : World} {g g0 : Nat} {s : ByteArray} {j : Nat} {cs : Array Value} (h : PcAt w0 w g g0 s j cs) (i : Nat) (v : Value) : PcAt w0 (w.setCell ⟨g0, i, none⟩ v) g g0 s j (cs.setIfInBounds i v) := by
  have hne : g ≠ g0 := by have := h.new; have := h.old; omega
  exact ⟨(Below.heap_setCell _ _ _ _ (fun e => hne e)).trans h.rd, blk_put h.res i v rfl, h.keep.set _ _ (.inr h.new), h.new, h.old⟩
theorem PcAt.start {w : World} {g : Nat} {s : ByteArray} {i : Nat} (h : RdAt w g s i) : PcAt w (w.alloc (.cells zeroG 43)) g w.heap.size s i zeroG :=
  ⟨h.below (below_alloc (Below.refl _ _) _), heap_alloc_new _ _, (Keep.refl _ _).alloc _, Nat.le_refl _, (Array.getElem?_eq_some_iff.1 h).1⟩
theorem PcAt.call {w0 w w' : World} {g g0 : Nat} {s : ByteArray} {i j : Nat} {cs : Array Value} (h : PcAt w0 w g g0 s i cs) (hr : RdAt w' g s j) (hk : Keep w w' (fun k => k = g)) : PcAt w0 w' g g0 s j cs := by
  have hne : g0 ≠ g := by have := h.new; have := h.old; omega
  exact ⟨hr, (hk.block g0 (blk_lt h.res) hne).trans h.res, h.keep.trans hk (fun _ _ h => h) (fun _ _ h => h), h.new, h.old⟩
theorem RdPost.ok {α : Type} {w w' : World} {g : Nat} {s : ByteArray} {R : Res α} {Val : α → Value → World → Prop} {e : Ending} (h : RdPost w g s R Val e w') {a : α} {r : List UInt8} (hR : R = .ok a r) :
    ∃ j v, r = s.data.toList.drop j ∧ j ≤ s.size ∧ e = .returned v ∧ Val a v w' ∧ RdAt w' g s j ∧ Keep w w' (fun k => k = g) := by
  rcases h with ⟨a2, j, v, h1, h2, h3, h4, h5, h6⟩ | ⟨j, er, h1, -⟩
  · rw [hR] at h1
    injection h1 with e1 e2
    subst e1
    exact ⟨j, v, e2, h2, h3, h4, h5, h6⟩
  · rw [hR] at h1
    cases h1
theorem RdPost.err {α : Type} {w w' : World} {g : Nat} {s : ByteArray} {R : Res α} {Val : α → Value → World → Prop} {e : Ending} (h : RdPost w g s R Val e w') {er : Int} {r : List UInt8} (hR : R = .err r er) :
    ∃ j, r = s.data.toList.drop j ∧ j ≤ s.size ∧ e = thrown j er ∧ Keep w w' (fun k => k = g) := by
  rcases h with ⟨a2, j, v, h1, -⟩ | ⟨j, er2, h1, h2, h3, h4⟩
  · rw [hR] at h1
    cases h1
  · rw [hR] at h1
    injection h1 with e1 e2
    subst e2
    exact ⟨j, e1, h2, h3, h4⟩
theorem namely_is {c : UInt8} {b : Bool} (h : nb c = b) (w : World) : Calls Tryd.prog 53 #[.int .u8 (c.toNat : Int)] w fun e w' => e = .returned (.bool b) ∧ Drawn0 w w' := by
  subst h
  exact namely_calls c w
theorem OwnS.lower {w : World} {base base' : Nat} {v : Value} {X : List ByteArray} (h : OwnS w base v X) (hb : base' ≤ base) : OwnS w base' v X := Kd.R_lower h hb
theorem OwnS.putG {w : World} {base : Nat} {v : Value} {X : List ByteArray} (h : OwnS w base v X) {g0 : Nat} {cs : Array Value} (hg : w.heap[g0]? = some (.cells cs 43 (0, 0))) {v0 v1 v2 : Value} :
    OwnS (((w.setCell ⟨g0, 0, none⟩ v0).setCell ⟨g0, 1, none⟩ v1).setCell ⟨g0, 2, none⟩ v2) base v X :=
  h.keep ((((Keep.refl w (fun k => k = g0)).set ⟨g0, 0, none⟩ v0 (.inl rfl)).set ⟨g0, 1, none⟩ v1 (.inl rfl)).set ⟨g0, 2, none⟩ v2 (.inl rfl)) (fun k e => by
    obtain ⟨cs', fr, h1⟩ := R_typed h k e
    exact ne_typed h1 hg (by decide))
theorem piece_nil : pieceR [] = .err [] 31 := rfl
set_option maxHeartbeats 4000000 in
set_option maxRecDepth 100000 in
theorem rd_piece {w : World} {g : Nat} {s : ByteArray} {i : Nat} (h : RdAt w g s i) (hi : i ≤ s.size) (hs : s.size ≤ 140737488355328) :
    Calls Tryd.prog 61 #[.pointer (some ⟨g, 0, none⟩)] w (RdPost w g s (pieceR (s.data.toList.drop i)) (fun a v w' => GlobV w' w.heap.size v a)) := by
  have HP := Aside0.mk (PcAt.start h)
  clear h
  by_cases hj : i = s.size
  · have HE := Aside0.mk (show pieceR (s.data.toList.drop i) = .err (s.data.toList.drop i) 31 by rw [drop_end hj, piece_nil])
    have HJ := Aside0.mk hj
    clear hj
    go_enter Tryd.func61, Tryd.ntmps61
    go_wp2_with (first | (go_at_call 86; (with_reducible refine Calls.mono (rd_end (by first | exact HP.out.rd | exact (HP.out.drewN _).rd) HJ.out) ?_); rintro e w' ⟨rfl, ⟨nd, rfl⟩⟩; unfold thrown))
    exact ⟨rfl, thrownPost _ i (by omega) (by first | exact HP.out.keep | exact (HP.out.drewN _).keep) (by exact HE.out)⟩
  · obtain ⟨c, hb⟩ := get_lt (s := s) (i := i) (by omega)
    have HD := Aside0.mk (drop_at hb)
    have hj2 : i < s.size := by omega
    clear hj
    by_cases h42 : c = 42
    · have HE := Aside0.mk (show pieceR (s.data.toList.drop i) = .ok ⟨2, [], []⟩ (s.data.toList.drop (i + 1)) by rw [HD.out]; unfold pieceR; dsimp only; rw [if_pos h42])
      have d42 : ((c.toNat : Int) == 42) = true := by rw [h42]; rfl
      have f1 : (w.alloc (.cells zeroG 43)).frozen? ⟨g, 1, none⟩ = false := blk_frozen HP.out.rd 1
      have c1 : (w.alloc (.cells zeroG 43)).cell? ⟨g, 1, none⟩ = some (.int .i64 (i : Int)) := blk_cell HP.out.rd 1
      clear h42
      go_enter Tryd.func61, Tryd.ntmps61
      go_upto_region 4 with (first | (go_at_call 86; (with_reducible refine Calls.mono (rd_now (by first | exact HP.out.rd | exact (HP.out.drewN _).rd) hb) ?_); rintro e w' ⟨rfl, ⟨nd, rfl⟩⟩))
      generalize hW : World.drewN _ _ = wq
      have HQ := Aside0.mk (show PcAt w wq g w.heap.size s i zeroG by rw [← hW]; exact HP.out.drewN _)
      clear hW
      generalize hV : World.setCell wq _ _ = w2
      have H2 := Aside0.mk (show PcAt w w2 g w.heap.size s (i + 1) zeroG by rw [← hV]; exact HQ.out.set (i + 1))
      clear hV HQ f1 c1
      clear d42
      have q0 : w2.cell? ⟨w.heap.size, 0, none⟩ = some (.int .i64 0) := blk_cell H2.out.res 0
      have z0 : w2.frozen? ⟨w.heap.size, 0, none⟩ = false := blk_frozen H2.out.res 0
      have q1 : w2.cell? ⟨w.heap.size, 1, none⟩ = some (.string ⟨#[]⟩) := blk_cell H2.out.res 1
      have z1 : w2.frozen? ⟨w.heap.size, 1, none⟩ = false := blk_frozen H2.out.res 1
      have q2 : w2.cell? ⟨w.heap.size, 2, none⟩ = some (.slice none 0 0) := blk_cell H2.out.res 2
      have z2 : w2.frozen? ⟨w.heap.size, 2, none⟩ = false := blk_frozen H2.out.res 2
      go_wp2
      have H3 := Aside0.mk (((H2.out.put 0 (.int .i64 2)).put 1 (.string ⟨#[]⟩)).put 2 (.slice none 0 0))
      refine bodyPost_ret (results_cell_row rfl _ _ w.heap.size 43 #[.int .i64 2, .string ⟨#[]⟩, .slice none 0 0] (0, 0) _ rfl H3.out.res Tryd.underlying43 rfl (by kernel_rfl)) rfl ?_
      exact okPost _ (i + 1) (by omega) HE.out ⟨_, rfl, Kd.R_nil _ _ _ _ _⟩ H3.out.rd H3.out.keep
    · have d42 : ((c.toNat : Int) == 42) = false := beq_eq_false_iff_ne.2 (fun e => h42 ((eq_byte c 42).1 e))
      by_cases h63 : c = 63
      · have HE := Aside0.mk (show pieceR (s.data.toList.drop i) = .ok ⟨3, [], []⟩ (s.data.toList.drop (i + 1)) by rw [HD.out]; unfold pieceR; dsimp only; rw [if_neg h42, if_pos h63])
        have d63 : ((c.toNat : Int) == 63) = true := by rw [h63]; rfl
        have f1 : (w.alloc (.cells zeroG 43)).frozen? ⟨g, 1, none⟩ = false := blk_frozen HP.out.rd 1
        have c1 : (w.alloc (.cells zeroG 43)).cell? ⟨g, 1, none⟩ = some (.int .i64 (i : Int)) := blk_cell HP.out.rd 1
        clear h63
        go_enter Tryd.func61, Tryd.ntmps61
        go_upto_region 7 with (first | (go_at_call 86; (with_reducible refine Calls.mono (rd_now (by first | exact HP.out.rd | exact (HP.out.drewN _).rd) hb) ?_); rintro e w' ⟨rfl, ⟨nd, rfl⟩⟩))
        generalize hW : World.drewN _ _ = wq
        have HQ := Aside0.mk (show PcAt w wq g w.heap.size s i zeroG by rw [← hW]; exact HP.out.drewN _)
        clear hW
        generalize hV : World.setCell wq _ _ = w2
        have H2 := Aside0.mk (show PcAt w w2 g w.heap.size s (i + 1) zeroG by rw [← hV]; exact HQ.out.set (i + 1))
        clear hV HQ f1 c1
        clear d63
        have q0 : w2.cell? ⟨w.heap.size, 0, none⟩ = some (.int .i64 0) := blk_cell H2.out.res 0
        have z0 : w2.frozen? ⟨w.heap.size, 0, none⟩ = false := blk_frozen H2.out.res 0
        have q1 : w2.cell? ⟨w.heap.size, 1, none⟩ = some (.string ⟨#[]⟩) := blk_cell H2.out.res 1
        have z1 : w2.frozen? ⟨w.heap.size, 1, none⟩ = false := blk_frozen H2.out.res 1
        have q2 : w2.cell? ⟨w.heap.size, 2, none⟩ = some (.slice none 0 0) := blk_cell H2.out.res 2
        have z2 : w2.frozen? ⟨w.heap.size, 2, none⟩ = false := blk_frozen H2.out.res 2
        go_wp2
        have H3 := Aside0.mk (((H2.out.put 0 (.int .i64 3)).put 1 (.string ⟨#[]⟩)).put 2 (.slice none 0 0))
        refine bodyPost_ret (results_cell_row rfl _ _ w.heap.size 43 #[.int .i64 3, .string ⟨#[]⟩, .slice none 0 0] (0, 0) _ rfl H3.out.res Tryd.underlying43 rfl (by kernel_rfl)) rfl ?_
        exact okPost _ (i + 1) (by omega) HE.out ⟨_, rfl, Kd.R_nil _ _ _ _ _⟩ H3.out.rd H3.out.keep
      · have d63 : ((c.toNat : Int) == 63) = false := beq_eq_false_iff_ne.2 (fun e => h63 ((eq_byte c 63).1 e))
        by_cases h91 : c = 91
        · have d91 : ((c.toNat : Int) == 91) = true := by rw [h91]; rfl
          have f1 : (w.alloc (.cells zeroG 43)).frozen? ⟨g, 1, none⟩ = false := blk_frozen HP.out.rd 1
          have c1 : (w.alloc (.cells zeroG 43)).cell? ⟨g, 1, none⟩ = some (.int .i64 (i : Int)) := blk_cell HP.out.rd 1
          cases hR : classR true [] (s.data.toList.drop (i + 1)) with
          | err r er =>
            have HE := Aside0.mk (show pieceR (s.data.toList.drop i) = .err r er by rw [HD.out]; unfold pieceR; dsimp only; rw [if_neg h42, if_neg h63, if_pos h91]; rw [hR])
            have HR := Aside0.mk hR
            clear h91 hR
            go_enter Tryd.func61, Tryd.ntmps61
            go_upto_region 10 with (first | (go_at_call 86; (with_reducible refine Calls.mono (rd_now (by first | exact HP.out.rd | exact (HP.out.drewN _).rd) hb) ?_); rintro e w' ⟨rfl, ⟨nd, rfl⟩⟩))
            generalize hW : World.drewN _ _ = wq
            have HQ := Aside0.mk (show PcAt w wq g w.heap.size s i zeroG by rw [← hW]; exact HP.out.drewN _)
            clear hW
            generalize hV : World.setCell wq _ _ = w2
            have H2 := Aside0.mk (show PcAt w w2 g w.heap.size s (i + 1) zeroG by rw [← hV]; exact HQ.out.set (i + 1))
            clear hV HQ f1 c1
            clear d91
            have q0 : w2.cell? ⟨w.heap.size, 0, none⟩ = some (.int .i64 0) := blk_cell H2.out.res 0
            have z0 : w2.frozen? ⟨w.heap.size, 0, none⟩ = false := blk_frozen H2.out.res 0
            have q1 : w2.cell? ⟨w.heap.size, 1, none⟩ = some (.string ⟨#[]⟩) := blk_cell H2.out.res 1
            have z1 : w2.frozen? ⟨w.heap.size, 1, none⟩ = false := blk_frozen H2.out.res 1
            have q2 : w2.cell? ⟨w.heap.size, 2, none⟩ = some (.slice none 0 0) := blk_cell H2.out.res 2
            have z2 : w2.frozen? ⟨w.heap.size, 2, none⟩ = false := blk_frozen H2.out.res 2
            have hold := H2.out.old
            go_wp2_with (go_at_call 87; (with_reducible refine (rd_class H2.out.rd (by omega) hs).mono ?_); rintro e w3 hp; obtain ⟨j, rfl, hj, rfl, hk⟩ := hp.err HR.out; unfold thrown)
            exact ⟨rfl, thrownPost _ j hj (H2.out.keep.trans hk (fun _ _ h => h) (fun _ _ h => h)) HE.out⟩
          | ok a r =>
            have HE := Aside0.mk (show pieceR (s.data.toList.drop i) = .ok ⟨4, coverB a, []⟩ r by rw [HD.out]; unfold pieceR; dsimp only; rw [if_neg h42, if_neg h63, if_pos h91]; rw [hR])
            have HR := Aside0.mk hR
            clear h91 hR
            go_enter Tryd.func61, Tryd.ntmps61
            go_upto_region 10 with (first | (go_at_call 86; (with_reducible refine Calls.mono (rd_now (by first | exact HP.out.rd | exact (HP.out.drewN _).rd) hb) ?_); rintro e w' ⟨rfl, ⟨nd, rfl⟩⟩))
            generalize hW : World.drewN _ _ = wq
            have HQ := Aside0.mk (show PcAt w wq g w.heap.size s i zeroG by rw [← hW]; exact HP.out.drewN _)
            clear hW
            generalize hV : World.setCell wq _ _ = w2
            have H2 := Aside0.mk (show PcAt w w2 g w.heap.size s (i + 1) zeroG by rw [← hV]; exact HQ.out.set (i + 1))
            clear hV HQ f1 c1
            clear d91
            have q0 : w2.cell? ⟨w.heap.size, 0, none⟩ = some (.int .i64 0) := blk_cell H2.out.res 0
            have z0 : w2.frozen? ⟨w.heap.size, 0, none⟩ = false := blk_frozen H2.out.res 0
            have q1 : w2.cell? ⟨w.heap.size, 1, none⟩ = some (.string ⟨#[]⟩) := blk_cell H2.out.res 1
            have z1 : w2.frozen? ⟨w.heap.size, 1, none⟩ = false := blk_frozen H2.out.res 1
            have q2 : w2.cell? ⟨w.heap.size, 2, none⟩ = some (.slice none 0 0) := blk_cell H2.out.res 2
            have z2 : w2.frozen? ⟨w.heap.size, 2, none⟩ = false := blk_frozen H2.out.res 2
            clear q0 q1 q2 z0 z1 z2
            go_wp2_with (go_at_call 87; (with_reducible refine (rd_class H2.out.rd (by omega) hs).mono ?_); rintro e w3 hp; obtain ⟨j, v, rfl, hj, rfl, rfl, hrd, hk⟩ := hp.ok HR.out; have H4 := Aside0.mk (H2.out.call hrd hk); clear hrd hk; have q0 : w3.cell? ⟨w.heap.size, 0, none⟩ = some (.int .i64 0) := blk_cell H4.out.res 0; have z0 : w3.frozen? ⟨w.heap.size, 0, none⟩ = false := blk_frozen H4.out.res 0; have q1 : w3.cell? ⟨w.heap.size, 1, none⟩ = some (.string ⟨#[]⟩) := blk_cell H4.out.res 1; have z1 : w3.frozen? ⟨w.heap.size, 1, none⟩ = false := blk_frozen H4.out.res 1; have q2 : w3.cell? ⟨w.heap.size, 2, none⟩ = some (.slice none 0 0) := blk_cell H4.out.res 2; have z2 : w3.frozen? ⟨w.heap.size, 2, none⟩ = false := blk_frozen H4.out.res 2)
            have H3 := Aside0.mk (((H4.out.put 0 (.int .i64 4)).put 1 (.string (strB (coverB a)))).put 2 (.slice none 0 0))
            refine bodyPost_ret (results_cell_row rfl _ _ w.heap.size 43 #[.int .i64 4, .string (strB (coverB a)), .slice none 0 0] (0, 0) _ rfl H3.out.res Tryd.underlying43 rfl (by kernel_rfl)) rfl ?_
            exact okPost _ j (by omega) HE.out ⟨_, rfl, Kd.R_nil _ _ _ _ _⟩ H3.out.rd H3.out.keep
        · have d91 : ((c.toNat : Int) == 91) = false := beq_eq_false_iff_ne.2 (fun e => h91 ((eq_byte c 91).1 e))
          by_cases h123 : c = 123
          · have d123 : ((c.toNat : Int) == 123) = true := by rw [h123]; rfl
            have f1 : (w.alloc (.cells zeroG 43)).frozen? ⟨g, 1, none⟩ = false := blk_frozen HP.out.rd 1
            have c1 : (w.alloc (.cells zeroG 43)).cell? ⟨g, 1, none⟩ = some (.int .i64 (i : Int)) := blk_cell HP.out.rd 1
            cases hR : choiceAt s (i + 1) with
            | err r er =>
              have HE := Aside0.mk (show pieceR (s.data.toList.drop i) = .err r er by rw [HD.out]; unfold pieceR; dsimp only; rw [if_neg h42, if_neg h63, if_neg h91, if_pos h123]; unfold choiceAt at hR; rw [hR])
              have HR := Aside0.mk hR
              clear h123 hR
              go_enter Tryd.func61, Tryd.ntmps61
              go_upto_region 13 with (first | (go_at_call 86; (with_reducible refine Calls.mono (rd_now (by first | exact HP.out.rd | exact (HP.out.drewN _).rd) hb) ?_); rintro e w' ⟨rfl, ⟨nd, rfl⟩⟩))
              generalize hW : World.drewN _ _ = wq
              have HQ := Aside0.mk (show PcAt w wq g w.heap.size s i zeroG by rw [← hW]; exact HP.out.drewN _)
              clear hW
              generalize hV : World.setCell wq _ _ = w2
              have H2 := Aside0.mk (show PcAt w w2 g w.heap.size s (i + 1) zeroG by rw [← hV]; exact HQ.out.set (i + 1))
              clear hV HQ f1 c1
              clear d123
              have q0 : w2.cell? ⟨w.heap.size, 0, none⟩ = some (.int .i64 0) := blk_cell H2.out.res 0
              have z0 : w2.frozen? ⟨w.heap.size, 0, none⟩ = false := blk_frozen H2.out.res 0
              have q1 : w2.cell? ⟨w.heap.size, 1, none⟩ = some (.string ⟨#[]⟩) := blk_cell H2.out.res 1
              have z1 : w2.frozen? ⟨w.heap.size, 1, none⟩ = false := blk_frozen H2.out.res 1
              have q2 : w2.cell? ⟨w.heap.size, 2, none⟩ = some (.slice none 0 0) := blk_cell H2.out.res 2
              have z2 : w2.frozen? ⟨w.heap.size, 2, none⟩ = false := blk_frozen H2.out.res 2
              have hold := H2.out.old
              go_wp2_with (go_at_call 88; (with_reducible refine (rd_choice H2.out.rd (by omega) hs).mono ?_); rintro e w3 hp; obtain ⟨j, rfl, hj, rfl, hk⟩ := hp.err HR.out; unfold thrown)
              exact ⟨rfl, thrownPost _ j hj (H2.out.keep.trans hk (fun _ _ h => h) (fun _ _ h => h)) HE.out⟩
            | ok a r =>
              have HE := Aside0.mk (show pieceR (s.data.toList.drop i) = .ok ⟨5, [], a⟩ r by rw [HD.out]; unfold pieceR; dsimp only; rw [if_neg h42, if_neg h63, if_neg h91, if_pos h123]; unfold choiceAt at hR; rw [hR])
              have HR := Aside0.mk hR
              clear h123 hR
              go_enter Tryd.func61, Tryd.ntmps61
              go_upto_region 13 with (first | (go_at_call 86; (with_reducible refine Calls.mono (rd_now (by first | exact HP.out.rd | exact (HP.out.drewN _).rd) hb) ?_); rintro e w' ⟨rfl, ⟨nd, rfl⟩⟩))
              generalize hW : World.drewN _ _ = wq
              have HQ := Aside0.mk (show PcAt w wq g w.heap.size s i zeroG by rw [← hW]; exact HP.out.drewN _)
              clear hW
              generalize hV : World.setCell wq _ _ = w2
              have H2 := Aside0.mk (show PcAt w w2 g w.heap.size s (i + 1) zeroG by rw [← hV]; exact HQ.out.set (i + 1))
              clear hV HQ f1 c1
              clear d123
              have q0 : w2.cell? ⟨w.heap.size, 0, none⟩ = some (.int .i64 0) := blk_cell H2.out.res 0
              have z0 : w2.frozen? ⟨w.heap.size, 0, none⟩ = false := blk_frozen H2.out.res 0
              have q1 : w2.cell? ⟨w.heap.size, 1, none⟩ = some (.string ⟨#[]⟩) := blk_cell H2.out.res 1
              have z1 : w2.frozen? ⟨w.heap.size, 1, none⟩ = false := blk_frozen H2.out.res 1
              have q2 : w2.cell? ⟨w.heap.size, 2, none⟩ = some (.slice none 0 0) := blk_cell H2.out.res 2
              have z2 : w2.frozen? ⟨w.heap.size, 2, none⟩ = false := blk_frozen H2.out.res 2
              clear q0 q1 q2 z0 z1 z2
              go_wp2_with (go_at_call 88; (with_reducible refine (rd_choice H2.out.rd (by omega) hs).mono ?_); rintro e w3 hp; obtain ⟨j, v, rfl, hj, rfl, hv, hrd, hk⟩ := hp.ok HR.out; have H4 := Aside0.mk (H2.out.call hrd hk); have HV := Aside0.mk (hv.lower H2.out.keep.size); obtain ⟨A5, c5, ev5⟩ := Kd.R_slice hv; subst ev5; clear hv hrd hk; generalize hn5 : (List.map strB a).length = n5 at HV; clear hn5; have q0 : w3.cell? ⟨w.heap.size, 0, none⟩ = some (.int .i64 0) := blk_cell H4.out.res 0; have z0 : w3.frozen? ⟨w.heap.size, 0, none⟩ = false := blk_frozen H4.out.res 0; have q1 : w3.cell? ⟨w.heap.size, 1, none⟩ = some (.string ⟨#[]⟩) := blk_cell H4.out.res 1; have z1 : w3.frozen? ⟨w.heap.size, 1, none⟩ = false := blk_frozen H4.out.res 1; have q2 : w3.cell? ⟨w.heap.size, 2, none⟩ = some (.slice none 0 0) := blk_cell H4.out.res 2; have z2 : w3.frozen? ⟨w.heap.size, 2, none⟩ = false := blk_frozen H4.out.res 2)
              have H3 := Aside0.mk (((H4.out.put 0 (.int .i64 5)).put 1 (.string ⟨#[]⟩)).put 2 (.slice A5 n5 c5))
              refine bodyPost_ret (results_cell_row rfl _ _ w.heap.size 43 #[.int .i64 5, .string ⟨#[]⟩, .slice A5 n5 c5] (0, 0) _ rfl H3.out.res Tryd.underlying43 rfl (by kernel_rfl)) rfl ?_
              exact okPost _ j (by omega) HE.out ⟨_, rfl, HV.out.putG H4.out.res⟩ H3.out.rd H3.out.keep
          · have d123 : ((c.toNat : Int) == 123) = false := beq_eq_false_iff_ne.2 (fun e => h123 ((eq_byte c 123).1 e))
            cases hn : nb c with
            | true =>
              have HE := Aside0.mk (show pieceR (s.data.toList.drop i) = .ok ⟨1, runB s i, []⟩ (s.data.toList.drop (i + (runB s i).length)) by
                rw [← dropWhile_run]
                unfold runB
                rw [HD.out]; unfold pieceR; dsimp only; rw [if_neg h42, if_neg h63, if_neg h91, if_neg h123, if_pos hn])
              have HN := Aside0.mk hn
              have hrl := runB_le s i hi
              clear hn h42 h63 h91 h123
              go_enter Tryd.func61, Tryd.ntmps61
              go_upto_region 15 with (first
                | (go_at_call 86; (with_reducible refine Calls.mono (rd_now (by first | exact HP.out.rd | exact (HP.out.drewN _).rd) hb) ?_); rintro e w' ⟨rfl, ⟨nd, rfl⟩⟩)
                | (go_at_call 53; (with_reducible refine Calls.mono (namely_is HN.out _) ?_); rintro e w' ⟨rfl, ⟨nd2, rfl⟩⟩))
              generalize hW : World.drewN _ _ = wq
              have HQ := Aside0.mk (show PcAt w wq g w.heap.size s i zeroG by rw [← hW]; exact HP.out.drewN _)
              clear hW d42 d63 d91 d123
              go_wp2_with (go_at_call 89; (with_reducible refine (rd_text HQ.out.rd (by omega) hs).mono ?_); rintro e w3 ⟨rfl, hrd, hk⟩; have H4 := Aside0.mk (HQ.out.call hrd hk); clear hrd hk; have q0 : w3.cell? ⟨w.heap.size, 0, none⟩ = some (.int .i64 0) := blk_cell H4.out.res 0; have z0 : w3.frozen? ⟨w.heap.size, 0, none⟩ = false := blk_frozen H4.out.res 0; have q1 : w3.cell? ⟨w.heap.size, 1, none⟩ = some (.string ⟨#[]⟩) := blk_cell H4.out.res 1; have z1 : w3.frozen? ⟨w.heap.size, 1, none⟩ = false := blk_frozen H4.out.res 1; have q2 : w3.cell? ⟨w.heap.size, 2, none⟩ = some (.slice none 0 0) := blk_cell H4.out.res 2; have z2 : w3.frozen? ⟨w.heap.size, 2, none⟩ = false := blk_frozen H4.out.res 2)
              have H3 := Aside0.mk (((H4.out.put 0 (.int .i64 1)).put 1 (.string (strB (runB s i)))).put 2 (.slice none 0 0))
              refine bodyPost_ret (results_cell_row rfl _ _ w.heap.size 43 #[.int .i64 1, .string (strB (runB s i)), .slice none 0 0] (0, 0) _ rfl H3.out.res Tryd.underlying43 rfl (by kernel_rfl)) rfl ?_
              exact okPost _ (i + (runB s i).length) (by omega) HE.out ⟨_, rfl, Kd.R_nil _ _ _ _ _⟩ H3.out.rd H3.out.keep
            | false =>
              have HE := Aside0.mk (show pieceR (s.data.toList.drop i) = .err (s.data.toList.drop i) 31 by rw [HD.out]; unfold pieceR; dsimp only; rw [if_neg h42, if_neg h63, if_neg h91, if_neg h123, if_neg (by rw [hn]; decide)])
              have HN := Aside0.mk hn
              clear hn h42 h63 h91 h123
              go_enter Tryd.func61, Tryd.ntmps61
              go_wp2_with (first
                | (go_at_call 86; (with_reducible refine Calls.mono (rd_now (by first | exact HP.out.rd | exact (HP.out.drewN _).rd) hb) ?_); rintro e w' ⟨rfl, ⟨nd, rfl⟩⟩)
                | (go_at_call 53; (with_reducible refine Calls.mono (namely_is HN.out _) ?_); rintro e w' ⟨rfl, ⟨nd2, rfl⟩⟩)
                | (go_at_call 62; (with_reducible refine Calls.mono (rd_stop (by first | exact HP.out.rd | exact (HP.out.drewN _).rd) 31) ?_); rintro e w' ⟨rfl, rfl⟩; unfold thrown))
              exact ⟨rfl, thrownPost _ i (by omega) (by first | exact HP.out.keep | exact (HP.out.drewN _).keep) (by exact HE.out)⟩
end Go.Proofs.YtecfmmalbehcnaaDoor.Q

/- What is thrown while a pattern is read: the deferred closure's two contracts. -/
namespace Go.Proofs.YtecfmmalbehcnaaDoor.Q
open Go.Shelf Go.RowKit Go.Proofs Go.Proofs.YtecfmmalbehcnaaDoorW.PrintWords Go.Proofs.YtecfmmalbehcnaaDoorW.PrintLast Go.Proofs.YtecfmmalbehcnaaDoorW.PrintMore Go.Proofs.YtecfmmalbehcnaaDoorV
set_option linter.unusedVariables false
set_option linter.unusedSimpArgs false

theorem catch_tmps (a b c x : Value) : #[a, b, c] ++ ((Array.replicate 19 undef).setIfInBounds 3 x).setIfInBounds 0 x = #[a, b, c, x, undef, undef, x, undef, undef, undef, undef, undef, undef, undef, undef, undef, undef, undef, undef, undef, undef, undef] := by kernel_rfl
theorem catch_idle (a b c : Value) (w : World) :
    CallsD Tryd.prog 60 #[a, b, c] .returning w fun e u' w' => e = .returned (.tuple #[]) ∧ u' = .returning ∧ w' = w := by
  refine callsD_of_wpS Tryd.func60 rfl fun c₀ cs hu => ?_
  apply wpS_seq
  apply wpS_region
  simp [wpOpsS, go_sem, recoverD, hu, Tryd.ntmps60, Exit.thenS]
  rw [catch_tmps]
  refine wpS_of_wp ?_
  have HE : ∀ a', a'.defers = [] → (fun e a' w' => bodyPostS Tryd.prog Tryd.f60 c₀ cs (fun e u' w' => e = Ending.returned (Value.tuple #[]) ∧ u' = FrameMode.returning ∧ w' = w) e a' (c₀ :: cs) w') Exit.normal a' w := by
    intro a' hd
    cases c₀
    simp_all [bodyPostS, results, Tryd.results60]
  generalize (fun e a' w' => bodyPostS Tryd.prog Tryd.f60 c₀ cs (fun e u' w' => e = Ending.returned (Value.tuple #[]) ∧ u' = FrameMode.returning ∧ w' = w) e a' (c₀ :: cs) w') = Q' at HE ⊢
  have H := Aside0.mk HE
  clear HE
  go_wp2
  exact H.out _ rfl
theorem catch_cells {g2 g3 g4 : Nat} {at_ : Nat} {er : Int} {v2 v3 v4 : Value} {w : World} (h2 : w.heap[g2]? = some (.cells #[v2] 24 (0, 0))) (h3 : w.heap[g3]? = some (.cells #[v3] 3 (0, 0))) (h4 : w.heap[g4]? = some (.cells #[v4] 25 (0, 0)))
    (hd : g2 ≠ g3 ∧ g2 ≠ g4 ∧ g3 ≠ g4) {W : World} (hW : W = ((w.setCell ⟨g2, 0, none⟩ (.slice none 0 0)).setCell ⟨g3, 0, none⟩ (.int .i64 (at_ : Int))).setCell ⟨g4, 0, none⟩ (.int .i64 er)) :
    W.heap[g2]? = some (.cells #[.slice none 0 0] 24 (0, 0)) ∧ W.heap[g3]? = some (.cells #[.int .i64 (at_ : Int)] 3 (0, 0)) ∧ W.heap[g4]? = some (.cells #[.int .i64 er] 25 (0, 0)) ∧ Keep w W (fun k => k = g2 ∨ k = g3 ∨ k = g4) := by
  subst hW
  refine ⟨?_, ?_, ?_, ?_⟩
  · exact (Below.heap_setCell _ _ _ _ (fun e => hd.2.1 e)).trans ((Below.heap_setCell _ _ _ _ (fun e => hd.1 e)).trans (blk_put h2 0 _ rfl))
  · exact (Below.heap_setCell _ _ _ _ (fun e => hd.2.2 e)).trans (blk_put ((Below.heap_setCell _ _ _ _ (fun e => hd.1 e.symm)).trans h3) 0 _ rfl)
  · exact blk_put ((Below.heap_setCell _ _ _ _ (fun e => hd.2.2 e.symm)).trans ((Below.heap_setCell _ _ _ _ (fun e => hd.2.1 e.symm)).trans h4)) 0 _ rfl
  · exact (((Keep.refl w _).set _ _ (.inl (.inl rfl))).set _ _ (.inl (.inr (.inl rfl)))).set _ _ (.inl (.inr (.inr rfl)))
set_option maxRecDepth 100000 in
set_option maxHeartbeats 1000000 in
theorem catch_panicking (g2 g3 g4 : Nat) (at_ : Nat) (er : Int) (v2 v3 v4 : Value) (older : List PanicEntry) (w : World) (h2 : w.heap[g2]? = some (.cells #[v2] 24 (0, 0))) (h3 : w.heap[g3]? = some (.cells #[v3] 3 (0, 0))) (h4 : w.heap[g4]? = some (.cells #[v4] 25 (0, 0)))
    (hd : g2 ≠ g3 ∧ g2 ≠ g4 ∧ g3 ≠ g4) :
    CallsD Tryd.prog 60 #[.pointer (some ⟨g2, 0, none⟩), .pointer (some ⟨g3, 0, none⟩), .pointer (some ⟨g4, 0, none⟩)] (.panicking ({ v := .iface 79 (faultV at_ er), recovered := false } :: older)) w fun e u' w' =>
      e = .returned (.tuple #[]) ∧ u' = .panicking ({ v := .iface 79 (faultV at_ er), recovered := true } :: older) ∧
      w'.heap[g2]? = some (.cells #[.slice none 0 0] 24 (0, 0)) ∧ w'.heap[g3]? = some (.cells #[.int .i64 (at_ : Int)] 3 (0, 0)) ∧ w'.heap[g4]? = some (.cells #[.int .i64 er] 25 (0, 0)) ∧ Keep w w' (fun k => k = g2 ∨ k = g3 ∨ k = g4) := by
  refine callsD_of_wpS Tryd.func60 rfl fun c₀ cs hu => ?_
  apply wpS_seq
  apply wpS_region
  simp [wpOpsS, go_sem, recoverD, hu, Tryd.ntmps60, Exit.thenS]
  rw [catch_tmps]
  refine wpS_of_wp ?_
  obtain ⟨c₁, hc1⟩ : ∃ c₁ : Frame, c₁ = { c₀ with mode := FrameMode.panicking ({ v := Value.iface 79 (faultV at_ er), recovered := true } :: older) } := ⟨_, rfl⟩
  change Code.wp _ _ (fun e a' w' => bodyPostS Tryd.prog Tryd.f60 c₀ cs _ e a' (({ c₀ with mode := FrameMode.panicking ({ v := Value.iface 79 (faultV at_ er), recovered := true } :: older) } : Frame) :: cs) w') _ _
  rw [← hc1]
  have HE : ∀ a' w', a'.defers = [] → w'.heap[g2]? = some (.cells #[.slice none 0 0] 24 (0, 0)) → w'.heap[g3]? = some (.cells #[.int .i64 (at_ : Int)] 3 (0, 0)) → w'.heap[g4]? = some (.cells #[.int .i64 er] 25 (0, 0)) → Keep w w' (fun k => k = g2 ∨ k = g3 ∨ k = g4) → (fun e a' w' => bodyPostS Tryd.prog Tryd.f60 c₀ cs (fun e u' w' => e = .returned (.tuple #[]) ∧ u' = .panicking ({ v := .iface 79 (faultV at_ er), recovered := true } :: older) ∧
      w'.heap[g2]? = some (.cells #[.slice none 0 0] 24 (0, 0)) ∧ w'.heap[g3]? = some (.cells #[.int .i64 (at_ : Int)] 3 (0, 0)) ∧ w'.heap[g4]? = some (.cells #[.int .i64 er] 25 (0, 0)) ∧ Keep w w' (fun k => k = g2 ∨ k = g3 ∨ k = g4)) e a' (c₁ :: cs) w') Exit.normal a' w' := by
    intro a' w' hd h2 h3 h4 hk
    subst hc1
    exact ⟨hd, _, rfl, _, by simp [results, Tryd.results60], rfl, rfl, h2, h3, h4, hk⟩
  generalize (fun e a' w' => bodyPostS Tryd.prog Tryd.f60 c₀ cs (fun e u' w' => e = .returned (.tuple #[]) ∧ u' = .panicking ({ v := .iface 79 (faultV at_ er), recovered := true } :: older) ∧
      w'.heap[g2]? = some (.cells #[.slice none 0 0] 24 (0, 0)) ∧ w'.heap[g3]? = some (.cells #[.int .i64 (at_ : Int)] 3 (0, 0)) ∧ w'.heap[g4]? = some (.cells #[.int .i64 er] 25 (0, 0)) ∧ Keep w w' (fun k => k = g2 ∨ k = g3 ∨ k = g4)) e a' (c₁ :: cs) w') = Q' at HE ⊢
  have H := Aside0.mk HE
  unfold faultV
  have c2 : w.cell? ⟨g2, 0, none⟩ = some v2 := blk_cell h2 0
  have c3 : w.cell? ⟨g3, 0, none⟩ = some v3 := blk_cell h3 0
  have c4 : w.cell? ⟨g4, 0, none⟩ = some v4 := blk_cell h4 0
  have z2 : w.frozen? ⟨g2, 0, none⟩ = false := blk_frozen h2 0
  have z3 : w.frozen? ⟨g3, 0, none⟩ = false := blk_frozen h3 0
  have z4 : w.frozen? ⟨g4, 0, none⟩ = false := blk_frozen h4 0
  have b3 : (w.setCell ⟨g2, 0, none⟩ (.slice none 0 0)).heap[g3]? = some (.cells #[v3] 3 (0, 0)) := (Below.heap_setCell _ _ _ _ (fun e => hd.1 e.symm)).trans h3
  have b4 : ((w.setCell ⟨g2, 0, none⟩ (.slice none 0 0)).setCell ⟨g3, 0, none⟩ (.int .i64 (at_ : Int))).heap[g4]? = some (.cells #[v4] 25 (0, 0)) := (Below.heap_setCell _ _ _ _ (fun e => hd.2.2 e.symm)).trans ((Below.heap_setCell _ _ _ _ (fun e => hd.2.1 e.symm)).trans h4)
  have HA := Aside0.mk (catch_cells h2 h3 h4 hd (er := er) (at_ := at_) rfl)
  have c3' := blk_cell b3 0
  have c4' := blk_cell b4 0
  have z3' := blk_frozen b3 0
  have z4' := blk_frozen b4 0
  simp only [List.getElem?_toArray, List.getElem?_cons_zero] at c3' c4'
  clear b3 b4
  have l2 := blk_lt h2
  have l3 := blk_lt h3
  have l4 := blk_lt h4
  have H2 := Aside0.mk h2
  have H3 := Aside0.mk h3
  have H4 := Aside0.mk h4
  have HD := Aside0.mk hd
  clear HE hc1 hu h2 h3 h4 hd
  have hta : ∀ W : World, (Instr.typeAssert (.iface 79 (.agg #[.int .i64 (at_ : Int), .int .i64 er])) 20 79 true).run Tryd.prog W = .ok (.tuple #[.agg #[.int .i64 (at_ : Int), .int .i64 er], .bool true]) W := fun _ => by kernel_rfl
  go_wp2
  go_region
  all_goals (go_wp2; exact H.out _ _ rfl (blk_alloc HA.out.1 _) (blk_alloc HA.out.2.1 _) (blk_alloc HA.out.2.2.1 _) (HA.out.2.2.2.alloc _).drew)
end Go.Proofs.YtecfmmalbehcnaaDoor.Q

/- A pattern as a value: its kinds; what a reading pattern's memory is good for. -/
namespace Go.Proofs.YtecfmmalbehcnaaDoor.Q
open Go.Shelf Go.RowKit Go.Proofs Go.Proofs.YtecfmmalbehcnaaDoorW.PrintWords Go.Proofs.YtecfmmalbehcnaaDoorW.PrintLast Go.Proofs.YtecfmmalbehcnaaDoorW.PrintMore Go.Proofs.YtecfmmalbehcnaaDoorV
set_option linter.unusedVariables false
set_option linter.unusedSimpArgs false

def kGl : Kd Gl := Kd.iso (Kd.pair (Kd.int .i64) (Kd.pair Kd.string (Kd.slice 9 Kd.string))) (fun x : Gl => (x.kind, strB x.text, x.alts.map strB))
def kNode : Kd (List Gl) := Kd.slice 43 kGl
theorem kGl_mkM (w : World) (base : Nat) (ok : Nat → Prop) (x : Gl) {v2 : Value} (g2 : Kd.string.R 9 w base ok v2 (x.alts.map strB)) : kGl.M w base ok x [.int .i64 x.kind, .string (strB x.text), v2] :=
  ⟨[.int .i64 x.kind], [.string (strB x.text), v2], rfl, rfl, ⟨[.string (strB x.text)], [v2], rfl, rfl, ⟨v2, rfl, g2⟩⟩⟩
theorem kGl_openM {w : World} {base : Nat} {ok : Nat → Prop} {x : Gl} {cs : List Value} (h : kGl.M w base ok x cs) : ∃ v2, cs = [.int .i64 x.kind, .string (strB x.text), v2] ∧ Kd.string.R 9 w base ok v2 (x.alts.map strB) := by
  obtain ⟨_, _, rfl, rfl, ⟨_, _, rfl, rfl, ⟨v2, rfl, g2⟩⟩⟩ := h
  exact ⟨v2, rfl, g2⟩
theorem kGl_open {w : World} {x : Gl} {cs : List Value} (h : kGl.K w x cs) : ∃ A2 c2, cs = [.int .i64 x.kind, .string (strB x.text), .slice A2 (x.alts.map strB).length c2] ∧ (x.alts.map strB).length ≤ c2 ∧ Kd.string.C w A2 (x.alts.map strB).length (x.alts.map strB) := by
  obtain ⟨_, _, rfl, rfl, ⟨_, _, rfl, rfl, ⟨A2, c2, rfl, l2, g2⟩⟩⟩ := h
  exact ⟨A2, c2, rfl, l2, g2⟩
theorem R_one {α : Type} (d : Kd α) {W : World} {base : Nat} {x : α} {cs : List Value} {e : Nat} {ok : Nat → Prop} (hp : d.M W base ok x cs) (hb : base ≤ W.heap.size) (hok : ok W.heap.size) :
    d.R e (W.alloc (.cells cs.toArray e)) base ok (.slice (some ⟨W.heap.size, 0, none⟩) 1 1) [x] := by
  refine ⟨fun k hk => ?_, ?_⟩
  · have : W.heap.size = k := by simpa [Value.ownBlock] using hk
    rw [← this]
    exact hok
  · have hm := d.M_bound hp
    have h2 : d.M (W.alloc (.cells cs.toArray e)) base (fun k => ok k ∧ some k ≠ (Value.slice (some ⟨W.heap.size, 0, none⟩) 1 1).ownBlock) x cs := by
      refine d.M_mono (fun k hk => ?_) (d.M_move (w1 := W.alloc (.cells cs.toArray e)) (fun k hk => ?_) hm)
      · refine ⟨hk.1, fun he => ?_⟩
        have : k = W.heap.size := by simpa [Value.ownBlock] using he
        have := hk.2.2.1
        omega
      · exact Below.heap_alloc _ _ _ hk.2.2.1
    have hl := d.K_len (d.K_of_M hp)
    exact OwnRow.lit (ps := [x]) W base (by simpa using Reps.snoc (Reps.none _ _) h2 hl) hb (by simp)
theorem info_glob : (Tryd.prog.info? 43).map (fun i => (i.zero, i.size, i.bytes)) = some (some (.agg #[.int .i64 0, .string ⟨#[]⟩, .slice none 0 0]), 3, 48) := by kernel_rfl
theorem info_node : (Tryd.prog.info? 40).map (fun i => (i.zero, i.size, i.bytes)) = some (some (.slice none 0 0), 1, 24) := by kernel_rfl
/-- The memory of a reading: the three results, the reader, the pattern so far, which lies below X. -/
structure RdS (w W : World) (s : ByteArray) (j X : Nat) (vP : Value) (acc : List (List Gl)) : Prop where
  b2 : W.heap[w.heap.size]? = some (.cells #[vP] 24 (0, 0))
  b3 : W.heap[w.heap.size + 1]? = some (.cells #[.int .i64 0] 3 (0, 0))
  b4 : W.heap[w.heap.size + 1 + 1]? = some (.cells #[.int .i64 0] 25 (0, 0))
  rd : RdAt W (w.heap.size + 1 + 1 + 1) s j
  own : kNode.R 40 W (w.heap.size + 4) (fun k => w.heap.size + 4 ≤ k ∧ k < X) vP acc
  below : Below w.heap.size w W
  lo : w.heap.size + 4 ≤ X
  hi : X ≤ W.heap.size
/-- Whatever turns nothing of this but the reader leaves it. -/
theorem RdS.keep {w W W' : World} {s : ByteArray} {j j' X : Nat} {vP : Value} {acc : List (List Gl)} (h : RdS w W s j X vP acc) {S : Nat → Prop} (hk : Keep W W' S) (hS : ∀ k, S k → k = w.heap.size + 1 + 1 + 1 ∨ X ≤ k) (hr : RdAt W' (w.heap.size + 1 + 1 + 1) s j') : RdS w W' s j' X vP acc := by
  have h1 := h.lo
  have h2 := h.hi
  have hb : ∀ k, k < W.heap.size → k < X → k ≠ w.heap.size + 1 + 1 + 1 → W'.heap[k]? = W.heap[k]? := fun k a b c => hk.block k a (fun q => by rcases hS k q with q | q <;> omega)
  exact ⟨(hb _ (by omega) (by omega) (by omega)).trans h.b2, (hb _ (by omega) (by omega) (by omega)).trans h.b3, (hb _ (by omega) (by omega) (by omega)).trans h.b4, hr,
    Kd.R_step h.own (fun k ho hlt => hb k hlt ho.2 (by omega)), ⟨hk.os.trans h.below.os, hk.tape.trans h.below.tape, hk.output.trans h.below.output, Nat.le_trans h.below.size hk.size, fun k hk' => (hb k (by omega) (by omega) (by omega)).trans (h.below.block k hk')⟩, h.lo, Nat.le_trans h.hi hk.size⟩
theorem RdS.drewN {w W : World} {s : ByteArray} {j X : Nat} {vP : Value} {acc : List (List Gl)} (h : RdS w W s j X vP acc) (n : Nat) : RdS w (W.drewN n) s j X vP acc := h.keep (S := fun _ => False) ((Keep.refl W _).drewN n) (fun k q => q.elim) h.rd
theorem RdS.set {w W : World} {s : ByteArray} {j X : Nat} {vP : Value} {acc : List (List Gl)} (h : RdS w W s j X vP acc) (j' : Nat) : RdS w (W.setCell ⟨w.heap.size + 1 + 1 + 1, 1, none⟩ (.int .i64 (j' : Int))) s j' X vP acc :=
  h.keep ((Keep.refl W (fun k => k = w.heap.size + 1 + 1 + 1)).set _ _ (.inl rfl)) (fun k q => .inl q) (h.rd.set j')
theorem RdS.alloc {w W : World} {s : ByteArray} {j X : Nat} {vP : Value} {acc : List (List Gl)} (h : RdS w W s j X vP acc) (o : Obj) : RdS w (W.alloc o) s j X vP acc :=
  h.keep (S := fun _ => False) ((Keep.refl W _).alloc o) (fun k q => q.elim) (h.rd.below (below_alloc (Below.refl _ _) o))
theorem RdS.grown {w W W' : World} {s : ByteArray} {j X : Nat} {vP : Value} {acc : List (List Gl)} (h : RdS w W s j X vP acc) {row : Option Nat} (hg : W.grownBy W' row) (hr : ∀ k, row = some k → X ≤ k) : RdS w W' s j X vP acc := by
  have hk : Keep W W' (fun k => row = some k) := (Keep.refl W _).grown hg (fun k e => .inl e)
  have h1 := h.lo
  refine h.keep hk (fun k q => .inr (hr k q)) (h.rd.keep hk (fun q => ?_))
  have := hr _ q
  omega
theorem RdS.wider {w W : World} {s : ByteArray} {j X X' : Nat} {vP : Value} {acc : List (List Gl)} (h : RdS w W s j X vP acc) (h1 : X ≤ X') (h2 : X' ≤ W.heap.size) : RdS w W s j X' vP acc :=
  ⟨h.b2, h.b3, h.b4, h.rd, Kd.R_mono h.own (fun k hk => ⟨hk.1, Nat.lt_of_lt_of_le hk.2 h1⟩), h.below, Nat.le_trans h.lo h1, h2⟩
/-- The nodes' row has been stored back. -/
theorem RdS.store {w W W' : World} {s : ByteArray} {j X : Nat} {vP vP' : Value} {acc acc' : List (List Gl)} (h : RdS w W s j X vP acc) (hg : W.grownBy W' vP.ownBlock) (ho : kNode.R 40 W' (w.heap.size + 4) (fun _ => True) vP' acc') :
    RdS w (W'.setCell ⟨w.heap.size, 0, none⟩ vP') s j W'.heap.size vP' acc' := by
  have h1 := h.lo
  have h2 := h.hi
  have hrow : ∀ k, vP.ownBlock = some k → w.heap.size + 4 ≤ k := fun k e => (h.own.1 k e).1
  have hb : ∀ k, k < w.heap.size + 4 → W'.heap[k]? = W.heap[k]? := fun k a => hg.block k (by omega) (fun e => by have := hrow k e.symm; omega)
  have hb2 : ∀ k, k ≠ w.heap.size → (W'.setCell ⟨w.heap.size, 0, none⟩ vP').heap[k]? = W'.heap[k]? := fun k hne => Below.heap_setCell _ _ _ _ hne
  have hsz : W'.heap.size = (W'.setCell ⟨w.heap.size, 0, none⟩ vP').heap.size := by simp [World.setCell]
  have hgs := hg.size
  refine ⟨blk_put ((hb _ (by omega)).trans h.b2) 0 _ rfl, (hb2 _ (by omega)).trans ((hb _ (by omega)).trans h.b3), (hb2 _ (by omega)).trans ((hb _ (by omega)).trans h.b4), ?_, ?_, ?_, by omega, by omega⟩
  · exact (hb2 _ (by omega)).trans ((hb _ (by omega)).trans h.rd)
  · refine Kd.R_mono (Kd.R_step (Kd.R_bound ho) (fun k hk _ => hb2 k (by have := hk.2.1; omega))) (fun k hk => ⟨hk.2.1, hk.2.2.1⟩)
  · exact (h.below.grown hg (by omega) (fun k e => by have := hrow k e; omega)).setCell (Nat.le_refl _) _
/-- At the start. -/
theorem RdS.start (w : World) (s : ByteArray) : RdS w ((((w.alloc (.cells #[.slice none 0 0] 24)).alloc (.cells #[.int .i64 0] 3)).alloc (.cells #[.int .i64 0] 25)).alloc (.cells #[.string s, .int .i64 0] 77)) s 0 (w.heap.size + 4) (.slice none 0 0) [] := by
  have a2 : (w.alloc (.cells #[.slice none 0 0] 24)).heap[w.heap.size]? = _ := heap_alloc_new w _
  have a3 := heap_alloc_new (w.alloc (.cells #[.slice none 0 0] 24)) (.cells #[.int .i64 0] 3 (0, 0))
  have a4 := heap_alloc_new ((w.alloc (.cells #[.slice none 0 0] 24)).alloc (.cells #[.int .i64 0] 3)) (.cells #[.int .i64 0] 25 (0, 0))
  have a5 := heap_alloc_new (((w.alloc (.cells #[.slice none 0 0] 24)).alloc (.cells #[.int .i64 0] 3)).alloc (.cells #[.int .i64 0] 25)) (.cells #[.string s, .int .i64 0] 77 (0, 0))
  refine ⟨blk_alloc (blk_alloc (blk_alloc a2 _) _) _, blk_alloc (blk_alloc ?_ _) _, blk_alloc ?_ _, ?_, Kd.R_nil _ _ _ _ _, ?_, Nat.le_refl _, ?_⟩
  · simpa using a3
  · simpa using a4
  · unfold RdAt; simpa using a5
  · exact below_alloc (below_alloc (below_alloc (below_alloc (Below.refl _ _) _) _) _) _
  · simp
end Go.Proofs.YtecfmmalbehcnaaDoor.Q

/- name.read: a pattern of a text of any length. -/
namespace Go.Proofs.YtecfmmalbehcnaaDoor.Q
open Go.Shelf Go.RowKit Go.Proofs Go.Proofs.YtecfmmalbehcnaaDoorW.PrintWords Go.Proofs.YtecfmmalbehcnaaDoorW.PrintLast Go.Proofs.YtecfmmalbehcnaaDoorW.PrintMore Go.Proofs.YtecfmmalbehcnaaDoorV
set_option linter.unusedVariables false
set_option linter.unusedSimpArgs false

/-- A node is read on behind a piece. -/
def contN (acc : List Gl) (l : List UInt8) : Res (List Gl) :=
  match l with
  | [] => .ok acc []
  | c :: u => if c = 46 then .ok acc (c :: u) else nodeR acc (c :: u)
theorem node_ok1 {acc : List Gl} {l r : List UInt8} {g : Gl} (h : pieceR l = .ok g r) : nodeR acc l = contN (acc ++ [g]) r := by
  cases r with
  | nil => exact nodeR_end h
  | cons c u => exact nodeR_more h
/-- What is handed back. -/
def ReadPost (w : World) (s : ByteArray) (e : Ending) (w' : World) : Prop :=
  ∃ v, e = .returned (.tuple #[.agg #[v], .int .i64 (compileP s.data.toList).2.1, .int .i64 (compileP s.data.toList).2.2]) ∧ kNode.R 40 w' w.heap.size (fun _ => True) v (compileP s.data.toList).1 ∧ Below w.heap.size w w'
theorem compile_bad {s : ByteArray} {j : Nat} {er : Int} (hj : j ≤ s.size) (h : readR [] s.data.toList = .err (s.data.toList.drop j) er) : compileP s.data.toList = ([], (j : Int), er) := by
  unfold compileP
  rw [h]
  simp only [List.length_drop, size_data]
  rw [show s.size - (s.size - j) = j by omega]
theorem compile_good {s : ByteArray} {p : List (List Gl)} {r : List UInt8} (h : readR [] s.data.toList = .ok p r) : compileP s.data.toList = (p, 0, 0) := by
  unfold compileP
  rw [h]
/-- The three results' blocks stand at a world. -/
structure ResAt (w W : World) (v2 v3 v4 : Value) : Prop where
  b2 : W.heap[w.heap.size]? = some (.cells #[v2] 24 (0, 0))
  b3 : W.heap[w.heap.size + 1]? = some (.cells #[v3] 3 (0, 0))
  b4 : W.heap[w.heap.size + 1 + 1]? = some (.cells #[v4] 25 (0, 0))
  below : Below w.heap.size w W
theorem RdS.res {w W W' : World} {s : ByteArray} {j X : Nat} {vP : Value} {acc : List (List Gl)} (h : RdS w W s j X vP acc) (hk : Keep W W' (fun k => k = w.heap.size + 1 + 1 + 1)) : ResAt w W' vP (.int .i64 0) (.int .i64 0) := by
  have h1 := h.lo
  have h2 := h.hi
  have hb : ∀ k, k < W.heap.size → k ≠ w.heap.size + 1 + 1 + 1 → W'.heap[k]? = W.heap[k]? := fun k a b => hk.block k a b
  exact ⟨(hb _ (by omega) (by omega)).trans h.b2, (hb _ (by omega) (by omega)).trans h.b3, (hb _ (by omega) (by omega)).trans h.b4, ⟨hk.os.trans h.below.os, hk.tape.trans h.below.tape, hk.output.trans h.below.output, Nat.le_trans h.below.size hk.size, fun k hk' => (hb k (by omega) (by omega)).trans (h.below.block k hk')⟩⟩
abbrev P2 (w : World) : Value := .pointer (some ⟨w.heap.size, 0, none⟩)
abbrev P3 (w : World) : Value := .pointer (some ⟨w.heap.size + 1, 0, none⟩)
abbrev P4 (w : World) : Value := .pointer (some ⟨w.heap.size + 1 + 1, 0, none⟩)
theorem door_thrown {w W : World} {s : ByteArray} {T : Array Value} {j : Nat} {er : Int} {v2 v3 v4 : Value} (hT2 : T.getD 2 undef = P2 w) (hT3 : T.getD 3 undef = P3 w) (hT4 : T.getD 4 undef = P4 w) (h : ResAt w W v2 v3 v4) (hj : j ≤ s.size) (hE : readR [] s.data.toList = .err (s.data.toList.drop j) er) :
    bodyPostD Tryd.prog Tryd.f36 (ReadPost w s) (Exit.panic [{ v := Value.iface 79 (faultV j er), recovered := false }]) { tmps := T, defers := [{ target := Target.fn (Fn.func 60) #[P2 w, P3 w, P4 w], args := #[] }] } W := by
  refine leaves_cons (f := 60) (args := #[P2 w, P3 w, P4 w]) (by simp) (by simp [go_sem]) ?_
  refine (catch_panicking _ _ _ j er _ _ _ [] _ h.b2 h.b3 h.b4 (by omega)).mono ?_
  rintro e u' w'' ⟨rfl, rfl, k2, k3, k4, hk⟩
  have c2 : w''.cell? ⟨w.heap.size, 0, none⟩ = some (.slice none 0 0) := blk_cell k2 0
  have c3 : w''.cell? ⟨w.heap.size + 1, 0, none⟩ = some (.int .i64 (j : Int)) := blk_cell k3 0
  have c4 : w''.cell? ⟨w.heap.size + 1 + 1, 0, none⟩ = some (.int .i64 er) := blk_cell k4 0
  have HB : Below w.heap.size w w'' := h.below.trans (hk.below (Nat.le_trans (Nat.le_refl _) h.below.size) (fun k hk => by omega))
  have t2 : T[2]?.getD undef = .pointer (some ⟨w.heap.size, 0, none⟩) := by simpa using hT2
  have t3 : T[3]?.getD undef = .pointer (some ⟨w.heap.size + 1, 0, none⟩) := by simpa using hT3
  have t4 : T[4]?.getD undef = .pointer (some ⟨w.heap.size + 1 + 1, 0, none⟩) := by simpa using hT4
  simp [Leaves, settle, results, Tryd.results36, go_sem, t2, t3, t4, c2, c3, c4]
  refine ⟨.slice none 0 0, ?_, ?_, HB⟩
  · rw [compile_bad hj hE]
  · rw [compile_bad hj hE]
    exact Kd.R_nil _ _ _ _ _
theorem door_good {w W : World} {s : ByteArray} {T : Array Value} {p : List (List Gl)} {r : List UInt8} {v2 : Value} (hT2 : T.getD 2 undef = P2 w) (hT3 : T.getD 3 undef = P3 w) (hT4 : T.getD 4 undef = P4 w) (h : ResAt w W v2 (.int .i64 0) (.int .i64 0)) (hE : readR [] s.data.toList = .ok p r) (ho : kNode.R 40 W w.heap.size (fun _ => True) v2 p) :
    bodyPostD Tryd.prog Tryd.f36 (ReadPost w s) Exit.ret { tmps := T, defers := [{ target := Target.fn (Fn.func 60) #[P2 w, P3 w, P4 w], args := #[] }] } W := by
  refine leaves_cons (f := 60) (args := #[P2 w, P3 w, P4 w]) (by simp) (by simp [go_sem]) ?_
  refine (catch_idle _ _ _ _).mono ?_
  rintro e u' w'' ⟨rfl, rfl, rfl⟩
  have c2 : w''.cell? ⟨w.heap.size, 0, none⟩ = some v2 := blk_cell h.b2 0
  have c3 : w''.cell? ⟨w.heap.size + 1, 0, none⟩ = some (.int .i64 0) := blk_cell h.b3 0
  have c4 : w''.cell? ⟨w.heap.size + 1 + 1, 0, none⟩ = some (.int .i64 0) := blk_cell h.b4 0
  have t2 : T[2]?.getD undef = .pointer (some ⟨w.heap.size, 0, none⟩) := by simpa using hT2
  have t3 : T[3]?.getD undef = .pointer (some ⟨w.heap.size + 1, 0, none⟩) := by simpa using hT3
  have t4 : T[4]?.getD undef = .pointer (some ⟨w.heap.size + 1 + 1, 0, none⟩) := by simpa using hT4
  simp [Leaves, settle, results, Tryd.results36, go_sem, t2, t3, t4, c2, c3, c4]
  refine ⟨v2, ?_, ?_, h.below⟩
  · rw [compile_good hE]
  · rw [compile_good hE]
    exact ho
theorem RdS.ret {w W : World} {s : ByteArray} {j X : Nat} {vP : Value} {acc : List (List Gl)} (h : RdS w W s j X vP acc) {W' : World} (hW : W' = ((W.setCell ⟨w.heap.size, 0, none⟩ vP).setCell ⟨w.heap.size + 1, 0, none⟩ (.int .i64 0)).setCell ⟨w.heap.size + 1 + 1, 0, none⟩ (.int .i64 0)) :
    ResAt w W' vP (.int .i64 0) (.int .i64 0) ∧ kNode.R 40 W' w.heap.size (fun _ => True) vP acc := by
  have h1 := h.lo
  have h2 := h.hi
  subst hW
  have k1 : Keep W (((W.setCell ⟨w.heap.size, 0, none⟩ vP).setCell ⟨w.heap.size + 1, 0, none⟩ (.int .i64 0)).setCell ⟨w.heap.size + 1 + 1, 0, none⟩ (.int .i64 0)) (fun k => k = w.heap.size ∨ k = w.heap.size + 1 ∨ k = w.heap.size + 1 + 1) :=
    (((Keep.refl W _).set _ _ (.inl (.inl rfl))).set _ _ (.inl (.inr (.inl rfl)))).set _ _ (.inl (.inr (.inr rfl)))
  refine ⟨⟨?_, ?_, ?_, ?_⟩, ?_⟩
  · exact (Below.heap_setCell _ _ _ _ (by show w.heap.size ≠ w.heap.size + 1 + 1; omega)).trans ((Below.heap_setCell _ _ _ _ (by show w.heap.size ≠ w.heap.size + 1; omega)).trans (blk_put h.b2 0 _ rfl))
  · exact (Below.heap_setCell _ _ _ _ (by show w.heap.size + 1 ≠ w.heap.size + 1 + 1; omega)).trans (blk_put ((Below.heap_setCell _ _ _ _ (by show w.heap.size + 1 ≠ w.heap.size; omega)).trans h.b3) 0 _ rfl)
  · exact blk_put ((Below.heap_setCell _ _ _ _ (by show w.heap.size + 1 + 1 ≠ w.heap.size + 1; omega)).trans ((Below.heap_setCell _ _ _ _ (by show w.heap.size + 1 + 1 ≠ w.heap.size; omega)).trans h.b4)) 0 _ rfl
  · exact ((h.below.setCell (Nat.le_refl _) _).setCell (by show w.heap.size ≤ w.heap.size + 1; omega) _).setCell (by show w.heap.size ≤ w.heap.size + 1 + 1; omega) _
  · exact Kd.R_lower (Kd.R_mono (Kd.R_step h.own (fun k ho hlt => k1.block k hlt (by rintro (q | q | q) <;> omega))) (fun _ _ => trivial)) (by omega)
theorem GlobV.node {w : World} {base : Nat} {v0 v1 v2 : Value} {a : Gl} (h : GlobV w base (.agg #[v0, v1, v2]) a) : kGl.M w base (fun _ => True) a [v0, v1, v2] := by
  obtain ⟨va, e, ho⟩ := h
  injection e with e
  injection e with e
  injection e with e0 e
  injection e with e1 e
  injection e with e2 e
  subst e0; subst e1; subst e2
  exact kGl_mkM _ _ _ _ ho
theorem piece_adv {s : ByteArray} {j j2 : Nat} {g : Gl} (h : pieceR (s.data.toList.drop j) = .ok g (s.data.toList.drop j2)) : j < j2 := by
  have := pieceR_lt h
  rw [List.length_drop, List.length_drop] at this
  omega
theorem contN_end {s : ByteArray} {j : Nat} (accN : List Gl) (h : j = s.size) : contN accN (s.data.toList.drop j) = .ok accN [] := by rw [drop_end h]; rfl
theorem contN_dot {accN : List Gl} {u : List UInt8} : contN accN (46 :: u) = .ok accN (46 :: u) := rfl
theorem contN_on {accN : List Gl} {c : UInt8} {u : List UInt8} (h : c ≠ 46) : contN accN (c :: u) = nodeR accN (c :: u) := by
  unfold contN
  dsimp only
  rw [if_neg h]
theorem piece_adv' {s : ByteArray} {j : Nat} {g : Gl} {r : List UInt8} (h : pieceR (s.data.toList.drop j) = .ok g r) : ∀ j2, r = s.data.toList.drop j2 → j < j2 := by
  rintro j2 rfl
  exact piece_adv h
theorem R_keepB {α : Type} {d : Kd α} {e : Nat} {w w' : World} {base : Nat} {ok : Nat → Prop} {v : Value} {xs : List α} {S : Nat → Prop} (h : d.R e w base ok v xs) (hk : Keep w w' S) (hS : ∀ k, S k → ¬ base ≤ k) : d.R e w' base ok v xs :=
  Kd.R_mono (Kd.R_step (Kd.R_bound h) (fun k ho hlt => hk.block k hlt (fun q => hS k q ho.2.1))) (fun k hk => hk.1)
set_option maxHeartbeats 4000000 in
set_option maxRecDepth 100000 in
theorem name_read (s : ByteArray) (hs : s.size ≤ 1073741824) (w : World) : Calls Tryd.prog 36 #[.string s] w (ReadPost w s) := by
  have hmf : ∀ (fn : Fn) (first cap : Array Value) (w : World), (Instr.makeFunc fn first cap).run Tryd.prog w = .ok (.func fn first cap) w := fun _ _ _ _ => rfl
  have HS := Aside0.mk (RdS.start w s)
  go_enter_defers Tryd.func36, Tryd.ntmps36
  go_wp2
  go_loopg [] (s.size + 1) (fun kq w' => ∃ (j X : Nat) (vP : Value) (acc : List (List Gl)), j + kq = s.size + 1 ∧ j ≤ s.size ∧ acc.length ≤ 15 ∧ Aside0 (readR acc (s.data.toList.drop j) = readR [] s.data.toList) ∧ Aside0 (RdS w w' s j X vP acc))
  case atStart => exact ⟨0, _, _, [], by omega, by omega, by simp, ⟨rfl⟩, HS⟩
  case round =>
    obtain ⟨j, X, vP, acc, hjq, hjs, hac, HC, HR⟩ := hrel
    clear HS
    cases hp : pieceR (s.data.toList.drop j) with
    | err r er =>
      have HP := Aside0.mk hp
      have HE := Aside0.mk (show readR [] s.data.toList = .err r er by rw [← HC.out]; exact readR_bad (nodeR_bad hp))
      clear hp
      go_wp2_with (go_at_call 61; (with_reducible refine (rd_piece HR.out.rd (by omega) (by omega)).mono ?_); rintro e w3 hp; obtain ⟨j2, rfl, hj2, rfl, hk⟩ := hp.err HP.out; unfold thrown)
      exact door_thrown rfl rfl rfl (HR.out.res hk) hj2 HE.out
    | ok g r =>
      obtain ⟨Y, hY⟩ : ∃ Y, Y = wr.heap.size := ⟨_, rfl⟩
      have HP := Aside0.mk hp
      have HYX := Aside0.mk (show X ≤ Y by rw [hY]; exact HR.out.hi)
      have HY := Aside0.mk hY
      clear hp hY
      cases gk with
      | zero => omega
      | succ k1 =>
      go_wp2_with (go_at_call 61; (with_reducible refine (rd_piece HR.out.rd (by omega) (by omega)).mono ?_); rintro e w3 hp; obtain ⟨j1, v, rfl, hj1, rfl, hv, hrd, hk⟩ := hp.ok HP.out; clear hp; have HR3 := Aside0.mk ((HR.out.keep hk (fun k q => .inl q) hrd).wider HYX.out (by rw [HY.out]; exact hk.size)); have HYw := Aside0.mk (show Y ≤ w3.heap.size by rw [HY.out]; exact hk.size); rw [← HY.out] at hv; obtain ⟨va, rfl, hov⟩ := hv; have HV := Aside0.mk hov; clear hrd hk hov)
      have hadv := piece_adv HP.out
      go_loopg [6] (s.size + 1 - j1) (fun kq v6 w' => ∃ (j2 : Nat) (An : Option Addr) (cn : Nat) (accN : List Gl), v6 = .slice An accN.length cn ∧ j2 + kq = s.size + 1 ∧ j2 ≤ s.size ∧ j < j2 ∧ accN.length ≤ j2 ∧ Aside0 (contN accN (s.data.toList.drop j2) = nodeR [] (s.data.toList.drop j)) ∧ Aside0 (RdS w w' s j2 Y vP acc) ∧ Aside0 (Y ≤ w'.heap.size) ∧ Aside0 (kGl.R 43 w' Y (fun _ => True) (.slice An accN.length cn) accN))
      case atStart =>
        refine ⟨j1, _, _, [g], rfl, by omega, hj1, hadv, by simp; omega, ⟨?_⟩, ⟨HR3.out.alloc _⟩, ⟨?_⟩, ⟨R_one kGl (kGl_mkM _ _ _ _ HV.out) HYw.out trivial⟩⟩
        · rw [node_ok1 HP.out]; rfl
        · have := HYw.out; simp; omega
      case round =>
        obtain ⟨j2, An, cn, accN, rfl, hj2q, hj2s, hjj, hlN, HCN, HR2, HY2, HN⟩ := hrel
        clear HR3 HYw HV HR
        have c1 : wr.cell? ⟨w.heap.size + 1 + 1 + 1, 1, none⟩ = some (.int .i64 (j2 : Int)) := blk_cell HR2.out.rd 1
        have f1 : wr.frozen? ⟨w.heap.size + 1 + 1 + 1, 1, none⟩ = false := blk_frozen HR2.out.rd 1
        by_cases hend : j2 = s.size
        · have HEND := Aside0.mk hend
          have d0 : decide ((j2 : Int) < (s.size : Int)) = false := decide_eq_false (by omega)
          have d0n : decide (j2 < s.size) = false := decide_eq_false (by omega)
          clear hend
          obtain ⟨Ap, cp, eP⟩ := Kd.R_slice HR2.out.own
          subst eP
          have c2 : wr.cell? ⟨w.heap.size, 0, none⟩ = some (.slice Ap acc.length cp) := blk_cell HR2.out.b2 0
          have hY2 : w.heap.size + 4 ≤ wr.heap.size := by have := HR2.out.lo; have := HR2.out.hi; omega
          have hac2 : acc.length ≤ 15 := hac
          go_upto_region 7 with (first
            | ((with_reducible refine gate_builtin (b := .append) (xs := #[.tmp 36, .tmp 38]) rfl ?_); at_builtin; refine Kd.R_append kNode (w0 := wr) (w.heap.size + 4) rfl (.tmp 36) (.tmp 38) 22 40 (.slice none 0 0) 24 rfl Tryd.underlying22 info_node rfl (by decide) (by omega) (.slice Ap acc.length cp) acc accN [.slice An accN.length cn] (fun _ => True) (fun k => Y ≤ k) rfl rfl ?aP ?aK ?aF ?aO ?aB ?aS ?aL ?_; (case aP => exact ⟨_, rfl, Kd.R_lower (Kd.R_mono (Kd.R_bound HN.out) (fun k hk => hk.2.1)) HR2.out.lo⟩); (case aK => exact (fun k hk => ⟨trivial, fun e => by have := (HR2.out.own.1 k e.symm).2; omega⟩)); (case aB => exact Below.refl _ _); (case aF => exact (fun _ _ => trivial)); (case aO => exact Kd.R_mono HR2.out.own (fun _ _ => trivial)); (case aS => exact hY2); (case aL => omega); intro v5 w5 ho5 _ hg5 hat5; obtain ⟨H2, hH2⟩ : ∃ l : List (List Gl), l = acc ++ [accN] := ⟨_, rfl⟩; rw [← hH2] at ho5; have NH := Aside0.mk hH2; have NLx := Aside0.mk (show H2.length = acc.length + 1 by rw [hH2, List.length_append]; rfl); clear hH2; obtain ⟨A5, c5, ev5⟩ := Kd.R_slice ho5; subst ev5; have HR6 := Aside0.mk (HR2.out.store hg5 ho5); have HB5 := Aside0.mk ((hg5.block w.heap.size (by omega) (fun e => by have := (HR2.out.own.1 _ e.symm).1; omega)).trans HR2.out.b2); have q5 := blk_cell HB5.out 0; have z5 := blk_frozen HB5.out 0; simp only [List.getElem?_toArray, List.getElem?_cons_zero] at q5; clear ho5 hg5 hat5))
          generalize hV : World.setCell _ _ _ = w6 at HR6 ⊢
          clear hV q5 z5 c2
          have hE := Aside0.mk (show readR [] s.data.toList = .ok H2 [] by
            have e1 : nodeR [] (s.data.toList.drop j) = .ok accN [] := by rw [← HCN.out]; exact contN_end accN HEND.out
            rw [← HC.out, NH.out]; exact readR_end e1)
          have c1 : w6.cell? ⟨w.heap.size + 1 + 1 + 1, 1, none⟩ = some (.int .i64 (j2 : Int)) := blk_cell HR6.out.rd 1
          have d1 : ((j2 : Int) == (s.size : Int)) = true := beq_iff_eq.2 (by have := HEND.out; omega)
          have c2 : w6.cell? ⟨w.heap.size, 0, none⟩ = some (.slice A5 H2.length c5) := blk_cell HR6.out.b2 0
          have c3 : w6.cell? ⟨w.heap.size + 1, 0, none⟩ = some (.int .i64 0) := blk_cell HR6.out.b3 0
          have c4 : w6.cell? ⟨w.heap.size + 1 + 1, 0, none⟩ = some (.int .i64 0) := blk_cell HR6.out.b4 0
          have z2 : w6.frozen? ⟨w.heap.size, 0, none⟩ = false := blk_frozen HR6.out.b2 0
          have z3 : w6.frozen? ⟨w.heap.size + 1, 0, none⟩ = false := blk_frozen HR6.out.b3 0
          have z4 : w6.frozen? ⟨w.heap.size + 1 + 1, 0, none⟩ = false := blk_frozen HR6.out.b4 0
          go_wp2
          exact door_good rfl rfl rfl (HR6.out.ret rfl).1 hE.out (HR6.out.ret rfl).2
        · obtain ⟨c, hb⟩ := get_lt (s := s) (i := j2) (by omega)
          have hlt : j2 < s.size := by omega
          have HD := Aside0.mk (drop_at hb)
          have hx := get_byte hb
          have p0 : (0 ≤ (j2 : Int)) = True := eq_true (by omega)
          have p1 : ((j2 : Int) < (s.size : Int)) = True := eq_true (by omega)
          have d1 : decide ((j2 : Int) < (s.size : Int)) = true := decide_eq_true (by omega)
          rw [HD.out] at HCN
          clear hend hb
          by_cases h46 : c = 46
          · have H46 := Aside0.mk h46
            have d2 : ((c.toNat : Int) != 46) = false := by rw [h46]; rfl
            clear h46
            obtain ⟨Ap, cp, eP⟩ := Kd.R_slice HR2.out.own
            subst eP
            have c2 : wr.cell? ⟨w.heap.size, 0, none⟩ = some (.slice Ap acc.length cp) := blk_cell HR2.out.b2 0
            have hY2 : w.heap.size + 4 ≤ wr.heap.size := by have := HR2.out.lo; have := HR2.out.hi; omega
            have hac2 : acc.length ≤ 15 := hac
            go_upto_region 7 with (first
              | ((with_reducible refine gate_builtin (b := .append) (xs := #[.tmp 36, .tmp 38]) rfl ?_); at_builtin; refine Kd.R_append kNode (w0 := wr) (w.heap.size + 4) rfl (.tmp 36) (.tmp 38) 22 40 (.slice none 0 0) 24 rfl Tryd.underlying22 info_node rfl (by decide) (by omega) (.slice Ap acc.length cp) acc accN [.slice An accN.length cn] (fun _ => True) (fun k => Y ≤ k) rfl rfl ?aP ?aK ?aF ?aO ?aB ?aS ?aL ?_; (case aP => exact ⟨_, rfl, Kd.R_lower (Kd.R_mono (Kd.R_bound HN.out) (fun k hk => hk.2.1)) HR2.out.lo⟩); (case aK => exact (fun k hk => ⟨trivial, fun e => by have := (HR2.out.own.1 k e.symm).2; omega⟩)); (case aB => exact Below.refl _ _); (case aF => exact (fun _ _ => trivial)); (case aO => exact Kd.R_mono HR2.out.own (fun _ _ => trivial)); (case aS => exact hY2); (case aL => omega); intro v5 w5 ho5 _ hg5 hat5; obtain ⟨H2, hH2⟩ : ∃ l : List (List Gl), l = acc ++ [accN] := ⟨_, rfl⟩; rw [← hH2] at ho5; have NH := Aside0.mk hH2; have NLx := Aside0.mk (show H2.length = acc.length + 1 by rw [hH2, List.length_append]; rfl); clear hH2; obtain ⟨A5, c5, ev5⟩ := Kd.R_slice ho5; subst ev5; have HR6 := Aside0.mk (HR2.out.store hg5 ho5); have HB5 := Aside0.mk ((hg5.block w.heap.size (by omega) (fun e => by have := (HR2.out.own.1 _ e.symm).1; omega)).trans HR2.out.b2); have q5 := blk_cell HB5.out 0; have z5 := blk_frozen HB5.out 0; simp only [List.getElem?_toArray, List.getElem?_cons_zero] at q5; clear ho5 hg5 hat5))
            generalize hV : World.setCell _ _ _ = w6 at HR6 ⊢
            clear hV q5 z5 c2
            have e1 : nodeR [] (s.data.toList.drop j) = .ok accN (46 :: s.data.toList.drop (j2 + 1)) := by rw [← HCN.out, H46.out]; exact contN_dot
            have c1 : w6.cell? ⟨w.heap.size + 1 + 1 + 1, 1, none⟩ = some (.int .i64 (j2 : Int)) := blk_cell HR6.out.rd 1
            have f1 : w6.frozen? ⟨w.heap.size + 1 + 1 + 1, 1, none⟩ = false := blk_frozen HR6.out.rd 1
            have d1 : ((j2 : Int) == (s.size : Int)) = false := beq_eq_false_iff_ne.2 (by omega)
            have c2 : w6.cell? ⟨w.heap.size, 0, none⟩ = some (.slice A5 H2.length c5) := blk_cell HR6.out.b2 0
            by_cases h16 : acc.length + 1 = 16
            · have hE := Aside0.mk (show readR [] s.data.toList = .err (s.data.toList.drop j2) 3 by rw [← HC.out, HD.out, H46.out, readR_more e1, if_pos h16])
              have d3 : ((H2.length : Int) == 16) = true := beq_iff_eq.2 (by have := NLx.out; omega)
              clear e1 h16
              go_wp2_with (go_at_call 62; (with_reducible refine Calls.mono (rd_stop HR6.out.rd 3) ?_); rintro e w' ⟨rfl, rfl⟩; unfold thrown)
              exact door_thrown rfl rfl rfl (HR6.out.res (Keep.refl _ _)) (by omega) hE.out
            · have HE2 := Aside0.mk (show readR H2 (s.data.toList.drop (j2 + 1)) = readR [] s.data.toList by rw [← HC.out, NH.out, readR_more e1, if_neg h16])
              have hl2 := Aside0.mk (show H2.length ≤ 15 by have := NLx.out; omega)
              have d3 : ((H2.length : Int) == 16) = false := beq_eq_false_iff_ne.2 (by have := NLx.out; omega)
              clear e1 h16
              go_wp2
              go_roundg (s.size - j2)
              case rel => exact ⟨j2 + 1, _, _, H2, by omega, by omega, hl2.out, HE2, ⟨HR6.out.set (j2 + 1)⟩⟩
              case measure => omega
          · have d2 : ((c.toNat : Int) != 46) = true := bne_iff_ne.2 (fun e => h46 ((eq_byte c 46).1 e))
            rw [contN_on h46, ← HD.out] at HCN
            clear h46
            cases hp2 : pieceR (s.data.toList.drop j2) with
            | err r er =>
              have HP2 := Aside0.mk hp2
              have HE := Aside0.mk (show readR [] s.data.toList = .err r er by rw [← HC.out]; exact readR_bad (by rw [← HCN.out]; exact nodeR_bad hp2))
              clear hp2
              go_wp2_with (go_at_call 61; (with_reducible refine (rd_piece HR2.out.rd (by omega) (by omega)).mono ?_); rintro e w3 hp; obtain ⟨j3, rfl, hj3, rfl, hk⟩ := hp.err HP2.out; unfold thrown)
              exact door_thrown rfl rfl rfl (HR2.out.res hk) hj3 HE.out
            | ok g2 r2 =>
              have HP2 := Aside0.mk hp2
              clear hp2
              have hZ := HY2.out
              obtain ⟨Z, hz⟩ : ∃ Z, Z = wr.heap.size := ⟨_, rfl⟩
              have hZZ := Aside0.mk hz
              have HNlt := Aside0.mk (show ∀ k, (Value.slice An accN.length cn).ownBlock = some k → k < Z by rw [hz]; exact Kd.R_lt HN.out)
              rw [← hz] at hZ
              have hadv2 := piece_adv' HP2.out
              have hlN2 : accN.length ≤ 1073741824 := by omega
              clear hz
              go_wp2_with (first
                | (go_at_call 61; (with_reducible refine (rd_piece HR2.out.rd (by omega) (by omega)).mono ?_); rintro e w3 hp; obtain ⟨j3, v, rfl, hj3, rfl, hv, hrd, hk⟩ := hp.ok HP2.out; clear hp; have HR3 := Aside0.mk (HR2.out.keep hk (fun k q => .inl q) hrd); have HN3 := Aside0.mk (R_keepB HN.out hk (fun k q e => by have h1 := HR2.out.lo; have q2 : k = w.heap.size + 1 + 1 + 1 := q; omega)); have HZ3 := Aside0.mk (show Z ≤ w3.heap.size by rw [hZZ.out]; exact hk.size); rw [← hZZ.out] at hv; obtain ⟨va, rfl, hov⟩ := hv; have HV := Aside0.mk hov; have hY3 : Y ≤ w3.heap.size := Nat.le_trans hZ HZ3.out; clear hrd hk hov)
                | ((with_reducible refine gate_builtin (b := .append) (xs := #[.tmp 30, .tmp 33]) rfl ?_); at_builtin; refine Kd.R_append kGl (w0 := w3) Y rfl (.tmp 30) (.tmp 33) 40 43 (.agg #[.int .i64 0, .string ⟨#[]⟩, .slice none 0 0]) 48 rfl Tryd.underlying40 info_glob rfl (by decide) (by omega) (.slice An accN.length cn) accN g2 [.int .i64 g2.kind, .string (strB g2.text), va] (fun _ => True) (fun k => Z ≤ k) rfl rfl ?aP ?aK ?aF ?aO ?aB ?aS ?aL ?_; (case aP => exact kGl_mkM _ _ _ _ (Kd.R_lower (Kd.R_mono (Kd.R_bound HV.out) (fun k hk => hk.2.1)) hZ)); (case aK => exact (fun k hk => ⟨trivial, fun e => by have := HNlt.out k e.symm; omega⟩)); (case aB => exact Below.refl _ _); (case aF => exact (fun _ _ => trivial)); (case aO => exact HN3.out); (case aS => exact hY3); (case aL => omega); intro v5 w5 ho5 _ hg5 hat5; obtain ⟨H2, hH2⟩ : ∃ l : List Gl, l = accN ++ [g2] := ⟨_, rfl⟩; rw [← hH2] at ho5; have NH := Aside0.mk hH2; clear hH2; obtain ⟨A5, c5, ev5⟩ := Kd.R_slice ho5; subst ev5; have HO5 := Aside0.mk ho5; have HG5 := Aside0.mk hg5; clear ho5 hg5 hat5))
              have hadv3 := hadv2 j3 rfl
              go_roundg (s.size + 1 - j3)
              case rel =>
                have hl : H2.length = accN.length + 1 := by rw [NH.out, List.length_append]; rfl
                refine ⟨j3, A5, c5, H2, rfl, by omega, hj3, by omega, by omega, ⟨?_⟩, ⟨HR3.out.grown HG5.out (fun k e => Kd.R_base HN3.out k e)⟩, ⟨Nat.le_trans hY3 HG5.out.size⟩, HO5⟩
                rw [NH.out, ← HCN.out, node_ok1 HP2.out]
              case measure => omega
end Go.Proofs.YtecfmmalbehcnaaDoor.Q

/- name.Compile. -/
namespace Go.Proofs.YtecfmmalbehcnaaDoor.Q
open Go.Shelf Go.RowKit Go.Proofs Go.Proofs.YtecfmmalbehcnaaDoorW.PrintWords Go.Proofs.YtecfmmalbehcnaaDoorW.PrintLast Go.Proofs.YtecfmmalbehcnaaDoorW.PrintMore Go.Proofs.YtecfmmalbehcnaaDoorV
set_option linter.unusedVariables false
set_option linter.unusedSimpArgs false

/-- What Compile answers. -/
def compP (s : List UInt8) : List (List Gl) × Int × Int := if 400 < s.length then ([], 400, 2) else compileP s
/-- A pattern, a place and an error are handed back, the pattern in memory of its own. -/
def CompPost (w : World) (c : List (List Gl) × Int × Int) (e : Ending) (w' : World) : Prop :=
  ∃ v, e = .returned (.tuple #[.agg #[v], .int .i64 c.2.1, .int .i64 c.2.2]) ∧ kNode.R 40 w' w.heap.size (fun _ => True) v c.1 ∧ Below w.heap.size w w'
set_option maxHeartbeats 800000 in
theorem name_Compile (s : ByteArray) (w : World) : Calls Tryd.prog 16 #[.string s] w (CompPost w (compP s.data.toList)) := by
  have hl := size_data s
  have HB := Aside0.mk (below_alloc (Below.refl w.heap.size w) (.cells #[.slice none 0 0] 24))
  by_cases h : 400 < s.size
  · have d1 : decide ((400 : Int) < (s.size : Int)) = true := decide_eq_true (by omega)
    have HC := Aside0.mk (show compP s.data.toList = ([], 400, 2) by unfold compP; rw [if_pos (by omega)])
    clear hl h
    go_enter Tryd.func16, Tryd.ntmps16
    go_wp2
    refine bodyPost_ret (results_ctt rfl _ _ w.heap.size 24 #[.slice none 0 0] (0, 0) _ rfl (heap_alloc_new _ _) Tryd.underlying24 rfl (by kernel_rfl)) rfl ?_
    rw [HC.out]
    exact ⟨_, rfl, Kd.R_nil _ _ _ _ _, HB.out⟩
  · have d1 : decide ((400 : Int) < (s.size : Int)) = false := decide_eq_false (by omega)
    have HC := Aside0.mk (show compP s.data.toList = compileP s.data.toList by unfold compP; rw [if_neg (by omega)])
    have HR := Aside0.mk (fun W => name_read s (by omega) W)
    clear hl h
    go_enter Tryd.func16, Tryd.ntmps16
    go_wp2_with (go_at_call 36; (with_reducible refine (HR.out _).mono ?_); rintro e w1 hp; obtain ⟨v, rfl, ho, hb⟩ := hp; have HO := Aside0.mk ho; have HB1 := Aside0.mk hb; have hx := blk_below (heap_alloc_new w (.cells #[.slice none 0 0] 24 (0, 0))) hb; have HX := Aside0.mk hx; have c0 := blk_cell hx 0; have z0 := blk_frozen hx 0; simp only [List.getElem?_toArray, List.getElem?_cons_zero] at c0; obtain ⟨A1, n1, ev⟩ := Kd.R_slice ho; subst ev; clear ho hb hx)
    refine bodyPost_ret (results_ctt rfl _ _ w.heap.size 24 #[_] (0, 0) _ rfl (blk_put HX.out 0 _ rfl) Tryd.underlying24 rfl (by kernel_rfl)) rfl ?_
    rw [HC.out]
    refine ⟨_, rfl, ?_, ?_⟩
    · refine Kd.R_lower (Kd.R_far (Kd.R_mono (Kd.R_bound HO.out) (fun k hk => hk.2.1)) (fun k hk => ?_) _ |> fun h => Kd.R_mono h (fun _ _ => trivial)) (by simp)
      simp at hk
      show k ≠ w.heap.size
      omega
    · exact ((HB.out.trans (HB1.out.mono (by simp))).setCell (Nat.le_refl _) _)
end Go.Proofs.YtecfmmalbehcnaaDoor.Q
