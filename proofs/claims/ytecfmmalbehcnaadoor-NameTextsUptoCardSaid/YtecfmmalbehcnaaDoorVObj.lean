/- Words of this session's own: what a call on an object may turn: its own blocks, and nothing else that was there. (YtecfmmalbehcnaaDoor stands for the seat's Name.) -/
import Derived.Test.YtecfmmalbehcnaaDoorWMore
namespace Go.Proofs.YtecfmmalbehcnaaDoorV
open Go.RowKit Go.Proofs.YtecfmmalbehcnaaDoorW.PrintWords Go.Proofs.YtecfmmalbehcnaaDoorW.PrintLast Go.Proofs.YtecfmmalbehcnaaDoorW.PrintMore

/-- From w to w' only blocks of S, and new ones, may have turned. -/
structure Keep (w w' : World) (S : Nat → Prop) : Prop where
  os : w'.os = w.os
  tape : w'.tape = w.tape
  output : w'.output = w.output
  size : w.heap.size ≤ w'.heap.size
  block : ∀ k, k < w.heap.size → ¬ S k → w'.heap[k]? = w.heap[k]?

theorem Keep.refl (w : World) (S : Nat → Prop) : Keep w w S := ⟨rfl, rfl, rfl, Nat.le_refl _, fun _ _ _ => rfl⟩
theorem Keep.of_below {w w' : World} {S : Nat → Prop} (h : Below w.heap.size w w') : Keep w w' S := ⟨h.os, h.tape, h.output, h.size, fun k hk _ => h.block k hk⟩
theorem Keep.mono {w w' : World} {S S' : Nat → Prop} (h : Keep w w' S) (hs : ∀ k, k < w.heap.size → S k → S' k) : Keep w w' S' := ⟨h.os, h.tape, h.output, h.size, fun k hk hn => h.block k hk (fun hc => hn (hs k hk hc))⟩
theorem Keep.trans {w w' w'' : World} {S S' T : Nat → Prop} (h : Keep w w' S) (h' : Keep w' w'' S') (h1 : ∀ k, k < w.heap.size → S k → T k) (h2 : ∀ k, k < w.heap.size → S' k → T k) : Keep w w'' T :=
  ⟨h'.os.trans h.os, h'.tape.trans h.tape, h'.output.trans h.output, Nat.le_trans h.size h'.size, fun k hk hn => (h'.block k (Nat.lt_of_lt_of_le hk h.size) (fun hc => hn (h2 k hk hc))).trans (h.block k hk (fun hc => hn (h1 k hk hc)))⟩
theorem Keep.drew {w w' : World} {S : Nat → Prop} (h : Keep w w' S) : Keep w w'.drew S := ⟨h.os, h.tape, h.output, h.size, h.block⟩
theorem Keep.drewN {w w' : World} {S : Nat → Prop} (h : Keep w w' S) (n : Nat) : Keep w (w'.drewN n) S := ⟨h.os, h.tape, h.output, h.size, h.block⟩
theorem Keep.alloc {w w' : World} {S : Nat → Prop} (h : Keep w w' S) (o : Obj) : Keep w (w'.alloc o) S :=
  ⟨h.os, h.tape, h.output, by have := h.size; simp; omega, fun k hk hn => (Below.heap_alloc _ _ _ (Nat.lt_of_lt_of_le hk h.size)).trans (h.block k hk hn)⟩
theorem Keep.set {w w' : World} {S : Nat → Prop} (h : Keep w w' S) (a : Addr) (u : Value) (ha : S a.block ∨ w.heap.size ≤ a.block) : Keep w (w'.setCell a u) S :=
  ⟨h.os, h.tape, h.output, by have := h.size; simpa [World.setCell] using this, fun k hk hn => (Below.heap_setCell _ _ _ _ (fun e => by subst e; rcases ha with ha | ha; exact hn ha; omega)).trans (h.block k hk hn)⟩
theorem Keep.grown {w w' w'' : World} {S : Nat → Prop} {row : Option Nat} (h : Keep w w' S) (hg : w'.grownBy w'' row) (hr : ∀ k, row = some k → S k ∨ w.heap.size ≤ k) : Keep w w'' S :=
  ⟨hg.os.trans h.os, hg.tape.trans h.tape, hg.output.trans h.output, Nat.le_trans h.size hg.size, fun k hk hn => (hg.block k (Nat.lt_of_lt_of_le hk h.size) (fun e => by rcases hr k e.symm with hc | hc; exact hn hc; omega)).trans (h.block k hk hn)⟩
theorem Keep.below {w w' : World} {S : Nat → Prop} {B : Nat} (h : Keep w w' S) (hB : B ≤ w.heap.size) (hs : ∀ k, S k → B ≤ k) : Below B w w' :=
  ⟨h.os, h.tape, h.output, h.size, fun k hk => h.block k (Nat.lt_of_lt_of_le hk hB) (fun hc => by have := hs k hc; omega)⟩

theorem R_lt' {α : Type} {d : Kd α} {e : Nat} {w : World} {base : Nat} {ok : Nat → Prop} {v : Value} {xs : List α} (h : d.R e w base ok v xs) : ∀ k, v.ownBlock = some k → k < w.heap.size := by
  obtain ⟨inner, ho⟩ := Kd.R_own h
  exact fun k hk => own_lt ho k hk
/-- A row of scalars hangs on its own block alone. -/
theorem R_tight {α : Type} {enc : α → Value} {h1 : ∀ x, (enc x).oneCell' = true} {e : Nat} {w w' : World} {base base' : Nat} {ok ok' : Nat → Prop} {v : Value} {xs : List α}
    (h : (Kd.scalar enc h1).R e w base ok v xs) (hk : ∀ k, v.ownBlock = some k → w'.heap[k]? = w.heap[k]? ∧ ok' k ∧ base' ≤ k) : (Kd.scalar enc h1).R e w' base' ok' v xs := by
  have ho := Kd.own_of_R h
  refine Kd.R_of_own ?_ (fun k e => (hk k e).2.1)
  obtain ⟨a1, a2⟩ := own_move ho (fun k e => (hk k e).1)
  refine ⟨a1, ?_⟩
  rcases a2 with a2 | ⟨g, cap, cur, rfl, hg, r⟩
  · exact .inl a2
  · exact .inr ⟨g, cap, cur, rfl, (hk g (by simp [Value.ownBlock])).2.2, r⟩

/-- A block that holds just these cells is a row. -/
theorem R_block {α : Type} {enc : α → Value} {h1 : ∀ x, (enc x).oneCell' = true} {e : Nat} {w : World} {base g : Nat} {ok : Nat → Prop} {xs : List α}
    (h : w.heap[g]? = some (.cells (encs enc xs).toArray e (0, 0))) (hb : base ≤ g) (hok : ok g) (hm : xs.length ≤ 9223372036854775807) :
    (Kd.scalar enc h1).R e w base ok (.slice (some ⟨g, 0, none⟩) xs.length xs.length) xs := by
  refine Kd.R_of_own ⟨by simp [encs], .inr ⟨g, xs.length, _, rfl, hb, h, Nat.le_refl _, by simpa [maxLen] using hm, by simp [encs], ?_⟩⟩ (fun k he => ?_)
  · rw [Nat.mul_one]; exact List.take_of_length_le (by simp [encs])
  have : g = k := by simpa [Value.ownBlock] using he
  subst this
  exact hok

end Go.Proofs.YtecfmmalbehcnaaDoorV
