import Derived.Test.YtoakooebmnjkhaaPWin
import Derived.Test.YtoakooebmnjkhaaVOpen
import Derived.WalkSpells
namespace Go.Proofs.Ytoakooebmnjkhaa.Q
open Go.RowKit Go.Proofs.YtoakooebmnjkhaaW.PrintWords Go.Proofs.YtoakooebmnjkhaaW.PrintLast Go.Proofs.YtoakooebmnjkhaaW.PrintMore Go.Proofs.YtoakooebmnjkhaaV
set_option linter.unusedVariables false
set_option linter.unusedSimpArgs false

theorem R_keep {α : Type} {enc : α → Value} {h1 : ∀ x, (enc x).oneCell' = true} {e : Nat} {w w' : World} {n : Nat} {ok : Nat → Prop} {v : Value} {xs : List α} {S : Nat → Prop}
    (h : (Kd.scalar enc h1).R e w n ok v xs) (hk : Keep w w' S) (hS : ∀ k, v.ownBlock = some k → ¬ S k) : (Kd.scalar enc h1).R e w' n ok v xs := by
  obtain ⟨inner, ho⟩ := Kd.R_own h
  exact R_tight h (fun k e => ⟨hk.block k (own_lt ho k e) (hS k e), h.1 k e, own_base ho k e⟩)
theorem grown_keep {w w' : World} {vt : Value} (hg : w.grownBy w' vt.ownBlock) : Keep w w' (fun k => some k = vt.ownBlock) := (Keep.refl w _).grown hg (fun k e => .inl e.symm)
theorem R_typed {α : Type} {enc : α → Value} {h1 : ∀ x, (enc x).oneCell' = true} {e : Nat} {w : World} {base : Nat} {ok : Nat → Prop} {v : Value} {xs : List α} (h : (Kd.scalar enc h1).R e w base ok v xs) : ∀ k, v.ownBlock = some k → ∃ cs fr, w.heap[k]? = some (.cells cs e fr) := by
  intro k hk
  have ho := Kd.own_of_R h
  obtain ⟨a1, a2⟩ := ho
  rcases a2 with ⟨rfl, _⟩ | ⟨g, cap, cur, rfl, _, r, _⟩
  · simp [Value.ownBlock] at hk
  · simp [Value.ownBlock] at hk
    subst hk
    exact ⟨_, _, r⟩
theorem ne_typed {w : World} {k g : Nat} {cs cs' : Array Value} {e e' : TypeId} {fr fr' : Nat × Nat} (h : w.heap[k]? = some (.cells cs e fr)) (h' : w.heap[g]? = some (.cells cs' e' fr')) (hne : e ≠ e') : k ≠ g := by
  rintro rfl
  have := h.symm.trans h'
  simp at this
  exact hne this.2.1
theorem keep_below0 {w w' : World} (hk : Keep w w' (fun _ => False)) : Below w.heap.size w w' := ⟨hk.os, hk.tape, hk.output, hk.size, fun k h => hk.block k h (fun h => h)⟩
theorem below_keep {w w' : World} (hb : Below w.heap.size w w') : Keep w w' (fun _ => False) := Keep.of_below hb
theorem keep_drew (w : World) : Keep w w.drew (fun _ => False) := (Keep.refl w _).drew
theorem keep_drewN (w : World) (n : Nat) : Keep w (w.drewN n) (fun _ => False) := (Keep.refl w _).drewN n
theorem cell_same {w w' : World} {a : Addr} (h : w'.heap[a.block]? = w.heap[a.block]?) : w'.cell? a = w.cell? a := by unfold World.cell?; rw [h]
end Go.Proofs.Ytoakooebmnjkhaa.Q
