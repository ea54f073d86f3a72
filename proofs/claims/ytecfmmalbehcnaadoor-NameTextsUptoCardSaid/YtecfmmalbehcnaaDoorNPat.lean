/- How a pattern and a list of texts that come in as arguments are opened, with their bulk. -/
import Derived.Test.YtecfmmalbehcnaaDoorME
import Derived.Test.YtecfmmalbehcnaaDoorNRow
namespace Go.Proofs.YtecfmmalbehcnaaDoor.Q
open Go.Shelf Go.RowKit Go.Proofs Go.ChangeShapes Go.WideShapes Go.Proofs.YtecfmmalbehcnaaDoorW.PrintWords Go.Proofs.YtecfmmalbehcnaaDoorW.PrintLast Go.Proofs.YtecfmmalbehcnaaDoorW.PrintMore Go.Proofs.YtecfmmalbehcnaaDoorV
set_option linter.unusedVariables false
set_option linter.unusedSimpArgs false

set_option maxRecDepth 100000 in
theorem okWide_pat {w : World} {r : Reach} {base : Nat} {v : Value} (h : Value.okWide Tryd.prog w r base 24 v) : ∃ u, v = .agg #[u] := by
  obtain ⟨cs, rfl, hs⟩ := okWide_struct Tryd.underlying24 h
  have c1 : Tryd.prog.cellsOf 24 = 1 := by kernel_rfl
  rw [c1] at hs
  exact ⟨cs[0], congrArg Value.agg (Array.ext' (by
    obtain ⟨l⟩ := cs
    match l, hs with
    | [u], _ => rfl))⟩
theorem opnL : V.Opn Tryd.prog 34 (Kd.slice 9 Kd.string) (fun xs => (xs.map (fun s : ByteArray => s.size + 1)).sum + 1) (fun xs => ∀ x ∈ xs, True) := V.Opn.slice Tryd.underlying34 (by kernel_rfl) (V.Opn.string Tryd.underlying9 (by kernel_rfl))
def toGl (x : Int × ByteArray × List ByteArray) : Gl := ⟨x.1, x.2.1.data.toList, x.2.2.map (·.data.toList)⟩
theorem opnGl : V.Opn Tryd.prog 43 kGl (fun x => 1 + ((strB x.text).size + 1 + (((x.alts.map strB).map (fun s : ByteArray => s.size + 1)).sum + 1)) + 1) (fun x => (Lit.int .i64 x.kind).wf = true ∧ True ∧ ∀ y ∈ x.alts.map strB, True) :=
  V.Opn.struct Tryd.underlying43 (by kernel_rfl) (V.OpnF.cons (V.Opn.int (k := .i64) Tryd.underlying41 (by kernel_rfl)) rfl (V.OpnF.cons (V.Opn.string Tryd.underlying9 (by kernel_rfl)) rfl (V.OpnF.one opnL rfl)))
    (fun x : Gl => (x.kind, strB x.text, x.alts.map strB)) toGl (fun a => by
      obtain ⟨k, t, l⟩ := a
      show (k, strB t.data.toList, (l.map (·.data.toList)).map strB) = (k, t, l)
      rw [data_strB, List.map_map, show (strB ∘ fun x : ByteArray => x.data.toList) = id from funext data_strB, List.map_id])
def kPat : Kd (List (List Gl)) := Kd.iso (Kd.slice 40 kNode) (fun p : List (List Gl) => p)
def glM (x : Gl) : Nat := 1 + ((strB x.text).size + 1 + (((x.alts.map strB).map (fun s : ByteArray => s.size + 1)).sum + 1)) + 1
def patM (p : List (List Gl)) : Nat := ((p.map (fun n => (n.map glM).sum + 1)).sum + 1) + 1
theorem opnPat : V.Opn Tryd.prog 24 kPat patM (fun p => ∀ n ∈ p, ∀ x ∈ n, (Lit.int .i64 x.kind).wf = true ∧ True ∧ ∀ y ∈ x.alts.map strB, True) :=
  V.Opn.struct Tryd.underlying24 (by kernel_rfl) (V.OpnF.one (V.Opn.slice Tryd.underlying22 (by kernel_rfl) (V.Opn.slice Tryd.underlying40 (by kernel_rfl) opnGl)) rfl) (fun p : List (List Gl) => p) (fun p => p) (fun _ => rfl)
theorem sum_map_le {α : Type} {f g : α → Nat} (h : ∀ x, f x ≤ g x) (l : List α) : (l.map f).sum ≤ (l.map g).sum := by
  induction l with
  | nil => exact Nat.le_refl _
  | cons a t ih => rw [List.map_cons, List.map_cons, List.sum_cons, List.sum_cons]; have := h a; omega
theorem pat_le (p : List (List Gl)) : bulkP p ≤ patM p := by
  unfold bulkP patM
  have h1 : ∀ n : List Gl, bulkN n ≤ (n.map glM).sum + 1 := fun n => by
    unfold bulkN
    have := sum_map_le (f := bulkG) (g := glM) (fun x => by
      unfold bulkG glM bulkA
      have e : ((x.alts.map strB).map (fun s : ByteArray => s.size + 1)) = x.alts.map (fun a => a.length + 1) := by
        rw [List.map_map]
        refine List.map_congr_left (fun a _ => ?_)
        show (strB a).size + 1 = a.length + 1
        rw [strB_size]
      rw [e, strB_size]
      omega) n
    omega
  have := sum_map_le h1 p
  omega
end Go.Proofs.YtecfmmalbehcnaaDoor.Q
