/- Words of this session's own: an argument's reading, opened kind by kind, with its bulk. (YtecfmmalbehcnaaDoor stands for the seat's Name.) -/
import Derived.Test.YtecfmmalbehcnaaDoorWMore
import Derived.Test.YtecfmmalbehcnaaDoorRows
import Derived.ProofKit
namespace Go.Proofs.YtecfmmalbehcnaaDoor.V
open Go.RowKit Go.Proofs.YtecfmmalbehcnaaDoorW.PrintWords Go.Proofs.YtecfmmalbehcnaaDoorW.PrintLast Go.Proofs.YtecfmmalbehcnaaDoorW.PrintMore

theorem bulk_pos {H : Type} (d : DataW H) : 1 ≤ Rows.uptoBulk d := by
  cases d with
  | lit l => cases l <;> simp [Rows.uptoBulk]
  | nil => simp [Rows.uptoBulk]
  | ptr d => simp [Rows.uptoBulk]
  | slice elems spare => simp [Rows.uptoBulk]
  | agg parts => simp [Rows.uptoBulk]
  | iface t d => simp [Rows.uptoBulk]
  | map entries => simp [Rows.uptoBulk]
  | held h => simp [Rows.uptoBulk]

/-- Cells of type T that can be read are cells of the kind d; what is read is at least as much as 'meas' tells. -/
structure Opn {α : Type} (P : Program) (T : TypeId) (d : Kd α) (meas : α → Nat) (wf : α → Prop) : Prop where
  size : P.cellsOf T = d.sz
  opn : ∀ {H : Type} {enc : TypeId × Value → H} {w : World} {base : Nat} {spare : Nat → Bool} {held : Bool} {fuel : Nat} {cs : List Value} {x : DataW H × List MemPlace},
    DataW.trod enc P w base spare held fuel T cs = some x → ∃ a, d.K w a cs ∧ meas a ≤ Rows.uptoBulk x.1 ∧ wf a

theorem Opn.int {P : Program} {T : TypeId} {k : IntKind} (ht : P.underlying T = some (.int k)) (hs : P.cellsOf T = 1) : Opn P T (Kd.int k) (fun _ => 1) (fun n => (Lit.int k n).wf = true) := by
  refine ⟨hs, fun h => ?_⟩
  obtain ⟨n, rfl, rfl, hw⟩ := DataW.trod_int ht h
  exact ⟨n, rfl, bulk_pos _, hw⟩
theorem Opn.bool {P : Program} {T : TypeId} (ht : P.underlying T = some .bool) (hs : P.cellsOf T = 1) : Opn P T Kd.bool (fun _ => 1) (fun _ => True) := by
  refine ⟨hs, fun h => ?_⟩
  obtain ⟨n, rfl, rfl⟩ := DataW.trod_bool ht h
  exact ⟨n, rfl, bulk_pos _, trivial⟩
theorem Opn.string {P : Program} {T : TypeId} (ht : P.underlying T = some .string) (hs : P.cellsOf T = 1) : Opn P T Kd.string (fun s => s.size + 1) (fun _ => True) := by
  refine ⟨hs, fun h => ?_⟩
  obtain ⟨s, rfl, rfl, hw⟩ := DataW.trod_string ht h
  exact ⟨s, rfl, by simp [Rows.uptoBulk], trivial⟩

theorem all_get {H : Type} : ∀ (l : List (DataW H)) (i : Nat) (d : DataW H), l[i]? = some d → Rows.uptoBulk d ≤ Rows.uptoBulkAll l := by
  intro l
  induction l with
  | nil => intro i d h; simp at h
  | cons x r ih =>
    intro i d h
    simp only [Rows.uptoBulkAll]
    cases i with
    | zero => simp at h; subst h; omega
    | succ i => have := ih i d (by simpa using h); omega

/-- Lists read side by side: the measures' sum is at most the bulks'. -/
theorem all_sum {H : Type} {α : Type} (meas : α → Nat) (R : Nat → α → DataW H → Prop) : ∀ (l : List (DataW H)) (off : Nat), (∀ i d, l[i]? = some d → ∃ a, R (off + i) a d ∧ meas a ≤ Rows.uptoBulk d) →
    ∃ xs : List α, xs.length = l.length ∧ (xs.map meas).sum ≤ Rows.uptoBulkAll l ∧ ∀ i a, xs[i]? = some a → ∃ d, l[i]? = some d ∧ R (off + i) a d := by
  intro l
  induction l with
  | nil => intro off _; exact ⟨[], rfl, by simp [Rows.uptoBulkAll], fun i a h => by simp at h⟩
  | cons x r ih =>
    intro off h
    obtain ⟨a, ha, hm⟩ := h 0 x rfl
    obtain ⟨xs, hl, hs, hx⟩ := ih (off + 1) (fun i d hd => by
      obtain ⟨a, h1, h2⟩ := h (i + 1) d (by simpa using hd)
      exact ⟨a, by rw [Nat.add_assoc, Nat.add_comm 1 i]; exact h1, h2⟩)
    refine ⟨a :: xs, by simp [hl], by simp only [List.map_cons, List.sum_cons, Rows.uptoBulkAll]; omega, fun i b hb => ?_⟩
    cases i with
    | zero => simp at hb; subst hb; exact ⟨x, rfl, ha⟩
    | succ i =>
      obtain ⟨d, h1, h2⟩ := hx i b (by simpa using hb)
      exact ⟨d, by simpa using h1, by rw [Nat.add_assoc, Nat.add_comm 1 i] at h2; exact h2⟩

theorem add_add' (a : Addr) (i j : Nat) : (a.add i).add j = a.add (i + j) := by
  cases a
  by_cases hi : i = 0 <;> by_cases hj : j = 0 <;> simp [Addr.add, hi, hj, Nat.add_assoc]

theorem cells_get {w : World} {base : Nat} {a : Addr} {n : Nat} {cs : List Value} (h : w.cells? base a n = some cs) : cs.length = n ∧ ∀ i u, cs[i]? = some u → w.cell? (a.add i) = some u := by
  unfold World.cells? at h
  split at h
  case isFalse => cases h
  case isTrue =>
    refine ⟨by simpa using mapM_some_length h, fun i u hu => ?_⟩
    have hi : i < n := by
      have := (List.getElem?_eq_some_iff.1 hu).1
      have hl := mapM_some_length h
      simp at hl; omega
    have hg := mapM_some_get h i i (by simp [hi])
    rw [hu] at hg
    exact hg

theorem Opn.slice {α : Type} {P : Program} {T e : TypeId} {d : Kd α} {meas : α → Nat} {wf : α → Prop} (ht : P.underlying T = some (.slice e)) (hs : P.cellsOf T = 1) (he : Opn P e d meas wf) :
    Opn P T (Kd.slice e d) (fun xs => (xs.map meas).sum + 1) (fun xs => ∀ x ∈ xs, wf x) := by
  refine ⟨hs, fun {H enc w base spare held fuel cs x} h => ?_⟩
  rcases DataW.trod_slice ht h with ⟨rfl, rfl⟩ | ⟨a, len, cap, elems, rest, n, _, rfl, rfl, hb, hl, hm, hlen, hel, hsp, hns⟩
  · exact ⟨[], ⟨none, 0, rfl, by simp, ⟨rfl, by simp, fun h => by simp at h⟩⟩, by simp [Rows.uptoBulk], by simp⟩
  · obtain ⟨xs, hxl, hxs, hx⟩ := all_sum (H := H) meas (fun i a' _ => wf a' ∧ ∃ c, c.length = d.sz ∧ d.K w a' c ∧ ∀ j u, c[j]? = some u → w.cell? (a.add (i * d.sz + j)) = some u) (elems.map (·.1)) 0 (by
      intro i dd hd
      have hi : i < len := by
        have := (List.getElem?_eq_some_iff.1 hd).1
        simp at this; omega
      obtain ⟨y, hy, rfl⟩ : ∃ y, elems[i]? = some y ∧ y.1 = dd := by
        rw [List.getElem?_map] at hd
        cases hq : elems[i]? with
        | none => rw [hq] at hd; simp at hd
        | some y => rw [hq] at hd; exact ⟨y, rfl, by simpa using hd⟩
      have h1 := hel i hi
      rw [hy, Option.bind_eq_some_iff] at h1
      obtain ⟨c, hc, hty⟩ := h1
      obtain ⟨a', hk, hme, hw⟩ := he.opn hty
      obtain ⟨hcl, hcell⟩ := cells_get hc
      refine ⟨a', ⟨hw, c, by rw [hcl, he.size], hk, fun j u hu => ?_⟩, hme⟩
      have := hcell j u hu
      rw [he.size, add_add'] at this
      rw [Nat.zero_add]; exact this)
    have hxl' : xs.length = len := by rw [hxl, List.length_map, hlen]
    refine ⟨xs, ⟨some a, cap, by rw [hxl'], by omega, ⟨rfl, by unfold maxLen at hm; omega, fun _ => ⟨a, rfl, fun j p hp => ?_⟩⟩⟩, ?_, fun x hx' => ?_⟩
    · obtain ⟨_, _, _, c, h1, h2, h3⟩ := hx j p hp
      rw [Nat.zero_add] at h3
      exact ⟨c, h1, h2, h3⟩
    · simp only [Rows.uptoBulk]; omega
    · obtain ⟨i, hi, rfl⟩ := List.getElem_of_mem hx'
      obtain ⟨_, _, hw, _⟩ := hx i _ (List.getElem?_eq_getElem hi)
      exact hw

/-- A struct's fields, from one on. -/
structure OpnF {α : Type} (P : Program) (fs : List Field) (off : Nat) (d : Kd α) (meas : α → Nat) (wf : α → Prop) : Prop where
  opn : ∀ {H : Type} {enc : TypeId × Value → H} {w : World} {base : Nat} {spare : Nat → Bool} {held : Bool} {n : Nat} {cs : List Value} {xs : List (DataW H × List MemPlace)},
    (∀ (i : Nat) (f : Field), fs[i]? = some f → DataW.trod enc P w base spare held n f.type ((cs.drop f.offset).take (P.cellsOf f.type)) = xs[i]?) → xs.length = fs.length → cs.length = off + d.sz →
    ∃ a, d.K w a (cs.drop off) ∧ meas a ≤ Rows.uptoBulkAll (xs.map (·.1)) ∧ wf a

theorem OpnF.one {α : Type} {P : Program} {f : Field} {off : Nat} {d : Kd α} {meas : α → Nat} {wf : α → Prop} (h : Opn P f.type d meas wf) (ho : f.offset = off) : OpnF P [f] off d meas wf := by
  refine ⟨fun {H enc w base spare held n cs xs} hf hl hc => ?_⟩
  obtain ⟨y, rfl⟩ : ∃ y, xs = [y] := by
    match xs, hl with
    | [y], _ => exact ⟨y, rfl⟩
  have h1 := hf 0 f rfl
  rw [ho, h.size, List.take_of_length_le (by rw [List.length_drop]; omega)] at h1
  obtain ⟨a, hk, hm, hw⟩ := h.opn (x := y) (by simpa using h1)
  exact ⟨a, hk, by simp [Rows.uptoBulkAll]; omega, hw⟩
theorem OpnF.cons {α β : Type} {P : Program} {f : Field} {fs : List Field} {off : Nat} {d : Kd α} {d' : Kd β} {meas : α → Nat} {meas' : β → Nat} {wf : α → Prop} {wf' : β → Prop} (h : Opn P f.type d meas wf) (ho : f.offset = off) (h' : OpnF P fs (off + d.sz) d' meas' wf') :
    OpnF P (f :: fs) off (Kd.pair d d') (fun x => meas x.1 + meas' x.2) (fun x => wf x.1 ∧ wf' x.2) := by
  refine ⟨fun {H enc w base spare held n cs xs} hf hl hc => ?_⟩
  obtain ⟨y, ys, rfl⟩ : ∃ y ys, xs = y :: ys := by
    match xs, hl with
    | y :: ys, _ => exact ⟨y, ys, rfl⟩
  have hc' : cs.length = off + (d.sz + d'.sz) := hc
  have h1 := hf 0 f rfl
  rw [ho, h.size] at h1
  obtain ⟨a, hk, hm, hw⟩ := h.opn (x := y) (by simpa using h1)
  obtain ⟨b, hk', hm', hw'⟩ := h'.opn (xs := ys) (cs := cs) (fun i g hg => by simpa using hf (i + 1) g (by simpa using hg)) (by simpa using hl) (by omega)
  refine ⟨(a, b), ⟨_, _, ?_, hk, hk'⟩, by simp only [List.map_cons, Rows.uptoBulkAll]; omega, hw, hw'⟩
  rw [← List.drop_drop, List.take_append_drop]

theorem Opn.struct {α β : Type} {P : Program} {T : TypeId} {fs : Array Field} {d : Kd α} {meas : α → Nat} {wf : α → Prop} (ht : P.underlying T = some (.struct fs)) (hs : P.cellsOf T = d.sz) (h : OpnF P fs.toList 0 d meas wf)
    (f : β → α) (g : α → β) (hfg : ∀ a, f (g a) = a) : Opn P T (Kd.iso d f) (fun x => meas (f x) + 1) (fun x => wf (f x)) := by
  refine ⟨hs, fun {H enc w base spare held fuel cs x} hx => ?_⟩
  obtain ⟨xs, n, _, rfl, hl, hlen, hf⟩ := DataW.trod_struct ht hx
  obtain ⟨a, hk, hm, hw⟩ := h.opn (fun i f hi => hf i f (by simpa using hi)) (by simpa using hlen) (by rw [hl, hs]; simp)
  rw [List.drop_zero] at hk
  exact ⟨g a, by show d.K w (f (g a)) cs; rw [hfg]; exact hk, by simp only [hfg, Rows.uptoBulk]; omega, by simpa only [hfg] using hw⟩

end Go.Proofs.YtecfmmalbehcnaaDoor.V
