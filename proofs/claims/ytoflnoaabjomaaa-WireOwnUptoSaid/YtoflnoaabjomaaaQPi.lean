import Derived.Test.YtoflnoaabjomaaaQFeed
namespace Go.Proofs.Ytoflnoaabjomaaa.Q
open Go.RowKit Go.Proofs.YtoflnoaabjomaaaW.PrintWords Go.Proofs.YtoflnoaabjomaaaW.PrintLast Go.Proofs.YtoflnoaabjomaaaW.PrintMore Go.Proofs.YtoflnoaabjomaaaV
set_option linter.unusedVariables false
set_option linter.unusedSimpArgs false

/-- Two values' blocks are apart. -/
def Ap (v u : Value) : Prop := ∀ k, v.ownBlock = some k → u.ownBlock ≠ some k
theorem Ap.symm {v u : Value} (h : Ap v u) : Ap u v := fun k e e' => h k e' e
theorem Ap.nil (c : Nat) (n : Nat) (u : Value) : Ap (.slice none n c) u := fun k e => by simp [Value.ownBlock] at e
section
variable {w w' : World} {B g gi : Nat} {v vi : Value} {limit last lasti : Int} {cur curi : List Int} {lost losti : Int}
theorem StAt.quiet (h : StAt w B g v limit last cur lost) (hk : Keep w w' (fun _ => False)) : StAt w' B g v limit last cur lost := h.keep hk (fun h => h) (fun _ _ h => h)
theorem StAt.byFeed (h : StAt w B g v limit last cur lost) (hi : StAt w B gi vi limit lasti curi losti) (hg : g ≠ gi) (ha : Ap v vi) (hk : Keep w w' (fun k => k = gi ∨ some k = vi.ownBlock)) : StAt w' B g v limit last cur lost := by
  refine h.keep hk ?_ ?_
  · rintro (e | e)
    · exact hg e
    · obtain ⟨cs, fr, h2⟩ := R_typed hi.row g e.symm
      exact ne_typed h.blk h2 (by decide) rfl
  · intro k e
    rintro (e2 | e2)
    · obtain ⟨cs, fr, h2⟩ := R_typed h.row k e
      exact ne_typed h2 hi.blk (by decide) e2
    · exact ha k e e2.symm
theorem StAt.byRow (h : StAt w B g v limit last cur lost) {u : Value} {xs : List ByteArray} {n : Nat} {ok : Nat → Prop} (hr : Kd.R Kd.string 9 w n ok u xs) (hk : Keep w w' (fun k => some k = u.ownBlock)) : StAt w' B g v limit last cur lost := by
  refine h.keep hk ?_ ?_
  · intro e
    obtain ⟨cs, fr, h2⟩ := R_typed hr g e.symm
    exact ne_typed h.blk h2 (by decide) rfl
  · intro k e e2
    obtain ⟨cs, fr, h1⟩ := R_typed h.row k e
    obtain ⟨cs, fr, h2⟩ := R_typed hr k e2.symm
    exact ne_typed h1 h2 (by decide) rfl
theorem rowByFeed {u : Value} {xs : List ByteArray} {n : Nat} {ok : Nat → Prop} (hr : Kd.R Kd.string 9 w n ok u xs) (hi : StAt w B gi vi limit lasti curi losti) (hk : Keep w w' (fun k => k = gi ∨ some k = vi.ownBlock)) : Kd.R Kd.string 9 w' n ok u xs :=
  R_keep hr hk (fun k e => by
    obtain ⟨cs, fr, h1⟩ := R_typed hr k e
    rintro (e2 | e2)
    · exact ne_typed h1 hi.blk (by decide) e2
    · obtain ⟨cs, fr, h2⟩ := R_typed hi.row k e2.symm
      exact ne_typed h1 h2 (by decide) rfl)
theorem rowByRow {u u2 : Value} {xs : List ByteArray} {n : Nat} {ok : Nat → Prop} (hr : Kd.R Kd.string 9 w n ok u xs) (ha : Ap u u2) (hk : Keep w w' (fun k => some k = u2.ownBlock)) : Kd.R Kd.string 9 w' n ok u xs :=
  R_keep hr hk (fun k e e2 => ha k e e2.symm)
theorem StAt.footS (h : StAt w B g v limit last cur lost) (hB : B ≤ w.heap.size) (hk : Keep w w' (fun k => k = g ∨ some k = v.ownBlock)) : Below B w w' :=
  hk.below hB (fun k hc => by
    rcases hc with rfl | hc
    · exact h.ge
    · obtain ⟨inner, ho⟩ := Kd.R_own h.row
      exact own_base ho k hc.symm)
/-- What a feed leaves apart. -/
theorem Ap.fed {v' u : Value} (ha : Ap v u) (hu : ∀ k, u.ownBlock = some k → k < w.heap.size) (hv : ∀ k, v'.ownBlock = some k → some k = v.ownBlock ∨ w.heap.size ≤ k) : Ap v' u := by
  intro k e e2
  rcases hv k e with h | h
  · exact ha k h.symm e2
  · have := hu k e2; omega
end
theorem StAt.old {w : World} {B g : Nat} {v : Value} {limit last : Int} {cur : List Int} {lost : Int} (h : StAt w B g v limit last cur lost) : ∀ k, v.ownBlock = some k → k < w.heap.size := R_lt' h.row
theorem Stream_FeedN {w : World} {B g : Nat} {v : Value} {limit last : Int} {cur : List Int} {lost : Int} (h : StAt w B g v limit last cur lost) (hs : 1 ≤ limit ∧ limit ≤ 1024) (A1 : Option Addr) (n c1 : Nat) (b : List Int) (hn : b.length = n)
    (hin : ∀ w', Keep w w' (fun k => k = g ∨ some k = v.ownBlock) → Kd.C (Kd.int .u8) w' A1 b.length b) (hB : B ≤ w.heap.size) (hlen : cur.length + b.length ≤ 1073741824) (hlost : 0 ≤ lost ∧ lost ≤ 1073741824) {cur' : List Int} {lost' : Int} {outs : List ByteArray} (hf : feedS limit b cur lost = ((cur', lost'), outs)) :
    Calls Try.prog 25 #[.pointer (some ⟨g, 0, none⟩), .slice A1 n c1] w fun e w' => ∃ A c v' last', e = .returned (.slice A outs.length c) ∧ StAt w' B g v' limit last' cur' lost' ∧ Kd.R Kd.string 9 w' w.heap.size (fun _ => True) (.slice A outs.length c) outs ∧ Keep w w' (fun k => k = g ∨ some k = v.ownBlock) ∧ (∀ k, v'.ownBlock = some k → some k = v.ownBlock ∨ w.heap.size ≤ k) := by
  subst hn
  exact Stream_Feed h hs A1 c1 b hin hB hlen hlost hf
theorem feed_cutat (limit : Int) (b : List Int) (n : Nat) {c1 c2 cur : List Int} {l1 l2 lost : Int} {o1 o2 outs : List ByteArray} (h1 : feedS limit (b.take n) [] 0 = ((c1, l1), o1)) (h2 : feedS limit (b.drop n) c1 l1 = ((c2, l2), o2)) (h : feedS limit b [] 0 = ((cur, lost), outs)) : c2 = cur ∧ l2 = lost ∧ o1 ++ o2 = outs := by
  have := feedS_app limit (b.take n) (b.drop n) [] 0
  rw [List.take_append_drop, h, h1] at this
  simp only [h2, Prod.mk.injEq] at this
  exact ⟨this.1.1.symm, this.1.2.symm, this.2.symm⟩
theorem feed_push (limit : Int) (b : List Int) (i : Nat) (hi : i < b.length) {c1 c2 : List Int} {l1 l2 : Int} {o1 o2 : List ByteArray} (h1 : feedS limit (b.take i) [] 0 = ((c1, l1), o1)) (h2 : feedS limit ((b.drop i).take 1) c1 l1 = ((c2, l2), o2)) : feedS limit (b.take (i + 1)) [] 0 = ((c2, l2), o1 ++ o2) := by
  rw [List.take_add, feedS_app, h1]
  simp only [h2]
/-- b[i:i+1] -/
theorem run_one {P : Program} (t e : TypeId) (i : TypeInfo) (ht : P.underlying t = some (.slice e)) (hi : P.info? e = some i) (hsz : i.size = 1) (A : Option Addr) (n c : Nat) (j : Nat) (hm : j < n) (hc : n ≤ c) :
    ∃ A' : Option Addr, (∀ W : World, (Instr.slice t (.slice A n c) (some (.int .i64 j)) (some (.int .i64 ((j : Int) + 1))) none).run P W = .ok (.slice A' 1 (c - j)) W) ∧ ∀ (w : World) (l : List Int), l.length = n → Kd.C (Kd.int .u8) w A l.length l → Kd.C (Kd.int .u8) w A' ((l.drop j).take 1).length ((l.drop j).take 1) := by
  refine ⟨A.map (·.add j), fun W => ?_, fun w l hl h => ?_⟩
  · have hel : P.elem t = e := by simp [Program.elem, ht]
    have hu : P.underlying t = some (.slice (P.elem t)) := by rw [hel]; exact ht
    rw [run_slice_lh W t A n c hu .i64 .i64 j ((j : Int) + 1) (by omega) (by omega) (by omega), hel]
    have : (j : Int) + 1 - j = 1 := by omega
    simp [sizeOf, typeInfo, hi, hsz, sliced, Result.andThen]
    omega
  · exact C_take (C_drop h _) 1
theorem StAt.at0 {w : World} {B B' g : Nat} {limit last : Int} {lost : Int} (h : StAt w B g (.slice none 0 0) limit last [] lost) (hB : B' ≤ g) : StAt w B' g (.slice none 0 0) limit last [] lost :=
  ⟨h.blk, by rw [List.take_nil]; exact Kd.R_nil _ _ _ _ _, hB, h.lst⟩
/-- Three streams that are apart. -/
structure Three (w : World) (B : Nat) (a0 : Int) (g1 g2 g3 : Nat) (v1 v2 v3 : Value) (t1 t2 t3 : Int) (c1 c2 c3 : List Int) (l1 l2 l3 : Int) : Prop where
  s1 : StAt w B g1 v1 a0 t1 c1 l1
  s2 : StAt w B g2 v2 a0 t2 c2 l2
  s3 : StAt w B g3 v3 a0 t3 c3 l3
  n12 : g1 ≠ g2
  n13 : g1 ≠ g3
  n23 : g2 ≠ g3
  a12 : Ap v1 v2
  a13 : Ap v1 v3
  a23 : Ap v2 v3
section
variable {w w' : World} {B g1 g2 g3 : Nat} {v1 v2 v3 v' : Value} {a0 t1 t2 t3 t' : Int} {c1 c2 c3 c' : List Int} {l1 l2 l3 l' : Int}
theorem Three.quiet (h : Three w B a0 g1 g2 g3 v1 v2 v3 t1 t2 t3 c1 c2 c3 l1 l2 l3) (hk : Keep w w' (fun _ => False)) : Three w' B a0 g1 g2 g3 v1 v2 v3 t1 t2 t3 c1 c2 c3 l1 l2 l3 :=
  ⟨h.s1.quiet hk, h.s2.quiet hk, h.s3.quiet hk, h.n12, h.n13, h.n23, h.a12, h.a13, h.a23⟩
theorem Three.byRow (h : Three w B a0 g1 g2 g3 v1 v2 v3 t1 t2 t3 c1 c2 c3 l1 l2 l3) {u : Value} {xs : List ByteArray} {n : Nat} {ok : Nat → Prop} (hr : Kd.R Kd.string 9 w n ok u xs) (hk : Keep w w' (fun k => some k = u.ownBlock)) : Three w' B a0 g1 g2 g3 v1 v2 v3 t1 t2 t3 c1 c2 c3 l1 l2 l3 :=
  ⟨h.s1.byRow hr hk, h.s2.byRow hr hk, h.s3.byRow hr hk, h.n12, h.n13, h.n23, h.a12, h.a13, h.a23⟩
theorem Three.f1 (h : Three w B a0 g1 g2 g3 v1 v2 v3 t1 t2 t3 c1 c2 c3 l1 l2 l3) (hs : StAt w' B g1 v' a0 t' c' l') (hk : Keep w w' (fun k => k = g1 ∨ some k = v1.ownBlock)) (hv : ∀ k, v'.ownBlock = some k → some k = v1.ownBlock ∨ w.heap.size ≤ k) : Three w' B a0 g1 g2 g3 v' v2 v3 t' t2 t3 c' c2 c3 l' l2 l3 :=
  ⟨hs, h.s2.byFeed h.s1 h.n12.symm h.a12.symm hk, h.s3.byFeed h.s1 h.n13.symm h.a13.symm hk, h.n12, h.n13, h.n23, h.a12.fed h.s2.old hv, h.a13.fed h.s3.old hv, h.a23⟩
theorem Three.f2 (h : Three w B a0 g1 g2 g3 v1 v2 v3 t1 t2 t3 c1 c2 c3 l1 l2 l3) (hs : StAt w' B g2 v' a0 t' c' l') (hk : Keep w w' (fun k => k = g2 ∨ some k = v2.ownBlock)) (hv : ∀ k, v'.ownBlock = some k → some k = v2.ownBlock ∨ w.heap.size ≤ k) : Three w' B a0 g1 g2 g3 v1 v' v3 t1 t' t3 c1 c' c3 l1 l' l3 :=
  ⟨h.s1.byFeed h.s2 h.n12 h.a12 hk, hs, h.s3.byFeed h.s2 h.n23.symm h.a23.symm hk, h.n12, h.n13, h.n23, (h.a12.symm.fed h.s1.old hv).symm, h.a13, h.a23.fed h.s3.old hv⟩
theorem Three.f3 (h : Three w B a0 g1 g2 g3 v1 v2 v3 t1 t2 t3 c1 c2 c3 l1 l2 l3) (hs : StAt w' B g3 v' a0 t' c' l') (hk : Keep w w' (fun k => k = g3 ∨ some k = v3.ownBlock)) (hv : ∀ k, v'.ownBlock = some k → some k = v3.ownBlock ∨ w.heap.size ≤ k) : Three w' B a0 g1 g2 g3 v1 v2 v' t1 t2 t' c1 c2 c' l1 l2 l' :=
  ⟨h.s1.byFeed h.s3 h.n13 h.a13 hk, h.s2.byFeed h.s3 h.n23 h.a23 hk, hs, h.n12, h.n13, h.n23, h.a12, (h.a13.symm.fed h.s1.old hv).symm, (h.a23.symm.fed h.s2.old hv).symm⟩
end
/-- A row of texts whose block lies between lo (its base) and hi. -/
structure RowAt (w : World) (lo hi : Nat) (A : Option Addr) (c : Nat) (xs : List ByteArray) : Prop where
  row : Kd.R Kd.string 9 w lo (fun _ => True) (.slice A xs.length c) xs
  old : ∀ k, (Value.slice A xs.length c).ownBlock = some k → k < hi
theorem RowAt.mk' {w : World} {lo : Nat} {A : Option Addr} {c : Nat} {xs : List ByteArray} (h : Kd.R Kd.string 9 w lo (fun _ => True) (.slice A xs.length c) xs) : RowAt w lo w.heap.size A c xs := ⟨h, R_lt' h⟩
theorem RowAt.le {w : World} {lo hi hi' : Nat} {A : Option Addr} {c : Nat} {xs : List ByteArray} (h : RowAt w lo hi A c xs) (hh : hi ≤ hi') : RowAt w lo hi' A c xs := ⟨h.row, fun k e => Nat.lt_of_lt_of_le (h.old k e) hh⟩
theorem RowAt.quiet {w w' : World} {lo hi : Nat} {A : Option Addr} {c : Nat} {xs : List ByteArray} (h : RowAt w lo hi A c xs) (hk : Keep w w' (fun _ => False)) : RowAt w' lo hi A c xs := ⟨R_keep h.row hk (fun _ _ h => h), h.old⟩
theorem RowAt.byFeed {w w' : World} {lo hi B g : Nat} {v : Value} {a0 t l : Int} {cu : List Int} {A : Option Addr} {c : Nat} {xs : List ByteArray} (h : RowAt w lo hi A c xs) (hi' : StAt w B g v a0 t cu l) (hk : Keep w w' (fun k => k = g ∨ some k = v.ownBlock)) : RowAt w' lo hi A c xs := ⟨rowByFeed h.row hi' hk, h.old⟩
theorem RowAt.byRow {w w' : World} {lo hi lo2 hi2 : Nat} {A A2 : Option Addr} {c c2 : Nat} {xs xs2 : List ByteArray} (h : RowAt w lo hi A c xs) (h2 : RowAt w lo2 hi2 A2 c2 xs2) (hlt : hi ≤ lo2) (hk : Keep w w' (fun k => some k = (Value.slice A2 xs2.length c2).ownBlock)) : RowAt w' lo hi A c xs :=
  ⟨R_keep h.row hk (fun k e e2 => by
    obtain ⟨inner, ho⟩ := Kd.R_own h2.row
    have h3 := own_base ho k e2.symm
    have h4 := h.old k e
    omega), h.old⟩
end Go.Proofs.Ytoflnoaabjomaaa.Q
