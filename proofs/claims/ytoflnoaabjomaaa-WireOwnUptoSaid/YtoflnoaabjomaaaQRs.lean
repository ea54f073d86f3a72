import Derived.Test.YtoflnoaabjomaaaQFeed
namespace Go.Proofs.Ytoflnoaabjomaaa.Q
open Go.RowKit Go.Proofs.YtoflnoaabjomaaaW.PrintWords Go.Proofs.YtoflnoaabjomaaaW.PrintLast Go.Proofs.YtoflnoaabjomaaaW.PrintMore Go.Proofs.YtoflnoaabjomaaaV
set_option linter.unusedVariables false
set_option linter.unusedSimpArgs false

/-- What stands behind the last line end. -/
def lastp (al : List Int) : List Int := (Pure.cutI al).getLastD []
theorem gl (l : List (List Int)) (a : List Int) : (l ++ [a]).getLastD [] = a := by simp [List.getLastD_eq_getLast?]
theorem cut_split (al : List Int) : Pure.cutI al = (Pure.cutI al).dropLast ++ [lastp al] := by
  have h := Pure.cutI_ne al
  unfold lastp
  rw [List.getLastD_eq_getLast?, List.getLast?_eq_some_getLast h]
  exact (List.dropLast_concat_getLast h).symm
theorem cut_app (b : List Int) : ∀ al : List Int, Pure.cutI (al ++ b) = (Pure.cutI al).dropLast ++ Pure.cutI (lastp al ++ b) := by
  intro al
  induction al with
  | nil => rfl
  | cons x r ih =>
    have hs := cut_split r
    by_cases h : x = 10
    · have e : Pure.cutI (x :: r) = [] :: Pure.cutI r := by simp [Pure.cutI, h]
      have e2 : Pure.cutI (x :: r ++ b) = [] :: Pure.cutI (r ++ b) := by simp [Pure.cutI, h]
      have hl : lastp (x :: r) = lastp r := by
        unfold lastp
        rw [e]
        have hn := Pure.cutI_ne r
        cases hc : Pure.cutI r with
        | nil => exact absurd hc hn
        | cons y t => rfl
      rw [e2, ih, e, hl]
      rw [List.dropLast_cons_of_ne_nil (Pure.cutI_ne r)]
      rfl
    · cases hd : (Pure.cutI r).dropLast with
      | nil =>
        rw [hd, List.nil_append] at hs ih
        have e : Pure.cutI (x :: r) = [x :: lastp r] := by simp [Pure.cutI, h, hs]
        have hl : lastp (x :: r) = x :: lastp r := by unfold lastp; rw [e]; rfl
        rw [e, hl]
        show Pure.cutI (x :: (r ++ b)) = [] ++ Pure.cutI (x :: (lastp r ++ b))
        simp only [Pure.cutI, h, if_false, ih, List.nil_append]
      | cons p ps =>
        rw [hd, List.cons_append] at hs ih
        have e : Pure.cutI (x :: r) = (x :: p) :: (ps ++ [lastp r]) := by simp [Pure.cutI, h, hs]
        have hl : lastp (x :: r) = lastp r := by show (Pure.cutI (x :: r)).getLastD [] = _; rw [e]; exact gl ((x :: p) :: ps) _
        rw [e, hl]
        show Pure.cutI (x :: (r ++ b)) = _
        simp only [Pure.cutI, h, if_false, ih]
        rw [show (x :: p) :: (ps ++ [lastp r]) = ((x :: p) :: ps) ++ [lastp r] from rfl, List.dropLast_concat]
        rfl
theorem last_no10 : ∀ al : List Int, ∀ x ∈ lastp al, x ≠ 10 := by
  intro al
  induction al with
  | nil => intro x hx; cases hx
  | cons y r ih =>
    have hs := cut_split r
    by_cases h : y = 10
    · have e : Pure.cutI (y :: r) = [] :: Pure.cutI r := by simp [Pure.cutI, h]
      have hl : lastp (y :: r) = lastp r := by
        unfold lastp
        rw [e]
        have hn := Pure.cutI_ne r
        cases hc : Pure.cutI r with
        | nil => exact absurd hc hn
        | cons y t => rfl
      rw [hl]; exact ih
    · cases hd : (Pure.cutI r).dropLast with
      | nil =>
        rw [hd, List.nil_append] at hs
        have e : Pure.cutI (y :: r) = [y :: lastp r] := by simp [Pure.cutI, h, hs]
        have hl : lastp (y :: r) = y :: lastp r := by unfold lastp; rw [e]; rfl
        rw [hl]
        intro x hx
        rcases List.mem_cons.1 hx with rfl | hx
        · exact h
        · exact ih x hx
      | cons p ps =>
        rw [hd, List.cons_append] at hs
        have e : Pure.cutI (y :: r) = (y :: p) :: (ps ++ [lastp r]) := by simp [Pure.cutI, h, hs]
        have hl : lastp (y :: r) = lastp r := by show (Pure.cutI (y :: r)).getLastD [] = _; rw [e]; exact gl ((y :: p) :: ps) _
        rw [hl]; exact ih

def lostS (limit : Int) (ps : List (List Int)) : Int := (ps.map (lostN limit)).sum
def outS (limit : Int) (ps : List (List Int)) : List ByteArray := (ps.map (outL limit)).flatten
theorem feed_cut (limit : Int) : ∀ (b cur : List Int) (lost : Int), (∀ x ∈ cur, x ≠ 10) → feedS limit b cur lost = ((lastp (cur ++ b), lost + lostS limit (Pure.cutI (cur ++ b)).dropLast), outS limit (Pure.cutI (cur ++ b)).dropLast) := by
  intro b
  induction b with
  | nil =>
    intro cur lost hc
    rw [List.append_nil, Pure.cutI_none cur hc]
    unfold lastp
    rw [Pure.cutI_none cur hc]
    simp [feedS, lostS, outS]
  | cons c r ih =>
    intro cur lost hc
    by_cases h : c = 10
    · subst h
      have e := Pure.cutI_at cur r hc
      have hn := Pure.cutI_ne r
      have hl : lastp (cur ++ 10 :: r) = lastp r := by
        unfold lastp
        rw [e]
        cases hc : Pure.cutI r with
        | nil => exact absurd hc hn
        | cons y t => rfl
      rw [hl, e, List.dropLast_cons_of_ne_nil hn]
      simp only [feedS, if_true]
      rw [ih [] _ (by simp)]
      simp only [List.nil_append, lostS, outS, List.map_cons, List.sum_cons, List.flatten_cons, Prod.mk.injEq, and_true, true_and]
      omega
    · simp only [feedS, h, if_false]
      rw [ih (cur ++ [c]) lost (by intro x hx; rcases List.mem_append.1 hx with hx | hx; exact hc x hx; simp at hx; subst hx; exact h)]
      rw [List.append_assoc, List.singleton_append]

/-- What a piece does to a stream that has seen al. -/
theorem feed_last (limit : Int) (al b : List Int) (lost : Int) : feedS limit b (lastp al) lost = ((lastp (al ++ b), lost + lostS limit ((Pure.cutI (al ++ b)).dropLast.drop ((Pure.cutI al).length - 1))), outS limit ((Pure.cutI (al ++ b)).dropLast.drop ((Pure.cutI al).length - 1))) := by
  rw [feed_cut limit b (lastp al) lost (last_no10 al)]
  have h := cut_app b al
  have hn := Pure.cutI_ne (lastp al ++ b)
  have e1 : lastp (al ++ b) = lastp (lastp al ++ b) := by
    show (Pure.cutI (al ++ b)).getLastD [] = _
    rw [h, cut_split (lastp al ++ b), ← List.append_assoc, gl]
  have e2 : (Pure.cutI (al ++ b)).dropLast = (Pure.cutI al).dropLast ++ (Pure.cutI (lastp al ++ b)).dropLast := by
    rw [h, List.dropLast_append_of_ne_nil hn]
  rw [e1, e2, List.drop_left' (by rw [List.length_dropLast])]

theorem str_app (a b : List Int) : strOfNums a ++ strOfNums b = strOfNums (a ++ b) := by
  apply ByteArray.ext
  simp [strOfNums]
theorem lastp_bytes (al : List Int) (h : bytesIn al) : bytesIn (lastp al) := by
  have hs := cut_split al
  exact (Pure.cutI_bytes al h (lastp al) (by rw [hs]; simp)).1
/-- The reference's stream. -/
structure RsAt (w : World) (B g : Nat) (limit : Int) (al : List Int) (gone : Int) : Prop where
  blk : w.heap[g]? = some (.cells #[.int .i64 limit, .string (strOfNums al), .int .i64 (((Pure.cutI al).length : Int) - 1), .int .i64 gone] 55 (0, 0))
  ge : B ≤ g
theorem RsAt.keep {w w' : World} {B g : Nat} {limit : Int} {al : List Int} {gone : Int} {S : Nat → Prop} (h : RsAt w B g limit al gone) (hk : Keep w w' S) (hg : ¬ S g) : RsAt w' B g limit al gone :=
  ⟨(hk.block g (blk_lt h.blk) hg).trans h.blk, h.ge⟩

theorem take_drop_push {α : Type} (l : List α) (a i : Nat) (ha : a ≤ i) (hi : i < l.length) : (l.take (i + 1)).drop a = (l.take i).drop a ++ [l[i]] := by
  rw [List.take_succ_eq_append_getElem hi, List.drop_append_of_le_length (by rw [List.length_take]; omega)]

set_option maxHeartbeats 3200000 in
set_option maxRecDepth 4000 in
theorem RS_Feed {w : World} {B g : Nat} {limit : Int} {al : List Int} {gone : Int} (h : RsAt w B g limit al gone) (hs : 1 ≤ limit ∧ limit ≤ 1024) (A1 : Option Addr) (c1 : Nat) (b : List Int)
    (hin : Kd.C (Kd.int .u8) w A1 b.length b) (hB : B ≤ w.heap.size) (hbb : bytesIn b) (hba : bytesIn al) (hlen : al.length + b.length ≤ 1048576) (hlost : 0 ≤ gone ∧ gone ≤ 1073741824) {cur' : List Int} {lost' : Int} {outs : List ByteArray} (hf : feedS limit b (lastp al) gone = ((cur', lost'), outs)) :
    Calls Try.prog 26 #[.pointer (some ⟨g, 0, none⟩), .slice A1 b.length c1] w fun e w' => ∃ A c, e = .returned (.slice A outs.length c) ∧ RsAt w' B g limit (al ++ b) lost' ∧ Kd.R Kd.string 9 w' w.heap.size (fun _ => True) (.slice A outs.length c) outs ∧ Keep w w' (fun k => k = g) := by
  have hwd : ∀ k : Nat, w.drew.heap[k]? = w.heap[k]? := fun _ => rfl
  have b0 := (hwd g).trans h.blk
  have c0 := blk_cell b0 0
  have c1' := blk_cell b0 1
  have f1 := blk_frozen b0 1
  have hcv := Kd.C_string (P := Try.prog) (A := A1) (c := c1) Try.underlying22 Try.underlying5 Try.underlying9 (w := w.drew) hin
  have hsa : (strOfNums al).size = al.length := Pure.str_size al
  have hsb : (strOfNums b).size = b.length := Pure.str_size b
  have happ := str_app al b
  obtain ⟨sa, hsa'⟩ : ∃ s, s = strOfNums al := ⟨_, rfl⟩
  obtain ⟨sb, hsb'⟩ : ∃ s, s = strOfNums b := ⟨_, rfl⟩
  rw [← hsa'] at hsa happ c1'
  rw [← hsb'] at hsb happ hcv
  have HApp := Aside0.mk happ
  have HM := Aside0.mk h
  have HF := Aside0.mk hf
  have b1 := blk_put b0 1 (.string (sa ++ sb)) rfl
  have b1' := blk_put h.blk 1 (.string (sa ++ sb)) rfl
  have g1 := blk_cell b1' 1
  have HB1 := Aside0.mk b1
  have hK0 : Keep w (w.drew.setCell ⟨g, 1, none⟩ (.string (sa ++ sb))) (fun k => k = g) := ((Keep.refl w (fun k => k = g)).drew).set ⟨g, 1, none⟩ _ (.inl rfl)
  have HK0 := Aside0.mk hK0
  obtain ⟨ps, hps⟩ : ∃ ps, ps = Pure.cutI (al ++ b) := ⟨_, rfl⟩
  have hpl := Pure.cutI_length (al ++ b)
  have hpl2 := Pure.cutI_length al
  rw [List.length_append] at hpl
  have hab : bytesIn (al ++ b) := fun x hx => by rcases List.mem_append.1 hx with hx | hx; exact hba x hx; exact hbb x hx
  have hpb := Pure.cutI_bytes (al ++ b) hab
  have hcut := Pure.cut_f (al ++ b) hab (by rw [List.length_append]; omega) ((al ++ b).length + 2) (by omega)
  have hca := congrArg List.length (cut_app b al)
  have hne := List.length_pos_iff.2 (Pure.cutI_ne (lastp al ++ b))
  have hne2 := List.length_pos_iff.2 (Pure.cutI_ne al)
  simp only [List.length_append, List.length_dropLast] at hca
  have hfl := feed_last limit al b gone
  rw [← hps] at hpl hpb hcut hca hfl
  rw [← happ] at hcut
  have HF := Aside0.mk (hf.symm.trans hfl)
  obtain ⟨p0, hp0⟩ : ∃ p0, p0 = (Pure.cutI al).length - 1 := ⟨_, rfl⟩
  rw [← hp0] at HF
  have HC := Aside0.mk hcut
  have HPS := Aside0.mk hps
  have HPB := Aside0.mk hpb
  have hp1 : p0 + 1 ≤ ps.length := by omega
  have hp2 : (((Pure.cutI al).length : Int) - 1) = (p0 : Int) := by omega
  have hp3 : ps.length ≤ 1048577 := by omega
  have hgl := blk_lt h.blk
  have HP2 := Aside0.mk hp2
  clear hca hne hne2 hp0 hp2 hfl hps hpb hcut hab hpl hpl2 b1 b1' hK0
  clear hsa' hsb' happ hin hf h b0 hwd
  obtain ⟨P, hP⟩ : ∃ P : List ByteArray, P = ps.map strOfNums := ⟨_, rfl⟩
  have hPl : P.length = ps.length := by rw [hP, List.length_map]
  rw [← hP] at HC
  have HP := Aside0.mk hP
  clear hP
  go_enter Try.func26, Try.ntmps26
  go_wp2
  go_region
  go_wp2_with (first
    | (go_at_call 32; (with_reducible refine (tumblerref05_cut.calls _ _ P _ HC.out).mono ?_); rintro e w2 ⟨v0, rfl, ho2, hb2⟩; obtain ⟨Ap, cp, ev⟩ := Kd.R_slice ho2; subst ev; have HPr := Aside0.mk ho2; have e2 := (hb2.block g (blk_lt HB1.out)).trans HB1.out; have q0 := blk_cell e2 2; rw [show (#[Value.int .i64 limit, .string (strOfNums al), .int .i64 (((Pure.cutI al).length : Int) - 1), .int .i64 gone].setIfInBounds 1 (.string (sa ++ sb)))[2]? = some (.int .i64 (((Pure.cutI al).length : Int) - 1)) from rfl] at q0; have HE2 := Aside0.mk e2; have HK2 := Aside0.mk (HK0.out.trans (Keep.of_below (S := fun k => k = g) hb2) (fun _ _ h => h) (fun _ _ h => h)); clear hb2 ho2 e2))
  have he2 : w2.heap[g]? = some (.cells #[.int .i64 limit, .string (sa ++ sb), .int .i64 (p0 : Int), .int .i64 gone] 55 (0, 0)) := by
    have := HE2.out
    rw [HP2.out] at this
    exact this
  have HB2 := Aside0.mk he2
  have hz2 := HK2.out.size
  clear he2 HE2 HB1 HK0 q0 g1
  go_loopg [6, 7] ps.length (fun kq v6 v7 w' => ∃ (i : Nat) (A : Option Addr) (c : Nat) (gone1 : Int) (acc : List ByteArray), v6 = .slice A acc.length c ∧ v7 = .int .i64 i ∧ i + kq = p0 + ps.length ∧ p0 ≤ i ∧ i + 1 ≤ ps.length ∧ Aside0 (acc = outS limit ((ps.take i).drop p0) ∧ gone1 = gone + lostS limit ((ps.take i).drop p0)) ∧ Aside0 (w'.heap[g]? = some (.cells #[.int .i64 limit, .string (sa ++ sb), .int .i64 (p0 : Int), .int .i64 gone1] 55 (0, 0))) ∧ Aside0 (Kd.R Kd.string 9 w' w2.heap.size (fun _ => True) (.slice A acc.length c) acc) ∧ Aside0 (Keep w2 w' (fun k => k = g)) ∧ acc.length ≤ i ∧ gone ≤ gone1 ∧ gone1 ≤ gone + i)
  case atStart =>
    have hdt : (ps.take p0).drop p0 = [] := List.drop_eq_nil_of_le (by rw [List.length_take]; omega)
    exact ⟨p0, none, 0, gone, [], rfl, by rw [HP2.out], by omega, by omega, by omega, ⟨by rw [hdt]; simp [outS, lostS]⟩, HB2, ⟨Kd.R_nil _ _ _ _ _⟩, ⟨Keep.refl _ _⟩, by simp, by omega, by omega⟩
  case round =>
    obtain ⟨i, A, c, gone1, acc, rfl, rfl, hiq, hi1, hi2, HE, HBk, HO, HKk, hal, hg1, hg2⟩ := hrel
    have hz3 := HKk.out.size
    by_cases hlt : i + 1 < ps.length
    · cases gk with
      | zero => omega
      | succ k1 =>
        have hPw := R_keep HPr.out HKk.out (fun k e eg => by subst eg; obtain ⟨cs, fr, h1⟩ := R_typed HPr.out k e; exact ne_typed h1 HB2.out (by decide) rfl)
        have hPC := (Kd.R_reads' hPw).2.2
        obtain ⟨ad, eA, -⟩ := Kd.at_string hPC (i : Int) (by omega) (by omega)
        subst eA
        have hcell := at_S2 hPC (s := P[i]'(by omega)) (by omega) rfl
        have hPi : P[i]'(by omega) = strOfNums ps[i] := by simp [HP.out]
        obtain ⟨cur, hcur⟩ : ∃ cur, cur = ps[i] := ⟨_, rfl⟩
        rw [hPi, ← hcur] at hcell
        have hcb := HPB.out cur (by rw [hcur]; exact List.getElem_mem _)
        have hbf := Pure.bare_f cur hcb.1 (by have := hcb.2; rw [List.length_append] at this; omega)
        have hstep := take_drop_push ps p0 i hi1 (by omega)
        rw [← hcur] at hstep
        have hos : outS limit ((ps.take (i + 1)).drop p0) = outS limit ((ps.take i).drop p0) ++ outL limit cur := by rw [hstep]; simp [outS]
        have hls : lostS limit ((ps.take (i + 1)).drop p0) = lostS limit ((ps.take i).drop p0) + lostN limit cur := by rw [hstep]; simp [lostS]
        have HOS := Aside0.mk hos
        have HLS := Aside0.mk hls
        have HBF := Aside0.mk hbf
        obtain ⟨t, ht⟩ : ∃ t, t = strOfNums (bareL cur) := ⟨_, rfl⟩
        have htz : t.size = (bareL cur).length := by rw [ht]; exact Pure.str_size _
        rw [← ht] at HBF
        have hol : outL limit cur = if limit < (t.size : Int) then [] else if 0 < t.size then [t] else [] := by unfold outL; rw [htz, ht]
        have hln : lostN limit cur = if limit < (t.size : Int) then 1 else 0 := by unfold lostN; rw [htz]
        have HOL := Aside0.mk hol
        have HLN := Aside0.mk hln
        have htb : t.size ≤ 1048576 := by rw [htz]; have := bareL_len cur; have := hcb.2; rw [List.length_append] at this; omega
        have d1 : decide ((i : Int) < (ps.length : Int) - 1) = true := decide_eq_true (by omega)
        have s0 := blk_cell HBk.out 0
        have s3 := blk_cell HBk.out 3
        have f3 := blk_frozen HBk.out 3
        have HPS3 := Aside0.mk (blk_put HBk.out 3 (.int .i64 (gone1 + 1)) rfl)
        clear hPw hPC hPi hcb hbf hstep hos hls ht htz hol hln hcur
        by_cases hl : limit < (t.size : Int)
        · have d2 : decide (limit < (t.size : Int)) = true := decide_eq_true hl
          go_wp2_with (first
            | (go_at_call 33; (with_reducible refine (tumblerref05_bare.calls _ t _ HBF.out).mono ?_); rintro e w3 ⟨rfl, ⟨nd, rfl⟩⟩))
          go_roundg k1
          case rel =>
            have hk5 : Keep wr ((wr.drewN nd).setCell ⟨g, 3, none⟩ (.int .i64 (gone1 + 1))) (fun k => k = g) := ((Keep.refl wr (fun k => k = g)).drewN nd).set ⟨g, 3, none⟩ _ (.inl rfl)
            refine ⟨i + 1, A, c, gone1 + 1, acc, rfl, by go_num, by omega, by omega, by omega, ⟨by rw [HOS.out, HLS.out, HOL.out, HLN.out, if_pos hl, if_pos hl, List.append_nil, ← HE.out.1]; exact ⟨rfl, by rw [HE.out.2]; omega⟩⟩, HPS3, ⟨R_keep HO.out hk5 (fun k e eg => ?_)⟩, ⟨HKk.out.trans hk5 (fun k _ h => h) (fun k _ h => h)⟩, by omega, by omega, by omega⟩
            obtain ⟨cs, fr, h1⟩ := R_typed HO.out k e
            exact ne_typed h1 HBk.out (by decide) eg
          case measure => omega
        · have d2 : decide (limit < (t.size : Int)) = false := decide_eq_false hl
          by_cases hp : t.size = 0
          · have e1 := str_empty hp
            go_wp2_with (first
              | (go_at_call 33; (with_reducible refine (tumblerref05_bare.calls _ t _ HBF.out).mono ?_); rintro e w3 ⟨rfl, ⟨nd, rfl⟩⟩))
            go_roundg k1
            case rel =>
              have hk5 : Keep wr (wr.drewN nd) (fun k => k = g) := (Keep.refl wr (fun k => k = g)).drewN nd
              exact ⟨i + 1, A, c, gone1, acc, rfl, by go_num, by omega, by omega, by omega, ⟨by rw [HOS.out, HLS.out, HOL.out, HLN.out, if_neg (by omega), if_neg (by omega), if_neg (by omega), List.append_nil, ← HE.out.1]; exact ⟨rfl, by rw [HE.out.2]; omega⟩⟩, ⟨by rw [World.heap_drewN]; exact HBk.out⟩, ⟨R_keep HO.out ((Keep.refl wr (fun _ => False)).drewN nd) (fun _ _ h => h)⟩, ⟨HKk.out.trans hk5 (fun k _ h => h) (fun k _ h => h)⟩, by omega, by omega, by omega⟩
            case measure => omega
          · have e1 := str_full hp
            have HP0 := Aside0.mk (show 0 < t.size ∧ ¬ limit < (t.size : Int) by omega)
            go_wp2_with (first
              | (go_at_call 33; (with_reducible refine (tumblerref05_bare.calls _ t _ HBF.out).mono ?_); rintro e w3 ⟨rfl, ⟨nd, rfl⟩⟩)
              | ((with_reducible refine gate_builtin (b := .append) (xs := #[.tmp 56, .tmp 58]) rfl ?_); at_builtin; refine Kd.R_append Kd.string (w0 := wr.drewN nd) w2.heap.size rfl (.tmp 56) (.tmp 58) 24 9 (.string ⟨#[]⟩) 16 rfl Try.underlying24 info9 rfl (by decide) (by omega) (.slice A acc.length c) acc t [.string t] (fun _ => True) (fun _ => False) rfl rfl ?aP (fun _ hk => hk.elim) ?aF ?aO ?aB ?aS ?aL ?_; (case aP => exact rfl); (case aB => exact Below.refl _ _); (case aF => exact (fun _ _ => trivial)); (case aO => exact R_keep HO.out ((Keep.refl wr (fun _ => False)).drewN nd) (fun _ _ h => h)); (case aS => exact (by simp only [World.heap_drewN]; omega)); (case aL => omega); intro v5 w5 ho5 _ hg5 hat5; obtain ⟨H2, hH2⟩ : ∃ l : List ByteArray, l = acc ++ [t] := ⟨_, rfl⟩; rw [← hH2] at ho5; have NH := Aside0.mk hH2; clear hH2; obtain ⟨A5, c5, ev5⟩ := Kd.R_slice ho5; subst ev5; have HO5 := Aside0.mk ho5; have HG5 := Aside0.mk hg5; clear ho5 hg5 hat5))
            go_roundg k1
            case rel =>
              have hk5 : Keep w2 w5 (fun k => k = g) := ((HKk.out.drewN nd)).grown HG5.out (fun k e => .inr (by obtain ⟨inner, ho⟩ := Kd.R_own HO.out; exact own_base ho k e))
              refine ⟨i + 1, A5, c5, gone1, H2, rfl, by go_num, by omega, by omega, by omega, ⟨by rw [HOS.out, HLS.out, HOL.out, HLN.out, if_neg (Int.not_lt.mpr HP0.out.2), if_neg (Int.not_lt.mpr HP0.out.2), if_pos HP0.out.1, NH.out, ← HE.out.1]; exact ⟨rfl, by rw [HE.out.2]; omega⟩⟩, ⟨?_⟩, HO5, ⟨hk5⟩, by rw [NH.out, List.length_append]; simp; omega, by omega, by omega⟩
              refine (HG5.out.block g (by rw [World.heap_drewN]; exact blk_lt HBk.out) (fun e => ?_)).trans (by rw [World.heap_drewN]; exact HBk.out)
              obtain ⟨cs, fr, h1⟩ := R_typed HO.out g e.symm
              exact ne_typed h1 HBk.out (by decide) rfl
            case measure => omega
    · have d1 : decide ((i : Int) < (ps.length : Int) - 1) = false := decide_eq_false (by omega)
      have hi : i = ps.length - 1 := by omega
      have hdl : (ps.take i).drop p0 = ps.dropLast.drop p0 := by rw [hi, List.dropLast_eq_take]
      have hE := HE.out
      rw [hdl] at hE
      have hF := HF.out
      rw [← hE.1, ← hE.2] at hF
      simp only [Prod.mk.injEq] at hF
      obtain ⟨⟨rfl, rfl⟩, rfl⟩ := hF
      have f2 := blk_frozen HBk.out 2
      have s2 := blk_cell HBk.out 2
      have HPS2 := Aside0.mk (blk_put HBk.out 2 (.int .i64 ((ps.length : Int) - 1)) rfl)
      clear hE hdl
      go_wp2
      go_ret
      refine ⟨A, c, rfl, ⟨?_, HM.out.ge⟩, ?_, HK2.out.trans (HKk.out.set ⟨g, 2, none⟩ _ (.inl rfl)) (fun k _ h => h) (fun k _ h => h)⟩
      · rw [HPS2.out, ← HApp.out, ← HPS.out]
        rfl
      · have := R_keep HO.out ((Keep.refl wr (fun k => k = g)).set ⟨g, 2, none⟩ (.int .i64 ((ps.length : Int) - 1)) (.inl rfl)) (fun k e eg => by obtain ⟨cs, fr, h1⟩ := R_typed HO.out k e; exact ne_typed h1 HBk.out (by decide) eg)
        exact R_tight this (fun k e => ⟨rfl, trivial, by obtain ⟨inner, ho⟩ := Kd.R_own this; have := own_base ho k e; omega⟩)

theorem REnd_f (limit : Int) (hs : 1 ≤ limit ∧ limit ≤ 1024) (al : List Int) (hba : bytesIn al) (hlen : al.length ≤ 1048576) (x y : Int) :
    tumblerref05_Stream_End.f (al.length + 2) limit (strOfNums al) x y = some (strOfNums ((lastp al).take (limit + 1).toNat), limit, strOfNums al, x, y) := by
  unfold tumblerref05_Stream_End.f
  rw [Pure.cut_f al hba hlen (al.length + 2) (by omega)]
  have hn := List.length_pos_iff.2 (Pure.cutI_ne al)
  have hl := Pure.cutI_length al
  have hs2 := cut_split al
  have hr : rdOf ByteArray.empty ((Pure.cutI al).map strOfNums) (((Pure.cutI al).length : Int) - 1) = strOfNums (lastp al) := by
    unfold rdOf
    rw [show (((Pure.cutI al).length : Int) - 1).toNat = (Pure.cutI al).dropLast.length by rw [List.length_dropLast]; omega]
    rw [hs2, List.map_append, List.dropLast_concat, List.getD_eq_getElem?_getD, List.getElem?_append_right (by simp)]
    simp
  simp only [Option.bind_some, List.length_map]
  have e1 : wrap64 (((Pure.cutI al).length : Int) - 1) = ((Pure.cutI al).length : Int) - 1 := by unfold wrap64; omega
  have e2 : wrap64 (limit + 1) = limit + 1 := by unfold wrap64; omega
  rw [e1, e2, if_pos (by omega), if_pos (by omega), hr, Pure.str_size]
  by_cases h : ((lastp al).length : Int) > limit + 1
  · rw [if_pos h, if_pos (by omega), if_pos (by omega), Pure.str_extract, List.drop_zero]
  · rw [if_neg h, List.take_of_length_le (by omega)]
theorem RS_End {w : World} {B g : Nat} {limit : Int} {al : List Int} {gone : Int} (h : RsAt w B g limit al gone) (hs : 1 ≤ limit ∧ limit ≤ 1024) (hba : bytesIn al) (hlen : al.length ≤ 1048576) :
    Calls Try.prog 29 #[.pointer (some ⟨g, 0, none⟩)] w fun e w' => e = .returned (.string (strOfNums ((lastp al).take (limit + 1).toNat))) ∧ Keep w w' (fun _ => False) := by
  have hgl := blk_lt h.blk
  have hz : (w.heap.extract 0 g).size = g := by simp; omega
  have hb : Below g { w with heap := w.heap.extract 0 g } w := ⟨rfl, rfl, rfl, by show (w.heap.extract 0 g).size ≤ w.heap.size; omega, fun k hk => by show w.heap[k]? = (w.heap.extract 0 g)[k]?; rw [Array.getElem?_extract, if_pos (by omega), Nat.zero_add]⟩
  have hI : IsS55 { w with heap := w.heap.extract 0 g } w g limit (strOfNums al) (((Pure.cutI al).length : Int) - 1) gone := ⟨h.blk, by show (w.heap.extract 0 g).size ≤ g; omega⟩
  refine (tumblerref05_Stream_End.calls _ g limit (strOfNums al) _ gone _ _ _ _ _ { w with heap := w.heap.extract 0 g } w hI (by show Below (w.heap.extract 0 g).size _ _; rw [hz]; exact hb) (REnd_f limit hs al hba hlen _ gone)).mono ?_
  rintro e w' ⟨rfl, hI', hb', hk⟩
  refine ⟨rfl, ⟨hb'.os, hb'.tape, hb'.output, hk.1, fun k hk1 _ => ?_⟩⟩
  by_cases e : k = g
  · subst e; exact hI'.1.trans h.blk.symm
  · exact hk.2 k hk1 e (by simp)
end Go.Proofs.Ytoflnoaabjomaaa.Q
