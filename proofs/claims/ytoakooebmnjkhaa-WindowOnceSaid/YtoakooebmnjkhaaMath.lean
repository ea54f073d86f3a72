/- Plain arithmetic for the statements on windows: what Go's cut division, turned downwards, is; and when it fits 64 bits. -/
import Derived.RowKit
namespace Go.Proofs.Ytoakooebmnjkhaa.Math
open Go.RowKit

theorem wf_i64 {a : Int} (h : (Lit.int .i64 a).wf = true) : -9223372036854775808 ≤ a ∧ a ≤ 9223372036854775807 := by
  simpa [Lit.wf, IntKind.min, IntKind.max, IntKind.signed, IntKind.bits] using h

theorem wrap_in {a : Int} (h1 : -9223372036854775808 ≤ a) (h2 : a ≤ 9223372036854775807) : wrap64 a = a := by
  unfold wrap64; omega

theorem ediv_bounds (t w : Int) (hw : 1 ≤ w) : w * (t / w) ≤ t ∧ t < w * (t / w) + w := by
  have h1 := Int.mul_ediv_add_emod t w
  have h2 := Int.emod_nonneg t (b := w) (by omega)
  have h3 := Int.emod_lt_of_pos t (b := w) (by omega)
  omega

theorem ediv_unique (t w q : Int) (hw : 1 ≤ w) (h1 : w * q ≤ t) (h2 : t < w * q + w) : t / w = q := by
  have := (Int.ediv_emod_unique (a := t) (b := w) (r := t - w * q) (q := q) (by omega)).2 ⟨by omega, by omega, by omega⟩
  exact this.1

theorem ediv_lo (t w : Int) (hw : 1 ≤ w) (h : t ≤ -1) : t ≤ t / w := by
  have ⟨h1, h2⟩ := ediv_bounds t w hw
  by_cases hq : t / w ≤ 0
  · have : w * (t / w) ≤ 1 * (t / w) := Int.mul_le_mul_of_nonpos_right hw hq
    have hx : 0 ≤ (w - 1) * (-(t / w)) := Int.mul_nonneg (by omega) (by omega)
    by_cases hc : t ≤ t / w
    · exact hc
    · exfalso
      -- t / w < t ≤ -1 : w * (t / w) + w > t needs care
      have e : t / w + 1 ≤ t := by omega
      have : w * (t / w + 1) ≤ w * t := Int.mul_le_mul_of_nonneg_left e (by omega)
      have h3 : w * t ≤ 1 * t := Int.mul_le_mul_of_nonpos_right hw (by omega)
      have h4 : w * (t / w + 1) = w * (t / w) + w := by rw [Int.mul_add, Int.mul_one]
      omega
  · omega

theorem ediv_hi (t w : Int) (hw : 1 ≤ w) (h : 0 ≤ t) : 0 ≤ t / w ∧ t / w ≤ t :=
  ⟨Int.ediv_nonneg h (by omega), Int.ediv_le_self w h⟩

theorem ediv_neg (t w : Int) (hw : 1 ≤ w) (h : t ≤ -1) : t / w ≤ -1 := by
  have ⟨h1, h2⟩ := ediv_bounds t w hw
  by_cases hq : t / w ≤ -1
  · exact hq
  · exfalso
    have : 0 ≤ w * (t / w) := Int.mul_nonneg (by omega) (by omega)
    omega

theorem ediv_range (t w : Int) (hw : 1 ≤ w) (h1 : -9223372036854775808 ≤ t) (h2 : t ≤ 9223372036854775807) :
    -9223372036854775808 ≤ t / w ∧ t / w ≤ 9223372036854775807 := by
  by_cases h : t ≤ -1
  · have := ediv_lo t w hw h; have := ediv_neg t w hw h; omega
  · have := ediv_hi t w hw (by omega); omega

/-- Go's division, cut towards 0, less one where something below 0 is left: rounded downwards. -/
theorem floor_eq (t w : Int) (hw : 1 ≤ w) (h1 : -9223372036854775808 ≤ t) (h2 : t ≤ 9223372036854775807) :
    (if Int.tmod t w < 0 then wrap64 (wrap64 (Int.tdiv t w) - 1) else wrap64 (Int.tdiv t w)) = t / w := by
  have e := Int.mul_tdiv_add_tmod t w
  have hr := ediv_range t w hw h1 h2
  by_cases hn : 0 ≤ t
  · have h3 := Int.tmod_nonneg w hn
    have h4 : Int.tdiv t w = t / w := Int.tdiv_eq_ediv_of_nonneg hn
    rw [if_neg (by omega), h4, wrap_in hr.1 hr.2]
  · have h3 : -w < Int.tmod t w := by have := Int.tmod_lt_of_pos (-t) (b := w) (by omega); rw [Int.neg_tmod] at this; omega
    have h5 : Int.tmod t w ≤ 0 := by
      have := Int.tmod_nonneg (a := -t) w (by omega); rw [Int.neg_tmod] at this; omega
    by_cases hm : Int.tmod t w < 0
    · have h6 : t / w = Int.tdiv t w - 1 := ediv_unique t w _ hw (by rw [Int.mul_sub, Int.mul_one]; omega) (by rw [Int.mul_sub, Int.mul_one]; omega)
      rw [if_pos hm, h6]
      have hle := ediv_neg t w hw (by omega)
      rw [wrap_in (by omega : -9223372036854775808 ≤ Int.tdiv t w) (by omega), wrap_in (by omega) (by omega)]
    · have h6 : t / w = Int.tdiv t w := ediv_unique t w _ hw (by omega) (by omega)
      rw [if_neg hm, ← h6, wrap_in hr.1 hr.2]

end Go.Proofs.Ytoakooebmnjkhaa.Math
