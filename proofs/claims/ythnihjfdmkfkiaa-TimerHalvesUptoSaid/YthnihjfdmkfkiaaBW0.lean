import Derived.Test.YthnihjfdmkfkiaaBWalk
import Derived.Test.YthnihjfdmkfkiaaVExt
import Derived.Laws.Externs
namespace Go.Proofs.Ythnihjfdmkfkiaa.Q
open Go.RowKit Go.Proofs.YthnihjfdmkfkiaaW.PrintWords Go.Proofs.YthnihjfdmkfkiaaW.PrintLast Go.Proofs.YthnihjfdmkfkiaaW.PrintMore Go.Proofs.YthnihjfdmkfkiaaV
set_option linter.unusedVariables false
set_option linter.unusedSimpArgs false

/-- A number of 128 bits, as two words. -/
def hiW (z : Int) : Int := z / 18446744073709551616
def loW (z : Int) : Int := z % 18446744073709551616
def WV (z : Int) : Value := .agg #[.int .i64 (hiW z), .int .u64 (loW z)]
def inW (z : Int) : Prop := -170141183460469231731687303715884105728 ≤ z ∧ z ≤ 170141183460469231731687303715884105727
theorem hi_rng {z : Int} (h : inW z) : -9223372036854775808 ≤ hiW z ∧ hiW z ≤ 9223372036854775807 := by unfold inW at h; unfold hiW; omega
theorem lo_rng (z : Int) : 0 ≤ loW z ∧ loW z ≤ 18446744073709551615 := by unfold loW; omega
theorem WV_of (h l : Int) (hl : 0 ≤ l ∧ l ≤ 18446744073709551615) : (.agg #[.int .i64 h, .int .u64 l] : Value) = WV (h * 18446744073709551616 + l) := by
  unfold WV hiW loW
  rw [show (h * 18446744073709551616 + l) / 18446744073709551616 = h by omega, show (h * 18446744073709551616 + l) % 18446744073709551616 = l by omega]
theorem hl_eq {x y : Int} : x = y ↔ hiW x = hiW y ∧ loW x = loW y := by unfold hiW loW; omega

theorem WV_zero : WV 0 = .agg #[.int .i64 0, .int .u64 0] := rfl
theorem inW_zero : inW 0 := by unfold inW; omega
theorem call_add64 (x y c : Int) (h1 : 0 ≤ x) (h2 : 0 ≤ y) (h3 : 0 ≤ c) (h4 : c ≤ 1) (W : World) :
    (callFunc 43 #[.int .u64 x, .int .u64 y, .int .u64 c]).run Try.prog W = .ok (.value (.tuple #[.int .u64 ((x + y + c) % 18446744073709551616), .int .u64 ((x + y + c) / 18446744073709551616)])) W := by
  rw [run_callFunc_extern Try.func43 (by kernel_rfl) (by kernel_rfl) (by kernel_rfl) (e := add64Entry) (by kernel_rfl), run_add64 x y c h1 h2 h3 h4]
  rfl
theorem call_sub64 (x y b : Int) (hx : 0 ≤ x) (hy : 0 ≤ y) (hy2 : y ≤ 18446744073709551615) (hb0 : 0 ≤ b) (hb : b ≤ 1) (W : World) :
    (callFunc 65 #[.int .u64 x, .int .u64 y, .int .u64 b]).run Try.prog W = .ok (.value (.tuple #[.int .u64 ((x + 18446744073709551616 - y - b) % 18446744073709551616), .int .u64 (if x < y + b then 1 else 0)])) W := by
  rw [run_callFunc_extern Try.func65 (by kernel_rfl) (by kernel_rfl) (by kernel_rfl) (e := sub64Entry) (by kernel_rfl), run_sub64' x y b hx hy hy2 hb0 hb]
  rfl
theorem u64w (a : Int) : IntKind.u64.wrap a = a % 18446744073709551616 := by
  simp only [IntKind.wrap, IntKind.bits, IntKind.signed]; simp
/-- Four new blocks. -/
theorem below4 (w : World) (a b c d : Obj) : Below w.heap.size w ((((w.alloc a).alloc b).alloc c).alloc d) :=
  ((((Below.refl _ _).alloc (Nat.le_refl _) _).alloc (by simp) _).alloc (by simp; omega) _).alloc (by simp; omega) _

theorem hop {w w1 w2 : World} (h : Below w.heap.size w w1) (h' : Below w1.heap.size w1 w2) : Below w.heap.size w w2 := h.trans ⟨h'.os, h'.tape, h'.output, h'.size, fun k hk => h'.block k (Nat.lt_of_lt_of_le hk h.size)⟩
end Go.Proofs.Ythnihjfdmkfkiaa.Q
