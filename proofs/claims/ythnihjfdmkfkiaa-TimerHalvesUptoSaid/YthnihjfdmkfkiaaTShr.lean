import Derived.Test.YthnihjfdmkfkiaaTOf
import Derived.Test.YthnihjfdmkfkiaaTRank
namespace Go.Proofs.Ythnihjfdmkfkiaa.Q
open Go.RowKit Go.Proofs.YthnihjfdmkfkiaaW.PrintWords Go.Proofs.YthnihjfdmkfkiaaW.PrintLast Go.Proofs.YthnihjfdmkfkiaaW.PrintMore Go.Proofs.YthnihjfdmkfkiaaV
set_option linter.unusedVariables false
set_option linter.unusedSimpArgs false

/-- How many, of a share. -/
def shareN (n : Nat) (p : Int) : Nat := (rankP n (if 0 < p then p else -p)).toNat
/-- The share's samples: the lowest, or the greatest. -/
def shareL (s : List Int) (p : Int) : List Int := if 0 < p then s.take (shareN s.length p) else s.drop (s.length - shareN s.length p)
def edgeP (s : List Int) (p : Int) : Int := if 0 < p then rd s (shareN s.length p - 1 : Nat) else rd s (s.length - shareN s.length p : Nat)
def shareA (s : List Int) (p : Int) : Array Value := #[.int .i64 (shareN s.length p), .int .i64 (hiW (shareL s p).sum), .int .u64 (loW (shareL s p).sum), .int .i64 (meanP (shareL s p)), .int .i64 (edgeP s p)]
theorem rank_rng {n p : Int} (hn : 1 ≤ n) (hp : 1 ≤ p ∧ p ≤ 100000000) : 1 ≤ rankP n p ∧ rankP n p ≤ n := by
  have h1 := Int.mul_le_mul (a := 1) (b := 1) (c := n) (d := p) hn hp.1 (by omega) (by omega)
  have h2 := Int.mul_le_mul_of_nonneg_left (c := n) hp.2 (by omega)
  unfold rankP
  generalize n * p = z at h1 h2
  omega
end Go.Proofs.Ythnihjfdmkfkiaa.Q
