/-
  No cell of these rows narrows 'for every input' (looked for: loops, veiled, ifaces, maps, wideKeys, modest, calm, conditions, laid).
  DERIVED. THE GIVEN ROWS OF THIS SEAT. 9 by the template 'for every input the law returns true; each argument reads behind the call as it read before'; 0 by the template 'total and deterministic' (their statements: YthnihjfdmkfkiaaTotals.lean).
  GIVEN WITH THE SEED: the statements are not yours to turn. If you find one false, say at which input.
  Laid BY PROGRAM, IN A SANDBOX (cutbox-rows.mjs): the forced cells as the released guide's own fill.sh prints them over the translation 64de8ddff596e355… (all of the seat's roots in one cut). By AI agents, Wed Nov 11 2026. No macro, syntax, notation, axiom, sorry.
-/
import Derived.Test.YthnihjfdmkfkiaaChecked
import GoSem.Claim
import GoSem.ClaimJoined
import GoSem.ClaimMapViews
import Derived.JoinedTies
import Derived.KernelRfl
namespace Go.Proofs.Ythnihjfdmkfkiaa
/- THE CELL 'sum', in the pinned program and in every row, IS THE sha256 OF THE DUMP (.gsa) THAT YthnihjfdmkfkiaaProg.lean LOADS. Nothing in Lean hashes anything: it is a label: what it is worth is what the hold of that sum in a sandbox is worth. -/
noncomputable def Try.pinned : Pinned := { name := "ythnihjfdmkfkiaa", sum := "64de8ddff596e355a4abcc4f8d91ddcb8b9e1f930d4d6c5fda381e4f41ea2fbf", checked := Try.checked }
namespace Rows
def none {H : Type} : Left H := { results := [], args := [] }

/-- 'tumblerlaw09.TimerTells': WHATEVER THE INPUT: true; the input reads as it did. -/
def timerTellsSpec : ChangeSpec := { name := "timerTells", fn := fun _ => fun
  | [d] => { results := [.lit (.bool true)], args := [d] }
  | _ => none }
def timerTellsRow : OpenClaim := { program := "ythnihjfdmkfkiaa", sum := "64de8ddff596e355a4abcc4f8d91ddcb8b9e1f930d4d6c5fda381e4f41ea2fbf", func := "tumbler/tumblerlaw09.TimerTells", spec := "timerTells", inPlace := ["math/bits.Add64", "math/bits.Sub64"], unfollowed := true, recurses := true, apart := false }
def TimerTellsSaid : Prop := timerTellsRow.holds Try.pinned (OpenSpec.ofChange timerTellsSpec)

/-- ITS FALSE NEIGHBOUR: 'it returns false'. Refute it at one input. -/
def timerTellsWrong : ChangeSpec := { name := "timerTells", fn := fun _ => fun
  | [d] => { results := [.lit (.bool false)], args := [d] }
  | _ => none }
def TimerTellsWrongFalsely : Prop := timerTellsRow.holds Try.pinned (OpenSpec.ofChange timerTellsWrong)

/-- 'tumblerlaw09.TimerWithin': WHATEVER THE INPUT: true; the input reads as it did. -/
def timerWithinSpec : ChangeSpec := { name := "timerWithin", fn := fun _ => fun
  | [d] => { results := [.lit (.bool true)], args := [d] }
  | _ => none }
def timerWithinRow : OpenClaim := { program := "ythnihjfdmkfkiaa", sum := "64de8ddff596e355a4abcc4f8d91ddcb8b9e1f930d4d6c5fda381e4f41ea2fbf", func := "tumbler/tumblerlaw09.TimerWithin", spec := "timerWithin", inPlace := ["math/bits.Add64", "math/bits.Sub64"], unfollowed := true, recurses := true, apart := false }
def TimerWithinSaid : Prop := timerWithinRow.holds Try.pinned (OpenSpec.ofChange timerWithinSpec)

/-- ITS FALSE NEIGHBOUR: 'it returns false'. Refute it at one input. -/
def timerWithinWrong : ChangeSpec := { name := "timerWithin", fn := fun _ => fun
  | [d] => { results := [.lit (.bool false)], args := [d] }
  | _ => none }
def TimerWithinWrongFalsely : Prop := timerWithinRow.holds Try.pinned (OpenSpec.ofChange timerWithinWrong)

/-- 'tumblerlaw09.TimerMerges': WHATEVER THE INPUT: true; the input reads as it did. -/
def timerMergesSpec : ChangeSpec := { name := "timerMerges", fn := fun _ => fun
  | [d1, d2] => { results := [.lit (.bool true)], args := [d1, d2] }
  | _ => none }
def timerMergesRow : OpenClaim := { program := "ythnihjfdmkfkiaa", sum := "64de8ddff596e355a4abcc4f8d91ddcb8b9e1f930d4d6c5fda381e4f41ea2fbf", func := "tumbler/tumblerlaw09.TimerMerges", spec := "timerMerges", inPlace := ["math/bits.Add64", "math/bits.Sub64"], unfollowed := true, recurses := true, apart := false }
def TimerMergesSaid : Prop := timerMergesRow.holds Try.pinned (OpenSpec.ofChange timerMergesSpec)

/-- ITS FALSE NEIGHBOUR: 'it returns false'. Refute it at one input. -/
def timerMergesWrong : ChangeSpec := { name := "timerMerges", fn := fun _ => fun
  | [d1, d2] => { results := [.lit (.bool false)], args := [d1, d2] }
  | _ => none }
def TimerMergesWrongFalsely : Prop := timerMergesRow.holds Try.pinned (OpenSpec.ofChange timerMergesWrong)

/-- 'tumblerlaw09.TimerRanks': WHATEVER THE INPUT: true; the input reads as it did. -/
def timerRanksSpec : ChangeSpec := { name := "timerRanks", fn := fun _ => fun
  | [d1, d2] => { results := [.lit (.bool true)], args := [d1, d2] }
  | _ => none }
def timerRanksRow : OpenClaim := { program := "ythnihjfdmkfkiaa", sum := "64de8ddff596e355a4abcc4f8d91ddcb8b9e1f930d4d6c5fda381e4f41ea2fbf", func := "tumbler/tumblerlaw09.TimerRanks", spec := "timerRanks", inPlace := ["math/bits.Add64", "math/bits.Sub64"], unfollowed := true, recurses := true, apart := false }
def TimerRanksSaid : Prop := timerRanksRow.holds Try.pinned (OpenSpec.ofChange timerRanksSpec)

/-- ITS FALSE NEIGHBOUR: 'it returns false'. Refute it at one input. -/
def timerRanksWrong : ChangeSpec := { name := "timerRanks", fn := fun _ => fun
  | [d1, d2] => { results := [.lit (.bool false)], args := [d1, d2] }
  | _ => none }
def TimerRanksWrongFalsely : Prop := timerRanksRow.holds Try.pinned (OpenSpec.ofChange timerRanksWrong)

/-- 'tumblerlaw09.TimerBins': WHATEVER THE INPUT: true; the input reads as it did. -/
def timerBinsSpec : ChangeSpec := { name := "timerBins", fn := fun _ => fun
  | [d1, d2] => { results := [.lit (.bool true)], args := [d1, d2] }
  | _ => none }
def timerBinsRow : OpenClaim := { program := "ythnihjfdmkfkiaa", sum := "64de8ddff596e355a4abcc4f8d91ddcb8b9e1f930d4d6c5fda381e4f41ea2fbf", func := "tumbler/tumblerlaw09.TimerBins", spec := "timerBins", inPlace := ["math/bits.Add64", "math/bits.Sub64"], unfollowed := true, recurses := true, apart := false }
def TimerBinsSaid : Prop := timerBinsRow.holds Try.pinned (OpenSpec.ofChange timerBinsSpec)

/-- ITS FALSE NEIGHBOUR: 'it returns false'. Refute it at one input. -/
def timerBinsWrong : ChangeSpec := { name := "timerBins", fn := fun _ => fun
  | [d1, d2] => { results := [.lit (.bool false)], args := [d1, d2] }
  | _ => none }
def TimerBinsWrongFalsely : Prop := timerBinsRow.holds Try.pinned (OpenSpec.ofChange timerBinsWrong)

/-- 'tumblerlaw09.TimerShares': WHATEVER THE INPUT: true; the input reads as it did. -/
def timerSharesSpec : ChangeSpec := { name := "timerShares", fn := fun _ => fun
  | [d1, d2] => { results := [.lit (.bool true)], args := [d1, d2] }
  | _ => none }
def timerSharesRow : OpenClaim := { program := "ythnihjfdmkfkiaa", sum := "64de8ddff596e355a4abcc4f8d91ddcb8b9e1f930d4d6c5fda381e4f41ea2fbf", func := "tumbler/tumblerlaw09.TimerShares", spec := "timerShares", inPlace := ["math/bits.Add64", "math/bits.Sub64"], unfollowed := true, recurses := true, apart := false }
def TimerSharesSaid : Prop := timerSharesRow.holds Try.pinned (OpenSpec.ofChange timerSharesSpec)

/-- ITS FALSE NEIGHBOUR: 'it returns false'. Refute it at one input. -/
def timerSharesWrong : ChangeSpec := { name := "timerShares", fn := fun _ => fun
  | [d1, d2] => { results := [.lit (.bool false)], args := [d1, d2] }
  | _ => none }
def TimerSharesWrongFalsely : Prop := timerSharesRow.holds Try.pinned (OpenSpec.ofChange timerSharesWrong)

/-- 'tumblerlaw09.TimerShuffles': WHATEVER THE INPUT: true; the input reads as it did. -/
def timerShufflesSpec : ChangeSpec := { name := "timerShuffles", fn := fun _ => fun
  | [d1, d2, d3, d4] => { results := [.lit (.bool true)], args := [d1, d2, d3, d4] }
  | _ => none }
def timerShufflesRow : OpenClaim := { program := "ythnihjfdmkfkiaa", sum := "64de8ddff596e355a4abcc4f8d91ddcb8b9e1f930d4d6c5fda381e4f41ea2fbf", func := "tumbler/tumblerlaw09.TimerShuffles", spec := "timerShuffles", inPlace := ["math/bits.Add64", "math/bits.Sub64"], unfollowed := true, recurses := true, apart := false }
def TimerShufflesSaid : Prop := timerShufflesRow.holds Try.pinned (OpenSpec.ofChange timerShufflesSpec)

/-- ITS FALSE NEIGHBOUR: 'it returns false'. Refute it at one input. -/
def timerShufflesWrong : ChangeSpec := { name := "timerShuffles", fn := fun _ => fun
  | [d1, d2, d3, d4] => { results := [.lit (.bool false)], args := [d1, d2, d3, d4] }
  | _ => none }
def TimerShufflesWrongFalsely : Prop := timerShufflesRow.holds Try.pinned (OpenSpec.ofChange timerShufflesWrong)

/-- 'tumblerlaw09.TimerHalves': WHATEVER THE INPUT: true; the input reads as it did. -/
def timerHalvesSpec : ChangeSpec := { name := "timerHalves", fn := fun _ => fun
  | [d1, d2] => { results := [.lit (.bool true)], args := [d1, d2] }
  | _ => none }
def timerHalvesRow : OpenClaim := { program := "ythnihjfdmkfkiaa", sum := "64de8ddff596e355a4abcc4f8d91ddcb8b9e1f930d4d6c5fda381e4f41ea2fbf", func := "tumbler/tumblerlaw09.TimerHalves", spec := "timerHalves", inPlace := ["math/bits.Add64", "math/bits.Sub64"], unfollowed := true, recurses := true, apart := false }
def TimerHalvesSaid : Prop := timerHalvesRow.holds Try.pinned (OpenSpec.ofChange timerHalvesSpec)

/-- ITS FALSE NEIGHBOUR: 'it returns false'. Refute it at one input. -/
def timerHalvesWrong : ChangeSpec := { name := "timerHalves", fn := fun _ => fun
  | [d1, d2] => { results := [.lit (.bool false)], args := [d1, d2] }
  | _ => none }
def TimerHalvesWrongFalsely : Prop := timerHalvesRow.holds Try.pinned (OpenSpec.ofChange timerHalvesWrong)

/-- 'tumblerlaw09.TimerOwn': WHATEVER THE INPUT: true; the input reads as it did. -/
def timerOwnSpec : ChangeSpec := { name := "timerOwn", fn := fun _ => fun
  | [d1, d2] => { results := [.lit (.bool true)], args := [d1, d2] }
  | _ => none }
def timerOwnRow : OpenClaim := { program := "ythnihjfdmkfkiaa", sum := "64de8ddff596e355a4abcc4f8d91ddcb8b9e1f930d4d6c5fda381e4f41ea2fbf", func := "tumbler/tumblerlaw09.TimerOwn", spec := "timerOwn", inPlace := ["math/bits.Add64", "math/bits.Sub64"], unfollowed := true, recurses := true, apart := false }
def TimerOwnSaid : Prop := timerOwnRow.holds Try.pinned (OpenSpec.ofChange timerOwnSpec)

/-- ITS FALSE NEIGHBOUR: 'it returns false'. Refute it at one input. -/
def timerOwnWrong : ChangeSpec := { name := "timerOwn", fn := fun _ => fun
  | [d1, d2] => { results := [.lit (.bool false)], args := [d1, d2] }
  | _ => none }
def TimerOwnWrongFalsely : Prop := timerOwnRow.holds Try.pinned (OpenSpec.ofChange timerOwnWrong)

/- THE SECOND FORM. 'bulk': how many values and letters a reading holds, each counted each time it is reached (what is shared counts as often as it is met; a slice's spare places count too). A statement '..UptoSaid' is the law's where the arguments, and the package variables that the reading takes, are together of bulk at most 1048576: NARROWER than '..Said'. Prove '..Said' where nothing that the law and all that it calls make is longer than what came in: it says more and counts as full. Else prove '..UptoSaid'. A law counts once. -/
mutual
def uptoBulk {H : Type} : DataW H → Nat
  | .lit (.string bytes) => bytes.length + 1
  | .lit _ => 1
  | .nil => 1
  | .ptr d => uptoBulk d + 1
  | .slice elems spare => uptoBulkAll elems + uptoBulkAll spare + 1
  | .agg parts => uptoBulkAll parts + 1
  | .iface _ d => uptoBulk d + 1
  | .map entries => uptoBulkEntries entries + 1
  | .held _ => 1
def uptoBulkAll {H : Type} : List (DataW H) → Nat
  | [] => 0
  | d :: r => uptoBulk d + uptoBulkAll r
def uptoBulkEntries {H : Type} : List (Lit × DataW H) → Nat
  | [] => 0
  | x :: r => uptoBulkEntry x + uptoBulkEntries r
def uptoBulkEntry {H : Type} : Lit × DataW H → Nat
  | (.string bytes, d) => bytes.length + uptoBulk d + 1
  | (_, d) => uptoBulk d + 1
 end
def uptoSmall : (H : Type) → List (DataW H) → Bool := fun _ ds => decide (uptoBulkAll ds ≤ 1048576)
def OpenSpec.upto (s : _root_.Go.ChangeSpec) : _root_.Go.OpenSpec := { _root_.Go.OpenSpec.ofChange s with cond := some uptoSmall }

/-- 'tumblerlaw09.TimerTells', WHERE WHAT IT READS IS OF BULK AT MOST 1048576: true; the input reads as it did. -/
def timerTellsUptoRow : OpenClaim := { program := "ythnihjfdmkfkiaa", sum := "64de8ddff596e355a4abcc4f8d91ddcb8b9e1f930d4d6c5fda381e4f41ea2fbf", func := "tumbler/tumblerlaw09.TimerTells", spec := "timerTells", inPlace := ["math/bits.Add64", "math/bits.Sub64"], unfollowed := true, recurses := true, apart := false, narrowed := true }
def TimerTellsUptoSaid : Prop := timerTellsUptoRow.holds Try.pinned (OpenSpec.upto timerTellsSpec)

/-- 'tumblerlaw09.TimerWithin', WHERE WHAT IT READS IS OF BULK AT MOST 1048576: true; the input reads as it did. -/
def timerWithinUptoRow : OpenClaim := { program := "ythnihjfdmkfkiaa", sum := "64de8ddff596e355a4abcc4f8d91ddcb8b9e1f930d4d6c5fda381e4f41ea2fbf", func := "tumbler/tumblerlaw09.TimerWithin", spec := "timerWithin", inPlace := ["math/bits.Add64", "math/bits.Sub64"], unfollowed := true, recurses := true, apart := false, narrowed := true }
def TimerWithinUptoSaid : Prop := timerWithinUptoRow.holds Try.pinned (OpenSpec.upto timerWithinSpec)

/-- 'tumblerlaw09.TimerMerges', WHERE WHAT IT READS IS OF BULK AT MOST 1048576: true; the input reads as it did. -/
def timerMergesUptoRow : OpenClaim := { program := "ythnihjfdmkfkiaa", sum := "64de8ddff596e355a4abcc4f8d91ddcb8b9e1f930d4d6c5fda381e4f41ea2fbf", func := "tumbler/tumblerlaw09.TimerMerges", spec := "timerMerges", inPlace := ["math/bits.Add64", "math/bits.Sub64"], unfollowed := true, recurses := true, apart := false, narrowed := true }
def TimerMergesUptoSaid : Prop := timerMergesUptoRow.holds Try.pinned (OpenSpec.upto timerMergesSpec)

/-- 'tumblerlaw09.TimerRanks', WHERE WHAT IT READS IS OF BULK AT MOST 1048576: true; the input reads as it did. -/
def timerRanksUptoRow : OpenClaim := { program := "ythnihjfdmkfkiaa", sum := "64de8ddff596e355a4abcc4f8d91ddcb8b9e1f930d4d6c5fda381e4f41ea2fbf", func := "tumbler/tumblerlaw09.TimerRanks", spec := "timerRanks", inPlace := ["math/bits.Add64", "math/bits.Sub64"], unfollowed := true, recurses := true, apart := false, narrowed := true }
def TimerRanksUptoSaid : Prop := timerRanksUptoRow.holds Try.pinned (OpenSpec.upto timerRanksSpec)

/-- 'tumblerlaw09.TimerBins', WHERE WHAT IT READS IS OF BULK AT MOST 1048576: true; the input reads as it did. -/
def timerBinsUptoRow : OpenClaim := { program := "ythnihjfdmkfkiaa", sum := "64de8ddff596e355a4abcc4f8d91ddcb8b9e1f930d4d6c5fda381e4f41ea2fbf", func := "tumbler/tumblerlaw09.TimerBins", spec := "timerBins", inPlace := ["math/bits.Add64", "math/bits.Sub64"], unfollowed := true, recurses := true, apart := false, narrowed := true }
def TimerBinsUptoSaid : Prop := timerBinsUptoRow.holds Try.pinned (OpenSpec.upto timerBinsSpec)

/-- 'tumblerlaw09.TimerShares', WHERE WHAT IT READS IS OF BULK AT MOST 1048576: true; the input reads as it did. -/
def timerSharesUptoRow : OpenClaim := { program := "ythnihjfdmkfkiaa", sum := "64de8ddff596e355a4abcc4f8d91ddcb8b9e1f930d4d6c5fda381e4f41ea2fbf", func := "tumbler/tumblerlaw09.TimerShares", spec := "timerShares", inPlace := ["math/bits.Add64", "math/bits.Sub64"], unfollowed := true, recurses := true, apart := false, narrowed := true }
def TimerSharesUptoSaid : Prop := timerSharesUptoRow.holds Try.pinned (OpenSpec.upto timerSharesSpec)

/-- 'tumblerlaw09.TimerShuffles', WHERE WHAT IT READS IS OF BULK AT MOST 1048576: true; the input reads as it did. -/
def timerShufflesUptoRow : OpenClaim := { program := "ythnihjfdmkfkiaa", sum := "64de8ddff596e355a4abcc4f8d91ddcb8b9e1f930d4d6c5fda381e4f41ea2fbf", func := "tumbler/tumblerlaw09.TimerShuffles", spec := "timerShuffles", inPlace := ["math/bits.Add64", "math/bits.Sub64"], unfollowed := true, recurses := true, apart := false, narrowed := true }
def TimerShufflesUptoSaid : Prop := timerShufflesUptoRow.holds Try.pinned (OpenSpec.upto timerShufflesSpec)

/-- 'tumblerlaw09.TimerHalves', WHERE WHAT IT READS IS OF BULK AT MOST 1048576: true; the input reads as it did. -/
def timerHalvesUptoRow : OpenClaim := { program := "ythnihjfdmkfkiaa", sum := "64de8ddff596e355a4abcc4f8d91ddcb8b9e1f930d4d6c5fda381e4f41ea2fbf", func := "tumbler/tumblerlaw09.TimerHalves", spec := "timerHalves", inPlace := ["math/bits.Add64", "math/bits.Sub64"], unfollowed := true, recurses := true, apart := false, narrowed := true }
def TimerHalvesUptoSaid : Prop := timerHalvesUptoRow.holds Try.pinned (OpenSpec.upto timerHalvesSpec)

/-- 'tumblerlaw09.TimerOwn', WHERE WHAT IT READS IS OF BULK AT MOST 1048576: true; the input reads as it did. -/
def timerOwnUptoRow : OpenClaim := { program := "ythnihjfdmkfkiaa", sum := "64de8ddff596e355a4abcc4f8d91ddcb8b9e1f930d4d6c5fda381e4f41ea2fbf", func := "tumbler/tumblerlaw09.TimerOwn", spec := "timerOwn", inPlace := ["math/bits.Add64", "math/bits.Sub64"], unfollowed := true, recurses := true, apart := false, narrowed := true }
def TimerOwnUptoSaid : Prop := timerOwnUptoRow.holds Try.pinned (OpenSpec.upto timerOwnSpec)

end Rows
end Go.Proofs.Ythnihjfdmkfkiaa
