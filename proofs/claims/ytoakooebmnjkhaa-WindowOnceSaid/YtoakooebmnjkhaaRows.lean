/-
  No cell of these rows narrows 'for every input' (looked for: loops, veiled, ifaces, maps, wideKeys, modest, calm, conditions, laid).
  DERIVED. THE GIVEN ROWS OF THIS SEAT. 10 by the template 'for every input the law returns true; each argument reads behind the call as it read before'; 0 by the template 'total and deterministic' (their statements: YtoakooebmnjkhaaTotals.lean).
  GIVEN WITH THE SEED: the statements are not yours to turn. If you find one false, say at which input.
  Laid BY PROGRAM, IN A SANDBOX (cutbox-rows.mjs): the forced cells as the released guide's own fill.sh prints them over the translation c42f5cfee96d33d3… (all of the seat's roots in one cut). By AI agents, Wed Nov 11 2026. No macro, syntax, notation, axiom, sorry.
-/
import Derived.Test.YtoakooebmnjkhaaChecked
import GoSem.Claim
import GoSem.ClaimJoined
import GoSem.ClaimMapViews
import Derived.JoinedTies
import Derived.KernelRfl
namespace Go.Proofs.Ytoakooebmnjkhaa
/- THE CELL 'sum', in the pinned program and in every row, IS THE sha256 OF THE DUMP (.gsa) THAT YtoakooebmnjkhaaProg.lean LOADS. Nothing in Lean hashes anything: it is a label: what it is worth is what the hold of that sum in a sandbox is worth. -/
noncomputable def Try.pinned : Pinned := { name := "ytoakooebmnjkhaa", sum := "c42f5cfee96d33d3cf2295d792796e857100437005494cc03d71aa8ef77a8077", checked := Try.checked }
namespace Rows
def none {H : Type} : Left H := { results := [], args := [] }

/-- 'tumblerlaw06.WindowOrders': WHATEVER THE INPUT: true; the input reads as it did. -/
def windowOrdersSpec : ChangeSpec := { name := "windowOrders", fn := fun _ => fun
  | [d1, d2, d3] => { results := [.lit (.bool true)], args := [d1, d2, d3] }
  | _ => none }
def windowOrdersRow : OpenClaim := { program := "ytoakooebmnjkhaa", sum := "c42f5cfee96d33d3cf2295d792796e857100437005494cc03d71aa8ef77a8077", func := "tumbler/tumblerlaw06.WindowOrders", spec := "windowOrders", apart := false }
def WindowOrdersSaid : Prop := windowOrdersRow.holds Try.pinned (OpenSpec.ofChange windowOrdersSpec)

/-- ITS FALSE NEIGHBOUR: 'it returns false'. Refute it at one input. -/
def windowOrdersWrong : ChangeSpec := { name := "windowOrders", fn := fun _ => fun
  | [d1, d2, d3] => { results := [.lit (.bool false)], args := [d1, d2, d3] }
  | _ => none }
def WindowOrdersWrongFalsely : Prop := windowOrdersRow.holds Try.pinned (OpenSpec.ofChange windowOrdersWrong)

/-- 'tumblerlaw06.WindowThroughs': WHATEVER THE INPUT: true; the input reads as it did. -/
def windowThroughsSpec : ChangeSpec := { name := "windowThroughs", fn := fun _ => fun
  | [d1, d2] => { results := [.lit (.bool true)], args := [d1, d2] }
  | _ => none }
def windowThroughsRow : OpenClaim := { program := "ytoakooebmnjkhaa", sum := "c42f5cfee96d33d3cf2295d792796e857100437005494cc03d71aa8ef77a8077", func := "tumbler/tumblerlaw06.WindowThroughs", spec := "windowThroughs", apart := false }
def WindowThroughsSaid : Prop := windowThroughsRow.holds Try.pinned (OpenSpec.ofChange windowThroughsSpec)

/-- ITS FALSE NEIGHBOUR: 'it returns false'. Refute it at one input. -/
def windowThroughsWrong : ChangeSpec := { name := "windowThroughs", fn := fun _ => fun
  | [d1, d2] => { results := [.lit (.bool false)], args := [d1, d2] }
  | _ => none }
def WindowThroughsWrongFalsely : Prop := windowThroughsRow.holds Try.pinned (OpenSpec.ofChange windowThroughsWrong)

/-- 'tumblerlaw06.WindowCovers': WHATEVER THE INPUT: true; the input reads as it did. -/
def windowCoversSpec : ChangeSpec := { name := "windowCovers", fn := fun _ => fun
  | [d1, d2, d3] => { results := [.lit (.bool true)], args := [d1, d2, d3] }
  | _ => none }
def windowCoversRow : OpenClaim := { program := "ytoakooebmnjkhaa", sum := "c42f5cfee96d33d3cf2295d792796e857100437005494cc03d71aa8ef77a8077", func := "tumbler/tumblerlaw06.WindowCovers", spec := "windowCovers", apart := false }
def WindowCoversSaid : Prop := windowCoversRow.holds Try.pinned (OpenSpec.ofChange windowCoversSpec)

/-- ITS FALSE NEIGHBOUR: 'it returns false'. Refute it at one input. -/
def windowCoversWrong : ChangeSpec := { name := "windowCovers", fn := fun _ => fun
  | [d1, d2, d3] => { results := [.lit (.bool false)], args := [d1, d2, d3] }
  | _ => none }
def WindowCoversWrongFalsely : Prop := windowCoversRow.holds Try.pinned (OpenSpec.ofChange windowCoversWrong)

/-- 'tumblerlaw06.WindowCoversAll': WHATEVER THE INPUT: true; the input reads as it did. -/
def windowCoversAllSpec : ChangeSpec := { name := "windowCoversAll", fn := fun _ => fun
  | [d1, d2, d3] => { results := [.lit (.bool true)], args := [d1, d2, d3] }
  | _ => none }
def windowCoversAllRow : OpenClaim := { program := "ytoakooebmnjkhaa", sum := "c42f5cfee96d33d3cf2295d792796e857100437005494cc03d71aa8ef77a8077", func := "tumbler/tumblerlaw06.WindowCoversAll", spec := "windowCoversAll", apart := false }
def WindowCoversAllSaid : Prop := windowCoversAllRow.holds Try.pinned (OpenSpec.ofChange windowCoversAllSpec)

/-- ITS FALSE NEIGHBOUR: 'it returns false'. Refute it at one input. -/
def windowCoversAllWrong : ChangeSpec := { name := "windowCoversAll", fn := fun _ => fun
  | [d1, d2, d3] => { results := [.lit (.bool false)], args := [d1, d2, d3] }
  | _ => none }
def WindowCoversAllWrongFalsely : Prop := windowCoversAllRow.holds Try.pinned (OpenSpec.ofChange windowCoversAllWrong)

/-- 'tumblerlaw06.WindowOfs': WHATEVER THE INPUT: true; the input reads as it did. -/
def windowOfsSpec : ChangeSpec := { name := "windowOfs", fn := fun _ => fun
  | [d1, d2] => { results := [.lit (.bool true)], args := [d1, d2] }
  | _ => none }
def windowOfsRow : OpenClaim := { program := "ytoakooebmnjkhaa", sum := "c42f5cfee96d33d3cf2295d792796e857100437005494cc03d71aa8ef77a8077", func := "tumbler/tumblerlaw06.WindowOfs", spec := "windowOfs", apart := false }
def WindowOfsSaid : Prop := windowOfsRow.holds Try.pinned (OpenSpec.ofChange windowOfsSpec)

/-- ITS FALSE NEIGHBOUR: 'it returns false'. Refute it at one input. -/
def windowOfsWrong : ChangeSpec := { name := "windowOfs", fn := fun _ => fun
  | [d1, d2] => { results := [.lit (.bool false)], args := [d1, d2] }
  | _ => none }
def WindowOfsWrongFalsely : Prop := windowOfsRow.holds Try.pinned (OpenSpec.ofChange windowOfsWrong)

/-- 'tumblerlaw06.WindowHolds': WHATEVER THE INPUT: true; the input reads as it did. -/
def windowHoldsSpec : ChangeSpec := { name := "windowHolds", fn := fun _ => fun
  | [d1, d2] => { results := [.lit (.bool true)], args := [d1, d2] }
  | _ => none }
def windowHoldsRow : OpenClaim := { program := "ytoakooebmnjkhaa", sum := "c42f5cfee96d33d3cf2295d792796e857100437005494cc03d71aa8ef77a8077", func := "tumbler/tumblerlaw06.WindowHolds", spec := "windowHolds", apart := false }
def WindowHoldsSaid : Prop := windowHoldsRow.holds Try.pinned (OpenSpec.ofChange windowHoldsSpec)

/-- ITS FALSE NEIGHBOUR: 'it returns false'. Refute it at one input. -/
def windowHoldsWrong : ChangeSpec := { name := "windowHolds", fn := fun _ => fun
  | [d1, d2] => { results := [.lit (.bool false)], args := [d1, d2] }
  | _ => none }
def WindowHoldsWrongFalsely : Prop := windowHoldsRow.holds Try.pinned (OpenSpec.ofChange windowHoldsWrong)

/-- 'tumblerlaw06.WindowMarks': WHATEVER THE INPUT: true; the input reads as it did. -/
def windowMarksSpec : ChangeSpec := { name := "windowMarks", fn := fun _ => fun
  | [d1, d2] => { results := [.lit (.bool true)], args := [d1, d2] }
  | _ => none }
def windowMarksRow : OpenClaim := { program := "ytoakooebmnjkhaa", sum := "c42f5cfee96d33d3cf2295d792796e857100437005494cc03d71aa8ef77a8077", func := "tumbler/tumblerlaw06.WindowMarks", spec := "windowMarks", apart := false }
def WindowMarksSaid : Prop := windowMarksRow.holds Try.pinned (OpenSpec.ofChange windowMarksSpec)

/-- ITS FALSE NEIGHBOUR: 'it returns false'. Refute it at one input. -/
def windowMarksWrong : ChangeSpec := { name := "windowMarks", fn := fun _ => fun
  | [d1, d2] => { results := [.lit (.bool false)], args := [d1, d2] }
  | _ => none }
def WindowMarksWrongFalsely : Prop := windowMarksRow.holds Try.pinned (OpenSpec.ofChange windowMarksWrong)

/-- 'tumblerlaw06.WindowNils': WHATEVER THE INPUT: true; the input reads as it did. -/
def windowNilsSpec : ChangeSpec := { name := "windowNils", fn := fun _ => fun
  | [d] => { results := [.lit (.bool true)], args := [d] }
  | _ => none }
def windowNilsRow : OpenClaim := { program := "ytoakooebmnjkhaa", sum := "c42f5cfee96d33d3cf2295d792796e857100437005494cc03d71aa8ef77a8077", func := "tumbler/tumblerlaw06.WindowNils", spec := "windowNils", recurses := true, apart := false }
def WindowNilsSaid : Prop := windowNilsRow.holds Try.pinned (OpenSpec.ofChange windowNilsSpec)

/-- ITS FALSE NEIGHBOUR: 'it returns false'. Refute it at one input. -/
def windowNilsWrong : ChangeSpec := { name := "windowNils", fn := fun _ => fun
  | [d] => { results := [.lit (.bool false)], args := [d] }
  | _ => none }
def WindowNilsWrongFalsely : Prop := windowNilsRow.holds Try.pinned (OpenSpec.ofChange windowNilsWrong)

/-- 'tumblerlaw06.WindowOnce': WHATEVER THE INPUT: true; the input reads as it did. -/
def windowOnceSpec : ChangeSpec := { name := "windowOnce", fn := fun _ => fun
  | [d1, d2] => { results := [.lit (.bool true)], args := [d1, d2] }
  | _ => none }
def windowOnceRow : OpenClaim := { program := "ytoakooebmnjkhaa", sum := "c42f5cfee96d33d3cf2295d792796e857100437005494cc03d71aa8ef77a8077", func := "tumbler/tumblerlaw06.WindowOnce", spec := "windowOnce", recurses := true, apart := false }
def WindowOnceSaid : Prop := windowOnceRow.holds Try.pinned (OpenSpec.ofChange windowOnceSpec)

/-- ITS FALSE NEIGHBOUR: 'it returns false'. Refute it at one input. -/
def windowOnceWrong : ChangeSpec := { name := "windowOnce", fn := fun _ => fun
  | [d1, d2] => { results := [.lit (.bool false)], args := [d1, d2] }
  | _ => none }
def WindowOnceWrongFalsely : Prop := windowOnceRow.holds Try.pinned (OpenSpec.ofChange windowOnceWrong)

/-- 'tumblerlaw06.WindowPlays': WHATEVER THE INPUT: true; the input reads as it did. -/
def windowPlaysSpec : ChangeSpec := { name := "windowPlays", fn := fun _ => fun
  | [d1, d2] => { results := [.lit (.bool true)], args := [d1, d2] }
  | _ => none }
def windowPlaysRow : OpenClaim := { program := "ytoakooebmnjkhaa", sum := "c42f5cfee96d33d3cf2295d792796e857100437005494cc03d71aa8ef77a8077", func := "tumbler/tumblerlaw06.WindowPlays", spec := "windowPlays", recurses := true, apart := false }
def WindowPlaysSaid : Prop := windowPlaysRow.holds Try.pinned (OpenSpec.ofChange windowPlaysSpec)

/-- ITS FALSE NEIGHBOUR: 'it returns false'. Refute it at one input. -/
def windowPlaysWrong : ChangeSpec := { name := "windowPlays", fn := fun _ => fun
  | [d1, d2] => { results := [.lit (.bool false)], args := [d1, d2] }
  | _ => none }
def WindowPlaysWrongFalsely : Prop := windowPlaysRow.holds Try.pinned (OpenSpec.ofChange windowPlaysWrong)

/- THE SECOND FORM. 'bulk': how many values and letters a reading holds, each counted each time it is reached (what is shared counts as often as it is met; a slice's spare places count too). A statement '..UptoSaid' is the law's where the arguments, and the package variables that the reading takes, are together of bulk at most 1048576: NARROWER than '..Said'. Prove '..Said' where nothing that the law and all that it calls make is longer than what came in: it says more and counts as full. Else prove '..UptoSaid'. A law counts once. -/
mutual
def uptoBulk {H : Type} : DataW H → Nat
  | .lit (.string bytes) => bytes.length + 1
  | .lit _ => 1
  | .nil => 1
  | .ptr d => uptoBulk d + 1
  | .slice elems spare => uptoBulkAll elems + uptoBulkAll spare + 1
  | .agg parts => uptoBulkAll parts + 1
  | .iface _ d => uptoBulk d + 1
  | .map entries => uptoBulkEntries entries + 1
  | .held _ => 1
def uptoBulkAll {H : Type} : List (DataW H) → Nat
  | [] => 0
  | d :: r => uptoBulk d + uptoBulkAll r
def uptoBulkEntries {H : Type} : List (Lit × DataW H) → Nat
  | [] => 0
  | x :: r => uptoBulkEntry x + uptoBulkEntries r
def uptoBulkEntry {H : Type} : Lit × DataW H → Nat
  | (.string bytes, d) => bytes.length + uptoBulk d + 1
  | (_, d) => uptoBulk d + 1
 end
def uptoSmall : (H : Type) → List (DataW H) → Bool := fun _ ds => decide (uptoBulkAll ds ≤ 1048576)
def OpenSpec.upto (s : _root_.Go.ChangeSpec) : _root_.Go.OpenSpec := { _root_.Go.OpenSpec.ofChange s with cond := some uptoSmall }

/-- 'tumblerlaw06.WindowOrders', WHERE WHAT IT READS IS OF BULK AT MOST 1048576: true; the input reads as it did. -/
def windowOrdersUptoRow : OpenClaim := { program := "ytoakooebmnjkhaa", sum := "c42f5cfee96d33d3cf2295d792796e857100437005494cc03d71aa8ef77a8077", func := "tumbler/tumblerlaw06.WindowOrders", spec := "windowOrders", apart := false, narrowed := true }
def WindowOrdersUptoSaid : Prop := windowOrdersUptoRow.holds Try.pinned (OpenSpec.upto windowOrdersSpec)

/-- 'tumblerlaw06.WindowThroughs', WHERE WHAT IT READS IS OF BULK AT MOST 1048576: true; the input reads as it did. -/
def windowThroughsUptoRow : OpenClaim := { program := "ytoakooebmnjkhaa", sum := "c42f5cfee96d33d3cf2295d792796e857100437005494cc03d71aa8ef77a8077", func := "tumbler/tumblerlaw06.WindowThroughs", spec := "windowThroughs", apart := false, narrowed := true }
def WindowThroughsUptoSaid : Prop := windowThroughsUptoRow.holds Try.pinned (OpenSpec.upto windowThroughsSpec)

/-- 'tumblerlaw06.WindowCovers', WHERE WHAT IT READS IS OF BULK AT MOST 1048576: true; the input reads as it did. -/
def windowCoversUptoRow : OpenClaim := { program := "ytoakooebmnjkhaa", sum := "c42f5cfee96d33d3cf2295d792796e857100437005494cc03d71aa8ef77a8077", func := "tumbler/tumblerlaw06.WindowCovers", spec := "windowCovers", apart := false, narrowed := true }
def WindowCoversUptoSaid : Prop := windowCoversUptoRow.holds Try.pinned (OpenSpec.upto windowCoversSpec)

/-- 'tumblerlaw06.WindowCoversAll', WHERE WHAT IT READS IS OF BULK AT MOST 1048576: true; the input reads as it did. -/
def windowCoversAllUptoRow : OpenClaim := { program := "ytoakooebmnjkhaa", sum := "c42f5cfee96d33d3cf2295d792796e857100437005494cc03d71aa8ef77a8077", func := "tumbler/tumblerlaw06.WindowCoversAll", spec := "windowCoversAll", apart := false, narrowed := true }
def WindowCoversAllUptoSaid : Prop := windowCoversAllUptoRow.holds Try.pinned (OpenSpec.upto windowCoversAllSpec)

/-- 'tumblerlaw06.WindowOfs', WHERE WHAT IT READS IS OF BULK AT MOST 1048576: true; the input reads as it did. -/
def windowOfsUptoRow : OpenClaim := { program := "ytoakooebmnjkhaa", sum := "c42f5cfee96d33d3cf2295d792796e857100437005494cc03d71aa8ef77a8077", func := "tumbler/tumblerlaw06.WindowOfs", spec := "windowOfs", apart := false, narrowed := true }
def WindowOfsUptoSaid : Prop := windowOfsUptoRow.holds Try.pinned (OpenSpec.upto windowOfsSpec)

/-- 'tumblerlaw06.WindowHolds', WHERE WHAT IT READS IS OF BULK AT MOST 1048576: true; the input reads as it did. -/
def windowHoldsUptoRow : OpenClaim := { program := "ytoakooebmnjkhaa", sum := "c42f5cfee96d33d3cf2295d792796e857100437005494cc03d71aa8ef77a8077", func := "tumbler/tumblerlaw06.WindowHolds", spec := "windowHolds", apart := false, narrowed := true }
def WindowHoldsUptoSaid : Prop := windowHoldsUptoRow.holds Try.pinned (OpenSpec.upto windowHoldsSpec)

/-- 'tumblerlaw06.WindowMarks', WHERE WHAT IT READS IS OF BULK AT MOST 1048576: true; the input reads as it did. -/
def windowMarksUptoRow : OpenClaim := { program := "ytoakooebmnjkhaa", sum := "c42f5cfee96d33d3cf2295d792796e857100437005494cc03d71aa8ef77a8077", func := "tumbler/tumblerlaw06.WindowMarks", spec := "windowMarks", apart := false, narrowed := true }
def WindowMarksUptoSaid : Prop := windowMarksUptoRow.holds Try.pinned (OpenSpec.upto windowMarksSpec)

/-- 'tumblerlaw06.WindowNils', WHERE WHAT IT READS IS OF BULK AT MOST 1048576: true; the input reads as it did. -/
def windowNilsUptoRow : OpenClaim := { program := "ytoakooebmnjkhaa", sum := "c42f5cfee96d33d3cf2295d792796e857100437005494cc03d71aa8ef77a8077", func := "tumbler/tumblerlaw06.WindowNils", spec := "windowNils", recurses := true, apart := false, narrowed := true }
def WindowNilsUptoSaid : Prop := windowNilsUptoRow.holds Try.pinned (OpenSpec.upto windowNilsSpec)

/-- 'tumblerlaw06.WindowOnce', WHERE WHAT IT READS IS OF BULK AT MOST 1048576: true; the input reads as it did. -/
def windowOnceUptoRow : OpenClaim := { program := "ytoakooebmnjkhaa", sum := "c42f5cfee96d33d3cf2295d792796e857100437005494cc03d71aa8ef77a8077", func := "tumbler/tumblerlaw06.WindowOnce", spec := "windowOnce", recurses := true, apart := false, narrowed := true }
def WindowOnceUptoSaid : Prop := windowOnceUptoRow.holds Try.pinned (OpenSpec.upto windowOnceSpec)

/-- 'tumblerlaw06.WindowPlays', WHERE WHAT IT READS IS OF BULK AT MOST 1048576: true; the input reads as it did. -/
def windowPlaysUptoRow : OpenClaim := { program := "ytoakooebmnjkhaa", sum := "c42f5cfee96d33d3cf2295d792796e857100437005494cc03d71aa8ef77a8077", func := "tumbler/tumblerlaw06.WindowPlays", spec := "windowPlays", recurses := true, apart := false, narrowed := true }
def WindowPlaysUptoSaid : Prop := windowPlaysUptoRow.holds Try.pinned (OpenSpec.upto windowPlaysSpec)

end Rows
end Go.Proofs.Ytoakooebmnjkhaa
