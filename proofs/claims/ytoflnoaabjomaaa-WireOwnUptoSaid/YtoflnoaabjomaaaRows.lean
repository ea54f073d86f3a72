/-
  No cell of these rows narrows 'for every input' (looked for: loops, veiled, ifaces, maps, wideKeys, modest, calm, conditions, laid).
  DERIVED. THE GIVEN ROWS OF THIS SEAT. 7 by the template 'for every input the law returns true; each argument reads behind the call as it read before'; 0 by the template 'total and deterministic' (their statements: YtoflnoaabjomaaaTotals.lean).
  GIVEN WITH THE SEED: the statements are not yours to turn. If you find one false, say at which input.
  Laid BY PROGRAM, IN A SANDBOX (cutbox-rows.mjs): the forced cells as the released guide's own fill.sh prints them over the translation a2a2db116c656b44… (all of the seat's roots in one cut). By AI agents, Wed Nov 11 2026. No macro, syntax, notation, axiom, sorry.
-/
import Derived.Test.YtoflnoaabjomaaaChecked
import GoSem.Claim
import GoSem.ClaimJoined
import GoSem.ClaimMapViews
import Derived.JoinedTies
import Derived.KernelRfl
namespace Go.Proofs.Ytoflnoaabjomaaa
/- THE CELL 'sum', in the pinned program and in every row, IS THE sha256 OF THE DUMP (.gsa) THAT YtoflnoaabjomaaaProg.lean LOADS. Nothing in Lean hashes anything: it is a label: what it is worth is what the hold of that sum in a sandbox is worth. -/
noncomputable def Try.pinned : Pinned := { name := "ytoflnoaabjomaaa", sum := "a2a2db116c656b44c5d70e43f9128f2f3a76f883e0d11f1ef64a6975c315f91b", checked := Try.checked }
namespace Rows
def none {H : Type} : Left H := { results := [], args := [] }

/-- 'tumblerlaw05.WireSplits': WHATEVER THE INPUT: true; the input reads as it did. -/
def wireSplitsSpec : ChangeSpec := { name := "wireSplits", fn := fun _ => fun
  | [d] => { results := [.lit (.bool true)], args := [d] }
  | _ => none }
def wireSplitsRow : OpenClaim := { program := "ytoflnoaabjomaaa", sum := "a2a2db116c656b44c5d70e43f9128f2f3a76f883e0d11f1ef64a6975c315f91b", func := "tumbler/tumblerlaw05.WireSplits", spec := "wireSplits", inPlace := ["internal/bytealg.IndexByte"], apart := false }
def WireSplitsSaid : Prop := wireSplitsRow.holds Try.pinned (OpenSpec.ofChange wireSplitsSpec)

/-- ITS FALSE NEIGHBOUR: 'it returns false'. Refute it at one input. -/
def wireSplitsWrong : ChangeSpec := { name := "wireSplits", fn := fun _ => fun
  | [d] => { results := [.lit (.bool false)], args := [d] }
  | _ => none }
def WireSplitsWrongFalsely : Prop := wireSplitsRow.holds Try.pinned (OpenSpec.ofChange wireSplitsWrong)

/-- 'tumblerlaw05.WirePacks': WHATEVER THE INPUT: true; the input reads as it did. -/
def wirePacksSpec : ChangeSpec := { name := "wirePacks", fn := fun _ => fun
  | [d1, d2] => { results := [.lit (.bool true)], args := [d1, d2] }
  | _ => none }
def wirePacksRow : OpenClaim := { program := "ytoflnoaabjomaaa", sum := "a2a2db116c656b44c5d70e43f9128f2f3a76f883e0d11f1ef64a6975c315f91b", func := "tumbler/tumblerlaw05.WirePacks", spec := "wirePacks", inPlace := ["internal/bytealg.IndexByte"], apart := false }
def WirePacksSaid : Prop := wirePacksRow.holds Try.pinned (OpenSpec.ofChange wirePacksSpec)

/-- ITS FALSE NEIGHBOUR: 'it returns false'. Refute it at one input. -/
def wirePacksWrong : ChangeSpec := { name := "wirePacks", fn := fun _ => fun
  | [d1, d2] => { results := [.lit (.bool false)], args := [d1, d2] }
  | _ => none }
def WirePacksWrongFalsely : Prop := wirePacksRow.holds Try.pinned (OpenSpec.ofChange wirePacksWrong)

/-- 'tumblerlaw05.WireBack': WHATEVER THE INPUT: true; the input reads as it did. -/
def wireBackSpec : ChangeSpec := { name := "wireBack", fn := fun _ => fun
  | [d1, d2] => { results := [.lit (.bool true)], args := [d1, d2] }
  | _ => none }
def wireBackRow : OpenClaim := { program := "ytoflnoaabjomaaa", sum := "a2a2db116c656b44c5d70e43f9128f2f3a76f883e0d11f1ef64a6975c315f91b", func := "tumbler/tumblerlaw05.WireBack", spec := "wireBack", inPlace := ["internal/bytealg.IndexByte"], apart := false }
def WireBackSaid : Prop := wireBackRow.holds Try.pinned (OpenSpec.ofChange wireBackSpec)

/-- ITS FALSE NEIGHBOUR: 'it returns false'. Refute it at one input. -/
def wireBackWrong : ChangeSpec := { name := "wireBack", fn := fun _ => fun
  | [d1, d2] => { results := [.lit (.bool false)], args := [d1, d2] }
  | _ => none }
def WireBackWrongFalsely : Prop := wireBackRow.holds Try.pinned (OpenSpec.ofChange wireBackWrong)

/-- 'tumblerlaw05.WireStreams': WHATEVER THE INPUT: true; the input reads as it did. -/
def wireStreamsSpec : ChangeSpec := { name := "wireStreams", fn := fun _ => fun
  | [d1, d2, d3] => { results := [.lit (.bool true)], args := [d1, d2, d3] }
  | _ => none }
def wireStreamsRow : OpenClaim := { program := "ytoflnoaabjomaaa", sum := "a2a2db116c656b44c5d70e43f9128f2f3a76f883e0d11f1ef64a6975c315f91b", func := "tumbler/tumblerlaw05.WireStreams", spec := "wireStreams", inPlace := ["internal/bytealg.IndexByte"], apart := false }
def WireStreamsSaid : Prop := wireStreamsRow.holds Try.pinned (OpenSpec.ofChange wireStreamsSpec)

/-- ITS FALSE NEIGHBOUR: 'it returns false'. Refute it at one input. -/
def wireStreamsWrong : ChangeSpec := { name := "wireStreams", fn := fun _ => fun
  | [d1, d2, d3] => { results := [.lit (.bool false)], args := [d1, d2, d3] }
  | _ => none }
def WireStreamsWrongFalsely : Prop := wireStreamsRow.holds Try.pinned (OpenSpec.ofChange wireStreamsWrong)

/-- 'tumblerlaw05.WirePieces': WHATEVER THE INPUT: true; the input reads as it did. -/
def wirePiecesSpec : ChangeSpec := { name := "wirePieces", fn := fun _ => fun
  | [d1, d2, d3] => { results := [.lit (.bool true)], args := [d1, d2, d3] }
  | _ => none }
def wirePiecesRow : OpenClaim := { program := "ytoflnoaabjomaaa", sum := "a2a2db116c656b44c5d70e43f9128f2f3a76f883e0d11f1ef64a6975c315f91b", func := "tumbler/tumblerlaw05.WirePieces", spec := "wirePieces", inPlace := ["internal/bytealg.IndexByte"], apart := false }
def WirePiecesSaid : Prop := wirePiecesRow.holds Try.pinned (OpenSpec.ofChange wirePiecesSpec)

/-- ITS FALSE NEIGHBOUR: 'it returns false'. Refute it at one input. -/
def wirePiecesWrong : ChangeSpec := { name := "wirePieces", fn := fun _ => fun
  | [d1, d2, d3] => { results := [.lit (.bool false)], args := [d1, d2, d3] }
  | _ => none }
def WirePiecesWrongFalsely : Prop := wirePiecesRow.holds Try.pinned (OpenSpec.ofChange wirePiecesWrong)

/-- 'tumblerlaw05.WireOwn': WHATEVER THE INPUT: true; the input reads as it did. -/
def wireOwnSpec : ChangeSpec := { name := "wireOwn", fn := fun _ => fun
  | [d1, d2] => { results := [.lit (.bool true)], args := [d1, d2] }
  | _ => none }
def wireOwnRow : OpenClaim := { program := "ytoflnoaabjomaaa", sum := "a2a2db116c656b44c5d70e43f9128f2f3a76f883e0d11f1ef64a6975c315f91b", func := "tumbler/tumblerlaw05.WireOwn", spec := "wireOwn", inPlace := ["internal/bytealg.IndexByte"], apart := false }
def WireOwnSaid : Prop := wireOwnRow.holds Try.pinned (OpenSpec.ofChange wireOwnSpec)

/-- ITS FALSE NEIGHBOUR: 'it returns false'. Refute it at one input. -/
def wireOwnWrong : ChangeSpec := { name := "wireOwn", fn := fun _ => fun
  | [d1, d2] => { results := [.lit (.bool false)], args := [d1, d2] }
  | _ => none }
def WireOwnWrongFalsely : Prop := wireOwnRow.holds Try.pinned (OpenSpec.ofChange wireOwnWrong)

/-- 'tumblerlaw05.WireNobody': WHATEVER THE INPUT: true; the input reads as it did. -/
def wireNobodySpec : ChangeSpec := { name := "wireNobody", fn := fun _ => fun
  | [d1, d2] => { results := [.lit (.bool true)], args := [d1, d2] }
  | _ => none }
def wireNobodyRow : OpenClaim := { program := "ytoflnoaabjomaaa", sum := "a2a2db116c656b44c5d70e43f9128f2f3a76f883e0d11f1ef64a6975c315f91b", func := "tumbler/tumblerlaw05.WireNobody", spec := "wireNobody", inPlace := ["internal/bytealg.IndexByte"], apart := false }
def WireNobodySaid : Prop := wireNobodyRow.holds Try.pinned (OpenSpec.ofChange wireNobodySpec)

/-- ITS FALSE NEIGHBOUR: 'it returns false'. Refute it at one input. -/
def wireNobodyWrong : ChangeSpec := { name := "wireNobody", fn := fun _ => fun
  | [d1, d2] => { results := [.lit (.bool false)], args := [d1, d2] }
  | _ => none }
def WireNobodyWrongFalsely : Prop := wireNobodyRow.holds Try.pinned (OpenSpec.ofChange wireNobodyWrong)

/- THE SECOND FORM. 'bulk': how many values and letters a reading holds, each counted each time it is reached (what is shared counts as often as it is met; a slice's spare places count too). A statement '..UptoSaid' is the law's where the arguments, and the package variables that the reading takes, are together of bulk at most 1048576: NARROWER than '..Said'. Prove '..Said' where nothing that the law and all that it calls make is longer than what came in: it says more and counts as full. Else prove '..UptoSaid'. A law counts once. -/
mutual
def uptoBulk {H : Type} : DataW H → Nat
  | .lit (.string bytes) => bytes.length + 1
  | .lit _ => 1
  | .nil => 1
  | .ptr d => uptoBulk d + 1
  | .slice elems spare => uptoBulkAll elems + uptoBulkAll spare + 1
  | .agg parts => uptoBulkAll parts + 1
  | .iface _ d => uptoBulk d + 1
  | .map entries => uptoBulkEntries entries + 1
  | .held _ => 1
def uptoBulkAll {H : Type} : List (DataW H) → Nat
  | [] => 0
  | d :: r => uptoBulk d + uptoBulkAll r
def uptoBulkEntries {H : Type} : List (Lit × DataW H) → Nat
  | [] => 0
  | x :: r => uptoBulkEntry x + uptoBulkEntries r
def uptoBulkEntry {H : Type} : Lit × DataW H → Nat
  | (.string bytes, d) => bytes.length + uptoBulk d + 1
  | (_, d) => uptoBulk d + 1
 end
def uptoSmall : (H : Type) → List (DataW H) → Bool := fun _ ds => decide (uptoBulkAll ds ≤ 1048576)
def OpenSpec.upto (s : _root_.Go.ChangeSpec) : _root_.Go.OpenSpec := { _root_.Go.OpenSpec.ofChange s with cond := some uptoSmall }

/-- 'tumblerlaw05.WireSplits', WHERE WHAT IT READS IS OF BULK AT MOST 1048576: true; the input reads as it did. -/
def wireSplitsUptoRow : OpenClaim := { program := "ytoflnoaabjomaaa", sum := "a2a2db116c656b44c5d70e43f9128f2f3a76f883e0d11f1ef64a6975c315f91b", func := "tumbler/tumblerlaw05.WireSplits", spec := "wireSplits", inPlace := ["internal/bytealg.IndexByte"], apart := false, narrowed := true }
def WireSplitsUptoSaid : Prop := wireSplitsUptoRow.holds Try.pinned (OpenSpec.upto wireSplitsSpec)

/-- 'tumblerlaw05.WirePacks', WHERE WHAT IT READS IS OF BULK AT MOST 1048576: true; the input reads as it did. -/
def wirePacksUptoRow : OpenClaim := { program := "ytoflnoaabjomaaa", sum := "a2a2db116c656b44c5d70e43f9128f2f3a76f883e0d11f1ef64a6975c315f91b", func := "tumbler/tumblerlaw05.WirePacks", spec := "wirePacks", inPlace := ["internal/bytealg.IndexByte"], apart := false, narrowed := true }
def WirePacksUptoSaid : Prop := wirePacksUptoRow.holds Try.pinned (OpenSpec.upto wirePacksSpec)

/-- 'tumblerlaw05.WireBack', WHERE WHAT IT READS IS OF BULK AT MOST 1048576: true; the input reads as it did. -/
def wireBackUptoRow : OpenClaim := { program := "ytoflnoaabjomaaa", sum := "a2a2db116c656b44c5d70e43f9128f2f3a76f883e0d11f1ef64a6975c315f91b", func := "tumbler/tumblerlaw05.WireBack", spec := "wireBack", inPlace := ["internal/bytealg.IndexByte"], apart := false, narrowed := true }
def WireBackUptoSaid : Prop := wireBackUptoRow.holds Try.pinned (OpenSpec.upto wireBackSpec)

/-- 'tumblerlaw05.WireStreams', WHERE WHAT IT READS IS OF BULK AT MOST 1048576: true; the input reads as it did. -/
def wireStreamsUptoRow : OpenClaim := { program := "ytoflnoaabjomaaa", sum := "a2a2db116c656b44c5d70e43f9128f2f3a76f883e0d11f1ef64a6975c315f91b", func := "tumbler/tumblerlaw05.WireStreams", spec := "wireStreams", inPlace := ["internal/bytealg.IndexByte"], apart := false, narrowed := true }
def WireStreamsUptoSaid : Prop := wireStreamsUptoRow.holds Try.pinned (OpenSpec.upto wireStreamsSpec)

/-- 'tumblerlaw05.WirePieces', WHERE WHAT IT READS IS OF BULK AT MOST 1048576: true; the input reads as it did. -/
def wirePiecesUptoRow : OpenClaim := { program := "ytoflnoaabjomaaa", sum := "a2a2db116c656b44c5d70e43f9128f2f3a76f883e0d11f1ef64a6975c315f91b", func := "tumbler/tumblerlaw05.WirePieces", spec := "wirePieces", inPlace := ["internal/bytealg.IndexByte"], apart := false, narrowed := true }
def WirePiecesUptoSaid : Prop := wirePiecesUptoRow.holds Try.pinned (OpenSpec.upto wirePiecesSpec)

/-- 'tumblerlaw05.WireOwn', WHERE WHAT IT READS IS OF BULK AT MOST 1048576: true; the input reads as it did. -/
def wireOwnUptoRow : OpenClaim := { program := "ytoflnoaabjomaaa", sum := "a2a2db116c656b44c5d70e43f9128f2f3a76f883e0d11f1ef64a6975c315f91b", func := "tumbler/tumblerlaw05.WireOwn", spec := "wireOwn", inPlace := ["internal/bytealg.IndexByte"], apart := false, narrowed := true }
def WireOwnUptoSaid : Prop := wireOwnUptoRow.holds Try.pinned (OpenSpec.upto wireOwnSpec)

/-- 'tumblerlaw05.WireNobody', WHERE WHAT IT READS IS OF BULK AT MOST 1048576: true; the input reads as it did. -/
def wireNobodyUptoRow : OpenClaim := { program := "ytoflnoaabjomaaa", sum := "a2a2db116c656b44c5d70e43f9128f2f3a76f883e0d11f1ef64a6975c315f91b", func := "tumbler/tumblerlaw05.WireNobody", spec := "wireNobody", inPlace := ["internal/bytealg.IndexByte"], apart := false, narrowed := true }
def WireNobodyUptoSaid : Prop := wireNobodyUptoRow.holds Try.pinned (OpenSpec.upto wireNobodySpec)

end Rows
end Go.Proofs.Ytoflnoaabjomaaa
