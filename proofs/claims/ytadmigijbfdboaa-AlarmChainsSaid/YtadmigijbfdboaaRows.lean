/-
  No cell of these rows narrows 'for every input' (looked for: loops, veiled, ifaces, maps, wideKeys, modest, calm, conditions, laid).
  DERIVED. THE GIVEN ROWS OF THIS SEAT. 6 by the template 'for every input the law returns true; each argument reads behind the call as it read before'; 0 by the template 'total and deterministic' (their statements: YtadmigijbfdboaaTotals.lean).
  GIVEN WITH THE SEED: the statements are not yours to turn. If you find one false, say at which input.
  Laid BY PROGRAM, IN A SANDBOX (cutbox-rows.mjs): the forced cells as the released guide's own fill.sh prints them over the translation 60a0f8c0023507f9… (all of the seat's roots in one cut). By AI agents, Wed Nov 11 2026. No macro, syntax, notation, axiom, sorry.
-/
import Derived.Test.YtadmigijbfdboaaChecked
import GoSem.Claim
import GoSem.ClaimJoined
import GoSem.ClaimMapViews
import Derived.JoinedTies
import Derived.KernelRfl
namespace Go.Proofs.Ytadmigijbfdboaa
/- THE CELL 'sum', in the pinned program and in every row, IS THE sha256 OF THE DUMP (.gsa) THAT YtadmigijbfdboaaProg.lean LOADS. Nothing in Lean hashes anything: it is a label: what it is worth is what the hold of that sum in a sandbox is worth. -/
noncomputable def Try.pinned : Pinned := { name := "ytadmigijbfdboaa", sum := "60a0f8c0023507f91b38e7272d70eeae800189801ca6fc11279a3290f56e3721", checked := Try.checked }
namespace Rows
def none {H : Type} : Left H := { results := [], args := [] }

/-- 'tumblerlaw23.AlarmSlack': WHATEVER THE INPUT: true; the input reads as it did. -/
def alarmSlackSpec : ChangeSpec := { name := "alarmSlack", fn := fun _ => fun
  | [d1, d2, d3] => { results := [.lit (.bool true)], args := [d1, d2, d3] }
  | _ => none }
def alarmSlackRow : OpenClaim := { program := "ytadmigijbfdboaa", sum := "60a0f8c0023507f91b38e7272d70eeae800189801ca6fc11279a3290f56e3721", func := "tumbler/tumblerlaw23.AlarmSlack", spec := "alarmSlack", inPlace := ["math/bits.Sub64", "math/bits.Add64"], unfollowed := true, recurses := true, apart := false }
def AlarmSlackSaid : Prop := alarmSlackRow.holds Try.pinned (OpenSpec.ofChange alarmSlackSpec)

/-- ITS FALSE NEIGHBOUR: 'it returns false'. Refute it at one input. -/
def alarmSlackWrong : ChangeSpec := { name := "alarmSlack", fn := fun _ => fun
  | [d1, d2, d3] => { results := [.lit (.bool false)], args := [d1, d2, d3] }
  | _ => none }
def AlarmSlackWrongFalsely : Prop := alarmSlackRow.holds Try.pinned (OpenSpec.ofChange alarmSlackWrong)

/-- 'tumblerlaw23.AlarmSides': WHATEVER THE INPUT: true; the input reads as it did. -/
def alarmSidesSpec : ChangeSpec := { name := "alarmSides", fn := fun _ => fun
  | [d1, d2] => { results := [.lit (.bool true)], args := [d1, d2] }
  | _ => none }
def alarmSidesRow : OpenClaim := { program := "ytadmigijbfdboaa", sum := "60a0f8c0023507f91b38e7272d70eeae800189801ca6fc11279a3290f56e3721", func := "tumbler/tumblerlaw23.AlarmSides", spec := "alarmSides", inPlace := ["math/bits.Sub64", "math/bits.Add64"], unfollowed := true, recurses := true, apart := false }
def AlarmSidesSaid : Prop := alarmSidesRow.holds Try.pinned (OpenSpec.ofChange alarmSidesSpec)

/-- ITS FALSE NEIGHBOUR: 'it returns false'. Refute it at one input. -/
def alarmSidesWrong : ChangeSpec := { name := "alarmSides", fn := fun _ => fun
  | [d1, d2] => { results := [.lit (.bool false)], args := [d1, d2] }
  | _ => none }
def AlarmSidesWrongFalsely : Prop := alarmSidesRow.holds Try.pinned (OpenSpec.ofChange alarmSidesWrong)

/-- 'tumblerlaw23.AlarmRuns': WHATEVER THE INPUT: true; the input reads as it did. -/
def alarmRunsSpec : ChangeSpec := { name := "alarmRuns", fn := fun _ => fun
  | [d1, d2] => { results := [.lit (.bool true)], args := [d1, d2] }
  | _ => none }
def alarmRunsRow : OpenClaim := { program := "ytadmigijbfdboaa", sum := "60a0f8c0023507f91b38e7272d70eeae800189801ca6fc11279a3290f56e3721", func := "tumbler/tumblerlaw23.AlarmRuns", spec := "alarmRuns", inPlace := ["math/bits.Sub64", "math/bits.Add64"], unfollowed := true, recurses := true, apart := false }
def AlarmRunsSaid : Prop := alarmRunsRow.holds Try.pinned (OpenSpec.ofChange alarmRunsSpec)

/-- ITS FALSE NEIGHBOUR: 'it returns false'. Refute it at one input. -/
def alarmRunsWrong : ChangeSpec := { name := "alarmRuns", fn := fun _ => fun
  | [d1, d2] => { results := [.lit (.bool false)], args := [d1, d2] }
  | _ => none }
def AlarmRunsWrongFalsely : Prop := alarmRunsRow.holds Try.pinned (OpenSpec.ofChange alarmRunsWrong)

/-- 'tumblerlaw23.AlarmChains': WHATEVER THE INPUT: true; the input reads as it did. -/
def alarmChainsSpec : ChangeSpec := { name := "alarmChains", fn := fun _ => fun
  | [d1, d2] => { results := [.lit (.bool true)], args := [d1, d2] }
  | _ => none }
def alarmChainsRow : OpenClaim := { program := "ytadmigijbfdboaa", sum := "60a0f8c0023507f91b38e7272d70eeae800189801ca6fc11279a3290f56e3721", func := "tumbler/tumblerlaw23.AlarmChains", spec := "alarmChains", inPlace := ["math/bits.Sub64", "math/bits.Add64"], unfollowed := true, recurses := true, apart := false }
def AlarmChainsSaid : Prop := alarmChainsRow.holds Try.pinned (OpenSpec.ofChange alarmChainsSpec)

/-- ITS FALSE NEIGHBOUR: 'it returns false'. Refute it at one input. -/
def alarmChainsWrong : ChangeSpec := { name := "alarmChains", fn := fun _ => fun
  | [d1, d2] => { results := [.lit (.bool false)], args := [d1, d2] }
  | _ => none }
def AlarmChainsWrongFalsely : Prop := alarmChainsRow.holds Try.pinned (OpenSpec.ofChange alarmChainsWrong)

/-- 'tumblerlaw23.AlarmApart': WHATEVER THE INPUT: true; the input reads as it did. -/
def alarmApartSpec : ChangeSpec := { name := "alarmApart", fn := fun _ => fun
  | [d1, d2, d3] => { results := [.lit (.bool true)], args := [d1, d2, d3] }
  | _ => none }
def alarmApartRow : OpenClaim := { program := "ytadmigijbfdboaa", sum := "60a0f8c0023507f91b38e7272d70eeae800189801ca6fc11279a3290f56e3721", func := "tumbler/tumblerlaw23.AlarmApart", spec := "alarmApart", inPlace := ["math/bits.Sub64", "math/bits.Add64"], unfollowed := true, recurses := true, apart := false }
def AlarmApartSaid : Prop := alarmApartRow.holds Try.pinned (OpenSpec.ofChange alarmApartSpec)

/-- ITS FALSE NEIGHBOUR: 'it returns false'. Refute it at one input. -/
def alarmApartWrong : ChangeSpec := { name := "alarmApart", fn := fun _ => fun
  | [d1, d2, d3] => { results := [.lit (.bool false)], args := [d1, d2, d3] }
  | _ => none }
def AlarmApartWrongFalsely : Prop := alarmApartRow.holds Try.pinned (OpenSpec.ofChange alarmApartWrong)

/-- 'tumblerlaw23.AlarmNobody': WHATEVER THE INPUT: true; the input reads as it did. -/
def alarmNobodySpec : ChangeSpec := { name := "alarmNobody", fn := fun _ => fun
  | [d] => { results := [.lit (.bool true)], args := [d] }
  | _ => none }
def alarmNobodyRow : OpenClaim := { program := "ytadmigijbfdboaa", sum := "60a0f8c0023507f91b38e7272d70eeae800189801ca6fc11279a3290f56e3721", func := "tumbler/tumblerlaw23.AlarmNobody", spec := "alarmNobody", inPlace := ["math/bits.Sub64", "math/bits.Add64"], unfollowed := true, recurses := true, apart := false }
def AlarmNobodySaid : Prop := alarmNobodyRow.holds Try.pinned (OpenSpec.ofChange alarmNobodySpec)

/-- ITS FALSE NEIGHBOUR: 'it returns false'. Refute it at one input. -/
def alarmNobodyWrong : ChangeSpec := { name := "alarmNobody", fn := fun _ => fun
  | [d] => { results := [.lit (.bool false)], args := [d] }
  | _ => none }
def AlarmNobodyWrongFalsely : Prop := alarmNobodyRow.holds Try.pinned (OpenSpec.ofChange alarmNobodyWrong)

/- THE SECOND FORM. 'bulk': how many values and letters a reading holds, each counted each time it is reached (what is shared counts as often as it is met; a slice's spare places count too). A statement '..UptoSaid' is the law's where the arguments, and the package variables that the reading takes, are together of bulk at most 1048576: NARROWER than '..Said'. Prove '..Said' where nothing that the law and all that it calls make is longer than what came in: it says more and counts as full. Else prove '..UptoSaid'. A law counts once. -/
mutual
def uptoBulk {H : Type} : DataW H → Nat
  | .lit (.string bytes) => bytes.length + 1
  | .lit _ => 1
  | .nil => 1
  | .ptr d => uptoBulk d + 1
  | .slice elems spare => uptoBulkAll elems + uptoBulkAll spare + 1
  | .agg parts => uptoBulkAll parts + 1
  | .iface _ d => uptoBulk d + 1
  | .map entries => uptoBulkEntries entries + 1
  | .held _ => 1
def uptoBulkAll {H : Type} : List (DataW H) → Nat
  | [] => 0
  | d :: r => uptoBulk d + uptoBulkAll r
def uptoBulkEntries {H : Type} : List (Lit × DataW H) → Nat
  | [] => 0
  | x :: r => uptoBulkEntry x + uptoBulkEntries r
def uptoBulkEntry {H : Type} : Lit × DataW H → Nat
  | (.string bytes, d) => bytes.length + uptoBulk d + 1
  | (_, d) => uptoBulk d + 1
 end
def uptoSmall : (H : Type) → List (DataW H) → Bool := fun _ ds => decide (uptoBulkAll ds ≤ 1048576)
def OpenSpec.upto (s : _root_.Go.ChangeSpec) : _root_.Go.OpenSpec := { _root_.Go.OpenSpec.ofChange s with cond := some uptoSmall }

/-- 'tumblerlaw23.AlarmSlack', WHERE WHAT IT READS IS OF BULK AT MOST 1048576: true; the input reads as it did. -/
def alarmSlackUptoRow : OpenClaim := { program := "ytadmigijbfdboaa", sum := "60a0f8c0023507f91b38e7272d70eeae800189801ca6fc11279a3290f56e3721", func := "tumbler/tumblerlaw23.AlarmSlack", spec := "alarmSlack", inPlace := ["math/bits.Sub64", "math/bits.Add64"], unfollowed := true, recurses := true, apart := false, narrowed := true }
def AlarmSlackUptoSaid : Prop := alarmSlackUptoRow.holds Try.pinned (OpenSpec.upto alarmSlackSpec)

/-- 'tumblerlaw23.AlarmSides', WHERE WHAT IT READS IS OF BULK AT MOST 1048576: true; the input reads as it did. -/
def alarmSidesUptoRow : OpenClaim := { program := "ytadmigijbfdboaa", sum := "60a0f8c0023507f91b38e7272d70eeae800189801ca6fc11279a3290f56e3721", func := "tumbler/tumblerlaw23.AlarmSides", spec := "alarmSides", inPlace := ["math/bits.Sub64", "math/bits.Add64"], unfollowed := true, recurses := true, apart := false, narrowed := true }
def AlarmSidesUptoSaid : Prop := alarmSidesUptoRow.holds Try.pinned (OpenSpec.upto alarmSidesSpec)

/-- 'tumblerlaw23.AlarmRuns', WHERE WHAT IT READS IS OF BULK AT MOST 1048576: true; the input reads as it did. -/
def alarmRunsUptoRow : OpenClaim := { program := "ytadmigijbfdboaa", sum := "60a0f8c0023507f91b38e7272d70eeae800189801ca6fc11279a3290f56e3721", func := "tumbler/tumblerlaw23.AlarmRuns", spec := "alarmRuns", inPlace := ["math/bits.Sub64", "math/bits.Add64"], unfollowed := true, recurses := true, apart := false, narrowed := true }
def AlarmRunsUptoSaid : Prop := alarmRunsUptoRow.holds Try.pinned (OpenSpec.upto alarmRunsSpec)

/-- 'tumblerlaw23.AlarmChains', WHERE WHAT IT READS IS OF BULK AT MOST 1048576: true; the input reads as it did. -/
def alarmChainsUptoRow : OpenClaim := { program := "ytadmigijbfdboaa", sum := "60a0f8c0023507f91b38e7272d70eeae800189801ca6fc11279a3290f56e3721", func := "tumbler/tumblerlaw23.AlarmChains", spec := "alarmChains", inPlace := ["math/bits.Sub64", "math/bits.Add64"], unfollowed := true, recurses := true, apart := false, narrowed := true }
def AlarmChainsUptoSaid : Prop := alarmChainsUptoRow.holds Try.pinned (OpenSpec.upto alarmChainsSpec)

/-- 'tumblerlaw23.AlarmApart', WHERE WHAT IT READS IS OF BULK AT MOST 1048576: true; the input reads as it did. -/
def alarmApartUptoRow : OpenClaim := { program := "ytadmigijbfdboaa", sum := "60a0f8c0023507f91b38e7272d70eeae800189801ca6fc11279a3290f56e3721", func := "tumbler/tumblerlaw23.AlarmApart", spec := "alarmApart", inPlace := ["math/bits.Sub64", "math/bits.Add64"], unfollowed := true, recurses := true, apart := false, narrowed := true }
def AlarmApartUptoSaid : Prop := alarmApartUptoRow.holds Try.pinned (OpenSpec.upto alarmApartSpec)

/-- 'tumblerlaw23.AlarmNobody', WHERE WHAT IT READS IS OF BULK AT MOST 1048576: true; the input reads as it did. -/
def alarmNobodyUptoRow : OpenClaim := { program := "ytadmigijbfdboaa", sum := "60a0f8c0023507f91b38e7272d70eeae800189801ca6fc11279a3290f56e3721", func := "tumbler/tumblerlaw23.AlarmNobody", spec := "alarmNobody", inPlace := ["math/bits.Sub64", "math/bits.Add64"], unfollowed := true, recurses := true, apart := false, narrowed := true }
def AlarmNobodyUptoSaid : Prop := alarmNobodyUptoRow.holds Try.pinned (OpenSpec.upto alarmNobodySpec)

end Rows
end Go.Proofs.Ytadmigijbfdboaa
