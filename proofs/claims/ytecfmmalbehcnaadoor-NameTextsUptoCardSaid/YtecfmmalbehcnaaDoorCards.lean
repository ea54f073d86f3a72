/-
  DERIVED. GIVEN WITH THE SEED: THE CARDS: each row of YtecfmmalbehcnaaDoorRows.lean that lists a variable, with what it lists TIED to the program's text (the seventh form; the later family's looks); each row that meets fmt, with fmt's text TOLD by the authors' own Lean function (tested against real Go, not proved from fmt's source: count such statements apart). THE CARD IS WHAT COUNTS. Prove the row's statement (the work); the ties are given (YtecfmmalbehcnaaDoorTie.lean); close each card by the builder's one call (the guide's Derived/Test/ToyasCard.lean, 'card_holds'). Laid BY PROGRAM, IN A SANDBOX (cutbox-door.mjs). By AI agents, Wed Nov 11 2026. No macro, syntax, notation, axiom, sorry.
-/
import Derived.Test.YtecfmmalbehcnaaDoorRows
import GoSem.ClaimSeven
namespace Go.Proofs.YtecfmmalbehcnaaDoor
namespace Rows

/-- THE TIED CARD OF 'tumblerlaw03.NameCompiles'. -/
def nameCompilesCard : Claim7 := { stood := { row := nameCompilesRow, standIns := [], harness := (true, "cd90fd72a43cfcb6b05e007cc9f16367d4dc4f0bf85f60c477b21d8a2fcae28f"), looks := true }, kinds := [], alts := [], laidByText := true, laidKinds := [.data, .pinned], laidTests := true, laidLooks := .later }
def NameCompilesCardSaid : Prop := Claim7.holds Tryd.pinned (.plain (OpenSpec.ofChange nameCompilesSpec)) nameCompilesCard

/-- THE TIED CARD OF 'tumblerlaw03.NameMatches'. -/
def nameMatchesCard : Claim7 := { stood := { row := nameMatchesRow, standIns := [], harness := (true, "cd90fd72a43cfcb6b05e007cc9f16367d4dc4f0bf85f60c477b21d8a2fcae28f"), looks := true }, kinds := [], alts := [], laidByText := true, laidKinds := [.data, .pinned], laidTests := true, laidLooks := .later }
def NameMatchesCardSaid : Prop := Claim7.holds Tryd.pinned (.plain (OpenSpec.ofChange nameMatchesSpec)) nameMatchesCard

/-- THE TIED CARD OF 'tumblerlaw03.NameJoins'. -/
def nameJoinsCard : Claim7 := { stood := { row := nameJoinsRow, standIns := [], harness := (true, "cd90fd72a43cfcb6b05e007cc9f16367d4dc4f0bf85f60c477b21d8a2fcae28f"), looks := true }, kinds := [], alts := [], laidByText := true, laidKinds := [.data, .pinned], laidTests := true, laidLooks := .later }
def NameJoinsCardSaid : Prop := Claim7.holds Tryd.pinned (.plain (OpenSpec.ofChange nameJoinsSpec)) nameJoinsCard

/-- THE TIED CARD OF 'tumblerlaw03.NameChoice'. -/
def nameChoiceCard : Claim7 := { stood := { row := nameChoiceRow, standIns := [], harness := (true, "cd90fd72a43cfcb6b05e007cc9f16367d4dc4f0bf85f60c477b21d8a2fcae28f"), looks := true }, kinds := [], alts := [], laidByText := true, laidKinds := [.data, .pinned], laidTests := true, laidLooks := .later }
def NameChoiceCardSaid : Prop := Claim7.holds Tryd.pinned (.plain (OpenSpec.ofChange nameChoiceSpec)) nameChoiceCard

/-- THE TIED CARD OF 'tumblerlaw03.NameFirst'. -/
def nameFirstCard : Claim7 := { stood := { row := nameFirstRow, standIns := [], harness := (true, "cd90fd72a43cfcb6b05e007cc9f16367d4dc4f0bf85f60c477b21d8a2fcae28f"), looks := true }, kinds := [], alts := [], laidByText := true, laidKinds := [.data, .pinned], laidTests := true, laidLooks := .later }
def NameFirstCardSaid : Prop := Claim7.holds Tryd.pinned (.plain (OpenSpec.ofChange nameFirstSpec)) nameFirstCard

/-- THE TIED CARD OF 'tumblerlaw03.NameOwn'. -/
def nameOwnCard : Claim7 := { stood := { row := nameOwnRow, standIns := [], harness := (true, "cd90fd72a43cfcb6b05e007cc9f16367d4dc4f0bf85f60c477b21d8a2fcae28f"), looks := true }, kinds := [], alts := [], laidByText := true, laidKinds := [.data, .pinned], laidTests := true, laidLooks := .later }
def NameOwnCardSaid : Prop := Claim7.holds Tryd.pinned (.plain (OpenSpec.ofChange nameOwnSpec)) nameOwnCard

/-- THE TIED CARD OF 'tumblerlaw03.NameNames'. -/
def nameNamesCard : Claim7 := { stood := { row := nameNamesRow, standIns := [], harness := (true, "cd90fd72a43cfcb6b05e007cc9f16367d4dc4f0bf85f60c477b21d8a2fcae28f"), looks := true }, kinds := [], alts := [], laidByText := true, laidKinds := [.data, .pinned], laidTests := true, laidLooks := .later }
def NameNamesCardSaid : Prop := Claim7.holds Tryd.pinned (.plain (OpenSpec.ofChange nameNamesSpec)) nameNamesCard

/-- THE TIED CARD OF 'tumblerlaw03.NameTexts'. -/
def nameTextsCard : Claim7 := { stood := { row := nameTextsRow, standIns := [], harness := (true, "cd90fd72a43cfcb6b05e007cc9f16367d4dc4f0bf85f60c477b21d8a2fcae28f"), looks := true }, kinds := [], alts := [], laidByText := true, laidKinds := [.data, .pinned], laidTests := true, laidLooks := .later }
def NameTextsCardSaid : Prop := Claim7.holds Tryd.pinned (.plain (OpenSpec.ofChange nameTextsSpec)) nameTextsCard

/-- THE TIED CARD OF 'tumblerlaw03.NameBack'. -/
def nameBackCard : Claim7 := { stood := { row := nameBackRow, standIns := [], harness := (true, "cd90fd72a43cfcb6b05e007cc9f16367d4dc4f0bf85f60c477b21d8a2fcae28f"), looks := true }, kinds := [], alts := [], laidByText := true, laidKinds := [.data, .pinned], laidTests := true, laidLooks := .later }
def NameBackCardSaid : Prop := Claim7.holds Tryd.pinned (.plain (OpenSpec.ofChange nameBackSpec)) nameBackCard

/-- THE TIED CARD OF 'tumblerlaw03.NamePlain'. -/
def namePlainCard : Claim7 := { stood := { row := namePlainRow, standIns := [], harness := (true, "cd90fd72a43cfcb6b05e007cc9f16367d4dc4f0bf85f60c477b21d8a2fcae28f"), looks := true }, kinds := [], alts := [], laidByText := true, laidKinds := [.data, .pinned], laidTests := true, laidLooks := .later }
def NamePlainCardSaid : Prop := Claim7.holds Tryd.pinned (.plain (OpenSpec.ofChange namePlainSpec)) namePlainCard

/-- THE TIED CARD OF 'tumblerlaw03.NameSelf'. -/
def nameSelfCard : Claim7 := { stood := { row := nameSelfRow, standIns := [], harness := (true, "cd90fd72a43cfcb6b05e007cc9f16367d4dc4f0bf85f60c477b21d8a2fcae28f"), looks := true }, kinds := [], alts := [], laidByText := true, laidKinds := [.data, .pinned], laidTests := true, laidLooks := .later }
def NameSelfCardSaid : Prop := Claim7.holds Tryd.pinned (.plain (OpenSpec.ofChange nameSelfSpec)) nameSelfCard

/-- THE TIED CARD OF 'tumblerlaw03.NameCleans'. -/
def nameCleansCard : Claim7 := { stood := { row := nameCleansRow, standIns := [], harness := (true, "cd90fd72a43cfcb6b05e007cc9f16367d4dc4f0bf85f60c477b21d8a2fcae28f"), looks := true }, kinds := [], alts := [], laidByText := true, laidKinds := [.data, .pinned], laidTests := true, laidLooks := .later }
def NameCleansCardSaid : Prop := Claim7.holds Tryd.pinned (.plain (OpenSpec.ofChange nameCleansSpec)) nameCleansCard

/-- THE TIED CARD OF 'tumblerlaw03.NameTidy'. -/
def nameTidyCard : Claim7 := { stood := { row := nameTidyRow, standIns := [], harness := (true, "cd90fd72a43cfcb6b05e007cc9f16367d4dc4f0bf85f60c477b21d8a2fcae28f"), looks := true }, kinds := [], alts := [], laidByText := true, laidKinds := [.data, .pinned], laidTests := true, laidLooks := .later }
def NameTidyCardSaid : Prop := Claim7.holds Tryd.pinned (.plain (OpenSpec.ofChange nameTidySpec)) nameTidyCard

/-- THE SECOND FORM's CARD OF 'tumblerlaw03.NameCompiles'. -/
def nameCompilesUptoCard : Claim7 := { stood := { row := nameCompilesUptoRow, standIns := [], harness := (true, "cd90fd72a43cfcb6b05e007cc9f16367d4dc4f0bf85f60c477b21d8a2fcae28f"), looks := true }, kinds := [], alts := [], laidByText := true, laidKinds := [.data, .pinned], laidTests := true, laidLooks := .later }
def NameCompilesUptoCardSaid : Prop := Claim7.holds Tryd.pinned (.plain (OpenSpec.upto nameCompilesSpec)) nameCompilesUptoCard

/-- THE SECOND FORM's CARD OF 'tumblerlaw03.NameMatches'. -/
def nameMatchesUptoCard : Claim7 := { stood := { row := nameMatchesUptoRow, standIns := [], harness := (true, "cd90fd72a43cfcb6b05e007cc9f16367d4dc4f0bf85f60c477b21d8a2fcae28f"), looks := true }, kinds := [], alts := [], laidByText := true, laidKinds := [.data, .pinned], laidTests := true, laidLooks := .later }
def NameMatchesUptoCardSaid : Prop := Claim7.holds Tryd.pinned (.plain (OpenSpec.upto nameMatchesSpec)) nameMatchesUptoCard

/-- THE SECOND FORM's CARD OF 'tumblerlaw03.NameJoins'. -/
def nameJoinsUptoCard : Claim7 := { stood := { row := nameJoinsUptoRow, standIns := [], harness := (true, "cd90fd72a43cfcb6b05e007cc9f16367d4dc4f0bf85f60c477b21d8a2fcae28f"), looks := true }, kinds := [], alts := [], laidByText := true, laidKinds := [.data, .pinned], laidTests := true, laidLooks := .later }
def NameJoinsUptoCardSaid : Prop := Claim7.holds Tryd.pinned (.plain (OpenSpec.upto nameJoinsSpec)) nameJoinsUptoCard

/-- THE SECOND FORM's CARD OF 'tumblerlaw03.NameChoice'. -/
def nameChoiceUptoCard : Claim7 := { stood := { row := nameChoiceUptoRow, standIns := [], harness := (true, "cd90fd72a43cfcb6b05e007cc9f16367d4dc4f0bf85f60c477b21d8a2fcae28f"), looks := true }, kinds := [], alts := [], laidByText := true, laidKinds := [.data, .pinned], laidTests := true, laidLooks := .later }
def NameChoiceUptoCardSaid : Prop := Claim7.holds Tryd.pinned (.plain (OpenSpec.upto nameChoiceSpec)) nameChoiceUptoCard

/-- THE SECOND FORM's CARD OF 'tumblerlaw03.NameFirst'. -/
def nameFirstUptoCard : Claim7 := { stood := { row := nameFirstUptoRow, standIns := [], harness := (true, "cd90fd72a43cfcb6b05e007cc9f16367d4dc4f0bf85f60c477b21d8a2fcae28f"), looks := true }, kinds := [], alts := [], laidByText := true, laidKinds := [.data, .pinned], laidTests := true, laidLooks := .later }
def NameFirstUptoCardSaid : Prop := Claim7.holds Tryd.pinned (.plain (OpenSpec.upto nameFirstSpec)) nameFirstUptoCard

/-- THE SECOND FORM's CARD OF 'tumblerlaw03.NameOwn'. -/
def nameOwnUptoCard : Claim7 := { stood := { row := nameOwnUptoRow, standIns := [], harness := (true, "cd90fd72a43cfcb6b05e007cc9f16367d4dc4f0bf85f60c477b21d8a2fcae28f"), looks := true }, kinds := [], alts := [], laidByText := true, laidKinds := [.data, .pinned], laidTests := true, laidLooks := .later }
def NameOwnUptoCardSaid : Prop := Claim7.holds Tryd.pinned (.plain (OpenSpec.upto nameOwnSpec)) nameOwnUptoCard

/-- THE SECOND FORM's CARD OF 'tumblerlaw03.NameNames'. -/
def nameNamesUptoCard : Claim7 := { stood := { row := nameNamesUptoRow, standIns := [], harness := (true, "cd90fd72a43cfcb6b05e007cc9f16367d4dc4f0bf85f60c477b21d8a2fcae28f"), looks := true }, kinds := [], alts := [], laidByText := true, laidKinds := [.data, .pinned], laidTests := true, laidLooks := .later }
def NameNamesUptoCardSaid : Prop := Claim7.holds Tryd.pinned (.plain (OpenSpec.upto nameNamesSpec)) nameNamesUptoCard

/-- THE SECOND FORM's CARD OF 'tumblerlaw03.NameTexts'. -/
def nameTextsUptoCard : Claim7 := { stood := { row := nameTextsUptoRow, standIns := [], harness := (true, "cd90fd72a43cfcb6b05e007cc9f16367d4dc4f0bf85f60c477b21d8a2fcae28f"), looks := true }, kinds := [], alts := [], laidByText := true, laidKinds := [.data, .pinned], laidTests := true, laidLooks := .later }
def NameTextsUptoCardSaid : Prop := Claim7.holds Tryd.pinned (.plain (OpenSpec.upto nameTextsSpec)) nameTextsUptoCard

/-- THE SECOND FORM's CARD OF 'tumblerlaw03.NameBack'. -/
def nameBackUptoCard : Claim7 := { stood := { row := nameBackUptoRow, standIns := [], harness := (true, "cd90fd72a43cfcb6b05e007cc9f16367d4dc4f0bf85f60c477b21d8a2fcae28f"), looks := true }, kinds := [], alts := [], laidByText := true, laidKinds := [.data, .pinned], laidTests := true, laidLooks := .later }
def NameBackUptoCardSaid : Prop := Claim7.holds Tryd.pinned (.plain (OpenSpec.upto nameBackSpec)) nameBackUptoCard

/-- THE SECOND FORM's CARD OF 'tumblerlaw03.NamePlain'. -/
def namePlainUptoCard : Claim7 := { stood := { row := namePlainUptoRow, standIns := [], harness := (true, "cd90fd72a43cfcb6b05e007cc9f16367d4dc4f0bf85f60c477b21d8a2fcae28f"), looks := true }, kinds := [], alts := [], laidByText := true, laidKinds := [.data, .pinned], laidTests := true, laidLooks := .later }
def NamePlainUptoCardSaid : Prop := Claim7.holds Tryd.pinned (.plain (OpenSpec.upto namePlainSpec)) namePlainUptoCard

/-- THE SECOND FORM's CARD OF 'tumblerlaw03.NameSelf'. -/
def nameSelfUptoCard : Claim7 := { stood := { row := nameSelfUptoRow, standIns := [], harness := (true, "cd90fd72a43cfcb6b05e007cc9f16367d4dc4f0bf85f60c477b21d8a2fcae28f"), looks := true }, kinds := [], alts := [], laidByText := true, laidKinds := [.data, .pinned], laidTests := true, laidLooks := .later }
def NameSelfUptoCardSaid : Prop := Claim7.holds Tryd.pinned (.plain (OpenSpec.upto nameSelfSpec)) nameSelfUptoCard

/-- THE SECOND FORM's CARD OF 'tumblerlaw03.NameCleans'. -/
def nameCleansUptoCard : Claim7 := { stood := { row := nameCleansUptoRow, standIns := [], harness := (true, "cd90fd72a43cfcb6b05e007cc9f16367d4dc4f0bf85f60c477b21d8a2fcae28f"), looks := true }, kinds := [], alts := [], laidByText := true, laidKinds := [.data, .pinned], laidTests := true, laidLooks := .later }
def NameCleansUptoCardSaid : Prop := Claim7.holds Tryd.pinned (.plain (OpenSpec.upto nameCleansSpec)) nameCleansUptoCard

/-- THE SECOND FORM's CARD OF 'tumblerlaw03.NameTidy'. -/
def nameTidyUptoCard : Claim7 := { stood := { row := nameTidyUptoRow, standIns := [], harness := (true, "cd90fd72a43cfcb6b05e007cc9f16367d4dc4f0bf85f60c477b21d8a2fcae28f"), looks := true }, kinds := [], alts := [], laidByText := true, laidKinds := [.data, .pinned], laidTests := true, laidLooks := .later }
def NameTidyUptoCardSaid : Prop := Claim7.holds Tryd.pinned (.plain (OpenSpec.upto nameTidySpec)) nameTidyUptoCard
end Rows
end Go.Proofs.YtecfmmalbehcnaaDoor
