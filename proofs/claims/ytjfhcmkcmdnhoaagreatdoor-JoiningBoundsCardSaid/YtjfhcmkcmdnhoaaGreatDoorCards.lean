/-
  DERIVED. GIVEN WITH THE SEED: THE CARDS: each row of YtjfhcmkcmdnhoaaGreatDoorRows.lean that lists a variable, with what it lists TIED to the program's text (the seventh form; the later family's looks); each row that meets fmt, with fmt's text TOLD by the authors' own Lean function (tested against real Go, not proved from fmt's source: count such statements apart). THE CARD IS WHAT COUNTS. Prove the row's statement (the work); the ties are given (YtjfhcmkcmdnhoaaGreatDoorTie.lean); close each card by the builder's one call (the guide's Derived/Test/ToyasCard.lean, 'card_holds'). Laid BY PROGRAM, IN A SANDBOX (cutbox-door.mjs). By AI agents, Wed Nov 11 2026. No macro, syntax, notation, axiom, sorry.
-/
import Derived.Test.YtjfhcmkcmdnhoaaGreatDoorRows
import GoSem.ClaimSeven
namespace Go.Proofs.YtjfhcmkcmdnhoaaGreatDoor
namespace Rows

/-- THE TIED CARD OF 'unicodetextlaw26.JoiningEdges'. -/
def joiningEdgesCard : Claim7 := { stood := { row := joiningEdgesRow, standIns := [], harness := (true, "ce58f55de31ccddc4de5d5da2f8cd532fd3270d761bf45a837fa542f6f6b67df"), looks := false }, kinds := [], alts := [], laidByText := true, laidKinds := [.data], laidTests := true, laidLooks := .later }
def JoiningEdgesCardSaid : Prop := Claim7.holds Tryz.pinned (.plain (OpenSpec.ofChange joiningEdgesSpec)) joiningEdgesCard

/-- THE TIED CARD OF 'unicodetextlaw26.JoiningJoins'. -/
def joiningJoinsCard : Claim7 := { stood := { row := joiningJoinsRow, standIns := [], harness := (true, "ce58f55de31ccddc4de5d5da2f8cd532fd3270d761bf45a837fa542f6f6b67df"), looks := false }, kinds := [], alts := [], laidByText := true, laidKinds := [.data], laidTests := true, laidLooks := .later }
def JoiningJoinsCardSaid : Prop := Claim7.holds Tryz.pinned (.plain (OpenSpec.ofChange joiningJoinsSpec)) joiningJoinsCard

/-- THE TIED CARD OF 'unicodetextlaw26.JoiningReplaces'. -/
def joiningReplacesCard : Claim7 := { stood := { row := joiningReplacesRow, standIns := [], harness := (true, "ce58f55de31ccddc4de5d5da2f8cd532fd3270d761bf45a837fa542f6f6b67df"), looks := false }, kinds := [], alts := [], laidByText := true, laidKinds := [.data], laidTests := true, laidLooks := .later }
def JoiningReplacesCardSaid : Prop := Claim7.holds Tryz.pinned (.plain (OpenSpec.ofChange joiningReplacesSpec)) joiningReplacesCard

/-- THE TIED CARD OF 'unicodetextlaw26.JoiningSame'. -/
def joiningSameCard : Claim7 := { stood := { row := joiningSameRow, standIns := [], harness := (true, "ce58f55de31ccddc4de5d5da2f8cd532fd3270d761bf45a837fa542f6f6b67df"), looks := false }, kinds := [], alts := [], laidByText := true, laidKinds := [.data], laidTests := true, laidLooks := .later }
def JoiningSameCardSaid : Prop := Claim7.holds Tryz.pinned (.plain (OpenSpec.ofChange joiningSameSpec)) joiningSameCard

/-- THE TIED CARD OF 'unicodetextlaw26.JoiningBounds'. -/
def joiningBoundsCard : Claim7 := { stood := { row := joiningBoundsRow, standIns := [], harness := (true, "ce58f55de31ccddc4de5d5da2f8cd532fd3270d761bf45a837fa542f6f6b67df"), looks := false }, kinds := [], alts := [], laidByText := true, laidKinds := [.data], laidTests := true, laidLooks := .later }
def JoiningBoundsCardSaid : Prop := Claim7.holds Tryz.pinned (.plain (OpenSpec.ofChange joiningBoundsSpec)) joiningBoundsCard

/-- THE TIED CARD OF 'unicodetextlaw26.JoiningEdits'. -/
def joiningEditsCard : Claim7 := { stood := { row := joiningEditsRow, standIns := [], harness := (true, "ce58f55de31ccddc4de5d5da2f8cd532fd3270d761bf45a837fa542f6f6b67df"), looks := false }, kinds := [], alts := [], laidByText := true, laidKinds := [.data], laidTests := true, laidLooks := .later }
def JoiningEditsCardSaid : Prop := Claim7.holds Tryz.pinned (.plain (OpenSpec.ofChange joiningEditsSpec)) joiningEditsCard

/-- THE TIED CARD OF 'unicodetextlaw24.QuickcheckChars'. -/
def quickcheckCharsCard : Claim7 := { stood := { row := quickcheckCharsRow, standIns := [], harness := (true, "ce58f55de31ccddc4de5d5da2f8cd532fd3270d761bf45a837fa542f6f6b67df"), looks := false }, kinds := [], alts := [], laidByText := true, laidKinds := [.data], laidTests := true, laidLooks := .later }
def QuickcheckCharsCardSaid : Prop := Claim7.holds Tryz.pinned (.plain (OpenSpec.ofChange quickcheckCharsSpec)) quickcheckCharsCard

/-- THE TIED CARD OF 'unicodetextlaw24.QuickcheckBoundaries'. -/
def quickcheckBoundariesCard : Claim7 := { stood := { row := quickcheckBoundariesRow, standIns := [], harness := (true, "ce58f55de31ccddc4de5d5da2f8cd532fd3270d761bf45a837fa542f6f6b67df"), looks := false }, kinds := [], alts := [], laidByText := true, laidKinds := [.data], laidTests := true, laidLooks := .later }
def QuickcheckBoundariesCardSaid : Prop := Claim7.holds Tryz.pinned (.plain (OpenSpec.ofChange quickcheckBoundariesSpec)) quickcheckBoundariesCard

/-- THE TIED CARD OF 'unicodetextlaw24.QuickcheckDivides'. -/
def quickcheckDividesCard : Claim7 := { stood := { row := quickcheckDividesRow, standIns := [], harness := (true, "ce58f55de31ccddc4de5d5da2f8cd532fd3270d761bf45a837fa542f6f6b67df"), looks := false }, kinds := [], alts := [], laidByText := true, laidKinds := [.data], laidTests := true, laidLooks := .later }
def QuickcheckDividesCardSaid : Prop := Claim7.holds Tryz.pinned (.plain (OpenSpec.ofChange quickcheckDividesSpec)) quickcheckDividesCard

/-- THE TIED CARD OF 'unicodetextlaw24.QuickcheckTexts'. -/
def quickcheckTextsCard : Claim7 := { stood := { row := quickcheckTextsRow, standIns := [], harness := (true, "ce58f55de31ccddc4de5d5da2f8cd532fd3270d761bf45a837fa542f6f6b67df"), looks := false }, kinds := [], alts := [], laidByText := true, laidKinds := [.data], laidTests := true, laidLooks := .later }
def QuickcheckTextsCardSaid : Prop := Claim7.holds Tryz.pinned (.plain (OpenSpec.ofChange quickcheckTextsSpec)) quickcheckTextsCard

/-- THE TIED CARD OF 'unicodetextlaw24.QuickcheckForms'. -/
def quickcheckFormsCard : Claim7 := { stood := { row := quickcheckFormsRow, standIns := [], harness := (true, "ce58f55de31ccddc4de5d5da2f8cd532fd3270d761bf45a837fa542f6f6b67df"), looks := false }, kinds := [], alts := [], laidByText := true, laidKinds := [.data], laidTests := true, laidLooks := .later }
def QuickcheckFormsCardSaid : Prop := Claim7.holds Tryz.pinned (.plain (OpenSpec.ofChange quickcheckFormsSpec)) quickcheckFormsCard

/-- THE TIED CARD OF 'unicodetextlaw24.QuickcheckDecides'. -/
def quickcheckDecidesCard : Claim7 := { stood := { row := quickcheckDecidesRow, standIns := [], harness := (true, "ce58f55de31ccddc4de5d5da2f8cd532fd3270d761bf45a837fa542f6f6b67df"), looks := false }, kinds := [], alts := [], laidByText := true, laidKinds := [.data], laidTests := true, laidLooks := .later }
def QuickcheckDecidesCardSaid : Prop := Claim7.holds Tryz.pinned (.plain (OpenSpec.ofChange quickcheckDecidesSpec)) quickcheckDecidesCard

/-- THE SECOND FORM's CARD OF 'unicodetextlaw26.JoiningEdges'. -/
def joiningEdgesUptoCard : Claim7 := { stood := { row := joiningEdgesUptoRow, standIns := [], harness := (true, "ce58f55de31ccddc4de5d5da2f8cd532fd3270d761bf45a837fa542f6f6b67df"), looks := false }, kinds := [], alts := [], laidByText := true, laidKinds := [.data], laidTests := true, laidLooks := .later }
def JoiningEdgesUptoCardSaid : Prop := Claim7.holds Tryz.pinned (.plain (OpenSpec.upto joiningEdgesSpec)) joiningEdgesUptoCard

/-- THE SECOND FORM's CARD OF 'unicodetextlaw26.JoiningJoins'. -/
def joiningJoinsUptoCard : Claim7 := { stood := { row := joiningJoinsUptoRow, standIns := [], harness := (true, "ce58f55de31ccddc4de5d5da2f8cd532fd3270d761bf45a837fa542f6f6b67df"), looks := false }, kinds := [], alts := [], laidByText := true, laidKinds := [.data], laidTests := true, laidLooks := .later }
def JoiningJoinsUptoCardSaid : Prop := Claim7.holds Tryz.pinned (.plain (OpenSpec.upto joiningJoinsSpec)) joiningJoinsUptoCard

/-- THE SECOND FORM's CARD OF 'unicodetextlaw26.JoiningReplaces'. -/
def joiningReplacesUptoCard : Claim7 := { stood := { row := joiningReplacesUptoRow, standIns := [], harness := (true, "ce58f55de31ccddc4de5d5da2f8cd532fd3270d761bf45a837fa542f6f6b67df"), looks := false }, kinds := [], alts := [], laidByText := true, laidKinds := [.data], laidTests := true, laidLooks := .later }
def JoiningReplacesUptoCardSaid : Prop := Claim7.holds Tryz.pinned (.plain (OpenSpec.upto joiningReplacesSpec)) joiningReplacesUptoCard

/-- THE SECOND FORM's CARD OF 'unicodetextlaw26.JoiningSame'. -/
def joiningSameUptoCard : Claim7 := { stood := { row := joiningSameUptoRow, standIns := [], harness := (true, "ce58f55de31ccddc4de5d5da2f8cd532fd3270d761bf45a837fa542f6f6b67df"), looks := false }, kinds := [], alts := [], laidByText := true, laidKinds := [.data], laidTests := true, laidLooks := .later }
def JoiningSameUptoCardSaid : Prop := Claim7.holds Tryz.pinned (.plain (OpenSpec.upto joiningSameSpec)) joiningSameUptoCard

/-- THE SECOND FORM's CARD OF 'unicodetextlaw26.JoiningBounds'. -/
def joiningBoundsUptoCard : Claim7 := { stood := { row := joiningBoundsUptoRow, standIns := [], harness := (true, "ce58f55de31ccddc4de5d5da2f8cd532fd3270d761bf45a837fa542f6f6b67df"), looks := false }, kinds := [], alts := [], laidByText := true, laidKinds := [.data], laidTests := true, laidLooks := .later }
def JoiningBoundsUptoCardSaid : Prop := Claim7.holds Tryz.pinned (.plain (OpenSpec.upto joiningBoundsSpec)) joiningBoundsUptoCard

/-- THE SECOND FORM's CARD OF 'unicodetextlaw26.JoiningEdits'. -/
def joiningEditsUptoCard : Claim7 := { stood := { row := joiningEditsUptoRow, standIns := [], harness := (true, "ce58f55de31ccddc4de5d5da2f8cd532fd3270d761bf45a837fa542f6f6b67df"), looks := false }, kinds := [], alts := [], laidByText := true, laidKinds := [.data], laidTests := true, laidLooks := .later }
def JoiningEditsUptoCardSaid : Prop := Claim7.holds Tryz.pinned (.plain (OpenSpec.upto joiningEditsSpec)) joiningEditsUptoCard

/-- THE SECOND FORM's CARD OF 'unicodetextlaw24.QuickcheckChars'. -/
def quickcheckCharsUptoCard : Claim7 := { stood := { row := quickcheckCharsUptoRow, standIns := [], harness := (true, "ce58f55de31ccddc4de5d5da2f8cd532fd3270d761bf45a837fa542f6f6b67df"), looks := false }, kinds := [], alts := [], laidByText := true, laidKinds := [.data], laidTests := true, laidLooks := .later }
def QuickcheckCharsUptoCardSaid : Prop := Claim7.holds Tryz.pinned (.plain (OpenSpec.upto quickcheckCharsSpec)) quickcheckCharsUptoCard

/-- THE SECOND FORM's CARD OF 'unicodetextlaw24.QuickcheckBoundaries'. -/
def quickcheckBoundariesUptoCard : Claim7 := { stood := { row := quickcheckBoundariesUptoRow, standIns := [], harness := (true, "ce58f55de31ccddc4de5d5da2f8cd532fd3270d761bf45a837fa542f6f6b67df"), looks := false }, kinds := [], alts := [], laidByText := true, laidKinds := [.data], laidTests := true, laidLooks := .later }
def QuickcheckBoundariesUptoCardSaid : Prop := Claim7.holds Tryz.pinned (.plain (OpenSpec.upto quickcheckBoundariesSpec)) quickcheckBoundariesUptoCard

/-- THE SECOND FORM's CARD OF 'unicodetextlaw24.QuickcheckDivides'. -/
def quickcheckDividesUptoCard : Claim7 := { stood := { row := quickcheckDividesUptoRow, standIns := [], harness := (true, "ce58f55de31ccddc4de5d5da2f8cd532fd3270d761bf45a837fa542f6f6b67df"), looks := false }, kinds := [], alts := [], laidByText := true, laidKinds := [.data], laidTests := true, laidLooks := .later }
def QuickcheckDividesUptoCardSaid : Prop := Claim7.holds Tryz.pinned (.plain (OpenSpec.upto quickcheckDividesSpec)) quickcheckDividesUptoCard

/-- THE SECOND FORM's CARD OF 'unicodetextlaw24.QuickcheckTexts'. -/
def quickcheckTextsUptoCard : Claim7 := { stood := { row := quickcheckTextsUptoRow, standIns := [], harness := (true, "ce58f55de31ccddc4de5d5da2f8cd532fd3270d761bf45a837fa542f6f6b67df"), looks := false }, kinds := [], alts := [], laidByText := true, laidKinds := [.data], laidTests := true, laidLooks := .later }
def QuickcheckTextsUptoCardSaid : Prop := Claim7.holds Tryz.pinned (.plain (OpenSpec.upto quickcheckTextsSpec)) quickcheckTextsUptoCard

/-- THE SECOND FORM's CARD OF 'unicodetextlaw24.QuickcheckForms'. -/
def quickcheckFormsUptoCard : Claim7 := { stood := { row := quickcheckFormsUptoRow, standIns := [], harness := (true, "ce58f55de31ccddc4de5d5da2f8cd532fd3270d761bf45a837fa542f6f6b67df"), looks := false }, kinds := [], alts := [], laidByText := true, laidKinds := [.data], laidTests := true, laidLooks := .later }
def QuickcheckFormsUptoCardSaid : Prop := Claim7.holds Tryz.pinned (.plain (OpenSpec.upto quickcheckFormsSpec)) quickcheckFormsUptoCard

/-- THE SECOND FORM's CARD OF 'unicodetextlaw24.QuickcheckDecides'. -/
def quickcheckDecidesUptoCard : Claim7 := { stood := { row := quickcheckDecidesUptoRow, standIns := [], harness := (true, "ce58f55de31ccddc4de5d5da2f8cd532fd3270d761bf45a837fa542f6f6b67df"), looks := false }, kinds := [], alts := [], laidByText := true, laidKinds := [.data], laidTests := true, laidLooks := .later }
def QuickcheckDecidesUptoCardSaid : Prop := Claim7.holds Tryz.pinned (.plain (OpenSpec.upto quickcheckDecidesSpec)) quickcheckDecidesUptoCard
end Rows
end Go.Proofs.YtjfhcmkcmdnhoaaGreatDoor
