/-
  DERIVED. GIVEN WITH THE SEED: THE CARDS: each row of YtmlcdohldkgcdaaGreatDoorRows.lean that lists a variable, with what it lists TIED to the program's text (the seventh form; the later family's looks); each row that meets fmt, with fmt's text TOLD by the authors' own Lean function (tested against real Go, not proved from fmt's source: count such statements apart). THE CARD IS WHAT COUNTS. Prove the row's statement (the work); the ties are given (YtmlcdohldkgcdaaGreatDoorTie.lean); close each card by the builder's one call (the guide's Derived/Test/ToyasCard.lean, 'card_holds'). Laid BY PROGRAM, IN A SANDBOX (cutbox-door.mjs). By AI agents, Wed Nov 11 2026. No macro, syntax, notation, axiom, sorry.
-/
import Derived.Test.YtmlcdohldkgcdaaGreatDoorRows
import GoSem.ClaimSeven
namespace Go.Proofs.YtmlcdohldkgcdaaGreatDoor
namespace Rows

/-- THE TIED CARD OF 'unicodetexttop.TopSeams'. -/
def topSeamsCard : Claim7 := { stood := { row := topSeamsRow, standIns := [], harness := (true, "d4afe53d6ca536fb71691e94d956aecb03d8a70a65ad78080160034438e34bd6"), looks := false }, kinds := [], alts := [], laidByText := true, laidKinds := [.data], laidTests := true, laidLooks := .later }
def TopSeamsCardSaid : Prop := Claim7.holds Tryz.pinned (.plain (OpenSpec.ofChange topSeamsSpec)) topSeamsCard

/-- THE TIED CARD OF 'unicodetexttop.TopNormalEdits'. -/
def topNormalEditsCard : Claim7 := { stood := { row := topNormalEditsRow, standIns := [], harness := (true, "d4afe53d6ca536fb71691e94d956aecb03d8a70a65ad78080160034438e34bd6"), looks := false }, kinds := [], alts := [], laidByText := true, laidKinds := [.data], laidTests := true, laidLooks := .later }
def TopNormalEditsCardSaid : Prop := Claim7.holds Tryz.pinned (.plain (OpenSpec.ofChange topNormalEditsSpec)) topNormalEditsCard

/-- THE TIED CARD OF 'unicodetextlaw39.IdentValid'. -/
def identValidCard : Claim7 := { stood := { row := identValidRow, standIns := [], harness := (true, "d4afe53d6ca536fb71691e94d956aecb03d8a70a65ad78080160034438e34bd6"), looks := false }, kinds := [], alts := [], laidByText := true, laidKinds := [.data], laidTests := true, laidLooks := .later }
def IdentValidCardSaid : Prop := Claim7.holds Tryz.pinned (.plain (OpenSpec.ofChange identValidSpec)) identValidCard

/-- THE TIED CARD OF 'unicodetextlaw39.IdentSplits'. -/
def identSplitsCard : Claim7 := { stood := { row := identSplitsRow, standIns := [], harness := (true, "d4afe53d6ca536fb71691e94d956aecb03d8a70a65ad78080160034438e34bd6"), looks := false }, kinds := [], alts := [], laidByText := true, laidKinds := [.data], laidTests := true, laidLooks := .later }
def IdentSplitsCardSaid : Prop := Claim7.holds Tryz.pinned (.plain (OpenSpec.ofChange identSplitsSpec)) identSplitsCard

/-- THE TIED CARD OF 'unicodetextlaw39.IdentRanges'. -/
def identRangesCard : Claim7 := { stood := { row := identRangesRow, standIns := [], harness := (true, "d4afe53d6ca536fb71691e94d956aecb03d8a70a65ad78080160034438e34bd6"), looks := false }, kinds := [], alts := [], laidByText := true, laidKinds := [.data], laidTests := true, laidLooks := .later }
def IdentRangesCardSaid : Prop := Claim7.holds Tryz.pinned (.plain (OpenSpec.ofChange identRangesSpec)) identRangesCard

/-- THE TIED CARD OF 'unicodetextlaw39.IdentLongest'. -/
def identLongestCard : Claim7 := { stood := { row := identLongestRow, standIns := [], harness := (true, "d4afe53d6ca536fb71691e94d956aecb03d8a70a65ad78080160034438e34bd6"), looks := false }, kinds := [], alts := [], laidByText := true, laidKinds := [.data], laidTests := true, laidLooks := .later }
def IdentLongestCardSaid : Prop := Claim7.holds Tryz.pinned (.plain (OpenSpec.ofChange identLongestSpec)) identLongestCard

/-- THE TIED CARD OF 'unicodetextlaw39.IdentWhole'. -/
def identWholeCard : Claim7 := { stood := { row := identWholeRow, standIns := [], harness := (true, "d4afe53d6ca536fb71691e94d956aecb03d8a70a65ad78080160034438e34bd6"), looks := false }, kinds := [], alts := [], laidByText := true, laidKinds := [.data], laidTests := true, laidLooks := .later }
def IdentWholeCardSaid : Prop := Claim7.holds Tryz.pinned (.plain (OpenSpec.ofChange identWholeSpec)) identWholeCard

/-- THE TIED CARD OF 'unicodetextlaw39.IdentFaults'. -/
def identFaultsCard : Claim7 := { stood := { row := identFaultsRow, standIns := [], harness := (true, "d4afe53d6ca536fb71691e94d956aecb03d8a70a65ad78080160034438e34bd6"), looks := false }, kinds := [], alts := [], laidByText := true, laidKinds := [.data], laidTests := true, laidLooks := .later }
def IdentFaultsCardSaid : Prop := Claim7.holds Tryz.pinned (.plain (OpenSpec.ofChange identFaultsSpec)) identFaultsCard

/-- THE SECOND FORM's CARD OF 'unicodetexttop.TopSeams'. -/
def topSeamsUptoCard : Claim7 := { stood := { row := topSeamsUptoRow, standIns := [], harness := (true, "d4afe53d6ca536fb71691e94d956aecb03d8a70a65ad78080160034438e34bd6"), looks := false }, kinds := [], alts := [], laidByText := true, laidKinds := [.data], laidTests := true, laidLooks := .later }
def TopSeamsUptoCardSaid : Prop := Claim7.holds Tryz.pinned (.plain (OpenSpec.upto topSeamsSpec)) topSeamsUptoCard

/-- THE SECOND FORM's CARD OF 'unicodetexttop.TopNormalEdits'. -/
def topNormalEditsUptoCard : Claim7 := { stood := { row := topNormalEditsUptoRow, standIns := [], harness := (true, "d4afe53d6ca536fb71691e94d956aecb03d8a70a65ad78080160034438e34bd6"), looks := false }, kinds := [], alts := [], laidByText := true, laidKinds := [.data], laidTests := true, laidLooks := .later }
def TopNormalEditsUptoCardSaid : Prop := Claim7.holds Tryz.pinned (.plain (OpenSpec.upto topNormalEditsSpec)) topNormalEditsUptoCard

/-- THE SECOND FORM's CARD OF 'unicodetextlaw39.IdentValid'. -/
def identValidUptoCard : Claim7 := { stood := { row := identValidUptoRow, standIns := [], harness := (true, "d4afe53d6ca536fb71691e94d956aecb03d8a70a65ad78080160034438e34bd6"), looks := false }, kinds := [], alts := [], laidByText := true, laidKinds := [.data], laidTests := true, laidLooks := .later }
def IdentValidUptoCardSaid : Prop := Claim7.holds Tryz.pinned (.plain (OpenSpec.upto identValidSpec)) identValidUptoCard

/-- THE SECOND FORM's CARD OF 'unicodetextlaw39.IdentSplits'. -/
def identSplitsUptoCard : Claim7 := { stood := { row := identSplitsUptoRow, standIns := [], harness := (true, "d4afe53d6ca536fb71691e94d956aecb03d8a70a65ad78080160034438e34bd6"), looks := false }, kinds := [], alts := [], laidByText := true, laidKinds := [.data], laidTests := true, laidLooks := .later }
def IdentSplitsUptoCardSaid : Prop := Claim7.holds Tryz.pinned (.plain (OpenSpec.upto identSplitsSpec)) identSplitsUptoCard

/-- THE SECOND FORM's CARD OF 'unicodetextlaw39.IdentRanges'. -/
def identRangesUptoCard : Claim7 := { stood := { row := identRangesUptoRow, standIns := [], harness := (true, "d4afe53d6ca536fb71691e94d956aecb03d8a70a65ad78080160034438e34bd6"), looks := false }, kinds := [], alts := [], laidByText := true, laidKinds := [.data], laidTests := true, laidLooks := .later }
def IdentRangesUptoCardSaid : Prop := Claim7.holds Tryz.pinned (.plain (OpenSpec.upto identRangesSpec)) identRangesUptoCard

/-- THE SECOND FORM's CARD OF 'unicodetextlaw39.IdentLongest'. -/
def identLongestUptoCard : Claim7 := { stood := { row := identLongestUptoRow, standIns := [], harness := (true, "d4afe53d6ca536fb71691e94d956aecb03d8a70a65ad78080160034438e34bd6"), looks := false }, kinds := [], alts := [], laidByText := true, laidKinds := [.data], laidTests := true, laidLooks := .later }
def IdentLongestUptoCardSaid : Prop := Claim7.holds Tryz.pinned (.plain (OpenSpec.upto identLongestSpec)) identLongestUptoCard

/-- THE SECOND FORM's CARD OF 'unicodetextlaw39.IdentWhole'. -/
def identWholeUptoCard : Claim7 := { stood := { row := identWholeUptoRow, standIns := [], harness := (true, "d4afe53d6ca536fb71691e94d956aecb03d8a70a65ad78080160034438e34bd6"), looks := false }, kinds := [], alts := [], laidByText := true, laidKinds := [.data], laidTests := true, laidLooks := .later }
def IdentWholeUptoCardSaid : Prop := Claim7.holds Tryz.pinned (.plain (OpenSpec.upto identWholeSpec)) identWholeUptoCard

/-- THE SECOND FORM's CARD OF 'unicodetextlaw39.IdentFaults'. -/
def identFaultsUptoCard : Claim7 := { stood := { row := identFaultsUptoRow, standIns := [], harness := (true, "d4afe53d6ca536fb71691e94d956aecb03d8a70a65ad78080160034438e34bd6"), looks := false }, kinds := [], alts := [], laidByText := true, laidKinds := [.data], laidTests := true, laidLooks := .later }
def IdentFaultsUptoCardSaid : Prop := Claim7.holds Tryz.pinned (.plain (OpenSpec.upto identFaultsSpec)) identFaultsUptoCard
end Rows
end Go.Proofs.YtmlcdohldkgcdaaGreatDoor
