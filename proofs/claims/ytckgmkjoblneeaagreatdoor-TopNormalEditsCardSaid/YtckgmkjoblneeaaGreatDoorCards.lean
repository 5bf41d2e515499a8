/-
  DERIVED. GIVEN WITH THE SEED: THE CARDS: each row of YtckgmkjoblneeaaGreatDoorRows.lean that lists a variable, with what it lists TIED to the program's text (the seventh form; the later family's looks); each row that meets fmt, with fmt's text TOLD by the authors' own Lean function (tested against real Go, not proved from fmt's source: count such statements apart). THE CARD IS WHAT COUNTS. Prove the row's statement (the work); the ties are given (YtckgmkjoblneeaaGreatDoorTie.lean); close each card by the builder's one call (the guide's Derived/Test/ToyasCard.lean, 'card_holds'). Laid BY PROGRAM, IN A SANDBOX (cutbox-door.mjs). By AI agents, Wed Nov 11 2026. No macro, syntax, notation, axiom, sorry.
-/
import Derived.Test.YtckgmkjoblneeaaGreatDoorRows
import GoSem.ClaimSeven
namespace Go.Proofs.YtckgmkjoblneeaaGreatDoor
namespace Rows

/-- THE TIED CARD OF 'unicodetexttop.TopSeams'. -/
def topSeamsCard : Claim7 := { stood := { row := topSeamsRow, standIns := [], harness := (true, "75c5426603b28f5d651ef0ab77ce0307474cb1e46e1c5eb2b0470ae94c8c61b7"), looks := false }, kinds := [], alts := [], laidByText := true, laidKinds := [.data], laidTests := true, laidLooks := .later }
def TopSeamsCardSaid : Prop := Claim7.holds Tryz.pinned (.plain (OpenSpec.ofChange topSeamsSpec)) topSeamsCard

/-- THE TIED CARD OF 'unicodetexttop.TopNormalEdits'. -/
def topNormalEditsCard : Claim7 := { stood := { row := topNormalEditsRow, standIns := [], harness := (true, "75c5426603b28f5d651ef0ab77ce0307474cb1e46e1c5eb2b0470ae94c8c61b7"), looks := false }, kinds := [], alts := [], laidByText := true, laidKinds := [.data], laidTests := true, laidLooks := .later }
def TopNormalEditsCardSaid : Prop := Claim7.holds Tryz.pinned (.plain (OpenSpec.ofChange topNormalEditsSpec)) topNormalEditsCard

/-- THE SECOND FORM's CARD OF 'unicodetexttop.TopSeams'. -/
def topSeamsUptoCard : Claim7 := { stood := { row := topSeamsUptoRow, standIns := [], harness := (true, "75c5426603b28f5d651ef0ab77ce0307474cb1e46e1c5eb2b0470ae94c8c61b7"), looks := false }, kinds := [], alts := [], laidByText := true, laidKinds := [.data], laidTests := true, laidLooks := .later }
def TopSeamsUptoCardSaid : Prop := Claim7.holds Tryz.pinned (.plain (OpenSpec.upto topSeamsSpec)) topSeamsUptoCard

/-- THE SECOND FORM's CARD OF 'unicodetexttop.TopNormalEdits'. -/
def topNormalEditsUptoCard : Claim7 := { stood := { row := topNormalEditsUptoRow, standIns := [], harness := (true, "75c5426603b28f5d651ef0ab77ce0307474cb1e46e1c5eb2b0470ae94c8c61b7"), looks := false }, kinds := [], alts := [], laidByText := true, laidKinds := [.data], laidTests := true, laidLooks := .later }
def TopNormalEditsUptoCardSaid : Prop := Claim7.holds Tryz.pinned (.plain (OpenSpec.upto topNormalEditsSpec)) topNormalEditsUptoCard
end Rows
end Go.Proofs.YtckgmkjoblneeaaGreatDoor
