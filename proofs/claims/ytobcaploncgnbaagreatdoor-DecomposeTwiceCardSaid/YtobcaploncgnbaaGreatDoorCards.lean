/-
  DERIVED. GIVEN WITH THE SEED: THE CARDS: each row of YtobcaploncgnbaaGreatDoorRows.lean that lists a variable, with what it lists TIED to the program's text (the seventh form; the later family's looks); each row that meets fmt, with fmt's text TOLD by the authors' own Lean function (tested against real Go, not proved from fmt's source: count such statements apart). THE CARD IS WHAT COUNTS. Prove the row's statement (the work); the ties are given (YtobcaploncgnbaaGreatDoorTie.lean); close each card by the builder's one call (the guide's Derived/Test/ToyasCard.lean, 'card_holds'). Laid BY PROGRAM, IN A SANDBOX (cutbox-door.mjs). By AI agents, Wed Nov 11 2026. No macro, syntax, notation, axiom, sorry.
-/
import Derived.Test.YtobcaploncgnbaaGreatDoorRows
import GoSem.ClaimSeven
namespace Go.Proofs.YtobcaploncgnbaaGreatDoor
namespace Rows

/-- THE TIED CARD OF 'unicodetextlaw21.DecomposeTwice'. -/
def decomposeTwiceCard : Claim7 := { stood := { row := decomposeTwiceRow, standIns := [], harness := (true, "25bbd08a8a9d994a90ef2f1682d0aee3dab8cfdfb8d2c1729ad237bb59660ae4"), looks := false }, kinds := [], alts := [], laidByText := true, laidKinds := [.data], laidTests := true, laidLooks := .later }
def DecomposeTwiceCardSaid : Prop := Claim7.holds Tryz.pinned (.plain (OpenSpec.ofChange decomposeTwiceSpec)) decomposeTwiceCard

/-- THE SECOND FORM's CARD OF 'unicodetextlaw21.DecomposeTwice'. -/
def decomposeTwiceUptoCard : Claim7 := { stood := { row := decomposeTwiceUptoRow, standIns := [], harness := (true, "25bbd08a8a9d994a90ef2f1682d0aee3dab8cfdfb8d2c1729ad237bb59660ae4"), looks := false }, kinds := [], alts := [], laidByText := true, laidKinds := [.data], laidTests := true, laidLooks := .later }
def DecomposeTwiceUptoCardSaid : Prop := Claim7.holds Tryz.pinned (.plain (OpenSpec.upto decomposeTwiceSpec)) decomposeTwiceUptoCard
end Rows
end Go.Proofs.YtobcaploncgnbaaGreatDoor
