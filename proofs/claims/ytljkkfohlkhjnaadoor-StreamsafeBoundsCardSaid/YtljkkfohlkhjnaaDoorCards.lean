/-
  DERIVED. GIVEN WITH THE SEED: THE CARDS: each row of YtljkkfohlkhjnaaDoorRows.lean that lists a variable, with what it lists TIED to the program's text (the seventh form; the later family's looks); each row that meets fmt, with fmt's text TOLD by the authors' own Lean function (tested against real Go, not proved from fmt's source: count such statements apart). THE CARD IS WHAT COUNTS. Prove the row's statement (the work); the ties are given (YtljkkfohlkhjnaaDoorTie.lean); close each card by the builder's one call (the guide's Derived/Test/ToyasCard.lean, 'card_holds'). Laid BY PROGRAM, IN A SANDBOX (cutbox-door.mjs). By AI agents, Wed Nov 11 2026. No macro, syntax, notation, axiom, sorry.
-/
import Derived.Test.YtljkkfohlkhjnaaDoorRows
import GoSem.ClaimSeven
namespace Go.Proofs.YtljkkfohlkhjnaaDoor
namespace Rows

/-- THE TIED CARD OF 'unicodetextlaw27.StreamsafeTwice'. -/
def streamsafeTwiceCard : Claim7 := { stood := { row := streamsafeTwiceRow, standIns := [], harness := (true, "43fa0a962209d8ba8e05bc7c507b762b4d7e1075354979ddacbf71a67ab36d24"), looks := false }, kinds := [], alts := [], laidByText := true, laidKinds := [.data], laidTests := true, laidLooks := .later }
def StreamsafeTwiceCardSaid : Prop := Claim7.holds Tryd.pinned (.plain (OpenSpec.ofChange streamsafeTwiceSpec)) streamsafeTwiceCard

/-- THE TIED CARD OF 'unicodetextlaw27.StreamsafeKeeps'. -/
def streamsafeKeepsCard : Claim7 := { stood := { row := streamsafeKeepsRow, standIns := [], harness := (true, "43fa0a962209d8ba8e05bc7c507b762b4d7e1075354979ddacbf71a67ab36d24"), looks := false }, kinds := [], alts := [], laidByText := true, laidKinds := [.data], laidTests := true, laidLooks := .later }
def StreamsafeKeepsCardSaid : Prop := Claim7.holds Tryd.pinned (.plain (OpenSpec.ofChange streamsafeKeepsSpec)) streamsafeKeepsCard

/-- THE TIED CARD OF 'unicodetextlaw27.StreamsafeBounds'. -/
def streamsafeBoundsCard : Claim7 := { stood := { row := streamsafeBoundsRow, standIns := [], harness := (true, "43fa0a962209d8ba8e05bc7c507b762b4d7e1075354979ddacbf71a67ab36d24"), looks := false }, kinds := [], alts := [], laidByText := true, laidKinds := [.data], laidTests := true, laidLooks := .later }
def StreamsafeBoundsCardSaid : Prop := Claim7.holds Tryd.pinned (.plain (OpenSpec.ofChange streamsafeBoundsSpec)) streamsafeBoundsCard

/-- THE SECOND FORM's CARD OF 'unicodetextlaw27.StreamsafeTwice'. -/
def streamsafeTwiceUptoCard : Claim7 := { stood := { row := streamsafeTwiceUptoRow, standIns := [], harness := (true, "43fa0a962209d8ba8e05bc7c507b762b4d7e1075354979ddacbf71a67ab36d24"), looks := false }, kinds := [], alts := [], laidByText := true, laidKinds := [.data], laidTests := true, laidLooks := .later }
def StreamsafeTwiceUptoCardSaid : Prop := Claim7.holds Tryd.pinned (.plain (OpenSpec.upto streamsafeTwiceSpec)) streamsafeTwiceUptoCard

/-- THE SECOND FORM's CARD OF 'unicodetextlaw27.StreamsafeKeeps'. -/
def streamsafeKeepsUptoCard : Claim7 := { stood := { row := streamsafeKeepsUptoRow, standIns := [], harness := (true, "43fa0a962209d8ba8e05bc7c507b762b4d7e1075354979ddacbf71a67ab36d24"), looks := false }, kinds := [], alts := [], laidByText := true, laidKinds := [.data], laidTests := true, laidLooks := .later }
def StreamsafeKeepsUptoCardSaid : Prop := Claim7.holds Tryd.pinned (.plain (OpenSpec.upto streamsafeKeepsSpec)) streamsafeKeepsUptoCard

/-- THE SECOND FORM's CARD OF 'unicodetextlaw27.StreamsafeBounds'. -/
def streamsafeBoundsUptoCard : Claim7 := { stood := { row := streamsafeBoundsUptoRow, standIns := [], harness := (true, "43fa0a962209d8ba8e05bc7c507b762b4d7e1075354979ddacbf71a67ab36d24"), looks := false }, kinds := [], alts := [], laidByText := true, laidKinds := [.data], laidTests := true, laidLooks := .later }
def StreamsafeBoundsUptoCardSaid : Prop := Claim7.holds Tryd.pinned (.plain (OpenSpec.upto streamsafeBoundsSpec)) streamsafeBoundsUptoCard
end Rows
end Go.Proofs.YtljkkfohlkhjnaaDoor
