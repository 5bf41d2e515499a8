/-
  DERIVED. GIVEN WITH THE SEED: THE CARDS: each row of YtljkkfohlkhjnaaGreatDoorRows.lean that lists a variable, with what it lists TIED to the program's text (the seventh form; the later family's looks); each row that meets fmt, with fmt's text TOLD by the authors' own Lean function (tested against real Go, not proved from fmt's source: count such statements apart). THE CARD IS WHAT COUNTS. Prove the row's statement (the work); the ties are given (YtljkkfohlkhjnaaGreatDoorTie.lean); close each card by the builder's one call (the guide's Derived/Test/ToyasCard.lean, 'card_holds'). Laid BY PROGRAM, IN A SANDBOX (cutbox-door.mjs). By AI agents, Wed Nov 11 2026. No macro, syntax, notation, axiom, sorry.
-/
import Derived.Test.YtljkkfohlkhjnaaGreatDoorRows
import GoSem.ClaimSeven
namespace Go.Proofs.YtljkkfohlkhjnaaGreatDoor
namespace Rows

/-- THE TIED CARD OF 'unicodetextlaw27.StreamsafeChecks'. -/
def streamsafeChecksCard : Claim7 := { stood := { row := streamsafeChecksRow, standIns := [], harness := (true, "b8b8e43c9499d84029ba91abc30724db765e6b7d98a4db906b4ebad4fce94aea"), looks := false }, kinds := [], alts := [], laidByText := true, laidKinds := [.data], laidTests := true, laidLooks := .later }
def StreamsafeChecksCardSaid : Prop := Claim7.holds Tryz.pinned (.plain (OpenSpec.ofChange streamsafeChecksSpec)) streamsafeChecksCard

/-- THE TIED CARD OF 'unicodetextlaw27.StreamsafeTexts'. -/
def streamsafeTextsCard : Claim7 := { stood := { row := streamsafeTextsRow, standIns := [], harness := (true, "b8b8e43c9499d84029ba91abc30724db765e6b7d98a4db906b4ebad4fce94aea"), looks := false }, kinds := [], alts := [], laidByText := true, laidKinds := [.data], laidTests := true, laidLooks := .later }
def StreamsafeTextsCardSaid : Prop := Claim7.holds Tryz.pinned (.plain (OpenSpec.ofChange streamsafeTextsSpec)) streamsafeTextsCard

/-- THE TIED CARD OF 'unicodetextlaw27.StreamsafeRuns'. -/
def streamsafeRunsCard : Claim7 := { stood := { row := streamsafeRunsRow, standIns := [], harness := (true, "b8b8e43c9499d84029ba91abc30724db765e6b7d98a4db906b4ebad4fce94aea"), looks := false }, kinds := [], alts := [], laidByText := true, laidKinds := [.data], laidTests := true, laidLooks := .later }
def StreamsafeRunsCardSaid : Prop := Claim7.holds Tryz.pinned (.plain (OpenSpec.ofChange streamsafeRunsSpec)) streamsafeRunsCard

/-- THE TIED CARD OF 'unicodetextlaw27.StreamsafeJoins'. -/
def streamsafeJoinsCard : Claim7 := { stood := { row := streamsafeJoinsRow, standIns := [], harness := (true, "b8b8e43c9499d84029ba91abc30724db765e6b7d98a4db906b4ebad4fce94aea"), looks := false }, kinds := [], alts := [], laidByText := true, laidKinds := [.data], laidTests := true, laidLooks := .later }
def StreamsafeJoinsCardSaid : Prop := Claim7.holds Tryz.pinned (.plain (OpenSpec.ofChange streamsafeJoinsSpec)) streamsafeJoinsCard

/-- THE TIED CARD OF 'unicodetextlaw27.StreamsafeRefuses'. -/
def streamsafeRefusesCard : Claim7 := { stood := { row := streamsafeRefusesRow, standIns := [], harness := (true, "b8b8e43c9499d84029ba91abc30724db765e6b7d98a4db906b4ebad4fce94aea"), looks := false }, kinds := [], alts := [], laidByText := true, laidKinds := [.data], laidTests := true, laidLooks := .later }
def StreamsafeRefusesCardSaid : Prop := Claim7.holds Tryz.pinned (.plain (OpenSpec.ofChange streamsafeRefusesSpec)) streamsafeRefusesCard

/-- THE SECOND FORM's CARD OF 'unicodetextlaw27.StreamsafeChecks'. -/
def streamsafeChecksUptoCard : Claim7 := { stood := { row := streamsafeChecksUptoRow, standIns := [], harness := (true, "b8b8e43c9499d84029ba91abc30724db765e6b7d98a4db906b4ebad4fce94aea"), looks := false }, kinds := [], alts := [], laidByText := true, laidKinds := [.data], laidTests := true, laidLooks := .later }
def StreamsafeChecksUptoCardSaid : Prop := Claim7.holds Tryz.pinned (.plain (OpenSpec.upto streamsafeChecksSpec)) streamsafeChecksUptoCard

/-- THE SECOND FORM's CARD OF 'unicodetextlaw27.StreamsafeTexts'. -/
def streamsafeTextsUptoCard : Claim7 := { stood := { row := streamsafeTextsUptoRow, standIns := [], harness := (true, "b8b8e43c9499d84029ba91abc30724db765e6b7d98a4db906b4ebad4fce94aea"), looks := false }, kinds := [], alts := [], laidByText := true, laidKinds := [.data], laidTests := true, laidLooks := .later }
def StreamsafeTextsUptoCardSaid : Prop := Claim7.holds Tryz.pinned (.plain (OpenSpec.upto streamsafeTextsSpec)) streamsafeTextsUptoCard

/-- THE SECOND FORM's CARD OF 'unicodetextlaw27.StreamsafeRuns'. -/
def streamsafeRunsUptoCard : Claim7 := { stood := { row := streamsafeRunsUptoRow, standIns := [], harness := (true, "b8b8e43c9499d84029ba91abc30724db765e6b7d98a4db906b4ebad4fce94aea"), looks := false }, kinds := [], alts := [], laidByText := true, laidKinds := [.data], laidTests := true, laidLooks := .later }
def StreamsafeRunsUptoCardSaid : Prop := Claim7.holds Tryz.pinned (.plain (OpenSpec.upto streamsafeRunsSpec)) streamsafeRunsUptoCard

/-- THE SECOND FORM's CARD OF 'unicodetextlaw27.StreamsafeJoins'. -/
def streamsafeJoinsUptoCard : Claim7 := { stood := { row := streamsafeJoinsUptoRow, standIns := [], harness := (true, "b8b8e43c9499d84029ba91abc30724db765e6b7d98a4db906b4ebad4fce94aea"), looks := false }, kinds := [], alts := [], laidByText := true, laidKinds := [.data], laidTests := true, laidLooks := .later }
def StreamsafeJoinsUptoCardSaid : Prop := Claim7.holds Tryz.pinned (.plain (OpenSpec.upto streamsafeJoinsSpec)) streamsafeJoinsUptoCard

/-- THE SECOND FORM's CARD OF 'unicodetextlaw27.StreamsafeRefuses'. -/
def streamsafeRefusesUptoCard : Claim7 := { stood := { row := streamsafeRefusesUptoRow, standIns := [], harness := (true, "b8b8e43c9499d84029ba91abc30724db765e6b7d98a4db906b4ebad4fce94aea"), looks := false }, kinds := [], alts := [], laidByText := true, laidKinds := [.data], laidTests := true, laidLooks := .later }
def StreamsafeRefusesUptoCardSaid : Prop := Claim7.holds Tryz.pinned (.plain (OpenSpec.upto streamsafeRefusesSpec)) streamsafeRefusesUptoCard
end Rows
end Go.Proofs.YtljkkfohlkhjnaaGreatDoor
