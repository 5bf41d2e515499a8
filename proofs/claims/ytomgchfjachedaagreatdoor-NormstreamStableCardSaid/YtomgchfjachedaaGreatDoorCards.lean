/-
  DERIVED. GIVEN WITH THE SEED: THE CARDS: each row of YtomgchfjachedaaGreatDoorRows.lean that lists a variable, with what it lists TIED to the program's text (the seventh form; the later family's looks); each row that meets fmt, with fmt's text TOLD by the authors' own Lean function (tested against real Go, not proved from fmt's source: count such statements apart). THE CARD IS WHAT COUNTS. Prove the row's statement (the work); the ties are given (YtomgchfjachedaaGreatDoorTie.lean); close each card by the builder's one call (the guide's Derived/Test/ToyasCard.lean, 'card_holds'). Laid BY PROGRAM, IN A SANDBOX (cutbox-door.mjs). By AI agents, Wed Nov 11 2026. No macro, syntax, notation, axiom, sorry.
-/
import Derived.Test.YtomgchfjachedaaGreatDoorRows
import GoSem.ClaimSeven
namespace Go.Proofs.YtomgchfjachedaaGreatDoor
namespace Rows

/-- THE TIED CARD OF 'unicodetextlaw24.QuickcheckSets'. -/
def quickcheckSetsCard : Claim7 := { stood := { row := quickcheckSetsRow, standIns := [], harness := (true, "d93c7a6b5984d49b5be1b5fef9b059dd935e6c5f3ea00dbf52184dc19b9247df"), looks := false }, kinds := [], alts := [], laidByText := true, laidKinds := [.data], laidTests := true, laidLooks := .later }
def QuickcheckSetsCardSaid : Prop := Claim7.holds Tryz.pinned (.plain (OpenSpec.ofChange quickcheckSetsSpec)) quickcheckSetsCard

/-- THE TIED CARD OF 'unicodetextlaw24.QuickcheckMembers'. -/
def quickcheckMembersCard : Claim7 := { stood := { row := quickcheckMembersRow, standIns := [], harness := (true, "d93c7a6b5984d49b5be1b5fef9b059dd935e6c5f3ea00dbf52184dc19b9247df"), looks := false }, kinds := [], alts := [], laidByText := true, laidKinds := [.data], laidTests := true, laidLooks := .later }
def QuickcheckMembersCardSaid : Prop := Claim7.holds Tryz.pinned (.plain (OpenSpec.ofChange quickcheckMembersSpec)) quickcheckMembersCard

/-- THE TIED CARD OF 'unicodetextlaw25.NormstreamOpens'. -/
def normstreamOpensCard : Claim7 := { stood := { row := normstreamOpensRow, standIns := [], harness := (true, "d93c7a6b5984d49b5be1b5fef9b059dd935e6c5f3ea00dbf52184dc19b9247df"), looks := false }, kinds := [], alts := [], laidByText := true, laidKinds := [.data], laidTests := true, laidLooks := .later }
def NormstreamOpensCardSaid : Prop := Claim7.holds Tryz.pinned (.plain (OpenSpec.ofChange normstreamOpensSpec)) normstreamOpensCard

/-- THE TIED CARD OF 'unicodetextlaw25.NormstreamWrites'. -/
def normstreamWritesCard : Claim7 := { stood := { row := normstreamWritesRow, standIns := [], harness := (true, "d93c7a6b5984d49b5be1b5fef9b059dd935e6c5f3ea00dbf52184dc19b9247df"), looks := false }, kinds := [], alts := [], laidByText := true, laidKinds := [.data], laidTests := true, laidLooks := .later }
def NormstreamWritesCardSaid : Prop := Claim7.holds Tryz.pinned (.plain (OpenSpec.ofChange normstreamWritesSpec)) normstreamWritesCard

/-- THE TIED CARD OF 'unicodetextlaw25.NormstreamWhole'. -/
def normstreamWholeCard : Claim7 := { stood := { row := normstreamWholeRow, standIns := [], harness := (true, "d93c7a6b5984d49b5be1b5fef9b059dd935e6c5f3ea00dbf52184dc19b9247df"), looks := false }, kinds := [], alts := [], laidByText := true, laidKinds := [.data], laidTests := true, laidLooks := .later }
def NormstreamWholeCardSaid : Prop := Claim7.holds Tryz.pinned (.plain (OpenSpec.ofChange normstreamWholeSpec)) normstreamWholeCard

/-- THE TIED CARD OF 'unicodetextlaw25.NormstreamWaits'. -/
def normstreamWaitsCard : Claim7 := { stood := { row := normstreamWaitsRow, standIns := [], harness := (true, "d93c7a6b5984d49b5be1b5fef9b059dd935e6c5f3ea00dbf52184dc19b9247df"), looks := false }, kinds := [], alts := [], laidByText := true, laidKinds := [.data], laidTests := true, laidLooks := .later }
def NormstreamWaitsCardSaid : Prop := Claim7.holds Tryz.pinned (.plain (OpenSpec.ofChange normstreamWaitsSpec)) normstreamWaitsCard

/-- THE TIED CARD OF 'unicodetextlaw25.NormstreamLimits'. -/
def normstreamLimitsCard : Claim7 := { stood := { row := normstreamLimitsRow, standIns := [], harness := (true, "d93c7a6b5984d49b5be1b5fef9b059dd935e6c5f3ea00dbf52184dc19b9247df"), looks := false }, kinds := [], alts := [], laidByText := true, laidKinds := [.data], laidTests := true, laidLooks := .later }
def NormstreamLimitsCardSaid : Prop := Claim7.holds Tryz.pinned (.plain (OpenSpec.ofChange normstreamLimitsSpec)) normstreamLimitsCard

/-- THE TIED CARD OF 'unicodetextlaw25.NormstreamSteps'. -/
def normstreamStepsCard : Claim7 := { stood := { row := normstreamStepsRow, standIns := [], harness := (true, "d93c7a6b5984d49b5be1b5fef9b059dd935e6c5f3ea00dbf52184dc19b9247df"), looks := false }, kinds := [], alts := [], laidByText := true, laidKinds := [.data], laidTests := true, laidLooks := .later }
def NormstreamStepsCardSaid : Prop := Claim7.holds Tryz.pinned (.plain (OpenSpec.ofChange normstreamStepsSpec)) normstreamStepsCard

/-- THE TIED CARD OF 'unicodetextlaw25.NormstreamStable'. -/
def normstreamStableCard : Claim7 := { stood := { row := normstreamStableRow, standIns := [], harness := (true, "d93c7a6b5984d49b5be1b5fef9b059dd935e6c5f3ea00dbf52184dc19b9247df"), looks := false }, kinds := [], alts := [], laidByText := true, laidKinds := [.data], laidTests := true, laidLooks := .later }
def NormstreamStableCardSaid : Prop := Claim7.holds Tryz.pinned (.plain (OpenSpec.ofChange normstreamStableSpec)) normstreamStableCard

/-- THE SECOND FORM's CARD OF 'unicodetextlaw24.QuickcheckSets'. -/
def quickcheckSetsUptoCard : Claim7 := { stood := { row := quickcheckSetsUptoRow, standIns := [], harness := (true, "d93c7a6b5984d49b5be1b5fef9b059dd935e6c5f3ea00dbf52184dc19b9247df"), looks := false }, kinds := [], alts := [], laidByText := true, laidKinds := [.data], laidTests := true, laidLooks := .later }
def QuickcheckSetsUptoCardSaid : Prop := Claim7.holds Tryz.pinned (.plain (OpenSpec.upto quickcheckSetsSpec)) quickcheckSetsUptoCard

/-- THE SECOND FORM's CARD OF 'unicodetextlaw24.QuickcheckMembers'. -/
def quickcheckMembersUptoCard : Claim7 := { stood := { row := quickcheckMembersUptoRow, standIns := [], harness := (true, "d93c7a6b5984d49b5be1b5fef9b059dd935e6c5f3ea00dbf52184dc19b9247df"), looks := false }, kinds := [], alts := [], laidByText := true, laidKinds := [.data], laidTests := true, laidLooks := .later }
def QuickcheckMembersUptoCardSaid : Prop := Claim7.holds Tryz.pinned (.plain (OpenSpec.upto quickcheckMembersSpec)) quickcheckMembersUptoCard

/-- THE SECOND FORM's CARD OF 'unicodetextlaw25.NormstreamOpens'. -/
def normstreamOpensUptoCard : Claim7 := { stood := { row := normstreamOpensUptoRow, standIns := [], harness := (true, "d93c7a6b5984d49b5be1b5fef9b059dd935e6c5f3ea00dbf52184dc19b9247df"), looks := false }, kinds := [], alts := [], laidByText := true, laidKinds := [.data], laidTests := true, laidLooks := .later }
def NormstreamOpensUptoCardSaid : Prop := Claim7.holds Tryz.pinned (.plain (OpenSpec.upto normstreamOpensSpec)) normstreamOpensUptoCard

/-- THE SECOND FORM's CARD OF 'unicodetextlaw25.NormstreamWrites'. -/
def normstreamWritesUptoCard : Claim7 := { stood := { row := normstreamWritesUptoRow, standIns := [], harness := (true, "d93c7a6b5984d49b5be1b5fef9b059dd935e6c5f3ea00dbf52184dc19b9247df"), looks := false }, kinds := [], alts := [], laidByText := true, laidKinds := [.data], laidTests := true, laidLooks := .later }
def NormstreamWritesUptoCardSaid : Prop := Claim7.holds Tryz.pinned (.plain (OpenSpec.upto normstreamWritesSpec)) normstreamWritesUptoCard

/-- THE SECOND FORM's CARD OF 'unicodetextlaw25.NormstreamWhole'. -/
def normstreamWholeUptoCard : Claim7 := { stood := { row := normstreamWholeUptoRow, standIns := [], harness := (true, "d93c7a6b5984d49b5be1b5fef9b059dd935e6c5f3ea00dbf52184dc19b9247df"), looks := false }, kinds := [], alts := [], laidByText := true, laidKinds := [.data], laidTests := true, laidLooks := .later }
def NormstreamWholeUptoCardSaid : Prop := Claim7.holds Tryz.pinned (.plain (OpenSpec.upto normstreamWholeSpec)) normstreamWholeUptoCard

/-- THE SECOND FORM's CARD OF 'unicodetextlaw25.NormstreamWaits'. -/
def normstreamWaitsUptoCard : Claim7 := { stood := { row := normstreamWaitsUptoRow, standIns := [], harness := (true, "d93c7a6b5984d49b5be1b5fef9b059dd935e6c5f3ea00dbf52184dc19b9247df"), looks := false }, kinds := [], alts := [], laidByText := true, laidKinds := [.data], laidTests := true, laidLooks := .later }
def NormstreamWaitsUptoCardSaid : Prop := Claim7.holds Tryz.pinned (.plain (OpenSpec.upto normstreamWaitsSpec)) normstreamWaitsUptoCard

/-- THE SECOND FORM's CARD OF 'unicodetextlaw25.NormstreamLimits'. -/
def normstreamLimitsUptoCard : Claim7 := { stood := { row := normstreamLimitsUptoRow, standIns := [], harness := (true, "d93c7a6b5984d49b5be1b5fef9b059dd935e6c5f3ea00dbf52184dc19b9247df"), looks := false }, kinds := [], alts := [], laidByText := true, laidKinds := [.data], laidTests := true, laidLooks := .later }
def NormstreamLimitsUptoCardSaid : Prop := Claim7.holds Tryz.pinned (.plain (OpenSpec.upto normstreamLimitsSpec)) normstreamLimitsUptoCard

/-- THE SECOND FORM's CARD OF 'unicodetextlaw25.NormstreamSteps'. -/
def normstreamStepsUptoCard : Claim7 := { stood := { row := normstreamStepsUptoRow, standIns := [], harness := (true, "d93c7a6b5984d49b5be1b5fef9b059dd935e6c5f3ea00dbf52184dc19b9247df"), looks := false }, kinds := [], alts := [], laidByText := true, laidKinds := [.data], laidTests := true, laidLooks := .later }
def NormstreamStepsUptoCardSaid : Prop := Claim7.holds Tryz.pinned (.plain (OpenSpec.upto normstreamStepsSpec)) normstreamStepsUptoCard

/-- THE SECOND FORM's CARD OF 'unicodetextlaw25.NormstreamStable'. -/
def normstreamStableUptoCard : Claim7 := { stood := { row := normstreamStableUptoRow, standIns := [], harness := (true, "d93c7a6b5984d49b5be1b5fef9b059dd935e6c5f3ea00dbf52184dc19b9247df"), looks := false }, kinds := [], alts := [], laidByText := true, laidKinds := [.data], laidTests := true, laidLooks := .later }
def NormstreamStableUptoCardSaid : Prop := Claim7.holds Tryz.pinned (.plain (OpenSpec.upto normstreamStableSpec)) normstreamStableUptoCard
end Rows
end Go.Proofs.YtomgchfjachedaaGreatDoor
