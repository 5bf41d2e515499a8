/-
  DERIVED. GIVEN WITH THE SEED: THE CARDS: each row of YtdogaaepiddnoaaGreatDoorRows.lean that lists a variable, with what it lists TIED to the program's text (the seventh form; the later family's looks); each row that meets fmt, with fmt's text TOLD by the authors' own Lean function (tested against real Go, not proved from fmt's source: count such statements apart). THE CARD IS WHAT COUNTS. Prove the row's statement (the work); the ties are given (YtdogaaepiddnoaaGreatDoorTie.lean); close each card by the builder's one call (the guide's Derived/Test/ToyasCard.lean, 'card_holds'). Laid BY PROGRAM, IN A SANDBOX (cutbox-door.mjs). By AI agents, Wed Nov 11 2026. No macro, syntax, notation, axiom, sorry.
-/
import Derived.Test.YtdogaaepiddnoaaGreatDoorRows
import GoSem.ClaimSeven
namespace Go.Proofs.YtdogaaepiddnoaaGreatDoor
namespace Rows

/-- THE TIED CARD OF 'unicodetextlaw27.StreamsafeChecks'. -/
def streamsafeChecksCard : Claim7 := { stood := { row := streamsafeChecksRow, standIns := [], harness := (true, "a661bf7c610c481b1aaa5e47d43ea23d8681db3e2165b62ca1a2d09b9f48aefc"), looks := false }, kinds := [], alts := [], laidByText := true, laidKinds := [.data], laidTests := true, laidLooks := .later }
def StreamsafeChecksCardSaid : Prop := Claim7.holds Tryz.pinned (.plain (OpenSpec.ofChange streamsafeChecksSpec)) streamsafeChecksCard

/-- THE TIED CARD OF 'unicodetextlaw27.StreamsafeRuns'. -/
def streamsafeRunsCard : Claim7 := { stood := { row := streamsafeRunsRow, standIns := [], harness := (true, "a661bf7c610c481b1aaa5e47d43ea23d8681db3e2165b62ca1a2d09b9f48aefc"), looks := false }, kinds := [], alts := [], laidByText := true, laidKinds := [.data], laidTests := true, laidLooks := .later }
def StreamsafeRunsCardSaid : Prop := Claim7.holds Tryz.pinned (.plain (OpenSpec.ofChange streamsafeRunsSpec)) streamsafeRunsCard

/-- THE TIED CARD OF 'unicodetextlaw23.NormalizeForms'. -/
def normalizeFormsCard : Claim7 := { stood := { row := normalizeFormsRow, standIns := [], harness := (true, "a661bf7c610c481b1aaa5e47d43ea23d8681db3e2165b62ca1a2d09b9f48aefc"), looks := false }, kinds := [], alts := [], laidByText := true, laidKinds := [.data], laidTests := true, laidLooks := .later }
def NormalizeFormsCardSaid : Prop := Claim7.holds Tryz.pinned (.plain (OpenSpec.ofChange normalizeFormsSpec)) normalizeFormsCard

/-- THE TIED CARD OF 'unicodetextlaw23.NormalizeChecks'. -/
def normalizeChecksCard : Claim7 := { stood := { row := normalizeChecksRow, standIns := [], harness := (true, "a661bf7c610c481b1aaa5e47d43ea23d8681db3e2165b62ca1a2d09b9f48aefc"), looks := false }, kinds := [], alts := [], laidByText := true, laidKinds := [.data], laidTests := true, laidLooks := .later }
def NormalizeChecksCardSaid : Prop := Claim7.holds Tryz.pinned (.plain (OpenSpec.ofChange normalizeChecksSpec)) normalizeChecksCard

/-- THE TIED CARD OF 'unicodetextlaw23.NormalizeSames'. -/
def normalizeSamesCard : Claim7 := { stood := { row := normalizeSamesRow, standIns := [], harness := (true, "a661bf7c610c481b1aaa5e47d43ea23d8681db3e2165b62ca1a2d09b9f48aefc"), looks := false }, kinds := [], alts := [], laidByText := true, laidKinds := [.data], laidTests := true, laidLooks := .later }
def NormalizeSamesCardSaid : Prop := Claim7.holds Tryz.pinned (.plain (OpenSpec.ofChange normalizeSamesSpec)) normalizeSamesCard

/-- THE SECOND FORM's CARD OF 'unicodetextlaw27.StreamsafeChecks'. -/
def streamsafeChecksUptoCard : Claim7 := { stood := { row := streamsafeChecksUptoRow, standIns := [], harness := (true, "a661bf7c610c481b1aaa5e47d43ea23d8681db3e2165b62ca1a2d09b9f48aefc"), looks := false }, kinds := [], alts := [], laidByText := true, laidKinds := [.data], laidTests := true, laidLooks := .later }
def StreamsafeChecksUptoCardSaid : Prop := Claim7.holds Tryz.pinned (.plain (OpenSpec.upto streamsafeChecksSpec)) streamsafeChecksUptoCard

/-- THE SECOND FORM's CARD OF 'unicodetextlaw27.StreamsafeRuns'. -/
def streamsafeRunsUptoCard : Claim7 := { stood := { row := streamsafeRunsUptoRow, standIns := [], harness := (true, "a661bf7c610c481b1aaa5e47d43ea23d8681db3e2165b62ca1a2d09b9f48aefc"), looks := false }, kinds := [], alts := [], laidByText := true, laidKinds := [.data], laidTests := true, laidLooks := .later }
def StreamsafeRunsUptoCardSaid : Prop := Claim7.holds Tryz.pinned (.plain (OpenSpec.upto streamsafeRunsSpec)) streamsafeRunsUptoCard

/-- THE SECOND FORM's CARD OF 'unicodetextlaw23.NormalizeForms'. -/
def normalizeFormsUptoCard : Claim7 := { stood := { row := normalizeFormsUptoRow, standIns := [], harness := (true, "a661bf7c610c481b1aaa5e47d43ea23d8681db3e2165b62ca1a2d09b9f48aefc"), looks := false }, kinds := [], alts := [], laidByText := true, laidKinds := [.data], laidTests := true, laidLooks := .later }
def NormalizeFormsUptoCardSaid : Prop := Claim7.holds Tryz.pinned (.plain (OpenSpec.upto normalizeFormsSpec)) normalizeFormsUptoCard

/-- THE SECOND FORM's CARD OF 'unicodetextlaw23.NormalizeChecks'. -/
def normalizeChecksUptoCard : Claim7 := { stood := { row := normalizeChecksUptoRow, standIns := [], harness := (true, "a661bf7c610c481b1aaa5e47d43ea23d8681db3e2165b62ca1a2d09b9f48aefc"), looks := false }, kinds := [], alts := [], laidByText := true, laidKinds := [.data], laidTests := true, laidLooks := .later }
def NormalizeChecksUptoCardSaid : Prop := Claim7.holds Tryz.pinned (.plain (OpenSpec.upto normalizeChecksSpec)) normalizeChecksUptoCard

/-- THE SECOND FORM's CARD OF 'unicodetextlaw23.NormalizeSames'. -/
def normalizeSamesUptoCard : Claim7 := { stood := { row := normalizeSamesUptoRow, standIns := [], harness := (true, "a661bf7c610c481b1aaa5e47d43ea23d8681db3e2165b62ca1a2d09b9f48aefc"), looks := false }, kinds := [], alts := [], laidByText := true, laidKinds := [.data], laidTests := true, laidLooks := .later }
def NormalizeSamesUptoCardSaid : Prop := Claim7.holds Tryz.pinned (.plain (OpenSpec.upto normalizeSamesSpec)) normalizeSamesUptoCard
end Rows
end Go.Proofs.YtdogaaepiddnoaaGreatDoor
