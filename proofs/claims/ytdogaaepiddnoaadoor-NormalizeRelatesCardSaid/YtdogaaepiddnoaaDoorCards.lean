/-
  DERIVED. GIVEN WITH THE SEED: THE CARDS: each row of YtdogaaepiddnoaaDoorRows.lean that lists a variable, with what it lists TIED to the program's text (the seventh form; the later family's looks); each row that meets fmt, with fmt's text TOLD by the authors' own Lean function (tested against real Go, not proved from fmt's source: count such statements apart). THE CARD IS WHAT COUNTS. Prove the row's statement (the work); the ties are given (YtdogaaepiddnoaaDoorTie.lean); close each card by the builder's one call (the guide's Derived/Test/ToyasCard.lean, 'card_holds'). Laid BY PROGRAM, IN A SANDBOX (cutbox-door.mjs). By AI agents, Wed Nov 11 2026. No macro, syntax, notation, axiom, sorry.
-/
import Derived.Test.YtdogaaepiddnoaaDoorRows
import GoSem.ClaimSeven
namespace Go.Proofs.YtdogaaepiddnoaaDoor
namespace Rows

/-- THE TIED CARD OF 'unicodetextlaw23.NormalizeAgain'. -/
def normalizeAgainCard : Claim7 := { stood := { row := normalizeAgainRow, standIns := [], harness := (true, "9db0f7b85d9c4d555df1655d99eed5e93eed982574d236c2e05fe229a99535bf"), looks := false }, kinds := [], alts := [], laidByText := true, laidKinds := [.data], laidTests := true, laidLooks := .later }
def NormalizeAgainCardSaid : Prop := Claim7.holds Tryd.pinned (.plain (OpenSpec.ofChange normalizeAgainSpec)) normalizeAgainCard

/-- THE TIED CARD OF 'unicodetextlaw23.NormalizeAgrees'. -/
def normalizeAgreesCard : Claim7 := { stood := { row := normalizeAgreesRow, standIns := [], harness := (true, "9db0f7b85d9c4d555df1655d99eed5e93eed982574d236c2e05fe229a99535bf"), looks := false }, kinds := [], alts := [], laidByText := true, laidKinds := [.data], laidTests := true, laidLooks := .later }
def NormalizeAgreesCardSaid : Prop := Claim7.holds Tryd.pinned (.plain (OpenSpec.ofChange normalizeAgreesSpec)) normalizeAgreesCard

/-- THE TIED CARD OF 'unicodetextlaw23.NormalizeFirst'. -/
def normalizeFirstCard : Claim7 := { stood := { row := normalizeFirstRow, standIns := [], harness := (true, "9db0f7b85d9c4d555df1655d99eed5e93eed982574d236c2e05fe229a99535bf"), looks := false }, kinds := [], alts := [], laidByText := true, laidKinds := [.data], laidTests := true, laidLooks := .later }
def NormalizeFirstCardSaid : Prop := Claim7.holds Tryd.pinned (.plain (OpenSpec.ofChange normalizeFirstSpec)) normalizeFirstCard

/-- THE TIED CARD OF 'unicodetextlaw23.NormalizeEqual'. -/
def normalizeEqualCard : Claim7 := { stood := { row := normalizeEqualRow, standIns := [], harness := (true, "9db0f7b85d9c4d555df1655d99eed5e93eed982574d236c2e05fe229a99535bf"), looks := false }, kinds := [], alts := [], laidByText := true, laidKinds := [.data], laidTests := true, laidLooks := .later }
def NormalizeEqualCardSaid : Prop := Claim7.holds Tryd.pinned (.plain (OpenSpec.ofChange normalizeEqualSpec)) normalizeEqualCard

/-- THE TIED CARD OF 'unicodetextlaw23.NormalizeRelates'. -/
def normalizeRelatesCard : Claim7 := { stood := { row := normalizeRelatesRow, standIns := [], harness := (true, "9db0f7b85d9c4d555df1655d99eed5e93eed982574d236c2e05fe229a99535bf"), looks := false }, kinds := [], alts := [], laidByText := true, laidKinds := [.data], laidTests := true, laidLooks := .later }
def NormalizeRelatesCardSaid : Prop := Claim7.holds Tryd.pinned (.plain (OpenSpec.ofChange normalizeRelatesSpec)) normalizeRelatesCard

/-- THE TIED CARD OF 'unicodetextlaw23.NormalizeBelongs'. -/
def normalizeBelongsCard : Claim7 := { stood := { row := normalizeBelongsRow, standIns := [], harness := (true, "9db0f7b85d9c4d555df1655d99eed5e93eed982574d236c2e05fe229a99535bf"), looks := false }, kinds := [], alts := [], laidByText := true, laidKinds := [.data], laidTests := true, laidLooks := .later }
def NormalizeBelongsCardSaid : Prop := Claim7.holds Tryd.pinned (.plain (OpenSpec.ofChange normalizeBelongsSpec)) normalizeBelongsCard

/-- THE SECOND FORM's CARD OF 'unicodetextlaw23.NormalizeAgain'. -/
def normalizeAgainUptoCard : Claim7 := { stood := { row := normalizeAgainUptoRow, standIns := [], harness := (true, "9db0f7b85d9c4d555df1655d99eed5e93eed982574d236c2e05fe229a99535bf"), looks := false }, kinds := [], alts := [], laidByText := true, laidKinds := [.data], laidTests := true, laidLooks := .later }
def NormalizeAgainUptoCardSaid : Prop := Claim7.holds Tryd.pinned (.plain (OpenSpec.upto normalizeAgainSpec)) normalizeAgainUptoCard

/-- THE SECOND FORM's CARD OF 'unicodetextlaw23.NormalizeAgrees'. -/
def normalizeAgreesUptoCard : Claim7 := { stood := { row := normalizeAgreesUptoRow, standIns := [], harness := (true, "9db0f7b85d9c4d555df1655d99eed5e93eed982574d236c2e05fe229a99535bf"), looks := false }, kinds := [], alts := [], laidByText := true, laidKinds := [.data], laidTests := true, laidLooks := .later }
def NormalizeAgreesUptoCardSaid : Prop := Claim7.holds Tryd.pinned (.plain (OpenSpec.upto normalizeAgreesSpec)) normalizeAgreesUptoCard

/-- THE SECOND FORM's CARD OF 'unicodetextlaw23.NormalizeFirst'. -/
def normalizeFirstUptoCard : Claim7 := { stood := { row := normalizeFirstUptoRow, standIns := [], harness := (true, "9db0f7b85d9c4d555df1655d99eed5e93eed982574d236c2e05fe229a99535bf"), looks := false }, kinds := [], alts := [], laidByText := true, laidKinds := [.data], laidTests := true, laidLooks := .later }
def NormalizeFirstUptoCardSaid : Prop := Claim7.holds Tryd.pinned (.plain (OpenSpec.upto normalizeFirstSpec)) normalizeFirstUptoCard

/-- THE SECOND FORM's CARD OF 'unicodetextlaw23.NormalizeEqual'. -/
def normalizeEqualUptoCard : Claim7 := { stood := { row := normalizeEqualUptoRow, standIns := [], harness := (true, "9db0f7b85d9c4d555df1655d99eed5e93eed982574d236c2e05fe229a99535bf"), looks := false }, kinds := [], alts := [], laidByText := true, laidKinds := [.data], laidTests := true, laidLooks := .later }
def NormalizeEqualUptoCardSaid : Prop := Claim7.holds Tryd.pinned (.plain (OpenSpec.upto normalizeEqualSpec)) normalizeEqualUptoCard

/-- THE SECOND FORM's CARD OF 'unicodetextlaw23.NormalizeRelates'. -/
def normalizeRelatesUptoCard : Claim7 := { stood := { row := normalizeRelatesUptoRow, standIns := [], harness := (true, "9db0f7b85d9c4d555df1655d99eed5e93eed982574d236c2e05fe229a99535bf"), looks := false }, kinds := [], alts := [], laidByText := true, laidKinds := [.data], laidTests := true, laidLooks := .later }
def NormalizeRelatesUptoCardSaid : Prop := Claim7.holds Tryd.pinned (.plain (OpenSpec.upto normalizeRelatesSpec)) normalizeRelatesUptoCard

/-- THE SECOND FORM's CARD OF 'unicodetextlaw23.NormalizeBelongs'. -/
def normalizeBelongsUptoCard : Claim7 := { stood := { row := normalizeBelongsUptoRow, standIns := [], harness := (true, "9db0f7b85d9c4d555df1655d99eed5e93eed982574d236c2e05fe229a99535bf"), looks := false }, kinds := [], alts := [], laidByText := true, laidKinds := [.data], laidTests := true, laidLooks := .later }
def NormalizeBelongsUptoCardSaid : Prop := Claim7.holds Tryd.pinned (.plain (OpenSpec.upto normalizeBelongsSpec)) normalizeBelongsUptoCard
end Rows
end Go.Proofs.YtdogaaepiddnoaaDoor
