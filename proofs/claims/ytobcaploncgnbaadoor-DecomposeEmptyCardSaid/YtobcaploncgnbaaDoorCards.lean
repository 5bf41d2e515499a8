/-
  DERIVED. GIVEN WITH THE SEED: THE CARDS: each row of YtobcaploncgnbaaDoorRows.lean that lists a variable, with what it lists TIED to the program's text (the seventh form; the later family's looks); each row that meets fmt, with fmt's text TOLD by the authors' own Lean function (tested against real Go, not proved from fmt's source: count such statements apart). THE CARD IS WHAT COUNTS. Prove the row's statement (the work); the ties are given (YtobcaploncgnbaaDoorTie.lean); close each card by the builder's one call (the guide's Derived/Test/ToyasCard.lean, 'card_holds'). Laid BY PROGRAM, IN A SANDBOX (cutbox-door.mjs). By AI agents, Wed Nov 11 2026. No macro, syntax, notation, axiom, sorry.
-/
import Derived.Test.YtobcaploncgnbaaDoorRows
import GoSem.ClaimSeven
namespace Go.Proofs.YtobcaploncgnbaaDoor
namespace Rows

/-- THE TIED CARD OF 'unicodetextlaw21.DecomposeChecks'. -/
def decomposeChecksCard : Claim7 := { stood := { row := decomposeChecksRow, standIns := [], harness := (true, "ab7dea2824dcabcb1e8c2e0f51f4ee39e8c2105b87093bad41bd142a06659729"), looks := false }, kinds := [], alts := [], laidByText := true, laidKinds := [.data], laidTests := true, laidLooks := .later }
def DecomposeChecksCardSaid : Prop := Claim7.holds Tryd.pinned (.plain (OpenSpec.ofChange decomposeChecksSpec)) decomposeChecksCard

/-- THE TIED CARD OF 'unicodetextlaw21.DecomposeDistributes'. -/
def decomposeDistributesCard : Claim7 := { stood := { row := decomposeDistributesRow, standIns := [], harness := (true, "ab7dea2824dcabcb1e8c2e0f51f4ee39e8c2105b87093bad41bd142a06659729"), looks := false }, kinds := [], alts := [], laidByText := true, laidKinds := [.data], laidTests := true, laidLooks := .later }
def DecomposeDistributesCardSaid : Prop := Claim7.holds Tryd.pinned (.plain (OpenSpec.ofChange decomposeDistributesSpec)) decomposeDistributesCard

/-- THE TIED CARD OF 'unicodetextlaw21.DecomposeChanges'. -/
def decomposeChangesCard : Claim7 := { stood := { row := decomposeChangesRow, standIns := [], harness := (true, "ab7dea2824dcabcb1e8c2e0f51f4ee39e8c2105b87093bad41bd142a06659729"), looks := false }, kinds := [], alts := [], laidByText := true, laidKinds := [.data], laidTests := true, laidLooks := .later }
def DecomposeChangesCardSaid : Prop := Claim7.holds Tryd.pinned (.plain (OpenSpec.ofChange decomposeChangesSpec)) decomposeChangesCard

/-- THE TIED CARD OF 'unicodetextlaw21.DecomposeKinds'. -/
def decomposeKindsCard : Claim7 := { stood := { row := decomposeKindsRow, standIns := [], harness := (true, "ab7dea2824dcabcb1e8c2e0f51f4ee39e8c2105b87093bad41bd142a06659729"), looks := false }, kinds := [], alts := [], laidByText := true, laidKinds := [.data], laidTests := true, laidLooks := .later }
def DecomposeKindsCardSaid : Prop := Claim7.holds Tryd.pinned (.plain (OpenSpec.ofChange decomposeKindsSpec)) decomposeKindsCard

/-- THE TIED CARD OF 'unicodetextlaw21.DecomposeJoins'. -/
def decomposeJoinsCard : Claim7 := { stood := { row := decomposeJoinsRow, standIns := [], harness := (true, "ab7dea2824dcabcb1e8c2e0f51f4ee39e8c2105b87093bad41bd142a06659729"), looks := false }, kinds := [], alts := [], laidByText := true, laidKinds := [.data], laidTests := true, laidLooks := .later }
def DecomposeJoinsCardSaid : Prop := Claim7.holds Tryd.pinned (.plain (OpenSpec.ofChange decomposeJoinsSpec)) decomposeJoinsCard

/-- THE TIED CARD OF 'unicodetextlaw21.DecomposeEmpty'. -/
def decomposeEmptyCard : Claim7 := { stood := { row := decomposeEmptyRow, standIns := [], harness := (true, "ab7dea2824dcabcb1e8c2e0f51f4ee39e8c2105b87093bad41bd142a06659729"), looks := false }, kinds := [], alts := [], laidByText := true, laidKinds := [.data], laidTests := true, laidLooks := .later }
def DecomposeEmptyCardSaid : Prop := Claim7.holds Tryd.pinned (.plain (OpenSpec.ofChange decomposeEmptySpec)) decomposeEmptyCard

/-- THE SECOND FORM's CARD OF 'unicodetextlaw21.DecomposeChecks'. -/
def decomposeChecksUptoCard : Claim7 := { stood := { row := decomposeChecksUptoRow, standIns := [], harness := (true, "ab7dea2824dcabcb1e8c2e0f51f4ee39e8c2105b87093bad41bd142a06659729"), looks := false }, kinds := [], alts := [], laidByText := true, laidKinds := [.data], laidTests := true, laidLooks := .later }
def DecomposeChecksUptoCardSaid : Prop := Claim7.holds Tryd.pinned (.plain (OpenSpec.upto decomposeChecksSpec)) decomposeChecksUptoCard

/-- THE SECOND FORM's CARD OF 'unicodetextlaw21.DecomposeDistributes'. -/
def decomposeDistributesUptoCard : Claim7 := { stood := { row := decomposeDistributesUptoRow, standIns := [], harness := (true, "ab7dea2824dcabcb1e8c2e0f51f4ee39e8c2105b87093bad41bd142a06659729"), looks := false }, kinds := [], alts := [], laidByText := true, laidKinds := [.data], laidTests := true, laidLooks := .later }
def DecomposeDistributesUptoCardSaid : Prop := Claim7.holds Tryd.pinned (.plain (OpenSpec.upto decomposeDistributesSpec)) decomposeDistributesUptoCard

/-- THE SECOND FORM's CARD OF 'unicodetextlaw21.DecomposeChanges'. -/
def decomposeChangesUptoCard : Claim7 := { stood := { row := decomposeChangesUptoRow, standIns := [], harness := (true, "ab7dea2824dcabcb1e8c2e0f51f4ee39e8c2105b87093bad41bd142a06659729"), looks := false }, kinds := [], alts := [], laidByText := true, laidKinds := [.data], laidTests := true, laidLooks := .later }
def DecomposeChangesUptoCardSaid : Prop := Claim7.holds Tryd.pinned (.plain (OpenSpec.upto decomposeChangesSpec)) decomposeChangesUptoCard

/-- THE SECOND FORM's CARD OF 'unicodetextlaw21.DecomposeKinds'. -/
def decomposeKindsUptoCard : Claim7 := { stood := { row := decomposeKindsUptoRow, standIns := [], harness := (true, "ab7dea2824dcabcb1e8c2e0f51f4ee39e8c2105b87093bad41bd142a06659729"), looks := false }, kinds := [], alts := [], laidByText := true, laidKinds := [.data], laidTests := true, laidLooks := .later }
def DecomposeKindsUptoCardSaid : Prop := Claim7.holds Tryd.pinned (.plain (OpenSpec.upto decomposeKindsSpec)) decomposeKindsUptoCard

/-- THE SECOND FORM's CARD OF 'unicodetextlaw21.DecomposeJoins'. -/
def decomposeJoinsUptoCard : Claim7 := { stood := { row := decomposeJoinsUptoRow, standIns := [], harness := (true, "ab7dea2824dcabcb1e8c2e0f51f4ee39e8c2105b87093bad41bd142a06659729"), looks := false }, kinds := [], alts := [], laidByText := true, laidKinds := [.data], laidTests := true, laidLooks := .later }
def DecomposeJoinsUptoCardSaid : Prop := Claim7.holds Tryd.pinned (.plain (OpenSpec.upto decomposeJoinsSpec)) decomposeJoinsUptoCard

/-- THE SECOND FORM's CARD OF 'unicodetextlaw21.DecomposeEmpty'. -/
def decomposeEmptyUptoCard : Claim7 := { stood := { row := decomposeEmptyUptoRow, standIns := [], harness := (true, "ab7dea2824dcabcb1e8c2e0f51f4ee39e8c2105b87093bad41bd142a06659729"), looks := false }, kinds := [], alts := [], laidByText := true, laidKinds := [.data], laidTests := true, laidLooks := .later }
def DecomposeEmptyUptoCardSaid : Prop := Claim7.holds Tryd.pinned (.plain (OpenSpec.upto decomposeEmptySpec)) decomposeEmptyUptoCard
end Rows
end Go.Proofs.YtobcaploncgnbaaDoor
