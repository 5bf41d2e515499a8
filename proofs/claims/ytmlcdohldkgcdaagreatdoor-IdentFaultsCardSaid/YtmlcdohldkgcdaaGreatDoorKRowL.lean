/- The program lifts no final values: a fact of the whole program, by itself because its proof is large. -/
import Derived.Test.YtmlcdohldkgcdaaGreatDoorKRow
namespace Go.Proofs.YtmlcdohldkgcdaaGreatDoor
open Go Go.RowKit
theorem prog_lifts : Tryz.pinned.checked.prog.liftsFinal = false := by kernel_rfl
end Go.Proofs.YtmlcdohldkgcdaaGreatDoor
