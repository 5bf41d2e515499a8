/- The program may be entered: a fact of the whole program, by itself because its proof is large. -/
import Derived.Test.YtmlcdohldkgcdaaGreatDoorKRow
namespace Go.Proofs.YtmlcdohldkgcdaaGreatDoor
open Go Go.RowKit
theorem prog_enters : Tryz.pinned.checked.prog.mayEnter = true := by kernel_rfl
end Go.Proofs.YtmlcdohldkgcdaaGreatDoor
