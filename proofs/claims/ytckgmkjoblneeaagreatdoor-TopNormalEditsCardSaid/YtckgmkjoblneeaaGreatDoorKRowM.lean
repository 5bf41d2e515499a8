/- The program may be entered: a fact of the whole program, by itself because its proof is large. -/
import Derived.Test.YtckgmkjoblneeaaGreatDoorKRow
namespace Go.Proofs.YtckgmkjoblneeaaGreatDoor
open Go Go.RowKit
theorem prog_enters : Tryz.pinned.checked.prog.mayEnter = true := by kernel_rfl
end Go.Proofs.YtckgmkjoblneeaaGreatDoor
