/- The program lifts no final values: a fact of the whole program, by itself because its proof is large. -/
import Derived.Test.YtckgmkjoblneeaaGreatDoorKRow
namespace Go.Proofs.YtckgmkjoblneeaaGreatDoor
open Go Go.RowKit
theorem prog_lifts : Tryz.pinned.checked.prog.liftsFinal = false := by kernel_rfl
end Go.Proofs.YtckgmkjoblneeaaGreatDoor
