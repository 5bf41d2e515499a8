/- What the program's main function is: a fact of the whole program, by itself because its proof is large. -/
import Derived.Test.YtckgmkjoblneeaaGreatDoorKRow
namespace Go.Proofs.YtckgmkjoblneeaaGreatDoor
open Go Go.RowKit
theorem prog_main : Tryz.pinned.checked.prog.mainIs = some (true, ("75c5426603b28f5d651ef0ab77ce0307474cb1e46e1c5eb2b0470ae94c8c61b7" : String).toList) := by kernel_rfl
end Go.Proofs.YtckgmkjoblneeaaGreatDoor
