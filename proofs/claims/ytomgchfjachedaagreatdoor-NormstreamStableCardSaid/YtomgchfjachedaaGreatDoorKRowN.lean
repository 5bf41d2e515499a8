/- What the program's main function is: a fact of the whole program, by itself because its proof is large. -/
import Derived.Test.YtomgchfjachedaaGreatDoorKRow
namespace Go.Proofs.YtomgchfjachedaaGreatDoor
open Go Go.RowKit
theorem prog_main : Tryz.pinned.checked.prog.mainIs = some (true, ("d93c7a6b5984d49b5be1b5fef9b059dd935e6c5f3ea00dbf52184dc19b9247df" : String).toList) := by kernel_rfl
end Go.Proofs.YtomgchfjachedaaGreatDoor
