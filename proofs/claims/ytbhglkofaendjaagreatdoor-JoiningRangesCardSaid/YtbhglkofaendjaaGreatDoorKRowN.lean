/- What the program's main function is: a fact of the whole program, by itself because its proof is large. -/
import Derived.Test.YtbhglkofaendjaaGreatDoorKRow
namespace Go.Proofs.YtbhglkofaendjaaGreatDoor
open Go Go.RowKit

theorem prog_main : Tryz.pinned.checked.prog.mainIs = some (true, ("551181d6d3319dbb7002801818e27a3fc569a8c24dec85ace5df3a83aabba663" : String).toList) := by kernel_rfl
end Go.Proofs.YtbhglkofaendjaaGreatDoor
