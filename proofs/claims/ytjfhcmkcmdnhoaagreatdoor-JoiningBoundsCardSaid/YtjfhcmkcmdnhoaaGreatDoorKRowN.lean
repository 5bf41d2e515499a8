/- What the program's main function is: a fact of the whole program, by itself because its proof is large. -/
import Derived.Test.YtjfhcmkcmdnhoaaGreatDoorKRow
namespace Go.Proofs.YtjfhcmkcmdnhoaaGreatDoor
open Go Go.RowKit
theorem prog_main : Tryz.pinned.checked.prog.mainIs = some (true, ("ce58f55de31ccddc4de5d5da2f8cd532fd3270d761bf45a837fa542f6f6b67df" : String).toList) := by kernel_rfl
end Go.Proofs.YtjfhcmkcmdnhoaaGreatDoor
