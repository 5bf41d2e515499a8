/- What the program's main function is: a fact of the whole program, by itself because its proof is large. -/
import Derived.Test.YtmlcdohldkgcdaaGreatDoorKRow
namespace Go.Proofs.YtmlcdohldkgcdaaGreatDoor
open Go Go.RowKit
theorem prog_main : Tryz.pinned.checked.prog.mainIs = some (true, ("d4afe53d6ca536fb71691e94d956aecb03d8a70a65ad78080160034438e34bd6" : String).toList) := by kernel_rfl
end Go.Proofs.YtmlcdohldkgcdaaGreatDoor
