/- law21.alive. -/
import Derived.Test.YtckgmkjoblneeaaGreatDoorKExpC
import Derived.Test.YtckgmkjoblneeaaGreatDoorKRfj
namespace Go.Proofs.YtckgmkjoblneeaaGreatDoor
open Go Go.RowKit

theorem full_alone {l : List Mp} {cp : Bool} {F : Int → List Int} (h : FullEq l cp F) {c : Int} (ho : onceOf l c cp = none) : F c = [c] := by rw [h c, ho]
theorem full_to {l : List Mp} {cp : Bool} {F : Int → List Int} (h : FullEq l cp F) {c : Int} {to : List Int} (ho : onceOf l c cp = some to) : F c = to.flatMap F := by rw [h c, ho]
end Go.Proofs.YtckgmkjoblneeaaGreatDoor
