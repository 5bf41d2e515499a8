/- law21.alive. -/
import Derived.Test.YtomgchfjachedaaGreatDoorKExpC
import Derived.Test.YtomgchfjachedaaGreatDoorKRfl
import Derived.Test.YtomgchfjachedaaGreatDoorKRfj
namespace Go.Proofs.YtomgchfjachedaaGreatDoor
open Go Go.RowKit

theorem full_alone {l : List Mp} {cp : Bool} {F : Int → List Int} (h : FullEq l cp F) {c : Int} (ho : onceOf l c cp = none) : F c = [c] := by rw [h c, ho]
end Go.Proofs.YtomgchfjachedaaGreatDoor
