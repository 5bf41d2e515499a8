/- law21.DecomposeChecks returns true. law21.few. -/
import Derived.Test.YtomgchfjachedaaGreatDoorKAlive21
import Derived.Test.YtomgchfjachedaaGreatDoorKCma
import Derived.Test.YtomgchfjachedaaGreatDoorKPq
namespace Go.Proofs.YtomgchfjachedaaGreatDoor
open Go Go.RowKit
end Go.Proofs.YtomgchfjachedaaGreatDoor
namespace Go.Proofs.YtomgchfjachedaaGreatDoor
open Go Go.RowKit
theorem textOf_eq (n : Nrm) (cp : Bool) (text : List Int) : textOf n cp text = textE (classOf (usableN n).classes) (fullOf (usableN n).decomp cp) text := rfl
end Go.Proofs.YtomgchfjachedaaGreatDoor
