/- law21.DecomposeChecks returns true. law21.few. -/
import Derived.Test.YtomgchfjachedaaGreatDoorKAlive21
import Derived.Test.YtomgchfjachedaaGreatDoorKDecD
import Derived.Test.YtomgchfjachedaaGreatDoorKPq
namespace Go.Proofs.YtomgchfjachedaaGreatDoor
open Go Go.RowKit
theorem norm_tag {w : World} {s : Sls} {n : Nrm} (_h : NormIn w s n) (hs : smallB n = true) : ∀ m ∈ n.decomp, m.tag.size ≤ 1000 := fun m hm => by
  have := ((smallB_parts hs).2.2.2 m hm).2
  omega
end Go.Proofs.YtomgchfjachedaaGreatDoor
namespace Go.Proofs.YtomgchfjachedaaGreatDoor
open Go Go.RowKit
theorem textOf_eq (n : Nrm) (cp : Bool) (text : List Int) : textOf n cp text = textE (classOf (usableN n).classes) (fullOf (usableN n).decomp cp) text := rfl
end Go.Proofs.YtomgchfjachedaaGreatDoor
