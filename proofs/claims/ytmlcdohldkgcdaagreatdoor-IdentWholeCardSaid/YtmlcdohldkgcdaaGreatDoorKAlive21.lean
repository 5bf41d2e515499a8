/- law21.alive. -/
import Derived.Test.YtmlcdohldkgcdaaGreatDoorKSq
import Derived.Test.YtmlcdohldkgcdaaGreatDoorKRfb
namespace Go.Proofs.YtmlcdohldkgcdaaGreatDoor
open Go Go.RowKit

end Go.Proofs.YtmlcdohldkgcdaaGreatDoor
