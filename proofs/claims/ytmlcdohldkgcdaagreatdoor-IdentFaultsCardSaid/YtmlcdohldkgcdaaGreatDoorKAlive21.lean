/- law21.alive. -/
import Derived.Test.YtmlcdohldkgcdaaGreatDoorKExpC
import Derived.Test.YtmlcdohldkgcdaaGreatDoorKRfl
import Derived.Test.YtmlcdohldkgcdaaGreatDoorKRfj
namespace Go.Proofs.YtmlcdohldkgcdaaGreatDoor
open Go Go.RowKit

end Go.Proofs.YtmlcdohldkgcdaaGreatDoor
