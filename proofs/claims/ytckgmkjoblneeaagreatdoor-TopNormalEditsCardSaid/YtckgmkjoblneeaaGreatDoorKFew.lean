/- law21.DecomposeChecks returns true. law21.few. -/
import Derived.Test.YtckgmkjoblneeaaGreatDoorKAlive21
import Derived.Test.YtckgmkjoblneeaaGreatDoorKDecD
import Derived.Test.YtckgmkjoblneeaaGreatDoorKPq
namespace Go.Proofs.YtckgmkjoblneeaaGreatDoor
open Go Go.RowKit
end Go.Proofs.YtckgmkjoblneeaaGreatDoor
namespace Go.Proofs.YtckgmkjoblneeaaGreatDoor
open Go Go.RowKit
theorem textOf_eq (n : Nrm) (cp : Bool) (text : List Int) : textOf n cp text = textE (classOf (usableN n).classes) (fullOf (usableN n).decomp cp) text := rfl
end Go.Proofs.YtckgmkjoblneeaaGreatDoor
