/- law21.DecomposeChecks returns true. law21.few. -/
import Derived.Test.YtmlcdohldkgcdaaGreatDoorKAlive21
import Derived.Test.YtmlcdohldkgcdaaGreatDoorKDecD
import Derived.Test.YtmlcdohldkgcdaaGreatDoorKPq
namespace Go.Proofs.YtmlcdohldkgcdaaGreatDoor
open Go Go.RowKit
end Go.Proofs.YtmlcdohldkgcdaaGreatDoor
namespace Go.Proofs.YtmlcdohldkgcdaaGreatDoor
open Go Go.RowKit
theorem textOf_eq (n : Nrm) (cp : Bool) (text : List Int) : textOf n cp text = textE (classOf (usableN n).classes) (fullOf (usableN n).decomp cp) text := rfl
theorem r01_same (X : List Int) (A B : Option Addr) (n m c d : Nat) (w : World) (hl : X.length ≤ 10000) (hx : Ints w A n X) (hy : Ints w B m X) : Calls Tryz.prog 43 #[.slice A n c, .slice B m d] w (RetB w true) := by
  have h1 := hx.1
  have h2 := hy.1
  have := r01Equal A B n m c d X X w (by omega) (by omega) hx hy
  simpa using this
end Go.Proofs.YtmlcdohldkgcdaaGreatDoor
