/- What the claim of IdentLongest says of the program, checked: by itself, because its proof is large. -/
import Derived.Test.YtmlcdohldkgcdaaGreatDoorKRowM
import Derived.Test.YtmlcdohldkgcdaaGreatDoorKRowL
namespace Go.Proofs.YtmlcdohldkgcdaaGreatDoor
open Go Go.RowKit
theorem identLongest_f0 : (Rows.identLongestRow.inPlace == Tryz.pinned.checked.prog.inPlace 8) = true := by kernel_rfl
theorem identLongest_f1 : (Rows.identLongestRow.unfollowed == Tryz.pinned.checked.prog.unfollowed 8) = true := by kernel_rfl
theorem identLongest_f2 : (Rows.identLongestRow.recurses == Tryz.pinned.checked.prog.recurses 8) = true := by kernel_rfl
theorem identLongest_f3 : (Rows.identLongestRow.named == Tryz.pinned.checked.prog.varsNamed 8) = true := by kernel_rfl
theorem identLongest_facts : joinedFacts Tryz.pinned.checked.prog 8 Tryz.f8 (OpenSpec.ofChange Rows.identLongestSpec).bare Rows.identLongestRow = true := by
  unfold joinedFacts
  rw [prog_enters, prog_lifts, identLongest_f0, identLongest_f1, identLongest_f2, identLongest_f3]
  kernel_rfl
theorem identLongest_goes : false = Rows.identLongestRow.goesBy Tryz.pinned.checked.prog := by kernel_rfl
end Go.Proofs.YtmlcdohldkgcdaaGreatDoor
