/- What the claim of IdentWhole says of the program, checked: by itself, because its proof is large. -/
import Derived.Test.YtmlcdohldkgcdaaGreatDoorKRowM
import Derived.Test.YtmlcdohldkgcdaaGreatDoorKRowL
namespace Go.Proofs.YtmlcdohldkgcdaaGreatDoor
open Go Go.RowKit
theorem identWhole_f0 : (Rows.identWholeRow.inPlace == Tryz.pinned.checked.prog.inPlace 9) = true := by kernel_rfl
theorem identWhole_f1 : (Rows.identWholeRow.unfollowed == Tryz.pinned.checked.prog.unfollowed 9) = true := by kernel_rfl
theorem identWhole_f2 : (Rows.identWholeRow.recurses == Tryz.pinned.checked.prog.recurses 9) = true := by kernel_rfl
theorem identWhole_f3 : (Rows.identWholeRow.named == Tryz.pinned.checked.prog.varsNamed 9) = true := by kernel_rfl
theorem identWhole_facts : joinedFacts Tryz.pinned.checked.prog 9 Tryz.f9 (OpenSpec.ofChange Rows.identWholeSpec).bare Rows.identWholeRow = true := by
  unfold joinedFacts
  rw [prog_enters, prog_lifts, identWhole_f0, identWhole_f1, identWhole_f2, identWhole_f3]
  kernel_rfl
theorem identWhole_goes : false = Rows.identWholeRow.goesBy Tryz.pinned.checked.prog := by kernel_rfl
end Go.Proofs.YtmlcdohldkgcdaaGreatDoor
