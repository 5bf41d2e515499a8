/- What the claim of IdentValid says of the program, checked: by itself, because its proof is large. -/
import Derived.Test.YtmlcdohldkgcdaaGreatDoorKRowM
import Derived.Test.YtmlcdohldkgcdaaGreatDoorKRowL
namespace Go.Proofs.YtmlcdohldkgcdaaGreatDoor
open Go Go.RowKit
theorem identValid_f0 : (Rows.identValidRow.inPlace == Tryz.pinned.checked.prog.inPlace 5) = true := by kernel_rfl
theorem identValid_f1 : (Rows.identValidRow.unfollowed == Tryz.pinned.checked.prog.unfollowed 5) = true := by kernel_rfl
theorem identValid_f2 : (Rows.identValidRow.recurses == Tryz.pinned.checked.prog.recurses 5) = true := by kernel_rfl
theorem identValid_f3 : (Rows.identValidRow.named == Tryz.pinned.checked.prog.varsNamed 5) = true := by kernel_rfl
theorem identValid_facts : joinedFacts Tryz.pinned.checked.prog 5 Tryz.f5 (OpenSpec.ofChange Rows.identValidSpec).bare Rows.identValidRow = true := by
  unfold joinedFacts
  rw [prog_enters, prog_lifts, identValid_f0, identValid_f1, identValid_f2, identValid_f3]
  kernel_rfl
theorem identValid_goes : false = Rows.identValidRow.goesBy Tryz.pinned.checked.prog := by kernel_rfl
end Go.Proofs.YtmlcdohldkgcdaaGreatDoor
