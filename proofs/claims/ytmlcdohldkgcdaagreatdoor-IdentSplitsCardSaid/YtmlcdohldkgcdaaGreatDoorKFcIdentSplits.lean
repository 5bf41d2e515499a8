/- What the claim of IdentSplits says of the program, checked: by itself, because its proof is large. -/
import Derived.Test.YtmlcdohldkgcdaaGreatDoorKRowM
import Derived.Test.YtmlcdohldkgcdaaGreatDoorKRowL
namespace Go.Proofs.YtmlcdohldkgcdaaGreatDoor
open Go Go.RowKit
theorem identSplits_f0 : (Rows.identSplitsRow.inPlace == Tryz.pinned.checked.prog.inPlace 6) = true := by kernel_rfl
theorem identSplits_f1 : (Rows.identSplitsRow.unfollowed == Tryz.pinned.checked.prog.unfollowed 6) = true := by kernel_rfl
theorem identSplits_f2 : (Rows.identSplitsRow.recurses == Tryz.pinned.checked.prog.recurses 6) = true := by kernel_rfl
theorem identSplits_f3 : (Rows.identSplitsRow.named == Tryz.pinned.checked.prog.varsNamed 6) = true := by kernel_rfl
theorem identSplits_facts : joinedFacts Tryz.pinned.checked.prog 6 Tryz.f6 (OpenSpec.ofChange Rows.identSplitsSpec).bare Rows.identSplitsRow = true := by
  unfold joinedFacts
  rw [prog_enters, prog_lifts, identSplits_f0, identSplits_f1, identSplits_f2, identSplits_f3]
  kernel_rfl
theorem identSplits_goes : false = Rows.identSplitsRow.goesBy Tryz.pinned.checked.prog := by kernel_rfl
end Go.Proofs.YtmlcdohldkgcdaaGreatDoor
