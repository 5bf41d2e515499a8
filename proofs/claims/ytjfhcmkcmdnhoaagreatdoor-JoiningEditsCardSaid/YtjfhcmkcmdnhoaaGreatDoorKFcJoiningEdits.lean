/- What the claim of JoiningEdits says of the program, checked: by itself, because its proof is large. -/
import Derived.Test.YtjfhcmkcmdnhoaaGreatDoorKRowM
import Derived.Test.YtjfhcmkcmdnhoaaGreatDoorKRowL
namespace Go.Proofs.YtjfhcmkcmdnhoaaGreatDoor
open Go Go.RowKit
theorem joiningEdits_f0 : (Rows.joiningEditsRow.inPlace == Tryz.pinned.checked.prog.inPlace 8) = true := by kernel_rfl
theorem joiningEdits_f1 : (Rows.joiningEditsRow.unfollowed == Tryz.pinned.checked.prog.unfollowed 8) = true := by kernel_rfl
theorem joiningEdits_f2 : (Rows.joiningEditsRow.recurses == Tryz.pinned.checked.prog.recurses 8) = true := by kernel_rfl
theorem joiningEdits_f3 : (Rows.joiningEditsRow.named == Tryz.pinned.checked.prog.varsNamed 8) = true := by kernel_rfl
theorem joiningEdits_facts : joinedFacts Tryz.pinned.checked.prog 8 Tryz.f8 (OpenSpec.ofChange Rows.joiningEditsSpec).bare Rows.joiningEditsRow = true := by
  unfold joinedFacts
  rw [prog_enters, prog_lifts, joiningEdits_f0, joiningEdits_f1, joiningEdits_f2, joiningEdits_f3]
  kernel_rfl
theorem joiningEdits_goes : false = Rows.joiningEditsRow.goesBy Tryz.pinned.checked.prog := by kernel_rfl
end Go.Proofs.YtjfhcmkcmdnhoaaGreatDoor
