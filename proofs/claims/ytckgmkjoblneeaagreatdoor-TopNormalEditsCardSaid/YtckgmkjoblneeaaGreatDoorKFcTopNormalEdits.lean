/- What the claim of TopNormalEdits says of the program, checked: by itself, because its proof is large. -/
import Derived.Test.YtckgmkjoblneeaaGreatDoorKRowM
import Derived.Test.YtckgmkjoblneeaaGreatDoorKRowL
namespace Go.Proofs.YtckgmkjoblneeaaGreatDoor
open Go Go.RowKit
theorem topNormalEdits_f0 : (Rows.topNormalEditsRow.inPlace == Tryz.pinned.checked.prog.inPlace 4) = true := by kernel_rfl
theorem topNormalEdits_f1 : (Rows.topNormalEditsRow.unfollowed == Tryz.pinned.checked.prog.unfollowed 4) = true := by kernel_rfl
theorem topNormalEdits_f2 : (Rows.topNormalEditsRow.recurses == Tryz.pinned.checked.prog.recurses 4) = true := by kernel_rfl
theorem topNormalEdits_f3 : (Rows.topNormalEditsRow.named == Tryz.pinned.checked.prog.varsNamed 4) = true := by kernel_rfl
theorem topNormalEdits_facts : joinedFacts Tryz.pinned.checked.prog 4 Tryz.f4 (OpenSpec.ofChange Rows.topNormalEditsSpec).bare Rows.topNormalEditsRow = true := by
  unfold joinedFacts
  rw [prog_enters, prog_lifts, topNormalEdits_f0, topNormalEdits_f1, topNormalEdits_f2, topNormalEdits_f3]
  kernel_rfl
theorem topNormalEdits_goes : false = Rows.topNormalEditsRow.goesBy Tryz.pinned.checked.prog := by kernel_rfl
end Go.Proofs.YtckgmkjoblneeaaGreatDoor
