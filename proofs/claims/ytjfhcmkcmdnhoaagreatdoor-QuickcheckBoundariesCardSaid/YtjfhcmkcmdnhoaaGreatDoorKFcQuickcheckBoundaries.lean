/- What the claim of QuickcheckBoundaries says of the program, checked: by itself, because its proof is large. -/
import Derived.Test.YtjfhcmkcmdnhoaaGreatDoorKRowM
import Derived.Test.YtjfhcmkcmdnhoaaGreatDoorKRowL
namespace Go.Proofs.YtjfhcmkcmdnhoaaGreatDoor
open Go Go.RowKit
theorem quickcheckBoundaries_f0 : (Rows.quickcheckBoundariesRow.inPlace == Tryz.pinned.checked.prog.inPlace 10) = true := by kernel_rfl
theorem quickcheckBoundaries_f1 : (Rows.quickcheckBoundariesRow.unfollowed == Tryz.pinned.checked.prog.unfollowed 10) = true := by kernel_rfl
theorem quickcheckBoundaries_f2 : (Rows.quickcheckBoundariesRow.recurses == Tryz.pinned.checked.prog.recurses 10) = true := by kernel_rfl
theorem quickcheckBoundaries_f3 : (Rows.quickcheckBoundariesRow.named == Tryz.pinned.checked.prog.varsNamed 10) = true := by kernel_rfl
theorem quickcheckBoundaries_facts : joinedFacts Tryz.pinned.checked.prog 10 Tryz.f10 (OpenSpec.ofChange Rows.quickcheckBoundariesSpec).bare Rows.quickcheckBoundariesRow = true := by
  unfold joinedFacts
  rw [prog_enters, prog_lifts, quickcheckBoundaries_f0, quickcheckBoundaries_f1, quickcheckBoundaries_f2, quickcheckBoundaries_f3]
  kernel_rfl
theorem quickcheckBoundaries_goes : false = Rows.quickcheckBoundariesRow.goesBy Tryz.pinned.checked.prog := by kernel_rfl
end Go.Proofs.YtjfhcmkcmdnhoaaGreatDoor
