/- What the claim of QuickcheckSets says of the program, checked: by itself, because its proof is large. -/
import Derived.Test.YtomgchfjachedaaGreatDoorKRowM
import Derived.Test.YtomgchfjachedaaGreatDoorKRowL
namespace Go.Proofs.YtomgchfjachedaaGreatDoor
open Go Go.RowKit
theorem quickcheckSets_f0 : (Rows.quickcheckSetsRow.inPlace == Tryz.pinned.checked.prog.inPlace 3) = true := by kernel_rfl
theorem quickcheckSets_f1 : (Rows.quickcheckSetsRow.unfollowed == Tryz.pinned.checked.prog.unfollowed 3) = true := by kernel_rfl
theorem quickcheckSets_f2 : (Rows.quickcheckSetsRow.recurses == Tryz.pinned.checked.prog.recurses 3) = true := by kernel_rfl
theorem quickcheckSets_f3 : (Rows.quickcheckSetsRow.named == Tryz.pinned.checked.prog.varsNamed 3) = true := by kernel_rfl
theorem quickcheckSets_facts : joinedFacts Tryz.pinned.checked.prog 3 Tryz.f3 (OpenSpec.ofChange Rows.quickcheckSetsSpec).bare Rows.quickcheckSetsRow = true := by
  unfold joinedFacts
  rw [prog_enters, prog_lifts, quickcheckSets_f0, quickcheckSets_f1, quickcheckSets_f2, quickcheckSets_f3]
  kernel_rfl
theorem quickcheckSets_goes : false = Rows.quickcheckSetsRow.goesBy Tryz.pinned.checked.prog := by kernel_rfl
end Go.Proofs.YtomgchfjachedaaGreatDoor
