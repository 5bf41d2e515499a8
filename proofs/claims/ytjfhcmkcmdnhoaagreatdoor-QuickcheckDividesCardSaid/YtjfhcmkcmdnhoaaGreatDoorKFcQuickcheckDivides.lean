/- What the claim of QuickcheckDivides says of the program, checked: by itself, because its proof is large. -/
import Derived.Test.YtjfhcmkcmdnhoaaGreatDoorKRowM
import Derived.Test.YtjfhcmkcmdnhoaaGreatDoorKRowL
namespace Go.Proofs.YtjfhcmkcmdnhoaaGreatDoor
open Go Go.RowKit
theorem quickcheckDivides_f0 : (Rows.quickcheckDividesRow.inPlace == Tryz.pinned.checked.prog.inPlace 11) = true := by kernel_rfl
theorem quickcheckDivides_f1 : (Rows.quickcheckDividesRow.unfollowed == Tryz.pinned.checked.prog.unfollowed 11) = true := by kernel_rfl
theorem quickcheckDivides_f2 : (Rows.quickcheckDividesRow.recurses == Tryz.pinned.checked.prog.recurses 11) = true := by kernel_rfl
theorem quickcheckDivides_f3 : (Rows.quickcheckDividesRow.named == Tryz.pinned.checked.prog.varsNamed 11) = true := by kernel_rfl
theorem quickcheckDivides_facts : joinedFacts Tryz.pinned.checked.prog 11 Tryz.f11 (OpenSpec.ofChange Rows.quickcheckDividesSpec).bare Rows.quickcheckDividesRow = true := by
  unfold joinedFacts
  rw [prog_enters, prog_lifts, quickcheckDivides_f0, quickcheckDivides_f1, quickcheckDivides_f2, quickcheckDivides_f3]
  kernel_rfl
theorem quickcheckDivides_goes : false = Rows.quickcheckDividesRow.goesBy Tryz.pinned.checked.prog := by kernel_rfl
end Go.Proofs.YtjfhcmkcmdnhoaaGreatDoor
