/- What the claim of QuickcheckDecides says of the program, checked: by itself, because its proof is large. -/
import Derived.Test.YtjfhcmkcmdnhoaaGreatDoorKRowM
import Derived.Test.YtjfhcmkcmdnhoaaGreatDoorKRowL
namespace Go.Proofs.YtjfhcmkcmdnhoaaGreatDoor
open Go Go.RowKit
theorem quickcheckDecides_f0 : (Rows.quickcheckDecidesRow.inPlace == Tryz.pinned.checked.prog.inPlace 14) = true := by kernel_rfl
theorem quickcheckDecides_f1 : (Rows.quickcheckDecidesRow.unfollowed == Tryz.pinned.checked.prog.unfollowed 14) = true := by kernel_rfl
theorem quickcheckDecides_f2 : (Rows.quickcheckDecidesRow.recurses == Tryz.pinned.checked.prog.recurses 14) = true := by kernel_rfl
theorem quickcheckDecides_f3 : (Rows.quickcheckDecidesRow.named == Tryz.pinned.checked.prog.varsNamed 14) = true := by kernel_rfl
theorem quickcheckDecides_facts : joinedFacts Tryz.pinned.checked.prog 14 Tryz.f14 (OpenSpec.ofChange Rows.quickcheckDecidesSpec).bare Rows.quickcheckDecidesRow = true := by
  unfold joinedFacts
  rw [prog_enters, prog_lifts, quickcheckDecides_f0, quickcheckDecides_f1, quickcheckDecides_f2, quickcheckDecides_f3]
  kernel_rfl
theorem quickcheckDecides_goes : false = Rows.quickcheckDecidesRow.goesBy Tryz.pinned.checked.prog := by kernel_rfl
end Go.Proofs.YtjfhcmkcmdnhoaaGreatDoor
