/- What the claim of QuickcheckChars says of the program, checked: by itself, because its proof is large. -/
import Derived.Test.YtjfhcmkcmdnhoaaGreatDoorKRowM
import Derived.Test.YtjfhcmkcmdnhoaaGreatDoorKRowL
namespace Go.Proofs.YtjfhcmkcmdnhoaaGreatDoor
open Go Go.RowKit
theorem quickcheckChars_f0 : (Rows.quickcheckCharsRow.inPlace == Tryz.pinned.checked.prog.inPlace 9) = true := by kernel_rfl
theorem quickcheckChars_f1 : (Rows.quickcheckCharsRow.unfollowed == Tryz.pinned.checked.prog.unfollowed 9) = true := by kernel_rfl
theorem quickcheckChars_f2 : (Rows.quickcheckCharsRow.recurses == Tryz.pinned.checked.prog.recurses 9) = true := by kernel_rfl
theorem quickcheckChars_f3 : (Rows.quickcheckCharsRow.named == Tryz.pinned.checked.prog.varsNamed 9) = true := by kernel_rfl
theorem quickcheckChars_facts : joinedFacts Tryz.pinned.checked.prog 9 Tryz.f9 (OpenSpec.ofChange Rows.quickcheckCharsSpec).bare Rows.quickcheckCharsRow = true := by
  unfold joinedFacts
  rw [prog_enters, prog_lifts, quickcheckChars_f0, quickcheckChars_f1, quickcheckChars_f2, quickcheckChars_f3]
  kernel_rfl
theorem quickcheckChars_goes : false = Rows.quickcheckCharsRow.goesBy Tryz.pinned.checked.prog := by kernel_rfl
end Go.Proofs.YtjfhcmkcmdnhoaaGreatDoor
