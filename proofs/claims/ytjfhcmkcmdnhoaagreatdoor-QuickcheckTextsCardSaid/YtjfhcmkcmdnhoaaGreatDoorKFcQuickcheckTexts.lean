/- What the claim of QuickcheckTexts says of the program, checked: by itself, because its proof is large. -/
import Derived.Test.YtjfhcmkcmdnhoaaGreatDoorKRowM
import Derived.Test.YtjfhcmkcmdnhoaaGreatDoorKRowL
namespace Go.Proofs.YtjfhcmkcmdnhoaaGreatDoor
open Go Go.RowKit
theorem quickcheckTexts_f0 : (Rows.quickcheckTextsRow.inPlace == Tryz.pinned.checked.prog.inPlace 12) = true := by kernel_rfl
theorem quickcheckTexts_f1 : (Rows.quickcheckTextsRow.unfollowed == Tryz.pinned.checked.prog.unfollowed 12) = true := by kernel_rfl
theorem quickcheckTexts_f2 : (Rows.quickcheckTextsRow.recurses == Tryz.pinned.checked.prog.recurses 12) = true := by kernel_rfl
theorem quickcheckTexts_f3 : (Rows.quickcheckTextsRow.named == Tryz.pinned.checked.prog.varsNamed 12) = true := by kernel_rfl
theorem quickcheckTexts_facts : joinedFacts Tryz.pinned.checked.prog 12 Tryz.f12 (OpenSpec.ofChange Rows.quickcheckTextsSpec).bare Rows.quickcheckTextsRow = true := by
  unfold joinedFacts
  rw [prog_enters, prog_lifts, quickcheckTexts_f0, quickcheckTexts_f1, quickcheckTexts_f2, quickcheckTexts_f3]
  kernel_rfl
theorem quickcheckTexts_goes : false = Rows.quickcheckTextsRow.goesBy Tryz.pinned.checked.prog := by kernel_rfl
end Go.Proofs.YtjfhcmkcmdnhoaaGreatDoor
