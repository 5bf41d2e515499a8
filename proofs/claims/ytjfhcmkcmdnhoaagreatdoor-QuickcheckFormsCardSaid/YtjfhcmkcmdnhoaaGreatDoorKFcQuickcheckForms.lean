/- What the claim of QuickcheckForms says of the program, checked: by itself, because its proof is large. -/
import Derived.Test.YtjfhcmkcmdnhoaaGreatDoorKRowM
import Derived.Test.YtjfhcmkcmdnhoaaGreatDoorKRowL
namespace Go.Proofs.YtjfhcmkcmdnhoaaGreatDoor
open Go Go.RowKit
theorem quickcheckForms_f0 : (Rows.quickcheckFormsRow.inPlace == Tryz.pinned.checked.prog.inPlace 13) = true := by kernel_rfl
theorem quickcheckForms_f1 : (Rows.quickcheckFormsRow.unfollowed == Tryz.pinned.checked.prog.unfollowed 13) = true := by kernel_rfl
theorem quickcheckForms_f2 : (Rows.quickcheckFormsRow.recurses == Tryz.pinned.checked.prog.recurses 13) = true := by kernel_rfl
theorem quickcheckForms_f3 : (Rows.quickcheckFormsRow.named == Tryz.pinned.checked.prog.varsNamed 13) = true := by kernel_rfl
theorem quickcheckForms_facts : joinedFacts Tryz.pinned.checked.prog 13 Tryz.f13 (OpenSpec.ofChange Rows.quickcheckFormsSpec).bare Rows.quickcheckFormsRow = true := by
  unfold joinedFacts
  rw [prog_enters, prog_lifts, quickcheckForms_f0, quickcheckForms_f1, quickcheckForms_f2, quickcheckForms_f3]
  kernel_rfl
theorem quickcheckForms_goes : false = Rows.quickcheckFormsRow.goesBy Tryz.pinned.checked.prog := by kernel_rfl
end Go.Proofs.YtjfhcmkcmdnhoaaGreatDoor
