/- What the claim of JoiningForms says of the program, checked: by itself, because its proof is large. -/
import Derived.Test.YtbhglkofaendjaaGreatDoorKRowM
import Derived.Test.YtbhglkofaendjaaGreatDoorKRowL
namespace Go.Proofs.YtbhglkofaendjaaGreatDoor
open Go Go.RowKit

theorem joiningForms_f0 : (Rows.joiningFormsRow.inPlace == Tryz.pinned.checked.prog.inPlace 10) = true := by kernel_rfl
theorem joiningForms_f1 : (Rows.joiningFormsRow.unfollowed == Tryz.pinned.checked.prog.unfollowed 10) = true := by kernel_rfl
theorem joiningForms_f2 : (Rows.joiningFormsRow.recurses == Tryz.pinned.checked.prog.recurses 10) = true := by kernel_rfl
theorem joiningForms_f3 : (Rows.joiningFormsRow.named == Tryz.pinned.checked.prog.varsNamed 10) = true := by kernel_rfl
theorem joiningForms_facts : joinedFacts Tryz.pinned.checked.prog 10 Tryz.f10 (OpenSpec.ofChange Rows.joiningFormsSpec).bare Rows.joiningFormsRow = true := by
  unfold joinedFacts
  rw [prog_enters, prog_lifts, joiningForms_f0, joiningForms_f1, joiningForms_f2, joiningForms_f3]
  kernel_rfl
theorem joiningForms_goes : false = Rows.joiningFormsRow.goesBy Tryz.pinned.checked.prog := by kernel_rfl
end Go.Proofs.YtbhglkofaendjaaGreatDoor
