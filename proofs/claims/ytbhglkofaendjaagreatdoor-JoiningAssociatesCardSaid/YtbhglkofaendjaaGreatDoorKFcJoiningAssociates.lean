/- What the claim of JoiningAssociates says of the program, checked: by itself, because its proof is large. -/
import Derived.Test.YtbhglkofaendjaaGreatDoorKRowM
import Derived.Test.YtbhglkofaendjaaGreatDoorKRowL
namespace Go.Proofs.YtbhglkofaendjaaGreatDoor
open Go Go.RowKit

theorem joiningAssociates_f0 : (Rows.joiningAssociatesRow.inPlace == Tryz.pinned.checked.prog.inPlace 6) = true := by kernel_rfl
theorem joiningAssociates_f1 : (Rows.joiningAssociatesRow.unfollowed == Tryz.pinned.checked.prog.unfollowed 6) = true := by kernel_rfl
theorem joiningAssociates_f2 : (Rows.joiningAssociatesRow.recurses == Tryz.pinned.checked.prog.recurses 6) = true := by kernel_rfl
theorem joiningAssociates_f3 : (Rows.joiningAssociatesRow.named == Tryz.pinned.checked.prog.varsNamed 6) = true := by kernel_rfl
theorem joiningAssociates_facts : joinedFacts Tryz.pinned.checked.prog 6 Tryz.f6 (OpenSpec.ofChange Rows.joiningAssociatesSpec).bare Rows.joiningAssociatesRow = true := by
  unfold joinedFacts
  rw [prog_enters, prog_lifts, joiningAssociates_f0, joiningAssociates_f1, joiningAssociates_f2, joiningAssociates_f3]
  kernel_rfl
theorem joiningAssociates_goes : false = Rows.joiningAssociatesRow.goesBy Tryz.pinned.checked.prog := by kernel_rfl
end Go.Proofs.YtbhglkofaendjaaGreatDoor
