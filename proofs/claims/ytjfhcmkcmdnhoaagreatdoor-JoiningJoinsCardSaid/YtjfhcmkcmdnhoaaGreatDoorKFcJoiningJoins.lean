/- What the claim of JoiningJoins says of the program, checked: by itself, because its proof is large. -/
import Derived.Test.YtjfhcmkcmdnhoaaGreatDoorKRowM
import Derived.Test.YtjfhcmkcmdnhoaaGreatDoorKRowL
namespace Go.Proofs.YtjfhcmkcmdnhoaaGreatDoor
open Go Go.RowKit
theorem joiningJoins_f0 : (Rows.joiningJoinsRow.inPlace == Tryz.pinned.checked.prog.inPlace 4) = true := by kernel_rfl
theorem joiningJoins_f1 : (Rows.joiningJoinsRow.unfollowed == Tryz.pinned.checked.prog.unfollowed 4) = true := by kernel_rfl
theorem joiningJoins_f2 : (Rows.joiningJoinsRow.recurses == Tryz.pinned.checked.prog.recurses 4) = true := by kernel_rfl
theorem joiningJoins_f3 : (Rows.joiningJoinsRow.named == Tryz.pinned.checked.prog.varsNamed 4) = true := by kernel_rfl
theorem joiningJoins_facts : joinedFacts Tryz.pinned.checked.prog 4 Tryz.f4 (OpenSpec.ofChange Rows.joiningJoinsSpec).bare Rows.joiningJoinsRow = true := by
  unfold joinedFacts
  rw [prog_enters, prog_lifts, joiningJoins_f0, joiningJoins_f1, joiningJoins_f2, joiningJoins_f3]
  kernel_rfl
theorem joiningJoins_goes : false = Rows.joiningJoinsRow.goesBy Tryz.pinned.checked.prog := by kernel_rfl
end Go.Proofs.YtjfhcmkcmdnhoaaGreatDoor
