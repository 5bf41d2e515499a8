/- What the claim of JoiningBounds says of the program, checked: by itself, because its proof is large. -/
import Derived.Test.YtjfhcmkcmdnhoaaGreatDoorKRowM
import Derived.Test.YtjfhcmkcmdnhoaaGreatDoorKRowL
namespace Go.Proofs.YtjfhcmkcmdnhoaaGreatDoor
open Go Go.RowKit
theorem joiningBounds_f0 : (Rows.joiningBoundsRow.inPlace == Tryz.pinned.checked.prog.inPlace 7) = true := by kernel_rfl
theorem joiningBounds_f1 : (Rows.joiningBoundsRow.unfollowed == Tryz.pinned.checked.prog.unfollowed 7) = true := by kernel_rfl
theorem joiningBounds_f2 : (Rows.joiningBoundsRow.recurses == Tryz.pinned.checked.prog.recurses 7) = true := by kernel_rfl
theorem joiningBounds_f3 : (Rows.joiningBoundsRow.named == Tryz.pinned.checked.prog.varsNamed 7) = true := by kernel_rfl
theorem joiningBounds_facts : joinedFacts Tryz.pinned.checked.prog 7 Tryz.f7 (OpenSpec.ofChange Rows.joiningBoundsSpec).bare Rows.joiningBoundsRow = true := by
  unfold joinedFacts
  rw [prog_enters, prog_lifts, joiningBounds_f0, joiningBounds_f1, joiningBounds_f2, joiningBounds_f3]
  kernel_rfl
theorem joiningBounds_goes : false = Rows.joiningBoundsRow.goesBy Tryz.pinned.checked.prog := by kernel_rfl
end Go.Proofs.YtjfhcmkcmdnhoaaGreatDoor
