/- What the claim of JoiningSame says of the program, checked: by itself, because its proof is large. -/
import Derived.Test.YtjfhcmkcmdnhoaaGreatDoorKRowM
import Derived.Test.YtjfhcmkcmdnhoaaGreatDoorKRowL
namespace Go.Proofs.YtjfhcmkcmdnhoaaGreatDoor
open Go Go.RowKit
theorem joiningSame_f0 : (Rows.joiningSameRow.inPlace == Tryz.pinned.checked.prog.inPlace 6) = true := by kernel_rfl
theorem joiningSame_f1 : (Rows.joiningSameRow.unfollowed == Tryz.pinned.checked.prog.unfollowed 6) = true := by kernel_rfl
theorem joiningSame_f2 : (Rows.joiningSameRow.recurses == Tryz.pinned.checked.prog.recurses 6) = true := by kernel_rfl
theorem joiningSame_f3 : (Rows.joiningSameRow.named == Tryz.pinned.checked.prog.varsNamed 6) = true := by kernel_rfl
theorem joiningSame_facts : joinedFacts Tryz.pinned.checked.prog 6 Tryz.f6 (OpenSpec.ofChange Rows.joiningSameSpec).bare Rows.joiningSameRow = true := by
  unfold joinedFacts
  rw [prog_enters, prog_lifts, joiningSame_f0, joiningSame_f1, joiningSame_f2, joiningSame_f3]
  kernel_rfl
theorem joiningSame_goes : false = Rows.joiningSameRow.goesBy Tryz.pinned.checked.prog := by kernel_rfl
end Go.Proofs.YtjfhcmkcmdnhoaaGreatDoor
