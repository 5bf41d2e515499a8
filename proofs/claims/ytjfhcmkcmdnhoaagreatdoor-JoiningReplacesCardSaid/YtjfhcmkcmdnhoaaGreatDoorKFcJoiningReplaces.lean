/- What the claim of JoiningReplaces says of the program, checked: by itself, because its proof is large. -/
import Derived.Test.YtjfhcmkcmdnhoaaGreatDoorKRowM
import Derived.Test.YtjfhcmkcmdnhoaaGreatDoorKRowL
namespace Go.Proofs.YtjfhcmkcmdnhoaaGreatDoor
open Go Go.RowKit
theorem joiningReplaces_f0 : (Rows.joiningReplacesRow.inPlace == Tryz.pinned.checked.prog.inPlace 5) = true := by kernel_rfl
theorem joiningReplaces_f1 : (Rows.joiningReplacesRow.unfollowed == Tryz.pinned.checked.prog.unfollowed 5) = true := by kernel_rfl
theorem joiningReplaces_f2 : (Rows.joiningReplacesRow.recurses == Tryz.pinned.checked.prog.recurses 5) = true := by kernel_rfl
theorem joiningReplaces_f3 : (Rows.joiningReplacesRow.named == Tryz.pinned.checked.prog.varsNamed 5) = true := by kernel_rfl
theorem joiningReplaces_facts : joinedFacts Tryz.pinned.checked.prog 5 Tryz.f5 (OpenSpec.ofChange Rows.joiningReplacesSpec).bare Rows.joiningReplacesRow = true := by
  unfold joinedFacts
  rw [prog_enters, prog_lifts, joiningReplaces_f0, joiningReplaces_f1, joiningReplaces_f2, joiningReplaces_f3]
  kernel_rfl
theorem joiningReplaces_goes : false = Rows.joiningReplacesRow.goesBy Tryz.pinned.checked.prog := by kernel_rfl
end Go.Proofs.YtjfhcmkcmdnhoaaGreatDoor
