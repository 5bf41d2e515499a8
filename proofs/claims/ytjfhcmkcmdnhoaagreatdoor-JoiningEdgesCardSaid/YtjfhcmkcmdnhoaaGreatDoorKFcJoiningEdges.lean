/- What the claim of JoiningEdges says of the program, checked: by itself, because its proof is large. -/
import Derived.Test.YtjfhcmkcmdnhoaaGreatDoorKRowM
import Derived.Test.YtjfhcmkcmdnhoaaGreatDoorKRowL
namespace Go.Proofs.YtjfhcmkcmdnhoaaGreatDoor
open Go Go.RowKit
theorem joiningEdges_f0 : (Rows.joiningEdgesRow.inPlace == Tryz.pinned.checked.prog.inPlace 3) = true := by kernel_rfl
theorem joiningEdges_f1 : (Rows.joiningEdgesRow.unfollowed == Tryz.pinned.checked.prog.unfollowed 3) = true := by kernel_rfl
theorem joiningEdges_f2 : (Rows.joiningEdgesRow.recurses == Tryz.pinned.checked.prog.recurses 3) = true := by kernel_rfl
theorem joiningEdges_f3 : (Rows.joiningEdgesRow.named == Tryz.pinned.checked.prog.varsNamed 3) = true := by kernel_rfl
theorem joiningEdges_facts : joinedFacts Tryz.pinned.checked.prog 3 Tryz.f3 (OpenSpec.ofChange Rows.joiningEdgesSpec).bare Rows.joiningEdgesRow = true := by
  unfold joinedFacts
  rw [prog_enters, prog_lifts, joiningEdges_f0, joiningEdges_f1, joiningEdges_f2, joiningEdges_f3]
  kernel_rfl
theorem joiningEdges_goes : false = Rows.joiningEdgesRow.goesBy Tryz.pinned.checked.prog := by kernel_rfl
end Go.Proofs.YtjfhcmkcmdnhoaaGreatDoor
