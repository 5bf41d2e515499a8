/- What the claim of JoiningRanges says of the program, checked: by itself, because its proof is large. -/
import Derived.Test.YtbhglkofaendjaaGreatDoorKRowM
import Derived.Test.YtbhglkofaendjaaGreatDoorKRowL
namespace Go.Proofs.YtbhglkofaendjaaGreatDoor
open Go Go.RowKit

theorem joiningRanges_f0 : (Rows.joiningRangesRow.inPlace == Tryz.pinned.checked.prog.inPlace 7) = true := by kernel_rfl
theorem joiningRanges_f1 : (Rows.joiningRangesRow.unfollowed == Tryz.pinned.checked.prog.unfollowed 7) = true := by kernel_rfl
theorem joiningRanges_f2 : (Rows.joiningRangesRow.recurses == Tryz.pinned.checked.prog.recurses 7) = true := by kernel_rfl
theorem joiningRanges_f3 : (Rows.joiningRangesRow.named == Tryz.pinned.checked.prog.varsNamed 7) = true := by kernel_rfl
theorem joiningRanges_facts : joinedFacts Tryz.pinned.checked.prog 7 Tryz.f7 (OpenSpec.ofChange Rows.joiningRangesSpec).bare Rows.joiningRangesRow = true := by
  unfold joinedFacts
  rw [prog_enters, prog_lifts, joiningRanges_f0, joiningRanges_f1, joiningRanges_f2, joiningRanges_f3]
  kernel_rfl
theorem joiningRanges_goes : false = Rows.joiningRangesRow.goesBy Tryz.pinned.checked.prog := by kernel_rfl
end Go.Proofs.YtbhglkofaendjaaGreatDoor
