/- What the claim of IdentRanges says of the program, checked: by itself, because its proof is large. -/
import Derived.Test.YtmlcdohldkgcdaaGreatDoorKRowM
import Derived.Test.YtmlcdohldkgcdaaGreatDoorKRowL
namespace Go.Proofs.YtmlcdohldkgcdaaGreatDoor
open Go Go.RowKit
theorem identRanges_f0 : (Rows.identRangesRow.inPlace == Tryz.pinned.checked.prog.inPlace 7) = true := by kernel_rfl
theorem identRanges_f1 : (Rows.identRangesRow.unfollowed == Tryz.pinned.checked.prog.unfollowed 7) = true := by kernel_rfl
theorem identRanges_f2 : (Rows.identRangesRow.recurses == Tryz.pinned.checked.prog.recurses 7) = true := by kernel_rfl
theorem identRanges_f3 : (Rows.identRangesRow.named == Tryz.pinned.checked.prog.varsNamed 7) = true := by kernel_rfl
theorem identRanges_facts : joinedFacts Tryz.pinned.checked.prog 7 Tryz.f7 (OpenSpec.ofChange Rows.identRangesSpec).bare Rows.identRangesRow = true := by
  unfold joinedFacts
  rw [prog_enters, prog_lifts, identRanges_f0, identRanges_f1, identRanges_f2, identRanges_f3]
  kernel_rfl
theorem identRanges_goes : false = Rows.identRangesRow.goesBy Tryz.pinned.checked.prog := by kernel_rfl
end Go.Proofs.YtmlcdohldkgcdaaGreatDoor
