/- What the claim of TopSeams says of the program, checked: by itself, because its proof is large. -/
import Derived.Test.YtckgmkjoblneeaaGreatDoorKRowM
import Derived.Test.YtckgmkjoblneeaaGreatDoorKRowL
namespace Go.Proofs.YtckgmkjoblneeaaGreatDoor
open Go Go.RowKit
theorem topSeams_f0 : (Rows.topSeamsRow.inPlace == Tryz.pinned.checked.prog.inPlace 3) = true := by kernel_rfl
theorem topSeams_f1 : (Rows.topSeamsRow.unfollowed == Tryz.pinned.checked.prog.unfollowed 3) = true := by kernel_rfl
theorem topSeams_f2 : (Rows.topSeamsRow.recurses == Tryz.pinned.checked.prog.recurses 3) = true := by kernel_rfl
theorem topSeams_f3 : (Rows.topSeamsRow.named == Tryz.pinned.checked.prog.varsNamed 3) = true := by kernel_rfl
theorem topSeams_facts : joinedFacts Tryz.pinned.checked.prog 3 Tryz.f3 (OpenSpec.ofChange Rows.topSeamsSpec).bare Rows.topSeamsRow = true := by
  unfold joinedFacts
  rw [prog_enters, prog_lifts, topSeams_f0, topSeams_f1, topSeams_f2, topSeams_f3]
  kernel_rfl
theorem topSeams_goes : false = Rows.topSeamsRow.goesBy Tryz.pinned.checked.prog := by kernel_rfl
end Go.Proofs.YtckgmkjoblneeaaGreatDoor
