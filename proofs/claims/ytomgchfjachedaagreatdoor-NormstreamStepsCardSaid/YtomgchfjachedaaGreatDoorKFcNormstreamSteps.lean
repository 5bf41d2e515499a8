/- What the claim of NormstreamSteps says of the program, checked: by itself, because its proof is large. -/
import Derived.Test.YtomgchfjachedaaGreatDoorKRowM
import Derived.Test.YtomgchfjachedaaGreatDoorKRowL
namespace Go.Proofs.YtomgchfjachedaaGreatDoor
open Go Go.RowKit
theorem normstreamSteps_f0 : (Rows.normstreamStepsRow.inPlace == Tryz.pinned.checked.prog.inPlace 10) = true := by kernel_rfl
theorem normstreamSteps_f1 : (Rows.normstreamStepsRow.unfollowed == Tryz.pinned.checked.prog.unfollowed 10) = true := by kernel_rfl
theorem normstreamSteps_f2 : (Rows.normstreamStepsRow.recurses == Tryz.pinned.checked.prog.recurses 10) = true := by kernel_rfl
theorem normstreamSteps_f3 : (Rows.normstreamStepsRow.named == Tryz.pinned.checked.prog.varsNamed 10) = true := by kernel_rfl
theorem normstreamSteps_facts : joinedFacts Tryz.pinned.checked.prog 10 Tryz.f10 (OpenSpec.ofChange Rows.normstreamStepsSpec).bare Rows.normstreamStepsRow = true := by
  unfold joinedFacts
  rw [prog_enters, prog_lifts, normstreamSteps_f0, normstreamSteps_f1, normstreamSteps_f2, normstreamSteps_f3]
  kernel_rfl
theorem normstreamSteps_goes : false = Rows.normstreamStepsRow.goesBy Tryz.pinned.checked.prog := by kernel_rfl
end Go.Proofs.YtomgchfjachedaaGreatDoor
