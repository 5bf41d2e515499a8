/- What the claim of NormstreamLimits says of the program, checked: by itself, because its proof is large. -/
import Derived.Test.YtomgchfjachedaaGreatDoorKRowM
import Derived.Test.YtomgchfjachedaaGreatDoorKRowL
namespace Go.Proofs.YtomgchfjachedaaGreatDoor
open Go Go.RowKit
theorem normstreamLimits_f0 : (Rows.normstreamLimitsRow.inPlace == Tryz.pinned.checked.prog.inPlace 9) = true := by kernel_rfl
theorem normstreamLimits_f1 : (Rows.normstreamLimitsRow.unfollowed == Tryz.pinned.checked.prog.unfollowed 9) = true := by kernel_rfl
theorem normstreamLimits_f2 : (Rows.normstreamLimitsRow.recurses == Tryz.pinned.checked.prog.recurses 9) = true := by kernel_rfl
theorem normstreamLimits_f3 : (Rows.normstreamLimitsRow.named == Tryz.pinned.checked.prog.varsNamed 9) = true := by kernel_rfl
theorem normstreamLimits_facts : joinedFacts Tryz.pinned.checked.prog 9 Tryz.f9 (OpenSpec.ofChange Rows.normstreamLimitsSpec).bare Rows.normstreamLimitsRow = true := by
  unfold joinedFacts
  rw [prog_enters, prog_lifts, normstreamLimits_f0, normstreamLimits_f1, normstreamLimits_f2, normstreamLimits_f3]
  kernel_rfl
theorem normstreamLimits_goes : false = Rows.normstreamLimitsRow.goesBy Tryz.pinned.checked.prog := by kernel_rfl
end Go.Proofs.YtomgchfjachedaaGreatDoor
