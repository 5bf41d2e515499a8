/- What the claim of NormstreamWaits says of the program, checked: by itself, because its proof is large. -/
import Derived.Test.YtomgchfjachedaaGreatDoorKRowM
import Derived.Test.YtomgchfjachedaaGreatDoorKRowL
namespace Go.Proofs.YtomgchfjachedaaGreatDoor
open Go Go.RowKit
theorem normstreamWaits_f0 : (Rows.normstreamWaitsRow.inPlace == Tryz.pinned.checked.prog.inPlace 8) = true := by kernel_rfl
theorem normstreamWaits_f1 : (Rows.normstreamWaitsRow.unfollowed == Tryz.pinned.checked.prog.unfollowed 8) = true := by kernel_rfl
theorem normstreamWaits_f2 : (Rows.normstreamWaitsRow.recurses == Tryz.pinned.checked.prog.recurses 8) = true := by kernel_rfl
theorem normstreamWaits_f3 : (Rows.normstreamWaitsRow.named == Tryz.pinned.checked.prog.varsNamed 8) = true := by kernel_rfl
theorem normstreamWaits_facts : joinedFacts Tryz.pinned.checked.prog 8 Tryz.f8 (OpenSpec.ofChange Rows.normstreamWaitsSpec).bare Rows.normstreamWaitsRow = true := by
  unfold joinedFacts
  rw [prog_enters, prog_lifts, normstreamWaits_f0, normstreamWaits_f1, normstreamWaits_f2, normstreamWaits_f3]
  kernel_rfl
theorem normstreamWaits_goes : false = Rows.normstreamWaitsRow.goesBy Tryz.pinned.checked.prog := by kernel_rfl
end Go.Proofs.YtomgchfjachedaaGreatDoor
