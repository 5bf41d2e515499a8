/- What the claim of NormstreamStable says of the program, checked: by itself, because its proof is large. -/
import Derived.Test.YtomgchfjachedaaGreatDoorKRowM
import Derived.Test.YtomgchfjachedaaGreatDoorKRowL
namespace Go.Proofs.YtomgchfjachedaaGreatDoor
open Go Go.RowKit
theorem normstreamStable_f0 : (Rows.normstreamStableRow.inPlace == Tryz.pinned.checked.prog.inPlace 11) = true := by kernel_rfl
theorem normstreamStable_f1 : (Rows.normstreamStableRow.unfollowed == Tryz.pinned.checked.prog.unfollowed 11) = true := by kernel_rfl
theorem normstreamStable_f2 : (Rows.normstreamStableRow.recurses == Tryz.pinned.checked.prog.recurses 11) = true := by kernel_rfl
theorem normstreamStable_f3 : (Rows.normstreamStableRow.named == Tryz.pinned.checked.prog.varsNamed 11) = true := by kernel_rfl
theorem normstreamStable_facts : joinedFacts Tryz.pinned.checked.prog 11 Tryz.f11 (OpenSpec.ofChange Rows.normstreamStableSpec).bare Rows.normstreamStableRow = true := by
  unfold joinedFacts
  rw [prog_enters, prog_lifts, normstreamStable_f0, normstreamStable_f1, normstreamStable_f2, normstreamStable_f3]
  kernel_rfl
theorem normstreamStable_goes : false = Rows.normstreamStableRow.goesBy Tryz.pinned.checked.prog := by kernel_rfl
end Go.Proofs.YtomgchfjachedaaGreatDoor
