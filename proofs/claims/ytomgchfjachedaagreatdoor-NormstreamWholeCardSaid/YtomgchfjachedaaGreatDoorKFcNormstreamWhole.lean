/- What the claim of NormstreamWhole says of the program, checked: by itself, because its proof is large. -/
import Derived.Test.YtomgchfjachedaaGreatDoorKRowM
import Derived.Test.YtomgchfjachedaaGreatDoorKRowL
namespace Go.Proofs.YtomgchfjachedaaGreatDoor
open Go Go.RowKit
theorem normstreamWhole_f0 : (Rows.normstreamWholeRow.inPlace == Tryz.pinned.checked.prog.inPlace 7) = true := by kernel_rfl
theorem normstreamWhole_f1 : (Rows.normstreamWholeRow.unfollowed == Tryz.pinned.checked.prog.unfollowed 7) = true := by kernel_rfl
theorem normstreamWhole_f2 : (Rows.normstreamWholeRow.recurses == Tryz.pinned.checked.prog.recurses 7) = true := by kernel_rfl
theorem normstreamWhole_f3 : (Rows.normstreamWholeRow.named == Tryz.pinned.checked.prog.varsNamed 7) = true := by kernel_rfl
theorem normstreamWhole_facts : joinedFacts Tryz.pinned.checked.prog 7 Tryz.f7 (OpenSpec.ofChange Rows.normstreamWholeSpec).bare Rows.normstreamWholeRow = true := by
  unfold joinedFacts
  rw [prog_enters, prog_lifts, normstreamWhole_f0, normstreamWhole_f1, normstreamWhole_f2, normstreamWhole_f3]
  kernel_rfl
theorem normstreamWhole_goes : false = Rows.normstreamWholeRow.goesBy Tryz.pinned.checked.prog := by kernel_rfl
end Go.Proofs.YtomgchfjachedaaGreatDoor
