/- What the claim of NormstreamWrites says of the program, checked: by itself, because its proof is large. -/
import Derived.Test.YtomgchfjachedaaGreatDoorKRowM
import Derived.Test.YtomgchfjachedaaGreatDoorKRowL
namespace Go.Proofs.YtomgchfjachedaaGreatDoor
open Go Go.RowKit
theorem normstreamWrites_f0 : (Rows.normstreamWritesRow.inPlace == Tryz.pinned.checked.prog.inPlace 6) = true := by kernel_rfl
theorem normstreamWrites_f1 : (Rows.normstreamWritesRow.unfollowed == Tryz.pinned.checked.prog.unfollowed 6) = true := by kernel_rfl
theorem normstreamWrites_f2 : (Rows.normstreamWritesRow.recurses == Tryz.pinned.checked.prog.recurses 6) = true := by kernel_rfl
theorem normstreamWrites_f3 : (Rows.normstreamWritesRow.named == Tryz.pinned.checked.prog.varsNamed 6) = true := by kernel_rfl
theorem normstreamWrites_facts : joinedFacts Tryz.pinned.checked.prog 6 Tryz.f6 (OpenSpec.ofChange Rows.normstreamWritesSpec).bare Rows.normstreamWritesRow = true := by
  unfold joinedFacts
  rw [prog_enters, prog_lifts, normstreamWrites_f0, normstreamWrites_f1, normstreamWrites_f2, normstreamWrites_f3]
  kernel_rfl
theorem normstreamWrites_goes : false = Rows.normstreamWritesRow.goesBy Tryz.pinned.checked.prog := by kernel_rfl
end Go.Proofs.YtomgchfjachedaaGreatDoor
