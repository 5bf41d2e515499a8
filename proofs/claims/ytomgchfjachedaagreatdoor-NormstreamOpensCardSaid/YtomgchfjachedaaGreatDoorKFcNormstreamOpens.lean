/- What the claim of NormstreamOpens says of the program, checked: by itself, because its proof is large. -/
import Derived.Test.YtomgchfjachedaaGreatDoorKRowM
import Derived.Test.YtomgchfjachedaaGreatDoorKRowL
namespace Go.Proofs.YtomgchfjachedaaGreatDoor
open Go Go.RowKit
theorem normstreamOpens_f0 : (Rows.normstreamOpensRow.inPlace == Tryz.pinned.checked.prog.inPlace 5) = true := by kernel_rfl
theorem normstreamOpens_f1 : (Rows.normstreamOpensRow.unfollowed == Tryz.pinned.checked.prog.unfollowed 5) = true := by kernel_rfl
theorem normstreamOpens_f2 : (Rows.normstreamOpensRow.recurses == Tryz.pinned.checked.prog.recurses 5) = true := by kernel_rfl
theorem normstreamOpens_f3 : (Rows.normstreamOpensRow.named == Tryz.pinned.checked.prog.varsNamed 5) = true := by kernel_rfl
theorem normstreamOpens_facts : joinedFacts Tryz.pinned.checked.prog 5 Tryz.f5 (OpenSpec.ofChange Rows.normstreamOpensSpec).bare Rows.normstreamOpensRow = true := by
  unfold joinedFacts
  rw [prog_enters, prog_lifts, normstreamOpens_f0, normstreamOpens_f1, normstreamOpens_f2, normstreamOpens_f3]
  kernel_rfl
theorem normstreamOpens_goes : false = Rows.normstreamOpensRow.goesBy Tryz.pinned.checked.prog := by kernel_rfl
end Go.Proofs.YtomgchfjachedaaGreatDoor
