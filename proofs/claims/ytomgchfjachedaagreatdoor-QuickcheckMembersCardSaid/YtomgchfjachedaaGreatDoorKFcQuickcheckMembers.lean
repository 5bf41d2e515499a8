/- What the claim of QuickcheckMembers says of the program, checked: by itself, because its proof is large. -/
import Derived.Test.YtomgchfjachedaaGreatDoorKRowM
import Derived.Test.YtomgchfjachedaaGreatDoorKRowL
namespace Go.Proofs.YtomgchfjachedaaGreatDoor
open Go Go.RowKit
theorem quickcheckMembers_f0 : (Rows.quickcheckMembersRow.inPlace == Tryz.pinned.checked.prog.inPlace 4) = true := by kernel_rfl
theorem quickcheckMembers_f1 : (Rows.quickcheckMembersRow.unfollowed == Tryz.pinned.checked.prog.unfollowed 4) = true := by kernel_rfl
theorem quickcheckMembers_f2 : (Rows.quickcheckMembersRow.recurses == Tryz.pinned.checked.prog.recurses 4) = true := by kernel_rfl
theorem quickcheckMembers_f3 : (Rows.quickcheckMembersRow.named == Tryz.pinned.checked.prog.varsNamed 4) = true := by kernel_rfl
theorem quickcheckMembers_facts : joinedFacts Tryz.pinned.checked.prog 4 Tryz.f4 (OpenSpec.ofChange Rows.quickcheckMembersSpec).bare Rows.quickcheckMembersRow = true := by
  unfold joinedFacts
  rw [prog_enters, prog_lifts, quickcheckMembers_f0, quickcheckMembers_f1, quickcheckMembers_f2, quickcheckMembers_f3]
  kernel_rfl
theorem quickcheckMembers_goes : false = Rows.quickcheckMembersRow.goesBy Tryz.pinned.checked.prog := by kernel_rfl
end Go.Proofs.YtomgchfjachedaaGreatDoor
