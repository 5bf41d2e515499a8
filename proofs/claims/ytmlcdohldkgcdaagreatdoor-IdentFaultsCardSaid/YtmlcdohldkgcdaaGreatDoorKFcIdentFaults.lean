/- What the claim of IdentFaults says of the program, checked: by itself, because its proof is large. -/
import Derived.Test.YtmlcdohldkgcdaaGreatDoorKRowM
import Derived.Test.YtmlcdohldkgcdaaGreatDoorKRowL
namespace Go.Proofs.YtmlcdohldkgcdaaGreatDoor
open Go Go.RowKit
theorem identFaults_f0 : (Rows.identFaultsRow.inPlace == Tryz.pinned.checked.prog.inPlace 10) = true := by kernel_rfl
theorem identFaults_f1 : (Rows.identFaultsRow.unfollowed == Tryz.pinned.checked.prog.unfollowed 10) = true := by kernel_rfl
theorem identFaults_f2 : (Rows.identFaultsRow.recurses == Tryz.pinned.checked.prog.recurses 10) = true := by kernel_rfl
theorem identFaults_f3 : (Rows.identFaultsRow.named == Tryz.pinned.checked.prog.varsNamed 10) = true := by kernel_rfl
theorem identFaults_facts : joinedFacts Tryz.pinned.checked.prog 10 Tryz.f10 (OpenSpec.ofChange Rows.identFaultsSpec).bare Rows.identFaultsRow = true := by
  unfold joinedFacts
  rw [prog_enters, prog_lifts, identFaults_f0, identFaults_f1, identFaults_f2, identFaults_f3]
  kernel_rfl
theorem identFaults_goes : false = Rows.identFaultsRow.goesBy Tryz.pinned.checked.prog := by kernel_rfl
end Go.Proofs.YtmlcdohldkgcdaaGreatDoor
