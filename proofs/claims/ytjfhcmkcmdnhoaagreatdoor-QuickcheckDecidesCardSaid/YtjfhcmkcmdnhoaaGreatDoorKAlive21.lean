/- law21.alive. -/
import Derived.Test.YtjfhcmkcmdnhoaaGreatDoorKExpC
import Derived.Test.YtjfhcmkcmdnhoaaGreatDoorKRfl
import Derived.Test.YtjfhcmkcmdnhoaaGreatDoorKRfj
namespace Go.Proofs.YtjfhcmkcmdnhoaaGreatDoor
open Go Go.RowKit

def aliveM : List Mp := [⟨226, [97, 770], ⟨#[]⟩⟩, ⟨7845, [226, 769], ⟨#[]⟩⟩]
def aliveN : Nrm := ⟨[], aliveM, []⟩
theorem aliveN_check : decCheck aliveN = 0 := by decide +kernel
theorem aliveN_usable : usableN aliveN = aliveN := if_pos aliveN_check
theorem full_alone {l : List Mp} {cp : Bool} {F : Int → List Int} (h : FullEq l cp F) {c : Int} (ho : onceOf l c cp = none) : F c = [c] := by rw [h c, ho]
theorem full_to {l : List Mp} {cp : Bool} {F : Int → List Int} (h : FullEq l cp F) {c : Int} {to : List Int} (ho : onceOf l c cp = some to) : F c = to.flatMap F := by rw [h c, ho]
theorem aliveN_full (cp : Bool) : FullEq aliveM cp (fullOf (usableN aliveN).decomp cp) := by
  have := usableN_full aliveN cp
  rw [aliveN_usable] at this ⊢
  exact this
theorem alive_a : fullOf (usableN aliveN).decomp false 7845 = [97, 770, 769] := by
  have h := aliveN_full false
  rw [full_to h (c := 7845) (to := [226, 769]) (by decide +kernel)]
  simp only [List.flatMap_cons, List.flatMap_nil]
  rw [full_to h (c := 226) (to := [97, 770]) (by decide +kernel)]
  simp only [List.flatMap_cons, List.flatMap_nil]
  rw [full_alone h (c := 97) (by decide +kernel), full_alone h (c := 770) (by decide +kernel), full_alone h (c := 769) (by decide +kernel)]
  rfl
theorem alive_b : fullOf (usableN aliveN).decomp true 44033 = [4352, 4449, 4520] := by
  have h := aliveN_full true
  rw [full_to h (c := 44033) (to := [4352, 4449, 4520]) (by decide +kernel)]
  simp only [List.flatMap_cons, List.flatMap_nil]
  rw [full_alone h (c := 4352) (by decide +kernel), full_alone h (c := 4449) (by decide +kernel), full_alone h (c := 4520) (by decide +kernel)]
  rfl

theorem mps_two {w : World} {b b0 b1 : Nat} (h : w.heap[b]? = some (.cells #[.int .i64 226, .slice (some ⟨b0, 0, none⟩) 2 2, .string ⟨#[]⟩, .int .i64 7845, .slice (some ⟨b1, 0, none⟩) 2 2, .string ⟨#[]⟩] 93 (0, 0)))
    (h0 : Ints w (some ⟨b0, 0, none⟩) 2 [97, 770]) (h1 : Ints w (some ⟨b1, 0, none⟩) 2 [226, 769]) : Mps w (some ⟨b, 0, none⟩) 2 aliveM := by
  refine ⟨rfl, fun _ => ⟨b, 0, rfl, fun i m hm => ?_⟩⟩
  match i, hm with
  | 0, hm =>
    simp only [aliveM, List.getElem?_cons_zero, Option.some.injEq] at hm
    subst hm
    exact ⟨_, 2, 2, Nat.le_refl _, h0, cell_of_block h rfl, cell_of_block h rfl, cell_of_block h rfl⟩
  | 1, hm =>
    simp only [aliveM, List.getElem?_cons_succ, List.getElem?_cons_zero, Option.some.injEq] at hm
    subst hm
    exact ⟨_, 2, 2, Nat.le_refl _, h1, cell_of_block h rfl, cell_of_block h rfl, cell_of_block h rfl⟩
  | i + 2, hm => simp [aliveM] at hm

end Go.Proofs.YtjfhcmkcmdnhoaaGreatDoor
