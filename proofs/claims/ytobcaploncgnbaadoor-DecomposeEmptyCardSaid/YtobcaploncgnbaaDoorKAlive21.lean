/- law21.alive. -/
import Derived.Test.YtobcaploncgnbaaDoorKExpC
import Derived.Test.YtobcaploncgnbaaDoorKRefL
namespace Go.Proofs.YtobcaploncgnbaaDoor
open Go Go.RowKit

def aliveM : List Mp := [⟨226, [97, 770], ⟨#[]⟩⟩, ⟨7845, [226, 769], ⟨#[]⟩⟩]
def aliveN : Nrm := ⟨[], aliveM, []⟩
theorem aliveN_check : decCheck aliveN = 0 := by decide +kernel
theorem aliveN_usable : usableN aliveN = aliveN := if_pos aliveN_check
theorem full_alone {l : List Mp} {cp : Bool} {F : Int → List Int} (h : FullEq l cp F) {c : Int} (ho : onceOf l c cp = none) : F c = [c] := by rw [h c, ho]
theorem full_to {l : List Mp} {cp : Bool} {F : Int → List Int} (h : FullEq l cp F) {c : Int} {to : List Int} (ho : onceOf l c cp = some to) : F c = to.flatMap F := by rw [h c, ho]
theorem aliveN_full (cp : Bool) : FullEq aliveM cp (fullOf (usableN aliveN).decomp cp) := by
  have := usableN_full aliveN cp
  rw [aliveN_usable] at this ⊢
  exact this
theorem alive_a : fullOf (usableN aliveN).decomp false 7845 = [97, 770, 769] := by
  have h := aliveN_full false
  rw [full_to h (c := 7845) (to := [226, 769]) (by decide +kernel)]
  simp only [List.flatMap_cons, List.flatMap_nil]
  rw [full_to h (c := 226) (to := [97, 770]) (by decide +kernel)]
  simp only [List.flatMap_cons, List.flatMap_nil]
  rw [full_alone h (c := 97) (by decide +kernel), full_alone h (c := 770) (by decide +kernel), full_alone h (c := 769) (by decide +kernel)]
  rfl
theorem alive_b : fullOf (usableN aliveN).decomp true 44033 = [4352, 4449, 4520] := by
  have h := aliveN_full true
  rw [full_to h (c := 44033) (to := [4352, 4449, 4520]) (by decide +kernel)]
  simp only [List.flatMap_cons, List.flatMap_nil]
  rw [full_alone h (c := 4352) (by decide +kernel), full_alone h (c := 4449) (by decide +kernel), full_alone h (c := 4520) (by decide +kernel)]
  rfl

theorem mps_two {w : World} {b b0 b1 : Nat} (h : w.heap[b]? = some (.cells #[.int .i64 226, .slice (some ⟨b0, 0, none⟩) 2 2, .string ⟨#[]⟩, .int .i64 7845, .slice (some ⟨b1, 0, none⟩) 2 2, .string ⟨#[]⟩] 57 (0, 0)))
    (h0 : Ints w (some ⟨b0, 0, none⟩) 2 [97, 770]) (h1 : Ints w (some ⟨b1, 0, none⟩) 2 [226, 769]) : Mps w (some ⟨b, 0, none⟩) 2 aliveM := by
  refine ⟨rfl, fun _ => ⟨b, 0, rfl, fun i m hm => ?_⟩⟩
  match i, hm with
  | 0, hm =>
    simp only [aliveM, List.getElem?_cons_zero, Option.some.injEq] at hm
    subst hm
    exact ⟨_, 2, 2, Nat.le_refl _, h0, cell_of_block h rfl, cell_of_block h rfl, cell_of_block h rfl⟩
  | 1, hm =>
    simp only [aliveM, List.getElem?_cons_succ, List.getElem?_cons_zero, Option.some.injEq] at hm
    subst hm
    exact ⟨_, 2, 2, Nat.le_refl _, h1, cell_of_block h rfl, cell_of_block h rfl, cell_of_block h rfl⟩
  | i + 2, hm => simp [aliveM] at hm

set_option maxRecDepth 100000 in
set_option maxHeartbeats 1000000 in
theorem alive21 (w : World) (hG : Glob w) : Calls Tryd.prog 12 #[] w (RetB w true) := by
  have HG := Lib.hid hG
  clear hG
  go_enter Tryd.func12, Tryd.ntmps12
  go_wp2_with fail
  obtain ⟨B, hB⟩ : ∃ B : Nat, B = w.heap.size := ⟨_, rfl⟩
  rw [← hB]
  have b0 : ((((w.alloc (Obj.cells #[Value.int IntKind.i64 97, Value.int IntKind.i64 770] 3)).alloc (Obj.cells #[Value.int IntKind.i64 226, Value.int IntKind.i64 769] 3)).alloc (Obj.cells #[Value.int IntKind.i64 226, Value.slice (some ⟨B, 0, none⟩) 2 2, Value.string ⟨#[]⟩, Value.int IntKind.i64 7845, Value.slice (some ⟨B + 1, 0, none⟩) 2 2, Value.string ⟨#[]⟩] 57)).alloc
      (Obj.cells #[Value.slice none 0 0, Value.slice (some ⟨B + 1 + 1, 0, none⟩) 2 2, Value.slice none 0 0] 28)).heap[B]? = some (Obj.cells #[Value.int IntKind.i64 97, Value.int IntKind.i64 770] 3 (0, 0)) := alloc_lift (alloc_lift (alloc_lift (alloc_at hB)))
  have b1 : ((((w.alloc (Obj.cells #[Value.int IntKind.i64 97, Value.int IntKind.i64 770] 3)).alloc (Obj.cells #[Value.int IntKind.i64 226, Value.int IntKind.i64 769] 3)).alloc (Obj.cells #[Value.int IntKind.i64 226, Value.slice (some ⟨B, 0, none⟩) 2 2, Value.string ⟨#[]⟩, Value.int IntKind.i64 7845, Value.slice (some ⟨B + 1, 0, none⟩) 2 2, Value.string ⟨#[]⟩] 57)).alloc
      (Obj.cells #[Value.slice none 0 0, Value.slice (some ⟨B + 1 + 1, 0, none⟩) 2 2, Value.slice none 0 0] 28)).heap[B + 1]? = some (Obj.cells #[Value.int IntKind.i64 226, Value.int IntKind.i64 769] 3 (0, 0)) := alloc_lift (alloc_lift (alloc_at (by simp [hB])))
  have b2 : ((((w.alloc (Obj.cells #[Value.int IntKind.i64 97, Value.int IntKind.i64 770] 3)).alloc (Obj.cells #[Value.int IntKind.i64 226, Value.int IntKind.i64 769] 3)).alloc (Obj.cells #[Value.int IntKind.i64 226, Value.slice (some ⟨B, 0, none⟩) 2 2, Value.string ⟨#[]⟩, Value.int IntKind.i64 7845, Value.slice (some ⟨B + 1, 0, none⟩) 2 2, Value.string ⟨#[]⟩] 57)).alloc
      (Obj.cells #[Value.slice none 0 0, Value.slice (some ⟨B + 1 + 1, 0, none⟩) 2 2, Value.slice none 0 0] 28)).heap[B + 1 + 1]? = some (Obj.cells #[Value.int IntKind.i64 226, Value.slice (some ⟨B, 0, none⟩) 2 2, Value.string ⟨#[]⟩, Value.int IntKind.i64 7845, Value.slice (some ⟨B + 1, 0, none⟩) 2 2, Value.string ⟨#[]⟩] 57 (0, 0)) := alloc_lift (alloc_at (by simp [hB]))
  have b3 : ((((w.alloc (Obj.cells #[Value.int IntKind.i64 97, Value.int IntKind.i64 770] 3)).alloc (Obj.cells #[Value.int IntKind.i64 226, Value.int IntKind.i64 769] 3)).alloc (Obj.cells #[Value.int IntKind.i64 226, Value.slice (some ⟨B, 0, none⟩) 2 2, Value.string ⟨#[]⟩, Value.int IntKind.i64 7845, Value.slice (some ⟨B + 1, 0, none⟩) 2 2, Value.string ⟨#[]⟩] 57)).alloc
      (Obj.cells #[Value.slice none 0 0, Value.slice (some ⟨B + 1 + 1, 0, none⟩) 2 2, Value.slice none 0 0] 28)).heap[B + 1 + 1 + 1]? = some (Obj.cells #[Value.slice none 0 0, Value.slice (some ⟨B + 1 + 1, 0, none⟩) 2 2, Value.slice none 0 0] 28 (0, 0)) := alloc_at (by simp [hB])
  have hk : Kept w ((((w.alloc (Obj.cells #[Value.int IntKind.i64 97, Value.int IntKind.i64 770] 3)).alloc (Obj.cells #[Value.int IntKind.i64 226, Value.int IntKind.i64 769] 3)).alloc (Obj.cells #[Value.int IntKind.i64 226, Value.slice (some ⟨B, 0, none⟩) 2 2, Value.string ⟨#[]⟩, Value.int IntKind.i64 7845, Value.slice (some ⟨B + 1, 0, none⟩) 2 2, Value.string ⟨#[]⟩] 57)).alloc
      (Obj.cells #[Value.slice none 0 0, Value.slice (some ⟨B + 1 + 1, 0, none⟩) 2 2, Value.slice none 0 0] 28)) := Kept.alloc (Kept.alloc (Kept.alloc (Kept.alloc (Kept.refl w) _) _) _) _
  generalize ((((w.alloc (Obj.cells #[Value.int IntKind.i64 97, Value.int IntKind.i64 770] 3)).alloc (Obj.cells #[Value.int IntKind.i64 226, Value.int IntKind.i64 769] 3)).alloc (Obj.cells #[Value.int IntKind.i64 226, Value.slice (some ⟨B, 0, none⟩) 2 2, Value.string ⟨#[]⟩, Value.int IntKind.i64 7845, Value.slice (some ⟨B + 1, 0, none⟩) 2 2, Value.string ⟨#[]⟩] 57)).alloc
      (Obj.cells #[Value.slice none 0 0, Value.slice (some ⟨B + 1 + 1, 0, none⟩) 2 2, Value.slice none 0 0] 28)) = W0 at *
  have HK := Lib.hid hk
  have HB3 := Lib.hid b3
  have hN : NormAt W0 ⟨none, 0, 0, some ⟨B + 1 + 1, 0, none⟩, 2, 2, none, 0, 0⟩ aliveN :=
    ⟨Nat.le_refl _, Nat.le_refl _, Nat.le_refl _, Nat.zero_le _, show 2 ≤ 1000 by decide, Nat.zero_le _, Sl.nil, mps_two b2 (Ints.new_ (xs := [97, 770]) b0 rfl) (Ints.new_ (xs := [226, 769]) b1 rfl), Sl.nil, fun m hm => by
      simp only [aliveN, aliveM, List.mem_cons, List.not_mem_nil, or_false] at hm
      rcases hm with rfl | rfl <;> simp⟩
  have HN := Lib.hid hN
  have HC := Lib.hid (decCheck_any ⟨none, 0, 0, some ⟨B + 1 + 1, 0, none⟩, 2, 2, none, 0, 0⟩ aliveN W0 hN (HG.out.kept hk))
  rw [aliveN_check] at HC
  clear b0 b1 b2 b3 hN hB hk
  obtain ⟨b2, hb2⟩ : ∃ b2 : Nat, b2 = B + 1 + 1 := ⟨_, rfl⟩
  obtain ⟨b3, hb3⟩ : ∃ b3 : Nat, b3 = B + 1 + 1 + 1 := ⟨_, rfl⟩
  rw [← hb3, ← hb2] at HB3 ⊢
  rw [← hb2] at HN HC
  clear hb2 hb3
  refine HC.out.mono ?_
  rintro e w1 ⟨rfl, hk1⟩
  have e3 := (hk1.block _ (block_lt HB3.out)).trans HB3.out
  have HE3 := Lib.hid e3
  have a0 := cell_of_block (i := 0) e3 rfl
  have a1 := cell_of_block (i := 1) e3 rfl
  have a2 := cell_of_block (i := 2) e3 rfl
  simp only [List.getElem_toArray, List.getElem_cons_zero, List.getElem_cons_succ] at a0 a1 a2
  have HCH := Lib.hid (char_any ⟨none, 0, 0, some ⟨b2, 0, none⟩, 2, 2, none, 0, 0⟩ aliveN 7845 false w1 (HN.out.kept hk1) (HG.out.kept (Kept.trans HK.out hk1)))
  rw [alive_a] at HCH
  clear e3
  go_wp2_with fail
  clear a0 a1 a2
  refine HCH.out.mono ?_
  rintro e w2 ⟨A2, n2, c2, rfl, hle2, hI2, hk2⟩
  have HI2 := Lib.hid hI2
  have hn2 : n2 = 3 := hI2.1
  subst hn2
  clear hI2
  have hka := Kept.alloc (Kept.refl w2) (Obj.cells #[Value.int IntKind.i64 97, Value.int IntKind.i64 770, Value.int IntKind.i64 769] 3)
  have HEQ := Lib.hid (r01Equal A2 (some ⟨w2.heap.size, 0, none⟩) 3 3 c2 3 [97, 770, 769] [97, 770, 769] (w2.alloc (Obj.cells #[Value.int IntKind.i64 97, Value.int IntKind.i64 770, Value.int IntKind.i64 769] 3)) (by omega) (by omega) (HI2.out.kept hka) (Ints.alloc_ (xs := [97, 770, 769]) rfl rfl))
  rw [show decide (([97, 770, 769] : List Int) = [97, 770, 769]) = true by decide] at HEQ
  have HKA := Lib.hid hka
  clear hka
  go_wp2_with fail
  refine HEQ.out.mono ?_
  rintro e w3 ⟨rfl, hk3⟩
  have hk13 : Kept w1 w3 := Kept.trans hk2 (Kept.trans HKA.out hk3)
  have e3 := (hk13.block _ (block_lt HE3.out)).trans HE3.out
  have a0 := cell_of_block (i := 0) e3 rfl
  have a1 := cell_of_block (i := 1) e3 rfl
  have a2 := cell_of_block (i := 2) e3 rfl
  simp only [List.getElem_toArray, List.getElem_cons_zero, List.getElem_cons_succ] at a0 a1 a2
  have HCH2 := Lib.hid (char_any ⟨none, 0, 0, some ⟨b2, 0, none⟩, 2, 2, none, 0, 0⟩ aliveN 44033 true w3 (HN.out.kept (Kept.trans hk1 hk13)) (HG.out.kept (Kept.trans HK.out (Kept.trans hk1 hk13))))
  rw [alive_b] at HCH2
  clear e3
  go_wp2_with fail
  clear a0 a1 a2
  refine HCH2.out.mono ?_
  rintro e w4 ⟨A4, n4, c4, rfl, hle4, hI4, hk4⟩
  have HI4 := Lib.hid hI4
  have hn4 : n4 = 3 := hI4.1
  subst hn4
  clear hI4
  have hkb := Kept.alloc (Kept.refl w4) (Obj.cells #[Value.int IntKind.i64 4352, Value.int IntKind.i64 4449, Value.int IntKind.i64 4520] 3)
  have HEQ2 := Lib.hid (r01Equal A4 (some ⟨w4.heap.size, 0, none⟩) 3 3 c4 3 [4352, 4449, 4520] [4352, 4449, 4520] (w4.alloc (Obj.cells #[Value.int IntKind.i64 4352, Value.int IntKind.i64 4449, Value.int IntKind.i64 4520] 3)) (by omega) (by omega) (HI4.out.kept hkb) (Ints.alloc_ (xs := [4352, 4449, 4520]) rfl rfl))
  rw [show decide (([4352, 4449, 4520] : List Int) = [4352, 4449, 4520]) = true by decide] at HEQ2
  have HKB := Lib.hid hkb
  clear hkb
  go_wp2_with fail
  refine HEQ2.out.mono ?_
  rintro e w5 ⟨rfl, hk5⟩
  go_wp2_with fail
  go_ret
  exact ⟨rfl, Kept.trans HK.out (Kept.trans hk1 (Kept.trans hk13 (Kept.trans hk4 (Kept.trans HKB.out hk5))))⟩
end Go.Proofs.YtobcaploncgnbaaDoor
