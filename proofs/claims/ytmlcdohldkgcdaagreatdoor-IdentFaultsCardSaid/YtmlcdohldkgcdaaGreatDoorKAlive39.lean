/- law39.few, sample, alive. -/
import Derived.Test.YtmlcdohldkgcdaaGreatDoorKSq
import Derived.Test.YtmlcdohldkgcdaaGreatDoorKCasS
import Derived.Test.YtmlcdohldkgcdaaGreatDoorKIdF
import Derived.Test.YtmlcdohldkgcdaaGreatDoorKIdC
import Derived.Test.YtmlcdohldkgcdaaGreatDoorKFew
namespace Go.Proofs.YtmlcdohldkgcdaaGreatDoor
open Go Go.RowKit
def sampR : IdR := ⟨[⟨97, 122⟩], [], [⟨45, 45⟩]⟩
theorem sampR_small : smallI sampR = true := by decide
theorem rng_one {w : World} {b : Nat} {lo hi : Int} (h : w.heap[b]? = some (.cells #[.int .i64 lo, .int .i64 hi] 48 (0, 0))) : Rngs w (some ⟨b, 0, none⟩) 1 [⟨lo, hi⟩] := by
  refine ⟨rfl, fun _ => ⟨_, 0, rfl, fun i x hx j u hu => ?_⟩⟩
  have hi0 : i = 0 := by have := lt_of_getElem?_some hx; simpa using this
  subst hi0
  simp at hx
  subst hx
  match j, hu with
  | 0, hu => simp [encR] at hu; subst hu; exact cell_of_block (i := 0) h rfl
  | 1, hu => simp [encR] at hu; subst hu; exact cell_of_block (i := 1) h rfl
  | j + 2, hu => simp [encR] at hu
theorem rng_two {w : World} {b : Nat} {a0 a1 b0 b1 : Int} (h : w.heap[b]? = some (.cells #[.int .i64 a0, .int .i64 a1, .int .i64 b0, .int .i64 b1] 48 (0, 0))) : Rngs w (some ⟨b, 0, none⟩) 2 [⟨a0, a1⟩, ⟨b0, b1⟩] := by
  refine ⟨rfl, fun _ => ⟨_, 0, rfl, fun i x hx j u hu => ?_⟩⟩
  match i, hx with
  | 0, hx =>
    simp at hx
    subst hx
    match j, hu with
    | 0, hu => simp [encR] at hu; subst hu; exact cell_of_block (i := 0) h rfl
    | 1, hu => simp [encR] at hu; subst hu; exact cell_of_block (i := 1) h rfl
    | j + 2, hu => simp [encR] at hu
  | 1, hx =>
    simp at hx
    subst hx
    match j, hu with
    | 0, hu => simp [encR] at hu; subst hu; exact cell_of_block (i := 2) h rfl
    | 1, hu => simp [encR] at hu; subst hu; exact cell_of_block (i := 3) h rfl
    | j + 2, hu => simp [encR] at hu
  | i + 2, hx => simp at hx
set_option maxRecDepth 100000 in
set_option maxHeartbeats 4000000 in
theorem sample39 (w : World) : Calls Tryz.prog 51 #[] w (fun e w' => ∃ i, e = .returned (Ids.val i) ∧ IdIn w' i sampR ∧ Kept w w') := by
  go_enter Tryz.func51, Tryz.ntmps51
  go_wp2_with fail
  obtain ⟨B, hB⟩ : ∃ B : Nat, B = w.heap.size := ⟨_, rfl⟩
  rw [← hB]
  have b0 : (((w.alloc (Obj.cells #[Value.slice (some ⟨B + 1, 0, none⟩) 1 1, Value.slice none 0 0, Value.slice (some ⟨B + 1 + 1, 0, none⟩) 1 1] 54)).alloc (Obj.cells #[Value.int IntKind.i64 97, Value.int IntKind.i64 122] 48)).alloc (Obj.cells #[Value.int IntKind.i64 45, Value.int IntKind.i64 45] 48)).heap[B]? = some (Obj.cells #[Value.slice (some ⟨B + 1, 0, none⟩) 1 1, Value.slice none 0 0, Value.slice (some ⟨B + 1 + 1, 0, none⟩) 1 1] 54 (0, 0)) := alloc_lift (alloc_lift (alloc_at hB))
  have b1 : (((w.alloc (Obj.cells #[Value.slice (some ⟨B + 1, 0, none⟩) 1 1, Value.slice none 0 0, Value.slice (some ⟨B + 1 + 1, 0, none⟩) 1 1] 54)).alloc (Obj.cells #[Value.int IntKind.i64 97, Value.int IntKind.i64 122] 48)).alloc (Obj.cells #[Value.int IntKind.i64 45, Value.int IntKind.i64 45] 48)).heap[B + 1]? = some (Obj.cells #[Value.int IntKind.i64 97, Value.int IntKind.i64 122] 48 (0, 0)) := alloc_lift (alloc_at (by simp [hB]))
  have b2 : (((w.alloc (Obj.cells #[Value.slice (some ⟨B + 1, 0, none⟩) 1 1, Value.slice none 0 0, Value.slice (some ⟨B + 1 + 1, 0, none⟩) 1 1] 54)).alloc (Obj.cells #[Value.int IntKind.i64 97, Value.int IntKind.i64 122] 48)).alloc (Obj.cells #[Value.int IntKind.i64 45, Value.int IntKind.i64 45] 48)).heap[B + 1 + 1]? = some (Obj.cells #[Value.int IntKind.i64 45, Value.int IntKind.i64 45] 48 (0, 0)) := alloc_at (by simp [hB])
  have hk : Kept w (((w.alloc (Obj.cells #[Value.slice (some ⟨B + 1, 0, none⟩) 1 1, Value.slice none 0 0, Value.slice (some ⟨B + 1 + 1, 0, none⟩) 1 1] 54)).alloc (Obj.cells #[Value.int IntKind.i64 97, Value.int IntKind.i64 122] 48)).alloc (Obj.cells #[Value.int IntKind.i64 45, Value.int IntKind.i64 45] 48)) := Kept.alloc (Kept.alloc (Kept.alloc (Kept.refl w) _) _) _
  generalize (((w.alloc (Obj.cells #[Value.slice (some ⟨B + 1, 0, none⟩) 1 1, Value.slice none 0 0, Value.slice (some ⟨B + 1 + 1, 0, none⟩) 1 1] 54)).alloc (Obj.cells #[Value.int IntKind.i64 97, Value.int IntKind.i64 122] 48)).alloc (Obj.cells #[Value.int IntKind.i64 45, Value.int IntKind.i64 45] 48)) = W0 at *
  have g0 := cell_of_block (i := 0) b0 rfl
  have g1 := cell_of_block (i := 1) b0 rfl
  have g2 := cell_of_block (i := 2) b0 rfl
  simp only [s4_, s5_, s6_] at g0 g1 g2
  have hN : IdIn W0 ⟨some ⟨B + 1, 0, none⟩, 1, 1, none, 0, 0, some ⟨B + 1 + 1, 0, none⟩, 1, 1⟩ sampR := ⟨Nat.le_refl _, Nat.le_refl _, Nat.le_refl _, (show (1 : Nat) ≤ 9223372036854775807 by decide), (show (0 : Nat) ≤ 9223372036854775807 by decide), (show (1 : Nat) ≤ 9223372036854775807 by decide), rng_one b1, Sl.nil, rng_one b2⟩
  exact bodyPost_ret (v := Ids.val ⟨some ⟨B + 1, 0, none⟩, 1, 1, none, 0, 0, some ⟨B + 1 + 1, 0, none⟩, 1, 1⟩) (by simp [results, Tryz.results51, go_sem, g0, g1, g2, Ids.val]) rfl ⟨_, rfl, hN, hk⟩
theorem al_1 : splitL sampR.b sampR.p sampR.c [97, 45, 45, 98, 45] = [⟨0, 1⟩, ⟨3, 4⟩] := by decide +kernel
theorem al_2 : idScan sampR.b sampR.p sampR.c [97, 45, 45, 98] = (1, 2) := by decide +kernel
theorem al_3 : idScan sampR.b sampR.p sampR.c [97, 45, 98] = (3, 3) := by decide +kernel
theorem al_4 : idValid sampR.b sampR.p sampR.c [97, 45, 98] = true := by decide +kernel
theorem al_5 : idValid sampR.b sampR.p sampR.c [97, 45] = false := by decide +kernel
theorem al_k4 : ∀ x ∈ ([97, 45, 45, 98] : List Int), kind x = 0 := by decide
theorem al_k3 : ∀ x ∈ ([97, 45, 98] : List Int), kind x = 0 := by decide
theorem al_r : decide (([⟨0, 1⟩, ⟨3, 4⟩] : List Rng) = [⟨0, 1⟩, ⟨3, 4⟩]) = true := decide_eq_true rfl
theorem al_q1 (w : World) : (binOp .eql 67 (.agg #[.int .i64 7, .int .i64 2]) (.agg #[.int .i64 7, .int .i64 2])).run Tryz.prog w = .ok (.bool true) w := by kernel_rfl
theorem al_q2 (w : World) : (binOp .eql 67 (.agg #[.int .i64 0, .int .i64 0]) (.agg #[.int .i64 0, .int .i64 0])).run Tryz.prog w = .ok (.bool true) w := by kernel_rfl
theorem prep_a1 {w w' : World} {e : Ending} (h : RetPrep w (1, 2) [97, 45, 45, 98] e w') : ∃ Q k c, e = .returned (.tuple #[.slice Q k c, .agg #[.int .i64 7, .int .i64 2]]) ∧ Kept w w' := by
  obtain ⟨Q, k, c, he, _, _, hk⟩ := h
  exact ⟨Q, k, c, by simpa using he, hk⟩
theorem prep_a2 {w w' : World} {e : Ending} (h : RetPrep w (3, 3) [97, 45, 98] e w') : ∃ Q c, e = .returned (.tuple #[.slice Q 3 c, .agg #[.int .i64 0, .int .i64 0]]) ∧ 3 ≤ c ∧ Ints w' Q 3 [97, 45, 98] ∧ Kept w w' := by
  obtain ⟨Q, k, c, he, hle, hI, hk⟩ := h
  have hI' : Ints w' Q k [97, 45, 98] := by simpa using hI
  obtain rfl : k = 3 := hI'.1
  exact ⟨Q, c, by simpa using he, hle, hI', hk⟩
set_option maxRecDepth 100000 in
set_option maxHeartbeats 4000000 in
theorem alive39 (w : World) (hG : Glob w) : Calls Tryz.prog 24 #[] w (RetB w true) := by
  have HG := Lib.hid hG
  have hq1 := al_q1
  have hq2 := al_q2
  clear hG
  go_enter Tryz.func24, Tryz.ntmps24
  go_wp2_with fail
  refine (sample39 _).mono ?_
  rintro e v0 ⟨i0, rfl, hI, k_⟩
  have HI := Lib.hid hI
  clear hI
  have K := Lib.hid k_
  clear k_
  unfold Ids.val
  have HC := Lib.hid (isplit_any i0 sampR (some ⟨v0.heap.size, 0, none⟩) 5 5 [97, 45, 45, 98, 45] (v0.alloc (Obj.cells #[Value.int IntKind.i64 97, Value.int IntKind.i64 45, Value.int IntKind.i64 45, Value.int IntKind.i64 98, Value.int IntKind.i64 45] 3)) (HI.out.kept (Kept.alloc (Kept.refl v0) (Obj.cells #[Value.int IntKind.i64 97, Value.int IntKind.i64 45, Value.int IntKind.i64 45, Value.int IntKind.i64 98, Value.int IntKind.i64 45] 3))) sampR_small (by omega) (Nat.le_refl _) (Ints.alloc_ (xs := [97, 45, 45, 98, 45]) rfl rfl))
  rw [al_1] at HC
  unfold Ids.val at HC
  go_wp2_with fail
  refine HC.out.mono ?_
  rintro e v1 ⟨AL, nL, cL, rfl, leL, iL, k_⟩
  obtain rfl : nL = 2 := iL.1
  have IL := Lib.hid iL
  clear iL HC HI
  have kk := Kept.trans (Kept.alloc (Kept.refl v0) (Obj.cells #[Value.int IntKind.i64 97, Value.int IntKind.i64 45, Value.int IntKind.i64 45, Value.int IntKind.i64 98, Value.int IntKind.i64 45] 3)) k_
  have K := Lib.hid (Kept.trans K.out kk)
  clear kk
  clear k_
  go_wp2_with fail
  refine (sample39 _).mono ?_
  rintro e v2 ⟨i2, rfl, hI, k_⟩
  have HI := Lib.hid hI
  clear hI
  have kk := k_
  have K := Lib.hid (Kept.trans K.out kk)
  have IL := Lib.hid (IL.out.kept kk)
  clear kk
  clear k_
  unfold Ids.val
  have HP := Lib.hid (fun w' (hk : Kept (v2.alloc (Obj.cells #[Value.int IntKind.i64 97, Value.int IntKind.i64 45, Value.int IntKind.i64 45, Value.int IntKind.i64 98] 3)) w') => prep_plain emptyS emptyN (some ⟨v2.heap.size, 0, none⟩) 4 4 [97, 45, 45, 98] w' (emptyS_at _) (HG.out.kept (Kept.trans K.out (Kept.trans (Kept.alloc (Kept.refl v2) (Obj.cells #[Value.int IntKind.i64 97, Value.int IntKind.i64 45, Value.int IntKind.i64 45, Value.int IntKind.i64 98] 3)) hk))) (by omega) ((Ints.alloc_ (xs := [97, 45, 45, 98]) rfl rfl : Ints (v2.alloc (Obj.cells #[Value.int IntKind.i64 97, Value.int IntKind.i64 45, Value.int IntKind.i64 45, Value.int IntKind.i64 98] 3)) (some ⟨v2.heap.size, 0, none⟩) 4 [97, 45, 45, 98]).kept hk))
  rw [empty_form 1 al_k4] at HP
  have HC := Lib.hid (prepare_of false emptyS i2 sampR (some ⟨v2.heap.size, 0, none⟩) 4 4 [97, 45, 45, 98] (v2.alloc (Obj.cells #[Value.int IntKind.i64 97, Value.int IntKind.i64 45, Value.int IntKind.i64 45, Value.int IntKind.i64 98] 3)) (HI.out.kept (Kept.alloc (Kept.refl v2) (Obj.cells #[Value.int IntKind.i64 97, Value.int IntKind.i64 45, Value.int IntKind.i64 45, Value.int IntKind.i64 98] 3))) sampR_small (by decide) HP)
  rw [al_2] at HC
  unfold Ids.val Sls.val emptyS at HC
  dsimp only at HC
  clear HP
  go_wp2_with fail
  refine HC.out.mono ?_
  clear HC HI
  rintro e v3 h_
  obtain ⟨Q3, m3, c3, rfl, k_⟩ := prep_a1 h_
  clear h_
  have kk := Kept.trans (Kept.alloc (Kept.refl v2) (Obj.cells #[Value.int IntKind.i64 97, Value.int IntKind.i64 45, Value.int IntKind.i64 45, Value.int IntKind.i64 98] 3)) k_
  have K := Lib.hid (Kept.trans K.out kk)
  have IL := Lib.hid (IL.out.kept kk)
  clear kk
  clear k_
  have HF1 := Lib.hid (heap_alloc_new v3 (Obj.cells #[Value.int IntKind.i64 7, Value.int IntKind.i64 2] 67))
  have kk := Kept.alloc (Kept.refl v3) (Obj.cells #[Value.int IntKind.i64 7, Value.int IntKind.i64 2] 67)
  have K := Lib.hid (Kept.trans K.out kk)
  have IL := Lib.hid (IL.out.kept kk)
  clear kk
  go_wp2_with fail
  refine (sample39 _).mono ?_
  rintro e v4 ⟨i4, rfl, hI, k_⟩
  have HI := Lib.hid hI
  clear hI
  have kk := k_
  have K := Lib.hid (Kept.trans K.out kk)
  have IL := Lib.hid (IL.out.kept kk)
  have HF1 := Lib.hid ((kk.block _ (block_lt HF1.out)).trans HF1.out)
  clear kk
  clear k_
  unfold Ids.val
  have HP := Lib.hid (fun w' (hk : Kept (v4.alloc (Obj.cells #[Value.int IntKind.i64 97, Value.int IntKind.i64 45, Value.int IntKind.i64 98] 3)) w') => prep_fold (some ⟨v4.heap.size, 0, none⟩) 3 3 [97, 45, 98] w' (HG.out.kept (Kept.trans K.out (Kept.trans (Kept.alloc (Kept.refl v4) (Obj.cells #[Value.int IntKind.i64 97, Value.int IntKind.i64 45, Value.int IntKind.i64 98] 3)) hk))) (by omega) ((Ints.alloc_ (xs := [97, 45, 98]) rfl rfl : Ints (v4.alloc (Obj.cells #[Value.int IntKind.i64 97, Value.int IntKind.i64 45, Value.int IntKind.i64 98] 3)) (some ⟨v4.heap.size, 0, none⟩) 3 [97, 45, 98]).kept hk) al_k3)
  have HC := Lib.hid (prepare_of true emptyS i4 sampR (some ⟨v4.heap.size, 0, none⟩) 3 3 [97, 45, 98] (v4.alloc (Obj.cells #[Value.int IntKind.i64 97, Value.int IntKind.i64 45, Value.int IntKind.i64 98] 3)) (HI.out.kept (Kept.alloc (Kept.refl v4) (Obj.cells #[Value.int IntKind.i64 97, Value.int IntKind.i64 45, Value.int IntKind.i64 98] 3))) sampR_small (by decide) HP)
  rw [al_3] at HC
  unfold Ids.val Sls.val emptyS at HC
  dsimp only at HC
  clear HP
  go_wp2_with fail
  refine HC.out.mono ?_
  clear HC HI
  rintro e v5 h_
  obtain ⟨Q5, c5, rfl, le5, i5, k_⟩ := prep_a2 h_
  have IT := Lib.hid i5
  clear h_ i5
  have kk := Kept.trans (Kept.alloc (Kept.refl v4) (Obj.cells #[Value.int IntKind.i64 97, Value.int IntKind.i64 45, Value.int IntKind.i64 98] 3)) k_
  have K := Lib.hid (Kept.trans K.out kk)
  have IL := Lib.hid (IL.out.kept kk)
  have HF1 := Lib.hid ((kk.block _ (block_lt HF1.out)).trans HF1.out)
  clear kk
  clear k_
  have HF2 := Lib.hid (heap_alloc_new v5 (Obj.cells #[Value.int IntKind.i64 0, Value.int IntKind.i64 0] 67))
  have kk := Kept.alloc (Kept.refl v5) (Obj.cells #[Value.int IntKind.i64 0, Value.int IntKind.i64 0] 67)
  have K := Lib.hid (Kept.trans K.out kk)
  have IL := Lib.hid (IL.out.kept kk)
  have HF1 := Lib.hid ((kk.block _ (block_lt HF1.out)).trans HF1.out)
  have IT := Lib.hid (IT.out.kept kk)
  clear kk
  go_wp2_with fail
  refine (sample39 _).mono ?_
  rintro e v6 ⟨i6, rfl, hI, k_⟩
  have HI := Lib.hid hI
  clear hI
  have kk := k_
  have K := Lib.hid (Kept.trans K.out kk)
  have IL := Lib.hid (IL.out.kept kk)
  have HF1 := Lib.hid ((kk.block _ (block_lt HF1.out)).trans HF1.out)
  have IT := Lib.hid (IT.out.kept kk)
  have HF2 := Lib.hid ((kk.block _ (block_lt HF2.out)).trans HF2.out)
  clear kk
  clear k_
  unfold Ids.val
  have HC := Lib.hid (idvalid_any i6 sampR (some ⟨v6.heap.size, 0, none⟩) 3 3 [97, 45, 98] (v6.alloc (Obj.cells #[Value.int IntKind.i64 97, Value.int IntKind.i64 45, Value.int IntKind.i64 98] 3)) (HI.out.kept (Kept.alloc (Kept.refl v6) (Obj.cells #[Value.int IntKind.i64 97, Value.int IntKind.i64 45, Value.int IntKind.i64 98] 3))) sampR_small (by omega) (Ints.alloc_ (xs := [97, 45, 98]) rfl rfl))
  rw [al_4] at HC
  unfold Ids.val at HC
  go_wp2_with fail
  refine HC.out.mono ?_
  clear HC HI
  rintro e v7 ⟨rfl, k_⟩
  have kk := Kept.trans (Kept.alloc (Kept.refl v6) (Obj.cells #[Value.int IntKind.i64 97, Value.int IntKind.i64 45, Value.int IntKind.i64 98] 3)) k_
  have K := Lib.hid (Kept.trans K.out kk)
  have IL := Lib.hid (IL.out.kept kk)
  have HF1 := Lib.hid ((kk.block _ (block_lt HF1.out)).trans HF1.out)
  have IT := Lib.hid (IT.out.kept kk)
  have HF2 := Lib.hid ((kk.block _ (block_lt HF2.out)).trans HF2.out)
  clear kk
  clear k_
  go_wp2_with fail
  refine (sample39 _).mono ?_
  rintro e v8 ⟨i8, rfl, hI, k_⟩
  have HI := Lib.hid hI
  clear hI
  have kk := k_
  have K := Lib.hid (Kept.trans K.out kk)
  have IL := Lib.hid (IL.out.kept kk)
  have HF1 := Lib.hid ((kk.block _ (block_lt HF1.out)).trans HF1.out)
  have IT := Lib.hid (IT.out.kept kk)
  have HF2 := Lib.hid ((kk.block _ (block_lt HF2.out)).trans HF2.out)
  clear kk
  clear k_
  unfold Ids.val
  have HC := Lib.hid (idvalid_any i8 sampR (some ⟨v8.heap.size, 0, none⟩) 2 2 [97, 45] (v8.alloc (Obj.cells #[Value.int IntKind.i64 97, Value.int IntKind.i64 45] 3)) (HI.out.kept (Kept.alloc (Kept.refl v8) (Obj.cells #[Value.int IntKind.i64 97, Value.int IntKind.i64 45] 3))) sampR_small (by omega) (Ints.alloc_ (xs := [97, 45]) rfl rfl))
  rw [al_5] at HC
  unfold Ids.val at HC
  go_wp2_with fail
  refine HC.out.mono ?_
  clear HC HI
  rintro e v9 ⟨rfl, k_⟩
  have kk := Kept.trans (Kept.alloc (Kept.refl v8) (Obj.cells #[Value.int IntKind.i64 97, Value.int IntKind.i64 45] 3)) k_
  have K := Lib.hid (Kept.trans K.out kk)
  have IL := Lib.hid (IL.out.kept kk)
  have HF1 := Lib.hid ((kk.block _ (block_lt HF1.out)).trans HF1.out)
  have IT := Lib.hid (IT.out.kept kk)
  have HF2 := Lib.hid ((kk.block _ (block_lt HF2.out)).trans HF2.out)
  clear kk
  clear k_
  have HC := Lib.hid (sameRanges AL (some ⟨v9.heap.size, 0, none⟩) 2 2 cL 2 [⟨0, 1⟩, ⟨3, 4⟩] [⟨0, 1⟩, ⟨3, 4⟩] (v9.alloc (Obj.cells #[Value.int IntKind.i64 0, Value.int IntKind.i64 1, Value.int IntKind.i64 3, Value.int IntKind.i64 4] 48)) (by omega) (by omega) (IL.out.kept (Kept.alloc (Kept.refl v9) (Obj.cells #[Value.int IntKind.i64 0, Value.int IntKind.i64 1, Value.int IntKind.i64 3, Value.int IntKind.i64 4] 48))) (rng_two (heap_alloc_new v9 (Obj.cells #[Value.int IntKind.i64 0, Value.int IntKind.i64 1, Value.int IntKind.i64 3, Value.int IntKind.i64 4] 48))))
  rw [al_r] at HC
  go_wp2_with fail
  refine HC.out.mono ?_
  clear HC
  rintro e v10 ⟨rfl, k_⟩
  have kk := Kept.trans (Kept.alloc (Kept.refl v9) (Obj.cells #[Value.int IntKind.i64 0, Value.int IntKind.i64 1, Value.int IntKind.i64 3, Value.int IntKind.i64 4] 48)) k_
  have K := Lib.hid (Kept.trans K.out kk)
  have IL := Lib.hid (IL.out.kept kk)
  have HF1 := Lib.hid ((kk.block _ (block_lt HF1.out)).trans HF1.out)
  have IT := Lib.hid (IT.out.kept kk)
  have HF2 := Lib.hid ((kk.block _ (block_lt HF2.out)).trans HF2.out)
  clear kk
  clear k_
  have p0 := cell_of_block (i := 0) HF1.out rfl
  have p1 := cell_of_block (i := 1) HF1.out rfl
  simp only [s4_, s5_, s6_] at p0 p1
  have HC := Lib.hid (r01_same [97, 45, 98] Q5 (some ⟨v10.heap.size, 0, none⟩) 3 3 c5 3 (v10.alloc (Obj.cells #[Value.int IntKind.i64 97, Value.int IntKind.i64 45, Value.int IntKind.i64 98] 3)) (by decide) (IT.out.kept (Kept.alloc (Kept.refl v10) (Obj.cells #[Value.int IntKind.i64 97, Value.int IntKind.i64 45, Value.int IntKind.i64 98] 3))) (Ints.alloc_ (xs := [97, 45, 98]) rfl rfl))
  go_wp2_with fail
  refine HC.out.mono ?_
  clear HC p0 p1
  rintro e v11 ⟨rfl, k_⟩
  have kk := Kept.trans (Kept.alloc (Kept.refl v10) (Obj.cells #[Value.int IntKind.i64 97, Value.int IntKind.i64 45, Value.int IntKind.i64 98] 3)) k_
  have K := Lib.hid (Kept.trans K.out kk)
  have IL := Lib.hid (IL.out.kept kk)
  have HF1 := Lib.hid ((kk.block _ (block_lt HF1.out)).trans HF1.out)
  have IT := Lib.hid (IT.out.kept kk)
  have HF2 := Lib.hid ((kk.block _ (block_lt HF2.out)).trans HF2.out)
  clear kk
  clear k_
  have p0 := cell_of_block (i := 0) HF2.out rfl
  have p1 := cell_of_block (i := 1) HF2.out rfl
  simp only [s4_, s5_, s6_] at p0 p1
  go_wp2_with fail
  go_ret
  exact ⟨rfl, K.out⟩
end Go.Proofs.YtmlcdohldkgcdaaGreatDoor
