/- The reference's Data of layer 21. -/
import Derived.Test.YtljkkfohlkhjnaaGreatDoorKExpC
import Derived.Test.YtljkkfohlkhjnaaGreatDoorKRefL
namespace Go.Proofs.YtljkkfohlkhjnaaGreatDoor
open Go Go.RowKit

set_option maxRecDepth 100000 in
set_option maxHeartbeats 1000000 in
theorem r21data (s : Sls) (n : Nrm) (w : World) (hN : NormAt w s n) (htag : ∀ m ∈ n.decomp, m.tag.size ≤ 1000) : Calls Tryz.prog 38 #[s.val] w fun e w' => e = .returned (usableS s n).val ∧ Kept w w' := by
  have HN := Lib.hid hN
  have hk1 := Kept.alloc (Kept.refl w) (Obj.cells #[Value.slice s.Ac s.nc s.cc, Value.slice s.Am s.nm s.cm, Value.slice s.Ae s.ne s.ce] 28)
  have hk2 := Kept.alloc hk1 (Obj.cells #[Value.slice none 0 0, Value.slice none 0 0, Value.slice none 0 0] 28)
  have HC := Lib.hid (r21check s n _ (hN.kept hk2) htag)
  rw [refCheck_eq] at HC
  have HK2 := Lib.hid hk2
  have hx := alloc_lift (o := Obj.cells #[Value.slice none 0 0, Value.slice none 0 0, Value.slice none 0 0] 28) (box_block w (Obj.cells #[Value.slice s.Ac s.nc s.cc, Value.slice s.Am s.nm s.cm, Value.slice s.Ae s.ne s.ce] 28))
  have hy := box_block (w.alloc (Obj.cells #[Value.slice s.Ac s.nc s.cc, Value.slice s.Am s.nm s.cm, Value.slice s.Ae s.ne s.ce] 28)) (Obj.cells #[Value.slice none 0 0, Value.slice none 0 0, Value.slice none 0 0] 28)
  rw [show (w.alloc (Obj.cells #[Value.slice s.Ac s.nc s.cc, Value.slice s.Am s.nm s.cm, Value.slice s.Ae s.ne s.ce] 28)).heap.size = w.heap.size + 1 by simp] at hy
  have HX := Lib.hid hx
  have HY := Lib.hid hy
  clear hN htag hk1 hk2 hx hy
  by_cases h0 : decCheck n = 0
  · have hb0 : (decCheck n != 0) = false := by simp [h0]
    have HU := Lib.hid (show usableS s n = s from if_pos h0)
    clear h0
    unfold Sls.val
    go_enter Tryz.func38, Tryz.ntmps38
    go_wp2_with fail
    refine HC.out.mono ?_
    rintro e w1 ⟨rfl, hk3⟩
    have e1 := (hk3.block _ (block_lt HX.out)).trans HX.out
    have e2 := (hk3.block _ (block_lt HY.out)).trans HY.out
    have a0 := cell_of_block (i := 0) e1 rfl
    have a1 := cell_of_block (i := 1) e1 rfl
    have a2 := cell_of_block (i := 2) e1 rfl
    have b0 := cell_of_block (i := 0) e2 rfl
    have b1 := cell_of_block (i := 1) e2 rfl
    have b2 := cell_of_block (i := 2) e2 rfl
    have f0 := frozen_of_block (i := 0) e2
    have f1 := frozen_of_block (i := 1) e2
    have f2 := frozen_of_block (i := 2) e2
    have HE2 := Lib.hid e2
    simp only [List.getElem_toArray, List.getElem_cons_zero, List.getElem_cons_succ] at a0 a1 a2 b0 b1 b2
    clear e1 e2
    obtain ⟨bb, hbb⟩ : ∃ bb : Nat, bb = w.heap.size := ⟨_, rfl⟩
    have HBB := Lib.hid hbb
    rw [← hbb] at a0 a1 a2 b0 b1 b2 f0 f1 f2 HE2 ⊢
    clear hbb
    go_wp2_with fail
    have hc := cells3_set (v0 := .slice s.Ac s.nc s.cc) (v1 := .slice s.Am s.nm s.cm) (v2 := .slice s.Ae s.ne s.ce) HE2.out
    have g0 := cell_of_block (i := 0) hc rfl
    have g1 := cell_of_block (i := 1) hc rfl
    have g2 := cell_of_block (i := 2) hc rfl
    simp only [List.getElem_toArray, List.getElem_cons_zero, List.getElem_cons_succ] at g0 g1 g2
    clear a0 a1 a2 b0 b1 b2 f0 f1 f2
    refine bodyPost_ret (v := s.val) (by simp [results, Tryz.results38, go_sem, g0, g1, g2, Sls.val]) rfl ?_
    have hk4 := Kept.trans HK2.out hk3
    have hk5 : Kept w _ := Kept.setCell (Kept.setCell (Kept.setCell hk4 (p := ⟨bb + 1, 0, none⟩) (by rw [HBB.out]; exact Nat.le_succ _) (.slice s.Ac s.nc s.cc)) (p := ⟨bb + 1, 1, none⟩) (by rw [HBB.out]; exact Nat.le_succ _) (.slice s.Am s.nm s.cm)) (p := ⟨bb + 1, 2, none⟩) (by rw [HBB.out]; exact Nat.le_succ _) (.slice s.Ae s.ne s.ce)
    exact ⟨by rw [HU.out]; rfl, hk5⟩
  · have hb0 : (decCheck n != 0) = true := by simp [h0]
    have HU := Lib.hid (show usableS s n = emptyS from if_neg h0)
    clear h0
    unfold Sls.val
    go_enter Tryz.func38, Tryz.ntmps38
    go_wp2_with fail
    refine HC.out.mono ?_
    rintro e w1 ⟨rfl, hk3⟩
    have e2 := (hk3.block _ (block_lt HY.out)).trans HY.out
    have b0 := cell_of_block (i := 0) e2 rfl
    have b1 := cell_of_block (i := 1) e2 rfl
    have b2 := cell_of_block (i := 2) e2 rfl
    have f0 := frozen_of_block (i := 0) e2
    have f1 := frozen_of_block (i := 1) e2
    have f2 := frozen_of_block (i := 2) e2
    have HE2 := Lib.hid e2
    simp only [List.getElem_toArray, List.getElem_cons_zero, List.getElem_cons_succ] at b0 b1 b2
    clear e2
    obtain ⟨bb, hbb⟩ : ∃ bb : Nat, bb = w.heap.size := ⟨_, rfl⟩
    have HBB := Lib.hid hbb
    rw [← hbb] at b0 b1 b2 f0 f1 f2 HE2 ⊢
    clear hbb
    go_wp2_with fail
    have hc := cells3_set (v0 := .slice none 0 0) (v1 := .slice none 0 0) (v2 := .slice none 0 0) HE2.out
    have g0 := cell_of_block (i := 0) hc rfl
    have g1 := cell_of_block (i := 1) hc rfl
    have g2 := cell_of_block (i := 2) hc rfl
    simp only [List.getElem_toArray, List.getElem_cons_zero, List.getElem_cons_succ] at g0 g1 g2
    clear b0 b1 b2 f0 f1 f2
    refine bodyPost_ret (v := emptyS.val) (by simp [results, Tryz.results38, go_sem, g0, g1, g2, Sls.val, emptyS]) rfl ?_
    have hk4 := Kept.trans HK2.out hk3
    have hk5 : Kept w _ := Kept.setCell (Kept.setCell (Kept.setCell hk4 (p := ⟨bb + 1, 0, none⟩) (by rw [HBB.out]; exact Nat.le_succ _) (.slice none 0 0)) (p := ⟨bb + 1, 1, none⟩) (by rw [HBB.out]; exact Nat.le_succ _) (.slice none 0 0)) (p := ⟨bb + 1, 2, none⟩) (by rw [HBB.out]; exact Nat.le_succ _) (.slice none 0 0)
    exact ⟨by rw [HU.out]; rfl, hk5⟩
end Go.Proofs.YtljkkfohlkhjnaaGreatDoor
