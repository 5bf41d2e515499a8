/- decompose.usable, expander, Char. -/
import Derived.Test.YtckgmkjoblneeaaGreatDoorKSq
import Derived.Test.YtckgmkjoblneeaaGreatDoorKExp
import Derived.Test.YtckgmkjoblneeaaGreatDoorKDecC
namespace Go.Proofs.YtckgmkjoblneeaaGreatDoor
open Go Go.RowKit
def emptyN : Nrm := ⟨[], [], []⟩
def usableN (n : Nrm) : Nrm := if decCheck n = 0 then n else emptyN
def emptyS : Sls := ⟨none, 0, 0, none, 0, 0, none, 0, 0⟩
theorem emptyS_at (w : World) : NormAt w emptyS emptyN :=
  ⟨Nat.le_refl _, Nat.le_refl _, Nat.le_refl _, Nat.zero_le _, Nat.zero_le _, Nat.zero_le _, Sl.nil, ⟨rfl, fun h => absurd h (by decide)⟩, Sl.nil, fun m hm => by simp [emptyN] at hm⟩
theorem box_block (w : World) (o : Obj) : (w.alloc o).heap[w.heap.size]? = some o := heap_alloc_new _ _
theorem cells3_set {w : World} {b : Nat} {u0 u1 u2 v0 v1 v2 : Value} {t : TypeId} (h : w.heap[b]? = some (.cells #[u0, u1, u2] t (0, 0))) :
    (((w.setCell ⟨b, 0, none⟩ v0).setCell ⟨b, 1, none⟩ v1).setCell ⟨b, 2, none⟩ v2).heap[b]? = some (.cells #[v0, v1, v2] t (0, 0)) := by
  simp [World.setCell, Array.getElem?_modify, h]
def usableS (s : Sls) (n : Nrm) : Sls := if decCheck n = 0 then s else emptyS
theorem usableS_at {w : World} {s : Sls} {n : Nrm} (h : NormAt w s n) : NormAt w (usableS s n) (usableN n) := by
  unfold usableS usableN
  split
  · exact h
  · exact emptyS_at w
set_option maxRecDepth 100000 in
set_option maxHeartbeats 1000000 in
theorem usable_val (s : Sls) (n : Nrm) (w : World) (hN : NormAt w s n) (hG : Glob w) : Calls Tryz.prog 46 #[s.val] w fun e w' => e = .returned (usableS s n).val ∧ Kept w w' := by
  have HN := Lib.hid hN
  have hk1 := Kept.alloc (Kept.refl w) (Obj.cells #[Value.slice s.Ac s.nc s.cc, Value.slice s.Am s.nm s.cm, Value.slice s.Ae s.ne s.ce] 28)
  have hk2 := Kept.alloc hk1 (Obj.cells #[Value.slice none 0 0, Value.slice none 0 0, Value.slice none 0 0] 28)
  have HC := Lib.hid (decCheck_any s n _ (hN.kept hk2) (hG.kept hk2))
  have HK2 := Lib.hid hk2
  have hx := alloc_lift (o := Obj.cells #[Value.slice none 0 0, Value.slice none 0 0, Value.slice none 0 0] 28) (box_block w (Obj.cells #[Value.slice s.Ac s.nc s.cc, Value.slice s.Am s.nm s.cm, Value.slice s.Ae s.ne s.ce] 28))
  have hy := box_block (w.alloc (Obj.cells #[Value.slice s.Ac s.nc s.cc, Value.slice s.Am s.nm s.cm, Value.slice s.Ae s.ne s.ce] 28)) (Obj.cells #[Value.slice none 0 0, Value.slice none 0 0, Value.slice none 0 0] 28)
  rw [show (w.alloc (Obj.cells #[Value.slice s.Ac s.nc s.cc, Value.slice s.Am s.nm s.cm, Value.slice s.Ae s.ne s.ce] 28)).heap.size = w.heap.size + 1 by simp] at hy
  have HX := Lib.hid hx
  have HY := Lib.hid hy
  clear hN hG hk1 hk2 hx hy
  by_cases h0 : decCheck n = 0
  · have hb0 : (decCheck n != 0) = false := by simp [h0]
    have HU := Lib.hid (show usableS s n = s from if_pos h0)
    clear h0
    unfold Sls.val
    go_enter Tryz.func46, Tryz.ntmps46
    go_wp2_with fail
    refine HC.out.mono ?_
    rintro e w1 ⟨rfl, hk3⟩
    have e1 := (hk3.block _ (block_lt HX.out)).trans HX.out
    have e2 := (hk3.block _ (block_lt HY.out)).trans HY.out
    have a0 := cell_of_block (i := 0) e1 rfl
    have a1 := cell_of_block (i := 1) e1 rfl
    have a2 := cell_of_block (i := 2) e1 rfl
    have b0 := cell_of_block (i := 0) e2 rfl
    have b1 := cell_of_block (i := 1) e2 rfl
    have b2 := cell_of_block (i := 2) e2 rfl
    have f0 := frozen_of_block (i := 0) e2
    have f1 := frozen_of_block (i := 1) e2
    have f2 := frozen_of_block (i := 2) e2
    have HE2 := Lib.hid e2
    simp only [s4_, s5_, s6_] at a0 a1 a2 b0 b1 b2
    clear e1 e2
    obtain ⟨bb, hbb⟩ : ∃ bb : Nat, bb = w.heap.size := ⟨_, rfl⟩
    have HBB := Lib.hid hbb
    rw [← hbb] at a0 a1 a2 b0 b1 b2 f0 f1 f2 HE2 ⊢
    clear hbb
    go_wp2_with fail
    have hc := cells3_set (v0 := .slice s.Ac s.nc s.cc) (v1 := .slice s.Am s.nm s.cm) (v2 := .slice s.Ae s.ne s.ce) HE2.out
    have g0 := cell_of_block (i := 0) hc rfl
    have g1 := cell_of_block (i := 1) hc rfl
    have g2 := cell_of_block (i := 2) hc rfl
    simp only [s4_, s5_, s6_] at g0 g1 g2
    clear a0 a1 a2 b0 b1 b2 f0 f1 f2
    refine bodyPost_ret (v := s.val) (by simp [results, Tryz.results46, go_sem, g0, g1, g2, Sls.val]) rfl ?_
    have hk4 := Kept.trans HK2.out hk3
    have hk5 : Kept w _ := Kept.setCell (Kept.setCell (Kept.setCell hk4 (p := ⟨bb + 1, 0, none⟩) (by rw [HBB.out]; exact Nat.le_succ _) (.slice s.Ac s.nc s.cc)) (p := ⟨bb + 1, 1, none⟩) (by rw [HBB.out]; exact Nat.le_succ _) (.slice s.Am s.nm s.cm)) (p := ⟨bb + 1, 2, none⟩) (by rw [HBB.out]; exact Nat.le_succ _) (.slice s.Ae s.ne s.ce)
    exact ⟨by rw [HU.out]; rfl, hk5⟩
  · have hb0 : (decCheck n != 0) = true := by simp [h0]
    have HU := Lib.hid (show usableS s n = emptyS from if_neg h0)
    clear h0
    unfold Sls.val
    go_enter Tryz.func46, Tryz.ntmps46
    go_wp2_with fail
    refine HC.out.mono ?_
    rintro e w1 ⟨rfl, hk3⟩
    have e2 := (hk3.block _ (block_lt HY.out)).trans HY.out
    have b0 := cell_of_block (i := 0) e2 rfl
    have b1 := cell_of_block (i := 1) e2 rfl
    have b2 := cell_of_block (i := 2) e2 rfl
    have f0 := frozen_of_block (i := 0) e2
    have f1 := frozen_of_block (i := 1) e2
    have f2 := frozen_of_block (i := 2) e2
    have HE2 := Lib.hid e2
    simp only [s4_, s5_, s6_] at b0 b1 b2
    clear e2
    obtain ⟨bb, hbb⟩ : ∃ bb : Nat, bb = w.heap.size := ⟨_, rfl⟩
    have HBB := Lib.hid hbb
    rw [← hbb] at b0 b1 b2 f0 f1 f2 HE2 ⊢
    clear hbb
    go_wp2_with fail
    have hc := cells3_set (v0 := .slice none 0 0) (v1 := .slice none 0 0) (v2 := .slice none 0 0) HE2.out
    have g0 := cell_of_block (i := 0) hc rfl
    have g1 := cell_of_block (i := 1) hc rfl
    have g2 := cell_of_block (i := 2) hc rfl
    simp only [s4_, s5_, s6_] at g0 g1 g2
    clear b0 b1 b2 f0 f1 f2
    refine bodyPost_ret (v := emptyS.val) (by simp [results, Tryz.results46, go_sem, g0, g1, g2, Sls.val, emptyS]) rfl ?_
    have hk4 := Kept.trans HK2.out hk3
    have hk5 : Kept w _ := Kept.setCell (Kept.setCell (Kept.setCell hk4 (p := ⟨bb + 1, 0, none⟩) (by rw [HBB.out]; exact Nat.le_succ _) (.slice none 0 0)) (p := ⟨bb + 1, 1, none⟩) (by rw [HBB.out]; exact Nat.le_succ _) (.slice none 0 0)) (p := ⟨bb + 1, 2, none⟩) (by rw [HBB.out]; exact Nat.le_succ _) (.slice none 0 0)
    exact ⟨by rw [HU.out]; rfl, hk5⟩
def RetExp (w : World) (s : Sls) (cp : Bool) (F : Int → List Int) (e : Ending) (w' : World) : Prop := ∃ bs bn bc bx bm : Nat,
  e = .returned (.func (.func 62) #[] #[.pointer (some ⟨bs, 0, none⟩), .pointer (some ⟨bn, 0, none⟩), .pointer (some ⟨bc, 0, none⟩), .pointer (some ⟨bx, 0, none⟩)]) ∧
  ExpAt w' bs bn bc bx bm s cp F [] ∧ w.heap.size ≤ bm ∧ Kept w w'
set_option maxRecDepth 100000 in
set_option maxHeartbeats 1000000 in
theorem expander_any (s : Sls) (cp : Bool) (F : Int → List Int) (w : World) : Calls Tryz.prog 47 #[s.val, .bool cp] w (RetExp w s cp F) := by
  unfold Sls.val
  have hmm := @run_makeMap Tryz.prog
  go_enter Tryz.func47, Tryz.ntmps47
  go_wp2
  clear hmm
  go_ret
  obtain ⟨B, hB⟩ : ∃ B : Nat, B = w.heap.size := ⟨_, rfl⟩
  rw [← hB]
  refine ⟨B + 1 + 1 + 1, B, B + 1, B + 1 + 1 + 1 + 1, B + 1 + 1, rfl, ?_, by omega, Kept.alloc (Kept.alloc (Kept.alloc (Kept.alloc (Kept.alloc (Kept.refl w) _) _) _) _) _⟩
  refine ⟨?_, ?_, ?_, ?_, ?_, fun k v hv => by simp [getKV] at hv⟩
  · exact alloc_lift (alloc_at (by simp [hB]))
  · exact alloc_lift (alloc_lift (alloc_lift (alloc_lift (alloc_at hB))))
  · exact alloc_lift (alloc_lift (alloc_lift (alloc_at (by simp [hB]))))
  · exact alloc_at (by simp [hB])
  · exact ⟨#[], 0, alloc_lift (alloc_lift (alloc_at (by simp [hB]))), rfl, by simp, by simp⟩
theorem emptyN_check : decCheck emptyN = 0 := by
  simp [decCheck, emptyN, ordCheck, adjAny, mapCheck, mapParts, makeR, sortR, clipped, decMid, usableSpans, taggedOf, runsOf, runsFrom, decTail, measOf, mall]
theorem usableN_good (n : Nrm) : Good (usableN n) := by
  unfold usableN
  split
  · rename_i h; exact good_of h
  · exact good_of emptyN_check
theorem usableN_full (n : Nrm) (cp : Bool) : FullEq (usableN n).decomp cp (fullOf (usableN n).decomp cp) := fullOf_eq (ends_any (usableN_good n).ends cp)
theorem usableN_len (n : Nrm) (cp : Bool) (c : Int) : (fullOf (usableN n).decomp cp c).length ≤ 64 :=
  have h := usableN_good n
  full_length h.sorted h.hangul h.ends h.short cp (usableN_full n cp) c
end Go.Proofs.YtckgmkjoblneeaaGreatDoor
