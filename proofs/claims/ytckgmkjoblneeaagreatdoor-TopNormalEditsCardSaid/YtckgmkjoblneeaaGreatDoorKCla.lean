/- Collation of closed data: options, the table of no data, implicit elements. Collation of closed data: the table of no data. And more of that kind. -/
import Derived.Deep.RegionHeld3
import Derived.Test.YtckgmkjoblneeaaGreatDoorKSq
import Derived.Test.YtckgmkjoblneeaaGreatDoorKExpC
import Derived.Test.YtckgmkjoblneeaaGreatDoorKRfj
import Derived.Test.YtckgmkjoblneeaaGreatDoorKApp
import Derived.Test.YtckgmkjoblneeaaGreatDoorKDecC
import Derived.Test.YtckgmkjoblneeaaGreatDoorKJo
import Derived.Test.YtckgmkjoblneeaaGreatDoorKOwn
import Derived.Test.YtckgmkjoblneeaaGreatDoorKDecD
namespace Go.Proofs.YtckgmkjoblneeaaGreatDoor
open Go Go.RowKit
set_option maxRecDepth 100000 in
theorem sk_check (w : World) : Calls Tryz.prog 40 #[.agg #[.int .i64 3, .int .i64 1, .bool false, .bool false]] w (RetI w 0) := by
  have hk := Kept.alloc (Kept.refl w) (Obj.cells #[Value.int .i64 3, Value.int .i64 1, Value.bool false, Value.bool false] 59)
  have hb := box_block w (Obj.cells #[Value.int .i64 3, Value.int .i64 1, Value.bool false, Value.bool false] 59)
  have p0 := cell_of_block (i := 0) hb rfl
  have p1 := cell_of_block (i := 1) hb rfl
  simp only [s4_, s5_, s6_] at p0 p1
  have HK := Lib.hid hk
  clear hk hb
  go_enter Tryz.func40, Tryz.ntmps40
  go_wp2_with fail
  go_ret
  exact ⟨rfl, HK.out⟩
set_option maxRecDepth 100000 in
theorem sk_eff (w : World) : Calls Tryz.prog 31 #[.agg #[.int .i64 3, .int .i64 1, .bool false, .bool false]] w (fun e w' => e = .returned (.agg #[.int .i64 3, .int .i64 1, .bool false, .bool false]) ∧ Kept w w') := by
  have HC := Lib.hid (fun w' => sk_check w')
  have hk := Kept.alloc (Kept.alloc (Kept.refl w) (Obj.cells #[Value.int .i64 3, Value.int .i64 1, Value.bool false, Value.bool false] 59)) (Obj.cells #[Value.int .i64 0, Value.int .i64 0, Value.bool false, Value.bool false] 59)
  have hb := alloc_lift (o := Obj.cells #[Value.int .i64 0, Value.int .i64 0, Value.bool false, Value.bool false] 59) (box_block w (Obj.cells #[Value.int .i64 3, Value.int .i64 1, Value.bool false, Value.bool false] 59))
  have hb2 := box_block (w.alloc (Obj.cells #[Value.int .i64 3, Value.int .i64 1, Value.bool false, Value.bool false] 59)) (Obj.cells #[Value.int .i64 0, Value.int .i64 0, Value.bool false, Value.bool false] 59)
  simp only [World.size_alloc] at hb2
  have p0 := cell_of_block (i := 0) hb rfl
  have p1 := cell_of_block (i := 1) hb rfl
  have p2 := cell_of_block (i := 2) hb rfl
  have p3 := cell_of_block (i := 3) hb rfl
  simp only [s4_, s5_, s6_] at p0 p1 p2 p3
  have HK := Lib.hid hk
  have HB := Lib.hid hb
  have HB2 := Lib.hid hb2
  clear hk hb hb2
  go_enter Tryz.func31, Tryz.ntmps31
  go_wp2_with fail
  refine (HC.out _).mono ?_
  rintro e w1 ⟨rfl, k1⟩
  have q0 := Kept.cell k1 p0
  have q1 := Kept.cell k1 p1
  have q2 := Kept.cell k1 p2
  have q3 := Kept.cell k1 p3
  have hc := (k1.block _ (block_lt HB2.out)).trans HB2.out
  have f0 := frozen_of_block (i := 0) hc
  have f1 := frozen_of_block (i := 1) hc
  have f2 := frozen_of_block (i := 2) hc
  have f3 := frozen_of_block (i := 3) hc
  have d0 := cell_of_block (i := 0) hc rfl
  have d1 := cell_of_block (i := 1) hc rfl
  have d2 := cell_of_block (i := 2) hc rfl
  have d3 := cell_of_block (i := 3) hc rfl
  simp only [s4_, s5_, s6_] at d0 d1 d2 d3
  have hF : ((((w1.setCell ⟨w.heap.size + 1, 0, none⟩ (.int .i64 3)).setCell ⟨w.heap.size + 1, 1, none⟩ (.int .i64 1)).setCell ⟨w.heap.size + 1, 2, none⟩ (.bool false)).setCell ⟨w.heap.size + 1, 3, none⟩ (.bool false)).heap[w.heap.size + 1]? = some (.cells #[.int .i64 3, .int .i64 1, .bool false, .bool false] 59 (0, 0)) := by
    simp [World.setCell, Array.getElem?_modify, hc]
  have g0 := cell_of_block (i := 0) hF rfl
  have g1 := cell_of_block (i := 1) hF rfl
  have g2 := cell_of_block (i := 2) hF rfl
  have g3 := cell_of_block (i := 3) hF rfl
  simp only [s4_, s5_, s6_] at g0 g1 g2 g3
  have G0 := Lib.hid g0
  have G1 := Lib.hid g1
  have G2 := Lib.hid g2
  have G3 := Lib.hid g3
  have K1 := Lib.hid k1
  clear hF g0 g1 g2 g3 hc k1
  go_wp2_with fail
  have g0 := G0.out
  have g1 := G1.out
  have g2 := G2.out
  have g3 := G3.out
  clear d0 d1 d2 d3 f0 f1 f2 f3 q0 q1 q2 q3
  have hle : w.heap.size ≤ w.heap.size + 1 := Nat.le_succ _
  refine bodyPost_ret (v := .agg #[.int .i64 3, .int .i64 1, .bool false, .bool false]) (by simp [results, Tryz.results31, go_sem, g0, g1, g2, g3]) rfl ⟨rfl, ?_⟩
  exact Kept.setCell (Kept.setCell (Kept.setCell (Kept.setCell (Kept.trans HK.out K1.out) (p := ⟨w.heap.size + 1, 0, none⟩) hle _) (p := ⟨w.heap.size + 1, 1, none⟩) hle _) (p := ⟨w.heap.size + 1, 2, none⟩) hle _) (p := ⟨w.heap.size + 1, 3, none⟩) hle _
end Go.Proofs.YtckgmkjoblneeaaGreatDoor
namespace Go.Proofs.YtckgmkjoblneeaaGreatDoor
open Go Go.RowKit
set_option maxRecDepth 100000 in
theorem ct_check (w : World) : Calls Tryz.prog 56 #[.agg #[.slice none 0 0, .slice none 0 0, .int .i64 0, .int .i64 0, .int .i64 0]] w (RetI w 1) := by
  have hk := Kept.alloc (Kept.refl w) (Obj.cells #[Value.slice none 0 0, Value.slice none 0 0, Value.int .i64 0, Value.int .i64 0, Value.int .i64 0] 65)
  have hb := box_block w (Obj.cells #[Value.slice none 0 0, Value.slice none 0 0, Value.int .i64 0, Value.int .i64 0, Value.int .i64 0] 65)
  have p2 := cell_of_block (i := 2) hb rfl
  simp only [s4_, s5_, s6_] at p2
  have HK := Lib.hid hk
  clear hk hb
  go_enter Tryz.func56, Tryz.ntmps56
  go_wp2_with fail
  go_ret
  exact ⟨rfl, HK.out⟩
def TabCells (bm : Nat) : Array Value := #[.slice none 0 0, .slice none 0 0, .int .i64 64448, .int .i64 32, .int .i64 2, .map (some bm), .int .i64 0, .slice none 0 0, .int .i64 0]
def TabAt (w : World) (b : Nat) : Prop := ∃ bm, w.heap[b]? = some (.cells (TabCells bm) 111 (0, 0))
theorem TabAt.kept {w w' : World} {b : Nat} (h : TabAt w b) (hk : Kept w w') : TabAt w' b := by
  obtain ⟨bm, h⟩ := h
  exact ⟨bm, (hk.block _ (block_lt h)).trans h⟩
set_option maxRecDepth 100000 in
set_option maxHeartbeats 1000000 in
theorem ct_made (w : World) : Calls Tryz.prog 43 #[.agg #[.slice none 0 0, .slice none 0 0, .int .i64 0, .int .i64 0, .int .i64 0]] w (fun e w' => ∃ B, e = .returned (.pointer (some ⟨B, 0, none⟩)) ∧ w.heap.size ≤ B ∧ TabAt w' B ∧ Kept w w') := by
  have HC := Lib.hid (fun w' => ct_check w')
  have hk := Kept.alloc (Kept.refl w) (Obj.cells #[Value.slice none 0 0, Value.slice none 0 0, Value.int .i64 0, Value.int .i64 0, Value.int .i64 0] 65)
  have hb := box_block w (Obj.cells #[Value.slice none 0 0, Value.slice none 0 0, Value.int .i64 0, Value.int .i64 0, Value.int .i64 0] 65)
  have p0 := cell_of_block (i := 0) hb rfl
  have p1 := cell_of_block (i := 1) hb rfl
  have p2 := cell_of_block (i := 2) hb rfl
  have p3 := cell_of_block (i := 3) hb rfl
  have p4 := cell_of_block (i := 4) hb rfl
  simp only [s4_, s5_, s6_] at p0 p1 p2 p3 p4
  have HK := Lib.hid hk
  have HB := Lib.hid hb
  have hmm := @run_makeMap Tryz.prog
  clear hk hb
  go_enter Tryz.func43, Tryz.ntmps43
  go_wp2_with fail
  refine (HC.out _).mono ?_
  rintro e w1 ⟨rfl, k1⟩
  have hc := (k1.block _ (block_lt HB.out)).trans HB.out
  have f0 := frozen_of_block (i := 0) hc
  have f1 := frozen_of_block (i := 1) hc
  have f2 := frozen_of_block (i := 2) hc
  have f3 := frozen_of_block (i := 3) hc
  have f4 := frozen_of_block (i := 4) hc
  have d0 := cell_of_block (i := 0) hc rfl
  have d1 := cell_of_block (i := 1) hc rfl
  have d2 := cell_of_block (i := 2) hc rfl
  have d3 := cell_of_block (i := 3) hc rfl
  have d4 := cell_of_block (i := 4) hc rfl
  simp only [s4_, s5_, s6_] at d0 d1 d2 d3 d4
  clear p0 p1 p2 p3 p4
  have hF : (((((w1.setCell ⟨w.heap.size, 0, none⟩ (.slice none 0 0)).setCell ⟨w.heap.size, 1, none⟩ (.slice none 0 0)).setCell ⟨w.heap.size, 2, none⟩ (.int .i64 64448)).setCell ⟨w.heap.size, 3, none⟩ (.int .i64 32)).setCell ⟨w.heap.size, 4, none⟩ (.int .i64 2)).heap[w.heap.size]? = some (.cells #[.slice none 0 0, .slice none 0 0, .int .i64 64448, .int .i64 32, .int .i64 2] 65 (0, 0)) := by
    simp [World.setCell, Array.getElem?_modify, hc]
  have hle : w.heap.size ≤ w.heap.size := Nat.le_refl _
  have hK5 : Kept w (((((w1.setCell ⟨w.heap.size, 0, none⟩ (.slice none 0 0)).setCell ⟨w.heap.size, 1, none⟩ (.slice none 0 0)).setCell ⟨w.heap.size, 2, none⟩ (.int .i64 64448)).setCell ⟨w.heap.size, 3, none⟩ (.int .i64 32)).setCell ⟨w.heap.size, 4, none⟩ (.int .i64 2)) :=
    Kept.setCell (Kept.setCell (Kept.setCell (Kept.setCell (Kept.setCell (Kept.trans HK.out k1) (p := ⟨w.heap.size, 0, none⟩) hle _) (p := ⟨w.heap.size, 1, none⟩) hle _) (p := ⟨w.heap.size, 2, none⟩) hle _) (p := ⟨w.heap.size, 3, none⟩) hle _) (p := ⟨w.heap.size, 4, none⟩) hle _
  have hsz : (((((w1.setCell ⟨w.heap.size, 0, none⟩ (.slice none 0 0)).setCell ⟨w.heap.size, 1, none⟩ (.slice none 0 0)).setCell ⟨w.heap.size, 2, none⟩ (.int .i64 64448)).setCell ⟨w.heap.size, 3, none⟩ (.int .i64 32)).setCell ⟨w.heap.size, 4, none⟩ (.int .i64 2)).heap.size = w1.heap.size := by simp [World.setCell]
  have g0 := cell_of_block (i := 0) hF rfl
  have g1 := cell_of_block (i := 1) hF rfl
  have g2 := cell_of_block (i := 2) hF rfl
  have g3 := cell_of_block (i := 3) hF rfl
  have g4 := cell_of_block (i := 4) hF rfl
  have hF7 := alloc_lift (o := Obj.cells (TabCells w1.heap.size) 111) (alloc_lift (o := Obj.map #[] 0) hF)
  have y0 := cell_of_block (i := 0) hF7 rfl
  simp only [s4_, s5_, s6_] at g0 g1 g2 g3 g4 y0
  unfold TabCells at y0
  have HK5 := Lib.hid hK5
  have HSZ := Lib.hid hsz
  have K1 := Lib.hid k1
  clear hF hF7 hc k1 hK5 hsz
  go_wp2_with fail
  clear hmm g0 g1 g2 g3 g4 y0 d0 d1 d2 d3 d4 f0 f1 f2 f3 f4
  go_loopw [17] (fun i wr => i = .int .i64 0 ∧ TabAt wr (w1.heap.size + 1) ∧ Kept w wr) (fun _ _ => 0)
  case atStart => exact ⟨rfl, ⟨w1.heap.size, alloc_at (by simp [HSZ.out])⟩, Kept.alloc (Kept.alloc HK5.out _) _⟩
  case round =>
    obtain ⟨rfl, hT, hkw⟩ := hrel
    have HT := Lib.hid hT
    have KW := Lib.hid hkw
    clear hT hkw
    go_wp2_with fail
    go_ret
    exact ⟨_, rfl, by have := K1.out.size; simp at this; omega, HT.out, KW.out⟩
end Go.Proofs.YtckgmkjoblneeaaGreatDoor
namespace Go.Proofs.YtckgmkjoblneeaaGreatDoor
open Go Go.RowKit
theorem kept_same {w : World} {b i : Nat} {cs : Array Value} {t : TypeId} {v : Value} (h : w.heap[b]? = some (.cells cs t (0, 0))) (hv : cs[i]? = some v) : Kept w (w.setCell ⟨b, i, none⟩ v) := by
  have hs : (w.setCell ⟨b, i, none⟩ v).heap[b]? = w.heap[b]? := by
    have hset : cs.setIfInBounds i v = cs := by
      apply Array.ext_getElem?
      intro j
      rw [Array.getElem?_setIfInBounds]
      by_cases hj : i = j
      · subst hj
        rw [if_pos rfl, hv]
        have := (Array.getElem?_eq_some_iff.1 hv).1
        simp [this]
      · rw [if_neg hj]
    simp [World.setCell, Array.getElem?_modify, h, hset]
  refine ⟨rfl, rfl, rfl, by simp [World.setCell], fun k hk => ?_⟩
  by_cases hkb : k = b
  · subst hkb; exact hs
  · exact Below.heap_setCell w ⟨b, i, none⟩ v k hkb
set_option maxRecDepth 100000 in
set_option maxHeartbeats 1000000 in
theorem ct_with (Am : Option Addr) (nm cm : Nat) (n : Nrm) (B : Nat) (w : World) (hN : NormAt w ⟨none, 0, 0, Am, nm, cm, none, 0, 0⟩ n) (hG : Glob w) (hz : decCheck n = 0) (hT : TabAt w B) :
    Calls Tryz.prog 44 #[.pointer (some ⟨B, 0, none⟩), .agg #[.slice none 0 0, .slice Am nm cm, .slice none 0 0]] w (fun e w' => e = .returned (.pointer (some ⟨B, 0, none⟩)) ∧ Kept w w') := by
  have hk := Kept.alloc (Kept.refl w) (Obj.cells #[Value.slice none 0 0, Value.slice Am nm cm, Value.slice none 0 0] 28)
  have hb := box_block w (Obj.cells #[Value.slice none 0 0, Value.slice Am nm cm, Value.slice none 0 0] 28)
  have HC := Lib.hid (decCheck_any ⟨none, 0, 0, Am, nm, cm, none, 0, 0⟩ n _ (hN.kept hk) (hG.kept hk))
  rw [hz] at HC
  unfold Sls.val at HC
  dsimp only at HC
  have p0 := cell_of_block (i := 0) hb rfl
  have p1 := cell_of_block (i := 1) hb rfl
  have p2 := cell_of_block (i := 2) hb rfl
  simp only [s4_, s5_, s6_] at p0 p1 p2
  have HK := Lib.hid hk
  have HTB := Lib.hid hT
  clear hk hb hN hG hz hT
  go_enter Tryz.func44, Tryz.ntmps44
  go_wp2_with fail
  refine HC.out.mono ?_
  rintro e w1 ⟨rfl, k1⟩
  have q0 := Kept.cell k1 p0
  obtain ⟨bm, ht⟩ := HTB.out.kept (Kept.trans HK.out k1)
  have f7 := frozen_of_block (i := 7) ht
  have d7 := cell_of_block (i := 7) ht (v := .slice none 0 0) rfl
  have hks := kept_same (i := 7) ht (v := .slice none 0 0) rfl
  have r7 := Kept.cell hks d7
  have KS := Lib.hid hks
  have K1 := Lib.hid (Kept.trans HK.out k1)
  clear p0 p1 p2 k1 ht hks
  go_wp2_with fail
  clear q0 f7 d7 r7
  go_loopw [20] (fun i wr => i = .int .i64 0 ∧ Kept w wr) (fun _ _ => 0)
  case atStart => exact ⟨rfl, Kept.trans K1.out KS.out⟩
  case round =>
    obtain ⟨rfl, hkw⟩ := hrel
    have KW := Lib.hid hkw
    clear hkw
    go_wp2_with fail
    go_ret
    exact ⟨rfl, KW.out⟩
end Go.Proofs.YtckgmkjoblneeaaGreatDoor
namespace Go.Proofs.YtckgmkjoblneeaaGreatDoor
open Go Go.RowKit
set_option maxRecDepth 100000 in
set_option maxHeartbeats 1000000 in
theorem ct_impl97 (B : Nat) (w : World) (hT : TabAt w B) : Calls Tryz.prog 60 #[.pointer (some ⟨B, 0, none⟩), .int .i64 97] w (fun e w' => ∃ b, e = .returned (.slice (some ⟨b, 0, none⟩) 2 2) ∧ w'.heap[b]? = some (.cells #[Value.int .i64 64448, Value.int .i64 32, Value.int .i64 2, Value.bool false, Value.int .i64 32865, Value.int .i64 0, Value.int .i64 0, Value.bool false] 90 (0, 0)) ∧ Kept w w') := by
  obtain ⟨bm, ht⟩ := hT
  have HV := Lib.hid (valid_any 97 w)
  rw [show validB 97 = true by decide] at HV
  have p2 := cell_of_block (i := 2) ht (v := .int .i64 64448) rfl
  have p3 := cell_of_block (i := 3) ht (v := .int .i64 32) rfl
  have p4 := cell_of_block (i := 4) ht (v := .int .i64 2) rfl
  clear ht
  go_enter Tryz.func60, Tryz.ntmps60
  go_wp2_with fail
  refine HV.out.mono ?_
  rintro e w1 ⟨rfl, rfl⟩
  go_wp2_with fail
  refine wp_region_held_drew (S := (fun w' => w'.cell? ⟨B, 2, none⟩ = some (.int .i64 64448) ∧ w'.cell? ⟨B, 3, none⟩ = some (.int .i64 32) ∧ w'.cell? ⟨B, 4, none⟩ = some (.int .i64 2))) (by kernel_rfl) ⟨p2, p3, p4⟩ (fun hHeld => ?_)
  refine tk_ 0 ?_ rfl ?_; refine tk_ 1 ?_ rfl ?_; refine tk_ 2 ?_ rfl ?_; refine tk_ 3 ?_ rfl ?_; refine tk_ 4 ?_ rfl ?_; refine tk_ 5 ?_ rfl ?_; refine tk_ 6 ?_ rfl ?_; refine tk_ 7 ?_ rfl ?_; refine tk_ 8 ?_ rfl ?_; refine tk_ 9 ?_ rfl ?_; refine tk_ 10 ?_ rfl ?_; refine tk_ 11 ?_ rfl ?_; refine tk_ 12 ?_ rfl ?_; refine tk_ 13 ?_ rfl ?_; refine tk_ 14 ?_ rfl ?_; refine tk_ 15 ?_ rfl ?_; refine tk_ 16 ?_ rfl ?_; refine tk_ 17 ?_ rfl ?_; refine tk_ 18 ?_ rfl ?_; refine tk_ 19 ?_ rfl ?_; refine tk_ 20 ?_ rfl ?_; refine tk_ 21 ?_ rfl ?_; refine tk_ 22 ?_ rfl ?_
  refine rd_ 23 rfl (fun K hK => ?_)
  skip
  go_simp
  refine hK.out _ _ ⟨Kept.cell (Kept.alloc (Kept.drew (Kept.refl w)) (Obj.cells #[Value.int .i64 64448, Value.int .i64 32, Value.int .i64 2, Value.bool false, Value.int .i64 32865, Value.int .i64 0, Value.int .i64 0, Value.bool false] 90)) p2, Kept.cell (Kept.alloc (Kept.drew (Kept.refl w)) (Obj.cells #[Value.int .i64 64448, Value.int .i64 32, Value.int .i64 2, Value.bool false, Value.int .i64 32865, Value.int .i64 0, Value.int .i64 0, Value.bool false] 90)) p3, Kept.cell (Kept.alloc (Kept.drew (Kept.refl w)) (Obj.cells #[Value.int .i64 64448, Value.int .i64 32, Value.int .i64 2, Value.bool false, Value.int .i64 32865, Value.int .i64 0, Value.int .i64 0, Value.bool false] 90)) p4⟩ (fun hHeld => ?_)
  clear hK K
  (try simp only [Act.put, s1_, s2_, s3_, s4_, s5_, s6_])
  refine tk_ 24 ?_ rfl ?_
  refine wpAnyH_done (by kernel_rfl) ?_ _
  clear p2 p3 p4
  go_wp2_with fail
  go_ret
  exact ⟨w.heap.size, rfl, heap_alloc_new w _, Kept.alloc (Kept.drew (Kept.refl w)) _⟩
set_option maxRecDepth 100000 in
set_option maxHeartbeats 1000000 in
theorem ct_impl98 (B : Nat) (w : World) (hT : TabAt w B) : Calls Tryz.prog 60 #[.pointer (some ⟨B, 0, none⟩), .int .i64 98] w (fun e w' => ∃ b, e = .returned (.slice (some ⟨b, 0, none⟩) 2 2) ∧ w'.heap[b]? = some (.cells #[Value.int .i64 64448, Value.int .i64 32, Value.int .i64 2, Value.bool false, Value.int .i64 32866, Value.int .i64 0, Value.int .i64 0, Value.bool false] 90 (0, 0)) ∧ Kept w w') := by
  obtain ⟨bm, ht⟩ := hT
  have HV := Lib.hid (valid_any 98 w)
  rw [show validB 98 = true by decide] at HV
  have p2 := cell_of_block (i := 2) ht (v := .int .i64 64448) rfl
  have p3 := cell_of_block (i := 3) ht (v := .int .i64 32) rfl
  have p4 := cell_of_block (i := 4) ht (v := .int .i64 2) rfl
  clear ht
  go_enter Tryz.func60, Tryz.ntmps60
  go_wp2_with fail
  refine HV.out.mono ?_
  rintro e w1 ⟨rfl, rfl⟩
  go_wp2_with fail
  refine wp_region_held_drew (S := (fun w' => w'.cell? ⟨B, 2, none⟩ = some (.int .i64 64448) ∧ w'.cell? ⟨B, 3, none⟩ = some (.int .i64 32) ∧ w'.cell? ⟨B, 4, none⟩ = some (.int .i64 2))) (by kernel_rfl) ⟨p2, p3, p4⟩ (fun hHeld => ?_)
  refine tk_ 0 ?_ rfl ?_; refine tk_ 1 ?_ rfl ?_; refine tk_ 2 ?_ rfl ?_; refine tk_ 3 ?_ rfl ?_; refine tk_ 4 ?_ rfl ?_; refine tk_ 5 ?_ rfl ?_; refine tk_ 6 ?_ rfl ?_; refine tk_ 7 ?_ rfl ?_; refine tk_ 8 ?_ rfl ?_; refine tk_ 9 ?_ rfl ?_; refine tk_ 10 ?_ rfl ?_; refine tk_ 11 ?_ rfl ?_; refine tk_ 12 ?_ rfl ?_; refine tk_ 13 ?_ rfl ?_; refine tk_ 14 ?_ rfl ?_; refine tk_ 15 ?_ rfl ?_; refine tk_ 16 ?_ rfl ?_; refine tk_ 17 ?_ rfl ?_; refine tk_ 18 ?_ rfl ?_; refine tk_ 19 ?_ rfl ?_; refine tk_ 20 ?_ rfl ?_; refine tk_ 21 ?_ rfl ?_; refine tk_ 22 ?_ rfl ?_
  refine rd_ 23 rfl (fun K hK => ?_)
  skip
  go_simp
  refine hK.out _ _ ⟨Kept.cell (Kept.alloc (Kept.drew (Kept.refl w)) (Obj.cells #[Value.int .i64 64448, Value.int .i64 32, Value.int .i64 2, Value.bool false, Value.int .i64 32866, Value.int .i64 0, Value.int .i64 0, Value.bool false] 90)) p2, Kept.cell (Kept.alloc (Kept.drew (Kept.refl w)) (Obj.cells #[Value.int .i64 64448, Value.int .i64 32, Value.int .i64 2, Value.bool false, Value.int .i64 32866, Value.int .i64 0, Value.int .i64 0, Value.bool false] 90)) p3, Kept.cell (Kept.alloc (Kept.drew (Kept.refl w)) (Obj.cells #[Value.int .i64 64448, Value.int .i64 32, Value.int .i64 2, Value.bool false, Value.int .i64 32866, Value.int .i64 0, Value.int .i64 0, Value.bool false] 90)) p4⟩ (fun hHeld => ?_)
  clear hK K
  (try simp only [Act.put, s1_, s2_, s3_, s4_, s5_, s6_])
  refine tk_ 24 ?_ rfl ?_
  refine wpAnyH_done (by kernel_rfl) ?_ _
  clear p2 p3 p4
  go_wp2_with fail
  go_ret
  exact ⟨w.heap.size, rfl, heap_alloc_new w _, Kept.alloc (Kept.drew (Kept.refl w)) _⟩
end Go.Proofs.YtckgmkjoblneeaaGreatDoor
namespace Go.Proofs.YtckgmkjoblneeaaGreatDoor
open Go Go.RowKit
set_option maxRecDepth 100000 in
set_option maxHeartbeats 1000000 in
theorem ct_match97 (B : Nat) (A : Option Addr) (c : Nat) (w : World) (hT : TabAt w B) (hI : Ints w A 1 [97]) : Calls Tryz.prog 45 #[.pointer (some ⟨B, 0, none⟩), .slice A 1 c] w (fun e w' => ∃ b, e = .returned (.tuple #[.int .i64 1, .slice (some ⟨b, 0, none⟩) 2 2, .bool false]) ∧ w'.heap[b]? = some (.cells #[Value.int .i64 64448, Value.int .i64 32, Value.int .i64 2, Value.bool false, Value.int .i64 32865, Value.int .i64 0, Value.int .i64 0, Value.bool false] 90 (0, 0)) ∧ Kept w w') := by
  obtain ⟨bt, ot, y, rfl, hy, cy⟩ := int_at hI (i := 0) (by decide)
  simp only [List.getElem?_cons_zero, Option.some.injEq] at hy
  subst hy
  rw [Nat.add_zero] at cy
  have HIM := Lib.hid (fun w' (hk : Kept w w') => ct_impl97 B w' (hT.kept hk))
  obtain ⟨bm, ht⟩ := hT
  have p6 := cell_of_block (i := 6) ht (v := .int .i64 0) rfl
  clear ht hI
  have CY := Lib.hid cy
  clear cy
  go_enter Tryz.func45, Tryz.ntmps45
  go_wp2_with fail
  clear p6
  go_loopw [7] (fun i wr => i = .int .i64 0 ∧ Kept w wr) (fun _ _ => 0)
  case atStart => exact ⟨rfl, Kept.refl _⟩
  case round =>
    obtain ⟨rfl, hkw⟩ := hrel
    have KW := Lib.hid hkw
    have cy := Kept.cell hkw CY.out
    clear hkw
    go_wp2_with fail
    refine (HIM.out _ KW.out).mono ?_
    rintro e w1 ⟨b, rfl, hb, k1⟩
    have HBB := Lib.hid hb
    clear hb
    go_wp2_with fail
    exact bodyPost_ret (v := .tuple #[.int .i64 1, .slice (some ⟨b, 0, none⟩) 2 2, .bool false]) (by simp [results, Tryz.results45, go_sem]) rfl ⟨b, rfl, HBB.out, Kept.trans KW.out k1⟩
set_option maxRecDepth 100000 in
set_option maxHeartbeats 1000000 in
theorem ct_match98 (B : Nat) (A : Option Addr) (c : Nat) (w : World) (hT : TabAt w B) (hI : Ints w A 1 [98]) : Calls Tryz.prog 45 #[.pointer (some ⟨B, 0, none⟩), .slice A 1 c] w (fun e w' => ∃ b, e = .returned (.tuple #[.int .i64 1, .slice (some ⟨b, 0, none⟩) 2 2, .bool false]) ∧ w'.heap[b]? = some (.cells #[Value.int .i64 64448, Value.int .i64 32, Value.int .i64 2, Value.bool false, Value.int .i64 32866, Value.int .i64 0, Value.int .i64 0, Value.bool false] 90 (0, 0)) ∧ Kept w w') := by
  obtain ⟨bt, ot, y, rfl, hy, cy⟩ := int_at hI (i := 0) (by decide)
  simp only [List.getElem?_cons_zero, Option.some.injEq] at hy
  subst hy
  rw [Nat.add_zero] at cy
  have HIM := Lib.hid (fun w' (hk : Kept w w') => ct_impl98 B w' (hT.kept hk))
  obtain ⟨bm, ht⟩ := hT
  have p6 := cell_of_block (i := 6) ht (v := .int .i64 0) rfl
  clear ht hI
  have CY := Lib.hid cy
  clear cy
  go_enter Tryz.func45, Tryz.ntmps45
  go_wp2_with fail
  clear p6
  go_loopw [7] (fun i wr => i = .int .i64 0 ∧ Kept w wr) (fun _ _ => 0)
  case atStart => exact ⟨rfl, Kept.refl _⟩
  case round =>
    obtain ⟨rfl, hkw⟩ := hrel
    have KW := Lib.hid hkw
    have cy := Kept.cell hkw CY.out
    clear hkw
    go_wp2_with fail
    refine (HIM.out _ KW.out).mono ?_
    rintro e w1 ⟨b, rfl, hb, k1⟩
    have HBB := Lib.hid hb
    clear hb
    go_wp2_with fail
    exact bodyPost_ret (v := .tuple #[.int .i64 1, .slice (some ⟨b, 0, none⟩) 2 2, .bool false]) (by simp [results, Tryz.results45, go_sem]) rfl ⟨b, rfl, HBB.out, Kept.trans KW.out k1⟩
end Go.Proofs.YtckgmkjoblneeaaGreatDoor
namespace Go.Proofs.YtckgmkjoblneeaaGreatDoor
open Go Go.RowKit
structure Elt where
  p : Int
  s : Int
  t : Int
  v : Bool
def encE (e : Elt) : List Value := [.int .i64 e.p, .int .i64 e.s, .int .i64 e.t, .bool e.v]
def eltsOf (x : Int) : List Elt := [⟨64448, 32, 2, false⟩, ⟨32768 + x, 0, 0, false⟩]
def lenV : Value → Nat
  | .slice _ n _ => n
  | _ => 0
theorem info_elt : (Tryz.prog.info? 90).map (fun i => (i.zero, i.size, i.bytes)) = some (some (.agg #[.int .i64 0, .int .i64 0, .int .i64 0, .bool false]), 4, 32) := by kernel_rfl
set_option maxRecDepth 100000 in
set_option maxHeartbeats 2000000 in
theorem ct_elems97 (Am : Option Addr) (nm cm : Nat) (n : Nrm) (A : Option Addr) (c : Nat) (w : World) (hN : NormAt w ⟨none, 0, 0, Am, nm, cm, none, 0, 0⟩ n) (hG : Glob w) (hz : decCheck n = 0) (htx : textOf n false [97] = [97]) (hI : Ints w A 1 [97]) : Calls Tryz.prog 33 #[.agg #[.slice none 0 0, .slice Am nm cm, .slice none 0 0], .agg #[.slice none 0 0, .slice none 0 0, .int .i64 0, .int .i64 0, .int .i64 0], .slice A 1 c] w (fun e w' => ∃ Q k, e = .returned (.slice Q 2 k) ∧ 2 ≤ k ∧ Sl 4 encE w' Q 2 (eltsOf 97) ∧ Kept w w') := by
  have hk0_ := Kept.alloc (Kept.refl w) (Obj.cells #[Value.slice none 0 0, Value.slice Am nm cm, Value.slice none 0 0] 28)
  have hk1_ := Kept.alloc hk0_ (Obj.cells #[Value.slice none 0 0, Value.slice none 0 0, Value.int IntKind.i64 0, Value.int IntKind.i64 0, Value.int IntKind.i64 0] 65)
  have HK1 := Lib.hid hk1_
  have hb0_ := (alloc_lift (o := (Obj.cells #[Value.slice none 0 0, Value.slice none 0 0, Value.int IntKind.i64 0, Value.int IntKind.i64 0, Value.int IntKind.i64 0] 65)) (box_block w (Obj.cells #[Value.slice none 0 0, Value.slice Am nm cm, Value.slice none 0 0] 28)))
  have x0_ := cell_of_block (i := 0) hb0_ rfl
  have x1_ := cell_of_block (i := 1) hb0_ rfl
  have x2_ := cell_of_block (i := 2) hb0_ rfl
  have hb1_ := (box_block (w.alloc (Obj.cells #[Value.slice none 0 0, Value.slice Am nm cm, Value.slice none 0 0] 28)) (Obj.cells #[Value.slice none 0 0, Value.slice none 0 0, Value.int IntKind.i64 0, Value.int IntKind.i64 0, Value.int IntKind.i64 0] 65))
  simp only [World.size_alloc] at hb1_
  have x3_ := cell_of_block (i := 0) hb1_ rfl
  have x4_ := cell_of_block (i := 1) hb1_ rfl
  have x5_ := cell_of_block (i := 2) hb1_ rfl
  have x6_ := cell_of_block (i := 3) hb1_ rfl
  have x7_ := cell_of_block (i := 4) hb1_ rfl
  simp only [s4_, s5_, s6_] at x0_ x1_ x2_ x3_ x4_ x5_ x6_ x7_
  have HX0 := Lib.hid x0_
  have HX1 := Lib.hid x1_
  have HX2 := Lib.hid x2_
  have HX3 := Lib.hid x3_
  have HX4 := Lib.hid x4_
  have HX5 := Lib.hid x5_
  have HX6 := Lib.hid x6_
  have HX7 := Lib.hid x7_
  have HB0 := Lib.hid hb0_
  have HB1 := Lib.hid hb1_
  clear x0_ x1_ x2_ x3_ x4_ x5_ x6_ x7_ hb0_ hb1_
  obtain ⟨i0, hi, hz0, hz1, hz2⟩ := info_parts1 info_elt
  have HI0 := Lib.hid hi
  have HZ0 := Lib.hid hz0
  have HZ1 := Lib.hid hz1
  have HZ2 := Lib.hid hz2
  have HMA := Lib.hid (fun w' => ct_made w')
  have HWI := Lib.hid (fun B w' (hk : Kept w w') (h : TabAt w' B) => ct_with Am nm cm n B w' (hN.kept hk) (hG.kept hk) hz h)
  have HTX := Lib.hid (fun w' (hk : Kept w w') => text_any ⟨none, 0, 0, Am, nm, cm, none, 0, 0⟩ n A 1 c [97] false w' (hN.kept hk) (hG.kept hk) (by omega) (hI.kept hk))
  rw [htx] at HTX
  unfold Sls.val at HTX
  dsimp only at HTX
  clear hi hz0 hz1 hz2 hN hG hz htx hI hk0_ hk1_
  go_enter Tryz.func33, Tryz.ntmps33
  have p0 := HX0.out
  have p1 := HX1.out
  have p2 := HX2.out
  have p3 := HX3.out
  have p4 := HX4.out
  have p5 := HX5.out
  have p6 := HX6.out
  have p7 := HX7.out
  go_wp2_with fail
  refine wp_region_held_drew (S := (fun w' => w'.cell? ⟨w.heap.size, 0, none⟩ = some (.slice none 0 0) ∧ w'.cell? ⟨w.heap.size, 1, none⟩ = some (.slice Am nm cm) ∧ w'.cell? ⟨w.heap.size, 2, none⟩ = some (.slice none 0 0) ∧ w'.cell? ⟨w.heap.size + 1, 0, none⟩ = some (.slice none 0 0) ∧ w'.cell? ⟨w.heap.size + 1, 1, none⟩ = some (.slice none 0 0) ∧ w'.cell? ⟨w.heap.size + 1, 2, none⟩ = some (.int .i64 0) ∧ w'.cell? ⟨w.heap.size + 1, 3, none⟩ = some (.int .i64 0) ∧ w'.cell? ⟨w.heap.size + 1, 4, none⟩ = some (.int .i64 0))) (by kernel_rfl) ⟨p0, p1, p2, p3, p4, p5, p6, p7⟩ (fun hHeld => ?_)
  refine tk_ 0 ?_ rfl ?_; refine tk_ 2 ?_ rfl ?_
  refine rd_ 1 rfl (fun K hK => ?_)
  go_simp
  (refine (HMA.out _).mono ?_; rintro e w1 ⟨B1, rfl, hb1, ht1, k1⟩; have HT1 := Lib.hid ht1; clear ht1; have KB1 := Lib.hid (Kept.trans (Kept.drew (Kept.refl ((w.alloc (Obj.cells #[Value.slice none 0 0, Value.slice Am nm cm, Value.slice none 0 0] 28)).alloc (Obj.cells #[Value.slice none 0 0, Value.slice none 0 0, Value.int IntKind.i64 0, Value.int IntKind.i64 0, Value.int IntKind.i64 0] 65)))) k1))
  go_wp2_with fail
  refine hK.out _ _ ⟨Kept.cell KB1.out HX0.out, Kept.cell KB1.out HX1.out, Kept.cell KB1.out HX2.out, Kept.cell KB1.out HX3.out, Kept.cell KB1.out HX4.out, Kept.cell KB1.out HX5.out, Kept.cell KB1.out HX6.out, Kept.cell KB1.out HX7.out⟩ (fun hHeld => ?_)
  clear hK K
  (try simp only [Act.put, s1_, s2_, s3_, s4_, s5_, s6_])
  refine rd_ 3 rfl (fun K hK => ?_)
  go_simp
  (refine (HWI.out B1 _ (Kept.trans HK1.out KB1.out) (HT1.out.kept (Kept.refl _))).mono ?_; rintro e w2 ⟨rfl, k2⟩; have HT2 := Lib.hid (HT1.out.kept k2); have KB2 := Lib.hid (Kept.trans KB1.out k2))
  go_wp2_with fail
  refine hK.out _ _ ⟨Kept.cell KB2.out HX0.out, Kept.cell KB2.out HX1.out, Kept.cell KB2.out HX2.out, Kept.cell KB2.out HX3.out, Kept.cell KB2.out HX4.out, Kept.cell KB2.out HX5.out, Kept.cell KB2.out HX6.out, Kept.cell KB2.out HX7.out⟩ (fun hHeld => ?_)
  clear hK K
  (try simp only [Act.put, s1_, s2_, s3_, s4_, s5_, s6_])
  refine tk_ 4 ?_ rfl ?_
  refine wpAnyH_done (by kernel_rfl) ?_ _
  clear p0 p1 p2 p3 p4 p5 p6 p7
  have p0 := Kept.cell KB2.out HX0.out
  have p1 := Kept.cell KB2.out HX1.out
  have p2 := Kept.cell KB2.out HX2.out
  have p3 := Kept.cell KB2.out HX3.out
  have p4 := Kept.cell KB2.out HX4.out
  have p5 := Kept.cell KB2.out HX5.out
  have p6 := Kept.cell KB2.out HX6.out
  have p7 := Kept.cell KB2.out HX7.out
  go_wp2_with fail
  refine (HTX.out _ (Kept.trans HK1.out KB2.out)).mono ?_
  rintro e w3 ⟨A3, n3, c3, rfl, le3, i3, k3⟩
  obtain rfl : n3 = 1 := i3.1
  have I3 := Lib.hid i3
  clear i3
  clear p0 p1 p2 p3 p4 p5 p6 p7
  have KB3 := Lib.hid (Kept.trans KB2.out k3)
  have HT3 := Lib.hid (HT2.out.kept k3)
  clear k3
  go_wp2_with fail
  go_loopw [8, 9] (fun rv sv wr => (rv = .slice none 0 0 ∧ sv = .slice A3 1 c3 ∧ Kept w3 wr) ∨ (∃ Q k Q2 k2, rv = .slice Q 2 k ∧ sv = .slice Q2 0 k2 ∧ 2 ≤ k ∧ Sl 4 encE wr Q 2 (eltsOf 97) ∧ Kept w3 wr)) (fun _ sv _ => lenV sv)
  case atStart => exact .inl ⟨rfl, rfl, Kept.refl _⟩
  case round =>
    rcases hrel with ⟨rfl, rfl, hkw⟩ | ⟨Q, k, Q2, k2, rfl, rfl, hle, hE, hkw⟩
    · have KW := Lib.hid hkw
      have HM := Lib.hid (ct_match97 B1 A3 c3 wr (HT3.out.kept hkw) (I3.out.kept hkw))
      have hrd := fun w => run_drop1 A3 1 c3 1 (Nat.le_refl _) w
      clear hkw
      go_wp2_with fail
      refine HM.out.mono ?_
      rintro e w4 ⟨b, rfl, hb, k4⟩
      have K4 := Lib.hid (Kept.trans KW.out k4)
      have HB4 := Lib.hid hb
      clear k4 hb
      have hcell : ∀ j u, ((eltsOf 97).flatMap encE)[j]? = some u → w4.cell? ((⟨b, 0, none⟩ : Addr).add j) = some u := fun j u hu => by rw [add_zero_]; exact cell_of_block (i := j) HB4.out (by simpa [eltsOf, encE] using hu)
      go_wp2_with (at_builtin; refine wpList_append_own _ rfl _ _ 77 rfl w4.heap.size 90 i0 (.agg #[.int .i64 0, .int .i64 0, .int .i64 0, .bool false]) 4 32 Tryz.underlying77 HI0.out HZ0.out HZ1.out HZ2.out rfl (by decide) (.slice none 0 0) 0 [] rfl (World.ownsRow_nil _ _ _ _) ⟨b, 0, none⟩ 2 2 ((eltsOf 97).flatMap encE) rfl rfl hcell (by simp [Value.oneCell', eltsOf, encE]) (by unfold maxLen; omega) (by omega) (Nat.le_refl _) ?_; intro v5 w5 hown5 hgrow5 _)
      have ho : w5.ownsRow w4.heap.size 90 4 v5 (eltsOf 97).length ((eltsOf 97).flatMap encE) := by simpa [show (eltsOf 97).length = 2 from rfl] using hown5
      obtain ⟨Q, k, hv, hle, hsl⟩ := Sl.of_own (k := 4) (enc := encE) (fun _ => rfl) ho
      obtain rfl : v5 = .slice Q 2 k := hv
      have K5 := Lib.hid (show Kept w3 w5 from K4.out.grown hgrow5 K4.out.size (fun q e => by cases e))
      have HE := Lib.hid hsl
      have HLE := Lib.hid (show 2 ≤ k from hle)
      clear hown5 hgrow5 ho hsl hcell hle hrd
      go_wp2_with fail
      go_roundw
      case rel => exact .inr ⟨Q, k, _, _, rfl, rfl, HLE.out, HE.out, K5.out⟩
      case measure => simp [lenV]
    · have HE := Lib.hid hE
      have KW := Lib.hid hkw
      clear hE hkw
      go_wp2_with fail
      go_ret
      exact ⟨Q, k, rfl, hle, HE.out, Kept.trans (Kept.trans HK1.out KB3.out) KW.out⟩
set_option maxRecDepth 100000 in
set_option maxHeartbeats 2000000 in
theorem ct_elems98 (Am : Option Addr) (nm cm : Nat) (n : Nrm) (A : Option Addr) (c : Nat) (w : World) (hN : NormAt w ⟨none, 0, 0, Am, nm, cm, none, 0, 0⟩ n) (hG : Glob w) (hz : decCheck n = 0) (htx : textOf n false [98] = [98]) (hI : Ints w A 1 [98]) : Calls Tryz.prog 33 #[.agg #[.slice none 0 0, .slice Am nm cm, .slice none 0 0], .agg #[.slice none 0 0, .slice none 0 0, .int .i64 0, .int .i64 0, .int .i64 0], .slice A 1 c] w (fun e w' => ∃ Q k, e = .returned (.slice Q 2 k) ∧ 2 ≤ k ∧ Sl 4 encE w' Q 2 (eltsOf 98) ∧ Kept w w') := by
  have hk0_ := Kept.alloc (Kept.refl w) (Obj.cells #[Value.slice none 0 0, Value.slice Am nm cm, Value.slice none 0 0] 28)
  have hk1_ := Kept.alloc hk0_ (Obj.cells #[Value.slice none 0 0, Value.slice none 0 0, Value.int IntKind.i64 0, Value.int IntKind.i64 0, Value.int IntKind.i64 0] 65)
  have HK1 := Lib.hid hk1_
  have hb0_ := (alloc_lift (o := (Obj.cells #[Value.slice none 0 0, Value.slice none 0 0, Value.int IntKind.i64 0, Value.int IntKind.i64 0, Value.int IntKind.i64 0] 65)) (box_block w (Obj.cells #[Value.slice none 0 0, Value.slice Am nm cm, Value.slice none 0 0] 28)))
  have x0_ := cell_of_block (i := 0) hb0_ rfl
  have x1_ := cell_of_block (i := 1) hb0_ rfl
  have x2_ := cell_of_block (i := 2) hb0_ rfl
  have hb1_ := (box_block (w.alloc (Obj.cells #[Value.slice none 0 0, Value.slice Am nm cm, Value.slice none 0 0] 28)) (Obj.cells #[Value.slice none 0 0, Value.slice none 0 0, Value.int IntKind.i64 0, Value.int IntKind.i64 0, Value.int IntKind.i64 0] 65))
  simp only [World.size_alloc] at hb1_
  have x3_ := cell_of_block (i := 0) hb1_ rfl
  have x4_ := cell_of_block (i := 1) hb1_ rfl
  have x5_ := cell_of_block (i := 2) hb1_ rfl
  have x6_ := cell_of_block (i := 3) hb1_ rfl
  have x7_ := cell_of_block (i := 4) hb1_ rfl
  simp only [s4_, s5_, s6_] at x0_ x1_ x2_ x3_ x4_ x5_ x6_ x7_
  have HX0 := Lib.hid x0_
  have HX1 := Lib.hid x1_
  have HX2 := Lib.hid x2_
  have HX3 := Lib.hid x3_
  have HX4 := Lib.hid x4_
  have HX5 := Lib.hid x5_
  have HX6 := Lib.hid x6_
  have HX7 := Lib.hid x7_
  have HB0 := Lib.hid hb0_
  have HB1 := Lib.hid hb1_
  clear x0_ x1_ x2_ x3_ x4_ x5_ x6_ x7_ hb0_ hb1_
  obtain ⟨i0, hi, hz0, hz1, hz2⟩ := info_parts1 info_elt
  have HI0 := Lib.hid hi
  have HZ0 := Lib.hid hz0
  have HZ1 := Lib.hid hz1
  have HZ2 := Lib.hid hz2
  have HMA := Lib.hid (fun w' => ct_made w')
  have HWI := Lib.hid (fun B w' (hk : Kept w w') (h : TabAt w' B) => ct_with Am nm cm n B w' (hN.kept hk) (hG.kept hk) hz h)
  have HTX := Lib.hid (fun w' (hk : Kept w w') => text_any ⟨none, 0, 0, Am, nm, cm, none, 0, 0⟩ n A 1 c [98] false w' (hN.kept hk) (hG.kept hk) (by omega) (hI.kept hk))
  rw [htx] at HTX
  unfold Sls.val at HTX
  dsimp only at HTX
  clear hi hz0 hz1 hz2 hN hG hz htx hI hk0_ hk1_
  go_enter Tryz.func33, Tryz.ntmps33
  have p0 := HX0.out
  have p1 := HX1.out
  have p2 := HX2.out
  have p3 := HX3.out
  have p4 := HX4.out
  have p5 := HX5.out
  have p6 := HX6.out
  have p7 := HX7.out
  go_wp2_with fail
  refine wp_region_held_drew (S := (fun w' => w'.cell? ⟨w.heap.size, 0, none⟩ = some (.slice none 0 0) ∧ w'.cell? ⟨w.heap.size, 1, none⟩ = some (.slice Am nm cm) ∧ w'.cell? ⟨w.heap.size, 2, none⟩ = some (.slice none 0 0) ∧ w'.cell? ⟨w.heap.size + 1, 0, none⟩ = some (.slice none 0 0) ∧ w'.cell? ⟨w.heap.size + 1, 1, none⟩ = some (.slice none 0 0) ∧ w'.cell? ⟨w.heap.size + 1, 2, none⟩ = some (.int .i64 0) ∧ w'.cell? ⟨w.heap.size + 1, 3, none⟩ = some (.int .i64 0) ∧ w'.cell? ⟨w.heap.size + 1, 4, none⟩ = some (.int .i64 0))) (by kernel_rfl) ⟨p0, p1, p2, p3, p4, p5, p6, p7⟩ (fun hHeld => ?_)
  refine tk_ 0 ?_ rfl ?_; refine tk_ 2 ?_ rfl ?_
  refine rd_ 1 rfl (fun K hK => ?_)
  go_simp
  (refine (HMA.out _).mono ?_; rintro e w1 ⟨B1, rfl, hb1, ht1, k1⟩; have HT1 := Lib.hid ht1; clear ht1; have KB1 := Lib.hid (Kept.trans (Kept.drew (Kept.refl ((w.alloc (Obj.cells #[Value.slice none 0 0, Value.slice Am nm cm, Value.slice none 0 0] 28)).alloc (Obj.cells #[Value.slice none 0 0, Value.slice none 0 0, Value.int IntKind.i64 0, Value.int IntKind.i64 0, Value.int IntKind.i64 0] 65)))) k1))
  go_wp2_with fail
  refine hK.out _ _ ⟨Kept.cell KB1.out HX0.out, Kept.cell KB1.out HX1.out, Kept.cell KB1.out HX2.out, Kept.cell KB1.out HX3.out, Kept.cell KB1.out HX4.out, Kept.cell KB1.out HX5.out, Kept.cell KB1.out HX6.out, Kept.cell KB1.out HX7.out⟩ (fun hHeld => ?_)
  clear hK K
  (try simp only [Act.put, s1_, s2_, s3_, s4_, s5_, s6_])
  refine rd_ 3 rfl (fun K hK => ?_)
  go_simp
  (refine (HWI.out B1 _ (Kept.trans HK1.out KB1.out) (HT1.out.kept (Kept.refl _))).mono ?_; rintro e w2 ⟨rfl, k2⟩; have HT2 := Lib.hid (HT1.out.kept k2); have KB2 := Lib.hid (Kept.trans KB1.out k2))
  go_wp2_with fail
  refine hK.out _ _ ⟨Kept.cell KB2.out HX0.out, Kept.cell KB2.out HX1.out, Kept.cell KB2.out HX2.out, Kept.cell KB2.out HX3.out, Kept.cell KB2.out HX4.out, Kept.cell KB2.out HX5.out, Kept.cell KB2.out HX6.out, Kept.cell KB2.out HX7.out⟩ (fun hHeld => ?_)
  clear hK K
  (try simp only [Act.put, s1_, s2_, s3_, s4_, s5_, s6_])
  refine tk_ 4 ?_ rfl ?_
  refine wpAnyH_done (by kernel_rfl) ?_ _
  clear p0 p1 p2 p3 p4 p5 p6 p7
  have p0 := Kept.cell KB2.out HX0.out
  have p1 := Kept.cell KB2.out HX1.out
  have p2 := Kept.cell KB2.out HX2.out
  have p3 := Kept.cell KB2.out HX3.out
  have p4 := Kept.cell KB2.out HX4.out
  have p5 := Kept.cell KB2.out HX5.out
  have p6 := Kept.cell KB2.out HX6.out
  have p7 := Kept.cell KB2.out HX7.out
  go_wp2_with fail
  refine (HTX.out _ (Kept.trans HK1.out KB2.out)).mono ?_
  rintro e w3 ⟨A3, n3, c3, rfl, le3, i3, k3⟩
  obtain rfl : n3 = 1 := i3.1
  have I3 := Lib.hid i3
  clear i3
  clear p0 p1 p2 p3 p4 p5 p6 p7
  have KB3 := Lib.hid (Kept.trans KB2.out k3)
  have HT3 := Lib.hid (HT2.out.kept k3)
  clear k3
  go_wp2_with fail
  go_loopw [8, 9] (fun rv sv wr => (rv = .slice none 0 0 ∧ sv = .slice A3 1 c3 ∧ Kept w3 wr) ∨ (∃ Q k Q2 k2, rv = .slice Q 2 k ∧ sv = .slice Q2 0 k2 ∧ 2 ≤ k ∧ Sl 4 encE wr Q 2 (eltsOf 98) ∧ Kept w3 wr)) (fun _ sv _ => lenV sv)
  case atStart => exact .inl ⟨rfl, rfl, Kept.refl _⟩
  case round =>
    rcases hrel with ⟨rfl, rfl, hkw⟩ | ⟨Q, k, Q2, k2, rfl, rfl, hle, hE, hkw⟩
    · have KW := Lib.hid hkw
      have HM := Lib.hid (ct_match98 B1 A3 c3 wr (HT3.out.kept hkw) (I3.out.kept hkw))
      have hrd := fun w => run_drop1 A3 1 c3 1 (Nat.le_refl _) w
      clear hkw
      go_wp2_with fail
      refine HM.out.mono ?_
      rintro e w4 ⟨b, rfl, hb, k4⟩
      have K4 := Lib.hid (Kept.trans KW.out k4)
      have HB4 := Lib.hid hb
      clear k4 hb
      have hcell : ∀ j u, ((eltsOf 98).flatMap encE)[j]? = some u → w4.cell? ((⟨b, 0, none⟩ : Addr).add j) = some u := fun j u hu => by rw [add_zero_]; exact cell_of_block (i := j) HB4.out (by simpa [eltsOf, encE] using hu)
      go_wp2_with (at_builtin; refine wpList_append_own _ rfl _ _ 77 rfl w4.heap.size 90 i0 (.agg #[.int .i64 0, .int .i64 0, .int .i64 0, .bool false]) 4 32 Tryz.underlying77 HI0.out HZ0.out HZ1.out HZ2.out rfl (by decide) (.slice none 0 0) 0 [] rfl (World.ownsRow_nil _ _ _ _) ⟨b, 0, none⟩ 2 2 ((eltsOf 98).flatMap encE) rfl rfl hcell (by simp [Value.oneCell', eltsOf, encE]) (by unfold maxLen; omega) (by omega) (Nat.le_refl _) ?_; intro v5 w5 hown5 hgrow5 _)
      have ho : w5.ownsRow w4.heap.size 90 4 v5 (eltsOf 98).length ((eltsOf 98).flatMap encE) := by simpa [show (eltsOf 98).length = 2 from rfl] using hown5
      obtain ⟨Q, k, hv, hle, hsl⟩ := Sl.of_own (k := 4) (enc := encE) (fun _ => rfl) ho
      obtain rfl : v5 = .slice Q 2 k := hv
      have K5 := Lib.hid (show Kept w3 w5 from K4.out.grown hgrow5 K4.out.size (fun q e => by cases e))
      have HE := Lib.hid hsl
      have HLE := Lib.hid (show 2 ≤ k from hle)
      clear hown5 hgrow5 ho hsl hcell hle hrd
      go_wp2_with fail
      go_roundw
      case rel => exact .inr ⟨Q, k, _, _, rfl, rfl, HLE.out, HE.out, K5.out⟩
      case measure => simp [lenV]
    · have HE := Lib.hid hE
      have KW := Lib.hid hkw
      clear hE hkw
      go_wp2_with fail
      go_ret
      exact ⟨Q, k, rfl, hle, HE.out, Kept.trans (Kept.trans HK1.out KB3.out) KW.out⟩
end Go.Proofs.YtckgmkjoblneeaaGreatDoor
