/- law24.few and alive. -/
import Derived.Test.YtjfhcmkcmdnhoaaGreatDoorKFew
import Derived.Test.YtjfhcmkcmdnhoaaGreatDoorKQcj
import Derived.Test.YtjfhcmkcmdnhoaaGreatDoorKQr
namespace Go.Proofs.YtjfhcmkcmdnhoaaGreatDoor
open Go Go.RowKit

set_option maxRecDepth 100000 in
set_option maxHeartbeats 1000000 in
theorem few24 (s : Sls) (n : Nrm) (A : Option Addr) (l c : Nat) (w : World) (hN : NormIn w s n) (hl : l ≤ c ∧ c ≤ 9223372036854775807) : Calls Tryz.prog 34 #[s.val, .slice A l c] w (RetB w (smallB n && decide (l ≤ 12))) := by
  have hk1 := Kept.alloc (Kept.refl w) (Obj.cells #[Value.slice s.Ac s.nc s.cc, Value.slice s.Am s.nm s.cm, Value.slice s.Ae s.ne s.ce] 28)
  have HK1 := Lib.hid hk1
  have HS := Lib.hid (r21small s n (w.alloc (Obj.cells #[Value.slice s.Ac s.nc s.cc, Value.slice s.Am s.nm s.cm, Value.slice s.Ae s.ne s.ce] 28)) (hN.kept hk1))
  clear hN hk1
  obtain ⟨hle, hc⟩ := hl
  cases hsm : smallB n
  all_goals
    rw [hsm] at HS
    clear hsm
    unfold Sls.val at *
    go_enter Tryz.func34, Tryz.ntmps34
    go_wp2_with (go_at_call 29; refine HS.out.mono ?_; rintro e w1 ⟨rfl, k1⟩)
    go_ret
    refine ⟨ret_bool ?_, Kept.trans HK1.out k1⟩
    first | rfl | (simp; try omega)

set_option maxRecDepth 100000 in
set_option maxHeartbeats 4000000 in
theorem alive24 (w : World) (hG : Glob w) : Calls Tryz.prog 30 #[] w (RetB w true) := by
  have HG := Lib.hid hG
  clear hG
  have HK0 := Lib.hid (Kept.alloc (Kept.refl w) (Obj.cells #[Value.slice none 0 0, Value.slice none 0 0, Value.slice none 0 0] 28))
  have HB := Lib.hid (box_block w (Obj.cells #[Value.slice none 0 0, Value.slice none 0 0, Value.slice none 0 0] 28))
  have HC1 := Lib.hid (fun w' (hk : Kept w w') => qchar_any emptyS emptyN 1 4449 w' (emptyS_at _) (HG.out.kept hk))
  have HC2 := Lib.hid (fun w' (hk : Kept w w') => qchar_any emptyS emptyN 2 4449 w' (emptyS_at _) (HG.out.kept hk))
  have HC3 := Lib.hid (fun w' (hk : Kept w w') => qchar_any emptyS emptyN 2 44032 w' (emptyS_at _) (HG.out.kept hk))
  have HB1 := Lib.hid (fun w' (hk : Kept w w') => bound_any emptyS emptyN 1 4449 w' (emptyS_at _) (HG.out.kept hk))
  have HB2 := Lib.hid (fun w' (hk : Kept w w') => bound_any emptyS emptyN 2 4449 w' (emptyS_at _) (HG.out.kept hk))
  rw [emptyQ_1] at HC1
  rw [emptyQ_2] at HC2
  rw [emptyQ_3] at HC3
  rw [emptyQ_b1] at HB1
  rw [emptyQ_b2] at HB2
  unfold Sls.val emptyS at *
  go_enter Tryz.func30, Tryz.ntmps30
  go_wp2_with fail
  refine (HC1.out _ HK0.out).mono ?_
  rintro e w1 ⟨rfl, k1⟩
  have K1 := Lib.hid (Kept.trans HK0.out k1)
  have HB := Lib.hid ((k1.block _ (block_lt HB.out)).trans HB.out)
  clear k1
  have p0 := cell_of_block (i := 0) HB.out rfl
  have p1 := cell_of_block (i := 1) HB.out rfl
  have p2 := cell_of_block (i := 2) HB.out rfl
  simp only [List.getElem_toArray, List.getElem_cons_zero, List.getElem_cons_succ] at p0 p1 p2
  go_wp2_with fail
  refine (HB1.out _ K1.out).mono ?_
  rintro e w2 ⟨rfl, k2⟩
  clear p0 p1 p2
  have K2 := Lib.hid (Kept.trans K1.out k2)
  have HB := Lib.hid ((k2.block _ (block_lt HB.out)).trans HB.out)
  clear k2
  have p0 := cell_of_block (i := 0) HB.out rfl
  have p1 := cell_of_block (i := 1) HB.out rfl
  have p2 := cell_of_block (i := 2) HB.out rfl
  simp only [List.getElem_toArray, List.getElem_cons_zero, List.getElem_cons_succ] at p0 p1 p2
  go_wp2_with fail
  refine (HC2.out _ K2.out).mono ?_
  rintro e w3 ⟨rfl, k3⟩
  clear p0 p1 p2
  have K3 := Lib.hid (Kept.trans K2.out k3)
  have HB := Lib.hid ((k3.block _ (block_lt HB.out)).trans HB.out)
  clear k3
  have p0 := cell_of_block (i := 0) HB.out rfl
  have p1 := cell_of_block (i := 1) HB.out rfl
  have p2 := cell_of_block (i := 2) HB.out rfl
  simp only [List.getElem_toArray, List.getElem_cons_zero, List.getElem_cons_succ] at p0 p1 p2
  go_wp2_with fail
  refine (HB2.out _ K3.out).mono ?_
  rintro e w4 ⟨rfl, k4⟩
  clear p0 p1 p2
  have K4 := Lib.hid (Kept.trans K3.out k4)
  have HB := Lib.hid ((k4.block _ (block_lt HB.out)).trans HB.out)
  clear k4
  have p0 := cell_of_block (i := 0) HB.out rfl
  have p1 := cell_of_block (i := 1) HB.out rfl
  have p2 := cell_of_block (i := 2) HB.out rfl
  simp only [List.getElem_toArray, List.getElem_cons_zero, List.getElem_cons_succ] at p0 p1 p2
  go_wp2_with fail
  refine (HC3.out _ K4.out).mono ?_
  rintro e w5 ⟨rfl, k5⟩
  go_wp2_with fail
  go_ret
  exact ⟨rfl, Kept.trans K4.out k5⟩
end Go.Proofs.YtjfhcmkcmdnhoaaGreatDoor
