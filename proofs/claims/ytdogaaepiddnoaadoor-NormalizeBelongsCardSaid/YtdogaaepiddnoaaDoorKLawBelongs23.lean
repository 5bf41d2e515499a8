/- law23.NormalizeBelongs returns true. -/
import Derived.Deep.RegionHeld3
import Derived.Test.YtdogaaepiddnoaaDoorKAlv
namespace Go.Proofs.YtdogaaepiddnoaaDoor
open Go Go.RowKit

set_option maxRecDepth 100000 in
set_option maxHeartbeats 4000000 in
theorem law_belongs23 (s : Sls) (n : Nrm) (A : Option Addr) (l c : Nat) (xs : List Int) (w : World) (hN : NormIn w s n) (hI : l ≤ c ∧ c ≤ 9223372036854775807 ∧ Ints w A l xs) (hG : Glob w) : Calls Tryd.prog 8 #[s.val, .slice A l c] w (RetB w true) := by
  have hk1 := Kept.alloc (Kept.refl w) (Obj.cells #[Value.slice s.Ac s.nc s.cc, Value.slice s.Am s.nm s.cm, Value.slice s.Ae s.ne s.ce] 28)
  have HK1 := Lib.hid hk1
  have hbx := box_cell w #[Value.slice s.Ac s.nc s.cc, Value.slice s.Am s.nm s.cm, Value.slice s.Ae s.ne s.ce] 28
  have x0 : (w.alloc (Obj.cells #[Value.slice s.Ac s.nc s.cc, Value.slice s.Am s.nm s.cm, Value.slice s.Ae s.ne s.ce] 28)).cell? ⟨w.heap.size, 0, none⟩ = some (.slice s.Ac s.nc s.cc) := hbx 0
  have x1 : (w.alloc (Obj.cells #[Value.slice s.Ac s.nc s.cc, Value.slice s.Am s.nm s.cm, Value.slice s.Ae s.ne s.ce] 28)).cell? ⟨w.heap.size, 1, none⟩ = some (.slice s.Am s.nm s.cm) := hbx 1
  have x2 : (w.alloc (Obj.cells #[Value.slice s.Ac s.nc s.cc, Value.slice s.Am s.nm s.cm, Value.slice s.Ae s.ne s.ce] 28)).cell? ⟨w.heap.size, 2, none⟩ = some (.slice s.Ae s.ne s.ce) := hbx 2
  have HX0 := Lib.hid x0
  have HX1 := Lib.hid x1
  have HX2 := Lib.hid x2
  have HN := Lib.hid hN
  have HG := Lib.hid hG
  obtain ⟨hle, hbig, hI⟩ := hI
  have HS := Lib.hid (few23 s n A l c (w.alloc (Obj.cells #[Value.slice s.Ac s.nc s.cc, Value.slice s.Am s.nm s.cm, Value.slice s.Ae s.ne s.ce] 28)) (hN.kept hk1) ⟨hle, hbig⟩)
  have HI := Lib.hid hI
  clear hN hG hk1 hbx x0 x1 x2 hI hle hbig
  cases hsm : (smallB n && decide (l ≤ 40))
  · rw [hsm] at HS
    clear hsm
    unfold Sls.val at *
    go_enter Tryd.func8, Tryd.ntmps8
    go_wp2_with fail
    refine (HS.out).mono ?_
    rintro e w1 ⟨rfl, k1⟩
    have KB1 := Lib.hid (Kept.trans (Kept.refl (w.alloc (Obj.cells #[Value.slice s.Ac s.nc s.cc, Value.slice s.Am s.nm s.cm, Value.slice s.Ae s.ne s.ce] 28))) k1)
    go_wp2_with fail
    refine (alive23 _ (HG.out.kept (Kept.trans HK1.out KB1.out))).mono ?_
    rintro e w2 ⟨rfl, k2⟩
    have KB2 := Lib.hid (Kept.trans KB1.out k2)
    go_wp2_with fail
    go_ret
    exact ⟨rfl, (Kept.trans HK1.out KB2.out)⟩
  · rw [hsm] at HS
    obtain ⟨hsb, hl40⟩ := (Bool.and_eq_true _ _).mp hsm
    have hl40 := of_decide_eq_true hl40
    have HNA := Lib.hid (HN.out.small hsb)
    have HXL := Lib.hid HI.out.1
    clear hsm hsb
    have HF := Lib.hid (fun f w' (hk : Kept w w') => form_any s n f A l c xs w' (HNA.out.kept hk) (HG.out.kept hk) (by omega) (HI.out.kept hk))
    have HLF := Lib.hid (fun f => show (formOf n f xs).length ≤ 10000 by have := formOf_length n f xs; have := HXL.out; omega)
    have HSA := Lib.hid (fun f cp A' n' c' w' (hk : Kept w w') (hn' : n' ≤ 10000) (hZ : Ints w' A' n' (formOf n f xs)) => nsame_any s n cp A l c xs A' n' c' (formOf n f xs) w' (HNA.out.kept hk) (HG.out.kept hk) (by omega) hn' (HI.out.kept hk) hZ)
    unfold Sls.val at *
    go_enter Tryd.func8, Tryd.ntmps8
    have p0 := HX0.out
    have p1 := HX1.out
    have p2 := HX2.out
    go_wp2_with fail
    refine (HS.out).mono ?_
    rintro e w1 ⟨rfl, k1⟩
    clear p0 p1 p2
    have KB1 := Lib.hid (Kept.trans (Kept.refl (w.alloc (Obj.cells #[Value.slice s.Ac s.nc s.cc, Value.slice s.Am s.nm s.cm, Value.slice s.Ae s.ne s.ce] 28))) k1)
    go_wp2_with fail
    go_loopw [5] (fun f wr => ∃ k : Int, 1 ≤ k ∧ k ≤ 5 ∧ f = .int .i64 k ∧ Kept w1 wr) (fun f _ => (5 - intOf f).toNat)
    case atStart => exact ⟨1, by omega, by omega, rfl, Kept.refl _⟩
    case round =>
      obtain ⟨k, hk1, hk5, rfl, hkw⟩ := hrel
      have HKWR := Lib.hid hkw
      have KBr := Lib.hid (Kept.trans KB1.out hkw)
      clear hkw
      rcases (show k = 1 ∨ k = 2 ∨ k = 3 ∨ k = 4 ∨ k = 5 by omega) with rfl | rfl | rfl | rfl | rfl
      · have HS4 := Lib.hid (HSA.out 1 true)
        have HS2 := Lib.hid (HSA.out 1 false)
        simp only [sameForm, Bool.false_eq_true, if_false, if_true] at HS4 HS2
        rw [show decide (formOf n 4 xs = formOf n 4 (formOf n 1 xs)) = true from decide_eq_true (by rw [formOf_4 n (formOf n 1 xs), form_kd n (by omega) (by omega), ← formOf_4])] at HS4
        rw [show decide (formOf n 2 xs = formOf n 2 (formOf n 1 xs)) = true from decide_eq_true (by rw [formOf_2 n (formOf n 1 xs), form_d n (by omega), ← formOf_2])] at HS2
        have HLk := Lib.hid (HLF.out 1)
        have HFk := Lib.hid (HF.out 1)
        clear HF HSA HLF hk1 hk5
        generalize formOf n 1 xs = X at *
        have q0 := Kept.cell KBr.out HX0.out
        have q1 := Kept.cell KBr.out HX1.out
        have q2 := Kept.cell KBr.out HX2.out
        go_wp2_with fail
        refine (HFk.out _ (Kept.trans HK1.out KBr.out)).mono ?_
        rintro e w2 ⟨A2, n2, c2, rfl, le2, i2, k2⟩
        have hn2 : n2 ≤ 10000 := by rw [i2.1]; exact HLk.out
        have I2 := Lib.hid i2
        have KB2 := Lib.hid (Kept.trans KBr.out k2)
        clear i2 q0 q1 q2
        have q0 := Kept.cell KB2.out HX0.out
        have q1 := Kept.cell KB2.out HX1.out
        have q2 := Kept.cell KB2.out HX2.out
        go_wp2_with fail
        refine (HS4.out A2 n2 c2 _ (Kept.trans HK1.out KB2.out) hn2 I2.out).mono ?_
        rintro e w3 ⟨rfl, k3⟩
        have KB3 := Lib.hid (Kept.trans KB2.out k3)
        clear q0 q1 q2
        have q0 := Kept.cell KB3.out HX0.out
        have q1 := Kept.cell KB3.out HX1.out
        have q2 := Kept.cell KB3.out HX2.out
        go_wp2_with fail
        refine (HS2.out A2 n2 c2 _ (Kept.trans HK1.out KB3.out) hn2 (I2.out.kept k3)).mono ?_
        rintro e w4 ⟨rfl, k4⟩
        go_wp2_with fail
        go_roundw
        case rel => exact ⟨2, by omega, by omega, rfl, Kept.trans HKWR.out (Kept.trans k2 (Kept.trans k3 k4))⟩
        case measure => simp [intOf]
      · have HS4 := Lib.hid (HSA.out 2 true)
        have HS2 := Lib.hid (HSA.out 2 false)
        simp only [sameForm, Bool.false_eq_true, if_false, if_true] at HS4 HS2
        rw [show decide (formOf n 4 xs = formOf n 4 (formOf n 2 xs)) = true from decide_eq_true (by rw [formOf_4 n (formOf n 2 xs), form_kd n (by omega) (by omega), ← formOf_4])] at HS4
        rw [show decide (formOf n 2 xs = formOf n 2 (formOf n 2 xs)) = true from decide_eq_true (by rw [formOf_2 n (formOf n 2 xs), form_d n (by omega), ← formOf_2])] at HS2
        have HLk := Lib.hid (HLF.out 2)
        have HFk := Lib.hid (HF.out 2)
        clear HF HSA HLF hk1 hk5
        generalize formOf n 2 xs = X at *
        have q0 := Kept.cell KBr.out HX0.out
        have q1 := Kept.cell KBr.out HX1.out
        have q2 := Kept.cell KBr.out HX2.out
        go_wp2_with fail
        refine (HFk.out _ (Kept.trans HK1.out KBr.out)).mono ?_
        rintro e w2 ⟨A2, n2, c2, rfl, le2, i2, k2⟩
        have hn2 : n2 ≤ 10000 := by rw [i2.1]; exact HLk.out
        have I2 := Lib.hid i2
        have KB2 := Lib.hid (Kept.trans KBr.out k2)
        clear i2 q0 q1 q2
        have q0 := Kept.cell KB2.out HX0.out
        have q1 := Kept.cell KB2.out HX1.out
        have q2 := Kept.cell KB2.out HX2.out
        go_wp2_with fail
        refine (HS4.out A2 n2 c2 _ (Kept.trans HK1.out KB2.out) hn2 I2.out).mono ?_
        rintro e w3 ⟨rfl, k3⟩
        have KB3 := Lib.hid (Kept.trans KB2.out k3)
        clear q0 q1 q2
        have q0 := Kept.cell KB3.out HX0.out
        have q1 := Kept.cell KB3.out HX1.out
        have q2 := Kept.cell KB3.out HX2.out
        go_wp2_with fail
        refine (HS2.out A2 n2 c2 _ (Kept.trans HK1.out KB3.out) hn2 (I2.out.kept k3)).mono ?_
        rintro e w4 ⟨rfl, k4⟩
        go_wp2_with fail
        go_roundw
        case rel => exact ⟨3, by omega, by omega, rfl, Kept.trans HKWR.out (Kept.trans k2 (Kept.trans k3 k4))⟩
        case measure => simp [intOf]
      · have HS4 := Lib.hid (HSA.out 3 true)
        have HS2 := Lib.hid (HSA.out 3 false)
        simp only [sameForm, Bool.false_eq_true, if_false, if_true] at HS4 HS2
        rw [show decide (formOf n 4 xs = formOf n 4 (formOf n 3 xs)) = true from decide_eq_true (by rw [formOf_4 n (formOf n 3 xs), form_kd n (by omega) (by omega), ← formOf_4])] at HS4
        have HLk := Lib.hid (HLF.out 3)
        have HFk := Lib.hid (HF.out 3)
        clear HF HSA HLF hk1 hk5
        generalize formOf n 3 xs = X at *
        have q0 := Kept.cell KBr.out HX0.out
        have q1 := Kept.cell KBr.out HX1.out
        have q2 := Kept.cell KBr.out HX2.out
        go_wp2_with fail
        refine (HFk.out _ (Kept.trans HK1.out KBr.out)).mono ?_
        rintro e w2 ⟨A2, n2, c2, rfl, le2, i2, k2⟩
        have hn2 : n2 ≤ 10000 := by rw [i2.1]; exact HLk.out
        have I2 := Lib.hid i2
        have KB2 := Lib.hid (Kept.trans KBr.out k2)
        clear i2 q0 q1 q2
        have q0 := Kept.cell KB2.out HX0.out
        have q1 := Kept.cell KB2.out HX1.out
        have q2 := Kept.cell KB2.out HX2.out
        go_wp2_with fail
        refine (HS4.out A2 n2 c2 _ (Kept.trans HK1.out KB2.out) hn2 I2.out).mono ?_
        rintro e w3 ⟨rfl, k3⟩
        have KB3 := Lib.hid (Kept.trans KB2.out k3)
        clear q0 q1 q2
        go_wp2_with fail
        go_roundw
        case rel => exact ⟨4, by omega, by omega, rfl, Kept.trans HKWR.out (Kept.trans k2 k3)⟩
        case measure => simp [intOf]
      · have HS4 := Lib.hid (HSA.out 4 true)
        have HS2 := Lib.hid (HSA.out 4 false)
        simp only [sameForm, Bool.false_eq_true, if_false, if_true] at HS4 HS2
        rw [show decide (formOf n 4 xs = formOf n 4 (formOf n 4 xs)) = true from decide_eq_true (by rw [formOf_4 n (formOf n 4 xs), form_kd n (by omega) (by omega), ← formOf_4])] at HS4
        have HLk := Lib.hid (HLF.out 4)
        have HFk := Lib.hid (HF.out 4)
        clear HF HSA HLF hk1 hk5
        generalize formOf n 4 xs = X at *
        have q0 := Kept.cell KBr.out HX0.out
        have q1 := Kept.cell KBr.out HX1.out
        have q2 := Kept.cell KBr.out HX2.out
        go_wp2_with fail
        refine (HFk.out _ (Kept.trans HK1.out KBr.out)).mono ?_
        rintro e w2 ⟨A2, n2, c2, rfl, le2, i2, k2⟩
        have hn2 : n2 ≤ 10000 := by rw [i2.1]; exact HLk.out
        have I2 := Lib.hid i2
        have KB2 := Lib.hid (Kept.trans KBr.out k2)
        clear i2 q0 q1 q2
        have q0 := Kept.cell KB2.out HX0.out
        have q1 := Kept.cell KB2.out HX1.out
        have q2 := Kept.cell KB2.out HX2.out
        go_wp2_with fail
        refine (HS4.out A2 n2 c2 _ (Kept.trans HK1.out KB2.out) hn2 I2.out).mono ?_
        rintro e w3 ⟨rfl, k3⟩
        have KB3 := Lib.hid (Kept.trans KB2.out k3)
        clear q0 q1 q2
        go_wp2_with fail
        go_roundw
        case rel => exact ⟨5, by omega, by omega, rfl, Kept.trans HKWR.out (Kept.trans k2 k3)⟩
        case measure => simp [intOf]
      · go_wp2_with fail
        refine (alive23 _ (HG.out.kept (Kept.trans HK1.out KBr.out))).mono ?_
        rintro e w2 ⟨rfl, k2⟩
        go_wp2_with fail
        go_ret
        exact ⟨rfl, Kept.trans HK1.out (Kept.trans KBr.out k2)⟩
end Go.Proofs.YtdogaaepiddnoaaDoor
