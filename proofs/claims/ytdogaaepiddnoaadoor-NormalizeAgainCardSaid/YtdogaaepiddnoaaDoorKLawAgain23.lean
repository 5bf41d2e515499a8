/- law23.NormalizeAgain returns true. -/
import Derived.Deep.RegionHeld3
import Derived.Test.YtdogaaepiddnoaaDoorKAlv
namespace Go.Proofs.YtdogaaepiddnoaaDoor
open Go Go.RowKit

set_option maxRecDepth 100000 in
set_option maxHeartbeats 4000000 in
theorem law_again23 (s : Sls) (n : Nrm) (form : Int) (A : Option Addr) (l c : Nat) (xs : List Int) (w : World) (hN : NormIn w s n) (_hx : I64 form) (hI : l ≤ c ∧ c ≤ 9223372036854775807 ∧ Ints w A l xs) (hG : Glob w) : Calls Tryd.prog 3 #[s.val, .int .i64 form, .slice A l c] w (RetB w true) := by
  have hk1 := Kept.alloc (Kept.refl w) (Obj.cells #[Value.slice s.Ac s.nc s.cc, Value.slice s.Am s.nm s.cm, Value.slice s.Ae s.ne s.ce] 28)
  have HK1 := Lib.hid hk1
  have hbx := box_cell w #[Value.slice s.Ac s.nc s.cc, Value.slice s.Am s.nm s.cm, Value.slice s.Ae s.ne s.ce] 28
  have x0 : (w.alloc (Obj.cells #[Value.slice s.Ac s.nc s.cc, Value.slice s.Am s.nm s.cm, Value.slice s.Ae s.ne s.ce] 28)).cell? ⟨w.heap.size, 0, none⟩ = some (.slice s.Ac s.nc s.cc) := hbx 0
  have x1 : (w.alloc (Obj.cells #[Value.slice s.Ac s.nc s.cc, Value.slice s.Am s.nm s.cm, Value.slice s.Ae s.ne s.ce] 28)).cell? ⟨w.heap.size, 1, none⟩ = some (.slice s.Am s.nm s.cm) := hbx 1
  have x2 : (w.alloc (Obj.cells #[Value.slice s.Ac s.nc s.cc, Value.slice s.Am s.nm s.cm, Value.slice s.Ae s.ne s.ce] 28)).cell? ⟨w.heap.size, 2, none⟩ = some (.slice s.Ae s.ne s.ce) := hbx 2
  have HX0 := Lib.hid x0
  have HX1 := Lib.hid x1
  have HX2 := Lib.hid x2
  have HN := Lib.hid hN
  have HG := Lib.hid hG
  obtain ⟨hle, hbig, hI⟩ := hI
  have HS := Lib.hid (few23 s n A l c (w.alloc (Obj.cells #[Value.slice s.Ac s.nc s.cc, Value.slice s.Am s.nm s.cm, Value.slice s.Ae s.ne s.ce] 28)) (hN.kept hk1) ⟨hle, hbig⟩)
  have HI := Lib.hid hI
  clear hN hG hk1 hbx x0 x1 x2 hI hle hbig
  cases hsm : (smallB n && decide (l ≤ 40))
  · rw [hsm] at HS
    clear hsm
    unfold Sls.val at *
    go_enter Tryd.func3, Tryd.ntmps3
    go_wp2_with fail
    refine (HS.out).mono ?_
    rintro e w1 ⟨rfl, k1⟩
    have KB1 := Lib.hid (Kept.trans (Kept.refl (w.alloc (Obj.cells #[Value.slice s.Ac s.nc s.cc, Value.slice s.Am s.nm s.cm, Value.slice s.Ae s.ne s.ce] 28))) k1)
    go_wp2_with fail
    refine (alive23 _ (HG.out.kept (Kept.trans HK1.out KB1.out))).mono ?_
    rintro e w2 ⟨rfl, k2⟩
    have KB2 := Lib.hid (Kept.trans KB1.out k2)
    go_wp2_with fail
    go_ret
    exact ⟨rfl, (Kept.trans HK1.out KB2.out)⟩
  · rw [hsm] at HS
    obtain ⟨hsb, hl40⟩ := (Bool.and_eq_true _ _).mp hsm
    have hl40 := of_decide_eq_true hl40
    have HNA := Lib.hid (HN.out.small hsb)
    have HXL := Lib.hid HI.out.1
    clear hsm hsb
    have HT0 := Lib.hid (fun w' (hk : Kept w w') => form_any s n form A l c xs w' (HNA.out.kept hk) (HG.out.kept hk) (by omega) (HI.out.kept hk))
    have HI0 := Lib.hid (fun w' (hk : Kept w w') => nis_any s n form A l c xs w' (HNA.out.kept hk) (HG.out.kept hk) (by omega) (HI.out.kept hk))
    have HT1 := Lib.hid (fun A' n' c' w' (hk : Kept w w') (hn' : n' ≤ 10000) (hZ : Ints w' A' n' (formOf n form xs)) => form_any s n form A' n' c' _ w' (HNA.out.kept hk) (HG.out.kept hk) hn' hZ)
    have HI1 := Lib.hid (fun A' n' c' w' (hk : Kept w w') (hn' : n' ≤ 10000) (hZ : Ints w' A' n' (formOf n form xs)) => nis_any s n form A' n' c' _ w' (HNA.out.kept hk) (HG.out.kept hk) hn' hZ)
    have HF1 := Lib.hid (fun A' n' c' w' (hk : Kept w w') (hn' : n' ≤ 10000) (hZ : Ints w' A' n' (formOf n form xs)) => nfirst_any s n form A' n' c' _ w' (HNA.out.kept hk) (HG.out.kept hk) hn' hZ)
    rw [form_again] at HT1 HI1 HF1
    rw [firstI_same] at HF1
    rw [decide_eq_true (rfl : formOf n form xs = formOf n form xs)] at HI1
    have HLX := Lib.hid (show (formOf n form xs).length ≤ 10000 by have := formOf_length n form xs; have := HXL.out; omega)
    generalize formOf n form xs = X at *
    obtain ⟨bb, hbb⟩ : ∃ bb : Bool, decide (X = xs) = bb := ⟨_, rfl⟩
    rw [hbb] at HI0
    have HBB := Lib.hid hbb
    clear hbb
    have hself : (bb == bb) = true := by cases bb <;> rfl
    have HL1 := HLX
    unfold Sls.val at *
    go_enter Tryd.func3, Tryd.ntmps3
    have p0 := HX0.out
    have p1 := HX1.out
    have p2 := HX2.out
    go_wp2_with fail
    refine (HS.out).mono ?_
    rintro e w1 ⟨rfl, k1⟩
    clear p0 p1 p2
    have KB1 := Lib.hid (Kept.trans (Kept.refl (w.alloc (Obj.cells #[Value.slice s.Ac s.nc s.cc, Value.slice s.Am s.nm s.cm, Value.slice s.Ae s.ne s.ce] 28))) k1)
    have p0 := Kept.cell KB1.out HX0.out
    have p1 := Kept.cell KB1.out HX1.out
    have p2 := Kept.cell KB1.out HX2.out
    go_wp2_with fail
    refine (HT0.out _ (Kept.trans HK1.out KB1.out)).mono ?_
    rintro e w2 ⟨A2, n2, c2, rfl, le2, i2, k2⟩
    have I2 := Lib.hid i2
    have hn2 : n2 ≤ 10000 := (by rw [i2.1]; exact HLX.out)
    clear i2
    clear p0 p1 p2
    have KB2 := Lib.hid (Kept.trans KB1.out k2)
    have p0 := Kept.cell KB2.out HX0.out
    have p1 := Kept.cell KB2.out HX1.out
    have p2 := Kept.cell KB2.out HX2.out
    go_wp2_with fail
    refine (HT1.out A2 n2 c2 _ (Kept.trans HK1.out KB2.out) hn2 (I2.out.kept (Kept.refl _))).mono ?_
    rintro e w3 ⟨A3, n3, c3, rfl, le3, i3, k3⟩
    have I3 := Lib.hid i3
    have hn3 : n3 ≤ 10000 := (by rw [i3.1]; exact HLX.out)
    clear i3
    clear p0 p1 p2
    have KB3 := Lib.hid (Kept.trans KB2.out k3)
    go_wp2_with fail
    refine (r01_same X A3 A2 n3 n2 c3 c2 _ HL1.out I3.out (I2.out.kept k3)).mono ?_
    rintro e w4 ⟨rfl, k4⟩
    have KB4 := Lib.hid (Kept.trans KB3.out k4)
    have p0 := Kept.cell KB4.out HX0.out
    have p1 := Kept.cell KB4.out HX1.out
    have p2 := Kept.cell KB4.out HX2.out
    go_wp2_with fail
    refine (HI1.out A2 n2 c2 _ (Kept.trans HK1.out KB4.out) hn2 (I2.out.kept (Kept.trans k3 k4))).mono ?_
    rintro e w5 ⟨rfl, k5⟩
    clear p0 p1 p2
    have KB5 := Lib.hid (Kept.trans KB4.out k5)
    have p0 := Kept.cell KB5.out HX0.out
    have p1 := Kept.cell KB5.out HX1.out
    have p2 := Kept.cell KB5.out HX2.out
    go_wp2_with fail
    refine (HF1.out A2 n2 c2 _ (Kept.trans HK1.out KB5.out) hn2 (I2.out.kept (Kept.trans k3 (Kept.trans k4 k5)))).mono ?_
    rintro e w6 ⟨rfl, k6⟩
    clear p0 p1 p2
    have KB6 := Lib.hid (Kept.trans KB5.out k6)
    have p0 := Kept.cell KB6.out HX0.out
    have p1 := Kept.cell KB6.out HX1.out
    have p2 := Kept.cell KB6.out HX2.out
    go_wp2_with fail
    refine (HI0.out _ (Kept.trans HK1.out KB6.out)).mono ?_
    rintro e w7 ⟨rfl, k7⟩
    clear p0 p1 p2
    have KB7 := Lib.hid (Kept.trans KB6.out k7)
    have HE := Lib.hid (r01Equal A2 A n2 l c2 c X xs w7 (by omega) (by omega) (I2.out.kept (Kept.trans k3 (Kept.trans k4 (Kept.trans k5 (Kept.trans k6 k7))))) (HI.out.kept (Kept.trans HK1.out KB7.out)))
    rw [HBB.out] at HE
    go_wp2_with fail
    refine (HE.out).mono ?_
    rintro e w8 ⟨rfl, k8⟩
    have KB8 := Lib.hid (Kept.trans KB7.out k8)
    go_wp2_with fail
    refine (alive23 _ (HG.out.kept (Kept.trans HK1.out KB8.out))).mono ?_
    rintro e w9 ⟨rfl, k9⟩
    have KB9 := Lib.hid (Kept.trans KB8.out k9)
    go_wp2_with fail
    go_ret
    exact ⟨rfl, (Kept.trans HK1.out KB9.out)⟩
end Go.Proofs.YtdogaaepiddnoaaDoor
