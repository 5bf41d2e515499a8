/- law27.StreamsafeKeeps returns true. -/
import Derived.Test.YtljkkfohlkhjnaaDoorKSag
import Derived.Test.YtljkkfohlkhjnaaDoorKRefS
namespace Go.Proofs.YtljkkfohlkhjnaaDoor
open Go Go.RowKit

set_option maxRecDepth 100000 in
set_option maxHeartbeats 2000000 in
theorem law_keeps27 (s : Sls) (n : Nrm) (most : Int) (A : Option Addr) (l c : Nat) (xs : List Int) (w : World) (hN : NormIn w s n) (hx : I64 most) (hI : l ≤ c ∧ c ≤ 9223372036854775807 ∧ Ints w A l xs) (hG : Glob w) : Calls Tryd.prog 4 #[s.val, .int .i64 most, .slice A l c] w (RetB w true) := by
  have HG := Lib.hid hG
  have hk1 := Kept.alloc (Kept.refl w) (Obj.cells #[Value.slice s.Ac s.nc s.cc, Value.slice s.Am s.nm s.cm, Value.slice s.Ae s.ne s.ce] 28)
  have HK1 := Lib.hid hk1
  obtain ⟨hle, hbig, hI⟩ := hI
  have HS := Lib.hid (few27 s n A l c (w.alloc (Obj.cells #[Value.slice s.Ac s.nc s.cc, Value.slice s.Am s.nm s.cm, Value.slice s.Ae s.ne s.ce] 28)) (hN.kept hk1) ⟨hle, hbig⟩)
  have hbx := box_cell w #[Value.slice s.Ac s.nc s.cc, Value.slice s.Am s.nm s.cm, Value.slice s.Ae s.ne s.ce] 28
  have x0 : (w.alloc (Obj.cells #[Value.slice s.Ac s.nc s.cc, Value.slice s.Am s.nm s.cm, Value.slice s.Ae s.ne s.ce] 28)).cell? ⟨w.heap.size, 0, none⟩ = some (.slice s.Ac s.nc s.cc) := hbx 0
  have x1 : (w.alloc (Obj.cells #[Value.slice s.Ac s.nc s.cc, Value.slice s.Am s.nm s.cm, Value.slice s.Ae s.ne s.ce] 28)).cell? ⟨w.heap.size, 1, none⟩ = some (.slice s.Am s.nm s.cm) := hbx 1
  have x2 : (w.alloc (Obj.cells #[Value.slice s.Ac s.nc s.cc, Value.slice s.Am s.nm s.cm, Value.slice s.Ae s.ne s.ce] 28)).cell? ⟨w.heap.size, 2, none⟩ = some (.slice s.Ae s.ne s.ce) := hbx 2
  have HX0 := Lib.hid x0
  have HX1 := Lib.hid x1
  have HX2 := Lib.hid x2
  have HN := Lib.hid hN
  have HI := Lib.hid hI
  clear hN hG hk1 hbx x0 x1 x2 hI hle hbig
  cases hsm : (smallB n && decide (l ≤ 40))
  · rw [hsm] at HS
    clear hsm
    unfold Sls.val at *
    go_enter Tryd.func4, Tryd.ntmps4
    go_wp2_with fail
    refine HS.out.mono ?_
    rintro e w1 ⟨rfl, k1⟩
    have HA := Lib.hid (alive27 w1 (HG.out.kept (Kept.trans HK1.out k1)))
    go_wp2_with fail
    refine HA.out.mono ?_
    rintro e w2 ⟨rfl, k2⟩
    go_wp2_with fail
    go_ret
    exact ⟨rfl, Kept.trans HK1.out (Kept.trans k1 k2)⟩
  · rw [hsm] at HS
    obtain ⟨hsb, hl40⟩ := (Bool.and_eq_true _ _).mp hsm
    have hl40 := of_decide_eq_true hl40
    have HNA := Lib.hid (HN.out.small hsb)
    have HTG := Lib.hid (norm_tag HN.out hsb)
    have HXL := Lib.hid HI.out.1
    clear hsm hsb
    have HT0 := Lib.hid (fun A' n' c' zs w' (hk : Kept w w') (hn' : n' ≤ 1000) (hZ : Ints w' A' n' zs) => ssText_any s n most A' n' c' zs w' (HNA.out.kept hk) (HG.out.kept hk) hx hn' hZ)
    have HIS := Lib.hid (fun A' n' c' zs w' (hk : Kept w w') (hn' : n' ≤ 1000) (hZ : Ints w' A' n' zs) => ssIs_any s n most A' n' c' zs w' (HNA.out.kept hk) (HG.out.kept hk) hx hn' hZ)
    have HLX := Lib.hid (show (ssText n most xs).length ≤ 80 by have := ssText_len n most xs; have := HXL.out; omega)
    have HTK := Lib.hid (ssText_keeps n most xs)
    have HLN := Lib.hid (ssText_len n most xs)
    have HL1 := Lib.hid (show (xs.filter (fun c => c != 847)).length ≤ 10000 by have := List.length_filter_le (fun c => c != 847) xs; have := HXL.out; omega)
    unfold Sls.val at *
    go_enter Tryd.func4, Tryd.ntmps4
    go_wp2_with fail
    refine HS.out.mono ?_
    rintro e w1 ⟨rfl, k1⟩
    have p0 := Kept.cell k1 HX0.out
    have p1 := Kept.cell k1 HX1.out
    have p2 := Kept.cell k1 HX2.out
    have K1 := Lib.hid (Kept.trans HK1.out k1)
    have HT := Lib.hid (HT0.out A l c xs w1 K1.out (by omega) (HI.out.kept K1.out))
    generalize ssText n most xs = X at *
    go_wp2_with fail
    refine HT.out.mono ?_
    rintro e w2 ⟨A2, n2, c2, rfl, le2, i2, k2⟩
    have I2 := Lib.hid i2
    have hn2 : n2 ≤ 1000 := by rw [i2.1]; have := HLX.out; omega
    have K2 := Lib.hid (Kept.trans K1.out k2)
    have q0 := Kept.cell k2 p0
    have q1 := Kept.cell k2 p1
    have q2 := Kept.cell k2 p2
    clear p0 p1 p2 i2
    have hlen : l ≤ n2 := by have := HLN.out.1; rw [I2.out.1, HXL.out]; exact this
    have hlz : (l : Int) ≤ (n2 : Int) := by omega
    have HLZ := Lib.hid (show n2 < 2 * l ∨ n2 = 0 by have := HLN.out.2; rw [I2.out.1, HXL.out]; exact this)
    have HW1 := Lib.hid (r27without A2 n2 c2 X w2 (by omega) I2.out)
    rw [HTK.out] at HW1
    have HW2 := Lib.hid (fun w' (hk : Kept w w') => r27without A l c xs w' (by omega) (HI.out.kept hk))
    generalize xs.filter (fun c => c != 847) = Y at *
    clear q0 q1 q2
    go_wp2_with fail
    refine HW1.out.mono ?_
    rintro e w3 ⟨A3, n3, c3, rfl, le3, i3, k3⟩
    have I3 := Lib.hid i3
    have K3 := Lib.hid (Kept.trans K2.out k3)
    clear i3
    go_wp2_with fail
    refine (HW2.out _ K3.out).mono ?_
    rintro e w4 ⟨A4, n4, c4, rfl, le4, i4, k4⟩
    have HEQ := Lib.hid (r01_same Y A3 A4 n3 n4 c3 c4 w4 HL1.out (I3.out.kept k4) i4)
    have K4 := Lib.hid (Kept.trans K3.out k4)
    clear i4
    go_wp2_with fail
    refine HEQ.out.mono ?_
    rintro e w5 ⟨rfl, k5⟩
    have K5 := Lib.hid (Kept.trans K4.out k5)
    rcases HLZ.out with hz | hz
    · have hz1 : (n2 : Int) < 2 * (l : Int) := by omega
      go_wp2_with fail
      refine (alive27 w5 (HG.out.kept K5.out)).mono ?_
      rintro e w6 ⟨rfl, k6⟩
      go_wp2_with fail
      go_ret
      exact ⟨rfl, Kept.trans K5.out k6⟩
    · have hl0 : l = 0 := by omega
      subst hz
      subst hl0
      go_wp2_with fail
      refine (alive27 w5 (HG.out.kept K5.out)).mono ?_
      rintro e w6 ⟨rfl, k6⟩
      go_wp2_with fail
      go_ret
      exact ⟨rfl, Kept.trans K5.out k6⟩
end Go.Proofs.YtljkkfohlkhjnaaDoor
