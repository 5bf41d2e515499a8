/- law27.StreamsafeTexts returns true. -/
import Derived.Test.YtljkkfohlkhjnaaGreatDoorKSag
import Derived.Test.YtljkkfohlkhjnaaGreatDoorKRefV
namespace Go.Proofs.YtljkkfohlkhjnaaGreatDoor
open Go Go.RowKit

set_option maxRecDepth 100000 in
set_option maxHeartbeats 2000000 in
theorem law_texts27 (s : Sls) (n : Nrm) (most : Int) (A : Option Addr) (l c : Nat) (xs : List Int) (w : World) (hN : NormIn w s n) (hx : I64 most) (hI : l ≤ c ∧ c ≤ 9223372036854775807 ∧ Ints w A l xs) (hG : Glob w) : Calls Tryz.prog 4 #[s.val, .int .i64 most, .slice A l c] w (RetB w true) := by
  have HG := Lib.hid hG
  have hk1 := Kept.alloc (Kept.refl w) (Obj.cells #[Value.slice s.Ac s.nc s.cc, Value.slice s.Am s.nm s.cm, Value.slice s.Ae s.ne s.ce] 28)
  have HK1 := Lib.hid hk1
  obtain ⟨hle, hbig, hI⟩ := hI
  have HS := Lib.hid (few27 s n A l c (w.alloc (Obj.cells #[Value.slice s.Ac s.nc s.cc, Value.slice s.Am s.nm s.cm, Value.slice s.Ae s.ne s.ce] 28)) (hN.kept hk1) ⟨hle, hbig⟩)
  have hbx := box_cell w #[Value.slice s.Ac s.nc s.cc, Value.slice s.Am s.nm s.cm, Value.slice s.Ae s.ne s.ce] 28
  have x0 : (w.alloc (Obj.cells #[Value.slice s.Ac s.nc s.cc, Value.slice s.Am s.nm s.cm, Value.slice s.Ae s.ne s.ce] 28)).cell? ⟨w.heap.size, 0, none⟩ = some (.slice s.Ac s.nc s.cc) := hbx 0
  have x1 : (w.alloc (Obj.cells #[Value.slice s.Ac s.nc s.cc, Value.slice s.Am s.nm s.cm, Value.slice s.Ae s.ne s.ce] 28)).cell? ⟨w.heap.size, 1, none⟩ = some (.slice s.Am s.nm s.cm) := hbx 1
  have x2 : (w.alloc (Obj.cells #[Value.slice s.Ac s.nc s.cc, Value.slice s.Am s.nm s.cm, Value.slice s.Ae s.ne s.ce] 28)).cell? ⟨w.heap.size, 2, none⟩ = some (.slice s.Ae s.ne s.ce) := hbx 2
  have HX0 := Lib.hid x0
  have HX1 := Lib.hid x1
  have HX2 := Lib.hid x2
  have HN := Lib.hid hN
  have HI := Lib.hid hI
  clear hN hG hk1 hbx x0 x1 x2 hI hle hbig
  cases hsm : (smallB n && decide (l ≤ 40))
  · rw [hsm] at HS
    clear hsm
    unfold Sls.val at *
    go_enter Tryz.func4, Tryz.ntmps4
    go_wp2_with fail
    refine HS.out.mono ?_
    rintro e w1 ⟨rfl, k1⟩
    have HA := Lib.hid (alive27 w1 (HG.out.kept (Kept.trans HK1.out k1)))
    go_wp2_with fail
    refine HA.out.mono ?_
    rintro e w2 ⟨rfl, k2⟩
    go_wp2_with fail
    go_ret
    exact ⟨rfl, Kept.trans HK1.out (Kept.trans k1 k2)⟩
  · rw [hsm] at HS
    obtain ⟨hsb, hl40⟩ := (Bool.and_eq_true _ _).mp hsm
    have hl40 := of_decide_eq_true hl40
    have HNA := Lib.hid (HN.out.small hsb)
    have HTG := Lib.hid (norm_tag HN.out hsb)
    have HXL := Lib.hid HI.out.1
    clear hsm hsb
    have HT0 := Lib.hid (fun A' n' c' zs w' (hk : Kept w w') (hn' : n' ≤ 1000) (hZ : Ints w' A' n' zs) => ssText_any s n most A' n' c' zs w' (HNA.out.kept hk) (HG.out.kept hk) hx hn' hZ)
    have HIS := Lib.hid (fun A' n' c' zs w' (hk : Kept w w') (hn' : n' ≤ 1000) (hZ : Ints w' A' n' zs) => ssIs_any s n most A' n' c' zs w' (HNA.out.kept hk) (HG.out.kept hk) hx hn' hZ)
    have HLX := Lib.hid (show (ssText n most xs).length ≤ 80 by have := ssText_len n most xs; have := HXL.out; omega)
    have HRT := Lib.hid (fun w' (hk : Kept w w') => r27text s n most A l c xs w' (HNA.out.kept hk) HTG.out hx (by omega) (HI.out.kept hk))
    have HI1 := Lib.hid (fun w' (hk : Kept w w') => HIS.out A l c xs w' hk (by omega) (HI.out.kept hk))
    have HL1 := Lib.hid (show (ssText n most xs).length ≤ 10000 by have := HLX.out; omega)
    have HL2 := Lib.hid (show xs.length ≤ 10000 by have := HXL.out; omega)
    unfold Sls.val at *
    go_enter Tryz.func4, Tryz.ntmps4
    go_wp2_with fail
    refine HS.out.mono ?_
    rintro e w1 ⟨rfl, k1⟩
    have p0 := Kept.cell k1 HX0.out
    have p1 := Kept.cell k1 HX1.out
    have p2 := Kept.cell k1 HX2.out
    have K1 := Lib.hid (Kept.trans HK1.out k1)
    have HT := Lib.hid (HT0.out A l c xs w1 K1.out (by omega) (HI.out.kept K1.out))
    generalize ssText n most xs = X at *
    have hself : (decide (X = xs) == decide (X = xs)) = true := by simp
    generalize hdd : decide (X = xs) = dd at *
    have HDD := Lib.hid hdd
    clear hdd
    go_wp2_with fail
    refine HT.out.mono ?_
    rintro e w2 ⟨A2, n2, c2, rfl, le2, i2, k2⟩
    have I2 := Lib.hid i2
    have hn2 : n2 ≤ 1000 := by rw [i2.1]; have := HLX.out; omega
    have K2 := Lib.hid (Kept.trans K1.out k2)
    have q0 := Kept.cell k2 p0
    have q1 := Kept.cell k2 p1
    have q2 := Kept.cell k2 p2
    clear p0 p1 p2 i2
    go_wp2_with fail
    refine (HRT.out _ K2.out).mono ?_
    rintro e w3 ⟨A3, n3, c3, rfl, le3, i3, k3⟩
    have HEQ := Lib.hid (r01_same X A2 A3 n2 n3 c2 c3 w3 HL1.out (I2.out.kept k3) i3)
    have K3 := Lib.hid (Kept.trans K2.out k3)
    have r0 := Kept.cell k3 q0
    have r1 := Kept.cell k3 q1
    have r2 := Kept.cell k3 q2
    clear i3 q0 q1 q2
    go_wp2_with fail
    refine HEQ.out.mono ?_
    rintro e w4 ⟨rfl, k4⟩
    have K4 := Lib.hid (Kept.trans K3.out k4)
    have t0 := Kept.cell k4 r0
    have t1 := Kept.cell k4 r1
    have t2 := Kept.cell k4 r2
    clear r0 r1 r2
    go_wp2_with fail
    refine (HI1.out _ K4.out).mono ?_
    rintro e w5 ⟨rfl, k5⟩
    have K5 := Lib.hid (Kept.trans K4.out k5)
    have HE2 := Lib.hid (r01Equal A2 A n2 l c2 c X xs w5 (by omega) (by omega) (I2.out.kept (Kept.trans k3 (Kept.trans k4 k5))) (HI.out.kept K5.out))
    rw [HDD.out] at HE2
    clear t0 t1 t2
    go_wp2_with fail
    refine HE2.out.mono ?_
    rintro e w6 ⟨rfl, k6⟩
    have K6 := Lib.hid (Kept.trans K5.out k6)
    go_wp2_with fail
    refine (alive27 w6 (HG.out.kept K6.out)).mono ?_
    rintro e w7 ⟨rfl, k7⟩
    go_wp2_with fail
    go_ret
    exact ⟨rfl, Kept.trans K6.out k7⟩
end Go.Proofs.YtljkkfohlkhjnaaGreatDoor
