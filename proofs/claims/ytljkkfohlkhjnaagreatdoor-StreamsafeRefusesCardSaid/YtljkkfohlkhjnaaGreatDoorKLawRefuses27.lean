/- law27.StreamsafeRefuses returns true. -/
import Derived.Test.YtljkkfohlkhjnaaGreatDoorKSag
import Derived.Test.YtljkkfohlkhjnaaGreatDoorKRefP
namespace Go.Proofs.YtljkkfohlkhjnaaGreatDoor
open Go Go.RowKit

set_option maxRecDepth 100000 in
set_option maxHeartbeats 2000000 in
theorem law_refuses27 (s : Sls) (n : Nrm) (most : Int) (A : Option Addr) (l c : Nat) (xs : List Int) (w : World) (hN : NormIn w s n) (hx : I64 most) (hI : l ≤ c ∧ c ≤ 9223372036854775807 ∧ Ints w A l xs) (hG : Glob w) : Calls Tryz.prog 7 #[s.val, .int .i64 most, .slice A l c] w (RetB w true) := by
  have HG := Lib.hid hG
  have hk1 := Kept.alloc (Kept.refl w) (Obj.cells #[Value.slice s.Ac s.nc s.cc, Value.slice s.Am s.nm s.cm, Value.slice s.Ae s.ne s.ce] 28)
  have HK1 := Lib.hid hk1
  obtain ⟨hle, hbig, hI⟩ := hI
  have HS := Lib.hid (few27 s n A l c (w.alloc (Obj.cells #[Value.slice s.Ac s.nc s.cc, Value.slice s.Am s.nm s.cm, Value.slice s.Ae s.ne s.ce] 28)) (hN.kept hk1) ⟨hle, hbig⟩)
  have hbx := box_cell w #[Value.slice s.Ac s.nc s.cc, Value.slice s.Am s.nm s.cm, Value.slice s.Ae s.ne s.ce] 28
  have x0 : (w.alloc (Obj.cells #[Value.slice s.Ac s.nc s.cc, Value.slice s.Am s.nm s.cm, Value.slice s.Ae s.ne s.ce] 28)).cell? ⟨w.heap.size, 0, none⟩ = some (.slice s.Ac s.nc s.cc) := hbx 0
  have x1 : (w.alloc (Obj.cells #[Value.slice s.Ac s.nc s.cc, Value.slice s.Am s.nm s.cm, Value.slice s.Ae s.ne s.ce] 28)).cell? ⟨w.heap.size, 1, none⟩ = some (.slice s.Am s.nm s.cm) := hbx 1
  have x2 : (w.alloc (Obj.cells #[Value.slice s.Ac s.nc s.cc, Value.slice s.Am s.nm s.cm, Value.slice s.Ae s.ne s.ce] 28)).cell? ⟨w.heap.size, 2, none⟩ = some (.slice s.Ae s.ne s.ce) := hbx 2
  have HX0 := Lib.hid x0
  have HX1 := Lib.hid x1
  have HX2 := Lib.hid x2
  have HN := Lib.hid hN
  have HI := Lib.hid hI
  clear hN hG hk1 hbx x0 x1 x2 hI hle hbig
  cases hsm : (smallB n && decide (l ≤ 40))
  · rw [hsm] at HS
    clear hsm
    unfold Sls.val at *
    go_enter Tryz.func7, Tryz.ntmps7
    go_wp2_with fail
    refine HS.out.mono ?_
    rintro e w1 ⟨rfl, k1⟩
    have HA := Lib.hid (alive27 w1 (HG.out.kept (Kept.trans HK1.out k1)))
    go_wp2_with fail
    refine HA.out.mono ?_
    rintro e w2 ⟨rfl, k2⟩
    go_wp2_with fail
    go_ret
    exact ⟨rfl, Kept.trans HK1.out (Kept.trans k1 k2)⟩
  · rw [hsm] at HS
    obtain ⟨hsb, hl40⟩ := (Bool.and_eq_true _ _).mp hsm
    have hl40 := of_decide_eq_true hl40
    have HNA := Lib.hid (HN.out.small hsb)
    have HTG := Lib.hid (norm_tag HN.out hsb)
    have HXL := Lib.hid HI.out.1
    clear hsm hsb
    have HT0 := Lib.hid (fun A' n' c' zs w' (hk : Kept w w') (hn' : n' ≤ 1000) (hZ : Ints w' A' n' zs) => ssText_any s n most A' n' c' zs w' (HNA.out.kept hk) (HG.out.kept hk) hx hn' hZ)
    have HIS := Lib.hid (fun A' n' c' zs w' (hk : Kept w w') (hn' : n' ≤ 1000) (hZ : Ints w' A' n' zs) => ssIs_any s n most A' n' c' zs w' (HNA.out.kept hk) (HG.out.kept hk) hx hn' hZ)
    have HLX := Lib.hid (show (ssText n most xs).length ≤ 80 by have := ssText_len n most xs; have := HXL.out; omega)
    have HRC := Lib.hid (fun w' (hk : Kept w w') => r27check s n most w' (HNA.out.kept hk) HTG.out)
    by_cases h0 : ssCheck n most = 0
    · have hb0 : (ssCheck n most == 0) = true := by simp [h0]
      rw [h0] at HRC
      unfold Sls.val at *
      go_enter Tryz.func7, Tryz.ntmps7
      go_wp2_with fail
      refine HS.out.mono ?_
      rintro e w1 ⟨rfl, k1⟩
      have p0 := Kept.cell k1 HX0.out
      have p1 := Kept.cell k1 HX1.out
      have p2 := Kept.cell k1 HX2.out
      have K1 := Lib.hid (Kept.trans HK1.out k1)
      go_wp2_with fail
      refine (HRC.out _ K1.out).mono ?_
      rintro e w2 ⟨rfl, k2⟩
      have HA := Lib.hid (alive27 w2 (HG.out.kept (Kept.trans K1.out k2)))
      go_wp2_with fail
      refine HA.out.mono ?_
      rintro e w3 ⟨rfl, k3⟩
      go_wp2_with fail
      go_ret
      exact ⟨rfl, Kept.trans K1.out (Kept.trans k2 k3)⟩
    · have hb0 : (ssCheck n most == 0) = false := by simp [h0]
      have HT1 := Lib.hid (fun w' (hk : Kept w w') => HT0.out A l c xs w' hk (by omega) (HI.out.kept hk))
      have HI1 := Lib.hid (fun w' (hk : Kept w w') => HIS.out A l c xs w' hk (by omega) (HI.out.kept hk))
      rw [ssText_bad h0] at HT1 HI1
      have hdt : decide (xs = xs) = true := by simp
      rw [hdt] at HI1
      have HL1 := Lib.hid (show xs.length ≤ 10000 by have := HXL.out; omega)
      clear hdt h0
      generalize ssCheck n most = k at *
      unfold Sls.val at *
      go_enter Tryz.func7, Tryz.ntmps7
      go_wp2_with fail
      refine HS.out.mono ?_
      rintro e w1 ⟨rfl, k1⟩
      have p0 := Kept.cell k1 HX0.out
      have p1 := Kept.cell k1 HX1.out
      have p2 := Kept.cell k1 HX2.out
      have K1 := Lib.hid (Kept.trans HK1.out k1)
      go_wp2_with fail
      refine (HRC.out _ K1.out).mono ?_
      rintro e w2 ⟨rfl, k2⟩
      have K2 := Lib.hid (Kept.trans K1.out k2)
      have q0 := Kept.cell k2 p0
      have q1 := Kept.cell k2 p1
      have q2 := Kept.cell k2 p2
      clear p0 p1 p2
      go_wp2_with fail
      refine (HT1.out _ K2.out).mono ?_
      rintro e w3 ⟨A3, n3, c3, rfl, le3, i3, k3⟩
      have K3 := Lib.hid (Kept.trans K2.out k3)
      have HEQ := Lib.hid (r01_same xs A3 A n3 l c3 c w3 HL1.out i3 (HI.out.kept K3.out))
      have r0 := Kept.cell k3 q0
      have r1 := Kept.cell k3 q1
      have r2 := Kept.cell k3 q2
      clear i3 q0 q1 q2
      go_wp2_with fail
      refine HEQ.out.mono ?_
      rintro e w4 ⟨rfl, k4⟩
      have K4 := Lib.hid (Kept.trans K3.out k4)
      have t0 := Kept.cell k4 r0
      have t1 := Kept.cell k4 r1
      have t2 := Kept.cell k4 r2
      clear r0 r1 r2
      go_wp2_with fail
      refine (HI1.out _ K4.out).mono ?_
      rintro e w5 ⟨rfl, k5⟩
      have K5 := Lib.hid (Kept.trans K4.out k5)
      go_wp2_with fail
      refine (alive27 w5 (HG.out.kept K5.out)).mono ?_
      rintro e w6 ⟨rfl, k6⟩
      go_wp2_with fail
      go_ret
      exact ⟨rfl, Kept.trans K5.out k6⟩
end Go.Proofs.YtljkkfohlkhjnaaGreatDoor
