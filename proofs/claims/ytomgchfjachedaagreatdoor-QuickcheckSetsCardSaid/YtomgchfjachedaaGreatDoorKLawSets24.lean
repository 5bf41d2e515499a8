/- law24.QuickcheckSets returns true. -/
import Derived.Test.YtomgchfjachedaaGreatDoorKBase
import Derived.Test.YtomgchfjachedaaGreatDoorKAlive24
import Derived.Test.YtomgchfjachedaaGreatDoorKRgc
import Derived.Test.YtomgchfjachedaaGreatDoorKRfx
namespace Go.Proofs.YtomgchfjachedaaGreatDoor
open Go Go.RowKit
set_option maxRecDepth 100000 in
set_option maxHeartbeats 4000000 in
theorem law_sets24 (s : Sls) (n : Nrm) (form : Int) (w : World) (hN : NormIn w s n) (_hx : I64 form) (hG : Glob w) : Calls Tryz.prog 3 #[s.val, .int .i64 form] w (RetB w true) := by
  have hk0_ := Kept.alloc (Kept.refl w) (Obj.cells #[Value.slice s.Ac s.nc s.cc, Value.slice s.Am s.nm s.cm, Value.slice s.Ae s.ne s.ce] 28)
  have HK1 := Lib.hid hk0_
  have hb0_ := (box_block w (Obj.cells #[Value.slice s.Ac s.nc s.cc, Value.slice s.Am s.nm s.cm, Value.slice s.Ae s.ne s.ce] 28))
  have x0_ := cell_of_block (i := 0) hb0_ rfl
  have x1_ := cell_of_block (i := 1) hb0_ rfl
  have x2_ := cell_of_block (i := 2) hb0_ rfl
  simp only [s4_, s5_, s6_] at x0_ x1_ x2_
  have HX0 := Lib.hid x0_
  have HX1 := Lib.hid x1_
  have HX2 := Lib.hid x2_
  have HB0 := Lib.hid hb0_
  clear x0_ x1_ x2_ hb0_
  have HS := Lib.hid (fun w' (hk : Kept w w') => r21small s n w' (hN.kept hk))
  have HN := Lib.hid hN
  have HG := Lib.hid hG
  clear hN hG hk0_
  cases hsm : smallB n
  · rw [hsm] at HS
    clear hsm
    unfold Sls.val at *
    go_enter Tryz.func3, Tryz.ntmps3
    have p0 := HX0.out
    have p1 := HX1.out
    have p2 := HX2.out
    go_wp2_with fail
    refine (HS.out _ (Kept.trans HK1.out (Kept.refl (w.alloc (Obj.cells #[Value.slice s.Ac s.nc s.cc, Value.slice s.Am s.nm s.cm, Value.slice s.Ae s.ne s.ce] 28))))).mono ?_
    rintro e w1 ⟨rfl, k1⟩
    clear p0 p1 p2
    have KB1 := Lib.hid (Kept.trans (Kept.refl (w.alloc (Obj.cells #[Value.slice s.Ac s.nc s.cc, Value.slice s.Am s.nm s.cm, Value.slice s.Ae s.ne s.ce] 28))) k1)
    have p0 := Kept.cell KB1.out HX0.out
    have p1 := Kept.cell KB1.out HX1.out
    have p2 := Kept.cell KB1.out HX2.out
    go_wp2_with fail
    refine (alive24 _ (HG.out.kept (Kept.trans HK1.out KB1.out))).mono ?_
    rintro e w2 ⟨rfl, k2⟩
    clear p0 p1 p2
    have KB2 := Lib.hid (Kept.trans KB1.out k2)
    go_wp2_with fail
    go_ret
    exact ⟨rfl, (Kept.trans HK1.out KB2.out)⟩
  · rw [hsm] at HS
    have HNA := Lib.hid (HN.out.small hsm)
    have HTG := Lib.hid (norm_tag HN.out hsm)
    have HFW := Lib.hid (show n.decomp.length ≤ 100 by have := (smallB_parts hsm).2.1; omega)
    clear hsm
    have HP := Lib.hid (fun w' (hk : Kept w w') => sets_any s n form w' (HNA.out.kept hk) (HG.out.kept hk))
    have HQ := Lib.hid (fun w' (hk : Kept w w') => r24Sets s n form w' (HNA.out.kept hk) HTG.out HFW.out)
    generalize charQ n form = f at *
    unfold Sls.val at *
    go_enter Tryz.func3, Tryz.ntmps3
    have p0 := HX0.out
    have p1 := HX1.out
    have p2 := HX2.out
    go_wp2_with fail
    refine (HS.out _ HK1.out).mono ?_
    rintro e w1 ⟨rfl, k1⟩
    have K1 := Lib.hid (Kept.trans HK1.out k1)
    have p0 := Kept.cell k1 HX0.out
    have p1 := Kept.cell k1 HX1.out
    have p2 := Kept.cell k1 HX2.out
    have X1 := Lib.hid k1
    clear k1
    go_wp2_with fail
    refine (HP.out _ K1.out).mono ?_
    rintro e w2 ⟨R1, A1, m1, c1, R2, A2, m2, c2, rfl, le1, le2, b1, b2, i1, i2, cn1, cn2, h1, h2, k2⟩
    have I1 := Lib.hid i1
    have I2 := Lib.hid i2
    have H1 := Lib.hid h1
    have H2 := Lib.hid h2
    have C1 := Lib.hid cn1
    have C2 := Lib.hid cn2
    have hka := Kept.alloc (Kept.alloc (Kept.refl w2) (Obj.cells #[Value.slice A1 m1 c1] 26)) (Obj.cells #[Value.slice A2 m2 c2] 26)
    have X2 := Lib.hid (Kept.trans X1.out (Kept.trans k2 hka))
    have KA := Lib.hid hka
    obtain ⟨q, hq⟩ : ∃ q : Nat, q = w2.heap.size := ⟨_, rfl⟩
    have Y1 := Lib.hid (show ((w2.alloc (Obj.cells #[Value.slice A1 m1 c1] 26)).alloc (Obj.cells #[Value.slice A2 m2 c2] 26)).cell? ⟨q, 0, none⟩ = some (.slice A1 m1 c1) from cell_of_block (i := 0) (show ((w2.alloc (Obj.cells #[Value.slice A1 m1 c1] 26)).alloc (Obj.cells #[Value.slice A2 m2 c2] 26)).heap[q]? = some (Obj.cells #[Value.slice A1 m1 c1] 26) from alloc_lift (alloc_at hq)) rfl)
    have Y2 := Lib.hid (show ((w2.alloc (Obj.cells #[Value.slice A1 m1 c1] 26)).alloc (Obj.cells #[Value.slice A2 m2 c2] 26)).cell? ⟨q + 1, 0, none⟩ = some (.slice A2 m2 c2) from cell_of_block (i := 0) (show ((w2.alloc (Obj.cells #[Value.slice A1 m1 c1] 26)).alloc (Obj.cells #[Value.slice A2 m2 c2] 26)).heap[q + 1]? = some (Obj.cells #[Value.slice A2 m2 c2] 26) from alloc_at (by simp [hq])) rfl)
    clear i1 i2 h1 h2 cn1 cn2 k2 hka p0 p1 p2
    have HQQ := Lib.hid hq
    clear hq
    have p0 := Kept.cell X2.out HX0.out
    have p1 := Kept.cell X2.out HX1.out
    have p2 := Kept.cell X2.out HX2.out
    go_wp2_with fail
    rw [← HQQ.out]
    generalize (w2.alloc (Obj.cells #[Value.slice A1 m1 c1] 26)).alloc (Obj.cells #[Value.slice A2 m2 c2] 26) = W2 at *
    refine (HQ.out _ (Kept.trans HK1.out X2.out)).mono ?_
    rintro e w3 ⟨R3, A3, m3, c3, R4, A4, m4, c4, rfl, le3, le4, b3, b4, i3, i4, cn3, cn4, h3, h4, k3⟩
    obtain rfl := canon_has C1.out cn3 (fun x => by rw [H1.out x, h3 x])
    obtain rfl := canon_has C2.out cn4 (fun x => by rw [H2.out x, h4 x])
    have hka := Kept.alloc (Kept.alloc (Kept.refl w3) (Obj.cells #[Value.slice A3 m3 c3] 26)) (Obj.cells #[Value.slice A4 m4 c4] 26)
    have X3 := Lib.hid (Kept.trans k3 hka)
    have I3 := Lib.hid (i3.kept hka)
    have I4 := Lib.hid (i4.kept hka)
    obtain ⟨r, hr⟩ : ∃ r : Nat, r = w3.heap.size := ⟨_, rfl⟩
    have Y3 := Lib.hid (show ((w3.alloc (Obj.cells #[Value.slice A3 m3 c3] 26)).alloc (Obj.cells #[Value.slice A4 m4 c4] 26)).cell? ⟨r, 0, none⟩ = some (.slice A3 m3 c3) from cell_of_block (i := 0) (show ((w3.alloc (Obj.cells #[Value.slice A3 m3 c3] 26)).alloc (Obj.cells #[Value.slice A4 m4 c4] 26)).heap[r]? = some (Obj.cells #[Value.slice A3 m3 c3] 26) from alloc_lift (alloc_at hr)) rfl)
    have Y4 := Lib.hid (show ((w3.alloc (Obj.cells #[Value.slice A3 m3 c3] 26)).alloc (Obj.cells #[Value.slice A4 m4 c4] 26)).cell? ⟨r + 1, 0, none⟩ = some (.slice A4 m4 c4) from cell_of_block (i := 0) (show ((w3.alloc (Obj.cells #[Value.slice A3 m3 c3] 26)).alloc (Obj.cells #[Value.slice A4 m4 c4] 26)).heap[r + 1]? = some (Obj.cells #[Value.slice A4 m4 c4] 26) from alloc_at (by simp [hr])) rfl)
    have HRR := Lib.hid hr
    clear i3 i4 h3 h4 cn3 cn4 k3 hka hr p0 p1 p2
    have y1 := Kept.cell X3.out Y1.out
    have y2 := Kept.cell X3.out Y2.out
    have y3 := Y3.out
    have y4 := Y4.out
    rw [HRR.out] at y3 y4
    go_wp2_with fail
    rw [← HRR.out]
    clear y3 y4
    generalize (w3.alloc (Obj.cells #[Value.slice A3 m3 c3] 26)).alloc (Obj.cells #[Value.slice A4 m4 c4] 26) = W3 at *
    have hd1 : decide (R1 = R1) = true := decide_eq_true rfl
    have hd2 : decide (R2 = R2) = true := decide_eq_true rfl
    have HM1 := Lib.hid (r02Same A1 A3 m1 m3 c1 c3 R1 R1 W3 b1 b3 (I1.out.kept (Kept.trans KA.out X3.out)) I3.out)
    rw [hd1] at HM1
    refine HM1.out.mono ?_
    rintro e w4 ⟨rfl, k4⟩
    have HM2 := Lib.hid (r02Same A2 A4 m2 m4 c2 c4 R2 R2 w4 b2 b4 (I2.out.kept (Kept.trans KA.out (Kept.trans X3.out k4))) (I4.out.kept k4))
    rw [hd2] at HM2
    have y2 := Kept.cell k4 y2
    have y4 := Kept.cell k4 Y4.out
    have X4 := Lib.hid (Kept.trans X2.out (Kept.trans X3.out k4))
    clear k4 y1 hd1 hd2
    go_wp2_with fail
    refine HM2.out.mono ?_
    rintro e w5 ⟨rfl, k5⟩
    have X5 := Lib.hid (Kept.trans HK1.out (Kept.trans X4.out k5))
    clear y2 y4 k5
    go_wp2_with fail
    refine (alive24 _ (HG.out.kept X5.out)).mono ?_
    rintro e w6 ⟨rfl, k6⟩
    go_wp2_with fail
    go_ret
    exact ⟨rfl, Kept.trans X5.out k6⟩
end Go.Proofs.YtomgchfjachedaaGreatDoor
