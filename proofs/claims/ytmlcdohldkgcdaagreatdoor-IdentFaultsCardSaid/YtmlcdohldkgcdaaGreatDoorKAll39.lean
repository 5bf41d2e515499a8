/- law39.light, all. -/
import Derived.Test.YtmlcdohldkgcdaaGreatDoorKSq
import Derived.Test.YtmlcdohldkgcdaaGreatDoorKRefAO
import Derived.Test.YtmlcdohldkgcdaaGreatDoorKAlive39
namespace Go.Proofs.YtmlcdohldkgcdaaGreatDoor
open Go Go.RowKit
set_option maxRecDepth 100000 in
set_option maxHeartbeats 2000000 in
theorem light39 (s : Sls) (n : Nrm) (k : Cas) (r : CasR) (i : Ids) (_ir : IdR) (A : Option Addr) (l c : Nat) (xs : List Int) (cp fo : Bool) (w : World) (hN : NormAt w s n) (htag : ∀ m ∈ n.decomp, m.tag.size ≤ 1000) (hC : CasIn w k r) (hs : smallC r = true) (hl : l ≤ 1000) (hT : Ints w A l xs) : Calls Tryz.prog 56 #[.agg #[.slice s.Ac s.nc s.cc, .slice s.Am s.nm s.cm, .slice s.Ae s.ne s.ce, .slice k.A1 k.n1 k.c1, .slice k.A2 k.n2 k.c2, .slice k.A3 k.n3 k.c3, .slice k.A4 k.n4 k.c4, .slice k.A5 k.n5 k.c5, .slice k.A6 k.n6 k.c6, .slice i.As i.ns i.cs, .slice i.Ac i.nc i.cc, .slice i.Am i.nm i.cm, .slice A l c, .bool cp, .bool fo]] w (RetP w True) := by
  have hk0_ := Kept.alloc (Kept.refl w) (Obj.cells #[Value.slice s.Ac s.nc s.cc, Value.slice s.Am s.nm s.cm, Value.slice s.Ae s.ne s.ce, Value.slice k.A1 k.n1 k.c1, Value.slice k.A2 k.n2 k.c2, Value.slice k.A3 k.n3 k.c3, Value.slice k.A4 k.n4 k.c4, Value.slice k.A5 k.n5 k.c5, Value.slice k.A6 k.n6 k.c6, Value.slice i.As i.ns i.cs, Value.slice i.Ac i.nc i.cc, Value.slice i.Am i.nm i.cm, Value.slice A l c, Value.bool cp, Value.bool fo] 62)
  have HK1 := Lib.hid hk0_
  have hb0_ := (box_block w (Obj.cells #[Value.slice s.Ac s.nc s.cc, Value.slice s.Am s.nm s.cm, Value.slice s.Ae s.ne s.ce, Value.slice k.A1 k.n1 k.c1, Value.slice k.A2 k.n2 k.c2, Value.slice k.A3 k.n3 k.c3, Value.slice k.A4 k.n4 k.c4, Value.slice k.A5 k.n5 k.c5, Value.slice k.A6 k.n6 k.c6, Value.slice i.As i.ns i.cs, Value.slice i.Ac i.nc i.cc, Value.slice i.Am i.nm i.cm, Value.slice A l c, Value.bool cp, Value.bool fo] 62))
  have x0_ := cell_of_block (i := 0) hb0_ rfl
  have x1_ := cell_of_block (i := 1) hb0_ rfl
  have x2_ := cell_of_block (i := 2) hb0_ rfl
  have x3_ := cell_of_block (i := 3) hb0_ rfl
  have x4_ := cell_of_block (i := 4) hb0_ rfl
  have x5_ := cell_of_block (i := 5) hb0_ rfl
  have x6_ := cell_of_block (i := 6) hb0_ rfl
  have x7_ := cell_of_block (i := 7) hb0_ rfl
  have x8_ := cell_of_block (i := 8) hb0_ rfl
  have x9_ := cell_of_block (i := 9) hb0_ rfl
  have x10_ := cell_of_block (i := 10) hb0_ rfl
  have x11_ := cell_of_block (i := 11) hb0_ rfl
  have x12_ := cell_of_block (i := 12) hb0_ rfl
  have x13_ := cell_of_block (i := 13) hb0_ rfl
  have x14_ := cell_of_block (i := 14) hb0_ rfl
  simp only [s4_, s5_, s6_] at x0_ x1_ x2_ x3_ x4_ x5_ x6_ x7_ x8_ x9_ x10_ x11_ x12_ x13_ x14_
  have HX0 := Lib.hid x0_
  have HX1 := Lib.hid x1_
  have HX2 := Lib.hid x2_
  have HX3 := Lib.hid x3_
  have HX4 := Lib.hid x4_
  have HX5 := Lib.hid x5_
  have HX6 := Lib.hid x6_
  have HX7 := Lib.hid x7_
  have HX8 := Lib.hid x8_
  have HX9 := Lib.hid x9_
  have HX10 := Lib.hid x10_
  have HX11 := Lib.hid x11_
  have HX12 := Lib.hid x12_
  have HX13 := Lib.hid x13_
  have HX14 := Lib.hid x14_
  have HB0 := Lib.hid hb0_
  clear x0_ x1_ x2_ x3_ x4_ x5_ x6_ x7_ x8_ x9_ x10_ x11_ x12_ x13_ x14_ hb0_
  have HLI := Lib.hid (fun w' (hk : Kept w w') => r38Light1 s n k r A l c xs w' (hN.kept hk) htag (hC.kept hk) hs hl (hT.kept hk))
  have HLJ := Lib.hid (fun w' (hk : Kept w w') => r38Light2 s n k r A l c xs w' (hN.kept hk) htag (hC.kept hk) hs hl (hT.kept hk))
  have HFI := Lib.hid (fun w' (hk : Kept w w') (hP : LightP n r xs 1) => r38Form1 s n k r A l c xs w' (hN.kept hk) htag (hC.kept hk) hs hl (hT.kept hk) hP)
  have HFJ := Lib.hid (fun w' (hk : Kept w w') (hP : LightP n r xs 2) => r38Form2 s n k r A l c xs w' (hN.kept hk) htag (hC.kept hk) hs hl (hT.kept hk) hP)
  have HFM := Lib.hid (fun A' n' c' X w' (hk : Kept w w') (hn' : n' ≤ 30000) (hX : Ints w' A' n' X) => r23form_wide s n 4 A' n' c' X w' (hN.kept hk) htag hn' hX)
  have HTX := Lib.hid (fun w' (hk : Kept w w') => hT.kept hk)
  have HL2 := Lib.hid (formOf_length n)
  clear hN htag hC hs hT hk0_
  unfold Sls.val Cas.val at *
  cases fo
  · cases cp
    · go_enter Tryz.func56, Tryz.ntmps56
      have p0 := HX0.out
      have p1 := HX1.out
      have p2 := HX2.out
      have p3 := HX3.out
      have p4 := HX4.out
      have p5 := HX5.out
      have p6 := HX6.out
      have p7 := HX7.out
      have p8 := HX8.out
      have p9 := HX9.out
      have p10 := HX10.out
      have p11 := HX11.out
      have p12 := HX12.out
      have p13 := HX13.out
      have p14 := HX14.out
      go_wp2_with fail
      refine (HFM.out A l c _ _ (Kept.trans HK1.out (Kept.refl _)) (by omega) (HTX.out _ HK1.out)).mono ?_
      rintro e w9 ⟨A9, n9, c9, rfl, le9, i9, k9⟩
      have K9 := Lib.hid (Kept.trans (Kept.refl _) k9)
      clear i9 k9
      clear p0 p1 p2 p3 p4 p5 p6 p7 p8 p9 p10 p11 p12 p13 p14
      go_wp2_with fail
      go_ret
      exact ⟨_, rfl, fun _ => trivial, Kept.trans HK1.out K9.out⟩
    · go_enter Tryz.func56, Tryz.ntmps56
      have p0 := HX0.out
      have p1 := HX1.out
      have p2 := HX2.out
      have p3 := HX3.out
      have p4 := HX4.out
      have p5 := HX5.out
      have p6 := HX6.out
      have p7 := HX7.out
      have p8 := HX8.out
      have p9 := HX9.out
      have p10 := HX10.out
      have p11 := HX11.out
      have p12 := HX12.out
      have p13 := HX13.out
      have p14 := HX14.out
      go_wp2_with fail
      refine (HFM.out A l c _ _ (Kept.trans HK1.out (Kept.refl _)) (by omega) (HTX.out _ HK1.out)).mono ?_
      rintro e w9 ⟨A9, n9, c9, rfl, le9, i9, k9⟩
      have K9 := Lib.hid (Kept.trans (Kept.refl _) k9)
      clear i9 k9
      clear p0 p1 p2 p3 p4 p5 p6 p7 p8 p9 p10 p11 p12 p13 p14
      go_wp2_with fail
      go_ret
      exact ⟨_, rfl, fun _ => trivial, Kept.trans HK1.out K9.out⟩
  · cases cp
    · go_enter Tryz.func56, Tryz.ntmps56
      have p0 := HX0.out
      have p1 := HX1.out
      have p2 := HX2.out
      have p3 := HX3.out
      have p4 := HX4.out
      have p5 := HX5.out
      have p6 := HX6.out
      have p7 := HX7.out
      have p8 := HX8.out
      have p9 := HX9.out
      have p10 := HX10.out
      have p11 := HX11.out
      have p12 := HX12.out
      have p13 := HX13.out
      have p14 := HX14.out
      go_wp2_with fail
      refine (HLI.out _ HK1.out).mono ?_
      rintro e w1 ⟨b, rfl, hP, k1⟩
      have K1 := Lib.hid k1
      have HP := Lib.hid hP
      clear hP k1
      clear p0 p1 p2 p3 p4 p5 p6 p7 p8 p9 p10 p11 p12 p13 p14
      cases b
      · go_wp2_with fail
        go_ret
        exact ⟨_, rfl, fun _ => trivial, Kept.trans HK1.out K1.out⟩
      · have p0 := Kept.cell K1.out HX0.out
        have p1 := Kept.cell K1.out HX1.out
        have p2 := Kept.cell K1.out HX2.out
        have p3 := Kept.cell K1.out HX3.out
        have p4 := Kept.cell K1.out HX4.out
        have p5 := Kept.cell K1.out HX5.out
        have p6 := Kept.cell K1.out HX6.out
        have p7 := Kept.cell K1.out HX7.out
        have p8 := Kept.cell K1.out HX8.out
        have p9 := Kept.cell K1.out HX9.out
        have p10 := Kept.cell K1.out HX10.out
        have p11 := Kept.cell K1.out HX11.out
        have p12 := Kept.cell K1.out HX12.out
        have p13 := Kept.cell K1.out HX13.out
        have p14 := Kept.cell K1.out HX14.out
        go_wp2_with fail
        refine (HFI.out _ (Kept.trans HK1.out K1.out) (HP.out trivial)).mono ?_
        rintro e w2 ⟨A2, n2, c2, rfl, le2, i2, k2⟩
        have I2 := Lib.hid i2
        have K2 := Lib.hid (Kept.trans K1.out k2)
        have hn2 : n2 ≤ 25600 := by have h := HP.out trivial; have h2 := i2.1; have h3 := HL2.out 2 (foldA n r xs); have h4 := h.2.1; omega
        clear i2 k2
        clear p0 p1 p2 p3 p4 p5 p6 p7 p8 p9 p10 p11 p12 p13 p14
        have p0 := Kept.cell K2.out HX0.out
        have p1 := Kept.cell K2.out HX1.out
        have p2 := Kept.cell K2.out HX2.out
        have p3 := Kept.cell K2.out HX3.out
        have p4 := Kept.cell K2.out HX4.out
        have p5 := Kept.cell K2.out HX5.out
        have p6 := Kept.cell K2.out HX6.out
        have p7 := Kept.cell K2.out HX7.out
        have p8 := Kept.cell K2.out HX8.out
        have p9 := Kept.cell K2.out HX9.out
        have p10 := Kept.cell K2.out HX10.out
        have p11 := Kept.cell K2.out HX11.out
        have p12 := Kept.cell K2.out HX12.out
        have p13 := Kept.cell K2.out HX13.out
        have p14 := Kept.cell K2.out HX14.out
        go_wp2_with fail
        refine (HFM.out A2 n2 c2 _ _ (Kept.trans HK1.out K2.out) (by omega) I2.out).mono ?_
        rintro e w9 ⟨A9, n9, c9, rfl, le9, i9, k9⟩
        have K9 := Lib.hid (Kept.trans K2.out k9)
        clear i9 k9
        clear p0 p1 p2 p3 p4 p5 p6 p7 p8 p9 p10 p11 p12 p13 p14
        go_wp2_with fail
        go_ret
        exact ⟨_, rfl, fun _ => trivial, Kept.trans HK1.out K9.out⟩
    · go_enter Tryz.func56, Tryz.ntmps56
      have p0 := HX0.out
      have p1 := HX1.out
      have p2 := HX2.out
      have p3 := HX3.out
      have p4 := HX4.out
      have p5 := HX5.out
      have p6 := HX6.out
      have p7 := HX7.out
      have p8 := HX8.out
      have p9 := HX9.out
      have p10 := HX10.out
      have p11 := HX11.out
      have p12 := HX12.out
      have p13 := HX13.out
      have p14 := HX14.out
      go_wp2_with fail
      refine (HLJ.out _ HK1.out).mono ?_
      rintro e w1 ⟨b, rfl, hP, k1⟩
      have K1 := Lib.hid k1
      have HP := Lib.hid hP
      clear hP k1
      clear p0 p1 p2 p3 p4 p5 p6 p7 p8 p9 p10 p11 p12 p13 p14
      cases b
      · go_wp2_with fail
        go_ret
        exact ⟨_, rfl, fun _ => trivial, Kept.trans HK1.out K1.out⟩
      · have p0 := Kept.cell K1.out HX0.out
        have p1 := Kept.cell K1.out HX1.out
        have p2 := Kept.cell K1.out HX2.out
        have p3 := Kept.cell K1.out HX3.out
        have p4 := Kept.cell K1.out HX4.out
        have p5 := Kept.cell K1.out HX5.out
        have p6 := Kept.cell K1.out HX6.out
        have p7 := Kept.cell K1.out HX7.out
        have p8 := Kept.cell K1.out HX8.out
        have p9 := Kept.cell K1.out HX9.out
        have p10 := Kept.cell K1.out HX10.out
        have p11 := Kept.cell K1.out HX11.out
        have p12 := Kept.cell K1.out HX12.out
        have p13 := Kept.cell K1.out HX13.out
        have p14 := Kept.cell K1.out HX14.out
        go_wp2_with fail
        refine (HFJ.out _ (Kept.trans HK1.out K1.out) (HP.out trivial)).mono ?_
        rintro e w2 ⟨A2, n2, c2, rfl, le2, i2, k2⟩
        have I2 := Lib.hid i2
        have K2 := Lib.hid (Kept.trans K1.out k2)
        have hn2 : n2 ≤ 400 := by have h := HP.out trivial; have h2 := i2.1; have h4 := (h.2.2 rfl).2.2; omega
        clear i2 k2
        clear p0 p1 p2 p3 p4 p5 p6 p7 p8 p9 p10 p11 p12 p13 p14
        have p0 := Kept.cell K2.out HX0.out
        have p1 := Kept.cell K2.out HX1.out
        have p2 := Kept.cell K2.out HX2.out
        have p3 := Kept.cell K2.out HX3.out
        have p4 := Kept.cell K2.out HX4.out
        have p5 := Kept.cell K2.out HX5.out
        have p6 := Kept.cell K2.out HX6.out
        have p7 := Kept.cell K2.out HX7.out
        have p8 := Kept.cell K2.out HX8.out
        have p9 := Kept.cell K2.out HX9.out
        have p10 := Kept.cell K2.out HX10.out
        have p11 := Kept.cell K2.out HX11.out
        have p12 := Kept.cell K2.out HX12.out
        have p13 := Kept.cell K2.out HX13.out
        have p14 := Kept.cell K2.out HX14.out
        go_wp2_with fail
        refine (HFM.out A2 n2 c2 _ _ (Kept.trans HK1.out K2.out) (by omega) I2.out).mono ?_
        rintro e w9 ⟨A9, n9, c9, rfl, le9, i9, k9⟩
        have K9 := Lib.hid (Kept.trans K2.out k9)
        clear i9 k9
        clear p0 p1 p2 p3 p4 p5 p6 p7 p8 p9 p10 p11 p12 p13 p14
        go_wp2_with fail
        go_ret
        exact ⟨_, rfl, fun _ => trivial, Kept.trans HK1.out K9.out⟩
set_option maxRecDepth 100000 in
set_option maxHeartbeats 2000000 in
theorem all39 (s : Sls) (n : Nrm) (k : Cas) (r : CasR) (i : Ids) (ir : IdR) (A : Option Addr) (l c : Nat) (xs : List Int) (cp fo : Bool) (w : World) (hN : NormIn w s n) (hC : CasIn w k r) (hI : IdIn w i ir) (hl : l ≤ c ∧ c ≤ 9223372036854775807) (hT : Ints w A l xs) : Calls Tryz.prog 29 #[.agg #[.slice s.Ac s.nc s.cc, .slice s.Am s.nm s.cm, .slice s.Ae s.ne s.ce, .slice k.A1 k.n1 k.c1, .slice k.A2 k.n2 k.c2, .slice k.A3 k.n3 k.c3, .slice k.A4 k.n4 k.c4, .slice k.A5 k.n5 k.c5, .slice k.A6 k.n6 k.c6, .slice i.As i.ns i.cs, .slice i.Ac i.nc i.cc, .slice i.Am i.nm i.cm, .slice A l c, .bool cp, .bool fo]] w (RetP w (smallI ir = true ∧ l ≤ 20)) := by
  have hk0_ := Kept.alloc (Kept.refl w) (Obj.cells #[Value.slice s.Ac s.nc s.cc, Value.slice s.Am s.nm s.cm, Value.slice s.Ae s.ne s.ce, Value.slice k.A1 k.n1 k.c1, Value.slice k.A2 k.n2 k.c2, Value.slice k.A3 k.n3 k.c3, Value.slice k.A4 k.n4 k.c4, Value.slice k.A5 k.n5 k.c5, Value.slice k.A6 k.n6 k.c6, Value.slice i.As i.ns i.cs, Value.slice i.Ac i.nc i.cc, Value.slice i.Am i.nm i.cm, Value.slice A l c, Value.bool cp, Value.bool fo] 62)
  have HK1 := Lib.hid hk0_
  have hb0_ := (box_block w (Obj.cells #[Value.slice s.Ac s.nc s.cc, Value.slice s.Am s.nm s.cm, Value.slice s.Ae s.ne s.ce, Value.slice k.A1 k.n1 k.c1, Value.slice k.A2 k.n2 k.c2, Value.slice k.A3 k.n3 k.c3, Value.slice k.A4 k.n4 k.c4, Value.slice k.A5 k.n5 k.c5, Value.slice k.A6 k.n6 k.c6, Value.slice i.As i.ns i.cs, Value.slice i.Ac i.nc i.cc, Value.slice i.Am i.nm i.cm, Value.slice A l c, Value.bool cp, Value.bool fo] 62))
  have x0_ := cell_of_block (i := 0) hb0_ rfl
  have x1_ := cell_of_block (i := 1) hb0_ rfl
  have x2_ := cell_of_block (i := 2) hb0_ rfl
  have x3_ := cell_of_block (i := 3) hb0_ rfl
  have x4_ := cell_of_block (i := 4) hb0_ rfl
  have x5_ := cell_of_block (i := 5) hb0_ rfl
  have x6_ := cell_of_block (i := 6) hb0_ rfl
  have x7_ := cell_of_block (i := 7) hb0_ rfl
  have x8_ := cell_of_block (i := 8) hb0_ rfl
  have x9_ := cell_of_block (i := 9) hb0_ rfl
  have x10_ := cell_of_block (i := 10) hb0_ rfl
  have x11_ := cell_of_block (i := 11) hb0_ rfl
  have x12_ := cell_of_block (i := 12) hb0_ rfl
  have x13_ := cell_of_block (i := 13) hb0_ rfl
  have x14_ := cell_of_block (i := 14) hb0_ rfl
  simp only [s4_, s5_, s6_] at x0_ x1_ x2_ x3_ x4_ x5_ x6_ x7_ x8_ x9_ x10_ x11_ x12_ x13_ x14_
  have HX0 := Lib.hid x0_
  have HX1 := Lib.hid x1_
  have HX2 := Lib.hid x2_
  have HX3 := Lib.hid x3_
  have HX4 := Lib.hid x4_
  have HX5 := Lib.hid x5_
  have HX6 := Lib.hid x6_
  have HX7 := Lib.hid x7_
  have HX8 := Lib.hid x8_
  have HX9 := Lib.hid x9_
  have HX10 := Lib.hid x10_
  have HX11 := Lib.hid x11_
  have HX12 := Lib.hid x12_
  have HX13 := Lib.hid x13_
  have HX14 := Lib.hid x14_
  have HB0 := Lib.hid hb0_
  clear x0_ x1_ x2_ x3_ x4_ x5_ x6_ x7_ x8_ x9_ x10_ x11_ x12_ x13_ x14_ hb0_
  have H1 := Lib.hid (r21small s n _ (hN.kept HK1.out))
  have H2 := Lib.hid (fun w' (hk : Kept w w') => r37Small k r w' (hC.kept hk))
  have H3 := Lib.hid (fun w' (hk : Kept w w') => r39Small i ir w' (hI.kept hk))
  have H4 := Lib.hid (fun w' (hk : Kept w w') (h1 : smallB n = true) (h2 : smallC r = true) (h3 : l ≤ 20) => light39 s n k r i ir A l c xs cp fo w' ((hN.small h1).kept hk) (fun m hm => Nat.le_trans ((smallB_parts h1).2.2.2 m hm).2 (by decide)) (hC.kept hk) h2 (by omega) (hT.kept hk))
  obtain ⟨hle, hc⟩ := hl
  clear hN hC hI hT hk0_
  unfold Sls.val Cas.val Ids.val at *
  have p0 := HX0.out
  have p1 := HX1.out
  have p2 := HX2.out
  have p3 := HX3.out
  have p4 := HX4.out
  have p5 := HX5.out
  have p6 := HX6.out
  have p7 := HX7.out
  have p8 := HX8.out
  have p9 := HX9.out
  have p10 := HX10.out
  have p11 := HX11.out
  have p12 := HX12.out
  have p13 := HX13.out
  have p14 := HX14.out
  go_enter Tryz.func29, Tryz.ntmps29
  go_wp2_with fail
  refine H1.out.mono ?_
  rintro e w1 ⟨rfl, k1⟩
  have K1 := Lib.hid k1
  clear k1
  clear p0 p1 p2 p3 p4 p5 p6 p7 p8 p9 p10 p11 p12 p13 p14
  cases h1 : smallB n
  · go_wp2_with fail
    go_ret
    exact ⟨false, rfl, (fun h => by cases h), Kept.trans HK1.out K1.out⟩
  · skip
    have p0 := Kept.cell K1.out HX0.out
    have p1 := Kept.cell K1.out HX1.out
    have p2 := Kept.cell K1.out HX2.out
    have p3 := Kept.cell K1.out HX3.out
    have p4 := Kept.cell K1.out HX4.out
    have p5 := Kept.cell K1.out HX5.out
    have p6 := Kept.cell K1.out HX6.out
    have p7 := Kept.cell K1.out HX7.out
    have p8 := Kept.cell K1.out HX8.out
    have p9 := Kept.cell K1.out HX9.out
    have p10 := Kept.cell K1.out HX10.out
    have p11 := Kept.cell K1.out HX11.out
    have p12 := Kept.cell K1.out HX12.out
    have p13 := Kept.cell K1.out HX13.out
    have p14 := Kept.cell K1.out HX14.out
    go_wp2_with fail
    refine (H2.out _ (Kept.trans HK1.out K1.out)).mono ?_
    rintro e w2 ⟨rfl, k2⟩
    have K2 := Lib.hid (Kept.trans K1.out k2)
    clear k2
    clear p0 p1 p2 p3 p4 p5 p6 p7 p8 p9 p10 p11 p12 p13 p14
    cases h2 : smallC r
    · go_wp2_with fail
      go_ret
      exact ⟨false, rfl, (fun h => by cases h), Kept.trans HK1.out K2.out⟩
    · skip
      have p0 := Kept.cell K2.out HX0.out
      have p1 := Kept.cell K2.out HX1.out
      have p2 := Kept.cell K2.out HX2.out
      have p3 := Kept.cell K2.out HX3.out
      have p4 := Kept.cell K2.out HX4.out
      have p5 := Kept.cell K2.out HX5.out
      have p6 := Kept.cell K2.out HX6.out
      have p7 := Kept.cell K2.out HX7.out
      have p8 := Kept.cell K2.out HX8.out
      have p9 := Kept.cell K2.out HX9.out
      have p10 := Kept.cell K2.out HX10.out
      have p11 := Kept.cell K2.out HX11.out
      have p12 := Kept.cell K2.out HX12.out
      have p13 := Kept.cell K2.out HX13.out
      have p14 := Kept.cell K2.out HX14.out
      go_wp2_with fail
      refine (H3.out _ (Kept.trans HK1.out K2.out)).mono ?_
      rintro e w3 ⟨rfl, k3⟩
      have K3 := Lib.hid (Kept.trans K2.out k3)
      clear k3
      clear p0 p1 p2 p3 p4 p5 p6 p7 p8 p9 p10 p11 p12 p13 p14
      cases h3 : smallI ir
      · go_wp2_with fail
        go_ret
        exact ⟨false, rfl, (fun h => by cases h), Kept.trans HK1.out K3.out⟩
      · skip
        by_cases h4 : l ≤ 20
        · have hg : (l : Int) ≤ 20 := by omega
          have p0 := Kept.cell K3.out HX0.out
          have p1 := Kept.cell K3.out HX1.out
          have p2 := Kept.cell K3.out HX2.out
          have p3 := Kept.cell K3.out HX3.out
          have p4 := Kept.cell K3.out HX4.out
          have p5 := Kept.cell K3.out HX5.out
          have p6 := Kept.cell K3.out HX6.out
          have p7 := Kept.cell K3.out HX7.out
          have p8 := Kept.cell K3.out HX8.out
          have p9 := Kept.cell K3.out HX9.out
          have p10 := Kept.cell K3.out HX10.out
          have p11 := Kept.cell K3.out HX11.out
          have p12 := Kept.cell K3.out HX12.out
          have p13 := Kept.cell K3.out HX13.out
          have p14 := Kept.cell K3.out HX14.out
          go_wp2_with fail
          refine (H4.out _ (Kept.trans HK1.out K3.out) h1 h2 h4).mono ?_
          rintro e w4 ⟨b, rfl, _, k4⟩
          have K4 := Lib.hid (Kept.trans K3.out k4)
          clear k4
          clear p0 p1 p2 p3 p4 p5 p6 p7 p8 p9 p10 p11 p12 p13 p14
          go_wp2_with fail
          go_ret
          exact ⟨_, rfl, fun _ => ⟨h3, h4⟩, Kept.trans HK1.out K4.out⟩
        · have hg : ¬ (l : Int) ≤ 20 := by omega
          have p0 := Kept.cell K3.out HX0.out
          have p1 := Kept.cell K3.out HX1.out
          have p2 := Kept.cell K3.out HX2.out
          have p3 := Kept.cell K3.out HX3.out
          have p4 := Kept.cell K3.out HX4.out
          have p5 := Kept.cell K3.out HX5.out
          have p6 := Kept.cell K3.out HX6.out
          have p7 := Kept.cell K3.out HX7.out
          have p8 := Kept.cell K3.out HX8.out
          have p9 := Kept.cell K3.out HX9.out
          have p10 := Kept.cell K3.out HX10.out
          have p11 := Kept.cell K3.out HX11.out
          have p12 := Kept.cell K3.out HX12.out
          have p13 := Kept.cell K3.out HX13.out
          have p14 := Kept.cell K3.out HX14.out
          go_wp2_with fail
          go_ret
          exact ⟨false, rfl, (fun h => by cases h), Kept.trans HK1.out K3.out⟩
end Go.Proofs.YtmlcdohldkgcdaaGreatDoor
