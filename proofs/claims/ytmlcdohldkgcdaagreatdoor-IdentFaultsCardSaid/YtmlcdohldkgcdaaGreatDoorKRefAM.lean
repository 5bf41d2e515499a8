/- The reference on the data of case mapping: Small, Check, Data, Fold. -/
import Derived.Test.YtmlcdohldkgcdaaGreatDoorKSq
import Derived.Test.YtmlcdohldkgcdaaGreatDoorKRefAK
namespace Go.Proofs.YtmlcdohldkgcdaaGreatDoor
open Go Go.RowKit
def checkC (r : CasR) : Int :=
  if refMapCheck r.lo ≠ 0 then refMapCheck r.lo else if refMapCheck r.up ≠ 0 then refMapCheck r.up else if refMapCheck r.ti ≠ 0 then refMapCheck r.ti else if refMapCheck r.fo ≠ 0 then refMapCheck r.fo else
  if r.lo.any (tagB ⟨#[102, 105, 110, 97, 108]⟩) || (r.up.any (tagB ⟨#[]⟩) || (r.ti.any (tagB ⟨#[]⟩) || r.fo.any (tagB ⟨#[]⟩))) then 6 else if !decide (r.ca = refMake r.ca) || !decide (r.ig = refMake r.ig) then 11 else 0
set_option maxRecDepth 100000 in
set_option maxHeartbeats 2000000 in
theorem r37Small (k : Cas) (r : CasR) (w : World) (hC : CasIn w k r) : Calls Tryz.prog 55 #[k.val] w (RetB w (smallC r)) := by
  have hk0_ := Kept.alloc (Kept.refl w) (Obj.cells #[Value.slice k.A1 k.n1 k.c1, Value.slice k.A2 k.n2 k.c2, Value.slice k.A3 k.n3 k.c3, Value.slice k.A4 k.n4 k.c4, Value.slice k.A5 k.n5 k.c5, Value.slice k.A6 k.n6 k.c6] 60)
  have HK1 := Lib.hid hk0_
  have hb0_ := (box_block w (Obj.cells #[Value.slice k.A1 k.n1 k.c1, Value.slice k.A2 k.n2 k.c2, Value.slice k.A3 k.n3 k.c3, Value.slice k.A4 k.n4 k.c4, Value.slice k.A5 k.n5 k.c5, Value.slice k.A6 k.n6 k.c6] 60))
  have x0_ := cell_of_block (i := 0) hb0_ rfl
  have x1_ := cell_of_block (i := 1) hb0_ rfl
  have x2_ := cell_of_block (i := 2) hb0_ rfl
  have x3_ := cell_of_block (i := 3) hb0_ rfl
  have x4_ := cell_of_block (i := 4) hb0_ rfl
  have x5_ := cell_of_block (i := 5) hb0_ rfl
  simp only [s4_, s5_, s6_] at x0_ x1_ x2_ x3_ x4_ x5_
  have HX0 := Lib.hid x0_
  have HX1 := Lib.hid x1_
  have HX2 := Lib.hid x2_
  have HX3 := Lib.hid x3_
  have HX4 := Lib.hid x4_
  have HX5 := Lib.hid x5_
  have HB0 := Lib.hid hb0_
  clear x0_ x1_ x2_ x3_ x4_ x5_ hb0_
  have H1 := Lib.hid (fun w' (hk : Kept w w') => r11Small k.A1 k.n1 k.c1 r.lo w' (Nat.le_trans hC.m1.le hC.m1.big) (hC.m1.at_.kept hk) hC.m1.tos)
  have H2 := Lib.hid (fun w' (hk : Kept w w') => r11Small k.A2 k.n2 k.c2 r.up w' (Nat.le_trans hC.m2.le hC.m2.big) (hC.m2.at_.kept hk) hC.m2.tos)
  have H3 := Lib.hid (fun w' (hk : Kept w w') => r11Small k.A3 k.n3 k.c3 r.ti w' (Nat.le_trans hC.m3.le hC.m3.big) (hC.m3.at_.kept hk) hC.m3.tos)
  have H4 := Lib.hid (fun w' (hk : Kept w w') => r11Small k.A4 k.n4 k.c4 r.fo w' (Nat.le_trans hC.m4.le hC.m4.big) (hC.m4.at_.kept hk) hC.m4.tos)
  have H5 := Lib.hid (fun w' => r02Small k.A5 k.n5 k.c5 w')
  have H6 := Lib.hid (fun w' => r02Small k.A6 k.n6 k.c6 w')
  have HSM := Lib.hid (show smallC r = (smallMaps r.lo && smallMaps r.up && smallMaps r.ti && smallMaps r.fo && decide (k.n5 ≤ 12) && decide (k.n6 ≤ 12)) by unfold smallC; rw [← hC.r5.1, ← hC.r6.1])
  clear hC hk0_
  generalize smallMaps r.lo = b1 at *
  generalize smallMaps r.up = b2 at *
  generalize smallMaps r.ti = b3 at *
  generalize smallMaps r.fo = b4 at *
  generalize decide (k.n5 ≤ 12) = b5 at *
  generalize decide (k.n6 ≤ 12) = b6 at *
  rw [HSM.out]
  unfold Cas.val at *
  cases b1
  · skip
    go_enter Tryz.func55, Tryz.ntmps55
    have p0 := HX0.out
    have p1 := HX1.out
    have p2 := HX2.out
    have p3 := HX3.out
    have p4 := HX4.out
    have p5 := HX5.out
    go_wp2_with fail
    refine (H1.out _ HK1.out).mono ?_
    rintro e w1 ⟨rfl, he1⟩
    subst he1
    go_wp2_with fail
    go_ret
    exact ⟨rfl, HK1.out⟩
  · skip
    cases b2
    · skip
      go_enter Tryz.func55, Tryz.ntmps55
      have p0 := HX0.out
      have p1 := HX1.out
      have p2 := HX2.out
      have p3 := HX3.out
      have p4 := HX4.out
      have p5 := HX5.out
      go_wp2_with fail
      refine (H1.out _ HK1.out).mono ?_
      rintro e w1 ⟨rfl, he1⟩
      subst he1
      go_wp2_with fail
      refine (H2.out _ HK1.out).mono ?_
      rintro e w2 ⟨rfl, he2⟩
      subst he2
      go_wp2_with fail
      go_ret
      exact ⟨rfl, HK1.out⟩
    · skip
      cases b3
      · skip
        go_enter Tryz.func55, Tryz.ntmps55
        have p0 := HX0.out
        have p1 := HX1.out
        have p2 := HX2.out
        have p3 := HX3.out
        have p4 := HX4.out
        have p5 := HX5.out
        go_wp2_with fail
        refine (H1.out _ HK1.out).mono ?_
        rintro e w1 ⟨rfl, he1⟩
        subst he1
        go_wp2_with fail
        refine (H2.out _ HK1.out).mono ?_
        rintro e w2 ⟨rfl, he2⟩
        subst he2
        go_wp2_with fail
        refine (H3.out _ HK1.out).mono ?_
        rintro e w3 ⟨rfl, he3⟩
        subst he3
        go_wp2_with fail
        go_ret
        exact ⟨rfl, HK1.out⟩
      · skip
        cases b4
        · skip
          go_enter Tryz.func55, Tryz.ntmps55
          have p0 := HX0.out
          have p1 := HX1.out
          have p2 := HX2.out
          have p3 := HX3.out
          have p4 := HX4.out
          have p5 := HX5.out
          go_wp2_with fail
          refine (H1.out _ HK1.out).mono ?_
          rintro e w1 ⟨rfl, he1⟩
          subst he1
          go_wp2_with fail
          refine (H2.out _ HK1.out).mono ?_
          rintro e w2 ⟨rfl, he2⟩
          subst he2
          go_wp2_with fail
          refine (H3.out _ HK1.out).mono ?_
          rintro e w3 ⟨rfl, he3⟩
          subst he3
          go_wp2_with fail
          refine (H4.out _ HK1.out).mono ?_
          rintro e w4 ⟨rfl, he4⟩
          subst he4
          go_wp2_with fail
          go_ret
          exact ⟨rfl, HK1.out⟩
        · skip
          cases b5
          · skip
            go_enter Tryz.func55, Tryz.ntmps55
            have p0 := HX0.out
            have p1 := HX1.out
            have p2 := HX2.out
            have p3 := HX3.out
            have p4 := HX4.out
            have p5 := HX5.out
            go_wp2_with fail
            refine (H1.out _ HK1.out).mono ?_
            rintro e w1 ⟨rfl, he1⟩
            subst he1
            go_wp2_with fail
            refine (H2.out _ HK1.out).mono ?_
            rintro e w2 ⟨rfl, he2⟩
            subst he2
            go_wp2_with fail
            refine (H3.out _ HK1.out).mono ?_
            rintro e w3 ⟨rfl, he3⟩
            subst he3
            go_wp2_with fail
            refine (H4.out _ HK1.out).mono ?_
            rintro e w4 ⟨rfl, he4⟩
            subst he4
            go_wp2_with fail
            refine (H5.out _).mono ?_
            rintro e w5 ⟨rfl, k5⟩
            have K5 := Lib.hid (Kept.trans HK1.out k5)
            go_wp2_with fail
            go_ret
            exact ⟨rfl, K5.out⟩
          · skip
            cases b6
            · skip
              go_enter Tryz.func55, Tryz.ntmps55
              have p0 := HX0.out
              have p1 := HX1.out
              have p2 := HX2.out
              have p3 := HX3.out
              have p4 := HX4.out
              have p5 := HX5.out
              go_wp2_with fail
              refine (H1.out _ HK1.out).mono ?_
              rintro e w1 ⟨rfl, he1⟩
              subst he1
              go_wp2_with fail
              refine (H2.out _ HK1.out).mono ?_
              rintro e w2 ⟨rfl, he2⟩
              subst he2
              go_wp2_with fail
              refine (H3.out _ HK1.out).mono ?_
              rintro e w3 ⟨rfl, he3⟩
              subst he3
              go_wp2_with fail
              refine (H4.out _ HK1.out).mono ?_
              rintro e w4 ⟨rfl, he4⟩
              subst he4
              go_wp2_with fail
              refine (H5.out _).mono ?_
              rintro e w5 ⟨rfl, k5⟩
              have K5 := Lib.hid (Kept.trans HK1.out k5)
              have q5 := Kept.cell k5 p5
              go_wp2_with fail
              refine (H6.out _).mono ?_
              rintro e w6 ⟨rfl, k6⟩
              have K6 := Lib.hid (Kept.trans K5.out k6)
              go_wp2_with fail
              go_ret
              exact ⟨rfl, K6.out⟩
            · skip
              go_enter Tryz.func55, Tryz.ntmps55
              have p0 := HX0.out
              have p1 := HX1.out
              have p2 := HX2.out
              have p3 := HX3.out
              have p4 := HX4.out
              have p5 := HX5.out
              go_wp2_with fail
              refine (H1.out _ HK1.out).mono ?_
              rintro e w1 ⟨rfl, he1⟩
              subst he1
              go_wp2_with fail
              refine (H2.out _ HK1.out).mono ?_
              rintro e w2 ⟨rfl, he2⟩
              subst he2
              go_wp2_with fail
              refine (H3.out _ HK1.out).mono ?_
              rintro e w3 ⟨rfl, he3⟩
              subst he3
              go_wp2_with fail
              refine (H4.out _ HK1.out).mono ?_
              rintro e w4 ⟨rfl, he4⟩
              subst he4
              go_wp2_with fail
              refine (H5.out _).mono ?_
              rintro e w5 ⟨rfl, k5⟩
              have K5 := Lib.hid (Kept.trans HK1.out k5)
              have q5 := Kept.cell k5 p5
              go_wp2_with fail
              refine (H6.out _).mono ?_
              rintro e w6 ⟨rfl, k6⟩
              have K6 := Lib.hid (Kept.trans K5.out k6)
              go_wp2_with fail
              go_ret
              exact ⟨rfl, K6.out⟩
set_option maxRecDepth 100000 in
set_option maxHeartbeats 2000000 in
theorem r37Check (k : Cas) (r : CasR) (w : World) (hC : CasIn w k r) (hs : smallC r = true) : Calls Tryz.prog 178 #[k.val] w (RetI w (checkC r)) := by
  obtain ⟨s1, s2, s3, s4, s5, s6⟩ := smallC_parts hs
  have hk0_ := Kept.alloc (Kept.refl w) (Obj.cells #[Value.slice k.A1 k.n1 k.c1, Value.slice k.A2 k.n2 k.c2, Value.slice k.A3 k.n3 k.c3, Value.slice k.A4 k.n4 k.c4, Value.slice k.A5 k.n5 k.c5, Value.slice k.A6 k.n6 k.c6] 60)
  have hk1_ := Kept.alloc hk0_ (Obj.cells #[Value.slice k.A1 k.n1 k.c1, Value.slice k.A2 k.n2 k.c2, Value.slice k.A3 k.n3 k.c3, Value.slice k.A4 k.n4 k.c4] 23)
  have HK1 := Lib.hid hk1_
  have hb0_ := (alloc_lift (o := (Obj.cells #[Value.slice k.A1 k.n1 k.c1, Value.slice k.A2 k.n2 k.c2, Value.slice k.A3 k.n3 k.c3, Value.slice k.A4 k.n4 k.c4] 23)) (box_block w (Obj.cells #[Value.slice k.A1 k.n1 k.c1, Value.slice k.A2 k.n2 k.c2, Value.slice k.A3 k.n3 k.c3, Value.slice k.A4 k.n4 k.c4, Value.slice k.A5 k.n5 k.c5, Value.slice k.A6 k.n6 k.c6] 60)))
  have x0_ := cell_of_block (i := 0) hb0_ rfl
  have x1_ := cell_of_block (i := 1) hb0_ rfl
  have x2_ := cell_of_block (i := 2) hb0_ rfl
  have x3_ := cell_of_block (i := 3) hb0_ rfl
  have x4_ := cell_of_block (i := 4) hb0_ rfl
  have x5_ := cell_of_block (i := 5) hb0_ rfl
  have hb1_ := (box_block (w.alloc (Obj.cells #[Value.slice k.A1 k.n1 k.c1, Value.slice k.A2 k.n2 k.c2, Value.slice k.A3 k.n3 k.c3, Value.slice k.A4 k.n4 k.c4, Value.slice k.A5 k.n5 k.c5, Value.slice k.A6 k.n6 k.c6] 60)) (Obj.cells #[Value.slice k.A1 k.n1 k.c1, Value.slice k.A2 k.n2 k.c2, Value.slice k.A3 k.n3 k.c3, Value.slice k.A4 k.n4 k.c4] 23))
  simp only [World.size_alloc] at hb1_
  have x6_ := cell_of_block (i := 0) hb1_ rfl
  have x7_ := cell_of_block (i := 1) hb1_ rfl
  have x8_ := cell_of_block (i := 2) hb1_ rfl
  have x9_ := cell_of_block (i := 3) hb1_ rfl
  simp only [s4_, s5_, s6_] at x0_ x1_ x2_ x3_ x4_ x5_ x6_ x7_ x8_ x9_
  have HX0 := Lib.hid x0_
  have HX1 := Lib.hid x1_
  have HX2 := Lib.hid x2_
  have HX3 := Lib.hid x3_
  have HX4 := Lib.hid x4_
  have HX5 := Lib.hid x5_
  have HX6 := Lib.hid x6_
  have HX7 := Lib.hid x7_
  have HX8 := Lib.hid x8_
  have HX9 := Lib.hid x9_
  have HB0 := Lib.hid hb0_
  have HB1 := Lib.hid hb1_
  clear x0_ x1_ x2_ x3_ x4_ x5_ x6_ x7_ x8_ x9_ hb0_ hb1_
  have C1 := Lib.hid (fun w' (hk : Kept w w') => r11Check k.A1 k.n1 k.c1 r.lo w' (by have h := (smallMaps_parts s1).1; have h2 := hC.m1.at_.1; omega) (hC.m1.at_.kept hk) (fun m hm => Nat.le_trans ((smallMaps_parts s1).2.1 m hm) (by decide)) (fun m hm => Nat.le_trans ((smallMaps_parts s1).2.2 m hm) (by decide)))
  have T1 := Lib.hid (fun w' (hk : Kept w w') => r37tagged k.A1 k.n1 k.c1 r.lo ⟨#[102, 105, 110, 97, 108]⟩ w' (by have h := (smallMaps_parts s1).1; have h2 := hC.m1.at_.1; omega) (hC.m1.at_.kept hk))
  have C2 := Lib.hid (fun w' (hk : Kept w w') => r11Check k.A2 k.n2 k.c2 r.up w' (by have h := (smallMaps_parts s2).1; have h2 := hC.m2.at_.1; omega) (hC.m2.at_.kept hk) (fun m hm => Nat.le_trans ((smallMaps_parts s2).2.1 m hm) (by decide)) (fun m hm => Nat.le_trans ((smallMaps_parts s2).2.2 m hm) (by decide)))
  have T2 := Lib.hid (fun w' (hk : Kept w w') => r37tagged k.A2 k.n2 k.c2 r.up ⟨#[]⟩ w' (by have h := (smallMaps_parts s2).1; have h2 := hC.m2.at_.1; omega) (hC.m2.at_.kept hk))
  have C3 := Lib.hid (fun w' (hk : Kept w w') => r11Check k.A3 k.n3 k.c3 r.ti w' (by have h := (smallMaps_parts s3).1; have h2 := hC.m3.at_.1; omega) (hC.m3.at_.kept hk) (fun m hm => Nat.le_trans ((smallMaps_parts s3).2.1 m hm) (by decide)) (fun m hm => Nat.le_trans ((smallMaps_parts s3).2.2 m hm) (by decide)))
  have T3 := Lib.hid (fun w' (hk : Kept w w') => r37tagged k.A3 k.n3 k.c3 r.ti ⟨#[]⟩ w' (by have h := (smallMaps_parts s3).1; have h2 := hC.m3.at_.1; omega) (hC.m3.at_.kept hk))
  have C4 := Lib.hid (fun w' (hk : Kept w w') => r11Check k.A4 k.n4 k.c4 r.fo w' (by have h := (smallMaps_parts s4).1; have h2 := hC.m4.at_.1; omega) (hC.m4.at_.kept hk) (fun m hm => Nat.le_trans ((smallMaps_parts s4).2.1 m hm) (by decide)) (fun m hm => Nat.le_trans ((smallMaps_parts s4).2.2 m hm) (by decide)))
  have T4 := Lib.hid (fun w' (hk : Kept w w') => r37tagged k.A4 k.n4 k.c4 r.fo ⟨#[]⟩ w' (by have h := (smallMaps_parts s4).1; have h2 := hC.m4.at_.1; omega) (hC.m4.at_.kept hk))
  have V5 := Lib.hid (fun w' (hk : Kept w w') => r02Valid k.A5 k.n5 k.c5 r.ca w' (by have h2 := hC.r5.1; omega) (hC.r5.kept hk) (Nat.le_trans (refMake_length _) (by omega)))
  have V6 := Lib.hid (fun w' (hk : Kept w w') => r02Valid k.A6 k.n6 k.c6 r.ig w' (by have h2 := hC.r6.1; omega) (hC.r6.kept hk) (Nat.le_trans (refMake_length _) (by omega)))
  clear hC hs s1 s2 s3 s4 s5 s6 hk0_ hk1_
  generalize hg1 : refMapCheck r.lo = g1 at *
  generalize hg2 : refMapCheck r.up = g2 at *
  generalize hg3 : refMapCheck r.ti = g3 at *
  generalize hg4 : refMapCheck r.fo = g4 at *
  have HG1 := Lib.hid hg1
  have HG2 := Lib.hid hg2
  have HG3 := Lib.hid hg3
  have HG4 := Lib.hid hg4
  clear hg1 hg2 hg3 hg4
  unfold Cas.val at *
  go_enter Tryz.func178, Tryz.ntmps178
  have p0 := HX0.out
  have p1 := HX1.out
  have p2 := HX2.out
  have p3 := HX3.out
  have p4 := HX4.out
  have p5 := HX5.out
  go_wp2_with fail
  clear p0 p1 p2 p3 p4 p5
  go_loopw [4] (fun i wr => ((i = .int .i64 0) ∨ (i = .int .i64 1 ∧ g1 = 0) ∨ (i = .int .i64 2 ∧ g1 = 0 ∧ g2 = 0) ∨ (i = .int .i64 3 ∧ g1 = 0 ∧ g2 = 0 ∧ g3 = 0) ∨ (i = .int .i64 4 ∧ g1 = 0 ∧ g2 = 0 ∧ g3 = 0 ∧ g4 = 0)) ∧ Kept ((w.alloc (Obj.cells #[Value.slice k.A1 k.n1 k.c1, Value.slice k.A2 k.n2 k.c2, Value.slice k.A3 k.n3 k.c3, Value.slice k.A4 k.n4 k.c4, Value.slice k.A5 k.n5 k.c5, Value.slice k.A6 k.n6 k.c6] 60)).alloc (Obj.cells #[Value.slice k.A1 k.n1 k.c1, Value.slice k.A2 k.n2 k.c2, Value.slice k.A3 k.n3 k.c3, Value.slice k.A4 k.n4 k.c4] 23)) wr) (fun i _ => 4 - (intOf i).toNat)
  case atStart => exact ⟨.inl rfl, Kept.refl _⟩
  case round =>
    obtain ⟨hi, hkw⟩ := hrel
    have KW := Lib.hid hkw
    clear hkw
    rcases hi with rfl | ⟨rfl, z1⟩ | ⟨rfl, z1, z2⟩ | ⟨rfl, z1, z2, z3⟩ | ⟨rfl, z1, z2, z3, z4⟩
    · have y0 := Kept.cell KW.out HX6.out
      by_cases hz : g1 = 0
      · have HZ := Lib.hid hz
        have hb : (g1 != 0) = false := by simp [hz]
        clear hz
        go_wp2_with fail
        refine (C1.out _ (Kept.trans HK1.out KW.out)).mono ?_
        rintro e w1 ⟨rfl, k1⟩
        go_wp2_with fail
        go_roundw
        case rel => exact ⟨.inr (.inl ⟨rfl, HZ.out⟩), Kept.trans KW.out k1⟩
        case measure => simp [intOf]
      · have HZ := Lib.hid hz
        have hb : (g1 != 0) = true := by simp [hz]
        have HV := Lib.hid (show checkC r = g1 by unfold checkC; rw [HG1.out, HG2.out, HG3.out, HG4.out]; simp [hz])
        clear hz
        go_wp2_with fail
        refine (C1.out _ (Kept.trans HK1.out KW.out)).mono ?_
        rintro e w1 ⟨rfl, k1⟩
        go_wp2_with fail
        go_ret
        exact ⟨by rw [HV.out]; rfl, Kept.trans HK1.out (Kept.trans KW.out k1)⟩
    · have y1 := Kept.cell KW.out HX7.out
      have Z1 := Lib.hid z1
      clear z1
      by_cases hz : g2 = 0
      · have HZ := Lib.hid hz
        have hb : (g2 != 0) = false := by simp [hz]
        clear hz
        go_wp2_with fail
        refine (C2.out _ (Kept.trans HK1.out KW.out)).mono ?_
        rintro e w1 ⟨rfl, k1⟩
        go_wp2_with fail
        go_roundw
        case rel => exact ⟨.inr (.inr (.inl ⟨rfl, Z1.out, HZ.out⟩)), Kept.trans KW.out k1⟩
        case measure => simp [intOf]
      · have HZ := Lib.hid hz
        have hb : (g2 != 0) = true := by simp [hz]
        have HV := Lib.hid (show checkC r = g2 by unfold checkC; rw [HG1.out, HG2.out, HG3.out, HG4.out]; simp [Z1.out, hz])
        clear hz
        go_wp2_with fail
        refine (C2.out _ (Kept.trans HK1.out KW.out)).mono ?_
        rintro e w1 ⟨rfl, k1⟩
        go_wp2_with fail
        go_ret
        exact ⟨by rw [HV.out]; rfl, Kept.trans HK1.out (Kept.trans KW.out k1)⟩
    · have y2 := Kept.cell KW.out HX8.out
      have Z1 := Lib.hid z1
      have Z2 := Lib.hid z2
      clear z1 z2
      by_cases hz : g3 = 0
      · have HZ := Lib.hid hz
        have hb : (g3 != 0) = false := by simp [hz]
        clear hz
        go_wp2_with fail
        refine (C3.out _ (Kept.trans HK1.out KW.out)).mono ?_
        rintro e w1 ⟨rfl, k1⟩
        go_wp2_with fail
        go_roundw
        case rel => exact ⟨.inr (.inr (.inr (.inl ⟨rfl, Z1.out, Z2.out, HZ.out⟩))), Kept.trans KW.out k1⟩
        case measure => simp [intOf]
      · have HZ := Lib.hid hz
        have hb : (g3 != 0) = true := by simp [hz]
        have HV := Lib.hid (show checkC r = g3 by unfold checkC; rw [HG1.out, HG2.out, HG3.out, HG4.out]; simp [Z1.out, Z2.out, hz])
        clear hz
        go_wp2_with fail
        refine (C3.out _ (Kept.trans HK1.out KW.out)).mono ?_
        rintro e w1 ⟨rfl, k1⟩
        go_wp2_with fail
        go_ret
        exact ⟨by rw [HV.out]; rfl, Kept.trans HK1.out (Kept.trans KW.out k1)⟩
    · have y3 := Kept.cell KW.out HX9.out
      have Z1 := Lib.hid z1
      have Z2 := Lib.hid z2
      have Z3 := Lib.hid z3
      clear z1 z2 z3
      by_cases hz : g4 = 0
      · have HZ := Lib.hid hz
        have hb : (g4 != 0) = false := by simp [hz]
        clear hz
        go_wp2_with fail
        refine (C4.out _ (Kept.trans HK1.out KW.out)).mono ?_
        rintro e w1 ⟨rfl, k1⟩
        go_wp2_with fail
        go_roundw
        case rel => exact ⟨.inr (.inr (.inr (.inr (⟨rfl, Z1.out, Z2.out, Z3.out, HZ.out⟩)))), Kept.trans KW.out k1⟩
        case measure => simp [intOf]
      · have HZ := Lib.hid hz
        have hb : (g4 != 0) = true := by simp [hz]
        have HV := Lib.hid (show checkC r = g4 by unfold checkC; rw [HG1.out, HG2.out, HG3.out, HG4.out]; simp [Z1.out, Z2.out, Z3.out, hz])
        clear hz
        go_wp2_with fail
        refine (C4.out _ (Kept.trans HK1.out KW.out)).mono ?_
        rintro e w1 ⟨rfl, k1⟩
        go_wp2_with fail
        go_ret
        exact ⟨by rw [HV.out]; rfl, Kept.trans HK1.out (Kept.trans KW.out k1)⟩
    · have HV := Lib.hid (show checkC r = (if r.lo.any (tagB ⟨#[102, 105, 110, 97, 108]⟩) || (r.up.any (tagB ⟨#[]⟩) || (r.ti.any (tagB ⟨#[]⟩) || r.fo.any (tagB ⟨#[]⟩))) then 6 else if !decide (r.ca = refMake r.ca) || !decide (r.ig = refMake r.ig) then 11 else 0) by unfold checkC; rw [HG1.out, HG2.out, HG3.out, HG4.out]; simp [z1, z2, z3, z4])
      clear z1 z2 z3 z4
      generalize r.lo.any (tagB ⟨#[102, 105, 110, 97, 108]⟩) = t1 at *
      generalize r.up.any (tagB ⟨#[]⟩) = t2 at *
      generalize r.ti.any (tagB ⟨#[]⟩) = t3 at *
      generalize r.fo.any (tagB ⟨#[]⟩) = t4 at *
      generalize decide (r.ca = refMake r.ca) = v5 at *
      generalize decide (r.ig = refMake r.ig) = v6 at *
      cases t1
      · skip
        cases t2
        · skip
          cases t3
          · skip
            cases t4
            · skip
              cases v5
              · skip
                have q1 := Kept.cell KW.out HX0.out
                go_wp2_with fail
                clear q1
                refine (T1.out _ (Kept.trans HK1.out KW.out)).mono ?_
                rintro e w1 ⟨rfl, k1⟩
                have K1 := Lib.hid (Kept.trans KW.out k1)
                clear k1
                have q2 := Kept.cell K1.out HX1.out
                go_wp2_with fail
                clear q2
                refine (T2.out _ (Kept.trans HK1.out K1.out)).mono ?_
                rintro e w2 ⟨rfl, k2⟩
                have K2 := Lib.hid (Kept.trans K1.out k2)
                clear k2
                have q3 := Kept.cell K2.out HX2.out
                go_wp2_with fail
                clear q3
                refine (T3.out _ (Kept.trans HK1.out K2.out)).mono ?_
                rintro e w3 ⟨rfl, k3⟩
                have K3 := Lib.hid (Kept.trans K2.out k3)
                clear k3
                have q4 := Kept.cell K3.out HX3.out
                go_wp2_with fail
                clear q4
                refine (T4.out _ (Kept.trans HK1.out K3.out)).mono ?_
                rintro e w4 ⟨rfl, k4⟩
                have K4 := Lib.hid (Kept.trans K3.out k4)
                clear k4
                have q5 := Kept.cell K4.out HX4.out
                go_wp2_with fail
                clear q5
                refine (V5.out _ (Kept.trans HK1.out K4.out)).mono ?_
                rintro e w5 ⟨rfl, k5⟩
                have K5 := Lib.hid (Kept.trans K4.out k5)
                clear k5
                go_wp2_with fail
                go_ret
                exact ⟨by rw [HV.out]; rfl, Kept.trans HK1.out K5.out⟩
              · cases v6
                · skip
                  have q1 := Kept.cell KW.out HX0.out
                  go_wp2_with fail
                  clear q1
                  refine (T1.out _ (Kept.trans HK1.out KW.out)).mono ?_
                  rintro e w1 ⟨rfl, k1⟩
                  have K1 := Lib.hid (Kept.trans KW.out k1)
                  clear k1
                  have q2 := Kept.cell K1.out HX1.out
                  go_wp2_with fail
                  clear q2
                  refine (T2.out _ (Kept.trans HK1.out K1.out)).mono ?_
                  rintro e w2 ⟨rfl, k2⟩
                  have K2 := Lib.hid (Kept.trans K1.out k2)
                  clear k2
                  have q3 := Kept.cell K2.out HX2.out
                  go_wp2_with fail
                  clear q3
                  refine (T3.out _ (Kept.trans HK1.out K2.out)).mono ?_
                  rintro e w3 ⟨rfl, k3⟩
                  have K3 := Lib.hid (Kept.trans K2.out k3)
                  clear k3
                  have q4 := Kept.cell K3.out HX3.out
                  go_wp2_with fail
                  clear q4
                  refine (T4.out _ (Kept.trans HK1.out K3.out)).mono ?_
                  rintro e w4 ⟨rfl, k4⟩
                  have K4 := Lib.hid (Kept.trans K3.out k4)
                  clear k4
                  have q5 := Kept.cell K4.out HX4.out
                  go_wp2_with fail
                  clear q5
                  refine (V5.out _ (Kept.trans HK1.out K4.out)).mono ?_
                  rintro e w5 ⟨rfl, k5⟩
                  have K5 := Lib.hid (Kept.trans K4.out k5)
                  clear k5
                  have q6 := Kept.cell K5.out HX5.out
                  go_wp2_with fail
                  clear q6
                  refine (V6.out _ (Kept.trans HK1.out K5.out)).mono ?_
                  rintro e w6 ⟨rfl, k6⟩
                  have K6 := Lib.hid (Kept.trans K5.out k6)
                  clear k6
                  go_wp2_with fail
                  go_ret
                  exact ⟨by rw [HV.out]; rfl, Kept.trans HK1.out K6.out⟩
                · skip
                  have q1 := Kept.cell KW.out HX0.out
                  go_wp2_with fail
                  clear q1
                  refine (T1.out _ (Kept.trans HK1.out KW.out)).mono ?_
                  rintro e w1 ⟨rfl, k1⟩
                  have K1 := Lib.hid (Kept.trans KW.out k1)
                  clear k1
                  have q2 := Kept.cell K1.out HX1.out
                  go_wp2_with fail
                  clear q2
                  refine (T2.out _ (Kept.trans HK1.out K1.out)).mono ?_
                  rintro e w2 ⟨rfl, k2⟩
                  have K2 := Lib.hid (Kept.trans K1.out k2)
                  clear k2
                  have q3 := Kept.cell K2.out HX2.out
                  go_wp2_with fail
                  clear q3
                  refine (T3.out _ (Kept.trans HK1.out K2.out)).mono ?_
                  rintro e w3 ⟨rfl, k3⟩
                  have K3 := Lib.hid (Kept.trans K2.out k3)
                  clear k3
                  have q4 := Kept.cell K3.out HX3.out
                  go_wp2_with fail
                  clear q4
                  refine (T4.out _ (Kept.trans HK1.out K3.out)).mono ?_
                  rintro e w4 ⟨rfl, k4⟩
                  have K4 := Lib.hid (Kept.trans K3.out k4)
                  clear k4
                  have q5 := Kept.cell K4.out HX4.out
                  go_wp2_with fail
                  clear q5
                  refine (V5.out _ (Kept.trans HK1.out K4.out)).mono ?_
                  rintro e w5 ⟨rfl, k5⟩
                  have K5 := Lib.hid (Kept.trans K4.out k5)
                  clear k5
                  have q6 := Kept.cell K5.out HX5.out
                  go_wp2_with fail
                  clear q6
                  refine (V6.out _ (Kept.trans HK1.out K5.out)).mono ?_
                  rintro e w6 ⟨rfl, k6⟩
                  have K6 := Lib.hid (Kept.trans K5.out k6)
                  clear k6
                  go_wp2_with fail
                  go_ret
                  exact ⟨by rw [HV.out]; rfl, Kept.trans HK1.out K6.out⟩
            · skip
              have q1 := Kept.cell KW.out HX0.out
              go_wp2_with fail
              clear q1
              refine (T1.out _ (Kept.trans HK1.out KW.out)).mono ?_
              rintro e w1 ⟨rfl, k1⟩
              have K1 := Lib.hid (Kept.trans KW.out k1)
              clear k1
              have q2 := Kept.cell K1.out HX1.out
              go_wp2_with fail
              clear q2
              refine (T2.out _ (Kept.trans HK1.out K1.out)).mono ?_
              rintro e w2 ⟨rfl, k2⟩
              have K2 := Lib.hid (Kept.trans K1.out k2)
              clear k2
              have q3 := Kept.cell K2.out HX2.out
              go_wp2_with fail
              clear q3
              refine (T3.out _ (Kept.trans HK1.out K2.out)).mono ?_
              rintro e w3 ⟨rfl, k3⟩
              have K3 := Lib.hid (Kept.trans K2.out k3)
              clear k3
              have q4 := Kept.cell K3.out HX3.out
              go_wp2_with fail
              clear q4
              refine (T4.out _ (Kept.trans HK1.out K3.out)).mono ?_
              rintro e w4 ⟨rfl, k4⟩
              have K4 := Lib.hid (Kept.trans K3.out k4)
              clear k4
              go_wp2_with fail
              go_ret
              exact ⟨by rw [HV.out]; rfl, Kept.trans HK1.out K4.out⟩
          · skip
            have q1 := Kept.cell KW.out HX0.out
            go_wp2_with fail
            clear q1
            refine (T1.out _ (Kept.trans HK1.out KW.out)).mono ?_
            rintro e w1 ⟨rfl, k1⟩
            have K1 := Lib.hid (Kept.trans KW.out k1)
            clear k1
            have q2 := Kept.cell K1.out HX1.out
            go_wp2_with fail
            clear q2
            refine (T2.out _ (Kept.trans HK1.out K1.out)).mono ?_
            rintro e w2 ⟨rfl, k2⟩
            have K2 := Lib.hid (Kept.trans K1.out k2)
            clear k2
            have q3 := Kept.cell K2.out HX2.out
            go_wp2_with fail
            clear q3
            refine (T3.out _ (Kept.trans HK1.out K2.out)).mono ?_
            rintro e w3 ⟨rfl, k3⟩
            have K3 := Lib.hid (Kept.trans K2.out k3)
            clear k3
            go_wp2_with fail
            go_ret
            exact ⟨by rw [HV.out]; rfl, Kept.trans HK1.out K3.out⟩
        · skip
          have q1 := Kept.cell KW.out HX0.out
          go_wp2_with fail
          clear q1
          refine (T1.out _ (Kept.trans HK1.out KW.out)).mono ?_
          rintro e w1 ⟨rfl, k1⟩
          have K1 := Lib.hid (Kept.trans KW.out k1)
          clear k1
          have q2 := Kept.cell K1.out HX1.out
          go_wp2_with fail
          clear q2
          refine (T2.out _ (Kept.trans HK1.out K1.out)).mono ?_
          rintro e w2 ⟨rfl, k2⟩
          have K2 := Lib.hid (Kept.trans K1.out k2)
          clear k2
          go_wp2_with fail
          go_ret
          exact ⟨by rw [HV.out]; rfl, Kept.trans HK1.out K2.out⟩
      · skip
        have q1 := Kept.cell KW.out HX0.out
        go_wp2_with fail
        clear q1
        refine (T1.out _ (Kept.trans HK1.out KW.out)).mono ?_
        rintro e w1 ⟨rfl, k1⟩
        have K1 := Lib.hid (Kept.trans KW.out k1)
        clear k1
        go_wp2_with fail
        go_ret
        exact ⟨by rw [HV.out]; rfl, Kept.trans HK1.out K1.out⟩
end Go.Proofs.YtmlcdohldkgcdaaGreatDoor
