/- The reference's case folding: Light, Form. -/
import Derived.Deep.RegionHeld3
import Derived.Test.YtmlcdohldkgcdaaGreatDoorKSq
import Derived.Test.YtmlcdohldkgcdaaGreatDoorKRowK
import Derived.Test.YtmlcdohldkgcdaaGreatDoorKRfz
namespace Go.Proofs.YtmlcdohldkgcdaaGreatDoor
open Go Go.RowKit
noncomputable def foldA (n : Nrm) (r : CasR) (t : List Int) : List Int := foldR r (formOf n 2 t)
noncomputable def foldB (n : Nrm) (r : CasR) (t : List Int) : List Int := foldR r (formOf n 4 (foldA n r t))
def LightP (n : Nrm) (r : CasR) (t : List Int) (lv : Nat) : Prop := (formOf n 2 t).length ≤ 400 ∧ (foldA n r t).length ≤ 400 ∧ (lv = 2 → (formOf n 4 (foldA n r t)).length ≤ 400 ∧ (foldB n r t).length ≤ 400 ∧ (formOf n 4 (foldB n r t)).length ≤ 400)
def RetP (w : World) (P : Prop) (e : Ending) (w' : World) : Prop := ∃ b, e = .returned (.bool b) ∧ (b = true → P) ∧ Kept w w'
set_option maxRecDepth 100000 in
set_option maxHeartbeats 2000000 in
theorem r38Light1 (s : Sls) (n : Nrm) (k : Cas) (r : CasR) (A : Option Addr) (nt ct : Nat) (text : List Int) (w : World) (hN : NormAt w s n) (htag : ∀ m ∈ n.decomp, m.tag.size ≤ 1000) (hC : CasIn w k r) (hs : smallC r = true) (hnt : nt ≤ 1000) (hT : Ints w A nt text) : Calls Tryz.prog 79 #[s.val, k.val, .slice A nt ct, .int .i64 1] w (RetP w (LightP n r text 1)) := by
  have hk0_ := Kept.alloc (Kept.refl w) (Obj.cells #[Value.slice s.Ac s.nc s.cc, Value.slice s.Am s.nm s.cm, Value.slice s.Ae s.ne s.ce] 28)
  have hk1_ := Kept.alloc hk0_ (Obj.cells #[Value.slice k.A1 k.n1 k.c1, Value.slice k.A2 k.n2 k.c2, Value.slice k.A3 k.n3 k.c3, Value.slice k.A4 k.n4 k.c4, Value.slice k.A5 k.n5 k.c5, Value.slice k.A6 k.n6 k.c6] 60)
  have HK1 := Lib.hid hk1_
  have hb0_ := (alloc_lift (o := (Obj.cells #[Value.slice k.A1 k.n1 k.c1, Value.slice k.A2 k.n2 k.c2, Value.slice k.A3 k.n3 k.c3, Value.slice k.A4 k.n4 k.c4, Value.slice k.A5 k.n5 k.c5, Value.slice k.A6 k.n6 k.c6] 60)) (box_block w (Obj.cells #[Value.slice s.Ac s.nc s.cc, Value.slice s.Am s.nm s.cm, Value.slice s.Ae s.ne s.ce] 28)))
  have x0_ := cell_of_block (i := 0) hb0_ rfl
  have x1_ := cell_of_block (i := 1) hb0_ rfl
  have x2_ := cell_of_block (i := 2) hb0_ rfl
  have hb1_ := (box_block (w.alloc (Obj.cells #[Value.slice s.Ac s.nc s.cc, Value.slice s.Am s.nm s.cm, Value.slice s.Ae s.ne s.ce] 28)) (Obj.cells #[Value.slice k.A1 k.n1 k.c1, Value.slice k.A2 k.n2 k.c2, Value.slice k.A3 k.n3 k.c3, Value.slice k.A4 k.n4 k.c4, Value.slice k.A5 k.n5 k.c5, Value.slice k.A6 k.n6 k.c6] 60))
  simp only [World.size_alloc] at hb1_
  have x3_ := cell_of_block (i := 0) hb1_ rfl
  have x4_ := cell_of_block (i := 1) hb1_ rfl
  have x5_ := cell_of_block (i := 2) hb1_ rfl
  have x6_ := cell_of_block (i := 3) hb1_ rfl
  have x7_ := cell_of_block (i := 4) hb1_ rfl
  have x8_ := cell_of_block (i := 5) hb1_ rfl
  simp only [s4_, s5_, s6_] at x0_ x1_ x2_ x3_ x4_ x5_ x6_ x7_ x8_
  have HX0 := Lib.hid x0_
  have HX1 := Lib.hid x1_
  have HX2 := Lib.hid x2_
  have HX3 := Lib.hid x3_
  have HX4 := Lib.hid x4_
  have HX5 := Lib.hid x5_
  have HX6 := Lib.hid x6_
  have HX7 := Lib.hid x7_
  have HX8 := Lib.hid x8_
  have HB0 := Lib.hid hb0_
  have HB1 := Lib.hid hb1_
  clear x0_ x1_ x2_ x3_ x4_ x5_ x6_ x7_ x8_ hb0_ hb1_
  have HFM := Lib.hid (fun (form : Int) (A' : Option Addr) (n' c' : Nat) (X : List Int) w' (hk : Kept w w') (hn' : n' ≤ 1000) (hX : Ints w' A' n' X) => r23form s n form A' n' c' X w' (hN.kept hk) htag hn' hX)
  have HFO := Lib.hid (fun (A' : Option Addr) (n' c' : Nat) (X : List Int) w' (hk : Kept w w') (hn' : n' ≤ 100000) (hX : Ints w' A' n' X) => r38Fold k r A' n' c' X w' (hC.kept hk) hs hn' hX)
  have HTX := Lib.hid (fun w' (hk : Kept w w') => hT.kept hk)
  have HL2 := Lib.hid (formOf_length n)
  have HTL := Lib.hid hT.1
  clear hN htag hC hs hT hk0_ hk1_
  unfold Sls.val Cas.val at *
  go_enter Tryz.func79, Tryz.ntmps79
  go_wp2_with fail
  go_loopw [9, 10, 11] (fun fv tv sv wr => (sv = .int .i64 0 ∧ fv = .int .i64 2 ∧ tv = .slice A nt ct ∧ Kept ((w.alloc (Obj.cells #[Value.slice s.Ac s.nc s.cc, Value.slice s.Am s.nm s.cm, Value.slice s.Ae s.ne s.ce] 28)).alloc (Obj.cells #[Value.slice k.A1 k.n1 k.c1, Value.slice k.A2 k.n2 k.c2, Value.slice k.A3 k.n3 k.c3, Value.slice k.A4 k.n4 k.c4, Value.slice k.A5 k.n5 k.c5, Value.slice k.A6 k.n6 k.c6] 60)) wr) ∨ (sv = .int .i64 1 ∧ fv = .int .i64 4 ∧ ∃ Q q d, tv = .slice Q q d ∧ q ≤ 400 ∧ Ints wr Q q (foldA n r text) ∧ (formOf n 2 text).length ≤ 400 ∧ (foldA n r text).length ≤ 400 ∧ Kept ((w.alloc (Obj.cells #[Value.slice s.Ac s.nc s.cc, Value.slice s.Am s.nm s.cm, Value.slice s.Ae s.ne s.ce] 28)).alloc (Obj.cells #[Value.slice k.A1 k.n1 k.c1, Value.slice k.A2 k.n2 k.c2, Value.slice k.A3 k.n3 k.c3, Value.slice k.A4 k.n4 k.c4, Value.slice k.A5 k.n5 k.c5, Value.slice k.A6 k.n6 k.c6] 60)) wr)) (fun _ _ sv _ => 1 - (intOf sv).toNat)
  case atStart => exact .inl ⟨rfl, rfl, rfl, Kept.refl _⟩
  case round =>
    rcases hrel with ⟨rfl, rfl, rfl, hkw⟩ | ⟨rfl, rfl, Q, q, d, rfl, hq, hQ, b1, b2, hkw⟩
    · have KW := Lib.hid hkw
      clear hkw
      have p0 := Kept.cell KW.out HX0.out
      have p1 := Kept.cell KW.out HX1.out
      have p2 := Kept.cell KW.out HX2.out
      have p3 := Kept.cell KW.out HX3.out
      have p4 := Kept.cell KW.out HX4.out
      have p5 := Kept.cell KW.out HX5.out
      have p6 := Kept.cell KW.out HX6.out
      have p7 := Kept.cell KW.out HX7.out
      have p8 := Kept.cell KW.out HX8.out
      go_wp2_with fail
      refine (HFM.out 2 A nt ct text _ (Kept.trans HK1.out KW.out) (by omega) (HTX.out _ (Kept.trans HK1.out KW.out))).mono ?_
      rintro e w1 ⟨A1, n1, c1, rfl, le1, i1, k1⟩
      have I1 := Lib.hid i1
      have K1 := Lib.hid (Kept.trans KW.out k1)
      clear i1 k1
      clear p0 p1 p2 p3 p4 p5 p6 p7 p8
      by_cases h4 : n1 ≤ 400
      · have hg : ¬ (n1 : Int) > 400 := by omega
        have hg2 : ¬ (400 : Int) < (n1 : Int) := by omega
        have p0 := Kept.cell K1.out HX0.out
        have p1 := Kept.cell K1.out HX1.out
        have p2 := Kept.cell K1.out HX2.out
        have p3 := Kept.cell K1.out HX3.out
        have p4 := Kept.cell K1.out HX4.out
        have p5 := Kept.cell K1.out HX5.out
        have p6 := Kept.cell K1.out HX6.out
        have p7 := Kept.cell K1.out HX7.out
        have p8 := Kept.cell K1.out HX8.out
        go_wp2_with fail
        refine (HFO.out A1 n1 c1 _ _ (Kept.trans HK1.out K1.out) (by omega) I1.out).mono ?_
        rintro e w2 ⟨A2, n2, c2, rfl, le2, i2, k2⟩
        have I2 := Lib.hid i2
        have K2 := Lib.hid (Kept.trans K1.out k2)
        clear i2 k2
        clear p0 p1 p2 p3 p4 p5 p6 p7 p8
        by_cases h5 : n2 ≤ 400
        · have hg3 : ¬ (n2 : Int) > 400 := by omega
          have hg4 : ¬ (400 : Int) < (n2 : Int) := by omega
          go_wp2_with fail
          go_roundw
          case rel => exact .inr (⟨rfl, rfl, A2, n2, c2, rfl, h5, I2.out, by rw [← I1.out.1]; exact h4, by have := I2.out.1; unfold foldA; omega, K2.out⟩)
          case measure => simp [intOf]
        · have hg3 : (n2 : Int) > 400 := by omega
          have hg4 : (400 : Int) < (n2 : Int) := by omega
          go_wp2_with fail
          go_ret
          exact ⟨false, rfl, (fun h => by cases h), Kept.trans HK1.out K2.out⟩
      · have hg : (n1 : Int) > 400 := by omega
        have hg2 : (400 : Int) < (n1 : Int) := by omega
        go_wp2_with fail
        go_ret
        exact ⟨false, rfl, (fun h => by cases h), Kept.trans HK1.out K1.out⟩
    · have KW := Lib.hid hkw
      have B1 := Lib.hid b1
      have B2 := Lib.hid b2
      have IQ := Lib.hid hQ
      clear hQ hkw b1 b2
      have p0 := Kept.cell KW.out HX0.out
      have p1 := Kept.cell KW.out HX1.out
      have p2 := Kept.cell KW.out HX2.out
      have p3 := Kept.cell KW.out HX3.out
      have p4 := Kept.cell KW.out HX4.out
      have p5 := Kept.cell KW.out HX5.out
      have p6 := Kept.cell KW.out HX6.out
      have p7 := Kept.cell KW.out HX7.out
      have p8 := Kept.cell KW.out HX8.out
      go_wp2_with fail
      refine (HFM.out 4 Q q d _ _ (Kept.trans HK1.out KW.out) (by omega) IQ.out).mono ?_
      rintro e w1 ⟨A1, n1, c1, rfl, le1, i1, k1⟩
      have I1 := Lib.hid i1
      have K1 := Lib.hid (Kept.trans KW.out k1)
      clear i1 k1
      clear p0 p1 p2 p3 p4 p5 p6 p7 p8
      by_cases h4 : n1 ≤ 400
      · have hg : (n1 : Int) ≤ 400 := by omega
        go_wp2_with fail
        go_ret
        exact ⟨_, rfl, fun _ => ⟨B1.out, B2.out, fun h => by omega⟩, Kept.trans HK1.out K1.out⟩
      · have hg : ¬ (n1 : Int) ≤ 400 := by omega
        have HG := Lib.hid hg
        clear hg
        go_wp2_with fail
        go_ret
        exact ⟨_, rfl, (fun h => absurd (of_decide_eq_true h) (Int.not_le.2 HG.out)), Kept.trans HK1.out K1.out⟩
set_option maxRecDepth 100000 in
set_option maxHeartbeats 2000000 in
theorem r38Light2 (s : Sls) (n : Nrm) (k : Cas) (r : CasR) (A : Option Addr) (nt ct : Nat) (text : List Int) (w : World) (hN : NormAt w s n) (htag : ∀ m ∈ n.decomp, m.tag.size ≤ 1000) (hC : CasIn w k r) (hs : smallC r = true) (hnt : nt ≤ 1000) (hT : Ints w A nt text) : Calls Tryz.prog 79 #[s.val, k.val, .slice A nt ct, .int .i64 2] w (RetP w (LightP n r text 2)) := by
  have hk0_ := Kept.alloc (Kept.refl w) (Obj.cells #[Value.slice s.Ac s.nc s.cc, Value.slice s.Am s.nm s.cm, Value.slice s.Ae s.ne s.ce] 28)
  have hk1_ := Kept.alloc hk0_ (Obj.cells #[Value.slice k.A1 k.n1 k.c1, Value.slice k.A2 k.n2 k.c2, Value.slice k.A3 k.n3 k.c3, Value.slice k.A4 k.n4 k.c4, Value.slice k.A5 k.n5 k.c5, Value.slice k.A6 k.n6 k.c6] 60)
  have HK1 := Lib.hid hk1_
  have hb0_ := (alloc_lift (o := (Obj.cells #[Value.slice k.A1 k.n1 k.c1, Value.slice k.A2 k.n2 k.c2, Value.slice k.A3 k.n3 k.c3, Value.slice k.A4 k.n4 k.c4, Value.slice k.A5 k.n5 k.c5, Value.slice k.A6 k.n6 k.c6] 60)) (box_block w (Obj.cells #[Value.slice s.Ac s.nc s.cc, Value.slice s.Am s.nm s.cm, Value.slice s.Ae s.ne s.ce] 28)))
  have x0_ := cell_of_block (i := 0) hb0_ rfl
  have x1_ := cell_of_block (i := 1) hb0_ rfl
  have x2_ := cell_of_block (i := 2) hb0_ rfl
  have hb1_ := (box_block (w.alloc (Obj.cells #[Value.slice s.Ac s.nc s.cc, Value.slice s.Am s.nm s.cm, Value.slice s.Ae s.ne s.ce] 28)) (Obj.cells #[Value.slice k.A1 k.n1 k.c1, Value.slice k.A2 k.n2 k.c2, Value.slice k.A3 k.n3 k.c3, Value.slice k.A4 k.n4 k.c4, Value.slice k.A5 k.n5 k.c5, Value.slice k.A6 k.n6 k.c6] 60))
  simp only [World.size_alloc] at hb1_
  have x3_ := cell_of_block (i := 0) hb1_ rfl
  have x4_ := cell_of_block (i := 1) hb1_ rfl
  have x5_ := cell_of_block (i := 2) hb1_ rfl
  have x6_ := cell_of_block (i := 3) hb1_ rfl
  have x7_ := cell_of_block (i := 4) hb1_ rfl
  have x8_ := cell_of_block (i := 5) hb1_ rfl
  simp only [s4_, s5_, s6_] at x0_ x1_ x2_ x3_ x4_ x5_ x6_ x7_ x8_
  have HX0 := Lib.hid x0_
  have HX1 := Lib.hid x1_
  have HX2 := Lib.hid x2_
  have HX3 := Lib.hid x3_
  have HX4 := Lib.hid x4_
  have HX5 := Lib.hid x5_
  have HX6 := Lib.hid x6_
  have HX7 := Lib.hid x7_
  have HX8 := Lib.hid x8_
  have HB0 := Lib.hid hb0_
  have HB1 := Lib.hid hb1_
  clear x0_ x1_ x2_ x3_ x4_ x5_ x6_ x7_ x8_ hb0_ hb1_
  have HFM := Lib.hid (fun (form : Int) (A' : Option Addr) (n' c' : Nat) (X : List Int) w' (hk : Kept w w') (hn' : n' ≤ 1000) (hX : Ints w' A' n' X) => r23form s n form A' n' c' X w' (hN.kept hk) htag hn' hX)
  have HFO := Lib.hid (fun (A' : Option Addr) (n' c' : Nat) (X : List Int) w' (hk : Kept w w') (hn' : n' ≤ 100000) (hX : Ints w' A' n' X) => r38Fold k r A' n' c' X w' (hC.kept hk) hs hn' hX)
  have HTX := Lib.hid (fun w' (hk : Kept w w') => hT.kept hk)
  have HL2 := Lib.hid (formOf_length n)
  have HTL := Lib.hid hT.1
  clear hN htag hC hs hT hk0_ hk1_
  unfold Sls.val Cas.val at *
  go_enter Tryz.func79, Tryz.ntmps79
  go_wp2_with fail
  go_loopw [9, 10, 11] (fun fv tv sv wr => (sv = .int .i64 0 ∧ fv = .int .i64 2 ∧ tv = .slice A nt ct ∧ Kept ((w.alloc (Obj.cells #[Value.slice s.Ac s.nc s.cc, Value.slice s.Am s.nm s.cm, Value.slice s.Ae s.ne s.ce] 28)).alloc (Obj.cells #[Value.slice k.A1 k.n1 k.c1, Value.slice k.A2 k.n2 k.c2, Value.slice k.A3 k.n3 k.c3, Value.slice k.A4 k.n4 k.c4, Value.slice k.A5 k.n5 k.c5, Value.slice k.A6 k.n6 k.c6] 60)) wr) ∨ (sv = .int .i64 1 ∧ fv = .int .i64 4 ∧ ∃ Q q d, tv = .slice Q q d ∧ q ≤ 400 ∧ Ints wr Q q (foldA n r text) ∧ (formOf n 2 text).length ≤ 400 ∧ (foldA n r text).length ≤ 400 ∧ Kept ((w.alloc (Obj.cells #[Value.slice s.Ac s.nc s.cc, Value.slice s.Am s.nm s.cm, Value.slice s.Ae s.ne s.ce] 28)).alloc (Obj.cells #[Value.slice k.A1 k.n1 k.c1, Value.slice k.A2 k.n2 k.c2, Value.slice k.A3 k.n3 k.c3, Value.slice k.A4 k.n4 k.c4, Value.slice k.A5 k.n5 k.c5, Value.slice k.A6 k.n6 k.c6] 60)) wr) ∨ (sv = .int .i64 2 ∧ fv = .int .i64 4 ∧ ∃ Q q d, tv = .slice Q q d ∧ q ≤ 400 ∧ Ints wr Q q (foldB n r text) ∧ (formOf n 2 text).length ≤ 400 ∧ (foldA n r text).length ≤ 400 ∧ (formOf n 4 (foldA n r text)).length ≤ 400 ∧ (foldB n r text).length ≤ 400 ∧ Kept ((w.alloc (Obj.cells #[Value.slice s.Ac s.nc s.cc, Value.slice s.Am s.nm s.cm, Value.slice s.Ae s.ne s.ce] 28)).alloc (Obj.cells #[Value.slice k.A1 k.n1 k.c1, Value.slice k.A2 k.n2 k.c2, Value.slice k.A3 k.n3 k.c3, Value.slice k.A4 k.n4 k.c4, Value.slice k.A5 k.n5 k.c5, Value.slice k.A6 k.n6 k.c6] 60)) wr)) (fun _ _ sv _ => 2 - (intOf sv).toNat)
  case atStart => exact .inl ⟨rfl, rfl, rfl, Kept.refl _⟩
  case round =>
    rcases hrel with ⟨rfl, rfl, rfl, hkw⟩ | ⟨rfl, rfl, Q, q, d, rfl, hq, hQ, b1, b2, hkw⟩ | ⟨rfl, rfl, Q, q, d, rfl, hq, hQ, b1, b2, b3, b4, hkw⟩
    · have KW := Lib.hid hkw
      clear hkw
      have p0 := Kept.cell KW.out HX0.out
      have p1 := Kept.cell KW.out HX1.out
      have p2 := Kept.cell KW.out HX2.out
      have p3 := Kept.cell KW.out HX3.out
      have p4 := Kept.cell KW.out HX4.out
      have p5 := Kept.cell KW.out HX5.out
      have p6 := Kept.cell KW.out HX6.out
      have p7 := Kept.cell KW.out HX7.out
      have p8 := Kept.cell KW.out HX8.out
      go_wp2_with fail
      refine (HFM.out 2 A nt ct text _ (Kept.trans HK1.out KW.out) (by omega) (HTX.out _ (Kept.trans HK1.out KW.out))).mono ?_
      rintro e w1 ⟨A1, n1, c1, rfl, le1, i1, k1⟩
      have I1 := Lib.hid i1
      have K1 := Lib.hid (Kept.trans KW.out k1)
      clear i1 k1
      clear p0 p1 p2 p3 p4 p5 p6 p7 p8
      by_cases h4 : n1 ≤ 400
      · have hg : ¬ (n1 : Int) > 400 := by omega
        have hg2 : ¬ (400 : Int) < (n1 : Int) := by omega
        have p0 := Kept.cell K1.out HX0.out
        have p1 := Kept.cell K1.out HX1.out
        have p2 := Kept.cell K1.out HX2.out
        have p3 := Kept.cell K1.out HX3.out
        have p4 := Kept.cell K1.out HX4.out
        have p5 := Kept.cell K1.out HX5.out
        have p6 := Kept.cell K1.out HX6.out
        have p7 := Kept.cell K1.out HX7.out
        have p8 := Kept.cell K1.out HX8.out
        go_wp2_with fail
        refine (HFO.out A1 n1 c1 _ _ (Kept.trans HK1.out K1.out) (by omega) I1.out).mono ?_
        rintro e w2 ⟨A2, n2, c2, rfl, le2, i2, k2⟩
        have I2 := Lib.hid i2
        have K2 := Lib.hid (Kept.trans K1.out k2)
        clear i2 k2
        clear p0 p1 p2 p3 p4 p5 p6 p7 p8
        by_cases h5 : n2 ≤ 400
        · have hg3 : ¬ (n2 : Int) > 400 := by omega
          have hg4 : ¬ (400 : Int) < (n2 : Int) := by omega
          go_wp2_with fail
          go_roundw
          case rel => exact .inr (.inl ⟨rfl, rfl, A2, n2, c2, rfl, h5, I2.out, by rw [← I1.out.1]; exact h4, by have := I2.out.1; unfold foldA; omega, K2.out⟩)
          case measure => simp [intOf]
        · have hg3 : (n2 : Int) > 400 := by omega
          have hg4 : (400 : Int) < (n2 : Int) := by omega
          go_wp2_with fail
          go_ret
          exact ⟨false, rfl, (fun h => by cases h), Kept.trans HK1.out K2.out⟩
      · have hg : (n1 : Int) > 400 := by omega
        have hg2 : (400 : Int) < (n1 : Int) := by omega
        go_wp2_with fail
        go_ret
        exact ⟨false, rfl, (fun h => by cases h), Kept.trans HK1.out K1.out⟩
    · have KW := Lib.hid hkw
      have B1 := Lib.hid b1
      have B2 := Lib.hid b2
      have IQ := Lib.hid hQ
      clear hQ
      clear hkw b1 b2
      have p0 := Kept.cell KW.out HX0.out
      have p1 := Kept.cell KW.out HX1.out
      have p2 := Kept.cell KW.out HX2.out
      have p3 := Kept.cell KW.out HX3.out
      have p4 := Kept.cell KW.out HX4.out
      have p5 := Kept.cell KW.out HX5.out
      have p6 := Kept.cell KW.out HX6.out
      have p7 := Kept.cell KW.out HX7.out
      have p8 := Kept.cell KW.out HX8.out
      go_wp2_with fail
      refine (HFM.out 4 Q q d _ _ (Kept.trans HK1.out KW.out) (by omega) IQ.out).mono ?_
      rintro e w1 ⟨A1, n1, c1, rfl, le1, i1, k1⟩
      have I1 := Lib.hid i1
      have K1 := Lib.hid (Kept.trans KW.out k1)
      clear i1 k1
      clear p0 p1 p2 p3 p4 p5 p6 p7 p8
      by_cases h4 : n1 ≤ 400
      · have hg : ¬ (n1 : Int) > 400 := by omega
        have hg2 : ¬ (400 : Int) < (n1 : Int) := by omega
        have p0 := Kept.cell K1.out HX0.out
        have p1 := Kept.cell K1.out HX1.out
        have p2 := Kept.cell K1.out HX2.out
        have p3 := Kept.cell K1.out HX3.out
        have p4 := Kept.cell K1.out HX4.out
        have p5 := Kept.cell K1.out HX5.out
        have p6 := Kept.cell K1.out HX6.out
        have p7 := Kept.cell K1.out HX7.out
        have p8 := Kept.cell K1.out HX8.out
        go_wp2_with fail
        refine (HFO.out A1 n1 c1 _ _ (Kept.trans HK1.out K1.out) (by omega) I1.out).mono ?_
        rintro e w2 ⟨A2, n2, c2, rfl, le2, i2, k2⟩
        have I2 := Lib.hid i2
        have K2 := Lib.hid (Kept.trans K1.out k2)
        clear i2 k2
        clear p0 p1 p2 p3 p4 p5 p6 p7 p8
        by_cases h5 : n2 ≤ 400
        · have hg3 : ¬ (n2 : Int) > 400 := by omega
          have hg4 : ¬ (400 : Int) < (n2 : Int) := by omega
          go_wp2_with fail
          go_roundw
          case rel => exact .inr (.inr ⟨rfl, rfl, A2, n2, c2, rfl, h5, I2.out, B1.out, B2.out, by rw [← I1.out.1]; exact h4, by have := I2.out.1; unfold foldB; omega, K2.out⟩)
          case measure => simp [intOf]
        · have hg3 : (n2 : Int) > 400 := by omega
          have hg4 : (400 : Int) < (n2 : Int) := by omega
          go_wp2_with fail
          go_ret
          exact ⟨false, rfl, (fun h => by cases h), Kept.trans HK1.out K2.out⟩
      · have hg : (n1 : Int) > 400 := by omega
        have hg2 : (400 : Int) < (n1 : Int) := by omega
        go_wp2_with fail
        go_ret
        exact ⟨false, rfl, (fun h => by cases h), Kept.trans HK1.out K1.out⟩
    · have KW := Lib.hid hkw
      have B1 := Lib.hid b1
      have B2 := Lib.hid b2
      have B3 := Lib.hid b3
      have B4 := Lib.hid b4
      have IQ := Lib.hid hQ
      clear hQ hkw b1 b2 b3 b4
      have p0 := Kept.cell KW.out HX0.out
      have p1 := Kept.cell KW.out HX1.out
      have p2 := Kept.cell KW.out HX2.out
      have p3 := Kept.cell KW.out HX3.out
      have p4 := Kept.cell KW.out HX4.out
      have p5 := Kept.cell KW.out HX5.out
      have p6 := Kept.cell KW.out HX6.out
      have p7 := Kept.cell KW.out HX7.out
      have p8 := Kept.cell KW.out HX8.out
      go_wp2_with fail
      refine (HFM.out 4 Q q d _ _ (Kept.trans HK1.out KW.out) (by omega) IQ.out).mono ?_
      rintro e w1 ⟨A1, n1, c1, rfl, le1, i1, k1⟩
      have I1 := Lib.hid i1
      have K1 := Lib.hid (Kept.trans KW.out k1)
      clear i1 k1
      clear p0 p1 p2 p3 p4 p5 p6 p7 p8
      by_cases h4 : n1 ≤ 400
      · have hg : (n1 : Int) ≤ 400 := by omega
        go_wp2_with fail
        go_ret
        exact ⟨_, rfl, fun _ => ⟨B1.out, B2.out, fun _ => ⟨B3.out, B4.out, by rw [← I1.out.1]; omega⟩⟩, Kept.trans HK1.out K1.out⟩
      · have hg : ¬ (n1 : Int) ≤ 400 := by omega
        have HG := Lib.hid hg
        clear hg
        go_wp2_with fail
        go_ret
        exact ⟨_, rfl, (fun h => absurd (of_decide_eq_true h) (Int.not_le.2 HG.out)), Kept.trans HK1.out K1.out⟩
set_option maxRecDepth 100000 in
set_option maxHeartbeats 2000000 in
theorem r38Form1 (s : Sls) (n : Nrm) (k : Cas) (r : CasR) (A : Option Addr) (nt ct : Nat) (text : List Int) (w : World) (hN : NormAt w s n) (htag : ∀ m ∈ n.decomp, m.tag.size ≤ 1000) (hC : CasIn w k r) (hs : smallC r = true) (hnt : nt ≤ 1000) (hT : Ints w A nt text) (hP : LightP n r text 1) : Calls Tryz.prog 80 #[s.val, k.val, .slice A nt ct, .int .i64 1] w (RetInts w (formOf n 2 (foldA n r text))) := by
  have hk0_ := Kept.alloc (Kept.refl w) (Obj.cells #[Value.slice s.Ac s.nc s.cc, Value.slice s.Am s.nm s.cm, Value.slice s.Ae s.ne s.ce] 28)
  have hk1_ := Kept.alloc hk0_ (Obj.cells #[Value.slice k.A1 k.n1 k.c1, Value.slice k.A2 k.n2 k.c2, Value.slice k.A3 k.n3 k.c3, Value.slice k.A4 k.n4 k.c4, Value.slice k.A5 k.n5 k.c5, Value.slice k.A6 k.n6 k.c6] 60)
  have HK1 := Lib.hid hk1_
  have hb0_ := (alloc_lift (o := (Obj.cells #[Value.slice k.A1 k.n1 k.c1, Value.slice k.A2 k.n2 k.c2, Value.slice k.A3 k.n3 k.c3, Value.slice k.A4 k.n4 k.c4, Value.slice k.A5 k.n5 k.c5, Value.slice k.A6 k.n6 k.c6] 60)) (box_block w (Obj.cells #[Value.slice s.Ac s.nc s.cc, Value.slice s.Am s.nm s.cm, Value.slice s.Ae s.ne s.ce] 28)))
  have x0_ := cell_of_block (i := 0) hb0_ rfl
  have x1_ := cell_of_block (i := 1) hb0_ rfl
  have x2_ := cell_of_block (i := 2) hb0_ rfl
  have hb1_ := (box_block (w.alloc (Obj.cells #[Value.slice s.Ac s.nc s.cc, Value.slice s.Am s.nm s.cm, Value.slice s.Ae s.ne s.ce] 28)) (Obj.cells #[Value.slice k.A1 k.n1 k.c1, Value.slice k.A2 k.n2 k.c2, Value.slice k.A3 k.n3 k.c3, Value.slice k.A4 k.n4 k.c4, Value.slice k.A5 k.n5 k.c5, Value.slice k.A6 k.n6 k.c6] 60))
  simp only [World.size_alloc] at hb1_
  have x3_ := cell_of_block (i := 0) hb1_ rfl
  have x4_ := cell_of_block (i := 1) hb1_ rfl
  have x5_ := cell_of_block (i := 2) hb1_ rfl
  have x6_ := cell_of_block (i := 3) hb1_ rfl
  have x7_ := cell_of_block (i := 4) hb1_ rfl
  have x8_ := cell_of_block (i := 5) hb1_ rfl
  simp only [s4_, s5_, s6_] at x0_ x1_ x2_ x3_ x4_ x5_ x6_ x7_ x8_
  have HX0 := Lib.hid x0_
  have HX1 := Lib.hid x1_
  have HX2 := Lib.hid x2_
  have HX3 := Lib.hid x3_
  have HX4 := Lib.hid x4_
  have HX5 := Lib.hid x5_
  have HX6 := Lib.hid x6_
  have HX7 := Lib.hid x7_
  have HX8 := Lib.hid x8_
  have HB0 := Lib.hid hb0_
  have HB1 := Lib.hid hb1_
  clear x0_ x1_ x2_ x3_ x4_ x5_ x6_ x7_ x8_ hb0_ hb1_
  have HFM := Lib.hid (fun (form : Int) (A' : Option Addr) (n' c' : Nat) (X : List Int) w' (hk : Kept w w') (hn' : n' ≤ 1000) (hX : Ints w' A' n' X) => r23form s n form A' n' c' X w' (hN.kept hk) htag hn' hX)
  have HFO := Lib.hid (fun (A' : Option Addr) (n' c' : Nat) (X : List Int) w' (hk : Kept w w') (hn' : n' ≤ 100000) (hX : Ints w' A' n' X) => r38Fold k r A' n' c' X w' (hC.kept hk) hs hn' hX)
  have HTX := Lib.hid (fun w' (hk : Kept w w') => hT.kept hk)
  have HL2 := Lib.hid (formOf_length n)
  have HTL := Lib.hid hT.1
  obtain ⟨b1, b2, b3⟩ := hP
  have B1 := Lib.hid b1
  have B2 := Lib.hid b2
  clear hN htag hC hs hT b1 b2 b3 hk0_ hk1_
  unfold Sls.val Cas.val at *
  go_enter Tryz.func80, Tryz.ntmps80
  have p0 := HX0.out
  have p1 := HX1.out
  have p2 := HX2.out
  have p3 := HX3.out
  have p4 := HX4.out
  have p5 := HX5.out
  have p6 := HX6.out
  have p7 := HX7.out
  have p8 := HX8.out
  go_wp2_with fail
  refine wp_region_held_drew (S := (fun w' => w'.cell? ⟨w.heap.size, 0, none⟩ = some (.slice s.Ac s.nc s.cc) ∧ w'.cell? ⟨w.heap.size, 1, none⟩ = some (.slice s.Am s.nm s.cm) ∧ w'.cell? ⟨w.heap.size, 2, none⟩ = some (.slice s.Ae s.ne s.ce) ∧ w'.cell? ⟨w.heap.size + 1, 0, none⟩ = some (.slice k.A1 k.n1 k.c1) ∧ w'.cell? ⟨w.heap.size + 1, 1, none⟩ = some (.slice k.A2 k.n2 k.c2) ∧ w'.cell? ⟨w.heap.size + 1, 2, none⟩ = some (.slice k.A3 k.n3 k.c3) ∧ w'.cell? ⟨w.heap.size + 1, 3, none⟩ = some (.slice k.A4 k.n4 k.c4) ∧ w'.cell? ⟨w.heap.size + 1, 4, none⟩ = some (.slice k.A5 k.n5 k.c5) ∧ w'.cell? ⟨w.heap.size + 1, 5, none⟩ = some (.slice k.A6 k.n6 k.c6))) (by kernel_rfl) ⟨p0, p1, p2, p3, p4, p5, p6, p7, p8⟩ (fun hHeld => ?_)
  refine tk_ 0 ?_ rfl ?_; refine tk_ 1 ?_ rfl ?_; refine tk_ 2 ?_ rfl ?_; refine tk_ 3 ?_ rfl ?_
  refine rd_ 4 rfl (fun K hK => ?_)
  go_simp
  (refine (HFM.out 2 A nt ct text _ (Kept.trans HK1.out (Kept.drew (Kept.refl ((w.alloc (Obj.cells #[Value.slice s.Ac s.nc s.cc, Value.slice s.Am s.nm s.cm, Value.slice s.Ae s.ne s.ce] 28)).alloc (Obj.cells #[Value.slice k.A1 k.n1 k.c1, Value.slice k.A2 k.n2 k.c2, Value.slice k.A3 k.n3 k.c3, Value.slice k.A4 k.n4 k.c4, Value.slice k.A5 k.n5 k.c5, Value.slice k.A6 k.n6 k.c6] 60))))) hnt (HTX.out _ (Kept.trans HK1.out (Kept.drew (Kept.refl ((w.alloc (Obj.cells #[Value.slice s.Ac s.nc s.cc, Value.slice s.Am s.nm s.cm, Value.slice s.Ae s.ne s.ce] 28)).alloc (Obj.cells #[Value.slice k.A1 k.n1 k.c1, Value.slice k.A2 k.n2 k.c2, Value.slice k.A3 k.n3 k.c3, Value.slice k.A4 k.n4 k.c4, Value.slice k.A5 k.n5 k.c5, Value.slice k.A6 k.n6 k.c6] 60))))))).mono ?_; rintro e w1 ⟨A1, n1, c1, rfl, le1, i1, k1⟩; have I1 := Lib.hid i1; have hn1 := (show n1 ≤ 400 by rw [i1.1]; exact B1.out); clear i1; have KB1 := Lib.hid (Kept.trans (Kept.drew (Kept.refl ((w.alloc (Obj.cells #[Value.slice s.Ac s.nc s.cc, Value.slice s.Am s.nm s.cm, Value.slice s.Ae s.ne s.ce] 28)).alloc (Obj.cells #[Value.slice k.A1 k.n1 k.c1, Value.slice k.A2 k.n2 k.c2, Value.slice k.A3 k.n3 k.c3, Value.slice k.A4 k.n4 k.c4, Value.slice k.A5 k.n5 k.c5, Value.slice k.A6 k.n6 k.c6] 60)))) k1))
  go_wp2_with fail
  refine hK.out _ _ ⟨Kept.cell KB1.out HX0.out, Kept.cell KB1.out HX1.out, Kept.cell KB1.out HX2.out, Kept.cell KB1.out HX3.out, Kept.cell KB1.out HX4.out, Kept.cell KB1.out HX5.out, Kept.cell KB1.out HX6.out, Kept.cell KB1.out HX7.out, Kept.cell KB1.out HX8.out⟩ (fun hHeld => ?_)
  clear hK K
  (try simp only [Act.put, s1_, s2_, s3_, s4_, s5_, s6_])
  refine rd_ 5 rfl (fun K hK => ?_)
  go_simp
  (refine (HFO.out A1 n1 c1 _ _ (Kept.trans HK1.out KB1.out) (by omega) (I1.out.kept (Kept.refl _))).mono ?_; rintro e w2 ⟨A2, n2, c2, rfl, le2, i2, k2⟩; have I2 := Lib.hid i2; have hn2 := (show n2 ≤ 400 by rw [i2.1]; exact B2.out); clear i2; have KB2 := Lib.hid (Kept.trans KB1.out k2))
  go_wp2_with fail
  refine hK.out _ _ ⟨Kept.cell KB2.out HX0.out, Kept.cell KB2.out HX1.out, Kept.cell KB2.out HX2.out, Kept.cell KB2.out HX3.out, Kept.cell KB2.out HX4.out, Kept.cell KB2.out HX5.out, Kept.cell KB2.out HX6.out, Kept.cell KB2.out HX7.out, Kept.cell KB2.out HX8.out⟩ (fun hHeld => ?_)
  clear hK K
  (try simp only [Act.put, s1_, s2_, s3_, s4_, s5_, s6_])
  refine rd_ 6 rfl (fun K hK => ?_)
  go_simp
  (refine (HFM.out 2 A2 n2 c2 _ _ (Kept.trans HK1.out KB2.out) (by omega) (I2.out.kept (Kept.refl _))).mono ?_; rintro e w3 ⟨A3, n3, c3, rfl, le3, i3, k3⟩; have I3 := Lib.hid i3; clear i3; have KB3 := Lib.hid (Kept.trans KB2.out k3))
  go_wp2_with fail
  refine hK.out _ _ ⟨Kept.cell KB3.out HX0.out, Kept.cell KB3.out HX1.out, Kept.cell KB3.out HX2.out, Kept.cell KB3.out HX3.out, Kept.cell KB3.out HX4.out, Kept.cell KB3.out HX5.out, Kept.cell KB3.out HX6.out, Kept.cell KB3.out HX7.out, Kept.cell KB3.out HX8.out⟩ (fun hHeld => ?_)
  clear hK K
  (try simp only [Act.put, s1_, s2_, s3_, s4_, s5_, s6_])
  refine tk_ 7 ?_ rfl ?_
  refine wpAnyH_done (by kernel_rfl) ?_ _
  clear p0 p1 p2 p3 p4 p5 p6 p7 p8
  go_wp2_with fail
  go_ret
  exact ⟨A3, n3, c3, rfl, le3, I3.out, (Kept.trans HK1.out KB3.out)⟩
set_option maxRecDepth 100000 in
set_option maxHeartbeats 2000000 in
theorem r38Form2 (s : Sls) (n : Nrm) (k : Cas) (r : CasR) (A : Option Addr) (nt ct : Nat) (text : List Int) (w : World) (hN : NormAt w s n) (htag : ∀ m ∈ n.decomp, m.tag.size ≤ 1000) (hC : CasIn w k r) (hs : smallC r = true) (hnt : nt ≤ 1000) (hT : Ints w A nt text) (hP : LightP n r text 2) : Calls Tryz.prog 80 #[s.val, k.val, .slice A nt ct, .int .i64 2] w (RetInts w (formOf n 4 (foldB n r text))) := by
  have hk0_ := Kept.alloc (Kept.refl w) (Obj.cells #[Value.slice s.Ac s.nc s.cc, Value.slice s.Am s.nm s.cm, Value.slice s.Ae s.ne s.ce] 28)
  have hk1_ := Kept.alloc hk0_ (Obj.cells #[Value.slice k.A1 k.n1 k.c1, Value.slice k.A2 k.n2 k.c2, Value.slice k.A3 k.n3 k.c3, Value.slice k.A4 k.n4 k.c4, Value.slice k.A5 k.n5 k.c5, Value.slice k.A6 k.n6 k.c6] 60)
  have HK1 := Lib.hid hk1_
  have hb0_ := (alloc_lift (o := (Obj.cells #[Value.slice k.A1 k.n1 k.c1, Value.slice k.A2 k.n2 k.c2, Value.slice k.A3 k.n3 k.c3, Value.slice k.A4 k.n4 k.c4, Value.slice k.A5 k.n5 k.c5, Value.slice k.A6 k.n6 k.c6] 60)) (box_block w (Obj.cells #[Value.slice s.Ac s.nc s.cc, Value.slice s.Am s.nm s.cm, Value.slice s.Ae s.ne s.ce] 28)))
  have x0_ := cell_of_block (i := 0) hb0_ rfl
  have x1_ := cell_of_block (i := 1) hb0_ rfl
  have x2_ := cell_of_block (i := 2) hb0_ rfl
  have hb1_ := (box_block (w.alloc (Obj.cells #[Value.slice s.Ac s.nc s.cc, Value.slice s.Am s.nm s.cm, Value.slice s.Ae s.ne s.ce] 28)) (Obj.cells #[Value.slice k.A1 k.n1 k.c1, Value.slice k.A2 k.n2 k.c2, Value.slice k.A3 k.n3 k.c3, Value.slice k.A4 k.n4 k.c4, Value.slice k.A5 k.n5 k.c5, Value.slice k.A6 k.n6 k.c6] 60))
  simp only [World.size_alloc] at hb1_
  have x3_ := cell_of_block (i := 0) hb1_ rfl
  have x4_ := cell_of_block (i := 1) hb1_ rfl
  have x5_ := cell_of_block (i := 2) hb1_ rfl
  have x6_ := cell_of_block (i := 3) hb1_ rfl
  have x7_ := cell_of_block (i := 4) hb1_ rfl
  have x8_ := cell_of_block (i := 5) hb1_ rfl
  simp only [s4_, s5_, s6_] at x0_ x1_ x2_ x3_ x4_ x5_ x6_ x7_ x8_
  have HX0 := Lib.hid x0_
  have HX1 := Lib.hid x1_
  have HX2 := Lib.hid x2_
  have HX3 := Lib.hid x3_
  have HX4 := Lib.hid x4_
  have HX5 := Lib.hid x5_
  have HX6 := Lib.hid x6_
  have HX7 := Lib.hid x7_
  have HX8 := Lib.hid x8_
  have HB0 := Lib.hid hb0_
  have HB1 := Lib.hid hb1_
  clear x0_ x1_ x2_ x3_ x4_ x5_ x6_ x7_ x8_ hb0_ hb1_
  have HFM := Lib.hid (fun (form : Int) (A' : Option Addr) (n' c' : Nat) (X : List Int) w' (hk : Kept w w') (hn' : n' ≤ 1000) (hX : Ints w' A' n' X) => r23form s n form A' n' c' X w' (hN.kept hk) htag hn' hX)
  have HFO := Lib.hid (fun (A' : Option Addr) (n' c' : Nat) (X : List Int) w' (hk : Kept w w') (hn' : n' ≤ 100000) (hX : Ints w' A' n' X) => r38Fold k r A' n' c' X w' (hC.kept hk) hs hn' hX)
  have HTX := Lib.hid (fun w' (hk : Kept w w') => hT.kept hk)
  have HL2 := Lib.hid (formOf_length n)
  have HTL := Lib.hid hT.1
  obtain ⟨b1, b2, b3⟩ := hP
  have B1 := Lib.hid b1
  have B2 := Lib.hid b2
  have B3 := Lib.hid (b3 rfl)
  clear hN htag hC hs hT b1 b2 b3 hk0_ hk1_
  unfold Sls.val Cas.val at *
  go_enter Tryz.func80, Tryz.ntmps80
  have p0 := HX0.out
  have p1 := HX1.out
  have p2 := HX2.out
  have p3 := HX3.out
  have p4 := HX4.out
  have p5 := HX5.out
  have p6 := HX6.out
  have p7 := HX7.out
  have p8 := HX8.out
  go_wp2_with fail
  refine wp_region_held_drew (S := (fun w' => w'.cell? ⟨w.heap.size, 0, none⟩ = some (.slice s.Ac s.nc s.cc) ∧ w'.cell? ⟨w.heap.size, 1, none⟩ = some (.slice s.Am s.nm s.cm) ∧ w'.cell? ⟨w.heap.size, 2, none⟩ = some (.slice s.Ae s.ne s.ce) ∧ w'.cell? ⟨w.heap.size + 1, 0, none⟩ = some (.slice k.A1 k.n1 k.c1) ∧ w'.cell? ⟨w.heap.size + 1, 1, none⟩ = some (.slice k.A2 k.n2 k.c2) ∧ w'.cell? ⟨w.heap.size + 1, 2, none⟩ = some (.slice k.A3 k.n3 k.c3) ∧ w'.cell? ⟨w.heap.size + 1, 3, none⟩ = some (.slice k.A4 k.n4 k.c4) ∧ w'.cell? ⟨w.heap.size + 1, 4, none⟩ = some (.slice k.A5 k.n5 k.c5) ∧ w'.cell? ⟨w.heap.size + 1, 5, none⟩ = some (.slice k.A6 k.n6 k.c6))) (by kernel_rfl) ⟨p0, p1, p2, p3, p4, p5, p6, p7, p8⟩ (fun hHeld => ?_)
  refine tk_ 0 ?_ rfl ?_; refine tk_ 1 ?_ rfl ?_; refine tk_ 2 ?_ rfl ?_; refine tk_ 3 ?_ rfl ?_
  refine rd_ 4 rfl (fun K hK => ?_)
  go_simp
  (refine (HFM.out 2 A nt ct text _ (Kept.trans HK1.out (Kept.drew (Kept.refl ((w.alloc (Obj.cells #[Value.slice s.Ac s.nc s.cc, Value.slice s.Am s.nm s.cm, Value.slice s.Ae s.ne s.ce] 28)).alloc (Obj.cells #[Value.slice k.A1 k.n1 k.c1, Value.slice k.A2 k.n2 k.c2, Value.slice k.A3 k.n3 k.c3, Value.slice k.A4 k.n4 k.c4, Value.slice k.A5 k.n5 k.c5, Value.slice k.A6 k.n6 k.c6] 60))))) hnt (HTX.out _ (Kept.trans HK1.out (Kept.drew (Kept.refl ((w.alloc (Obj.cells #[Value.slice s.Ac s.nc s.cc, Value.slice s.Am s.nm s.cm, Value.slice s.Ae s.ne s.ce] 28)).alloc (Obj.cells #[Value.slice k.A1 k.n1 k.c1, Value.slice k.A2 k.n2 k.c2, Value.slice k.A3 k.n3 k.c3, Value.slice k.A4 k.n4 k.c4, Value.slice k.A5 k.n5 k.c5, Value.slice k.A6 k.n6 k.c6] 60))))))).mono ?_; rintro e w1 ⟨A1, n1, c1, rfl, le1, i1, k1⟩; have I1 := Lib.hid i1; have hn1 := (show n1 ≤ 400 by rw [i1.1]; exact B1.out); clear i1; have KB1 := Lib.hid (Kept.trans (Kept.drew (Kept.refl ((w.alloc (Obj.cells #[Value.slice s.Ac s.nc s.cc, Value.slice s.Am s.nm s.cm, Value.slice s.Ae s.ne s.ce] 28)).alloc (Obj.cells #[Value.slice k.A1 k.n1 k.c1, Value.slice k.A2 k.n2 k.c2, Value.slice k.A3 k.n3 k.c3, Value.slice k.A4 k.n4 k.c4, Value.slice k.A5 k.n5 k.c5, Value.slice k.A6 k.n6 k.c6] 60)))) k1))
  go_wp2_with fail
  refine hK.out _ _ ⟨Kept.cell KB1.out HX0.out, Kept.cell KB1.out HX1.out, Kept.cell KB1.out HX2.out, Kept.cell KB1.out HX3.out, Kept.cell KB1.out HX4.out, Kept.cell KB1.out HX5.out, Kept.cell KB1.out HX6.out, Kept.cell KB1.out HX7.out, Kept.cell KB1.out HX8.out⟩ (fun hHeld => ?_)
  clear hK K
  (try simp only [Act.put, s1_, s2_, s3_, s4_, s5_, s6_])
  refine rd_ 5 rfl (fun K hK => ?_)
  go_simp
  (refine (HFO.out A1 n1 c1 _ _ (Kept.trans HK1.out KB1.out) (by omega) (I1.out.kept (Kept.refl _))).mono ?_; rintro e w2 ⟨A2, n2, c2, rfl, le2, i2, k2⟩; have I2 := Lib.hid i2; have hn2 := (show n2 ≤ 400 by rw [i2.1]; exact B2.out); clear i2; have KB2 := Lib.hid (Kept.trans KB1.out k2))
  go_wp2_with fail
  refine hK.out _ _ ⟨Kept.cell KB2.out HX0.out, Kept.cell KB2.out HX1.out, Kept.cell KB2.out HX2.out, Kept.cell KB2.out HX3.out, Kept.cell KB2.out HX4.out, Kept.cell KB2.out HX5.out, Kept.cell KB2.out HX6.out, Kept.cell KB2.out HX7.out, Kept.cell KB2.out HX8.out⟩ (fun hHeld => ?_)
  clear hK K
  (try simp only [Act.put, s1_, s2_, s3_, s4_, s5_, s6_])
  refine rd_ 6 rfl (fun K hK => ?_)
  go_simp
  (refine (HFM.out 4 A2 n2 c2 _ _ (Kept.trans HK1.out KB2.out) (by omega) (I2.out.kept (Kept.refl _))).mono ?_; rintro e w3 ⟨A3, n3, c3, rfl, le3, i3, k3⟩; have I3 := Lib.hid i3; have hn3 := (show n3 ≤ 400 by rw [i3.1]; exact B3.out.1); clear i3; have KB3 := Lib.hid (Kept.trans KB2.out k3))
  go_wp2_with fail
  refine hK.out _ _ ⟨Kept.cell KB3.out HX0.out, Kept.cell KB3.out HX1.out, Kept.cell KB3.out HX2.out, Kept.cell KB3.out HX3.out, Kept.cell KB3.out HX4.out, Kept.cell KB3.out HX5.out, Kept.cell KB3.out HX6.out, Kept.cell KB3.out HX7.out, Kept.cell KB3.out HX8.out⟩ (fun hHeld => ?_)
  clear hK K
  (try simp only [Act.put, s1_, s2_, s3_, s4_, s5_, s6_])
  refine tk_ 7 ?_ rfl ?_
  refine wpAnyH_done (by kernel_rfl) ?_ _
  clear p0 p1 p2 p3 p4 p5 p6 p7 p8
  have p0 := Kept.cell KB3.out HX0.out
  have p1 := Kept.cell KB3.out HX1.out
  have p2 := Kept.cell KB3.out HX2.out
  have p3 := Kept.cell KB3.out HX3.out
  have p4 := Kept.cell KB3.out HX4.out
  have p5 := Kept.cell KB3.out HX5.out
  have p6 := Kept.cell KB3.out HX6.out
  have p7 := Kept.cell KB3.out HX7.out
  have p8 := Kept.cell KB3.out HX8.out
  go_wp2_with fail
  refine wp_region_held_drew (S := (fun w' => w'.cell? ⟨w.heap.size, 0, none⟩ = some (.slice s.Ac s.nc s.cc) ∧ w'.cell? ⟨w.heap.size, 1, none⟩ = some (.slice s.Am s.nm s.cm) ∧ w'.cell? ⟨w.heap.size, 2, none⟩ = some (.slice s.Ae s.ne s.ce) ∧ w'.cell? ⟨w.heap.size + 1, 0, none⟩ = some (.slice k.A1 k.n1 k.c1) ∧ w'.cell? ⟨w.heap.size + 1, 1, none⟩ = some (.slice k.A2 k.n2 k.c2) ∧ w'.cell? ⟨w.heap.size + 1, 2, none⟩ = some (.slice k.A3 k.n3 k.c3) ∧ w'.cell? ⟨w.heap.size + 1, 3, none⟩ = some (.slice k.A4 k.n4 k.c4) ∧ w'.cell? ⟨w.heap.size + 1, 4, none⟩ = some (.slice k.A5 k.n5 k.c5) ∧ w'.cell? ⟨w.heap.size + 1, 5, none⟩ = some (.slice k.A6 k.n6 k.c6))) (by kernel_rfl) ⟨p0, p1, p2, p3, p4, p5, p6, p7, p8⟩ (fun hHeld => ?_)
  refine tk_ 0 ?_ rfl ?_; refine tk_ 1 ?_ rfl ?_; refine tk_ 2 ?_ rfl ?_
  refine rd_ 3 rfl (fun K hK => ?_)
  go_simp
  (refine (HFO.out A3 n3 c3 _ _ (Kept.trans HK1.out (Kept.drew KB3.out)) (by omega) (I3.out.kept (Kept.drew (Kept.refl _)))).mono ?_; rintro e w4 ⟨A4, n4, c4, rfl, le4, i4, k4⟩; have I4 := Lib.hid i4; have hn4 := (show n4 ≤ 400 by rw [i4.1]; exact B3.out.2.1); clear i4; have KB4 := Lib.hid (Kept.trans (Kept.drew KB3.out) k4))
  go_wp2_with fail
  refine hK.out _ _ ⟨Kept.cell KB4.out HX0.out, Kept.cell KB4.out HX1.out, Kept.cell KB4.out HX2.out, Kept.cell KB4.out HX3.out, Kept.cell KB4.out HX4.out, Kept.cell KB4.out HX5.out, Kept.cell KB4.out HX6.out, Kept.cell KB4.out HX7.out, Kept.cell KB4.out HX8.out⟩ (fun hHeld => ?_)
  clear hK K
  (try simp only [Act.put, s1_, s2_, s3_, s4_, s5_, s6_])
  refine rd_ 4 rfl (fun K hK => ?_)
  go_simp
  (refine (HFM.out 4 A4 n4 c4 _ _ (Kept.trans HK1.out KB4.out) (by omega) (I4.out.kept (Kept.refl _))).mono ?_; rintro e w5 ⟨A5, n5, c5, rfl, le5, i5, k5⟩; have I5 := Lib.hid i5; clear i5; have KB5 := Lib.hid (Kept.trans KB4.out k5))
  go_wp2_with fail
  refine hK.out _ _ ⟨Kept.cell KB5.out HX0.out, Kept.cell KB5.out HX1.out, Kept.cell KB5.out HX2.out, Kept.cell KB5.out HX3.out, Kept.cell KB5.out HX4.out, Kept.cell KB5.out HX5.out, Kept.cell KB5.out HX6.out, Kept.cell KB5.out HX7.out, Kept.cell KB5.out HX8.out⟩ (fun hHeld => ?_)
  clear hK K
  (try simp only [Act.put, s1_, s2_, s3_, s4_, s5_, s6_])
  refine tk_ 5 ?_ rfl ?_
  refine wpAnyH_done (by kernel_rfl) ?_ _
  clear p0 p1 p2 p3 p4 p5 p6 p7 p8
  go_wp2_with fail
  go_ret
  exact ⟨A5, n5, c5, rfl, le5, I5.out, (Kept.trans HK1.out KB5.out)⟩
end Go.Proofs.YtmlcdohldkgcdaaGreatDoor
