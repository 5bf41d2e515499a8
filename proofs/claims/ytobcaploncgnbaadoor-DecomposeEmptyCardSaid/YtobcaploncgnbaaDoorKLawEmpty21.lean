/- law21.DecomposeEmpty returns true. -/
import Derived.Test.YtobcaploncgnbaaDoorKFew
import Derived.Test.YtobcaploncgnbaaDoorKChg
import Derived.Test.YtobcaploncgnbaaDoorKRefM
import Derived.Test.YtobcaploncgnbaaDoorKRefH
namespace Go.Proofs.YtobcaploncgnbaaDoor
open Go Go.RowKit

theorem usable_bad {n : Nrm} (h : ¬ decCheck n = 0) : usableN n = emptyN := if_neg h
theorem usable_empty : usableN emptyN = emptyN := by unfold usableN; split <;> rfl
theorem text_bad {n : Nrm} (h : ¬ decCheck n = 0) (cp : Bool) (xs : List Int) : textOf emptyN cp xs = textOf n cp xs := by
  rw [textOf_eq, textOf_eq, usable_bad h, usable_empty]
theorem changed_bad {n : Nrm} (h : ¬ decCheck n = 0) (cp : Bool) : changedR n cp = refMake [⟨44032, 55203⟩] := by
  unfold changedR
  rw [usable_bad h, refMake_eq]
  simp [emptyN, chgL, chgT]
theorem rng_new (w : World) (lo hi : Int) : Rngs (w.alloc (Obj.cells #[.int .i64 lo, .int .i64 hi] 50)) (some ⟨w.heap.size, 0, none⟩) 1 [⟨lo, hi⟩] := by
  refine ⟨rfl, fun _ => ⟨_, 0, rfl, fun i x hx j u hu => ?_⟩⟩
  have hi0 : i = 0 := by have := lt_of_getElem?_some hx; simpa using this
  subst hi0
  simp at hx
  subst hx
  have hb := box_cell w #[.int .i64 lo, .int .i64 hi] 50
  match j, hu with
  | 0, hu => simp [encR] at hu; subst hu; exact hb 0
  | 1, hu => simp [encR] at hu; subst hu; exact hb 1
  | j + 2, hu => simp [encR] at hu

set_option maxRecDepth 100000 in
set_option maxHeartbeats 2000000 in
theorem law_empty21 (s : Sls) (n : Nrm) (A : Option Addr) (l c : Nat) (xs : List Int) (cp : Bool) (w : World) (hN : NormIn w s n) (hI : l ≤ c ∧ c ≤ 9223372036854775807 ∧ Ints w A l xs) (hG : Glob w) : Calls Tryd.prog 8 #[s.val, .slice A l c, .bool cp] w (RetB w true) := by
  have HG := Lib.hid hG
  have hk1 := Kept.alloc (Kept.refl w) (Obj.cells #[Value.slice s.Ac s.nc s.cc, Value.slice s.Am s.nm s.cm, Value.slice s.Ae s.ne s.ce] 28)
  have HK1 := Lib.hid hk1
  obtain ⟨hle, hbig, hI⟩ := hI
  have HS := Lib.hid (few21 s n A l c (w.alloc (Obj.cells #[Value.slice s.Ac s.nc s.cc, Value.slice s.Am s.nm s.cm, Value.slice s.Ae s.ne s.ce] 28)) (hN.kept hk1) ⟨hle, hbig⟩)
  have hbx := box_cell w #[Value.slice s.Ac s.nc s.cc, Value.slice s.Am s.nm s.cm, Value.slice s.Ae s.ne s.ce] 28
  have x0 : (w.alloc (Obj.cells #[Value.slice s.Ac s.nc s.cc, Value.slice s.Am s.nm s.cm, Value.slice s.Ae s.ne s.ce] 28)).cell? ⟨w.heap.size, 0, none⟩ = some (.slice s.Ac s.nc s.cc) := hbx 0
  have x1 : (w.alloc (Obj.cells #[Value.slice s.Ac s.nc s.cc, Value.slice s.Am s.nm s.cm, Value.slice s.Ae s.ne s.ce] 28)).cell? ⟨w.heap.size, 1, none⟩ = some (.slice s.Am s.nm s.cm) := hbx 1
  have x2 : (w.alloc (Obj.cells #[Value.slice s.Ac s.nc s.cc, Value.slice s.Am s.nm s.cm, Value.slice s.Ae s.ne s.ce] 28)).cell? ⟨w.heap.size, 2, none⟩ = some (.slice s.Ae s.ne s.ce) := hbx 2
  have HX0 := Lib.hid x0
  have HX1 := Lib.hid x1
  have HX2 := Lib.hid x2
  have HN := Lib.hid hN
  have HI := Lib.hid hI
  clear hN hG hk1 hbx x0 x1 x2 hI hle hbig
  cases hsm : (smallB n && decide (l ≤ 40))
  · rw [hsm] at HS
    clear hsm
    unfold Sls.val at *
    go_enter Tryd.func8, Tryd.ntmps8
    go_wp2_with fail
    refine HS.out.mono ?_
    rintro e w1 ⟨rfl, k1⟩
    have HA := Lib.hid (alive21 w1 (HG.out.kept (Kept.trans HK1.out k1)))
    go_wp2_with fail
    refine HA.out.mono ?_
    rintro e w2 ⟨rfl, k2⟩
    go_wp2_with fail
    go_ret
    exact ⟨rfl, Kept.trans HK1.out (Kept.trans k1 k2)⟩
  · rw [hsm] at HS
    obtain ⟨hsb, hl40⟩ := (Bool.and_eq_true _ _).mp hsm
    have hl40 := of_decide_eq_true hl40
    have HNA := Lib.hid (HN.out.small hsb)
    have HTG := Lib.hid (norm_tag HN.out hsb)
    have HRC := Lib.hid (fun w' (hk : Kept w w') => r21check s n w' (HNA.out.kept hk) HTG.out)
    rw [refCheck_eq] at HRC
    clear hsm hsb
    by_cases h0 : decCheck n = 0
    · have hb0 : (decCheck n == 0) = true := by simp [h0]
      rw [h0] at HRC
      unfold Sls.val at *
      go_enter Tryd.func8, Tryd.ntmps8
      go_wp2_with fail
      refine HS.out.mono ?_
      rintro e w1 ⟨rfl, k1⟩
      have p0 := Kept.cell k1 HX0.out
      have p1 := Kept.cell k1 HX1.out
      have p2 := Kept.cell k1 HX2.out
      have K1 := Lib.hid (Kept.trans HK1.out k1)
      go_wp2_with fail
      refine (HRC.out _ K1.out).mono ?_
      rintro e w2 ⟨rfl, k2⟩
      have HA := Lib.hid (alive21 w2 (HG.out.kept (Kept.trans K1.out k2)))
      go_wp2_with fail
      refine HA.out.mono ?_
      rintro e w3 ⟨rfl, k3⟩
      go_wp2_with fail
      go_ret
      exact ⟨rfl, Kept.trans K1.out (Kept.trans k2 k3)⟩
    · have hb0 : (decCheck n == 0) = false := by simp [h0]
      have hxl := HI.out.1
      have e0 := textOf_length n cp xs
      have HT0 := Lib.hid (fun w' (hk : Kept w w') => text_any s n A l c xs cp w' (HNA.out.kept hk) (HG.out.kept hk) (by omega) (HI.out.kept hk))
      have HT1 := Lib.hid (fun w' (hk : Kept w w') => text_any emptyS emptyN A l c xs cp w' (emptyS_at w') (HG.out.kept hk) (by omega) (HI.out.kept hk))
      rw [text_bad h0] at HT1
      have HCG := Lib.hid (fun w' (hk : Kept w w') => changed_any s n cp w' (HNA.out.kept hk) (HG.out.kept hk))
      rw [changed_bad h0] at HCG
      have hlR : (refMake [⟨44032, 55203⟩]).length ≤ 6 := by have := refMake_length [⟨44032, 55203⟩]; simpa using this
      have hL0 : (textOf n cp xs).length ≤ 10000 := by omega
      clear h0 e0 hxl
      generalize textOf n cp xs = X at *
      have HMK := Lib.hid (fun (b : Nat) (w' : World) => r02Make (some ⟨b, 0, none⟩) 1 1 [⟨44032, 55203⟩] w' (by omega))
      generalize refMake [⟨44032, 55203⟩] = R at *
      unfold emptyS Sls.val at *
      go_enter Tryd.func8, Tryd.ntmps8
      go_wp2_with fail
      refine HS.out.mono ?_
      rintro e w1 ⟨rfl, k1⟩
      have p0 := Kept.cell k1 HX0.out
      have p1 := Kept.cell k1 HX1.out
      have p2 := Kept.cell k1 HX2.out
      have K1 := Lib.hid (Kept.trans HK1.out k1)
      go_wp2_with fail
      refine (HRC.out _ K1.out).mono ?_
      rintro e w2 ⟨rfl, k2⟩
      have hka := Kept.alloc (Kept.refl w2) (Obj.cells #[Value.slice none 0 0, Value.slice none 0 0, Value.slice none 0 0] 28)
      have hbn := box_cell w2 #[Value.slice none 0 0, Value.slice none 0 0, Value.slice none 0 0] 28
      have z0 := hbn 0
      have z1 := hbn 1
      have z2 := hbn 2
      have q0 := Kept.cell hka (Kept.cell k2 p0)
      have q1 := Kept.cell hka (Kept.cell k2 p1)
      have q2 := Kept.cell hka (Kept.cell k2 p2)
      have K3 := Lib.hid (Kept.trans (Kept.trans K1.out k2) hka)
      clear hbn hka p0 p1 p2
      go_wp2_with fail
      generalize w2.alloc (Obj.cells #[Value.slice none 0 0, Value.slice none 0 0, Value.slice none 0 0] 28) = W3 at *
      obtain ⟨bn, hbn⟩ : ∃ bn : Nat, bn = w2.heap.size := ⟨_, rfl⟩
      rw [← hbn] at z0 z1 z2 ⊢
      simp only [List.getElem?_toArray, List.getElem?_cons_zero, List.getElem?_cons_succ] at z0 z1 z2
      have K3d := Lib.hid (Kept.drew K3.out)
      clear hbn
      go_region_law (first
        | (go_simp; go_at_call 12; refine (alive21 _ (HG.out.kept K9.out)).mono ?_; rintro e w10 ⟨rfl, k10⟩)
        | (go_simp; go_at_call 18; refine (r02Same A7 A8 n7 n8 c7 c8 R R _ (by have := R8a.out.1; omega) (by have := R8b.out.1; omega) R8a.out R8b.out).mono ?_; rintro e w9 ⟨rfl, k9⟩; have K9 := Lib.hid (Kept.trans K8.out k9))
        | (go_simp; go_at_call 25; refine (HMK.out _ _ RN7.out).mono ?_; rintro e w8 ⟨A8, n8, c8, rfl, le8, r8, k8⟩; have R8b := Lib.hid r8; have R8a := Lib.hid (Sl.kept R7.out k8); have K8 := Lib.hid (Kept.trans K7.out k8); clear r8)
        | (go_simp; go_at_call 16; refine (HCG.out _ K6.out).mono ?_; rintro e w7 ⟨A7, n7, c7, rfl, le7, r7, k7⟩; have hkb := Kept.alloc (Kept.refl w7) (Obj.cells #[Value.int IntKind.i64 44032, Value.int IntKind.i64 55203] 50); have R7 := Lib.hid (Sl.kept r7 hkb); have K7 := Lib.hid (Kept.trans (Kept.trans K6.out k7) hkb); have RN7 := Lib.hid (rng_new w7 44032 55203); clear r7 hkb)
        | (go_simp; go_at_call 16; refine (HCG.out _ K6a.out).mono ?_; rintro e w7 ⟨A7, n7, c7, rfl, le7, r7, k7⟩; have R7 := Lib.hid r7; have K7 := Lib.hid (Kept.trans K6a.out k7); have RN7 := Lib.hid (Sl.kept RN6.out k7); clear r7)
        | (go_simp; go_at_call 14; refine (r01_same X A4 A5 n4 n5 c4 c5 _ hL0 I4b.out I5.out).mono ?_; rintro e w6 ⟨rfl, k6⟩; have K6 := Lib.hid (Kept.trans K5.out k6); have hkc := Kept.alloc (Kept.refl w6) (Obj.cells #[Value.int IntKind.i64 44032, Value.int IntKind.i64 55203] 50); have K6a := Lib.hid (Kept.trans K6.out hkc); have RN6 := Lib.hid (rng_new w6 44032 55203); have t0 := Kept.cell k6 s0; have t1 := Kept.cell k6 s1; have t2 := Kept.cell k6 s2; have u0 := Kept.cell hkc t0; have u1 := Kept.cell hkc t1; have u2 := Kept.cell hkc t2)
        | (go_simp; go_at_call 22; refine (HT1.out _ K4.out).mono ?_; rintro e w5 ⟨A5, n5, c5, rfl, le5, i5, k5⟩; have I5 := Lib.hid i5; have I4b := Lib.hid (I4.out.kept k5); have K5 := Lib.hid (Kept.trans K4.out k5); have s0 := Kept.cell k5 r0; have s1 := Kept.cell k5 r1; have s2 := Kept.cell k5 r2; clear i5)
        | (go_simp; go_at_call 22; refine (HT0.out _ K3d.out).mono ?_; rintro e w4 ⟨A4, n4, c4, rfl, le4, i4, k4⟩; have I4 := Lib.hid i4; have K4 := Lib.hid (Kept.trans K3d.out k4); have r0 := Kept.cell k4 q0; have r1 := Kept.cell k4 q1; have r2 := Kept.cell k4 q2; have y0 := Kept.cell k4 z0; have y1 := Kept.cell k4 z1; have y2 := Kept.cell k4 z2; clear i4))
      all_goals
        go_wp2_with fail
        go_ret
        exact ⟨rfl, Kept.trans K9.out k10⟩
end Go.Proofs.YtobcaploncgnbaaDoor
