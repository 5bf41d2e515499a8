/- law25.NormstreamStable returns true. -/
import Derived.Test.YtomgchfjachedaaGreatDoorKSq
import Derived.Test.YtomgchfjachedaaGreatDoorKStrH
namespace Go.Proofs.YtomgchfjachedaaGreatDoor
open Go Go.RowKit
set_option maxRecDepth 100000 in
set_option maxHeartbeats 8000000 in
theorem law_stable25 (s : Sls) (n : Nrm) (form : Int) (A : Option Addr) (l c : Nat) (xs : List Int) (w : World) (hN : NormIn w s n) (_hx : I64 form) (hI : l ≤ c ∧ c ≤ 9223372036854775807 ∧ Ints w A l xs) (hG : Glob w) : Calls Tryz.prog 11 #[s.val, .int .i64 form, .slice A l c] w (RetB w true) := by
  have hk0_ := Kept.alloc (Kept.refl w) (Obj.cells #[Value.slice s.Ac s.nc s.cc, Value.slice s.Am s.nm s.cm, Value.slice s.Ae s.ne s.ce] 28)
  have HK1 := Lib.hid hk0_
  have hb0_ := (box_block w (Obj.cells #[Value.slice s.Ac s.nc s.cc, Value.slice s.Am s.nm s.cm, Value.slice s.Ae s.ne s.ce] 28))
  have x0_ := cell_of_block (i := 0) hb0_ rfl
  have x1_ := cell_of_block (i := 1) hb0_ rfl
  have x2_ := cell_of_block (i := 2) hb0_ rfl
  simp only [s4_, s5_, s6_] at x0_ x1_ x2_
  have HX0 := Lib.hid x0_
  have HX1 := Lib.hid x1_
  have HX2 := Lib.hid x2_
  have HB0 := Lib.hid hb0_
  clear x0_ x1_ x2_ hb0_
  obtain ⟨hle, hbig, hI⟩ := hI
  have HS := Lib.hid (fun w' (hk : Kept w w') => r22small s n w' (hN.kept hk))
  have HN := Lib.hid hN
  have HG := Lib.hid hG
  have HI := Lib.hid hI
  have HXL := Lib.hid hI.1
  clear hN hG hI hk0_
  cases hsm : small22 n
  · rw [hsm] at HS
    clear hsm
    unfold Sls.val at *
    go_enter Tryz.func11, Tryz.ntmps11
    have p0 := HX0.out
    have p1 := HX1.out
    have p2 := HX2.out
    go_wp2_with fail
    refine (HS.out _ HK1.out).mono ?_
    rintro e w1 ⟨rfl, k1⟩
    clear p0 p1 p2
    have K1 := Lib.hid (Kept.trans HK1.out k1)
    clear k1
    go_wp2_with fail
    refine (awake25 _ (HG.out.kept K1.out)).mono ?_
    rintro e wz ⟨rfl, kz⟩
    go_wp2_with fail
    go_ret
    exact ⟨rfl, Kept.trans K1.out kz⟩
  · rw [hsm] at HS
    have HNA := Lib.hid (HN.out.small2 hsm)
    have HTG := Lib.hid (tag22 hsm)
    clear hsm
    have HA := Lib.hid (fun w' (hk : Kept w w') => new_any s n form w' (HNA.out.kept hk) (HG.out.kept hk))
    by_cases hl : l ≤ 30
    · skip
      by_cases hf : form < 1 ∨ 4 < form
      · have HF := Lib.hid hf
        clear hf
        unfold Sls.val at *
        go_enter Tryz.func11, Tryz.ntmps11
        have p0 := HX0.out
        have p1 := HX1.out
        have p2 := HX2.out
        go_wp2_with fail
        refine (HS.out _ HK1.out).mono ?_
        rintro e w1 ⟨rfl, k1⟩
        have p0 := Kept.cell k1 HX0.out
        have p1 := Kept.cell k1 HX1.out
        have p2 := Kept.cell k1 HX2.out
        have K1 := Lib.hid (Kept.trans HK1.out k1)
        have X1 := Lib.hid k1
        clear k1
        go_wp2_with fail
        refine (HA.out _ K1.out).mono ?_
        rintro e w2 hr
        obtain ⟨rfl, k2⟩ := new_bad HF.out hr
        have K2 := Lib.hid (Kept.trans K1.out k2)
        clear hr k2 p0 p1 p2
        go_wp2_with fail
        refine (awake25 _ (HG.out.kept K2.out)).mono ?_
        rintro e wz ⟨rfl, kz⟩
        go_wp2_with fail
        go_ret
        exact ⟨rfl, Kept.trans K2.out kz⟩
      · have HF := Lib.hid hf
        clear hf
        by_cases hd : decCheck n = 0
        · have HD := Lib.hid hd
          clear hd
          unfold Sls.val at *
          go_enter Tryz.func11, Tryz.ntmps11
          have p0 := HX0.out
          have p1 := HX1.out
          have p2 := HX2.out
          go_wp2_with fail
          refine (HS.out _ HK1.out).mono ?_
          rintro e w1 ⟨rfl, k1⟩
          have p0 := Kept.cell k1 HX0.out
          have p1 := Kept.cell k1 HX1.out
          have p2 := Kept.cell k1 HX2.out
          have K1 := Lib.hid (Kept.trans HK1.out k1)
          have X1 := Lib.hid k1
          clear k1
          go_wp2_with fail
          refine (HA.out _ K1.out).mono ?_
          rintro e w2 hr
          obtain ⟨b, F, rfl, hS, k2⟩ := new_ok HF.out HD.out hr
          obtain ⟨B0, hB0⟩ : ∃ B0 : Nat, B0 = w1.heap.size := ⟨_, rfl⟩
          rw [← hB0] at hS
          have HB2 := Lib.hid (show w1.heap.size ≤ B0 by rw [hB0]; exact Nat.le_refl _)
          have HB0 := Lib.hid (show w.heap.size ≤ B0 by rw [hB0]; exact K1.out.size)
          have HBW := Lib.hid (show B0 ≤ w2.heap.size by rw [hB0]; exact k2.size)
          have KN := Lib.hid k2
          have SN := Lib.hid hS
          clear hr k2 hS hB0 p0 p1 p2
          have X2 := Lib.hid (Kept.trans X1.out KN.out)
          have p0 := Kept.cell X2.out HX0.out
          have p1 := Kept.cell X2.out HX1.out
          have p2 := Kept.cell X2.out HX2.out
          have HXX := Lib.hid (show (formOf n form xs).length ≤ 1920 by have h1 := formOf_length n form xs; have h2 := HXL.out; omega)
          have HID := Lib.hid (form_again n form xs)
          go_wp2_with fail
          refine (r23form_far s n form A l c xs w2 (HNA.out.kept (Kept.trans K1.out KN.out)) HTG.out (by omega) (HI.out.kept (Kept.trans K1.out KN.out))).mono ?_
          rintro e w3 ⟨A3, n3, c3, rfl, le3, i3, fr3, k3⟩
          generalize formOf n form xs = X at *
          have hn3 : n3 ≤ 1920 := by rw [i3.1]; exact HXX.out
          have IX := Lib.hid (IntsF.fresh (F := F) i3 fr3 SN.out.lt2)
          have H3 := Lib.hid i3.1
          have ST3 := Lib.hid (SN.out.kept k3)
          have KW3 := Lib.hid (Kept.trans KN.out k3)
          have HB3 := Lib.hid (Nat.le_trans HBW.out k3.size)
          clear i3 fr3 k3 p0 p1 p2
          go_wp2_with fail
          refine (write_any B0 b n form _ F A3 n3 c3 X w3 ST3.out (GlobB.of HG.out (Kept.trans K1.out KW3.out) HB0.out) HB3.out (by simp) (by omega) IX.out.1 (fun h0 a ha => (IX.out.2 h0 a ha).1)).mono ?_
          rintro e w4 hr
          obtain ⟨A4, n4, c4, F4, rfl, le4, i4, fr4, hs4, hsub, hkf⟩ := wr_ok hr (by rw [← H3.out]; simp; omega)
          have HWO := Lib.hid (strOut_step n form [] X)
          rw [strOut_nil, strPend_nil, List.nil_append, List.nil_append] at HWO
          have HWP := Lib.hid (strPend_write (boundB n form) [] X)
          rw [strPend_nil, List.nil_append] at HWP
          rw [HWO.out] at i4
          rw [HWP.out] at hs4
          have ST4 := Lib.hid hs4
          have I4 := Lib.hid i4
          have IX4 := Lib.hid (IX.out.kf hkf hsub)
          have KW4 := Lib.hid (KF.kept KW3.out hkf (ST3.out.lo) HB2.out)
          have HPL := Lib.hid (strPend_le (boundB n form) X)
          clear hr i4 fr4 hs4 hsub hkf HWO HWP
          go_wp2_with fail
          refine (close_any B0 b n form _ F4 w4 ST4.out (GlobB.of HG.out (Kept.trans K1.out KW4.out) HB0.out) (by have := HPL.out; have := H3.out; omega)).mono ?_
          rintro e w5 ⟨A5, n5, c5, rfl, le5, i5, fr5, ho5, hkf⟩
          have I4b := Lib.hid (I4.out.kf (F' := F4) hkf (fun i h => .inl h)).1
          have IX5 := Lib.hid (IX4.out.kf (F' := F4) hkf (fun i h => .inl h)).1
          have I5 := Lib.hid i5
          have KW5 := Lib.hid (Kept.trans K1.out (KF.kept KW4.out hkf (ST4.out.lo) HB2.out))
          clear i5 fr5 ho5 hkf
          have HSL := Lib.hid (strOut_len n form X (by rw [← H3.out]; omega))
          have HFLn := Lib.hid (show (formOf n form (strPend (boundB n form) X)).length ≤ 200000 by have h1 := formOf_length n form (strPend (boundB n form) X); have h2 := HPL.out; have h3 := H3.out; omega)
          go_wp2_with (first
            | (at_builtin; refine app_ints rfl _ _ rfl w5.heap.size _ (strOut n form X) rfl (by exact HO6.out) _ _ _ _ rfl (by exact I5.out.kept HK6.out) (by have := HSL.out; have := HFLn.out; omega) (by exact HK6.out.size) ?_; intro v7 w7 hown7 hgrow7 hat7; have HO7 := Lib.hid hown7; have HK7 := Lib.hid (HK6.out.grown hgrow7 HK6.out.size (fun q e => (World.ownsRow.lt HO6.out q e).1)); obtain ⟨A7', n7', c7', hv7⟩ := own_formR hown7; have HV7 := Lib.hid hv7; clear hown7 hgrow7 hat7 hv7)
            | (at_builtin; refine app_ints rfl _ _ rfl w5.heap.size _ [] rfl (by exact (World.ownsRow_nil _ _ _ _ : OwnI w5 w5.heap.size (.slice none 0 0) [])) _ _ _ (strOut n form X) rfl (by exact I4b.out) (by have := HSL.out; simp; omega) (Nat.le_refl _) ?_; intro v6 w6 hown6 hgrow6 hat6; obtain ⟨A6', n6', c6', rfl⟩ := own_formR hown6; have HO6 := Lib.hid (show OwnI w6 w5.heap.size (.slice A6' n6' c6') (strOut n form X) by simpa using hown6); have HK6 := Lib.hid ((Kept.refl w5).grown (show w5.grownBy w6 none from hgrow6) (Nat.le_refl _) (fun q e => by cases e)); clear hown6 hgrow6 hat6))
          have HAL := Lib.hid (strOut_all n form X)
          have hown7 := HO7.out
          rw [HAL.out, HID.out] at hown7
          obtain ⟨Ao, co, rfl, leo, io⟩ := OwnI.sl hown7
          obtain ⟨no, hno⟩ : ∃ no : Nat, no = X.length := ⟨_, rfl⟩
          rw [← hno] at io ⊢
          have hno2 : no ≤ 2000 := by rw [hno, ← H3.out]; omega
          have HEA := Lib.hid (r01Equal Ao A3 no n3 co c3 _ _ w7 (by omega) (by omega) io (IX5.out.kept HK7.out))
          simp only [decide_true] at HEA
          clear hown7 io leo hno HV7
          go_wp2_with fail
          refine HEA.out.mono ?_
          rintro e w8 ⟨rfl, k8⟩
          have K8 := Lib.hid (Kept.trans KW5.out (Kept.trans HK7.out k8))
          clear k8
          go_wp2_with fail
          refine (awake25 _ (HG.out.kept K8.out)).mono ?_
          rintro e wz ⟨rfl, kz⟩
          go_wp2_with fail
          go_ret
          exact ⟨rfl, Kept.trans K8.out kz⟩
        · have HD := Lib.hid hd
          clear hd
          unfold Sls.val at *
          go_enter Tryz.func11, Tryz.ntmps11
          have p0 := HX0.out
          have p1 := HX1.out
          have p2 := HX2.out
          go_wp2_with fail
          refine (HS.out _ HK1.out).mono ?_
          rintro e w1 ⟨rfl, k1⟩
          have p0 := Kept.cell k1 HX0.out
          have p1 := Kept.cell k1 HX1.out
          have p2 := Kept.cell k1 HX2.out
          have K1 := Lib.hid (Kept.trans HK1.out k1)
          have X1 := Lib.hid k1
          clear k1
          go_wp2_with fail
          refine (HA.out _ K1.out).mono ?_
          rintro e w2 hr
          obtain ⟨rfl, k2⟩ := new_err HF.out HD.out hr
          have K2 := Lib.hid (Kept.trans K1.out k2)
          clear hr k2 p0 p1 p2
          go_wp2_with fail
          refine (awake25 _ (HG.out.kept K2.out)).mono ?_
          rintro e wz ⟨rfl, kz⟩
          go_wp2_with fail
          go_ret
          exact ⟨rfl, Kept.trans K2.out kz⟩
    · skip
      unfold Sls.val at *
      go_enter Tryz.func11, Tryz.ntmps11
      have p0 := HX0.out
      have p1 := HX1.out
      have p2 := HX2.out
      go_wp2_with fail
      refine (HS.out _ HK1.out).mono ?_
      rintro e w1 ⟨rfl, k1⟩
      clear p0 p1 p2
      have K1 := Lib.hid (Kept.trans HK1.out k1)
      clear k1
      go_wp2_with fail
      refine (awake25 _ (HG.out.kept K1.out)).mono ?_
      rintro e wz ⟨rfl, kz⟩
      go_wp2_with fail
      go_ret
      exact ⟨rfl, Kept.trans K1.out kz⟩
end Go.Proofs.YtomgchfjachedaaGreatDoor
