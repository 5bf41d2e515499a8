/- law25.NormstreamWrites returns true. -/
import Derived.Test.YtomgchfjachedaaGreatDoorKSq
import Derived.Test.YtomgchfjachedaaGreatDoorKStrH
namespace Go.Proofs.YtomgchfjachedaaGreatDoor
open Go Go.RowKit
set_option maxRecDepth 100000 in
set_option maxHeartbeats 8000000 in
theorem law_writes25 (s : Sls) (n : Nrm) (form : Int) (B : Option Addr) (m e : Nat) (T : List (List Int)) (w : World) (hN : NormIn w s n) (_hx : I64 form) (hT : m ≤ e ∧ e ≤ 9223372036854775807 ∧ Tab w B m T ∧ ∀ xs ∈ T, xs.length ≤ 9223372036854775807) (hG : Glob w) : Calls Tryz.prog 6 #[s.val, .int .i64 form, .slice B m e] w (RetB w true) := by
  have hk0_ := Kept.alloc (Kept.refl w) (Obj.cells #[Value.slice s.Ac s.nc s.cc, Value.slice s.Am s.nm s.cm, Value.slice s.Ae s.ne s.ce] 28)
  have HK1 := Lib.hid hk0_
  have hb0_ := (box_block w (Obj.cells #[Value.slice s.Ac s.nc s.cc, Value.slice s.Am s.nm s.cm, Value.slice s.Ae s.ne s.ce] 28))
  have x0_ := cell_of_block (i := 0) hb0_ rfl
  have x1_ := cell_of_block (i := 1) hb0_ rfl
  have x2_ := cell_of_block (i := 2) hb0_ rfl
  simp only [s4_, s5_, s6_] at x0_ x1_ x2_
  have HX0 := Lib.hid x0_
  have HX1 := Lib.hid x1_
  have HX2 := Lib.hid x2_
  have HB0 := Lib.hid hb0_
  clear x0_ x1_ x2_ hb0_
  obtain ⟨hme, hbig, hT, hTL⟩ := hT
  have HS := Lib.hid (fun w' (hk : Kept w w') => r22small s n w' (hN.kept hk))
  have HFW := Lib.hid (fun w' (hk : Kept w w') => few25 B m e T w' ⟨hme, hbig⟩ (hT.kept hk) hTL)
  have HN := Lib.hid hN
  have HG := Lib.hid hG
  have HT := Lib.hid hT
  have HMT := Lib.hid hT.1
  clear hN hG hT hk0_ hTL
  cases hsm : small22 n
  · rw [hsm] at HS
    clear hsm
    unfold Sls.val at *
    go_enter Tryz.func6, Tryz.ntmps6
    have p0 := HX0.out
    have p1 := HX1.out
    have p2 := HX2.out
    go_wp2_with fail
    refine (HS.out _ HK1.out).mono ?_
    rintro e w1 ⟨rfl, k1⟩
    clear p0 p1 p2
    have K1 := Lib.hid (Kept.trans HK1.out k1)
    clear k1
    go_wp2_with fail
    refine (awake25 _ (HG.out.kept K1.out)).mono ?_
    rintro e wz ⟨rfl, kz⟩
    go_wp2_with fail
    go_ret
    exact ⟨rfl, Kept.trans K1.out kz⟩
  · rw [hsm] at HS
    have HNA := Lib.hid (HN.out.small2 hsm)
    have HTG := Lib.hid (tag22 hsm)
    clear hsm
    cases hfw : fewB T
    · rw [hfw] at HFW
      clear hfw
      unfold Sls.val at *
      go_enter Tryz.func6, Tryz.ntmps6
      have p0 := HX0.out
      have p1 := HX1.out
      have p2 := HX2.out
      go_wp2_with fail
      refine (HS.out _ HK1.out).mono ?_
      rintro e w1 ⟨rfl, k1⟩
      clear p0 p1 p2
      have K1 := Lib.hid (Kept.trans HK1.out k1)
      clear k1
      go_wp2_with fail
      refine (HFW.out _ K1.out).mono ?_
      rintro e w2 ⟨rfl, k2⟩
      have K2 := Lib.hid (Kept.trans K1.out k2)
      clear k2
      go_wp2_with fail
      refine (awake25 _ (HG.out.kept K2.out)).mono ?_
      rintro e wz ⟨rfl, kz⟩
      go_wp2_with fail
      go_ret
      exact ⟨rfl, Kept.trans K2.out kz⟩
    · rw [hfw] at HFW
      have HFT := Lib.hid hfw
      clear hfw
      have HA := Lib.hid (fun w' (hk : Kept w w') => new_any s n form w' (HNA.out.kept hk) (HG.out.kept hk))
      have HR := Lib.hid (fun w' (hk : Kept w w') => r25New s n form w' (HNA.out.kept hk) HTG.out)
      by_cases hf : form < 1 ∨ 4 < form
      · have HF := Lib.hid hf
        clear hf
        unfold Sls.val at *
        go_enter Tryz.func6, Tryz.ntmps6
        have p0 := HX0.out
        have p1 := HX1.out
        have p2 := HX2.out
        go_wp2_with fail
        refine (HS.out _ HK1.out).mono ?_
        rintro e w1 ⟨rfl, k1⟩
        have p0 := Kept.cell k1 HX0.out
        have p1 := Kept.cell k1 HX1.out
        have p2 := Kept.cell k1 HX2.out
        have K1 := Lib.hid (Kept.trans HK1.out k1)
        have X1 := Lib.hid k1
        clear k1
        go_wp2_with fail
        refine (HFW.out _ K1.out).mono ?_
        rintro e w2 ⟨rfl, k2⟩
        have K2 := Lib.hid (Kept.trans K1.out k2)
        have X2 := Lib.hid (Kept.trans X1.out k2)
        have p0 := Kept.cell X2.out HX0.out
        have p1 := Kept.cell X2.out HX1.out
        have p2 := Kept.cell X2.out HX2.out
        clear k2
        go_wp2_with fail
        refine (HA.out _ K2.out).mono ?_
        rintro e w3 hr
        obtain ⟨rfl, k3⟩ := new_bad HF.out hr
        have K3 := Lib.hid (Kept.trans K2.out k3)
        have X3 := Lib.hid (Kept.trans X2.out k3)
        have p0 := Kept.cell X3.out HX0.out
        have p1 := Kept.cell X3.out HX1.out
        have p2 := Kept.cell X3.out HX2.out
        clear hr k3
        go_wp2_with fail
        refine (HR.out _ K3.out).mono ?_
        rintro e w4 hr
        obtain ⟨rfl, k4⟩ := rnew_bad HF.out hr
        have K4 := Lib.hid (Kept.trans K3.out k4)
        clear hr k4 p0 p1 p2
        go_wp2_with fail
        refine (awake25 _ (HG.out.kept K4.out)).mono ?_
        rintro e wz ⟨rfl, kz⟩
        go_wp2_with fail
        go_ret
        exact ⟨rfl, Kept.trans K4.out kz⟩
      · have HF := Lib.hid hf
        clear hf
        by_cases hd : decCheck n = 0
        · have HD := Lib.hid hd
          clear hd
          unfold Sls.val at *
          go_enter Tryz.func6, Tryz.ntmps6
          have p0 := HX0.out
          have p1 := HX1.out
          have p2 := HX2.out
          go_wp2_with fail
          refine (HS.out _ HK1.out).mono ?_
          rintro e w1 ⟨rfl, k1⟩
          have p0 := Kept.cell k1 HX0.out
          have p1 := Kept.cell k1 HX1.out
          have p2 := Kept.cell k1 HX2.out
          have K1 := Lib.hid (Kept.trans HK1.out k1)
          have X1 := Lib.hid k1
          clear k1
          go_wp2_with fail
          refine (HFW.out _ K1.out).mono ?_
          rintro e w2 ⟨rfl, k2⟩
          have K2 := Lib.hid (Kept.trans K1.out k2)
          have X2 := Lib.hid (Kept.trans X1.out k2)
          have p0 := Kept.cell X2.out HX0.out
          have p1 := Kept.cell X2.out HX1.out
          have p2 := Kept.cell X2.out HX2.out
          clear k2
          go_wp2_with fail
          refine (HA.out _ K2.out).mono ?_
          rintro e w3 hr
          obtain ⟨b, F, rfl, hS, k3⟩ := new_ok HF.out HD.out hr
          obtain ⟨B0, hB0⟩ : ∃ B0 : Nat, B0 = w2.heap.size := ⟨_, rfl⟩
          rw [← hB0] at hS
          have HB2 := Lib.hid (show w2.heap.size ≤ B0 by rw [hB0]; exact Nat.le_refl _)
          have HB0 := Lib.hid (show w.heap.size ≤ B0 by rw [hB0]; exact K2.out.size)
          have HBW := Lib.hid (show B0 ≤ w3.heap.size by rw [hB0]; exact k3.size)
          have KN := Lib.hid k3
          have SN := Lib.hid hS
          clear hr k3 hS hB0 p0 p1 p2
          have X3 := Lib.hid (Kept.trans X2.out KN.out)
          have p0 := Kept.cell X3.out HX0.out
          have p1 := Kept.cell X3.out HX1.out
          have p2 := Kept.cell X3.out HX2.out
          go_wp2_with fail
          refine (HR.out _ (Kept.trans K2.out KN.out)).mono ?_
          rintro e w4 hr
          obtain ⟨b2, rfl, hb2, hrf, k4⟩ := rnew_ok HF.out HD.out hr
          have RN := Lib.hid hrf
          have SN4 := Lib.hid (SN.out.kept k4)
          have KN4 := Lib.hid (Kept.trans KN.out k4)
          have HBF := Lib.hid (show ¬ F b2 from fun h => by have := SN.out.lt2 b2 h; omega)
          have HBB := Lib.hid (show B0 ≤ b2 from Nat.le_trans HBW.out hb2)
          clear hr hb2 hrf k4 p0 p1 p2
          go_wp2_with fail
          go_loopw [11] (fun i wr => ∃ (k : Nat) (F : Nat → Prop) (A2 : Option Addr) (k2 c2 : Nat), k ≤ m ∧ i = .int .i64 k ∧ StrAt wr B0 b n form (strPend (boundB n form) (T.take k).flatten) F ∧ RfAt wr b2 n form s (strPend (boundB n form) (T.take k).flatten) A2 k2 c2 ∧ ¬ F b2 ∧ (0 < k2 → ∀ a, A2 = some a → ¬ F a.block) ∧ Kept w2 wr) (fun i _ => m - (intOf i).toNat)
          case atStart => exact ⟨0, F, none, 0, 0, Nat.zero_le _, rfl, by rw [List.take_zero, List.flatten_nil, strPend_nil]; exact SN4.out, by rw [List.take_zero, List.flatten_nil, strPend_nil]; exact RN.out, HBF.out, fun h => by omega, KN4.out⟩
          case round =>
            obtain ⟨k, F, A2, k2, c2, hk, rfl, hst, hrf, hbf, haf, hkw⟩ := hrel
            have ST := Lib.hid hst
            have RF := Lib.hid hrf
            have BF := Lib.hid hbf
            have AF := Lib.hid haf
            have KW := Lib.hid hkw
            have HFL := Lib.hid (few_flat HFT.out k)
            have HPL := Lib.hid (strPend_le (boundB n form) (T.take k).flatten)
            have hk2 : k2 ≤ 240 := by rw [hrf.ints.1]; have := HPL.out; have := HFL.out; omega
            have BW := Lib.hid (show B0 ≤ wr.heap.size from Nat.le_trans HBB.out (Nat.le_of_lt hrf.lt))
            clear hst hrf hbf haf hkw
            by_cases hlt : k < m
            · obtain ⟨bt, ot, X, At, kt, ct, rfl, hX, c0, let_, it⟩ := HT.out.at_ hlt
              have HX := Lib.hid (flat_next hX)
              have HI := Lib.hid it
              have HC0 := Lib.hid c0
              have hkt : kt ≤ 30 := by rw [it.1]; exact fewB_all HFT.out X (mem_of_getElem?_some hX)
              have HKT := Lib.hid it.1
              have IX := Lib.hid (IntsF.old (F := F) it (Kept.trans K2.out KW.out) (fun i hi => Nat.le_trans HB0.out (ST.out.lo i hi)))
              have c1 := Kept.cell (Kept.trans K2.out KW.out) c0
              have HPS := Lib.hid (strPend_write (boundB n form) (T.take k).flatten X)
              have HLR := Lib.hid (last_rest (boundB n form) (T.take k).flatten)
              have HWL := Lib.hid (show (wrOut n form (strPend (boundB n form) (T.take k).flatten) X).length ≤ 100000 by unfold wrOut; have h1 := formOf_length n form (((strPend (boundB n form) (T.take k).flatten) ++ X).take (wrK (boundB n form) (strPend (boundB n form) (T.take k).flatten) X)); rw [List.length_take, List.length_append] at h1; have := HPL.out; have := HFL.out; have := HKT.out; omega)
              have HPL2 := Lib.hid (show (wrPend (boundB n form) (strPend (boundB n form) (T.take k).flatten) X).length ≤ 1000 by have h1 := wrPend_length (boundB n form) (strPend (boundB n form) (T.take k).flatten) X; have := HPL.out; have := HFL.out; have := HKT.out; omega)
              rw [← HX.out] at HPS
              clear it hX c0
              go_wp2_with fail
              refine (write_any B0 b n form _ F At kt ct X wr ST.out (GlobB.of HG.out (Kept.trans K2.out KW.out) HB0.out) BW.out (by have := HPL.out; have := HFL.out; omega) (by omega) IX.out.1 (fun h0 a ha => (IX.out.2 h0 a ha).1)).mono ?_
              rintro e w5 hr
              obtain ⟨A5, n5, c5, F5, rfl, le5, i5, fr5, hs5, hsub, hkf⟩ := wr_ok hr (by have := HPL.out; have := HFL.out; have := HKT.out; omega)
              have ST5 := Lib.hid hs5
              have I5 := Lib.hid i5
              have FR5 := Lib.hid fr5
              have KW5 := Lib.hid (KF.kept KW.out hkf (ST.out.lo) HB2.out)
              have RF5 := Lib.hid (RF.out.kf hkf BF.out AF.out)
              have BF5 := Lib.hid (not_new BF.out RF.out.lt hsub)
              have BLT := Lib.hid RF.out.lt
              have c1 := Kept.cell (Kept.trans K2.out KW5.out) HC0.out
              clear hr i5 fr5 hs5 hsub hkf
              go_wp2_with fail
              refine (r25Write At kt ct X w5 w RF5.out HNA.out (Kept.trans K2.out KW5.out) (Nat.le_trans HB0.out HBB.out) HTG.out (by omega) (by omega) (HI.out.kept (Kept.trans K2.out KW5.out)) HLR.out).mono ?_
              rintro e w6 ⟨A6, n6, c6, A7, k7, c7, rfl, le6, i6, hrf6, far6, kb6⟩
              have I6 := Lib.hid i6
              have RF6 := Lib.hid hrf6
              have KB6 := Lib.hid kb6
              have I5b := Lib.hid (sl_butK I5.out.1 kb6 (fun a ha _ hm => by have h1 := FR5.out a ha; have h2 := BLT.out; have h3 := List.mem_singleton.1 hm; omega))
              have ST6 := Lib.hid (ST5.out.but kb6 (fun i hi => by rw [List.mem_singleton.1 hi]; exact BF5.out))
              have AF6 := Lib.hid (show 0 < k7 → ∀ a, A7 = some a → ¬ F5 a.block from fun _ a ha hf => by have h1 := far6 a ha; have h2 := ST5.out.lt2 _ hf; omega)
              have KW6 := Lib.hid (KeptBut.dropW KW5.out kb6 (fun i hi => by rw [List.mem_singleton.1 hi]; exact Nat.le_trans HB2.out HBB.out))
              have hn5 : n5 = n6 := I5b.out.1.trans i6.1.symm
              have hn6 : n6 ≤ 100000 := by rw [i6.1]; exact HWL.out
              have HEA := Lib.hid (r01Equal A5 A6 n5 n6 c5 c6 _ _ w6 (by omega) (by omega) I5b.out I6.out)
              simp only [decide_true] at HEA
              have hk7 : k7 ≤ 1000 := by rw [hrf6.ints.1]; exact HPL2.out
              have HPN := Lib.hid (fun w' (hk : Kept w6 w') => pending_any w' (ST6.out.kept hk) (Nat.le_trans HPL2.out (by decide)))
              clear i6 hrf6 far6 kb6 hn5
              go_wp2_with fail
              refine HEA.out.mono ?_
              rintro e w7 ⟨rfl, k7_⟩
              have X7 := Lib.hid k7_
              clear k7_
              go_wp2_with fail
              refine (HPN.out _ X7.out).mono ?_
              rintro e w8 ⟨A8, n8, c8, rfl, le8, i8, fr8, k8⟩
              have I8 := Lib.hid i8
              have X8 := Lib.hid (Kept.trans X7.out k8)
              have hn8 : n8 ≤ 1000 := by rw [i8.1]; exact HPL2.out
              clear i8 fr8 k8
              go_wp2_with fail
              refine (r25Pending w8 (RF6.out.kept X8.out)).mono ?_
              rintro e w9 ⟨rfl, rfl⟩
              have HEB := Lib.hid (r01Equal A8 A7 n8 k7 c8 c7 _ _ w9 (by omega) (by omega) I8.out (RF6.out.kept X8.out).ints)
              simp only [decide_true] at HEB
              go_wp2_with fail
              refine HEB.out.mono ?_
              rintro e w10 ⟨rfl, k10⟩
              have X10 := Lib.hid (Kept.trans X8.out k10)
              clear k10
              go_wp2_with fail
              go_roundw
              case rel => exact ⟨k + 1, F5, A7, k7, c7, by omega, by go_num, by rw [← HPS.out]; exact ST6.out.kept X10.out, by rw [← HPS.out]; exact RF6.out.kept X10.out, BF5.out, AF6.out, Kept.trans KW6.out X10.out⟩
              case measure => simp [intOf]; omega
            · have hkm : k = m := by omega
              have HLF := Lib.hid (formOf_length n form (strPend (boundB n form) (T.take k).flatten))
              generalize (T.take k).flatten = inp at *
              subst hkm
              go_wp2_with fail
              refine (close_any B0 b n form _ F wr ST.out (GlobB.of HG.out (Kept.trans K2.out KW.out) HB0.out) (by have := HPL.out; have := HFL.out; omega)).mono ?_
              rintro e w4 ⟨A4, n4, c4, rfl, le4, i4, fr4, ho4, hkf⟩
              have I4 := Lib.hid i4
              have FR4 := Lib.hid fr4
              have OF4 := Lib.hid ho4
              have KW4 := Lib.hid (KF.kept KW.out hkf (ST.out.lo) HB2.out)
              have RF4 := Lib.hid (RF.out.kf hkf BF.out AF.out)
              have HNB := Lib.hid (show b ∉ [b2] from fun h => BF.out (by rw [← List.mem_singleton.1 h]; exact ST.out.hb))
              have BLT := Lib.hid RF.out.lt
              clear i4 fr4 ho4 hkf
              go_wp2_with fail
              refine (r25Close w4 w RF4.out HNA.out (Kept.trans K2.out KW4.out) HTG.out (by omega)).mono ?_
              rintro e w5 ⟨A5, n5, c5, rfl, le5, i5, ho5, kb5⟩
              have I5 := Lib.hid i5
              have OF5 := Lib.hid (OF4.out.butS kb5 HNB.out)
              have I4b := Lib.hid (sl_butK I4.out kb5 (fun a ha _ hm => by have h1 := FR4.out a ha; have h2 := BLT.out; have h3 := List.mem_singleton.1 hm; omega))
              have KW5 := Lib.hid (KeptBut.dropW KW4.out kb5 (fun i hi => by rw [List.mem_singleton.1 hi]; exact Nat.le_trans HB2.out HBB.out))
              have hn5 : n5 ≤ 100000 := by rw [i5.1]; have := HLF.out; have := HPL.out; have := HFL.out; omega
              have hn4 : n4 ≤ 100000 := by rw [I4b.out.1]; have := HLF.out; have := HPL.out; have := HFL.out; omega
              clear i5 ho5 kb5
              go_wp2_with fail
              have KA := Lib.hid (Kept.alloc (Kept.refl w5) (Obj.cells #[.int .i64 97] 3))
              generalize w5.alloc (Obj.cells #[.int .i64 97] 3) = w6 at *
              refine (write_off b _ 1 1 w6 (OF5.out.kept KA.out)).mono ?_
              rintro e w7 ⟨rfl, rfl⟩
              have HEA := Lib.hid (r01Equal A4 A5 n4 n5 c4 c5 _ _ w7 (by omega) (by omega) (I4b.out.kept KA.out) (I5.out.kept KA.out))
              simp only [decide_true] at HEA
              go_wp2_with fail
              refine HEA.out.mono ?_
              rintro e w8 ⟨rfl, k8⟩
              have K8 := Lib.hid (Kept.trans KA.out k8)
              clear k8
              go_wp2_with fail
              refine (pending_off w8 (OF5.out.kept K8.out)).mono ?_
              rintro e w9 ⟨A9, n9, c9, rfl, _, i9, _, k9⟩
              obtain rfl : n9 = 0 := i9.1
              have K9 := Lib.hid (Kept.trans (Kept.trans K2.out KW5.out) (Kept.trans K8.out k9))
              clear i9 k9
              go_wp2_with fail
              refine (awake25 _ (HG.out.kept K9.out)).mono ?_
              rintro e wz ⟨rfl, kz⟩
              go_wp2_with fail
              go_ret
              exact ⟨rfl, Kept.trans K9.out kz⟩
        · have HD := Lib.hid hd
          clear hd
          unfold Sls.val at *
          go_enter Tryz.func6, Tryz.ntmps6
          have p0 := HX0.out
          have p1 := HX1.out
          have p2 := HX2.out
          go_wp2_with fail
          refine (HS.out _ HK1.out).mono ?_
          rintro e w1 ⟨rfl, k1⟩
          have p0 := Kept.cell k1 HX0.out
          have p1 := Kept.cell k1 HX1.out
          have p2 := Kept.cell k1 HX2.out
          have K1 := Lib.hid (Kept.trans HK1.out k1)
          have X1 := Lib.hid k1
          clear k1
          go_wp2_with fail
          refine (HFW.out _ K1.out).mono ?_
          rintro e w2 ⟨rfl, k2⟩
          have K2 := Lib.hid (Kept.trans K1.out k2)
          have X2 := Lib.hid (Kept.trans X1.out k2)
          have p0 := Kept.cell X2.out HX0.out
          have p1 := Kept.cell X2.out HX1.out
          have p2 := Kept.cell X2.out HX2.out
          clear k2
          go_wp2_with fail
          refine (HA.out _ K2.out).mono ?_
          rintro e w3 hr
          obtain ⟨rfl, k3⟩ := new_err HF.out HD.out hr
          have K3 := Lib.hid (Kept.trans K2.out k3)
          have X3 := Lib.hid (Kept.trans X2.out k3)
          have p0 := Kept.cell X3.out HX0.out
          have p1 := Kept.cell X3.out HX1.out
          have p2 := Kept.cell X3.out HX2.out
          clear hr k3
          go_wp2_with fail
          refine (HR.out _ K3.out).mono ?_
          rintro e w4 hr
          obtain ⟨rfl, k4⟩ := rnew_err HF.out HD.out hr
          have K4 := Lib.hid (Kept.trans K3.out k4)
          clear hr k4 p0 p1 p2
          go_wp2_with fail
          refine (awake25 _ (HG.out.kept K4.out)).mono ?_
          rintro e wz ⟨rfl, kz⟩
          go_wp2_with fail
          go_ret
          exact ⟨rfl, Kept.trans K4.out kz⟩
end Go.Proofs.YtomgchfjachedaaGreatDoor
