/- law25.NormstreamSteps returns true. -/
import Derived.Test.YtomgchfjachedaaGreatDoorKSq
import Derived.Test.YtomgchfjachedaaGreatDoorKStrH
namespace Go.Proofs.YtomgchfjachedaaGreatDoor
open Go Go.RowKit
set_option maxRecDepth 100000 in
set_option maxHeartbeats 8000000 in
theorem law_steps25 (s : Sls) (n : Nrm) (form : Int) (A : Option Addr) (l c : Nat) (xs : List Int) (w : World) (hN : NormIn w s n) (_hx : I64 form) (hI : l ≤ c ∧ c ≤ 9223372036854775807 ∧ Ints w A l xs) (hG : Glob w) : Calls Tryz.prog 10 #[s.val, .int .i64 form, .slice A l c] w (RetB w true) := by
  have hk0_ := Kept.alloc (Kept.refl w) (Obj.cells #[Value.slice s.Ac s.nc s.cc, Value.slice s.Am s.nm s.cm, Value.slice s.Ae s.ne s.ce] 28)
  have HK1 := Lib.hid hk0_
  have hb0_ := (box_block w (Obj.cells #[Value.slice s.Ac s.nc s.cc, Value.slice s.Am s.nm s.cm, Value.slice s.Ae s.ne s.ce] 28))
  have x0_ := cell_of_block (i := 0) hb0_ rfl
  have x1_ := cell_of_block (i := 1) hb0_ rfl
  have x2_ := cell_of_block (i := 2) hb0_ rfl
  simp only [s4_, s5_, s6_] at x0_ x1_ x2_
  have HX0 := Lib.hid x0_
  have HX1 := Lib.hid x1_
  have HX2 := Lib.hid x2_
  have HB0 := Lib.hid hb0_
  clear x0_ x1_ x2_ hb0_
  obtain ⟨hle, hbig, hI⟩ := hI
  have HS := Lib.hid (fun w' (hk : Kept w w') => r22small s n w' (hN.kept hk))
  have HN := Lib.hid hN
  have HG := Lib.hid hG
  have HI := Lib.hid hI
  have HXL := Lib.hid hI.1
  clear hN hG hI hk0_
  cases hsm : small22 n
  · rw [hsm] at HS
    clear hsm
    unfold Sls.val at *
    go_enter Tryz.func10, Tryz.ntmps10
    have p0 := HX0.out
    have p1 := HX1.out
    have p2 := HX2.out
    go_wp2_with fail
    refine (HS.out _ HK1.out).mono ?_
    rintro e w1 ⟨rfl, k1⟩
    clear p0 p1 p2
    have K1 := Lib.hid (Kept.trans HK1.out k1)
    clear k1
    go_wp2_with fail
    refine (awake25 _ (HG.out.kept K1.out)).mono ?_
    rintro e wz ⟨rfl, kz⟩
    go_wp2_with fail
    go_ret
    exact ⟨rfl, Kept.trans K1.out kz⟩
  · rw [hsm] at HS
    have HNA := Lib.hid (HN.out.small2 hsm)
    have HTG := Lib.hid (tag22 hsm)
    clear hsm
    have HA := Lib.hid (fun w' (hk : Kept w w') => new_any s n form w' (HNA.out.kept hk) (HG.out.kept hk))
    by_cases hl : l ≤ 40
    · skip
      by_cases hf : form < 1 ∨ 4 < form
      · have HF := Lib.hid hf
        clear hf
        unfold Sls.val at *
        go_enter Tryz.func10, Tryz.ntmps10
        have p0 := HX0.out
        have p1 := HX1.out
        have p2 := HX2.out
        go_wp2_with fail
        refine (HS.out _ HK1.out).mono ?_
        rintro e w1 ⟨rfl, k1⟩
        have p0 := Kept.cell k1 HX0.out
        have p1 := Kept.cell k1 HX1.out
        have p2 := Kept.cell k1 HX2.out
        have K1 := Lib.hid (Kept.trans HK1.out k1)
        have X1 := Lib.hid k1
        clear k1
        go_wp2_with fail
        refine (HA.out _ K1.out).mono ?_
        rintro e w2 hr
        obtain ⟨rfl, k2⟩ := new_bad HF.out hr
        have K2 := Lib.hid (Kept.trans K1.out k2)
        have X2 := Lib.hid (Kept.trans X1.out k2)
        have p0 := Kept.cell X2.out HX0.out
        have p1 := Kept.cell X2.out HX1.out
        have p2 := Kept.cell X2.out HX2.out
        clear hr k2
        go_wp2_with fail
        refine (HA.out _ K2.out).mono ?_
        rintro e w3 hr
        obtain ⟨rfl, k3⟩ := new_bad HF.out hr
        have K3 := Lib.hid (Kept.trans K2.out k3)
        clear hr k3 p0 p1 p2
        go_wp2_with fail
        refine (awake25 _ (HG.out.kept K3.out)).mono ?_
        rintro e wz ⟨rfl, kz⟩
        go_wp2_with fail
        go_ret
        exact ⟨rfl, Kept.trans K3.out kz⟩
      · have HF := Lib.hid hf
        clear hf
        by_cases hd : decCheck n = 0
        · have HD := Lib.hid hd
          clear hd
          unfold Sls.val at *
          go_enter Tryz.func10, Tryz.ntmps10
          have p0 := HX0.out
          have p1 := HX1.out
          have p2 := HX2.out
          go_wp2_with fail
          refine (HS.out _ HK1.out).mono ?_
          rintro e w1 ⟨rfl, k1⟩
          have p0 := Kept.cell k1 HX0.out
          have p1 := Kept.cell k1 HX1.out
          have p2 := Kept.cell k1 HX2.out
          have K1 := Lib.hid (Kept.trans HK1.out k1)
          have X1 := Lib.hid k1
          clear k1
          go_wp2_with fail
          refine (HA.out _ K1.out).mono ?_
          rintro e w2 hr
          obtain ⟨b, F, rfl, hS, k2⟩ := new_ok HF.out HD.out hr
          obtain ⟨B0, hB0⟩ : ∃ B0 : Nat, B0 = w1.heap.size := ⟨_, rfl⟩
          rw [← hB0] at hS
          have HB2 := Lib.hid (show w1.heap.size ≤ B0 by rw [hB0]; exact Nat.le_refl _)
          have HB0 := Lib.hid (show w.heap.size ≤ B0 by rw [hB0]; exact K1.out.size)
          have HBW := Lib.hid (show B0 ≤ w2.heap.size by rw [hB0]; exact k2.size)
          have KN := Lib.hid k2
          have SN := Lib.hid hS
          clear hr k2 hS hB0 p0 p1 p2
          have X2 := Lib.hid (Kept.trans X1.out KN.out)
          have p0 := Kept.cell X2.out HX0.out
          have p1 := Kept.cell X2.out HX1.out
          have p2 := Kept.cell X2.out HX2.out
          go_wp2_with fail
          refine (HA.out _ (Kept.trans K1.out KN.out)).mono ?_
          rintro e w3 hr
          obtain ⟨b2, G, rfl, hS, k3⟩ := new_ok HF.out HD.out hr
          obtain ⟨B1, hB1⟩ : ∃ B1 : Nat, B1 = w2.heap.size := ⟨_, rfl⟩
          rw [← hB1] at hS
          have HB1 := Lib.hid (show w.heap.size ≤ B1 by rw [hB1]; exact Nat.le_trans HB0.out HBW.out)
          have HB12 := Lib.hid (show w1.heap.size ≤ B1 by rw [hB1]; exact Nat.le_trans HB2.out HBW.out)
          have TN := Lib.hid hS
          have SN3 := Lib.hid (SN.out.kept k3)
          have KN3 := Lib.hid (Kept.trans KN.out k3)
          have DN := Lib.hid (show Disj F G from fun i hf hg => by have h1 := SN.out.lt2 i hf; have h2 := hS.lo i hg; omega)
          have HB01 := Lib.hid (show B0 ≤ B1 by rw [hB1]; exact HBW.out)
          have HB13 := Lib.hid (show B1 ≤ w3.heap.size by rw [hB1]; exact k3.size)
          clear hr hS k3 hB1 p0 p1 p2
          go_wp2_with fail
          obtain ⟨base, hbase⟩ : ∃ base : Nat, base = w3.heap.size := ⟨_, rfl⟩
          have HBL := Lib.hid (show base ≤ w3.heap.size by rw [hbase]; exact Nat.le_refl _)
          have HB1B := Lib.hid (show B1 ≤ base by rw [hbase]; exact HB13.out)
          have HGB := Lib.hid (show ∀ i, G i → i < base from fun i hi => by rw [hbase]; exact TN.out.lt2 i hi)
          clear hbase
          go_loopw [11, 12] (fun p i wr => ∃ (k : Nat) (F : Nat → Prop), k ≤ l ∧ i = .int .i64 k ∧ OwnF F wr base p (strOut n form (xs.take k)) ∧ StrAt wr B0 b n form (strPend (boundB n form) (xs.take k)) F ∧ StrAt wr B1 b2 n form [] G ∧ Disj F G ∧ base ≤ wr.heap.size ∧ Kept w1 wr) (fun _ i _ => l - (intOf i).toNat)
          case atStart => exact ⟨0, F, Nat.zero_le _, rfl, by rw [List.take_zero, strOut_nil]; exact OwnF.nil _ _ _, by rw [List.take_zero, strPend_nil]; exact SN3.out, TN.out, DN.out, HBL.out, KN3.out⟩
          case round =>
            obtain ⟨k, F, hk, rfl, hout, hst, htt, hdj, hbw, hkw⟩ := hrel
            have OUT := Lib.hid hout
            have ST := Lib.hid hst
            have TT := Lib.hid htt
            have DJ := Lib.hid hdj
            have BW := Lib.hid hbw
            have KW := Lib.hid hkw
            have HPL := Lib.hid (show (strPend (boundB n form) (xs.take k)).length ≤ 40 by have h1 := strPend_le (boundB n form) (xs.take k); have h2 : (xs.take k).length ≤ k := List.length_take_le ..; omega)
            clear hout hst htt hdj hbw hkw
            by_cases hlt : k < l
            · obtain ⟨ba, oa, x, hA, hx, cx⟩ := int_at HI.out hlt
              have HX := Lib.hid (take_succ_some hx)
              have IX0 := Lib.hid (show Ints w (dropA A c k) 1 [x] by have h1 := Ints.front_ (q := 1) (Ints.drop_ HI.out (Nat.le_of_lt hlt) hle) (by omega); rw [drop_take_one hx] at h1; exact h1)
              have IX := Lib.hid (IntsF.old (F := F) IX0.out (Kept.trans K1.out KW.out) (fun i hi => Nat.le_trans HB0.out (ST.out.lo i hi)))
              have hsl := run_mid A l c k hlt hle
              have hwk : IntKind.i64.wrap ((k : Int) + 1) = (k : Int) + 1 := IntWalk.i64_in _ (by omega)
              have hwk2 : wrap64 ((k : Int) + 1) = (k : Int) + 1 := IntWalk.wrap64_in _ (by omega)
              clear hA hx cx
              go_wp2_with fail
              clear hwk hwk2 hsl
              refine (write_any B0 b n form _ F (dropA A c k) 1 (c - k) [x] wr ST.out (GlobB.of HG.out (Kept.trans K1.out KW.out) HB0.out) (Nat.le_trans (Nat.le_trans HB01.out HB1B.out) BW.out) (by have := HPL.out; omega) (by omega) IX.out.1 (fun h0 a ha => (IX.out.2 h0 a ha).1)).mono ?_
              rintro e w4 hr
              obtain ⟨A4, n4, c4, F4, rfl, le4, i4, fr4, hs4, hsub, hkf⟩ := wr_ok hr (by have := HPL.out; simp; omega)
              have OUT4 := Lib.hid (OUT.out.kf hkf hsub)
              have ST4 := Lib.hid hs4
              have TT4 := Lib.hid (TT.out.kf hkf DJ.out)
              have DJ4 := Lib.hid (Disj.step DJ.out hsub TT.out.lt2)
              have I4 := Lib.hid i4.1
              have KW4 := Lib.hid (KF.kept KW.out hkf (ST.out.lo) HB2.out)
              have BW4 := Lib.hid (Nat.le_trans BW.out hkf.size)
              clear hr i4 fr4 hs4 hsub hkf
              have HSS := Lib.hid (strOut_step n form (xs.take k) [x])
              have HPS := Lib.hid (strPend_write (boundB n form) (xs.take k) [x])
              rw [← HX.out] at HSS HPS
              have HLL := Lib.hid (show (strOut n form (xs.take k)).length + (wrOut n form (strPend (boundB n form) (xs.take k)) [x]).length ≤ 1000000000 by have h1 := congrArg List.length HSS.out; rw [List.length_append] at h1; have h2 := strOut_len n form (xs.take (k + 1)) (by have h3 : (xs.take (k + 1)).length ≤ k + 1 := List.length_take_le ..; omega); omega)
              go_wp2_with (at_builtin; refine app_ints rfl _ _ rfl base _ _ rfl (by exact OUT4.out.1) _ _ _ _ rfl (by exact I4.out) (by exact HLL.out) (by exact BW4.out) ?_; intro v5 w5 hown5 hg5 hat5; have hg5' := OUT4.out.row hg5; have hat5' := OUT4.out.rowAt hat5; have OUT5 := Lib.hid (OUT4.out.app hown5 hat5' ST4.out.lt2); have ST5 := Lib.hid (ST4.out.grown hg5' (fun g hg => OUT4.out.2 g hg)); have TT5 := Lib.hid (TT4.out.grown hg5' (fun g hg hf => by have h1 := HGB.out g hf; have h2 := (OUT4.out.lt g hg).1; omega)); have KW5 := Lib.hid (Kept.ofGrown KW4.out hg5' (fun g hg => Nat.le_trans (Nat.le_trans HB12.out HB1B.out) (OUT4.out.lt g hg).1)); have BW5 := Lib.hid (Nat.le_trans BW4.out hg5'.size); clear hown5 hg5 hat5 hg5' hat5')
              go_roundw
              case rel => exact ⟨k + 1, F4, by omega, by go_num, by rw [← HSS.out]; exact OUT5.out, by rw [← HPS.out]; exact ST5.out, TT5.out, DJ4.out, BW5.out, KW5.out⟩
              case measure => simp [intOf]; omega
            · have hkl : k = l := by omega
              have hall : xs.take k = xs := List.take_of_length_le (by rw [← HXL.out]; omega)
              rw [hall] at OUT ST HPL
              clear hall
              subst hkl
              have IX := Lib.hid (IntsF.old (F := G) HI.out (Kept.trans K1.out KW.out) (fun i hi => Nat.le_trans HB1.out (TT.out.lo i hi)))
              go_wp2_with fail
              refine (write_any B1 b2 n form _ G A k c xs wr TT.out (GlobB.of HG.out (Kept.trans K1.out KW.out) HB1.out) (Nat.le_trans HB1B.out BW.out) (by simp) (by omega) IX.out.1 (fun h0 a ha => (IX.out.2 h0 a ha).1)).mono ?_
              rintro e w4 hr
              obtain ⟨A4, n4, c4, G4, rfl, le4, i4, fr4, hs4, hsub, hkf⟩ := wr_ok hr (by rw [← HXL.out]; simp; omega)
              have HWO := Lib.hid (strOut_step n form [] xs)
              rw [strOut_nil, strPend_nil, List.nil_append, List.nil_append] at HWO
              have HWP := Lib.hid (strPend_write (boundB n form) [] xs)
              rw [strPend_nil, List.nil_append] at HWP
              rw [HWO.out] at i4
              rw [HWP.out] at hs4
              have ST4 := Lib.hid (ST.out.kf hkf DJ.out.symm)
              have TT4 := Lib.hid hs4
              have I4 := Lib.hid i4.1
              have OUT4 := Lib.hid (OUT.out.1.kf hkf (fun g hg hf => by have h1 := HGB.out g hf; have h2 := (OUT.out.lt g hg).1; omega))
              have KW4 := Lib.hid (KF.kept KW.out hkf (TT.out.lo) HB12.out)
              clear hr i4 fr4 hs4 hsub hkf HWO HWP
              obtain ⟨Ao, co, rfl, leo, io⟩ := OwnI.sl OUT4.out
              obtain ⟨no, hno⟩ : ∃ no : Nat, no = (strOut n form xs).length := ⟨_, rfl⟩
              rw [← hno] at io OUT ⊢
              have hno2 : no ≤ 200000 := by rw [hno]; exact strOut_len n form xs (by rw [← HXL.out]; omega)
              have HEA := Lib.hid (r01Equal Ao A4 no n4 co c4 _ _ w4 (by omega) (by have := I4.out.1; omega) io I4.out)
              simp only [decide_true] at HEA
              have HPA := Lib.hid (fun w' (hk : Kept w4 w') => pending_any w' (ST4.out.kept hk) (by have := HPL.out; omega))
              have HPB := Lib.hid (fun w' (hk : Kept w4 w') => pending_any w' (TT4.out.kept hk) (by have := HPL.out; omega))
              clear io leo hno OUT4
              go_wp2_with fail
              refine HEA.out.mono ?_
              rintro e w5 ⟨rfl, k5⟩
              have X5 := Lib.hid k5
              clear k5
              go_wp2_with fail
              refine (HPA.out _ X5.out).mono ?_
              rintro e w6 ⟨A6, n6, c6, rfl, le6, i6, fr6, k6⟩
              have I6 := Lib.hid i6
              have X6 := Lib.hid (Kept.trans X5.out k6)
              have hn6 : n6 ≤ 1000 := by rw [i6.1]; have := HPL.out; omega
              clear i6 fr6 k6
              go_wp2_with fail
              refine (HPB.out _ X6.out).mono ?_
              rintro e w7 ⟨A7, n7, c7, rfl, le7, i7, fr7, k7⟩
              have X7 := Lib.hid (Kept.trans X6.out k7)
              have hn7 : n7 ≤ 1000 := by rw [i7.1]; have := HPL.out; omega
              have HEB := Lib.hid (r01Equal A6 A7 n6 n7 c6 c7 _ _ w7 (by omega) (by omega) (I6.out.kept k7) i7)
              simp only [decide_true] at HEB
              clear i7 fr7 k7
              go_wp2_with fail
              refine HEB.out.mono ?_
              rintro e w8 ⟨rfl, k8⟩
              have X8 := Lib.hid (Kept.trans (Kept.trans K1.out KW4.out) (Kept.trans X7.out k8))
              clear k8
              go_wp2_with fail
              refine (awake25 _ (HG.out.kept X8.out)).mono ?_
              rintro e wz ⟨rfl, kz⟩
              go_wp2_with fail
              go_ret
              exact ⟨rfl, Kept.trans X8.out kz⟩
        · have HD := Lib.hid hd
          clear hd
          unfold Sls.val at *
          go_enter Tryz.func10, Tryz.ntmps10
          have p0 := HX0.out
          have p1 := HX1.out
          have p2 := HX2.out
          go_wp2_with fail
          refine (HS.out _ HK1.out).mono ?_
          rintro e w1 ⟨rfl, k1⟩
          have p0 := Kept.cell k1 HX0.out
          have p1 := Kept.cell k1 HX1.out
          have p2 := Kept.cell k1 HX2.out
          have K1 := Lib.hid (Kept.trans HK1.out k1)
          have X1 := Lib.hid k1
          clear k1
          go_wp2_with fail
          refine (HA.out _ K1.out).mono ?_
          rintro e w2 hr
          obtain ⟨rfl, k2⟩ := new_err HF.out HD.out hr
          have K2 := Lib.hid (Kept.trans K1.out k2)
          have X2 := Lib.hid (Kept.trans X1.out k2)
          have p0 := Kept.cell X2.out HX0.out
          have p1 := Kept.cell X2.out HX1.out
          have p2 := Kept.cell X2.out HX2.out
          clear hr k2
          go_wp2_with fail
          refine (HA.out _ K2.out).mono ?_
          rintro e w3 hr
          obtain ⟨rfl, k3⟩ := new_err HF.out HD.out hr
          have K3 := Lib.hid (Kept.trans K2.out k3)
          clear hr k3 p0 p1 p2
          go_wp2_with fail
          refine (awake25 _ (HG.out.kept K3.out)).mono ?_
          rintro e wz ⟨rfl, kz⟩
          go_wp2_with fail
          go_ret
          exact ⟨rfl, Kept.trans K3.out kz⟩
    · skip
      unfold Sls.val at *
      go_enter Tryz.func10, Tryz.ntmps10
      have p0 := HX0.out
      have p1 := HX1.out
      have p2 := HX2.out
      go_wp2_with fail
      refine (HS.out _ HK1.out).mono ?_
      rintro e w1 ⟨rfl, k1⟩
      clear p0 p1 p2
      have K1 := Lib.hid (Kept.trans HK1.out k1)
      clear k1
      go_wp2_with fail
      refine (awake25 _ (HG.out.kept K1.out)).mono ?_
      rintro e wz ⟨rfl, kz⟩
      go_wp2_with fail
      go_ret
      exact ⟨rfl, Kept.trans K1.out kz⟩
end Go.Proofs.YtomgchfjachedaaGreatDoor
