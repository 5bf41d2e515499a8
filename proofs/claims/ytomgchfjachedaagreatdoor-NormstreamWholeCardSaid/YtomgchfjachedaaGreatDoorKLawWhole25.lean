/- law25.NormstreamWhole returns true. -/
import Derived.Test.YtomgchfjachedaaGreatDoorKSq
import Derived.Test.YtomgchfjachedaaGreatDoorKStrH
namespace Go.Proofs.YtomgchfjachedaaGreatDoor
open Go Go.RowKit
set_option maxRecDepth 100000 in
set_option maxHeartbeats 8000000 in
theorem law_whole25 (s : Sls) (n : Nrm) (form : Int) (B : Option Addr) (m e : Nat) (T : List (List Int)) (w : World) (hN : NormIn w s n) (_hx : I64 form) (hT : m ≤ e ∧ e ≤ 9223372036854775807 ∧ Tab w B m T ∧ ∀ xs ∈ T, xs.length ≤ 9223372036854775807) (hG : Glob w) : Calls Tryz.prog 7 #[s.val, .int .i64 form, .slice B m e] w (RetB w true) := by
  have hk0_ := Kept.alloc (Kept.refl w) (Obj.cells #[Value.slice s.Ac s.nc s.cc, Value.slice s.Am s.nm s.cm, Value.slice s.Ae s.ne s.ce] 28)
  have HK1 := Lib.hid hk0_
  have hb0_ := (box_block w (Obj.cells #[Value.slice s.Ac s.nc s.cc, Value.slice s.Am s.nm s.cm, Value.slice s.Ae s.ne s.ce] 28))
  have x0_ := cell_of_block (i := 0) hb0_ rfl
  have x1_ := cell_of_block (i := 1) hb0_ rfl
  have x2_ := cell_of_block (i := 2) hb0_ rfl
  simp only [s4_, s5_, s6_] at x0_ x1_ x2_
  have HX0 := Lib.hid x0_
  have HX1 := Lib.hid x1_
  have HX2 := Lib.hid x2_
  have HB0 := Lib.hid hb0_
  clear x0_ x1_ x2_ hb0_
  obtain ⟨hme, hbig, hT, hTL⟩ := hT
  have HS := Lib.hid (fun w' (hk : Kept w w') => r22small s n w' (hN.kept hk))
  have HFW := Lib.hid (fun w' (hk : Kept w w') => few25 B m e T w' ⟨hme, hbig⟩ (hT.kept hk) hTL)
  have HN := Lib.hid hN
  have HG := Lib.hid hG
  have HT := Lib.hid hT
  have HMT := Lib.hid hT.1
  clear hN hG hT hk0_ hTL
  cases hsm : small22 n
  · rw [hsm] at HS
    clear hsm
    unfold Sls.val at *
    go_enter Tryz.func7, Tryz.ntmps7
    have p0 := HX0.out
    have p1 := HX1.out
    have p2 := HX2.out
    go_wp2_with fail
    refine (HS.out _ HK1.out).mono ?_
    rintro e w1 ⟨rfl, k1⟩
    clear p0 p1 p2
    have K1 := Lib.hid (Kept.trans HK1.out k1)
    clear k1
    go_wp2_with fail
    refine (awake25 _ (HG.out.kept K1.out)).mono ?_
    rintro e wz ⟨rfl, kz⟩
    go_wp2_with fail
    go_ret
    exact ⟨rfl, Kept.trans K1.out kz⟩
  · rw [hsm] at HS
    have HNA := Lib.hid (HN.out.small2 hsm)
    have HTG := Lib.hid (tag22 hsm)
    clear hsm
    cases hfw : fewB T
    · rw [hfw] at HFW
      clear hfw
      unfold Sls.val at *
      go_enter Tryz.func7, Tryz.ntmps7
      have p0 := HX0.out
      have p1 := HX1.out
      have p2 := HX2.out
      go_wp2_with fail
      refine (HS.out _ HK1.out).mono ?_
      rintro e w1 ⟨rfl, k1⟩
      clear p0 p1 p2
      have K1 := Lib.hid (Kept.trans HK1.out k1)
      clear k1
      go_wp2_with fail
      refine (HFW.out _ K1.out).mono ?_
      rintro e w2 ⟨rfl, k2⟩
      have K2 := Lib.hid (Kept.trans K1.out k2)
      clear k2
      go_wp2_with fail
      refine (awake25 _ (HG.out.kept K2.out)).mono ?_
      rintro e wz ⟨rfl, kz⟩
      go_wp2_with fail
      go_ret
      exact ⟨rfl, Kept.trans K2.out kz⟩
    · rw [hfw] at HFW
      have HFT := Lib.hid hfw
      clear hfw
      have HA := Lib.hid (fun w' (hk : Kept w w') => new_any s n form w' (HNA.out.kept hk) (HG.out.kept hk))
      have HCB := Lib.hid (fun (A2 : Option Addr) (n2 c2 : Nat) (X : List Int) w' (hk : Kept w w') (h2 : n2 ≤ 1000) (hI : Ints w' A2 n2 X) => r23form s n form A2 n2 c2 X w' (HNA.out.kept hk) HTG.out h2 hI)
      by_cases hf : form < 1 ∨ 4 < form
      · have HF := Lib.hid hf
        clear hf
        unfold Sls.val at *
        go_enter Tryz.func7, Tryz.ntmps7
        have p0 := HX0.out
        have p1 := HX1.out
        have p2 := HX2.out
        go_wp2_with fail
        refine (HS.out _ HK1.out).mono ?_
        rintro e w1 ⟨rfl, k1⟩
        have p0 := Kept.cell k1 HX0.out
        have p1 := Kept.cell k1 HX1.out
        have p2 := Kept.cell k1 HX2.out
        have K1 := Lib.hid (Kept.trans HK1.out k1)
        have X1 := Lib.hid k1
        clear k1
        go_wp2_with fail
        refine (HFW.out _ K1.out).mono ?_
        rintro e w2 ⟨rfl, k2⟩
        have K2 := Lib.hid (Kept.trans K1.out k2)
        have X2 := Lib.hid (Kept.trans X1.out k2)
        have p0 := Kept.cell X2.out HX0.out
        have p1 := Kept.cell X2.out HX1.out
        have p2 := Kept.cell X2.out HX2.out
        clear k2
        go_wp2_with fail
        refine (HA.out _ K2.out).mono ?_
        rintro e w3 hr
        obtain ⟨rfl, k3⟩ := new_bad HF.out hr
        have K3 := Lib.hid (Kept.trans K2.out k3)
        clear hr k3 p0 p1 p2
        go_wp2_with fail
        refine (awake25 _ (HG.out.kept K3.out)).mono ?_
        rintro e wz ⟨rfl, kz⟩
        go_wp2_with fail
        go_ret
        exact ⟨rfl, Kept.trans K3.out kz⟩
      · have HF := Lib.hid hf
        clear hf
        by_cases hd : decCheck n = 0
        · have HD := Lib.hid hd
          clear hd
          unfold Sls.val at *
          go_enter Tryz.func7, Tryz.ntmps7
          have p0 := HX0.out
          have p1 := HX1.out
          have p2 := HX2.out
          go_wp2_with fail
          refine (HS.out _ HK1.out).mono ?_
          rintro e w1 ⟨rfl, k1⟩
          have p0 := Kept.cell k1 HX0.out
          have p1 := Kept.cell k1 HX1.out
          have p2 := Kept.cell k1 HX2.out
          have K1 := Lib.hid (Kept.trans HK1.out k1)
          have X1 := Lib.hid k1
          clear k1
          go_wp2_with fail
          refine (HFW.out _ K1.out).mono ?_
          rintro e w2 ⟨rfl, k2⟩
          have K2 := Lib.hid (Kept.trans K1.out k2)
          have X2 := Lib.hid (Kept.trans X1.out k2)
          have p0 := Kept.cell X2.out HX0.out
          have p1 := Kept.cell X2.out HX1.out
          have p2 := Kept.cell X2.out HX2.out
          clear k2
          go_wp2_with fail
          refine (HA.out _ K2.out).mono ?_
          rintro e w3 hr
          obtain ⟨b, F, rfl, hS, k3⟩ := new_ok HF.out HD.out hr
          obtain ⟨B0, hB0⟩ : ∃ B0 : Nat, B0 = w2.heap.size := ⟨_, rfl⟩
          rw [← hB0] at hS
          have HB2 := Lib.hid (show w2.heap.size ≤ B0 by rw [hB0]; exact Nat.le_refl _)
          have HB0 := Lib.hid (show w.heap.size ≤ B0 by rw [hB0]; exact K2.out.size)
          have HBW := Lib.hid (show B0 ≤ w3.heap.size by rw [hB0]; exact k3.size)
          have KN := Lib.hid k3
          have SN := Lib.hid hS
          clear hr k3 hS hB0 p0 p1 p2
          go_wp2_with fail
          obtain ⟨base, hbase⟩ : ∃ base : Nat, base = w3.heap.size := ⟨_, rfl⟩
          have HB0B := Lib.hid (show B0 ≤ base by rw [hbase]; exact HBW.out)
          have HBL := Lib.hid (show base ≤ w3.heap.size by rw [hbase]; exact Nat.le_refl _)
          clear hbase
          go_loopw [9, 10, 11] (fun p q i wr => ∃ (k : Nat) (F : Nat → Prop), k ≤ m ∧ i = .int .i64 k ∧ OwnF F wr base p (T.take k).flatten ∧ OwnF F wr base q (strOut n form (T.take k).flatten) ∧ (∀ g, p.ownBlock = some g → q.ownBlock ≠ some g) ∧ StrAt wr B0 b n form (strPend (boundB n form) (T.take k).flatten) F ∧ base ≤ wr.heap.size ∧ Kept w2 wr) (fun _ _ i _ => m - (intOf i).toNat)
          case atStart => exact ⟨0, F, Nat.zero_le _, rfl, by rw [List.take_zero]; exact OwnF.nil _ _ _, by rw [List.take_zero, List.flatten_nil, strOut_nil]; exact OwnF.nil _ _ _, (fun g hg => by cases hg), by rw [List.take_zero, List.flatten_nil, strPend_nil]; exact SN.out, HBL.out, KN.out⟩
          case round =>
            obtain ⟨k, F, hk, rfl, hin, hout, hap, hst, hbw, hkw⟩ := hrel
            have IN := Lib.hid hin
            have OUT := Lib.hid hout
            have AP := Lib.hid hap
            have ST := Lib.hid hst
            have BW := Lib.hid hbw
            have KW := Lib.hid hkw
            have HFL := Lib.hid (few_flat HFT.out k)
            have HFN := Lib.hid (few_flat HFT.out (k + 1))
            have HPL := Lib.hid (strPend_le (boundB n form) (T.take k).flatten)
            have HSL := Lib.hid (strOut_len n form (T.take k).flatten (by have := HFL.out; omega))
            clear hin hout hap hst hbw hkw
            by_cases hlt : k < m
            · obtain ⟨bt, ot, X, At, kt, ct, rfl, hX, c0, let_, it⟩ := HT.out.at_ hlt
              have HX := Lib.hid (flat_next hX)
              have HI := Lib.hid it
              have HC0 := Lib.hid c0
              have hkt : kt ≤ 30 := by rw [it.1]; exact fewB_all HFT.out X (mem_of_getElem?_some hX)
              have HKT := Lib.hid it.1
              have IX := Lib.hid (IntsF.old (F := F) it (Kept.trans K2.out KW.out) (fun i hi => Nat.le_trans HB0.out (ST.out.lo i hi)))
              have c1 := Kept.cell (Kept.trans K2.out KW.out) c0
              clear it hX c0
              go_wp2_with fail
              refine (write_any B0 b n form _ F At kt ct X wr ST.out (GlobB.of HG.out (Kept.trans K2.out KW.out) HB0.out) (Nat.le_trans HB0B.out BW.out) (by have := HPL.out; have := HFL.out; omega) (by omega) IX.out.1 (fun h0 a ha => (IX.out.2 h0 a ha).1)).mono ?_
              rintro e w4 hr
              obtain ⟨A4, n4, c4, F4, rfl, le4, i4, fr4, hs4, hsub, hkf⟩ := wr_ok hr (by have := HPL.out; have := HFL.out; have := HKT.out; omega)
              have IN4 := Lib.hid (IN.out.kf hkf hsub)
              have OUT4 := Lib.hid (OUT.out.kf hkf hsub)
              have ST4 := Lib.hid hs4
              have I4 := Lib.hid i4
              have FR4 := Lib.hid fr4
              have KW4 := Lib.hid (KF.kept KW.out hkf (ST.out.lo) HB2.out)
              have BW4 := Lib.hid (Nat.le_trans BW.out hkf.size)
              have c1 := Kept.cell (Kept.trans K2.out KW4.out) HC0.out
              have I4L := Lib.hid i4.1.1
              clear hr i4 fr4 hs4 hsub hkf
              have HSN := Lib.hid (strOut_len n form (T.take (k + 1)).flatten (by have := HFN.out; omega))
              have HSS := Lib.hid (strOut_step n form (T.take k).flatten X)
              have HPS := Lib.hid (strPend_write (boundB n form) (T.take k).flatten X)
              rw [← HX.out] at HSS HPS
              have HLL := Lib.hid (show (strOut n form (T.take k).flatten).length + (wrOut n form (strPend (boundB n form) (T.take k).flatten) X).length ≤ 1000000000 by have h1 := congrArg List.length HSS.out; rw [List.length_append] at h1; have := HSN.out; omega)
              have HLI := Lib.hid (show (T.take k).flatten.length + X.length ≤ 1000000000 by have := HFL.out; have := HKT.out; omega)
              go_wp2_with (first
                | (at_builtin; refine app_ints rfl _ _ rfl base _ _ rfl (by exact OUT5.out.1) _ _ _ _ rfl (by exact I5.out.1) (by exact HLL.out) (by exact BW5.out) ?_; intro v6 w6 hown6 hg6 hat6; have HO6 := Lib.hid hown6; have HG6 := Lib.hid (OUT5.out.row hg6); have HA6 := Lib.hid (OUT5.out.rowAt hat6); clear hown6 hg6 hat6)
                | (at_builtin; refine app_ints rfl _ _ rfl base _ _ rfl (by exact IN4.out.1) _ _ _ X rfl (by exact HI.out.kept (Kept.trans K2.out KW4.out)) (by exact HLI.out) (by exact BW4.out) ?_; intro v5 w5 hown5 hg5 hat5; have hg5' := IN4.out.row hg5; have hat5' := IN4.out.rowAt hat5; have IN5 := Lib.hid (IN4.out.app hown5 hat5' ST4.out.lt2); have OUT5 := Lib.hid (OUT4.out.other hg5' AP.out); have AP5 := Lib.hid (own_apart AP.out (fun g hg => (OUT4.out.lt g hg).2) hat5'); have I5 := Lib.hid (I4.out.grown hg5' (fun g hg _ a ha e => by have h1 := (IN.out.lt g hg).2; have h2 := FR4.out a ha; omega)); have ST5 := Lib.hid (ST4.out.grown hg5' (fun g hg => IN4.out.2 g hg)); have KW5 := Lib.hid (Kept.ofGrown KW4.out hg5' (fun g hg => Nat.le_trans (Nat.le_trans HB2.out HB0B.out) (IN4.out.lt g hg).1)); have BW5 := Lib.hid (Nat.le_trans BW4.out hg5'.size); clear hown5 hg5 hat5 hg5' hat5'))
              have IN6 := Lib.hid (IN5.out.other HG6.out (fun g hg h => AP5.out g h hg))
              have OUT6 := Lib.hid (OUT5.out.app HO6.out HA6.out ST5.out.lt2)
              have AP6 := Lib.hid (own_apart (fun g hg h => AP5.out g h hg) (fun g hg => (IN5.out.lt g hg).2) HA6.out)
              have ST6 := Lib.hid (ST5.out.grown HG6.out (fun g hg => OUT5.out.2 g hg))
              have KW6 := Lib.hid (Kept.ofGrown KW5.out HG6.out (fun g hg => Nat.le_trans (Nat.le_trans HB2.out HB0B.out) (OUT5.out.lt g hg).1))
              have BW6 := Lib.hid (Nat.le_trans BW5.out HG6.out.size)
              clear HG6 HA6 HO6
              go_roundw
              case rel => exact ⟨k + 1, F4, by omega, by go_num, by rw [HX.out]; exact IN6.out, by rw [← HSS.out]; exact OUT6.out, fun g hg h => AP6.out g h hg, by rw [← HPS.out]; exact ST6.out, BW6.out, KW6.out⟩
              case measure => simp [intOf]; omega
            · have hkm : k = m := by omega
              have HW := Lib.hid (strOut_all n form (T.take k).flatten)
              have HLF := Lib.hid (formOf_length n form (strPend (boundB n form) (T.take k).flatten))
              generalize (T.take k).flatten = inp at *
              obtain ⟨Ai, ci, rfl, hlei, hIi⟩ := OwnI.sl IN.out.1
              obtain ⟨ni, hni⟩ : ∃ ni : Nat, ni = inp.length := ⟨_, rfl⟩
              rw [← hni] at IN AP ⊢
              have hni2 : ni ≤ 240 := by rw [hni]; exact HFL.out
              have HNI := Lib.hid hni
              clear hlei hIi hni
              subst hkm
              go_wp2_with fail
              refine (close_any B0 b n form _ F wr ST.out (GlobB.of HG.out (Kept.trans K2.out KW.out) HB0.out) (by have := HPL.out; have := HFL.out; omega)).mono ?_
              rintro e w4 ⟨A4, n4, c4, rfl, le4, i4, fr4, ho4, hkf⟩
              have IN4 := Lib.hid (IN.out.kf (F' := F) hkf (fun i h => .inl h))
              have OUT4 := Lib.hid (OUT.out.kf (F' := F) hkf (fun i h => .inl h))
              have I4 := Lib.hid i4
              have KW4 := Lib.hid (KF.kept KW.out hkf (ST.out.lo) HB2.out)
              have BW4 := Lib.hid (Nat.le_trans BW.out hkf.size)
              clear i4 fr4 ho4 hkf
              go_wp2_with (at_builtin; refine app_ints rfl _ _ rfl base _ _ rfl (by exact OUT4.out.1) _ _ _ _ rfl (by exact I4.out) (by have := HLF.out; have := HSL.out; have := HPL.out; have := HFL.out; omega) (by exact BW4.out) ?_; intro v5 w5 hown5 hg5 hat5; have hg5' := OUT4.out.row hg5; have IN5 := Lib.hid (IN4.out.other hg5' (fun g hg h => AP.out g h hg)); have KW5 := Lib.hid (Kept.ofGrown KW4.out hg5' (fun g hg => Nat.le_trans (Nat.le_trans HB2.out HB0B.out) (OUT4.out.lt g hg).1)); have HO5 := Lib.hid hown5; have HV5 := Lib.hid (own_formR hown5); have p0 := Kept.cell (Kept.trans X2.out KW5.out) HX0.out; have p1 := Kept.cell (Kept.trans X2.out KW5.out) HX1.out; have p2 := Kept.cell (Kept.trans X2.out KW5.out) HX2.out; clear hown5 hg5 hat5 hg5')
              obtain ⟨Ao, co, rfl, leo, io⟩ := OwnI.sl HO5.out
              rw [HW.out] at io ⊢
              obtain ⟨no, hno⟩ : ∃ no : Nat, no = (formOf n form inp).length := ⟨_, rfl⟩
              rw [← hno] at io ⊢
              have hno2 : no ≤ 100000000 := by rw [hno]; have := formOf_length n form inp; have := HFL.out; omega
              have Hnew := Lib.hid io
              obtain ⟨Aj, cj, hej, _, hIj⟩ := OwnI.sl IN5.out.1
              rw [← HNI.out] at hej hIj
              injection hej with e1 _ e2
              subst e1 e2
              have HIJ := Lib.hid hIj
              clear HV5 io hIj hno leo
              refine (HCB.out Ai ni ci inp w5 (Kept.trans K2.out KW5.out) (by omega) HIJ.out).mono ?_
              rintro e w6 ⟨A6, n6, c6, rfl, le6, i6, k6⟩
              have I6 := Lib.hid i6
              have Hnew6 := Lib.hid (Hnew.out.kept k6)
              have KW6 := Lib.hid (Kept.trans (Kept.trans K2.out KW5.out) k6)
              have hn6 : n6 = no := i6.1.trans Hnew.out.1.symm
              have HE := Lib.hid (r01Equal Ao A6 no n6 co c6 _ _ w6 hno2 (by omega) Hnew6.out I6.out)
              simp only [decide_true] at HE
              clear i6 k6 p0 p1 p2 hn6
              go_wp2_with fail
              refine HE.out.mono ?_
              rintro e w7 ⟨rfl, k7⟩
              have KW7 := Lib.hid (Kept.trans KW6.out k7)
              clear k7
              go_wp2_with fail
              refine (awake25 _ (HG.out.kept KW7.out)).mono ?_
              rintro e wz ⟨rfl, kz⟩
              go_wp2_with fail
              go_ret
              exact ⟨rfl, Kept.trans KW7.out kz⟩
        · have HD := Lib.hid hd
          clear hd
          unfold Sls.val at *
          go_enter Tryz.func7, Tryz.ntmps7
          have p0 := HX0.out
          have p1 := HX1.out
          have p2 := HX2.out
          go_wp2_with fail
          refine (HS.out _ HK1.out).mono ?_
          rintro e w1 ⟨rfl, k1⟩
          have p0 := Kept.cell k1 HX0.out
          have p1 := Kept.cell k1 HX1.out
          have p2 := Kept.cell k1 HX2.out
          have K1 := Lib.hid (Kept.trans HK1.out k1)
          have X1 := Lib.hid k1
          clear k1
          go_wp2_with fail
          refine (HFW.out _ K1.out).mono ?_
          rintro e w2 ⟨rfl, k2⟩
          have K2 := Lib.hid (Kept.trans K1.out k2)
          have X2 := Lib.hid (Kept.trans X1.out k2)
          have p0 := Kept.cell X2.out HX0.out
          have p1 := Kept.cell X2.out HX1.out
          have p2 := Kept.cell X2.out HX2.out
          clear k2
          go_wp2_with fail
          refine (HA.out _ K2.out).mono ?_
          rintro e w3 hr
          obtain ⟨rfl, k3⟩ := new_err HF.out HD.out hr
          have K3 := Lib.hid (Kept.trans K2.out k3)
          clear hr k3 p0 p1 p2
          go_wp2_with fail
          refine (awake25 _ (HG.out.kept K3.out)).mono ?_
          rintro e wz ⟨rfl, kz⟩
          go_wp2_with fail
          go_ret
          exact ⟨rfl, Kept.trans K3.out kz⟩
end Go.Proofs.YtomgchfjachedaaGreatDoor
