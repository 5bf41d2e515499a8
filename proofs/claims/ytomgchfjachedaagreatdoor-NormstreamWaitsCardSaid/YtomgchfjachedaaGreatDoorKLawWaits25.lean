/- law25.NormstreamWaits returns true. -/
import Derived.Test.YtomgchfjachedaaGreatDoorKSq
import Derived.Test.YtomgchfjachedaaGreatDoorKStrH
namespace Go.Proofs.YtomgchfjachedaaGreatDoor
open Go Go.RowKit
set_option maxRecDepth 100000 in
set_option maxHeartbeats 8000000 in
theorem law_waits25 (s : Sls) (n : Nrm) (form : Int) (B : Option Addr) (m e : Nat) (T : List (List Int)) (w : World) (hN : NormIn w s n) (_hx : I64 form) (hT : m ≤ e ∧ e ≤ 9223372036854775807 ∧ Tab w B m T ∧ ∀ xs ∈ T, xs.length ≤ 9223372036854775807) (hG : Glob w) : Calls Tryz.prog 8 #[s.val, .int .i64 form, .slice B m e] w (RetB w true) := by
  have hk0_ := Kept.alloc (Kept.refl w) (Obj.cells #[Value.slice s.Ac s.nc s.cc, Value.slice s.Am s.nm s.cm, Value.slice s.Ae s.ne s.ce] 28)
  have HK1 := Lib.hid hk0_
  have hb0_ := (box_block w (Obj.cells #[Value.slice s.Ac s.nc s.cc, Value.slice s.Am s.nm s.cm, Value.slice s.Ae s.ne s.ce] 28))
  have x0_ := cell_of_block (i := 0) hb0_ rfl
  have x1_ := cell_of_block (i := 1) hb0_ rfl
  have x2_ := cell_of_block (i := 2) hb0_ rfl
  simp only [s4_, s5_, s6_] at x0_ x1_ x2_
  have HX0 := Lib.hid x0_
  have HX1 := Lib.hid x1_
  have HX2 := Lib.hid x2_
  have HB0 := Lib.hid hb0_
  clear x0_ x1_ x2_ hb0_
  obtain ⟨hme, hbig, hT, hTL⟩ := hT
  have HS := Lib.hid (fun w' (hk : Kept w w') => r22small s n w' (hN.kept hk))
  have HFW := Lib.hid (fun w' (hk : Kept w w') => few25 B m e T w' ⟨hme, hbig⟩ (hT.kept hk) hTL)
  have HN := Lib.hid hN
  have HG := Lib.hid hG
  have HT := Lib.hid hT
  have HMT := Lib.hid hT.1
  clear hN hG hT hk0_ hTL
  cases hsm : small22 n
  · rw [hsm] at HS
    clear hsm
    unfold Sls.val at *
    go_enter Tryz.func8, Tryz.ntmps8
    have p0 := HX0.out
    have p1 := HX1.out
    have p2 := HX2.out
    go_wp2_with fail
    refine (HS.out _ HK1.out).mono ?_
    rintro e w1 ⟨rfl, k1⟩
    clear p0 p1 p2
    have K1 := Lib.hid (Kept.trans HK1.out k1)
    clear k1
    go_wp2_with fail
    refine (awake25 _ (HG.out.kept K1.out)).mono ?_
    rintro e wz ⟨rfl, kz⟩
    go_wp2_with fail
    go_ret
    exact ⟨rfl, Kept.trans K1.out kz⟩
  · rw [hsm] at HS
    have HNA := Lib.hid (HN.out.small2 hsm)
    have HTG := Lib.hid (tag22 hsm)
    clear hsm
    cases hfw : fewB T
    · rw [hfw] at HFW
      clear hfw
      unfold Sls.val at *
      go_enter Tryz.func8, Tryz.ntmps8
      have p0 := HX0.out
      have p1 := HX1.out
      have p2 := HX2.out
      go_wp2_with fail
      refine (HS.out _ HK1.out).mono ?_
      rintro e w1 ⟨rfl, k1⟩
      clear p0 p1 p2
      have K1 := Lib.hid (Kept.trans HK1.out k1)
      clear k1
      go_wp2_with fail
      refine (HFW.out _ K1.out).mono ?_
      rintro e w2 ⟨rfl, k2⟩
      have K2 := Lib.hid (Kept.trans K1.out k2)
      clear k2
      go_wp2_with fail
      refine (awake25 _ (HG.out.kept K2.out)).mono ?_
      rintro e wz ⟨rfl, kz⟩
      go_wp2_with fail
      go_ret
      exact ⟨rfl, Kept.trans K2.out kz⟩
    · rw [hfw] at HFW
      have HFT := Lib.hid hfw
      clear hfw
      have HA := Lib.hid (fun w' (hk : Kept w w') => new_any s n form w' (HNA.out.kept hk) (HG.out.kept hk))
      have HBO := Lib.hid (fun (x : Int) w' (hk : Kept w w') => r24Boundary s n form x w' (HNA.out.kept hk) HTG.out)
      by_cases hf : form < 1 ∨ 4 < form
      · have HF := Lib.hid hf
        clear hf
        unfold Sls.val at *
        go_enter Tryz.func8, Tryz.ntmps8
        have p0 := HX0.out
        have p1 := HX1.out
        have p2 := HX2.out
        go_wp2_with fail
        refine (HS.out _ HK1.out).mono ?_
        rintro e w1 ⟨rfl, k1⟩
        have p0 := Kept.cell k1 HX0.out
        have p1 := Kept.cell k1 HX1.out
        have p2 := Kept.cell k1 HX2.out
        have K1 := Lib.hid (Kept.trans HK1.out k1)
        have X1 := Lib.hid k1
        clear k1
        go_wp2_with fail
        refine (HFW.out _ K1.out).mono ?_
        rintro e w2 ⟨rfl, k2⟩
        have K2 := Lib.hid (Kept.trans K1.out k2)
        have X2 := Lib.hid (Kept.trans X1.out k2)
        have p0 := Kept.cell X2.out HX0.out
        have p1 := Kept.cell X2.out HX1.out
        have p2 := Kept.cell X2.out HX2.out
        clear k2
        go_wp2_with fail
        refine (HA.out _ K2.out).mono ?_
        rintro e w3 hr
        obtain ⟨rfl, k3⟩ := new_bad HF.out hr
        have K3 := Lib.hid (Kept.trans K2.out k3)
        clear hr k3 p0 p1 p2
        go_wp2_with fail
        refine (awake25 _ (HG.out.kept K3.out)).mono ?_
        rintro e wz ⟨rfl, kz⟩
        go_wp2_with fail
        go_ret
        exact ⟨rfl, Kept.trans K3.out kz⟩
      · have HF := Lib.hid hf
        clear hf
        by_cases hd : decCheck n = 0
        · have HD := Lib.hid hd
          clear hd
          unfold Sls.val at *
          go_enter Tryz.func8, Tryz.ntmps8
          have p0 := HX0.out
          have p1 := HX1.out
          have p2 := HX2.out
          go_wp2_with fail
          refine (HS.out _ HK1.out).mono ?_
          rintro e w1 ⟨rfl, k1⟩
          have p0 := Kept.cell k1 HX0.out
          have p1 := Kept.cell k1 HX1.out
          have p2 := Kept.cell k1 HX2.out
          have K1 := Lib.hid (Kept.trans HK1.out k1)
          have X1 := Lib.hid k1
          clear k1
          go_wp2_with fail
          refine (HFW.out _ K1.out).mono ?_
          rintro e w2 ⟨rfl, k2⟩
          have K2 := Lib.hid (Kept.trans K1.out k2)
          have X2 := Lib.hid (Kept.trans X1.out k2)
          have p0 := Kept.cell X2.out HX0.out
          have p1 := Kept.cell X2.out HX1.out
          have p2 := Kept.cell X2.out HX2.out
          clear k2
          go_wp2_with fail
          refine (HA.out _ K2.out).mono ?_
          rintro e w3 hr
          obtain ⟨b, F, rfl, hS, k3⟩ := new_ok HF.out HD.out hr
          obtain ⟨B0, hB0⟩ : ∃ B0 : Nat, B0 = w2.heap.size := ⟨_, rfl⟩
          rw [← hB0] at hS
          have HB2 := Lib.hid (show w2.heap.size ≤ B0 by rw [hB0]; exact Nat.le_refl _)
          have HB0 := Lib.hid (show w.heap.size ≤ B0 by rw [hB0]; exact K2.out.size)
          have HBW := Lib.hid (show B0 ≤ w3.heap.size by rw [hB0]; exact k3.size)
          have KN := Lib.hid k3
          have SN := Lib.hid hS
          clear hr k3 hS hB0 p0 p1 p2
          go_wp2_with fail
          obtain ⟨base, hbase⟩ : ∃ base : Nat, base = w3.heap.size := ⟨_, rfl⟩
          have HB0B := Lib.hid (show B0 ≤ base by rw [hbase]; exact HBW.out)
          have HBL := Lib.hid (show base ≤ w3.heap.size by rw [hbase]; exact Nat.le_refl _)
          clear hbase
          go_loopw [9, 10] (fun p i wr => ∃ (k : Nat) (F : Nat → Prop), k ≤ m ∧ i = .int .i64 k ∧ OwnF F wr base p (T.take k).flatten ∧ StrAt wr B0 b n form (strPend (boundB n form) (T.take k).flatten) F ∧ base ≤ wr.heap.size ∧ Kept w2 wr) (fun _ i _ => m - (intOf i).toNat)
          case atStart => exact ⟨0, F, Nat.zero_le _, rfl, by rw [List.take_zero]; exact OwnF.nil _ _ _, by rw [List.take_zero, List.flatten_nil, strPend_nil]; exact SN.out, HBL.out, KN.out⟩
          case round =>
            obtain ⟨k, F, hk, rfl, hin, hst, hbw, hkw⟩ := hrel
            have IN := Lib.hid hin
            have ST := Lib.hid hst
            have BW := Lib.hid hbw
            have KW := Lib.hid hkw
            have HFL := Lib.hid (few_flat HFT.out k)
            have HFN := Lib.hid (few_flat HFT.out (k + 1))
            have HPL := Lib.hid (strPend_le (boundB n form) (T.take k).flatten)
            clear hin hst hbw hkw
            by_cases hlt : k < m
            · obtain ⟨bt, ot, X, At, kt, ct, rfl, hX, c0, let_, it⟩ := HT.out.at_ hlt
              have HX := Lib.hid (flat_next hX)
              have HI := Lib.hid it
              have HC0 := Lib.hid c0
              have hkt : kt ≤ 30 := by rw [it.1]; exact fewB_all HFT.out X (mem_of_getElem?_some hX)
              have HKT := Lib.hid it.1
              have IX := Lib.hid (IntsF.old (F := F) it (Kept.trans K2.out KW.out) (fun i hi => Nat.le_trans HB0.out (ST.out.lo i hi)))
              have c1 := Kept.cell (Kept.trans K2.out KW.out) c0
              clear it hX c0
              go_wp2_with fail
              refine (write_any B0 b n form _ F At kt ct X wr ST.out (GlobB.of HG.out (Kept.trans K2.out KW.out) HB0.out) (Nat.le_trans HB0B.out BW.out) (by have := HPL.out; have := HFL.out; omega) (by omega) IX.out.1 (fun h0 a ha => (IX.out.2 h0 a ha).1)).mono ?_
              rintro e w4 hr
              obtain ⟨A4, n4, c4, F4, rfl, le4, i4, fr4, hs4, hsub, hkf⟩ := wr_ok hr (by have := HPL.out; have := HFL.out; have := HKT.out; omega)
              have IN4 := Lib.hid (IN.out.kf hkf hsub)
              have ST4 := Lib.hid hs4
              have KW4 := Lib.hid (KF.kept KW.out hkf (ST.out.lo) HB2.out)
              have BW4 := Lib.hid (Nat.le_trans BW.out hkf.size)
              have c1 := Kept.cell (Kept.trans K2.out KW4.out) HC0.out
              clear hr i4 fr4 hs4 hsub hkf
              have HPS := Lib.hid (strPend_write (boundB n form) (T.take k).flatten X)
              rw [← HX.out] at HPS
              have HLI := Lib.hid (show (T.take k).flatten.length + X.length ≤ 1000000000 by have := HFL.out; have := HKT.out; omega)
              go_wp2_with (at_builtin; refine app_ints rfl _ _ rfl base _ _ rfl (by exact IN4.out.1) _ _ _ X rfl (by exact HI.out.kept (Kept.trans K2.out KW4.out)) (by exact HLI.out) (by exact BW4.out) ?_; intro v5 w5 hown5 hg5 hat5; have hg5' := IN4.out.row hg5; have hat5' := IN4.out.rowAt hat5; have IN5 := Lib.hid (IN4.out.app hown5 hat5' ST4.out.lt2); have ST5 := Lib.hid (ST4.out.grown hg5' (fun g hg => IN4.out.2 g hg)); have KW5 := Lib.hid (Kept.ofGrown KW4.out hg5' (fun g hg => Nat.le_trans (Nat.le_trans HB2.out HB0B.out) (IN4.out.lt g hg).1)); have BW5 := Lib.hid (Nat.le_trans BW4.out hg5'.size); clear hown5 hg5 hat5 hg5' hat5')
              rw [HPS.out] at ST5
              rw [← HX.out] at IN5
              have HSF := Lib.hid (strPend_suffix (boundB n form) (T.take (k + 1)).flatten)
              have HPP := Lib.hid (fun h => strPend_pos (boundB n form) (inp := (T.take (k + 1)).flatten) h)
              have HPB := Lib.hid (fun (q : Nat) (x : Int) (h : (strPend (boundB n form) (T.take (k + 1)).flatten)[q]? = some x) => strPend_bound h)
              have HPN := Lib.hid (strPend_le (boundB n form) (T.take (k + 1)).flatten)
              have HREL := Lib.hid (show ∀ v w', OwnF F4 w' base v (T.take (k + 1)).flatten → StrAt w' B0 b n form (strPend (boundB n form) (T.take (k + 1)).flatten) F4 → base ≤ w'.heap.size → Kept w2 w' → ∃ (k' : Nat) (F : Nat → Prop), k' ≤ m ∧ Value.int .i64 ((k : Int) + 1) = .int .i64 k' ∧ OwnF F w' base v (T.take k').flatten ∧ StrAt w' B0 b n form (strPend (boundB n form) (T.take k').flatten) F ∧ base ≤ w'.heap.size ∧ Kept w2 w' from fun v w' h1 h2 h3 h4 => ⟨k + 1, F4, by omega, by go_num, h1, h2, h3, h4⟩)
              generalize (T.take (k + 1)).flatten = inp at *
              obtain ⟨Ai, ci, hvi, hlei, hIi⟩ := OwnI.sl IN5.out.1
              obtain ⟨ni, hni⟩ : ∃ ni : Nat, ni = inp.length := ⟨_, rfl⟩
              rw [← hni] at hvi hlei hIi
              subst hvi
              have HNI := Lib.hid hni
              have HII := Lib.hid hIi
              have hni2 : ni ≤ 240 := by rw [hni]; exact HFN.out
              refine (pending_any w5 ST5.out (by have := HPN.out; have := HFN.out; omega)).mono ?_
              rintro e w6 ⟨A6, n6, c6, rfl, le6, i6, fr6, k6⟩
              have I6 := Lib.hid i6
              have K6 := Lib.hid k6
              have hn6 : n6 ≤ ni := by rw [i6.1, hni]; exact HPN.out
              have H6E := Lib.hid i6.1
              have hsl := run_tail Ai ni ci n6 hn6
              have hws : IntKind.i64.wrap ((ni : Int) - (n6 : Int)) = (ni : Int) - (n6 : Int) := IntWalk.i64_in _ (by omega)
              have hws2 : wrap64 ((ni : Int) - (n6 : Int)) = (ni : Int) - (n6 : Int) := IntWalk.wrap64_in _ (by omega)
              have HSI := Lib.hid (show Ints w6 (dropA Ai ci (ni - n6)) (ni - (ni - n6)) (strPend (boundB n form) inp) by have h1 := Ints.drop_ (hIi.kept k6) (show ni - n6 ≤ ni by omega) hlei; rw [H6E.out, HNI.out, HSF.out] at h1; rw [H6E.out, HNI.out]; exact h1)
              have HEQ := Lib.hid (r01Equal A6 (dropA Ai ci (ni - n6)) n6 (ni - (ni - n6)) c6 (ci - (ni - n6)) _ _ w6 (by omega) (by omega) i6 HSI.out)
              simp only [decide_true] at HEQ
              have HZ := Lib.hid (show n6 = 0 → ni = 0 from fun h => by rcases Nat.eq_zero_or_pos ni with h1 | h1; exact h1; have h2 := HPP.out (by rw [← hni]; exact h1); rw [← H6E.out] at h2; omega)
              have hgt : ¬ (n6 : Int) > (ni : Int) := by omega
              clear i6 fr6 k6 hIi hni hlei
              go_wp2_with fail
              clear hws hws2 hsl
              refine HEQ.out.mono ?_
              rintro e w7 ⟨rfl, k7⟩
              have K7 := Lib.hid (Kept.trans K6.out k7)
              have KX := Lib.hid k7
              clear k7 HEQ HSI
              rcases Nat.eq_zero_or_pos n6 with hz | hz
              · have hi0 := HZ.out hz
                have hi1 : ¬ (ni : Int) > 0 := by omega
                have hz1 : (n6 : Int) = 0 := by omega
                have HHZ := Lib.hid hz
                clear hi0 hz
                go_wp2_with fail
                go_loopw [14] (fun j wq => ∃ q : Nat, q ≤ n6 ∧ j = .int .i64 q ∧ Kept w7 wq) (fun j _ => n6 - (intOf j).toNat)
                case atStart => exact ⟨0, Nat.zero_le _, rfl, Kept.refl _⟩
                case round =>
                  obtain ⟨q, hq, rfl, hkq⟩ := hrel
                  have KQ := Lib.hid hkq
                  clear hkq
                  by_cases hqn : q < n6
                  · exact absurd hqn (by have := HHZ.out; omega)
                  · have hqe : q = n6 := by omega
                    have KB := Lib.hid (Kept.trans K7.out KQ.out)
                    go_wp2_with fail
                    go_roundw
                    case rel => exact HREL.out _ _ (IN5.out.kept KB.out) (ST5.out.kept KB.out) (Nat.le_trans BW5.out KB.out.size) (Kept.trans KW5.out KB.out)
                    case measure => simp [intOf]; omega
              · have hz0 : ¬ (n6 : Int) = 0 := by omega
                skip
                go_wp2_with fail
                go_loopw [14] (fun j wq => ∃ q : Nat, q ≤ n6 ∧ j = .int .i64 q ∧ Kept w7 wq) (fun j _ => n6 - (intOf j).toNat)
                case atStart => exact ⟨0, Nat.zero_le _, rfl, Kept.refl _⟩
                case round =>
                  obtain ⟨q, hq, rfl, hkq⟩ := hrel
                  have KQ := Lib.hid hkq
                  clear hkq
                  by_cases hqn : q < n6
                  · obtain ⟨bx, ox, x, hAx, hx, cx⟩ := int_at ((I6.out.kept KX.out).kept KQ.out) hqn
                    have HPX := Lib.hid (HPB.out q x hx)
                    have KB := Lib.hid (Kept.trans (Kept.trans K2.out (Kept.trans KW5.out K7.out)) KQ.out)
                    have XB := Lib.hid (Kept.trans X2.out (Kept.trans (Kept.trans KW5.out K7.out) KQ.out))
                    obtain ⟨bb, hbb⟩ : ∃ bb, bb = boundB n form x := ⟨_, rfl⟩
                    have HBX := Lib.hid (fun w' hk => HBO.out x w' hk)
                    rw [← hbb] at HBX HPX
                    have q0 := Kept.cell XB.out HX0.out
                    have q1 := Kept.cell XB.out HX1.out
                    have q2 := Kept.cell XB.out HX2.out
                    have q3 := cx
                    clear hx hbb
                    go_wp2_with fail
                    refine wp_region_held_drew (S := (fun w' => w'.cell? ⟨w.heap.size, 0, none⟩ = some (.slice s.Ac s.nc s.cc) ∧ w'.cell? ⟨w.heap.size, 1, none⟩ = some (.slice s.Am s.nm s.cm) ∧ w'.cell? ⟨w.heap.size, 2, none⟩ = some (.slice s.Ae s.ne s.ce) ∧ w'.cell? ⟨bx, ox + q, none⟩ = some (.int .i64 x))) (by kernel_rfl) ⟨q0, q1, q2, q3⟩ (fun hHeld => ?_)
                    refine tk_ 0 ?_ rfl ?_; refine tk_ 1 ?_ rfl ?_; refine tk_ 2 ?_ rfl ?_; refine tk_ 3 ?_ rfl ?_; refine tk_ 4 ?_ rfl ?_; refine tk_ 5 ?_ rfl ?_
                    refine rd_ 6 rfl (fun K hK => ?_)
                    go_simp
                    (refine (HBX.out _ (Kept.trans KB.out (Kept.drew (Kept.refl wr)))).mono ?_; rintro e w8 ⟨rfl, k8⟩; have K8 := Lib.hid (Kept.trans (Kept.drew (Kept.refl wr)) k8); clear k8)
                    go_wp2_with fail
                    refine hK.out _ _ ⟨Kept.cell K8.out q0, Kept.cell K8.out q1, Kept.cell K8.out q2, Kept.cell K8.out q3⟩ (fun hHeld => ?_)
                    clear hK K
                    (try simp only [Act.put, s1_, s2_, s3_, s4_, s5_, s6_])
                    refine tk_ 7 ?_ rfl ?_
                    refine wpAnyH_done (by kernel_rfl) ?_ _
                    clear q0 q1 q2 q3 cx
                    rcases Nat.eq_zero_or_pos q with hq0 | hq0
                    · have hq1 : ¬ (q : Int) > 0 := by omega
                      have hq2 : (q : Int) = 0 := by omega
                      by_cases hln : n6 < ni
                      · have hb := HPX.out.2 hq0 (by rw [← H6E.out, ← HNI.out]; exact hln)
                        subst hb
                        go_wp2_with fail
                        go_roundw
                        case rel => exact ⟨q + 1, by omega, by go_num, Kept.trans KQ.out K8.out⟩
                        case measure => simp [intOf]; omega
                      · cases bb
                        · skip
                          go_wp2_with fail
                          go_roundw
                          case rel => exact ⟨q + 1, by omega, by go_num, Kept.trans KQ.out K8.out⟩
                          case measure => simp [intOf]; omega
                        · skip
                          go_wp2_with fail
                          go_roundw
                          case rel => exact ⟨q + 1, by omega, by go_num, Kept.trans KQ.out K8.out⟩
                          case measure => simp [intOf]; omega
                    · have hb := HPX.out.1 hq0
                      subst hb
                      have hq1 : (q : Int) > 0 := by omega
                      have hq2 : ¬ (q : Int) = 0 := by omega
                      go_wp2_with fail
                      go_roundw
                      case rel => exact ⟨q + 1, by omega, by go_num, Kept.trans KQ.out K8.out⟩
                      case measure => simp [intOf]; omega
                  · have hqe : q = n6 := by omega
                    have KB := Lib.hid (Kept.trans K7.out KQ.out)
                    go_wp2_with fail
                    go_roundw
                    case rel => exact HREL.out _ _ (IN5.out.kept KB.out) (ST5.out.kept KB.out) (Nat.le_trans BW5.out KB.out.size) (Kept.trans KW5.out KB.out)
                    case measure => simp [intOf]; omega
            · have hkm : k = m := by omega
              go_wp2_with fail
              refine (awake25 _ (HG.out.kept (Kept.trans K2.out KW.out))).mono ?_
              rintro e wz ⟨rfl, kz⟩
              go_wp2_with fail
              go_ret
              exact ⟨rfl, Kept.trans (Kept.trans K2.out KW.out) kz⟩
        · have HD := Lib.hid hd
          clear hd
          unfold Sls.val at *
          go_enter Tryz.func8, Tryz.ntmps8
          have p0 := HX0.out
          have p1 := HX1.out
          have p2 := HX2.out
          go_wp2_with fail
          refine (HS.out _ HK1.out).mono ?_
          rintro e w1 ⟨rfl, k1⟩
          have p0 := Kept.cell k1 HX0.out
          have p1 := Kept.cell k1 HX1.out
          have p2 := Kept.cell k1 HX2.out
          have K1 := Lib.hid (Kept.trans HK1.out k1)
          have X1 := Lib.hid k1
          clear k1
          go_wp2_with fail
          refine (HFW.out _ K1.out).mono ?_
          rintro e w2 ⟨rfl, k2⟩
          have K2 := Lib.hid (Kept.trans K1.out k2)
          have X2 := Lib.hid (Kept.trans X1.out k2)
          have p0 := Kept.cell X2.out HX0.out
          have p1 := Kept.cell X2.out HX1.out
          have p2 := Kept.cell X2.out HX2.out
          clear k2
          go_wp2_with fail
          refine (HA.out _ K2.out).mono ?_
          rintro e w3 hr
          obtain ⟨rfl, k3⟩ := new_err HF.out HD.out hr
          have K3 := Lib.hid (Kept.trans K2.out k3)
          clear hr k3 p0 p1 p2
          go_wp2_with fail
          refine (awake25 _ (HG.out.kept K3.out)).mono ?_
          rintro e wz ⟨rfl, kz⟩
          go_wp2_with fail
          go_ret
          exact ⟨rfl, Kept.trans K3.out kz⟩
end Go.Proofs.YtomgchfjachedaaGreatDoor
