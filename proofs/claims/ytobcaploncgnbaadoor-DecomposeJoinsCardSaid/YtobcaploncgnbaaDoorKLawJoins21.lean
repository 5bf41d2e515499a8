/- law21.DecomposeJoins returns true. -/
import Derived.Deep.AppendLies
import Derived.Test.YtobcaploncgnbaaDoorKFew
import Derived.Test.YtobcaploncgnbaaDoorKRefM
namespace Go.Proofs.YtobcaploncgnbaaDoor
open Go Go.RowKit

theorem joins_text (n : Nrm) (cp : Bool) (xs : List Int) (y : Int) (ys : List Int) (h0 : fullOf (usableN n).decomp cp y ≠ []) (hc : ∀ s t, fullOf (usableN n).decomp cp y = s :: t → classOf (usableN n).classes s = 0) :
    textOf n cp (xs ++ y :: ys) = textOf n cp xs ++ textOf n cp (y :: ys) := by
  cases hF : fullOf (usableN n).decomp cp y with
  | nil => exact absurd hF h0
  | cons s t => exact textE_joins hF (hc s t hF)

theorem own_empty {w : World} {base g : Nat} (h : w.heap[g]? = some (.cells #[] 3 (0, 0))) (hb : base ≤ g) : OwnI w base (.slice (some ⟨g, 0, none⟩) 0 0) [] :=
  ⟨rfl, .inr ⟨g, 0, #[], rfl, hb, h, Nat.le_refl _, Nat.zero_le _, rfl, rfl⟩⟩
theorem field_cls (A : Option Addr) (n c : Nat) (u v : Value) (w : World) : Sem.run Tryd.prog (Instr.field 28 (.agg #[.slice A n c, u, v]) 0) w = .ok (.slice A n c) w := by kernel_rfl

set_option maxRecDepth 100000 in
set_option maxHeartbeats 4000000 in
theorem law_joins21 (s : Sls) (n : Nrm) (A : Option Addr) (l c : Nat) (xs : List Int) (B : Option Addr) (m d : Nat) (ys : List Int) (w : World) (hN : NormIn w s n) (hI : l ≤ c ∧ c ≤ 9223372036854775807 ∧ Ints w A l xs) (hJ : m ≤ d ∧ d ≤ 9223372036854775807 ∧ Ints w B m ys) (hG : Glob w) :
    Calls Tryd.prog 7 #[s.val, .slice A l c, .slice B m d] w (RetB w true) := by
  have HG := Lib.hid hG
  have hk1 := Kept.alloc (Kept.refl w) (Obj.cells #[Value.slice s.Ac s.nc s.cc, Value.slice s.Am s.nm s.cm, Value.slice s.Ae s.ne s.ce] 28)
  have HK1 := Lib.hid hk1
  obtain ⟨hle, hbig, hI⟩ := hI
  obtain ⟨hle', hbig', hJ⟩ := hJ
  have HS := Lib.hid (few21 s n A l c (w.alloc (Obj.cells #[Value.slice s.Ac s.nc s.cc, Value.slice s.Am s.nm s.cm, Value.slice s.Ae s.ne s.ce] 28)) (hN.kept hk1) ⟨hle, hbig⟩)
  have HS' := Lib.hid (fun w' (hk : Kept w w') => few21 s n B m d w' (hN.kept hk) ⟨hle', hbig'⟩)
  have hbx := box_cell w #[Value.slice s.Ac s.nc s.cc, Value.slice s.Am s.nm s.cm, Value.slice s.Ae s.ne s.ce] 28
  have x0 : (w.alloc (Obj.cells #[Value.slice s.Ac s.nc s.cc, Value.slice s.Am s.nm s.cm, Value.slice s.Ae s.ne s.ce] 28)).cell? ⟨w.heap.size, 0, none⟩ = some (.slice s.Ac s.nc s.cc) := hbx 0
  have x1 : (w.alloc (Obj.cells #[Value.slice s.Ac s.nc s.cc, Value.slice s.Am s.nm s.cm, Value.slice s.Ae s.ne s.ce] 28)).cell? ⟨w.heap.size, 1, none⟩ = some (.slice s.Am s.nm s.cm) := hbx 1
  have x2 : (w.alloc (Obj.cells #[Value.slice s.Ac s.nc s.cc, Value.slice s.Am s.nm s.cm, Value.slice s.Ae s.ne s.ce] 28)).cell? ⟨w.heap.size, 2, none⟩ = some (.slice s.Ae s.ne s.ce) := hbx 2
  have HX0 := Lib.hid x0
  have HX1 := Lib.hid x1
  have HX2 := Lib.hid x2
  have HN := Lib.hid hN
  have HI := Lib.hid hI
  have HJ := Lib.hid hJ
  have HB := Lib.hid (And.intro hle hbig)
  have HB' := Lib.hid (And.intro hle' hbig')
  clear hN hG hk1 hbx x0 x1 x2 hI hle hbig hJ hle' hbig'
  cases hsm : (smallB n && decide (l ≤ 40))
  · rw [hsm] at HS
    clear hsm
    unfold Sls.val at *
    go_enter Tryd.func7, Tryd.ntmps7
    go_wp2_with fail
    refine HS.out.mono ?_
    rintro e w1 ⟨rfl, k1⟩
    have HA := Lib.hid (alive21 w1 (HG.out.kept (Kept.trans HK1.out k1)))
    go_wp2_with fail
    refine HA.out.mono ?_
    rintro e w2 ⟨rfl, k2⟩
    go_wp2_with fail
    go_ret
    exact ⟨rfl, Kept.trans HK1.out (Kept.trans k1 k2)⟩
  · rw [hsm] at HS
    obtain ⟨hsb, hl40⟩ := (Bool.and_eq_true _ _).mp hsm
    have hl40 := of_decide_eq_true hl40
    have HNA := Lib.hid (HN.out.small hsb)
    have HTG := Lib.hid (norm_tag HN.out hsb)
    clear hsm hsb
    unfold Sls.val at *
    go_enter Tryd.func7, Tryd.ntmps7
    go_wp2_with fail
    refine HS.out.mono ?_
    rintro e w1 ⟨rfl, k1⟩
    have p0 := Kept.cell k1 HX0.out
    have p1 := Kept.cell k1 HX1.out
    have p2 := Kept.cell k1 HX2.out
    have K1 := Lib.hid (Kept.trans HK1.out k1)
    have HS2 := Lib.hid (HS'.out w1 K1.out)
    cases hsm : (smallB n && decide (m ≤ 40))
    · rw [hsm] at HS2
      clear hsm
      go_wp2_with fail
      refine HS2.out.mono ?_
      rintro e w2 ⟨rfl, k2⟩
      have HA := Lib.hid (alive21 w2 (HG.out.kept (Kept.trans K1.out k2)))
      go_wp2_with fail
      refine HA.out.mono ?_
      rintro e w3 ⟨rfl, k3⟩
      go_wp2_with fail
      go_ret
      exact ⟨rfl, Kept.trans K1.out (Kept.trans k2 k3)⟩
    · rw [hsm] at HS2
      have hm40 := of_decide_eq_true ((Bool.and_eq_true _ _).mp hsm).2
      clear hsm
      go_wp2_with fail
      refine HS2.out.mono ?_
      rintro e w2 ⟨rfl, k2⟩
      have K2 := Lib.hid (Kept.trans K1.out k2)
      have q0 := Kept.cell k2 p0
      have q1 := Kept.cell k2 p1
      have q2 := Kept.cell k2 p2
      clear p0 p1 p2
      rcases Nat.eq_zero_or_pos m with h0 | h0
      · subst h0
        have HA := Lib.hid (alive21 w2 (HG.out.kept K2.out))
        go_wp2_with fail
        refine HA.out.mono ?_
        rintro e w3 ⟨rfl, k3⟩
        go_wp2_with fail
        go_ret
        exact ⟨rfl, Kept.trans K2.out k3⟩
      · have hm0 : ¬ ((m : Int) = 0) := by omega
        go_wp2_with fail
        obtain ⟨cp, hcp⟩ : ∃ cp : Bool, cp = ((l : Int) % 2 == 0) := ⟨_, rfl⟩
        rw [← hcp]
        clear hcp
        obtain ⟨b2, off2, y, hBe, hy, cy⟩ := int_at (HJ.out.kept K2.out) h0
        have HCH := Lib.hid (fun w' (hk : Kept w w') => char_any s n y cp w' (HNA.out.kept hk) (HG.out.kept hk))
        have HDA := Lib.hid (fun w' (hk : Kept w w') => r21data s n w' (HNA.out.kept hk) HTG.out)
        have HNU := Lib.hid (usableS_at HNA.out)
        have HSP := Lib.hid (usableN_spans n)
        have HCL := Lib.hid (fun z w' (hk : Kept w w') => r20Class (usableS s n).Ac (usableS s n).nc (usableS s n).cc (usableN n).classes z w' (by have := HNU.out.bc; omega) (HNU.out.kept hk).cls)
        rw [HSP.out] at HCL
        have HJT := Lib.hid (joins_text n cp xs y)
        have HTX := Lib.hid (fun A' n' c' zs w' (hk : Kept w w') (hn' : n' ≤ 10000) (hZ : Ints w' A' n' zs) => text_any s n A' n' c' zs cp w' (HNA.out.kept hk) (HG.out.kept hk) hn' hZ)
        have HTL := Lib.hid (textOf_length n cp)
        have HFL := Lib.hid (usableN_len n cp y)
        clear hm0
        generalize fullOf (usableN n).decomp cp y = Fy at *
        generalize classOf (usableN n).classes = cls at *
        generalize usableS s n = s1 at *
        unfold Sls.val at *
        have K2d := Lib.hid (Kept.drew K2.out)
        rw [Nat.add_zero] at cy
        subst hBe
        go_region_held3 (fun w' => w'.cell? ⟨w.heap.size, 0, none⟩ = some (.slice s.Ac s.nc s.cc) ∧ w'.cell? ⟨w.heap.size, 1, none⟩ = some (.slice s.Am s.nm s.cm) ∧ w'.cell? ⟨w.heap.size, 2, none⟩ = some (.slice s.Ae s.ne s.ce) ∧ w'.cell? ⟨b2, off2, none⟩ = some (.int .i64 y)) (first | exact ⟨r0, r1, r2, cy3⟩ | exact ⟨q0, q1, q2, cy⟩)
          (first
            | (go_at_call 15; refine (HCH.out _ K2d.out).mono ?_; rintro e w3 ⟨A3, n3, c3, rfl, le3, i3, k3⟩; have I3 := Lib.hid i3; have N3 := Lib.hid i3.1; clear i3; have r0 := Kept.cell k3 q0; have r1 := Kept.cell k3 q1; have r2 := Kept.cell k3 q2; have cy3 := Kept.cell k3 cy; have K3 := Lib.hid (Kept.trans K2d.out k3)))
        clear q0 q1 q2 cy cy3
        have K3d := Lib.hid (Kept.drew K3.out)
        cases Fy with
        | nil =>
          have hn0 : ((n3 : Int) == 0) = true := by have := N3.out; simp at this ⊢; omega
          go_wp2_with fail
          go_quiet (fail)
          go_wp2_with fail
          refine (alive21 _ (HG.out.kept (Kept.drewN K3.out _))).mono ?_
          rintro e w4 ⟨rfl, k4⟩
          go_wp2_with fail
          go_ret
          exact ⟨rfl, Kept.trans (Kept.drewN K3.out _) k4⟩
        | cons s0 tl =>
          have hn3 : 0 < n3 := by have := N3.out; simp at this; omega
          obtain ⟨b3, off3, z, hAe, hz, c0⟩ := int_at I3.out hn3
          obtain rfl : s0 = z := by simpa using hz
          rw [Nat.add_zero] at c0
          have hn0 : ((n3 : Int) == 0) = false := by simp; omega
          clear hz
          subst hAe
          have hfd := fun w' => field_cls s1.Ac s1.nc s1.cc (.slice s1.Am s1.nm s1.cm) (.slice s1.Ae s1.ne s1.ce) w'
          by_cases hk : cls s0 = 0
          · have hb0 : (cls s0 != 0) = false := by simp [hk]
            have HKC := Lib.hid hk
            clear hk
            go_wp2_with fail
            go_region_held3 (fun w' => w'.cell? ⟨w.heap.size, 0, none⟩ = some (.slice s.Ac s.nc s.cc) ∧ w'.cell? ⟨w.heap.size, 1, none⟩ = some (.slice s.Am s.nm s.cm) ∧ w'.cell? ⟨w.heap.size, 2, none⟩ = some (.slice s.Ae s.ne s.ce) ∧ w'.cell? ⟨b3, off3, none⟩ = some (.int .i64 s0)) (first | exact ⟨u0, u1, u2, u3⟩ | exact ⟨t0, t1, t2, t3⟩ | exact ⟨r0, r1, r2, c0⟩)
              (first
                | (go_at_call 23; refine (HCL.out s0 _ K4.out).mono ?_; rintro e w5 ⟨rfl, k5⟩; have u0 := Kept.cell k5 t0; have u1 := Kept.cell k5 t1; have u2 := Kept.cell k5 t2; have u3 := Kept.cell k5 t3; have I5 := Lib.hid (I4.out.kept k5); have K5 := Lib.hid (Kept.trans K4.out k5))
                | (go_at_call 24; refine (HDA.out _ K3d.out).mono ?_; rintro e w4 ⟨rfl, k4⟩; have t0 := Kept.cell k4 r0; have t1 := Kept.cell k4 r1; have t2 := Kept.cell k4 r2; have t3 := Kept.cell k4 c0; have I4 := Lib.hid ((I3.out.kept (Kept.drew (Kept.refl w3))).kept k4); have K4 := Lib.hid (Kept.trans K3d.out k4)))
            clear r0 r1 r2 c0 t0 t1 t2 t3 u3 hfd hn0
            obtain ⟨base, hbase⟩ : ∃ base : Nat, base = w5.heap.size := ⟨_, rfl⟩
            have HBASE := Lib.hid hbase
            have hk6 := Kept.alloc (Kept.refl w5) (Obj.cells #[] 3)
            have HK6 := Lib.hid hk6
            have HO6 := Lib.hid (own_empty (base := base) (box_block w5 (Obj.cells #[] 3)) (by omega))
            have HI6 := Lib.hid (HI.out.kept (Kept.trans K5.out hk6))
            have hxl : xs.length ≤ 40 := by have := HI.out.1; omega
            have hyl : ys.length ≤ 40 := by have := HJ.out.1; omega
            clear hbase hk6
            go_wp2_with (first
              | (at_builtin; refine app_ints rfl _ _ rfl base _ _ rfl hown7 _ _ _ ys rfl HJ7.out (by simp; omega) (by omega) ?_; intro v8 w8 hown8 hgrow8 hat8)
              | (at_builtin; refine app_ints rfl _ _ rfl base _ _ rfl HO6.out _ _ _ xs rfl HI6.out (by simp; omega) (by simp; have := HBASE.out; omega) ?_; intro v7 w7 hown7 hgrow7 hat7; have hs7 := hgrow7.size; have K7 := Lib.hid (HK6.out.grown hgrow7 (by simp) (fun q e => by have := (World.ownsRow.lt HO6.out q e).1; have := HBASE.out; omega)); have HJ7 := Lib.hid (HJ.out.kept (Kept.trans K5.out K7.out)); have hb7 : base ≤ w7.heap.size := by have := K7.out.size; have := HBASE.out; omega))
            have hs8 := hgrow8.size
            have K8 : Hid (Kept w5 w8) := Lib.hid (K7.out.grown hgrow8 (by have := K7.out.size; omega) (fun q e => by have := (World.ownsRow.lt hown7 q e).1; have := HBASE.out; omega))
            have KW := Lib.hid (Kept.trans K5.out K8.out)
            have z0 := Kept.cell K8.out u0
            have z1 := Kept.cell K8.out u1
            have z2 := Kept.cell K8.out u2
            have HO8 := Lib.hid hown8
            clear u0 u1 u2 hown7 hgrow7 hat7 hgrow8 hat8 hown8 hb7
            have kd := Kept.drew (Kept.refl w8)
            have ka := Kept.alloc (Kept.refl w8) (Obj.cells #[] 3)
            have kda := Kept.drew ka
            have KD := Lib.hid (Kept.trans KW.out kd)
            have KDA := Lib.hid (Kept.trans KW.out kda)
            have y0 := Kept.cell ka z0
            have y1 := Kept.cell ka z1
            have y2 := Kept.cell ka z2
            have HKD := Lib.hid kd
            have HKDA := Lib.hid kda
            obtain ⟨bas, hbas⟩ : ∃ bas : Nat, bas = w8.heap.size := ⟨_, rfl⟩
            have HBAS := Lib.hid hbas
            have HOE := Lib.hid (own_kept (own_empty (base := bas) (box_block w8 (Obj.cells #[] 3)) (by simp [hbas])) (Kept.drew (Kept.refl _)))
            have HLA := Lib.hid (show (textOf n cp xs).length ≤ 2560 by have := HTL.out xs; omega)
            have HLB := Lib.hid (show (textOf n cp ys).length ≤ 2560 by have := HTL.out ys; omega)
            have HTA := Lib.hid (fun w' (hk : Kept w w') => HTX.out A l c xs w' hk (by omega) (HI.out.kept hk))
            have HTB := Lib.hid (fun w' (hk : Kept w w') => HTX.out _ m d ys w' hk (by omega) (HJ.out.kept hk))
            generalize hTa : textOf n cp xs = Ta at *
            generalize hTb : textOf n cp ys = Tb at *
            have HTa := Lib.hid hTa
            have HTb := Lib.hid hTb
            clear hTa hTb hbas kd kda ka
            go_region_law (first
              | (refine step_app_ints (by rfl) (.tmp 61) (.tmp 65) (by rfl) bas _ _ (by rfl) HO11.out _ _ _ Tb (by rfl) I11.out (by have := HLA.out; have := HLB.out; simp; omega) hb11 ?_; intro v12 w12 hown12 hgrow12 hat12)
              | (refine step_app_ints (by rfl) (.tmp 56) (.tmp 60) (by rfl) bas _ _ (by rfl) HO9.out _ _ _ Ta (by rfl) I9.out (by have := HLA.out; simp; omega) hb9 ?_; intro v10 w10 hown10 hgrow10 hat10; have HO10 := Lib.hid hown10; have K10 := Lib.hid (K9.out.grown hgrow10 (by have := K9.out.size; omega) (fun q e => by have := (World.ownsRow.lt HO9.out q e).1; have := HBAS.out; omega)); have l0 := Kept.cell K10.out z0; have l1 := Kept.cell K10.out z1; have l2 := Kept.cell K10.out z2)
              | (go_simp; go_at_call 22; refine (HTB.out _ (Kept.trans KW.out K10.out)).mono ?_; rintro e w11 ⟨A11, n11, c11, rfl, le11, i11, k11⟩; have I11 := Lib.hid i11; have K11 := Lib.hid (Kept.trans K10.out k11); have HO11 := Lib.hid (own_kept HO10.out k11); have hb11 : bas ≤ w11.heap.size := by have := K11.out.size; have := HBAS.out; omega)
              | (go_simp; go_at_call 22; refine (HTA.out _ KDA.out).mono ?_; rintro e w9 ⟨A9, n9, c9, rfl, le9, i9, k9⟩; have I9 := Lib.hid i9; have K9 := Lib.hid (Kept.trans HKDA.out k9); have HO9 := Lib.hid (own_kept HOE.out k9); have hb9 : bas ≤ w9.heap.size := by { have := K9.out.size; have := HBAS.out; omega }; have j0 := Kept.cell K9.out z0; have j1 := Kept.cell K9.out z1; have j2 := Kept.cell K9.out z2)
              | (go_simp; go_at_call 22; refine (HTA.out _ KD.out).mono ?_; rintro e w9' ⟨A9, n9, c9, rfl, le9, i9, k9⟩; have K9 := Lib.hid (Kept.alloc (Kept.trans HKD.out k9) (Obj.cells #[] 3)); have I9 := Lib.hid (i9.kept (Kept.alloc (Kept.refl w9') (Obj.cells #[] 3))); have HO9 := Lib.hid (own_empty (base := bas) (box_block w9' (Obj.cells #[] 3)) (by have := (Kept.trans HKD.out k9).size; have := HBAS.out; omega)); have hb9 : bas ≤ (w9'.alloc (Obj.cells #[] 3)).heap.size := by { have := K9.out.size; have := HBAS.out; omega }; have j0 := Kept.cell (Kept.trans HKD.out k9) z0; have j1 := Kept.cell (Kept.trans HKD.out k9) z1; have j2 := Kept.cell (Kept.trans HKD.out k9) z2; have i0 := Kept.cell K9.out z0; have i1 := Kept.cell K9.out z1; have i2 := Kept.cell K9.out z2))
            all_goals
              have hs12 := hgrow12.size
              have K12 : Hid (Kept w8 w12) := Lib.hid (K11.out.grown hgrow12 (by have := K11.out.size; omega) (fun q e => by have := (World.ownsRow.lt HO11.out q e).1; have := HBAS.out; omega))
              have KW12 := Lib.hid (Kept.trans KW.out K12.out)
              have e0 := Kept.cell K12.out z0
              have e1 := Kept.cell K12.out z1
              have e2 := Kept.cell K12.out z2
              obtain ⟨Ab, cb, hv8, hleb, hIb⟩ := OwnI.sl HO8.out
              obtain ⟨Aw, cw, hv12, hlew, hIw⟩ := OwnI.sl hown12
              obtain ⟨nb, hnb⟩ : ∃ nb : Nat, nb = ([] ++ xs ++ ys).length := ⟨_, rfl⟩
              obtain ⟨nw, hnw⟩ : ∃ nw : Nat, nw = ([] ++ Ta ++ Tb).length := ⟨_, rfl⟩
              rw [← hnb] at hv8 hleb hIb
              rw [← hnw] at hv12 hlew hIw
              have hnb' : nb ≤ 10000 := by rw [hnb]; simp; omega
              have hnw' : nw ≤ 10000 := by have := HLA.out; have := HLB.out; rw [hnw]; simp; omega
              have hys : ys = y :: ys.tail := by
                cases ys with
                | nil => simp at hy
                | cons q r => simp at hy; simp [hy]
              have hT : textOf n cp ([] ++ xs ++ ys) = [] ++ Ta ++ Tb := by
                rw [hys, List.nil_append, List.nil_append, HJT.out ys.tail (by simp) (fun s' t' h' => by cases h'; exact HKC.out), ← hys, HTb.out]
              have HTT := Lib.hid (HTX.out Ab nb cb _ w12 KW12.out hnb' (hIb.kept K12.out))
              rw [hT] at HTT
              have HIW := Lib.hid hIw
              have HLW := Lib.hid (show ([] ++ Ta ++ Tb).length ≤ 10000 by rw [← hnw]; exact hnw')
              generalize [] ++ Ta ++ Tb = TT at *
              subst hv8
              subst hv12
              clear hT hys hnb hnw hIb hIw hown12 hgrow12 hat12 HTX HJT
              go_wp2_with fail
              refine HTT.out.mono ?_
              rintro e w13 ⟨A13, n13, c13, rfl, le13, i13, k13⟩
              have HEQ := Lib.hid (r01_same TT A13 Aw n13 nw c13 cw w13 HLW.out i13 (HIW.out.kept k13))
              clear i13
              go_wp2_with fail
              refine HEQ.out.mono ?_
              rintro e w14 ⟨rfl, k14⟩
              have K14 := Lib.hid (Kept.trans KW12.out (Kept.trans k13 k14))
              have HAL := Lib.hid (alive21 w14 (HG.out.kept K14.out))
              go_wp2_with fail
              refine HAL.out.mono ?_
              rintro e w15 ⟨rfl, k15⟩
              go_wp2_with fail
              go_ret
              exact ⟨rfl, Kept.trans K14.out k15⟩
          · have hb0 : (cls s0 != 0) = true := by simp [hk]
            clear hk
            go_wp2_with fail
            go_region_held3 (fun w' => w'.cell? ⟨w.heap.size, 0, none⟩ = some (.slice s.Ac s.nc s.cc) ∧ w'.cell? ⟨w.heap.size, 1, none⟩ = some (.slice s.Am s.nm s.cm) ∧ w'.cell? ⟨w.heap.size, 2, none⟩ = some (.slice s.Ae s.ne s.ce) ∧ w'.cell? ⟨b3, off3, none⟩ = some (.int .i64 s0)) (first | exact ⟨u0, u1, u2, u3⟩ | exact ⟨t0, t1, t2, t3⟩ | exact ⟨r0, r1, r2, c0⟩)
              (first
                | (go_at_call 23; refine (HCL.out s0 _ K4.out).mono ?_; rintro e w5 ⟨rfl, k5⟩; have u0 := Kept.cell k5 t0; have u1 := Kept.cell k5 t1; have u2 := Kept.cell k5 t2; have u3 := Kept.cell k5 t3; have I5 := Lib.hid (I4.out.kept k5); have K5 := Lib.hid (Kept.trans K4.out k5))
                | (go_at_call 24; refine (HDA.out _ K3d.out).mono ?_; rintro e w4 ⟨rfl, k4⟩; have t0 := Kept.cell k4 r0; have t1 := Kept.cell k4 r1; have t2 := Kept.cell k4 r2; have t3 := Kept.cell k4 c0; have I4 := Lib.hid ((I3.out.kept (Kept.drew (Kept.refl w3))).kept k4); have K4 := Lib.hid (Kept.trans K3d.out k4)))
            have HA := Lib.hid (alive21 w5 (HG.out.kept K5.out))
            go_wp2_with fail
            refine HA.out.mono ?_
            rintro e w6 ⟨rfl, k6⟩
            go_wp2_with fail
            go_ret
            exact ⟨rfl, Kept.trans K5.out k6⟩
end Go.Proofs.YtobcaploncgnbaaDoor
