/- law27.StreamsafeJoins returns true. -/
import Derived.Deep.AppendLies
import Derived.Test.YtljkkfohlkhjnaaGreatDoorKSag
import Derived.Test.YtljkkfohlkhjnaaGreatDoorKRgx
namespace Go.Proofs.YtljkkfohlkhjnaaGreatDoor
open Go Go.RowKit

theorem joins_ss (n : Nrm) (mst : Int) (xs : List Int) (y : Int) (ys : List Int) (h0 : (edgU n y).lead = 0) (h1 : (edgU n y).op = false) : ssText n mst (xs ++ y :: ys) = ssText n mst xs ++ ssText n mst (y :: ys) := by
  by_cases hd : decCheck n = 0
  · have e : edgU n y = edgN n y := by unfold edgU edgN; rw [usable_ok hd]
    rw [e] at h0 h1
    exact ssText_joins hd mst xs ys h0 h1
  · have hs : ssCheck n mst ≠ 0 := fun h => hd (ssCheck_zero h).2.2.1
    rw [ssText_bad hs, ssText_bad hs, ssText_bad hs]
theorem ssText_len2 (n : Nrm) (mst : Int) (xs : List Int) : (ssText n mst xs).length ≤ 2 * xs.length := by
  have := ssText_len n mst xs
  omega

set_option maxRecDepth 100000 in
set_option maxHeartbeats 4000000 in
theorem law_joins27 (s : Sls) (n : Nrm) (A : Option Addr) (l c : Nat) (xs : List Int) (B : Option Addr) (m d : Nat) (ys : List Int) (w : World) (hN : NormIn w s n) (hI : l ≤ c ∧ c ≤ 9223372036854775807 ∧ Ints w A l xs) (hJ : m ≤ d ∧ d ≤ 9223372036854775807 ∧ Ints w B m ys) (hG : Glob w) :
    Calls Tryz.prog 6 #[s.val, .slice A l c, .slice B m d] w (RetB w true) := by
  have HG := Lib.hid hG
  have hk1 := Kept.alloc (Kept.refl w) (Obj.cells #[Value.slice s.Ac s.nc s.cc, Value.slice s.Am s.nm s.cm, Value.slice s.Ae s.ne s.ce] 28)
  have HK1 := Lib.hid hk1
  obtain ⟨hle, hbig, hI⟩ := hI
  obtain ⟨hle', hbig', hJ⟩ := hJ
  have HS := Lib.hid (few27 s n A l c (w.alloc (Obj.cells #[Value.slice s.Ac s.nc s.cc, Value.slice s.Am s.nm s.cm, Value.slice s.Ae s.ne s.ce] 28)) (hN.kept hk1) ⟨hle, hbig⟩)
  have HS' := Lib.hid (fun w' (hk : Kept w w') => few27 s n B m d w' (hN.kept hk) ⟨hle', hbig'⟩)
  have hbx := box_cell w #[Value.slice s.Ac s.nc s.cc, Value.slice s.Am s.nm s.cm, Value.slice s.Ae s.ne s.ce] 28
  have x0 : (w.alloc (Obj.cells #[Value.slice s.Ac s.nc s.cc, Value.slice s.Am s.nm s.cm, Value.slice s.Ae s.ne s.ce] 28)).cell? ⟨w.heap.size, 0, none⟩ = some (.slice s.Ac s.nc s.cc) := hbx 0
  have x1 : (w.alloc (Obj.cells #[Value.slice s.Ac s.nc s.cc, Value.slice s.Am s.nm s.cm, Value.slice s.Ae s.ne s.ce] 28)).cell? ⟨w.heap.size, 1, none⟩ = some (.slice s.Am s.nm s.cm) := hbx 1
  have x2 : (w.alloc (Obj.cells #[Value.slice s.Ac s.nc s.cc, Value.slice s.Am s.nm s.cm, Value.slice s.Ae s.ne s.ce] 28)).cell? ⟨w.heap.size, 2, none⟩ = some (.slice s.Ae s.ne s.ce) := hbx 2
  have HX0 := Lib.hid x0
  have HX1 := Lib.hid x1
  have HX2 := Lib.hid x2
  have HN := Lib.hid hN
  have HI := Lib.hid hI
  have HJ := Lib.hid hJ
  have HB := Lib.hid (And.intro hle hbig)
  have HB' := Lib.hid (And.intro hle' hbig')
  clear hN hG hk1 hbx x0 x1 x2 hI hle hbig hJ hle' hbig'
  cases hsm : (smallB n && decide (l ≤ 40))
  · rw [hsm] at HS
    clear hsm
    unfold Sls.val at *
    go_enter Tryz.func6, Tryz.ntmps6
    go_wp2_with fail
    refine HS.out.mono ?_
    rintro e w1 ⟨rfl, k1⟩
    have HA := Lib.hid (alive27 w1 (HG.out.kept (Kept.trans HK1.out k1)))
    go_wp2_with fail
    refine HA.out.mono ?_
    rintro e w2 ⟨rfl, k2⟩
    go_wp2_with fail
    go_ret
    exact ⟨rfl, Kept.trans HK1.out (Kept.trans k1 k2)⟩
  · rw [hsm] at HS
    obtain ⟨hsb, hl40⟩ := (Bool.and_eq_true _ _).mp hsm
    have hl40 := of_decide_eq_true hl40
    have HNA := Lib.hid (HN.out.small hsb)
    have HTG := Lib.hid (norm_tag HN.out hsb)
    clear hsm hsb
    unfold Sls.val at *
    go_enter Tryz.func6, Tryz.ntmps6
    go_wp2_with fail
    refine HS.out.mono ?_
    rintro e w1 ⟨rfl, k1⟩
    have p0 := Kept.cell k1 HX0.out
    have p1 := Kept.cell k1 HX1.out
    have p2 := Kept.cell k1 HX2.out
    have K1 := Lib.hid (Kept.trans HK1.out k1)
    have HS2 := Lib.hid (HS'.out w1 K1.out)
    cases hsm : (smallB n && decide (m ≤ 40))
    · rw [hsm] at HS2
      clear hsm
      go_wp2_with fail
      refine HS2.out.mono ?_
      rintro e w2 ⟨rfl, k2⟩
      have HA := Lib.hid (alive27 w2 (HG.out.kept (Kept.trans K1.out k2)))
      go_wp2_with fail
      refine HA.out.mono ?_
      rintro e w3 ⟨rfl, k3⟩
      go_wp2_with fail
      go_ret
      exact ⟨rfl, Kept.trans K1.out (Kept.trans k2 k3)⟩
    · rw [hsm] at HS2
      have hm40 := of_decide_eq_true ((Bool.and_eq_true _ _).mp hsm).2
      clear hsm
      go_wp2_with fail
      refine HS2.out.mono ?_
      rintro e w2 ⟨rfl, k2⟩
      have K2 := Lib.hid (Kept.trans K1.out k2)
      have q0 := Kept.cell k2 p0
      have q1 := Kept.cell k2 p1
      have q2 := Kept.cell k2 p2
      clear p0 p1 p2
      rcases Nat.eq_zero_or_pos m with h0 | h0
      · subst h0
        have HA := Lib.hid (alive27 w2 (HG.out.kept K2.out))
        go_wp2_with fail
        refine HA.out.mono ?_
        rintro e w3 ⟨rfl, k3⟩
        go_wp2_with fail
        go_ret
        exact ⟨rfl, Kept.trans K2.out k3⟩
      · have hm0 : ¬ ((m : Int) = 0) := by omega
        obtain ⟨b2, off2, y, hBe, hy, cy⟩ := int_at (HJ.out.kept K2.out) h0
        have HNY := Lib.hid (r27numbers s n y w2.drew (HNA.out.kept (Kept.drew K2.out)) HTG.out)
        have HJT := Lib.hid (fun mst => joins_ss n mst xs y)
        obtain ⟨le, tr, op, hed⟩ : ∃ le tr op, edgU n y = ⟨le, tr, op⟩ := ⟨_, _, _, rfl⟩
        rw [hed] at HNY HJT
        unfold RetEdg at HNY
        simp only at HNY HJT
        unfold Sls.val at *
        rw [Nat.add_zero] at cy
        clear hed
        subst hBe
        go_wp2_with fail
        go_region_held3 (fun w' => w'.cell? ⟨w.heap.size, 0, none⟩ = some (.slice s.Ac s.nc s.cc) ∧ w'.cell? ⟨w.heap.size, 1, none⟩ = some (.slice s.Am s.nm s.cm) ∧ w'.cell? ⟨w.heap.size, 2, none⟩ = some (.slice s.Ae s.ne s.ce) ∧ w'.cell? ⟨b2, off2, none⟩ = some (.int .i64 y)) (first | exact ⟨u0, u1, u2, u3⟩ | exact ⟨q0, q1, q2, cy⟩)
          (first
            | (go_at_call 19; refine HNY.out.mono ?_; rintro e w3 ⟨rfl, k3⟩; have u0 := Kept.cell k3 q0; have u1 := Kept.cell k3 q1; have u2 := Kept.cell k3 q2; have u3 := Kept.cell k3 cy; have K3 := Lib.hid (Kept.trans (Kept.drew K2.out) k3)))
        clear q0 q1 q2 cy u3 hm0
        by_cases hle : le = 0
        · have HLE := Lib.hid hle
          have hlz : ¬ ((0 : Int) < (le : Int)) := by omega
          clear hle
          cases op
          · have HOP := Lib.hid (show false = false from rfl)
            have hwm : IntKind.i64.wrap (1 + (l : Int) % 4) = 1 + (l : Int) % 4 := IntWalk.i64_in _ (by omega)
            obtain ⟨mst, hmst⟩ : ∃ mst : Int, mst = 1 + (l : Int) % 4 := ⟨_, rfl⟩
            have hmI : I64 mst := by unfold I64; omega
            have HTX := Lib.hid (fun A' n' c' zs w' (hk : Kept w w') (hn' : n' ≤ 1000) (hZ : Ints w' A' n' zs) => ssText_any s n mst A' n' c' zs w' (HNA.out.kept hk) (HG.out.kept hk) hmI hn' hZ)
            have HTL := Lib.hid (ssText_len2 n mst)
            have HJT := Lib.hid (HJT.out mst)
            unfold Sls.val at HTX
            obtain ⟨base, hbase⟩ : ∃ base : Nat, base = w3.heap.size := ⟨_, rfl⟩
            have HBASE := Lib.hid hbase
            have hk6 := Kept.alloc (Kept.refl w3) (Obj.cells #[] 3)
            have HK6 := Lib.hid hk6
            have HO6 := Lib.hid (own_nil (base := base) (box_block w3 (Obj.cells #[] 3)) (by omega))
            have HI6 := Lib.hid (HI.out.kept (Kept.trans K3.out hk6))
            have hxl : xs.length ≤ 40 := by have := HI.out.1; omega
            have hyl : ys.length ≤ 40 := by have := HJ.out.1; omega
            clear hbase hk6
            go_wp2_with (first
              | (at_builtin; refine app_ints rfl _ _ rfl base _ _ rfl hown7 _ _ _ ys rfl HJ7.out (by simp; omega) (by omega) ?_; intro v8 w8 hown8 hgrow8 hat8)
              | (at_builtin; refine app_ints rfl _ _ rfl base _ _ rfl HO6.out _ _ _ xs rfl HI6.out (by simp; omega) (by simp; have := HBASE.out; omega) ?_; intro v7 w7 hown7 hgrow7 hat7; have hs7 := hgrow7.size; have K7 := Lib.hid (HK6.out.grown hgrow7 (by simp) (fun q e => by have := (World.ownsRow.lt HO6.out q e).1; have := HBASE.out; omega)); have HJ7 := Lib.hid (HJ.out.kept (Kept.trans K3.out K7.out)); have hb7 : base ≤ w7.heap.size := by have := K7.out.size; have := HBASE.out; omega))
            rw [← hmst]
            clear hmst hwm
            have hs8 := hgrow8.size
            have K8 : Hid (Kept w3 w8) := Lib.hid (K7.out.grown hgrow8 (by have := K7.out.size; omega) (fun q e => by have := (World.ownsRow.lt hown7 q e).1; have := HBASE.out; omega))
            have KW := Lib.hid (Kept.trans K3.out K8.out)
            have z0 := Kept.cell K8.out u0
            have z1 := Kept.cell K8.out u1
            have z2 := Kept.cell K8.out u2
            have HO8 := Lib.hid hown8
            clear u0 u1 u2 hown7 hgrow7 hat7 hgrow8 hat8 hown8 hb7
            have kd := Kept.drew (Kept.refl w8)
            have ka := Kept.alloc (Kept.refl w8) (Obj.cells #[] 3)
            have kda := Kept.drew ka
            have KD := Lib.hid (Kept.trans KW.out kd)
            have KDA := Lib.hid (Kept.trans KW.out kda)
            have y0 := Kept.cell ka z0
            have y1 := Kept.cell ka z1
            have y2 := Kept.cell ka z2
            have HKD := Lib.hid kd
            have HKDA := Lib.hid kda
            obtain ⟨bas, hbas⟩ : ∃ bas : Nat, bas = w8.heap.size := ⟨_, rfl⟩
            have HBAS := Lib.hid hbas
            have HOE := Lib.hid (own_kept (own_nil (base := bas) (box_block w8 (Obj.cells #[] 3)) (by simp [hbas])) (Kept.drew (Kept.refl _)))
            have HLA := Lib.hid (show (ssText n mst xs).length ≤ 200 by have := HTL.out xs; omega)
            have HLB := Lib.hid (show (ssText n mst ys).length ≤ 200 by have := HTL.out ys; omega)
            have HTA := Lib.hid (fun w' (hk : Kept w w') => HTX.out A l c xs w' hk (by omega) (HI.out.kept hk))
            have HTB := Lib.hid (fun w' (hk : Kept w w') => HTX.out _ m d ys w' hk (by omega) (HJ.out.kept hk))
            generalize hTa : ssText n mst xs = Ta at *
            generalize hTb : ssText n mst ys = Tb at *
            have HTa := Lib.hid hTa
            have HTb := Lib.hid hTb
            clear hTa hTb hbas kd kda ka
            go_region_law (first
              | (refine step_app_ints (by rfl) (.tmp 58) (.tmp 62) (by rfl) bas _ _ (by rfl) HO11.out _ _ _ Tb (by rfl) I11.out (by have := HLA.out; have := HLB.out; simp; omega) hb11 ?_; intro v12 w12 hown12 hgrow12 hat12)
              | (refine step_app_ints (by rfl) (.tmp 53) (.tmp 57) (by rfl) bas _ _ (by rfl) HO9.out _ _ _ Ta (by rfl) I9.out (by have := HLA.out; simp; omega) hb9 ?_; intro v10 w10 hown10 hgrow10 hat10; have HO10 := Lib.hid hown10; have K10 := Lib.hid (K9.out.grown hgrow10 (by have := K9.out.size; omega) (fun q e => by have := (World.ownsRow.lt HO9.out q e).1; have := HBAS.out; omega)); have l0 := Kept.cell K10.out z0; have l1 := Kept.cell K10.out z1; have l2 := Kept.cell K10.out z2)
              | (go_simp; go_at_call 13; refine (HTB.out _ (Kept.trans KW.out K10.out)).mono ?_; rintro e w11 ⟨A11, n11, c11, rfl, le11, i11, k11⟩; have I11 := Lib.hid i11; have K11 := Lib.hid (Kept.trans K10.out k11); have HO11 := Lib.hid (own_kept HO10.out k11); have hb11 : bas ≤ w11.heap.size := by have := K11.out.size; have := HBAS.out; omega)
              | (go_simp; go_at_call 13; refine (HTA.out _ KDA.out).mono ?_; rintro e w9 ⟨A9, n9, c9, rfl, le9, i9, k9⟩; have I9 := Lib.hid i9; have K9 := Lib.hid (Kept.trans HKDA.out k9); have HO9 := Lib.hid (own_kept HOE.out k9); have hb9 : bas ≤ w9.heap.size := by { have := K9.out.size; have := HBAS.out; omega }; have j0 := Kept.cell K9.out z0; have j1 := Kept.cell K9.out z1; have j2 := Kept.cell K9.out z2)
              | (go_simp; go_at_call 13; refine (HTA.out _ KD.out).mono ?_; rintro e w9' ⟨A9, n9, c9, rfl, le9, i9, k9⟩; have K9 := Lib.hid (Kept.alloc (Kept.trans HKD.out k9) (Obj.cells #[] 3)); have I9 := Lib.hid (i9.kept (Kept.alloc (Kept.refl w9') (Obj.cells #[] 3))); have HO9 := Lib.hid (own_nil (base := bas) (box_block w9' (Obj.cells #[] 3)) (by have := (Kept.trans HKD.out k9).size; have := HBAS.out; omega)); have hb9 : bas ≤ (w9'.alloc (Obj.cells #[] 3)).heap.size := by { have := K9.out.size; have := HBAS.out; omega }; have j0 := Kept.cell (Kept.trans HKD.out k9) z0; have j1 := Kept.cell (Kept.trans HKD.out k9) z1; have j2 := Kept.cell (Kept.trans HKD.out k9) z2; have i0 := Kept.cell K9.out z0; have i1 := Kept.cell K9.out z1; have i2 := Kept.cell K9.out z2))
            all_goals
              have hs12 := hgrow12.size
              have K12 : Hid (Kept w8 w12) := Lib.hid (K11.out.grown hgrow12 (by have := K11.out.size; omega) (fun q e => by have := (World.ownsRow.lt HO11.out q e).1; have := HBAS.out; omega))
              have KW12 := Lib.hid (Kept.trans KW.out K12.out)
              have e0 := Kept.cell K12.out z0
              have e1 := Kept.cell K12.out z1
              have e2 := Kept.cell K12.out z2
              obtain ⟨Ab, cb, hv8, hleb, hIb⟩ := OwnI.sl HO8.out
              obtain ⟨Aw, cw, hv12, hlew, hIw⟩ := OwnI.sl hown12
              obtain ⟨nb, hnb⟩ : ∃ nb : Nat, nb = ([] ++ xs ++ ys).length := ⟨_, rfl⟩
              obtain ⟨nw, hnw⟩ : ∃ nw : Nat, nw = ([] ++ Ta ++ Tb).length := ⟨_, rfl⟩
              rw [← hnb] at hv8 hleb hIb
              rw [← hnw] at hv12 hlew hIw
              have hnb' : nb ≤ 1000 := by rw [hnb]; simp; omega
              have hnw' : nw ≤ 10000 := by have := HLA.out; have := HLB.out; rw [hnw]; simp; omega
              have hys : ys = y :: ys.tail := by
                cases ys with
                | nil => simp at hy
                | cons q r => simp at hy; simp [hy]
              have hT : ssText n mst ([] ++ xs ++ ys) = [] ++ Ta ++ Tb := by
                rw [hys, List.nil_append, List.nil_append, HJT.out ys.tail HLE.out HOP.out, ← hys, HTb.out]
              have HTT := Lib.hid (HTX.out Ab nb cb _ w12 KW12.out hnb' (hIb.kept K12.out))
              rw [hT] at HTT
              have HIW := Lib.hid hIw
              have HLW := Lib.hid (show ([] ++ Ta ++ Tb).length ≤ 10000 by rw [← hnw]; exact hnw')
              generalize [] ++ Ta ++ Tb = TT at *
              subst hv8
              subst hv12
              clear hT hys hnb hnw hIb hIw hown12 hgrow12 hat12 HTX HJT
              go_wp2_with fail
              refine HTT.out.mono ?_
              rintro e w13 ⟨A13, n13, c13, rfl, le13, i13, k13⟩
              have HEQ := Lib.hid (r01_same TT A13 Aw n13 nw c13 cw w13 HLW.out i13 (HIW.out.kept k13))
              clear i13
              go_wp2_with fail
              refine HEQ.out.mono ?_
              rintro e w14 ⟨rfl, k14⟩
              have K14 := Lib.hid (Kept.trans KW12.out (Kept.trans k13 k14))
              have HAL := Lib.hid (alive27 w14 (HG.out.kept K14.out))
              go_wp2_with fail
              refine HAL.out.mono ?_
              rintro e w15 ⟨rfl, k15⟩
              go_wp2_with fail
              go_ret
              exact ⟨rfl, Kept.trans K14.out k15⟩
          · have HA := Lib.hid (alive27 w3 (HG.out.kept K3.out))
            go_wp2_with fail
            refine HA.out.mono ?_
            rintro e w6 ⟨rfl, k6⟩
            go_wp2_with fail
            go_ret
            exact ⟨rfl, Kept.trans K3.out k6⟩
        · have hlz : (0 : Int) < (le : Int) := by omega
          have HA := Lib.hid (alive27 w3 (HG.out.kept K3.out))
          go_wp2_with fail
          refine HA.out.mono ?_
          rintro e w6 ⟨rfl, k6⟩
          go_wp2_with fail
          go_ret
          exact ⟨rfl, Kept.trans K3.out k6⟩
end Go.Proofs.YtljkkfohlkhjnaaGreatDoor
