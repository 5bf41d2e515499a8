/- law21.DecomposeChanges returns true. -/
import Derived.Test.YtobcaploncgnbaaDoorKFew
import Derived.Test.YtobcaploncgnbaaDoorKChg
namespace Go.Proofs.YtobcaploncgnbaaDoor
open Go Go.RowKit

theorem changed_has (n : Nrm) (cp : Bool) (x : Int) : hasR (changedR n cp) x = (onceOf (usableN n).decomp x cp).isSome := by
  unfold changedR
  rw [has_make, has_chg (usableN_good n)]
theorem changed_len {n : Nrm} (h : smallB n = true) (cp : Bool) : (changedR n cp).length ≤ 21 := by
  unfold changedR
  have h1 := makeR_length (chgL (usableN n).decomp cp)
  have h2 := chgL_length (usableN n).decomp cp
  have h3 : (usableN n).decomp.length ≤ 20 := by
    unfold usableN
    split
    · exact (smallB_parts h).2.1
    · simp [emptyN]
  omega

set_option maxRecDepth 100000 in
set_option maxHeartbeats 2000000 in
theorem law_changes21 (s : Sls) (n : Nrm) (x : Int) (cp : Bool) (w : World) (hN : NormIn w s n) (_hx : I64 x) (hG : Glob w) : Calls Tryd.prog 5 #[s.val, .int .i64 x, .bool cp] w (RetB w true) := by
  have HG := Lib.hid hG
  have hk1 := Kept.alloc (Kept.refl w) (Obj.cells #[Value.slice s.Ac s.nc s.cc, Value.slice s.Am s.nm s.cm, Value.slice s.Ae s.ne s.ce] 28)
  have HK1 := Lib.hid hk1
  have HS := Lib.hid (r21small s n (w.alloc (Obj.cells #[Value.slice s.Ac s.nc s.cc, Value.slice s.Am s.nm s.cm, Value.slice s.Ae s.ne s.ce] 28)) (hN.kept hk1))
  have hbx := box_cell w #[Value.slice s.Ac s.nc s.cc, Value.slice s.Am s.nm s.cm, Value.slice s.Ae s.ne s.ce] 28
  have x0 : (w.alloc (Obj.cells #[Value.slice s.Ac s.nc s.cc, Value.slice s.Am s.nm s.cm, Value.slice s.Ae s.ne s.ce] 28)).cell? ⟨w.heap.size, 0, none⟩ = some (.slice s.Ac s.nc s.cc) := hbx 0
  have x1 : (w.alloc (Obj.cells #[Value.slice s.Ac s.nc s.cc, Value.slice s.Am s.nm s.cm, Value.slice s.Ae s.ne s.ce] 28)).cell? ⟨w.heap.size, 1, none⟩ = some (.slice s.Am s.nm s.cm) := hbx 1
  have x2 : (w.alloc (Obj.cells #[Value.slice s.Ac s.nc s.cc, Value.slice s.Am s.nm s.cm, Value.slice s.Ae s.ne s.ce] 28)).cell? ⟨w.heap.size, 2, none⟩ = some (.slice s.Ae s.ne s.ce) := hbx 2
  have HX0 := Lib.hid x0
  have HX1 := Lib.hid x1
  have HX2 := Lib.hid x2
  have HN := Lib.hid hN
  clear hN hG hk1 hbx x0 x1 x2
  cases hsm : smallB n
  · rw [hsm] at HS
    clear hsm
    unfold Sls.val at *
    go_enter Tryd.func5, Tryd.ntmps5
    go_wp2_with fail
    refine HS.out.mono ?_
    rintro e w1 ⟨rfl, k1⟩
    have HA := Lib.hid (alive21 w1 (HG.out.kept (Kept.trans HK1.out k1)))
    go_wp2_with fail
    refine HA.out.mono ?_
    rintro e w2 ⟨rfl, k2⟩
    go_wp2_with fail
    go_ret
    exact ⟨rfl, Kept.trans HK1.out (Kept.trans k1 k2)⟩
  · rw [hsm] at HS
    have HNA := Lib.hid (HN.out.small hsm)
    have HT := Lib.hid (norm_tag HN.out hsm)
    have HCG := Lib.hid (fun w' (hk : Kept w w') => changed_any s n cp w' (HNA.out.kept hk) (HG.out.kept hk))
    have HRC := Lib.hid (fun w' (hk : Kept w w') => r21changed s n cp w' (HNA.out.kept hk) HT.out)
    have HON := Lib.hid (fun w' (hk : Kept w w') => onceP_any s n x cp w' (HNA.out.kept hk) (HG.out.kept hk))
    have HHAS := Lib.hid (changed_has n cp x)
    have HVAL := Lib.hid (show changedR n cp = refMake (changedR n cp) from makeR_again _)
    have hlen := changed_len hsm cp
    clear hsm
    generalize changedR n cp = R at *
    generalize onceOf (usableN n).decomp x cp = o at *
    unfold Sls.val at *
    go_enter Tryd.func5, Tryd.ntmps5
    go_wp2_with fail
    refine HS.out.mono ?_
    rintro e w1 ⟨rfl, k1⟩
    have p0 := Kept.cell k1 HX0.out
    have p1 := Kept.cell k1 HX1.out
    have p2 := Kept.cell k1 HX2.out
    have K1 := Lib.hid (Kept.trans HK1.out k1)
    go_wp2_with fail
    refine (HCG.out _ K1.out).mono ?_
    rintro e w2 ⟨A2, n2, c2, rfl, le2, r2, k2⟩
    have R2 := Lib.hid r2
    have hn2 : n2 ≤ 21 := by rw [r2.1]; exact hlen
    have q0 := Kept.cell k2 p0
    have q1 := Kept.cell k2 p1
    have q2 := Kept.cell k2 p2
    have K2 := Lib.hid (Kept.trans K1.out k2)
    clear p0 p1 p2 r2
    have hka := Kept.alloc (Kept.refl w2) (Obj.cells #[Value.slice A2 n2 c2] 26)
    have q0a := Kept.cell hka q0
    have q1a := Kept.cell hka q1
    have q2a := Kept.cell hka q2
    have q3a := box_cell w2 #[Value.slice A2 n2 c2] 26 0
    have K2a := Lib.hid (Kept.trans K2.out hka)
    have HR2a := Lib.hid (Sl.kept R2.out hka)
    clear q0 q1 q2 hka
    go_wp2_with fail
    refine (HON.out _ K2a.out).mono ?_
    generalize w2.alloc (Obj.cells #[Value.slice A2 n2 c2] 26) = W2 at *
    rintro e w3 ⟨A3, n3, c3, rfl, le3, i3, k3⟩
    obtain ⟨bs, hbs⟩ : ∃ bs : Nat, bs = w2.heap.size := ⟨_, rfl⟩
    rw [← hbs] at q3a ⊢
    have p0 := Kept.cell k3 q0a
    have p1 := Kept.cell k3 q1a
    have p2 := Kept.cell k3 q2a
    have p3 : w3.cell? ⟨bs, 0, none⟩ = some (.slice A2 n2 c2) := Kept.cell k3 q3a
    have K3d := Lib.hid (Kept.drew (Kept.trans K2a.out k3))
    have HR3 := Lib.hid (Sl.kept HR2a.out (Kept.drew k3))
    have hlR : (refMake R).length ≤ 100000 := by rw [← HVAL.out]; omega
    have HV := Lib.hid (r02Valid A2 n2 c2 R w3.drew (by omega) HR3.out hlR)
    have hdv : decide (R = refMake R) = true := decide_eq_true HVAL.out
    rw [hdv] at HV
    clear q0a q1a q2a q3a i3 hbs hlR hdv
    go_wp2_with fail
    go_region_held3 (fun w' => w'.cell? ⟨w.heap.size, 0, none⟩ = some (.slice s.Ac s.nc s.cc) ∧ w'.cell? ⟨w.heap.size, 1, none⟩ = some (.slice s.Am s.nm s.cm) ∧ w'.cell? ⟨w.heap.size, 2, none⟩ = some (.slice s.Ae s.ne s.ce) ∧ w'.cell? ⟨bs, 0, none⟩ = some (.slice A2 n2 c2)) (first | exact ⟨v0, v1, v2, v3⟩ | exact ⟨u0, u1, u2, u3⟩ | exact ⟨t0, t1, t2, t3⟩ | exact ⟨r0, r1, r2, r3⟩ | exact ⟨q0, q1, q2, q3⟩ | exact ⟨p0, p1, p2, p3⟩)
      (first
        | (go_at_call 12; refine (alive21 _ (HG.out.kept K7.out)).mono ?_; rintro e w8 ⟨rfl, k8⟩; have v0 := Kept.cell k8 u0; have v1 := Kept.cell k8 u1; have v2 := Kept.cell k8 u2; have v3 := Kept.cell k8 u3)
        | (go_at_call 20; refine (r02Has A2 n2 c2 R x _ (by omega) HR6.out).mono ?_; rintro e w7 ⟨rfl, k7⟩; have u0 := Kept.cell k7 t0; have u1 := Kept.cell k7 t1; have u2 := Kept.cell k7 t2; have u3 := Kept.cell k7 t3; have K7 := Lib.hid (Kept.trans K6.out k7))
        | (go_at_call 18; refine (r02Same A2 A5 n2 n5 c2 c5 R R _ (by omega) (by have := HR5.out.1; omega) HR5b.out HR5.out).mono ?_; rintro e w6 ⟨rfl, k6⟩; have t0 := Kept.cell k6 r0; have t1 := Kept.cell k6 r1; have t2 := Kept.cell k6 r2; have t3 := Kept.cell k6 r3; have K6 := Lib.hid (Kept.trans K5.out k6); have HR6 := Lib.hid (Sl.kept HR5b.out k6))
        | (go_at_call 19; refine (HRC.out _ K4.out).mono ?_; rintro e w5 ⟨A5, n5, c5, rfl, le5, rr5, k5⟩; have HR5 := Lib.hid rr5; clear rr5; have r0 := Kept.cell k5 q0; have r1 := Kept.cell k5 q1; have r2 := Kept.cell k5 q2; have r3 := Kept.cell k5 q3; have K5 := Lib.hid (Kept.trans K4.out k5); have HR5b := Lib.hid (Sl.kept HR4.out k5))
        | (go_at_call 17; refine HV.out.mono ?_; rintro e w4 ⟨rfl, k4⟩; have q0 := Kept.cell k4 p0; have q1 := Kept.cell k4 p1; have q2 := Kept.cell k4 p2; have q3 := Kept.cell k4 p3; have K4 := Lib.hid (Kept.trans K3d.out k4); have HR4 := Lib.hid (Sl.kept HR3.out k4)))
    go_wp2_with fail
    go_ret
    exact ⟨rfl, Kept.trans K7.out k8⟩
end Go.Proofs.YtobcaploncgnbaaDoor
