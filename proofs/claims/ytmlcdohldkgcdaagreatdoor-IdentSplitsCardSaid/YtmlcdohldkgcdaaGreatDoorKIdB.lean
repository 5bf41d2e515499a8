/- The reference on identifiers: wrong, Valid. -/
import Derived.Deep.RegionHeld3
import Derived.Test.YtmlcdohldkgcdaaGreatDoorKSq
import Derived.Test.YtmlcdohldkgcdaaGreatDoorKIdA
namespace Go.Proofs.YtmlcdohldkgcdaaGreatDoor
open Go Go.RowKit
theorem r39_pred {k : Nat} (h : 1 ≤ k) : ∃ kp, k = kp + 1 := ⟨k - 1, by omega⟩
theorem r39_lt1 {k n : Nat} (h : k + 1 < n) : (k : Int) < (n : Int) := by omega
theorem r39_lt2 {k n : Nat} (h : k + 1 < n) : (k : Int) + 1 < (n : Int) := by omega
set_option maxRecDepth 100000 in
set_option maxHeartbeats 8000000 in
theorem r39wrong (i : Ids) (r : IdR) (A : Option Addr) (nt ct : Nat) (text : List Int) (w : World) (hI : IdIn w i r) (hs : smallI r = true) (hnt : nt ≤ 1000) (hT : Ints w A nt text) : Calls Tryz.prog 50 #[i.val, .slice A nt ct] w (fun e w' => ∃ v : Int, e = .returned (.int .i64 v) ∧ decide (v < 0) = idValid r.b r.p r.c text ∧ Kept w w') := by
  have hk0_ := Kept.alloc (Kept.refl w) (Obj.cells #[Value.slice i.As i.ns i.cs, Value.slice i.Ac i.nc i.cc, Value.slice i.Am i.nm i.cm] 54)
  have HK1 := Lib.hid hk0_
  have hb0_ := (box_block w (Obj.cells #[Value.slice i.As i.ns i.cs, Value.slice i.Ac i.nc i.cc, Value.slice i.Am i.nm i.cm] 54))
  have x0_ := cell_of_block (i := 0) hb0_ rfl
  have x1_ := cell_of_block (i := 1) hb0_ rfl
  have x2_ := cell_of_block (i := 2) hb0_ rfl
  simp only [s4_, s5_, s6_] at x0_ x1_ x2_
  have HX0 := Lib.hid x0_
  have HX1 := Lib.hid x1_
  have HX2 := Lib.hid x2_
  have HB0 := Lib.hid hb0_
  clear x0_ x1_ x2_ hb0_
  have HHAS := Lib.hid (fun x w' (hk : Kept w w') => r02Has i.As i.ns i.cs r.st x w' (by have := (hI.len hs).1; omega) (hI.st.kept hk))
  have HFOL := Lib.hid (fun a x w' (hk : Kept w w') => r39follows i r a x w' (hI.kept hk) hs)
  have HMED := Lib.hid (fun x w' (hk : Kept w w') => r39medial i r x w' (hI.kept hk) hs)
  have HT := Lib.hid hT
  have HTN := Lib.hid hT.1
  clear hI hs hT hk0_
  unfold Ids.val at *
  rcases Nat.eq_zero_or_pos nt with h0 | h0
  · have HV := Lib.hid (show idValid r.b r.p r.c text = false by rw [List.length_eq_zero_iff.1 (HTN.out.symm.trans h0)]; rfl)
    go_enter Tryz.func50, Tryz.ntmps50
    have q0 := HX0.out
    have q1 := HX1.out
    have q2 := HX2.out
    go_wp2_with fail
    refine wp_region_held_drew (S := (fun w' => w'.cell? ⟨w.heap.size, 0, none⟩ = some (.slice i.As i.ns i.cs) ∧ w'.cell? ⟨w.heap.size, 1, none⟩ = some (.slice i.Ac i.nc i.cc) ∧ w'.cell? ⟨w.heap.size, 2, none⟩ = some (.slice i.Am i.nm i.cm))) (by kernel_rfl) ⟨q0, q1, q2⟩ (fun hHeld => ?_)
    refine tk_ 0 ?_ rfl ?_; refine tk_ 1 ?_ rfl ?_; refine tk_ 2 ?_ rfl ?_; refine tk_ 3 ?_ rfl ?_; refine sk_ 4 rfl ?_; refine sk_ 5 rfl ?_; refine sk_ 6 rfl ?_; refine sk_ 7 rfl ?_; refine sk_ 8 rfl ?_; refine sk_ 9 rfl ?_; refine sk_ 10 rfl ?_; refine tk_ 11 ?_ rfl ?_
    refine wpAnyH_done (by kernel_rfl) ?_ _
    clear q0 q1 q2
    go_wp2_with fail
    go_ret
    exact ⟨0, rfl, by rw [HV.out]; rfl, Kept.drew HK1.out⟩
  · obtain ⟨bt, ot, x0, hA, hx0, c0⟩ := int_at HT.out h0
    have HX00 := Lib.hid hx0
    have HC0 := Lib.hid c0
    have hnz : ¬ (nt : Int) = 0 := by omega
    have hnz2 : ((nt : Int) == 0) = false := by simp; omega
    have hnz3 : decide ((nt : Int) = 0) = false := decide_eq_false hnz
    cases hb : hasR r.st x0
    · have HV := Lib.hid (valid_first (b := r.b) (p := r.p) (c := r.c) hx0 hb)
      have HHX := Lib.hid (HHAS.out x0)
      rw [hb] at HHX
      have HB := Lib.hid hb
      clear hb hx0
      go_enter Tryz.func50, Tryz.ntmps50
      have q0 := HX0.out
      have q1 := HX1.out
      have q2 := HX2.out
      have q3 := Kept.cell HK1.out c0
      simp only [Nat.add_zero] at q3
      rw [hA]
      have HA := Lib.hid hA
      clear hA c0
      go_wp2_with fail
      refine wp_region_held_drew (S := (fun w' => w'.cell? ⟨w.heap.size, 0, none⟩ = some (.slice i.As i.ns i.cs) ∧ w'.cell? ⟨w.heap.size, 1, none⟩ = some (.slice i.Ac i.nc i.cc) ∧ w'.cell? ⟨w.heap.size, 2, none⟩ = some (.slice i.Am i.nm i.cm) ∧ w'.cell? ⟨bt, ot, none⟩ = some (.int .i64 x0))) (by kernel_rfl) ⟨q0, q1, q2, q3⟩ (fun hHeld => ?_)
      refine tk_ 0 ?_ rfl ?_; refine tk_ 1 ?_ rfl ?_; refine tk_ 2 ?_ rfl ?_; refine tk_ 3 ?_ rfl ?_; refine tk_ 4 ?_ rfl ?_; refine tk_ 5 ?_ rfl ?_; refine tk_ 6 ?_ rfl ?_; refine tk_ 7 ?_ rfl ?_; refine tk_ 8 ?_ rfl ?_
      refine rd_ 9 rfl (fun K hK => ?_)
      go_simp
      (refine (HHX.out _ (Kept.trans HK1.out (Kept.drew (Kept.refl _)))).mono ?_; rintro e w1 ⟨rfl, k1⟩; have K1 := Lib.hid (Kept.trans (Kept.drew (Kept.refl (w.alloc (Obj.cells #[Value.slice i.As i.ns i.cs, Value.slice i.Ac i.nc i.cc, Value.slice i.Am i.nm i.cm] 54)))) k1); clear k1)
      go_wp2_with fail
      refine hK.out _ _ ⟨Kept.cell K1.out q0, Kept.cell K1.out q1, Kept.cell K1.out q2, Kept.cell K1.out q3⟩ (fun hHeld => ?_)
      clear hK K
      (try simp only [Act.put, s1_, s2_, s3_, s4_, s5_, s6_])
      refine tk_ 10 ?_ rfl ?_; refine tk_ 11 ?_ rfl ?_
      refine wpAnyH_done (by kernel_rfl) ?_ _
      clear q0 q1 q2 q3 hnz hnz2 hnz3
      go_wp2_with fail
      go_ret
      exact ⟨0, rfl, by rw [HV.out]; rfl, Kept.trans HK1.out K1.out⟩
    · skip
      have HHX := Lib.hid (HHAS.out x0)
      rw [hb] at HHX
      have HB := Lib.hid hb
      clear hb hx0
      go_enter Tryz.func50, Tryz.ntmps50
      have q0 := HX0.out
      have q1 := HX1.out
      have q2 := HX2.out
      have q3 := Kept.cell HK1.out c0
      simp only [Nat.add_zero] at q3
      rw [hA]
      have HA := Lib.hid hA
      clear hA c0
      go_wp2_with fail
      refine wp_region_held_drew (S := (fun w' => w'.cell? ⟨w.heap.size, 0, none⟩ = some (.slice i.As i.ns i.cs) ∧ w'.cell? ⟨w.heap.size, 1, none⟩ = some (.slice i.Ac i.nc i.cc) ∧ w'.cell? ⟨w.heap.size, 2, none⟩ = some (.slice i.Am i.nm i.cm) ∧ w'.cell? ⟨bt, ot, none⟩ = some (.int .i64 x0))) (by kernel_rfl) ⟨q0, q1, q2, q3⟩ (fun hHeld => ?_)
      refine tk_ 0 ?_ rfl ?_; refine tk_ 1 ?_ rfl ?_; refine tk_ 2 ?_ rfl ?_; refine tk_ 3 ?_ rfl ?_; refine tk_ 4 ?_ rfl ?_; refine tk_ 5 ?_ rfl ?_; refine tk_ 6 ?_ rfl ?_; refine tk_ 7 ?_ rfl ?_; refine tk_ 8 ?_ rfl ?_
      refine rd_ 9 rfl (fun K hK => ?_)
      go_simp
      (refine (HHX.out _ (Kept.trans HK1.out (Kept.drew (Kept.refl _)))).mono ?_; rintro e w1 ⟨rfl, k1⟩; have K1 := Lib.hid (Kept.trans (Kept.drew (Kept.refl (w.alloc (Obj.cells #[Value.slice i.As i.ns i.cs, Value.slice i.Ac i.nc i.cc, Value.slice i.Am i.nm i.cm] 54)))) k1); clear k1)
      go_wp2_with fail
      refine hK.out _ _ ⟨Kept.cell K1.out q0, Kept.cell K1.out q1, Kept.cell K1.out q2, Kept.cell K1.out q3⟩ (fun hHeld => ?_)
      clear hK K
      (try simp only [Act.put, s1_, s2_, s3_, s4_, s5_, s6_])
      refine tk_ 10 ?_ rfl ?_; refine tk_ 11 ?_ rfl ?_
      refine wpAnyH_done (by kernel_rfl) ?_ _
      clear q0 q1 q2 q3 hnz hnz2 hnz3
      go_wp2_with fail
      go_loopw [5] (fun v wr => ∃ k : Nat, 1 ≤ k ∧ k ≤ nt ∧ v = .int .i64 k ∧ (∀ (j : Nat) (u v : Int), j + 1 < k → text[j]? = some u → text[j + 1]? = some v → folB r.p r.c u v = true) ∧ Kept w1 wr) (fun v _ => nt - (intOf v).toNat)
      case atStart => exact ⟨1, Nat.le_refl _, h0, rfl, fun j u v hj => by omega, Kept.refl _⟩
      case round =>
        obtain ⟨k, hk1, hk, rfl, hall, hkw⟩ := hrel
        have HALL := Lib.hid hall
        have KR := Lib.hid (Kept.trans K1.out hkw)
        have KW := Lib.hid (Kept.trans HK1.out (Kept.trans K1.out hkw))
        have KW1 := Lib.hid hkw
        clear hall hkw
        by_cases hlt : k < nt
        · obtain ⟨kp, rfl⟩ := r39_pred hk1
          obtain ⟨b1, o1, u, hA1, hu, cu⟩ := int_at HT.out (i := kp) (Nat.lt_of_succ_lt hlt)
          obtain ⟨b2, o2, y, hA2, hy, cy⟩ := int_at HT.out (i := kp + 1) hlt
          rw [HA.out] at hA1 hA2
          injection hA1 with hA1
          injection hA1 with e1 e2
          subst e1 e2
          injection hA2 with hA2
          injection hA2 with e1 e2
          subst e1 e2
          have HU := Lib.hid hu
          have HY := Lib.hid hy
          have q0 := Kept.cell KR.out HX0.out
          have q1 := Kept.cell KR.out HX1.out
          have q2 := Kept.cell KR.out HX2.out
          have q3 := Kept.cell KW.out cu
          have q4 := Kept.cell KW.out cy
          have hl1 := r39_lt1 hlt
          have hl2 := r39_lt2 hlt
          have hs1 : IntKind.i64.wrap (((kp : Int) + 1) - 1) = (kp : Int) := by rw [show (kp : Int) + 1 - 1 = kp by omega]; exact IntWalk.i64_in _ (by omega)
          have hs2 : wrap64 (((kp : Int) + 1) - 1) = (kp : Int) := by rw [show (kp : Int) + 1 - 1 = kp by omega]; exact IntWalk.wrap64_in _ (by omega)
          have hs3 : (kp : Int) + 1 - 1 = (kp : Int) := by omega
          have hs4 : IntKind.i64.wrap (kp : Int) = (kp : Int) := IntWalk.i64_in _ (by omega)
          have hs5 : wrap64 (kp : Int) = (kp : Int) := IntWalk.wrap64_in _ (by omega)
          have hs6 : (0 : Int) ≤ (kp : Int) + 1 := by omega
          clear hu hy cu cy
          cases hf : folB r.p r.c u y
          · have HV := Lib.hid (valid_stop (b := r.b) HU.out HY.out hf)
            have HFX := Lib.hid (HFOL.out u y)
            rw [hf] at HFX
            have HF := Lib.hid hf
            clear hf
            go_wp2_with fail
            refine wp_region_held_drew (S := (fun w' => w'.cell? ⟨w.heap.size, 0, none⟩ = some (.slice i.As i.ns i.cs) ∧ w'.cell? ⟨w.heap.size, 1, none⟩ = some (.slice i.Ac i.nc i.cc) ∧ w'.cell? ⟨w.heap.size, 2, none⟩ = some (.slice i.Am i.nm i.cm) ∧ w'.cell? ⟨bt, ot + kp, none⟩ = some (.int .i64 u) ∧ w'.cell? ⟨bt, ot + (kp + 1), none⟩ = some (.int .i64 y))) (by kernel_rfl) ⟨q0, q1, q2, q3, q4⟩ (fun hHeld => ?_)
            refine tk_ 0 ?_ rfl ?_; refine tk_ 1 ?_ rfl ?_; refine tk_ 2 ?_ rfl ?_; refine tk_ 3 ?_ rfl ?_; refine tk_ 4 ?_ rfl ?_; refine tk_ 5 ?_ rfl ?_; refine tk_ 6 ?_ rfl ?_; refine tk_ 7 ?_ rfl ?_; refine tk_ 8 ?_ rfl ?_; refine tk_ 9 ?_ rfl ?_
            refine rd_ 10 rfl (fun K hK => ?_)
            go_simp
            (refine (HFX.out _ (Kept.trans KW.out (Kept.drew (Kept.refl _)))).mono ?_; rintro e w2 ⟨rfl, k2⟩; have K2 := Lib.hid (Kept.trans (Kept.drew (Kept.refl wr)) k2); clear k2)
            go_wp2_with fail
            refine hK.out _ _ ⟨Kept.cell K2.out q0, Kept.cell K2.out q1, Kept.cell K2.out q2, Kept.cell K2.out q3, Kept.cell K2.out q4⟩ (fun hHeld => ?_)
            clear hK K
            (try simp only [Act.put, s1_, s2_, s3_, s4_, s5_, s6_])
            refine tk_ 11 ?_ rfl ?_
            refine wpAnyH_done (by kernel_rfl) ?_ _
            clear q0 q1 q2 q3 q4 hs1 hs2 hs3 hs4 hs5 hs6
            go_wp2_with fail
            go_ret
            exact ⟨_, rfl, by rw [HV.out]; exact decide_eq_false (by omega), Kept.trans KW.out K2.out⟩
          · skip
            have HFX := Lib.hid (HFOL.out u y)
            rw [hf] at HFX
            have HF := Lib.hid hf
            clear hf
            go_wp2_with fail
            refine wp_region_held_drew (S := (fun w' => w'.cell? ⟨w.heap.size, 0, none⟩ = some (.slice i.As i.ns i.cs) ∧ w'.cell? ⟨w.heap.size, 1, none⟩ = some (.slice i.Ac i.nc i.cc) ∧ w'.cell? ⟨w.heap.size, 2, none⟩ = some (.slice i.Am i.nm i.cm) ∧ w'.cell? ⟨bt, ot + kp, none⟩ = some (.int .i64 u) ∧ w'.cell? ⟨bt, ot + (kp + 1), none⟩ = some (.int .i64 y))) (by kernel_rfl) ⟨q0, q1, q2, q3, q4⟩ (fun hHeld => ?_)
            refine tk_ 0 ?_ rfl ?_; refine tk_ 1 ?_ rfl ?_; refine tk_ 2 ?_ rfl ?_; refine tk_ 3 ?_ rfl ?_; refine tk_ 4 ?_ rfl ?_; refine tk_ 5 ?_ rfl ?_; refine tk_ 6 ?_ rfl ?_; refine tk_ 7 ?_ rfl ?_; refine tk_ 8 ?_ rfl ?_; refine tk_ 9 ?_ rfl ?_
            refine rd_ 10 rfl (fun K hK => ?_)
            go_simp
            (refine (HFX.out _ (Kept.trans KW.out (Kept.drew (Kept.refl _)))).mono ?_; rintro e w2 ⟨rfl, k2⟩; have K2 := Lib.hid (Kept.trans (Kept.drew (Kept.refl wr)) k2); clear k2)
            go_wp2_with fail
            refine hK.out _ _ ⟨Kept.cell K2.out q0, Kept.cell K2.out q1, Kept.cell K2.out q2, Kept.cell K2.out q3, Kept.cell K2.out q4⟩ (fun hHeld => ?_)
            clear hK K
            (try simp only [Act.put, s1_, s2_, s3_, s4_, s5_, s6_])
            refine tk_ 11 ?_ rfl ?_
            refine wpAnyH_done (by kernel_rfl) ?_ _
            clear q0 q1 q2 q3 q4 hs1 hs2 hs3 hs4 hs5 hs6
            go_wp2_with fail
            go_roundw
            case rel => exact ⟨kp + 1 + 1, by omega, by omega, by go_num, fun j u' v' hj h1 h2 => by
              by_cases hjk : j + 1 < kp + 1
              · exact HALL.out j u' v' hjk h1 h2
              · have hj2 : j = kp := by omega
                subst hj2
                rw [HU.out] at h1
                rw [HY.out] at h2
                injection h1 with h1
                injection h2 with h2
                rw [← h1, ← h2]; exact HF.out, Kept.trans KW1.out K2.out⟩
            case measure => simp [intOf]; omega
        · have hkn : k = nt := by omega
          subst hkn
          obtain ⟨kp, rfl⟩ := r39_pred hk1
          obtain ⟨b1, o1, z, hA1, hz, cz⟩ := int_at HT.out (i := kp) (by omega)
          rw [HA.out] at hA1
          injection hA1 with hA1
          injection hA1 with e1 e2
          subst e1 e2
          have q0 := Kept.cell KR.out HX0.out
          have q1 := Kept.cell KR.out HX1.out
          have q2 := Kept.cell KR.out HX2.out
          have q3 := Kept.cell KW.out cz
          have hl1 : (kp : Int) < (kp : Int) + 1 := by omega
          have hs1 : IntKind.i64.wrap (((kp : Int) + 1) - 1) = (kp : Int) := by rw [show (kp : Int) + 1 - 1 = kp by omega]; exact IntWalk.i64_in _ (by omega)
          have hs2 : wrap64 (((kp : Int) + 1) - 1) = (kp : Int) := by rw [show (kp : Int) + 1 - 1 = kp by omega]; exact IntWalk.wrap64_in _ (by omega)
          have hs3 : (kp : Int) + 1 - 1 = (kp : Int) := by omega
          have hs4 : IntKind.i64.wrap (kp : Int) = (kp : Int) := IntWalk.i64_in _ (by omega)
          have hs5 : wrap64 (kp : Int) = (kp : Int) := IntWalk.wrap64_in _ (by omega)
          have HV := Lib.hid (valid_end (b := r.b) (p := r.p) (c := r.c) HX00.out HB.out (fun j u v h1 h2 => HALL.out j u v (by have := lt_of_getElem?_some h2; have := HTN.out; omega) h1 h2) (z := z) (by rw [List.getLast?_eq_getElem?, ← HTN.out]; exact hz))
          clear hz cz
          cases hm : medB r.p r.c z
          · skip
            have HMX := Lib.hid (HMED.out z)
            rw [hm] at HMX HV
            clear hm
            go_wp2_with fail
            refine wp_region_held_drew (S := (fun w' => w'.cell? ⟨w.heap.size, 0, none⟩ = some (.slice i.As i.ns i.cs) ∧ w'.cell? ⟨w.heap.size, 1, none⟩ = some (.slice i.Ac i.nc i.cc) ∧ w'.cell? ⟨w.heap.size, 2, none⟩ = some (.slice i.Am i.nm i.cm) ∧ w'.cell? ⟨bt, ot + kp, none⟩ = some (.int .i64 z))) (by kernel_rfl) ⟨q0, q1, q2, q3⟩ (fun hHeld => ?_)
            refine tk_ 0 ?_ rfl ?_; refine tk_ 1 ?_ rfl ?_; refine tk_ 2 ?_ rfl ?_; refine tk_ 3 ?_ rfl ?_; refine tk_ 4 ?_ rfl ?_; refine tk_ 5 ?_ rfl ?_; refine tk_ 6 ?_ rfl ?_
            refine rd_ 7 rfl (fun K hK => ?_)
            go_simp
            (refine (HMX.out _ (Kept.trans KW.out (Kept.drew (Kept.refl _)))).mono ?_; rintro e w2 ⟨rfl, k2⟩; have K2 := Lib.hid (Kept.trans (Kept.drew (Kept.refl wr)) k2); clear k2)
            go_wp2_with fail
            refine hK.out _ _ ⟨Kept.cell K2.out q0, Kept.cell K2.out q1, Kept.cell K2.out q2, Kept.cell K2.out q3⟩ (fun hHeld => ?_)
            clear hK K
            (try simp only [Act.put, s1_, s2_, s3_, s4_, s5_, s6_])
            refine wpAnyH_done (by kernel_rfl) ?_ _
            clear q0 q1 q2 q3 hs1 hs2 hs3 hs4 hs5
            go_wp2_with fail
            go_ret
            exact ⟨_, rfl, by rw [HV.out]; rfl, Kept.trans KW.out K2.out⟩
          · skip
            have HMX := Lib.hid (HMED.out z)
            rw [hm] at HMX HV
            clear hm
            go_wp2_with fail
            refine wp_region_held_drew (S := (fun w' => w'.cell? ⟨w.heap.size, 0, none⟩ = some (.slice i.As i.ns i.cs) ∧ w'.cell? ⟨w.heap.size, 1, none⟩ = some (.slice i.Ac i.nc i.cc) ∧ w'.cell? ⟨w.heap.size, 2, none⟩ = some (.slice i.Am i.nm i.cm) ∧ w'.cell? ⟨bt, ot + kp, none⟩ = some (.int .i64 z))) (by kernel_rfl) ⟨q0, q1, q2, q3⟩ (fun hHeld => ?_)
            refine tk_ 0 ?_ rfl ?_; refine tk_ 1 ?_ rfl ?_; refine tk_ 2 ?_ rfl ?_; refine tk_ 3 ?_ rfl ?_; refine tk_ 4 ?_ rfl ?_; refine tk_ 5 ?_ rfl ?_; refine tk_ 6 ?_ rfl ?_
            refine rd_ 7 rfl (fun K hK => ?_)
            go_simp
            (refine (HMX.out _ (Kept.trans KW.out (Kept.drew (Kept.refl _)))).mono ?_; rintro e w2 ⟨rfl, k2⟩; have K2 := Lib.hid (Kept.trans (Kept.drew (Kept.refl wr)) k2); clear k2)
            go_wp2_with fail
            refine hK.out _ _ ⟨Kept.cell K2.out q0, Kept.cell K2.out q1, Kept.cell K2.out q2, Kept.cell K2.out q3⟩ (fun hHeld => ?_)
            clear hK K
            (try simp only [Act.put, s1_, s2_, s3_, s4_, s5_, s6_])
            refine wpAnyH_done (by kernel_rfl) ?_ _
            clear q0 q1 q2 q3 hs1 hs2 hs3 hs4 hs5
            go_wp2_with fail
            go_ret
            exact ⟨_, rfl, by rw [HV.out]; exact decide_eq_false (by omega), Kept.trans KW.out K2.out⟩
set_option maxRecDepth 100000 in
set_option maxHeartbeats 2000000 in
theorem r39Valid (i : Ids) (r : IdR) (A : Option Addr) (nt ct : Nat) (text : List Int) (w : World) (hI : IdIn w i r) (hs : smallI r = true) (hnt : nt ≤ 1000) (hT : Ints w A nt text) : Calls Tryz.prog 23 #[i.val, .slice A nt ct] w (RetB w (idValid r.b r.p r.c text)) := by
  have hk0_ := Kept.alloc (Kept.refl w) (Obj.cells #[Value.slice i.As i.ns i.cs, Value.slice i.Ac i.nc i.cc, Value.slice i.Am i.nm i.cm] 54)
  have HK1 := Lib.hid hk0_
  have hb0_ := (box_block w (Obj.cells #[Value.slice i.As i.ns i.cs, Value.slice i.Ac i.nc i.cc, Value.slice i.Am i.nm i.cm] 54))
  have x0_ := cell_of_block (i := 0) hb0_ rfl
  have x1_ := cell_of_block (i := 1) hb0_ rfl
  have x2_ := cell_of_block (i := 2) hb0_ rfl
  simp only [s4_, s5_, s6_] at x0_ x1_ x2_
  have HX0 := Lib.hid x0_
  have HX1 := Lib.hid x1_
  have HX2 := Lib.hid x2_
  have HB0 := Lib.hid hb0_
  clear x0_ x1_ x2_ hb0_
  have HW := Lib.hid (r39wrong i r A nt ct text _ (hI.kept HK1.out) hs hnt (hT.kept HK1.out))
  clear hI hs hT hk0_
  have p0 := HX0.out
  have p1 := HX1.out
  have p2 := HX2.out
  unfold Ids.val at *
  go_enter Tryz.func23, Tryz.ntmps23
  go_wp2_with fail
  refine HW.out.mono ?_
  rintro e w1 ⟨v, rfl, hv, k1⟩
  have HV := Lib.hid hv
  clear hv
  go_wp2_with fail
  go_ret
  exact ⟨ret_bool HV.out, Kept.trans HK1.out k1⟩
end Go.Proofs.YtmlcdohldkgcdaaGreatDoor
