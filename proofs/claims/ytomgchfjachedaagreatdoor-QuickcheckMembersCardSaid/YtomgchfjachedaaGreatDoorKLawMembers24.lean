/- law24.QuickcheckMembers returns true. -/
import Derived.Test.YtomgchfjachedaaGreatDoorKBase
import Derived.Test.YtomgchfjachedaaGreatDoorKAlive24
import Derived.Test.YtomgchfjachedaaGreatDoorKQcN
import Derived.Test.YtomgchfjachedaaGreatDoorKQpl
import Derived.Test.YtomgchfjachedaaGreatDoorKRfx
import Derived.Test.YtomgchfjachedaaGreatDoorKFew
namespace Go.Proofs.YtomgchfjachedaaGreatDoor
open Go Go.RowKit
theorem charQ_bad (n : Nrm) {form x : Int} (h : validB x = false) : charQ n form x = 1 := by
  by_cases hf : form < 1 ∨ 4 < form
  · unfold charQ; rw [if_pos hf]
  · refine Classical.byContradiction fun hq => ?_
    rcases no_changed n hq hf with h1 | ⟨_, h1⟩
    · have h2 : hasR (changedR n (cpOf form)) x = true := by
        rw [chg_hasQ]
        cases ho : onceOf (usableN n).decomp x (cpOf form) with
        | none => exact absurd ho h1
        | some _ => rfl
      have := hasR_vB h2
      rw [h] at this; cases this
    · have := (sec_mem (usableN n) (usableN_good n) h1).2
      rw [h] at this; cases this
theorem makeR_own {R : List Rng} (h : Canon R) : refMake R = R := by
  rw [refMake_eq]
  exact canon_has (makeR_spec R).1 h (fun x => has_make R x)
theorem cuts_small {n : Nrm} (hs : smallB n = true) : ∀ l, cutsR (secR (usableN n)) (usableN n) = l → l.length ≤ 2000 := fun l e => by
  rw [← e]
  have h1 := secR_length (usableN n)
  have h2 := usableN_lenD n
  have h3 := (smallB_parts hs).2.1
  unfold cutsR
  have h4 : ∀ R : List Rng, (R.flatMap fun r => [r.lo, r.hi + 1]).length = 2 * R.length := by
    intro R
    induction R with
    | nil => rfl
    | cons r R ih => rw [List.flatMap_cons, List.length_append, ih, List.length_cons]; simp; omega
  have h5 : ∀ l : List Mp, (l.flatMap cutMp).length ≤ 6 * l.length := by
    intro l
    induction l with
    | nil => simp
    | cons m l ih =>
      have h6 : (cutMp m).length ≤ 6 := by
        unfold cutMp
        rw [List.length_append]
        split
        · split <;> simp
        · simp
      rw [List.flatMap_cons, List.length_append, List.length_cons]; omega
  have h7 := h5 (usableN n).decomp
  rw [List.length_append, List.length_append, h4, List.length_cons]
  have h8 : (blocks 20).length = 20 := by simp [blocks]
  omega
set_option maxHeartbeats 1000000 in
theorem r01validP (c : Int) (w : World) : Calls Tryz.prog 18 #[.int .i64 c] w (RetB w (validB c)) := by
  by_cases h1 : 0 ≤ c
  · by_cases h2 : c ≤ 1114111
    · go_enter Tryz.func18, Tryz.ntmps18
      go_wp2
      go_ret
      exact ⟨ret_bool (by simp [validB, h1, h2]), Kept.refl w⟩
    · go_enter Tryz.func18, Tryz.ntmps18
      go_wp2
      go_ret
      exact ⟨ret_bool (by simp [validB, h1, h2]), Kept.refl w⟩
  · go_enter Tryz.func18, Tryz.ntmps18
    go_wp2
    go_ret
    exact ⟨ret_bool (by unfold validB; rw [decide_eq_false (show ¬ 0 ≤ c by omega)]; rfl), Kept.refl w⟩
set_option maxRecDepth 100000 in
set_option maxHeartbeats 4000000 in
theorem law_members24 (s : Sls) (n : Nrm) (form x : Int) (w : World) (hN : NormIn w s n) (_hx : I64 form) (_hc : I64 x) (hG : Glob w) : Calls Tryz.prog 4 #[s.val, .int .i64 form, .int .i64 x] w (RetB w true) := by
  have hk0_ := Kept.alloc (Kept.refl w) (Obj.cells #[Value.slice s.Ac s.nc s.cc, Value.slice s.Am s.nm s.cm, Value.slice s.Ae s.ne s.ce] 28)
  have HK1 := Lib.hid hk0_
  have hb0_ := (box_block w (Obj.cells #[Value.slice s.Ac s.nc s.cc, Value.slice s.Am s.nm s.cm, Value.slice s.Ae s.ne s.ce] 28))
  have x0_ := cell_of_block (i := 0) hb0_ rfl
  have x1_ := cell_of_block (i := 1) hb0_ rfl
  have x2_ := cell_of_block (i := 2) hb0_ rfl
  simp only [s4_, s5_, s6_] at x0_ x1_ x2_
  have HX0 := Lib.hid x0_
  have HX1 := Lib.hid x1_
  have HX2 := Lib.hid x2_
  have HB0 := Lib.hid hb0_
  clear x0_ x1_ x2_ hb0_
  have HS := Lib.hid (fun w' (hk : Kept w w') => r21small s n w' (hN.kept hk))
  have HN := Lib.hid hN
  have HG := Lib.hid hG
  clear hN hG hk0_
  cases hsm : smallB n
  · rw [hsm] at HS
    clear hsm
    unfold Sls.val at *
    go_enter Tryz.func4, Tryz.ntmps4
    have p0 := HX0.out
    have p1 := HX1.out
    have p2 := HX2.out
    go_wp2_with fail
    refine (HS.out _ (Kept.trans HK1.out (Kept.refl (w.alloc (Obj.cells #[Value.slice s.Ac s.nc s.cc, Value.slice s.Am s.nm s.cm, Value.slice s.Ae s.ne s.ce] 28))))).mono ?_
    rintro e w1 ⟨rfl, k1⟩
    clear p0 p1 p2
    have KB1 := Lib.hid (Kept.trans (Kept.refl (w.alloc (Obj.cells #[Value.slice s.Ac s.nc s.cc, Value.slice s.Am s.nm s.cm, Value.slice s.Ae s.ne s.ce] 28))) k1)
    have p0 := Kept.cell KB1.out HX0.out
    have p1 := Kept.cell KB1.out HX1.out
    have p2 := Kept.cell KB1.out HX2.out
    go_wp2_with fail
    refine (alive24 _ (HG.out.kept (Kept.trans HK1.out KB1.out))).mono ?_
    rintro e w2 ⟨rfl, k2⟩
    clear p0 p1 p2
    have KB2 := Lib.hid (Kept.trans KB1.out k2)
    go_wp2_with fail
    go_ret
    exact ⟨rfl, (Kept.trans HK1.out KB2.out)⟩
  · rw [hsm] at HS
    have HNA := Lib.hid (HN.out.small hsm)
    have HCS := Lib.hid (cuts_small hsm)
    clear hsm
    have HP := Lib.hid (fun w' (hk : Kept w w') => sets_any s n form w' (HNA.out.kept hk) (HG.out.kept hk))
    have HC := Lib.hid (fun w' (hk : Kept w w') => qchar_any s n form x w' (HNA.out.kept hk) (HG.out.kept hk))
    have HF2 := Lib.hid (fun (R : List Rng) hR h => sets_few n form (R := R) hR 2 h HCS.out)
    have HF3 := Lib.hid (fun (R : List Rng) hR h => sets_few n form (R := R) hR 3 h HCS.out)
    have HIV := Lib.hid (charQ_bad n (form := form) (x := x))
    have HQC := Lib.hid (charQ_cases n form x)
    generalize charQ n form = f at *
    unfold Sls.val at *
    go_enter Tryz.func4, Tryz.ntmps4
    have p0 := HX0.out
    have p1 := HX1.out
    have p2 := HX2.out
    go_wp2_with fail
    refine (HS.out _ HK1.out).mono ?_
    rintro e w1 ⟨rfl, k1⟩
    have K1 := Lib.hid (Kept.trans HK1.out k1)
    have p0 := Kept.cell k1 HX0.out
    have p1 := Kept.cell k1 HX1.out
    have p2 := Kept.cell k1 HX2.out
    have X1 := Lib.hid k1
    clear k1
    go_wp2_with fail
    refine (HP.out _ K1.out).mono ?_
    rintro e w2 ⟨R1, A1, m1, c1, R2, A2, m2, c2, rfl, le1, le2, b1, b2, i1, i2, cn1, cn2, h1, h2, k2⟩
    have HR1 := Lib.hid (h1 x)
    have HR2 := Lib.hid (h2 x)
    have HO1 := Lib.hid (makeR_own cn1)
    have HO2 := Lib.hid (makeR_own cn2)
    have hb1 : m1 ≤ 2000 := by rw [i1.1]; exact HF2.out R1 cn1 h1
    have hb2 : m2 ≤ 2000 := by rw [i2.1]; exact HF3.out R2 cn2 h2
    have I1 := Lib.hid i1
    have I2 := Lib.hid i2
    have hka := Kept.alloc (Kept.alloc (Kept.refl w2) (Obj.cells #[Value.slice A1 m1 c1] 26)) (Obj.cells #[Value.slice A2 m2 c2] 26)
    have X2 := Lib.hid (Kept.trans X1.out (Kept.trans k2 hka))
    have KA := Lib.hid hka
    obtain ⟨q, hq⟩ : ∃ q : Nat, q = w2.heap.size := ⟨_, rfl⟩
    have Y1 := Lib.hid (show ((w2.alloc (Obj.cells #[Value.slice A1 m1 c1] 26)).alloc (Obj.cells #[Value.slice A2 m2 c2] 26)).cell? ⟨q, 0, none⟩ = some (.slice A1 m1 c1) from cell_of_block (i := 0) (show ((w2.alloc (Obj.cells #[Value.slice A1 m1 c1] 26)).alloc (Obj.cells #[Value.slice A2 m2 c2] 26)).heap[q]? = some (Obj.cells #[Value.slice A1 m1 c1] 26) from alloc_lift (alloc_at hq)) rfl)
    have Y2 := Lib.hid (show ((w2.alloc (Obj.cells #[Value.slice A1 m1 c1] 26)).alloc (Obj.cells #[Value.slice A2 m2 c2] 26)).cell? ⟨q + 1, 0, none⟩ = some (.slice A2 m2 c2) from cell_of_block (i := 0) (show ((w2.alloc (Obj.cells #[Value.slice A1 m1 c1] 26)).alloc (Obj.cells #[Value.slice A2 m2 c2] 26)).heap[q + 1]? = some (Obj.cells #[Value.slice A2 m2 c2] 26) from alloc_at (by simp [hq])) rfl)
    clear i1 i2 h1 h2 cn1 cn2 k2 hka p0 p1 p2
    have HQQ := Lib.hid hq
    clear hq
    have p0 := Kept.cell X2.out HX0.out
    have p1 := Kept.cell X2.out HX1.out
    have p2 := Kept.cell X2.out HX2.out
    go_wp2_with fail
    rw [← HQQ.out]
    generalize (w2.alloc (Obj.cells #[Value.slice A1 m1 c1] 26)).alloc (Obj.cells #[Value.slice A2 m2 c2] 26) = W2 at *
    have HV1 := Lib.hid (fun w' (hk : Kept W2 w') => r02Valid A1 m1 c1 R1 w' (by omega) (I1.out.kept (Kept.trans KA.out hk)) (by rw [HO1.out, ← I1.out.1]; omega))
    have HV2 := Lib.hid (fun w' (hk : Kept W2 w') => r02Valid A2 m2 c2 R2 w' (by omega) (I2.out.kept (Kept.trans KA.out hk)) (by rw [HO2.out, ← I2.out.1]; omega))
    have HH1 := Lib.hid (fun w' (hk : Kept W2 w') => r02Has A1 m1 c1 R1 x w' (by omega) (I1.out.kept (Kept.trans KA.out hk)))
    have HH2 := Lib.hid (fun w' (hk : Kept W2 w') => r02Has A2 m2 c2 R2 x w' (by omega) (I2.out.kept (Kept.trans KA.out hk)))
    simp only [HO1.out, HO2.out, decide_true] at HV1 HV2
    rw [HR1.out] at HH1
    rw [HR2.out] at HH2
    refine (HC.out _ (Kept.trans HK1.out X2.out)).mono ?_
    rintro e w3 ⟨rfl, k3⟩
    have K3 := Lib.hid k3
    clear k3 p0 p1 p2
    go_wp2_with fail
    refine (r01validP x _).mono ?_
    rintro e w4 ⟨rfl, k4⟩
    have K4 := Lib.hid (Kept.trans K3.out k4)
    clear k4
    have y1 := Kept.cell K4.out Y1.out
    have y2 := Kept.cell K4.out Y2.out
    cases hv : validB x
    · have hx1 := HIV.out hv
      rw [hv] at HH1 HH2
      rw [hx1]
      simp only [Bool.false_and] at HH1 HH2
      clear hv hx1
      go_wp2_with fail
      refine (HH1.out _ K4.out).mono ?_
      rintro e w5 ⟨rfl, k5⟩
      have K5 := Lib.hid (Kept.trans K4.out k5)
      clear k5
      have y1 := Kept.cell K5.out Y1.out
      have y2 := Kept.cell K5.out Y2.out
      go_wp2_with fail
      refine (HH2.out _ K5.out).mono ?_
      rintro e w6 ⟨rfl, k6⟩
      have K6 := Lib.hid (Kept.trans K5.out k6)
      clear k6
      have y1 := Kept.cell K6.out Y1.out
      have y2 := Kept.cell K6.out Y2.out
      go_wp2_with fail
      refine (alive24 _ (HG.out.kept (Kept.trans HK1.out (Kept.trans X2.out K6.out)))).mono ?_
      rintro e w7 ⟨rfl, k7⟩
      have K7 := Lib.hid (Kept.trans K6.out k7)
      clear k7
      go_wp2_with fail
      go_ret
      exact ⟨rfl, Kept.trans HK1.out (Kept.trans X2.out K7.out)⟩
    · rw [hv] at HH1 HH2
      simp only [Bool.true_and] at HH1 HH2
      clear hv HIV HF2 HF3 HR1 HR2
      have hqc := HQC.out
      clear HQC
      generalize f x = v at *
      rcases hqc with rfl | rfl | rfl
      · have e1 : decide ((1 : Int) = 2) = false := by decide
        have e2 : decide ((1 : Int) = 3) = false := by decide
        rw [e1] at HH1
        rw [e2] at HH2
        clear e1 e2
        go_wp2_with fail
        refine (HV1.out _ K4.out).mono ?_
        rintro e w5 ⟨rfl, k5⟩
        have K5 := Lib.hid (Kept.trans K4.out k5)
        clear k5
        have y1 := Kept.cell K5.out Y1.out
        have y2 := Kept.cell K5.out Y2.out
        go_wp2_with fail
        refine (HV2.out _ K5.out).mono ?_
        rintro e w6 ⟨rfl, k6⟩
        have K6 := Lib.hid (Kept.trans K5.out k6)
        clear k6
        have y1 := Kept.cell K6.out Y1.out
        have y2 := Kept.cell K6.out Y2.out
        go_wp2_with fail
        refine (HH1.out _ K6.out).mono ?_
        rintro e w7 ⟨rfl, k7⟩
        have K7 := Lib.hid (Kept.trans K6.out k7)
        clear k7
        have y1 := Kept.cell K7.out Y1.out
        have y2 := Kept.cell K7.out Y2.out
        go_wp2_with fail
        refine (HH2.out _ K7.out).mono ?_
        rintro e w8 ⟨rfl, k8⟩
        have K8 := Lib.hid (Kept.trans K7.out k8)
        clear k8
        have y1 := Kept.cell K8.out Y1.out
        have y2 := Kept.cell K8.out Y2.out
        go_wp2_with fail
        refine (alive24 _ (HG.out.kept (Kept.trans HK1.out (Kept.trans X2.out K8.out)))).mono ?_
        rintro e w9 ⟨rfl, k9⟩
        have K9 := Lib.hid (Kept.trans K8.out k9)
        clear k9
        go_wp2_with fail
        go_ret
        exact ⟨rfl, Kept.trans HK1.out (Kept.trans X2.out K9.out)⟩
      · have e1 : decide ((2 : Int) = 2) = true := by decide
        have e2 : decide ((2 : Int) = 3) = false := by decide
        rw [e1] at HH1
        rw [e2] at HH2
        clear e1 e2
        go_wp2_with fail
        refine (HV1.out _ K4.out).mono ?_
        rintro e w5 ⟨rfl, k5⟩
        have K5 := Lib.hid (Kept.trans K4.out k5)
        clear k5
        have y1 := Kept.cell K5.out Y1.out
        have y2 := Kept.cell K5.out Y2.out
        go_wp2_with fail
        refine (HV2.out _ K5.out).mono ?_
        rintro e w6 ⟨rfl, k6⟩
        have K6 := Lib.hid (Kept.trans K5.out k6)
        clear k6
        have y1 := Kept.cell K6.out Y1.out
        have y2 := Kept.cell K6.out Y2.out
        go_wp2_with fail
        refine (HH1.out _ K6.out).mono ?_
        rintro e w7 ⟨rfl, k7⟩
        have K7 := Lib.hid (Kept.trans K6.out k7)
        clear k7
        have y1 := Kept.cell K7.out Y1.out
        have y2 := Kept.cell K7.out Y2.out
        go_wp2_with fail
        refine (HH2.out _ K7.out).mono ?_
        rintro e w8 ⟨rfl, k8⟩
        have K8 := Lib.hid (Kept.trans K7.out k8)
        clear k8
        have y1 := Kept.cell K8.out Y1.out
        have y2 := Kept.cell K8.out Y2.out
        go_wp2_with fail
        refine (alive24 _ (HG.out.kept (Kept.trans HK1.out (Kept.trans X2.out K8.out)))).mono ?_
        rintro e w9 ⟨rfl, k9⟩
        have K9 := Lib.hid (Kept.trans K8.out k9)
        clear k9
        go_wp2_with fail
        go_ret
        exact ⟨rfl, Kept.trans HK1.out (Kept.trans X2.out K9.out)⟩
      · have e1 : decide ((3 : Int) = 2) = false := by decide
        have e2 : decide ((3 : Int) = 3) = true := by decide
        rw [e1] at HH1
        rw [e2] at HH2
        clear e1 e2
        go_wp2_with fail
        refine (HV1.out _ K4.out).mono ?_
        rintro e w5 ⟨rfl, k5⟩
        have K5 := Lib.hid (Kept.trans K4.out k5)
        clear k5
        have y1 := Kept.cell K5.out Y1.out
        have y2 := Kept.cell K5.out Y2.out
        go_wp2_with fail
        refine (HV2.out _ K5.out).mono ?_
        rintro e w6 ⟨rfl, k6⟩
        have K6 := Lib.hid (Kept.trans K5.out k6)
        clear k6
        have y1 := Kept.cell K6.out Y1.out
        have y2 := Kept.cell K6.out Y2.out
        go_wp2_with fail
        refine (HH1.out _ K6.out).mono ?_
        rintro e w7 ⟨rfl, k7⟩
        have K7 := Lib.hid (Kept.trans K6.out k7)
        clear k7
        have y1 := Kept.cell K7.out Y1.out
        have y2 := Kept.cell K7.out Y2.out
        go_wp2_with fail
        refine (HH2.out _ K7.out).mono ?_
        rintro e w8 ⟨rfl, k8⟩
        have K8 := Lib.hid (Kept.trans K7.out k8)
        clear k8
        have y1 := Kept.cell K8.out Y1.out
        have y2 := Kept.cell K8.out Y2.out
        go_wp2_with fail
        refine (alive24 _ (HG.out.kept (Kept.trans HK1.out (Kept.trans X2.out K8.out)))).mono ?_
        rintro e w9 ⟨rfl, k9⟩
        have K9 := Lib.hid (Kept.trans K8.out k9)
        clear k9
        go_wp2_with fail
        go_ret
        exact ⟨rfl, Kept.trans HK1.out (Kept.trans X2.out K9.out)⟩
end Go.Proofs.YtomgchfjachedaaGreatDoor
