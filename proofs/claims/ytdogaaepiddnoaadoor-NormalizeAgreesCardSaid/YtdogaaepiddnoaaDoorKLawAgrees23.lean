/- law23.NormalizeAgrees returns true. -/
import Derived.Deep.RegionHeld3
import Derived.Test.YtdogaaepiddnoaaDoorKAlv
namespace Go.Proofs.YtdogaaepiddnoaaDoor
open Go Go.RowKit

set_option maxRecDepth 100000 in
set_option maxHeartbeats 4000000 in
theorem law_agrees23 (s : Sls) (n : Nrm) (form : Int) (A : Option Addr) (l c : Nat) (xs : List Int) (w : World) (hN : NormIn w s n) (_hx : I64 form) (hI : l ≤ c ∧ c ≤ 9223372036854775807 ∧ Ints w A l xs) (hG : Glob w) : Calls Tryd.prog 4 #[s.val, .int .i64 form, .slice A l c] w (RetB w true) := by
  have hk1 := Kept.alloc (Kept.refl w) (Obj.cells #[Value.slice s.Ac s.nc s.cc, Value.slice s.Am s.nm s.cm, Value.slice s.Ae s.ne s.ce] 28)
  have HK1 := Lib.hid hk1
  have hbx := box_cell w #[Value.slice s.Ac s.nc s.cc, Value.slice s.Am s.nm s.cm, Value.slice s.Ae s.ne s.ce] 28
  have x0 : (w.alloc (Obj.cells #[Value.slice s.Ac s.nc s.cc, Value.slice s.Am s.nm s.cm, Value.slice s.Ae s.ne s.ce] 28)).cell? ⟨w.heap.size, 0, none⟩ = some (.slice s.Ac s.nc s.cc) := hbx 0
  have x1 : (w.alloc (Obj.cells #[Value.slice s.Ac s.nc s.cc, Value.slice s.Am s.nm s.cm, Value.slice s.Ae s.ne s.ce] 28)).cell? ⟨w.heap.size, 1, none⟩ = some (.slice s.Am s.nm s.cm) := hbx 1
  have x2 : (w.alloc (Obj.cells #[Value.slice s.Ac s.nc s.cc, Value.slice s.Am s.nm s.cm, Value.slice s.Ae s.ne s.ce] 28)).cell? ⟨w.heap.size, 2, none⟩ = some (.slice s.Ae s.ne s.ce) := hbx 2
  have HX0 := Lib.hid x0
  have HX1 := Lib.hid x1
  have HX2 := Lib.hid x2
  have HN := Lib.hid hN
  have HG := Lib.hid hG
  obtain ⟨hle, hbig, hI⟩ := hI
  have HS := Lib.hid (few23 s n A l c (w.alloc (Obj.cells #[Value.slice s.Ac s.nc s.cc, Value.slice s.Am s.nm s.cm, Value.slice s.Ae s.ne s.ce] 28)) (hN.kept hk1) ⟨hle, hbig⟩)
  have HI := Lib.hid hI
  clear hN hG hk1 hbx x0 x1 x2 hI hle hbig
  cases hsm : (smallB n && decide (l ≤ 40))
  · rw [hsm] at HS
    clear hsm
    unfold Sls.val at *
    go_enter Tryd.func4, Tryd.ntmps4
    go_wp2_with fail
    refine (HS.out).mono ?_
    rintro e w1 ⟨rfl, k1⟩
    have KB1 := Lib.hid (Kept.trans (Kept.refl (w.alloc (Obj.cells #[Value.slice s.Ac s.nc s.cc, Value.slice s.Am s.nm s.cm, Value.slice s.Ae s.ne s.ce] 28))) k1)
    go_wp2_with fail
    refine (alive23 _ (HG.out.kept (Kept.trans HK1.out KB1.out))).mono ?_
    rintro e w2 ⟨rfl, k2⟩
    have KB2 := Lib.hid (Kept.trans KB1.out k2)
    go_wp2_with fail
    go_ret
    exact ⟨rfl, (Kept.trans HK1.out KB2.out)⟩
  · rw [hsm] at HS
    obtain ⟨hsb, hl40⟩ := (Bool.and_eq_true _ _).mp hsm
    have hl40 := of_decide_eq_true hl40
    have HNA := Lib.hid (HN.out.small hsb)
    have HXL := Lib.hid HI.out.1
    clear hsm hsb
    by_cases hf : form < 1 ∨ 4 < form
    · have h1 : form < 1 ∨ (¬ form < 1 ∧ 4 < form) := by omega
      clear hf
      unfold Sls.val at *
      rcases h1 with h1 | ⟨h1, h2⟩
      all_goals
        go_enter Tryd.func4, Tryd.ntmps4
        have p0 := HX0.out
        have p1 := HX1.out
        have p2 := HX2.out
        go_wp2_with fail
        refine (HS.out).mono ?_
        rintro e w1 ⟨rfl, k1⟩
        clear p0 p1 p2
        have KB1 := Lib.hid (Kept.trans (Kept.refl (w.alloc (Obj.cells #[Value.slice s.Ac s.nc s.cc, Value.slice s.Am s.nm s.cm, Value.slice s.Ae s.ne s.ce] 28))) k1)
        go_wp2_with fail
        refine (alive23 _ (HG.out.kept (Kept.trans HK1.out KB1.out))).mono ?_
        rintro e w2 ⟨rfl, k2⟩
        have KB2 := Lib.hid (Kept.trans KB1.out k2)
        go_wp2_with fail
        go_ret
        exact ⟨rfl, (Kept.trans HK1.out KB2.out)⟩
    · have hf1 : ¬ form < 1 := by omega
      have hf2 : ¬ 4 < form := by omega
      have hf3 : 1 ≤ form := by omega
      have hf4 : form ≤ 4 := by omega
      clear hf
      have HT1 := Lib.hid (fun w' (hk : Kept w w') => form_any s n 1 A l c xs w' (HNA.out.kept hk) (HG.out.kept hk) (by omega) (HI.out.kept hk))
      have HT2 := Lib.hid (fun w' (hk : Kept w w') => form_any s n 2 A l c xs w' (HNA.out.kept hk) (HG.out.kept hk) (by omega) (HI.out.kept hk))
      have HT3 := Lib.hid (fun w' (hk : Kept w w') => form_any s n 3 A l c xs w' (HNA.out.kept hk) (HG.out.kept hk) (by omega) (HI.out.kept hk))
      have HT4 := Lib.hid (fun w' (hk : Kept w w') => form_any s n 4 A l c xs w' (HNA.out.kept hk) (HG.out.kept hk) (by omega) (HI.out.kept hk))
      have HTF := Lib.hid (fun w' (hk : Kept w w') => form_any s n form A l c xs w' (HNA.out.kept hk) (HG.out.kept hk) (by omega) (HI.out.kept hk))
      have HD1 := Lib.hid (fun A' n' c' w' (hk : Kept w w') (hn' : n' ≤ 10000) (hZ : Ints w' A' n' (formOf n 1 xs)) => form_any s n 2 A' n' c' _ w' (HNA.out.kept hk) (HG.out.kept hk) hn' hZ)
      have HC2 := Lib.hid (fun A' n' c' w' (hk : Kept w w') (hn' : n' ≤ 10000) (hZ : Ints w' A' n' (formOf n 2 xs)) => form_any s n 1 A' n' c' _ w' (HNA.out.kept hk) (HG.out.kept hk) hn' hZ)
      have HK3 := Lib.hid (fun A' n' c' w' (hk : Kept w w') (hn' : n' ≤ 10000) (hZ : Ints w' A' n' (formOf n form xs)) => form_any s n 3 A' n' c' _ w' (HNA.out.kept hk) (HG.out.kept hk) hn' hZ)
      have HK4 := Lib.hid (fun A' n' c' w' (hk : Kept w w') (hn' : n' ≤ 10000) (hZ : Ints w' A' n' (formOf n form xs)) => form_any s n 4 A' n' c' _ w' (HNA.out.kept hk) (HG.out.kept hk) hn' hZ)
      rw [form_d_c] at HD1
      rw [form_c_d] at HC2
      rw [form_kc n hf3 hf4] at HK3
      rw [show formOf n 4 (formOf n form xs) = formOf n 4 xs by rw [formOf_4, form_kd n hf3 hf4, ← formOf_4]] at HK4
      have HL1 := Lib.hid (show (formOf n 1 xs).length ≤ 10000 by have := formOf_length n 1 xs; have := HXL.out; omega)
      have HL2 := Lib.hid (show (formOf n 2 xs).length ≤ 10000 by have := formOf_length n 2 xs; have := HXL.out; omega)
      have HL3 := Lib.hid (show (formOf n 3 xs).length ≤ 10000 by have := formOf_length n 3 xs; have := HXL.out; omega)
      have HL4 := Lib.hid (show (formOf n 4 xs).length ≤ 10000 by have := formOf_length n 4 xs; have := HXL.out; omega)
      have HLF := Lib.hid (show (formOf n form xs).length ≤ 10000 by have := formOf_length n form xs; have := HXL.out; omega)
      generalize formOf n form xs = XF at *
      generalize formOf n 1 xs = X1 at *
      generalize formOf n 2 xs = X2 at *
      generalize formOf n 3 xs = X3 at *
      generalize formOf n 4 xs = X4 at *
      clear hf3 hf4
      unfold Sls.val at *
      go_enter Tryd.func4, Tryd.ntmps4
      have p0 := HX0.out
      have p1 := HX1.out
      have p2 := HX2.out
      go_wp2_with fail
      refine (HS.out).mono ?_
      rintro e w1 ⟨rfl, k1⟩
      clear p0 p1 p2
      have KB1 := Lib.hid (Kept.trans (Kept.refl (w.alloc (Obj.cells #[Value.slice s.Ac s.nc s.cc, Value.slice s.Am s.nm s.cm, Value.slice s.Ae s.ne s.ce] 28))) k1)
      have p0 := Kept.cell KB1.out HX0.out
      have p1 := Kept.cell KB1.out HX1.out
      have p2 := Kept.cell KB1.out HX2.out
      go_wp2_with fail
      refine wp_region_held_drew (S := (fun w' => w'.cell? ⟨w.heap.size, 0, none⟩ = some (.slice s.Ac s.nc s.cc) ∧ w'.cell? ⟨w.heap.size, 1, none⟩ = some (.slice s.Am s.nm s.cm) ∧ w'.cell? ⟨w.heap.size, 2, none⟩ = some (.slice s.Ae s.ne s.ce))) (by kernel_rfl) ⟨p0, p1, p2⟩ (fun hHeld => ?_)
      refine wpAnyH_take (i := 0) (v := ?_) rfl (by kernel_rfl) (by kernel_rfl) (by kernel_rfl) (fun _ _ _ h => h) (Or.inl ⟨by rfl, ?_⟩) (by assumption) ?_
      rotate_left
      · (intro w hSw; (try dsimp only at hSw); go_simp; (try with_reducible rfl))
      simp only [Act.put, List.setIfInBounds_toArray, List.set_cons_zero, List.set_cons_succ, List.getElem_toArray, List.getElem_cons_zero]
      refine wpAnyH_take (i := 1) (v := ?_) rfl (by kernel_rfl) (by kernel_rfl) (by kernel_rfl) (fun _ _ _ h => h) (Or.inl ⟨by rfl, ?_⟩) (by assumption) ?_
      rotate_left
      · (intro w hSw; (try dsimp only at hSw); go_simp; (try with_reducible rfl))
      simp only [Act.put, List.setIfInBounds_toArray, List.set_cons_zero, List.set_cons_succ, List.getElem_toArray, List.getElem_cons_zero, List.getElem_cons_succ]
      refine wpAnyH_take (i := 3) (v := ?_) rfl (by kernel_rfl) (by kernel_rfl) (by kernel_rfl) (fun _ _ _ h => h) (Or.inl ⟨by rfl, ?_⟩) (by assumption) ?_
      rotate_left
      · (intro w hSw; (try dsimp only at hSw); go_simp; (try with_reducible rfl))
      simp only [Act.put, List.setIfInBounds_toArray, List.set_cons_zero, List.set_cons_succ, List.getElem_toArray, List.getElem_cons_zero, List.getElem_cons_succ]
      refine wpAnyH_take (i := 4) (v := ?_) rfl (by kernel_rfl) (by kernel_rfl) (by kernel_rfl) (fun _ _ _ h => h) (Or.inl ⟨by rfl, ?_⟩) (by assumption) ?_
      rotate_left
      · (intro w hSw; (try dsimp only at hSw); go_simp; (try with_reducible rfl))
      simp only [Act.put, List.setIfInBounds_toArray, List.set_cons_zero, List.set_cons_succ, List.getElem_toArray, List.getElem_cons_zero, List.getElem_cons_succ]
      refine wpAnyH_ready (rs := [2]) (by kernel_rfl) (by simp) ?_
      refine AllReadyH.cons rfl (fun K hK => ?_) AllReadyH.nil
      go_simp
      (refine (HT1.out _ (Kept.trans HK1.out (Kept.drew KB1.out))).mono ?_; rintro e w2 ⟨A2, n2, c2, rfl, le2, i2, k2⟩; have I2 := Lib.hid i2; have hn2 : n2 ≤ 10000 := (by rw [i2.1]; exact HL1.out); clear i2; have KB2 := Lib.hid (Kept.trans (Kept.drew KB1.out) k2))
      go_wp2_with fail
      refine hK.out _ _ ⟨Kept.cell KB2.out HX0.out, Kept.cell KB2.out HX1.out, Kept.cell KB2.out HX2.out⟩ (fun hHeld => ?_)
      clear hK K
      (try simp only [Act.put, List.setIfInBounds_toArray, List.set_cons_zero, List.set_cons_succ, List.getElem_toArray, List.getElem_cons_zero, List.getElem_cons_succ])
      refine wpAnyH_ready (rs := [5]) (by kernel_rfl) (by simp) ?_
      refine AllReadyH.cons rfl (fun K hK => ?_) AllReadyH.nil
      go_simp
      (refine (HT2.out _ (Kept.trans HK1.out KB2.out)).mono ?_; rintro e w3 ⟨A3, n3, c3, rfl, le3, i3, k3⟩; have I3 := Lib.hid i3; have hn3 : n3 ≤ 10000 := (by rw [i3.1]; exact HL2.out); clear i3; have KB3 := Lib.hid (Kept.trans KB2.out k3))
      go_wp2_with fail
      refine hK.out _ _ ⟨Kept.cell KB3.out HX0.out, Kept.cell KB3.out HX1.out, Kept.cell KB3.out HX2.out⟩ (fun hHeld => ?_)
      clear hK K
      (try simp only [Act.put, List.setIfInBounds_toArray, List.set_cons_zero, List.set_cons_succ, List.getElem_toArray, List.getElem_cons_zero, List.getElem_cons_succ])
      refine wpAnyH_take (i := 6) (v := ?_) rfl (by kernel_rfl) (by kernel_rfl) (by kernel_rfl) (fun _ _ _ h => h) (Or.inl ⟨by rfl, ?_⟩) (by assumption) ?_
      rotate_left
      · (intro w hSw; (try dsimp only at hSw); go_simp; (try with_reducible rfl))
      simp only [Act.put, List.setIfInBounds_toArray, List.set_cons_zero, List.set_cons_succ, List.getElem_toArray, List.getElem_cons_zero, List.getElem_cons_succ]
      refine wpAnyH_take (i := 7) (v := ?_) rfl (by kernel_rfl) (by kernel_rfl) (by kernel_rfl) (fun _ _ _ h => h) (Or.inl ⟨by rfl, ?_⟩) (by assumption) ?_
      rotate_left
      · (intro w hSw; (try dsimp only at hSw); go_simp; (try with_reducible rfl))
      simp only [Act.put, List.setIfInBounds_toArray, List.set_cons_zero, List.set_cons_succ, List.getElem_toArray, List.getElem_cons_zero, List.getElem_cons_succ]
      refine wpAnyH_done (by kernel_rfl) ?_ _
      clear p0 p1 p2
      have p0 := Kept.cell KB3.out HX0.out
      have p1 := Kept.cell KB3.out HX1.out
      have p2 := Kept.cell KB3.out HX2.out
      go_wp2_with fail
      refine (HD1.out A2 n2 c2 _ (Kept.trans HK1.out KB3.out) hn2 (I2.out.kept k3)).mono ?_
      rintro e w4 ⟨A4, n4, c4, rfl, le4, i4, k4⟩
      have I4 := Lib.hid i4
      have hn4 : n4 ≤ 10000 := (by rw [i4.1]; exact HL2.out)
      clear i4
      clear p0 p1 p2
      have KB4 := Lib.hid (Kept.trans KB3.out k4)
      go_wp2_with fail
      refine (r01_same X2 A4 A3 n4 n3 c4 c3 _ HL2.out I4.out (I3.out.kept k4)).mono ?_
      rintro e w5 ⟨rfl, k5⟩
      have KB5 := Lib.hid (Kept.trans KB4.out k5)
      have p0 := Kept.cell KB5.out HX0.out
      have p1 := Kept.cell KB5.out HX1.out
      have p2 := Kept.cell KB5.out HX2.out
      go_wp2_with fail
      refine (HC2.out A3 n3 c3 _ (Kept.trans HK1.out KB5.out) hn3 (I3.out.kept (Kept.trans k4 k5))).mono ?_
      rintro e w6 ⟨A6, n6, c6, rfl, le6, i6, k6⟩
      have I6 := Lib.hid i6
      have hn6 : n6 ≤ 10000 := (by rw [i6.1]; exact HL1.out)
      clear i6
      clear p0 p1 p2
      have KB6 := Lib.hid (Kept.trans KB5.out k6)
      go_wp2_with fail
      refine (r01_same X1 A6 A2 n6 n2 c6 c2 _ HL1.out I6.out (I2.out.kept (Kept.trans k3 (Kept.trans k4 (Kept.trans k5 k6))))).mono ?_
      rintro e w7 ⟨rfl, k7⟩
      have KB7 := Lib.hid (Kept.trans KB6.out k7)
      have p0 := Kept.cell KB7.out HX0.out
      have p1 := Kept.cell KB7.out HX1.out
      have p2 := Kept.cell KB7.out HX2.out
      go_wp2_with fail
      refine (HTF.out _ (Kept.trans HK1.out KB7.out)).mono ?_
      rintro e w8 ⟨A8, n8, c8, rfl, le8, i8, k8⟩
      have I8 := Lib.hid i8
      have hn8 : n8 ≤ 10000 := (by rw [i8.1]; exact HLF.out)
      clear i8
      clear p0 p1 p2
      have KB8 := Lib.hid (Kept.trans KB7.out k8)
      have p0 := Kept.cell KB8.out HX0.out
      have p1 := Kept.cell KB8.out HX1.out
      have p2 := Kept.cell KB8.out HX2.out
      go_wp2_with fail
      refine wp_region_held_drew (S := (fun w' => w'.cell? ⟨w.heap.size, 0, none⟩ = some (.slice s.Ac s.nc s.cc) ∧ w'.cell? ⟨w.heap.size, 1, none⟩ = some (.slice s.Am s.nm s.cm) ∧ w'.cell? ⟨w.heap.size, 2, none⟩ = some (.slice s.Ae s.ne s.ce))) (by kernel_rfl) ⟨p0, p1, p2⟩ (fun hHeld => ?_)
      refine wpAnyH_take (i := 0) (v := ?_) rfl (by kernel_rfl) (by kernel_rfl) (by kernel_rfl) (fun _ _ _ h => h) (Or.inl ⟨by rfl, ?_⟩) (by assumption) ?_
      rotate_left
      · (intro w hSw; (try dsimp only at hSw); go_simp; (try with_reducible rfl))
      simp only [Act.put, List.setIfInBounds_toArray, List.set_cons_zero, List.set_cons_succ, List.getElem_toArray, List.getElem_cons_zero]
      refine wpAnyH_take (i := 1) (v := ?_) rfl (by kernel_rfl) (by kernel_rfl) (by kernel_rfl) (fun _ _ _ h => h) (Or.inl ⟨by rfl, ?_⟩) (by assumption) ?_
      rotate_left
      · (intro w hSw; (try dsimp only at hSw); go_simp; (try with_reducible rfl))
      simp only [Act.put, List.setIfInBounds_toArray, List.set_cons_zero, List.set_cons_succ, List.getElem_toArray, List.getElem_cons_zero, List.getElem_cons_succ]
      refine wpAnyH_take (i := 3) (v := ?_) rfl (by kernel_rfl) (by kernel_rfl) (by kernel_rfl) (fun _ _ _ h => h) (Or.inl ⟨by rfl, ?_⟩) (by assumption) ?_
      rotate_left
      · (intro w hSw; (try dsimp only at hSw); go_simp; (try with_reducible rfl))
      simp only [Act.put, List.setIfInBounds_toArray, List.set_cons_zero, List.set_cons_succ, List.getElem_toArray, List.getElem_cons_zero, List.getElem_cons_succ]
      refine wpAnyH_take (i := 4) (v := ?_) rfl (by kernel_rfl) (by kernel_rfl) (by kernel_rfl) (fun _ _ _ h => h) (Or.inl ⟨by rfl, ?_⟩) (by assumption) ?_
      rotate_left
      · (intro w hSw; (try dsimp only at hSw); go_simp; (try with_reducible rfl))
      simp only [Act.put, List.setIfInBounds_toArray, List.set_cons_zero, List.set_cons_succ, List.getElem_toArray, List.getElem_cons_zero, List.getElem_cons_succ]
      refine wpAnyH_ready (rs := [2]) (by kernel_rfl) (by simp) ?_
      refine AllReadyH.cons rfl (fun K hK => ?_) AllReadyH.nil
      go_simp
      (refine (HK3.out A8 n8 c8 _ (Kept.trans HK1.out (Kept.drew KB8.out)) hn8 (I8.out.kept (Kept.drew (Kept.refl _)))).mono ?_; rintro e w9 ⟨A9, n9, c9, rfl, le9, i9, k9⟩; have I9 := Lib.hid i9; have hn9 : n9 ≤ 10000 := (by rw [i9.1]; exact HL3.out); clear i9; have KB9 := Lib.hid (Kept.trans (Kept.drew KB8.out) k9))
      go_wp2_with fail
      refine hK.out _ _ ⟨Kept.cell KB9.out HX0.out, Kept.cell KB9.out HX1.out, Kept.cell KB9.out HX2.out⟩ (fun hHeld => ?_)
      clear hK K
      (try simp only [Act.put, List.setIfInBounds_toArray, List.set_cons_zero, List.set_cons_succ, List.getElem_toArray, List.getElem_cons_zero, List.getElem_cons_succ])
      refine wpAnyH_ready (rs := [5]) (by kernel_rfl) (by simp) ?_
      refine AllReadyH.cons rfl (fun K hK => ?_) AllReadyH.nil
      go_simp
      (refine (HT3.out _ (Kept.trans HK1.out KB9.out)).mono ?_; rintro e w10 ⟨A10, n10, c10, rfl, le10, i10, k10⟩; have I10 := Lib.hid i10; have hn10 : n10 ≤ 10000 := (by rw [i10.1]; exact HL3.out); clear i10; have KB10 := Lib.hid (Kept.trans KB9.out k10))
      go_wp2_with fail
      refine hK.out _ _ ⟨Kept.cell KB10.out HX0.out, Kept.cell KB10.out HX1.out, Kept.cell KB10.out HX2.out⟩ (fun hHeld => ?_)
      clear hK K
      (try simp only [Act.put, List.setIfInBounds_toArray, List.set_cons_zero, List.set_cons_succ, List.getElem_toArray, List.getElem_cons_zero, List.getElem_cons_succ])
      refine wpAnyH_ready (rs := [6]) (by kernel_rfl) (by simp) ?_
      refine AllReadyH.cons rfl (fun K hK => ?_) AllReadyH.nil
      go_simp
      (refine (r01_same X3 A9 A10 n9 n10 c9 c10 _ HL3.out (I9.out.kept k10) I10.out).mono ?_; rintro e w11 ⟨rfl, k11⟩; have KB11 := Lib.hid (Kept.trans KB10.out k11))
      go_wp2_with fail
      refine hK.out _ _ ⟨Kept.cell KB11.out HX0.out, Kept.cell KB11.out HX1.out, Kept.cell KB11.out HX2.out⟩ (fun hHeld => ?_)
      clear hK K
      (try simp only [Act.put, List.setIfInBounds_toArray, List.set_cons_zero, List.set_cons_succ, List.getElem_toArray, List.getElem_cons_zero, List.getElem_cons_succ])
      refine wpAnyH_take (i := 7) (v := ?_) rfl (by kernel_rfl) (by kernel_rfl) (by kernel_rfl) (fun _ _ _ h => h) (Or.inl ⟨by rfl, ?_⟩) (by assumption) ?_
      rotate_left
      · (intro w hSw; (try dsimp only at hSw); go_simp; (try with_reducible rfl))
      simp only [Act.put, List.setIfInBounds_toArray, List.set_cons_zero, List.set_cons_succ, List.getElem_toArray, List.getElem_cons_zero, List.getElem_cons_succ]
      refine wpAnyH_take (i := 8) (v := ?_) rfl (by kernel_rfl) (by kernel_rfl) (by kernel_rfl) (fun _ _ _ h => h) (Or.inl ⟨by rfl, ?_⟩) (by assumption) ?_
      rotate_left
      · (intro w hSw; (try dsimp only at hSw); go_simp; (try with_reducible rfl))
      simp only [Act.put, List.setIfInBounds_toArray, List.set_cons_zero, List.set_cons_succ, List.getElem_toArray, List.getElem_cons_zero, List.getElem_cons_succ]
      refine wpAnyH_take (i := 9) (v := ?_) rfl (by kernel_rfl) (by kernel_rfl) (by kernel_rfl) (fun _ _ _ h => h) (Or.inl ⟨by rfl, ?_⟩) (by assumption) ?_
      rotate_left
      · (intro w hSw; (try dsimp only at hSw); go_simp; (try with_reducible rfl))
      simp only [Act.put, List.setIfInBounds_toArray, List.set_cons_zero, List.set_cons_succ, List.getElem_toArray, List.getElem_cons_zero, List.getElem_cons_succ]
      refine wpAnyH_take (i := 11) (v := ?_) rfl (by kernel_rfl) (by kernel_rfl) (by kernel_rfl) (fun _ _ _ h => h) (Or.inl ⟨by rfl, ?_⟩) (by assumption) ?_
      rotate_left
      · (intro w hSw; (try dsimp only at hSw); go_simp; (try with_reducible rfl))
      simp only [Act.put, List.setIfInBounds_toArray, List.set_cons_zero, List.set_cons_succ, List.getElem_toArray, List.getElem_cons_zero, List.getElem_cons_succ]
      refine wpAnyH_take (i := 12) (v := ?_) rfl (by kernel_rfl) (by kernel_rfl) (by kernel_rfl) (fun _ _ _ h => h) (Or.inl ⟨by rfl, ?_⟩) (by assumption) ?_
      rotate_left
      · (intro w hSw; (try dsimp only at hSw); go_simp; (try with_reducible rfl))
      simp only [Act.put, List.setIfInBounds_toArray, List.set_cons_zero, List.set_cons_succ, List.getElem_toArray, List.getElem_cons_zero, List.getElem_cons_succ]
      refine wpAnyH_ready (rs := [10]) (by kernel_rfl) (by simp) ?_
      refine AllReadyH.cons rfl (fun K hK => ?_) AllReadyH.nil
      go_simp
      (refine (HK4.out A8 n8 c8 _ (Kept.trans HK1.out KB11.out) hn8 (I8.out.kept (Kept.trans (Kept.trans (Kept.drew (Kept.refl _)) k9) (Kept.trans k10 k11)))).mono ?_; rintro e w12 ⟨A12, n12, c12, rfl, le12, i12, k12⟩; have I12 := Lib.hid i12; have hn12 : n12 ≤ 10000 := (by rw [i12.1]; exact HL4.out); clear i12; have KB12 := Lib.hid (Kept.trans KB11.out k12))
      go_wp2_with fail
      refine hK.out _ _ ⟨Kept.cell KB12.out HX0.out, Kept.cell KB12.out HX1.out, Kept.cell KB12.out HX2.out⟩ (fun hHeld => ?_)
      clear hK K
      (try simp only [Act.put, List.setIfInBounds_toArray, List.set_cons_zero, List.set_cons_succ, List.getElem_toArray, List.getElem_cons_zero, List.getElem_cons_succ])
      refine wpAnyH_ready (rs := [13]) (by kernel_rfl) (by simp) ?_
      refine AllReadyH.cons rfl (fun K hK => ?_) AllReadyH.nil
      go_simp
      (refine (HT4.out _ (Kept.trans HK1.out KB12.out)).mono ?_; rintro e w13 ⟨A13, n13, c13, rfl, le13, i13, k13⟩; have I13 := Lib.hid i13; have hn13 : n13 ≤ 10000 := (by rw [i13.1]; exact HL4.out); clear i13; have KB13 := Lib.hid (Kept.trans KB12.out k13))
      go_wp2_with fail
      refine hK.out _ _ ⟨Kept.cell KB13.out HX0.out, Kept.cell KB13.out HX1.out, Kept.cell KB13.out HX2.out⟩ (fun hHeld => ?_)
      clear hK K
      (try simp only [Act.put, List.setIfInBounds_toArray, List.set_cons_zero, List.set_cons_succ, List.getElem_toArray, List.getElem_cons_zero, List.getElem_cons_succ])
      refine wpAnyH_ready (rs := [14]) (by kernel_rfl) (by simp) ?_
      refine AllReadyH.cons rfl (fun K hK => ?_) AllReadyH.nil
      go_simp
      (refine (r01_same X4 A12 A13 n12 n13 c12 c13 _ HL4.out (I12.out.kept k13) I13.out).mono ?_; rintro e w14 ⟨rfl, k14⟩; have KB14 := Lib.hid (Kept.trans KB13.out k14))
      go_wp2_with fail
      refine hK.out _ _ ⟨Kept.cell KB14.out HX0.out, Kept.cell KB14.out HX1.out, Kept.cell KB14.out HX2.out⟩ (fun hHeld => ?_)
      clear hK K
      (try simp only [Act.put, List.setIfInBounds_toArray, List.set_cons_zero, List.set_cons_succ, List.getElem_toArray, List.getElem_cons_zero, List.getElem_cons_succ])
      refine wpAnyH_take (i := 15) (v := ?_) rfl (by kernel_rfl) (by kernel_rfl) (by kernel_rfl) (fun _ _ _ h => h) (Or.inl ⟨by rfl, ?_⟩) (by assumption) ?_
      rotate_left
      · (intro w hSw; (try dsimp only at hSw); go_simp; (try with_reducible rfl))
      simp only [Act.put, List.setIfInBounds_toArray, List.set_cons_zero, List.set_cons_succ, List.getElem_toArray, List.getElem_cons_zero, List.getElem_cons_succ]
      refine wpAnyH_take (i := 16) (v := ?_) rfl (by kernel_rfl) (by kernel_rfl) (by kernel_rfl) (fun _ _ _ h => h) (Or.inl ⟨by rfl, ?_⟩) (by assumption) ?_
      rotate_left
      · (intro w hSw; (try dsimp only at hSw); go_simp; (try with_reducible rfl))
      simp only [Act.put, List.setIfInBounds_toArray, List.set_cons_zero, List.set_cons_succ, List.getElem_toArray, List.getElem_cons_zero, List.getElem_cons_succ]
      refine wpAnyH_ready (rs := [17]) (by kernel_rfl) (by simp) ?_
      refine AllReadyH.cons rfl (fun K hK => ?_) AllReadyH.nil
      go_simp
      (refine (alive23 _ (HG.out.kept (Kept.trans HK1.out KB14.out))).mono ?_; rintro e w15 ⟨rfl, k15⟩; have KB15 := Lib.hid (Kept.trans KB14.out k15))
      go_wp2_with fail
      refine hK.out _ _ ⟨Kept.cell KB15.out HX0.out, Kept.cell KB15.out HX1.out, Kept.cell KB15.out HX2.out⟩ (fun hHeld => ?_)
      clear hK K
      (try simp only [Act.put, List.setIfInBounds_toArray, List.set_cons_zero, List.set_cons_succ, List.getElem_toArray, List.getElem_cons_zero, List.getElem_cons_succ])
      refine wpAnyH_take (i := 18) (v := ?_) rfl (by kernel_rfl) (by kernel_rfl) (by kernel_rfl) (fun _ _ _ h => h) (Or.inl ⟨by rfl, ?_⟩) (by assumption) ?_
      rotate_left
      · (intro w hSw; (try dsimp only at hSw); go_simp; (try with_reducible rfl))
      simp only [Act.put, List.setIfInBounds_toArray, List.set_cons_zero, List.set_cons_succ, List.getElem_toArray, List.getElem_cons_zero, List.getElem_cons_succ]
      refine wpAnyH_take (i := 19) (v := ?_) rfl (by kernel_rfl) (by kernel_rfl) (by kernel_rfl) (fun _ _ _ h => h) (Or.inl ⟨by rfl, ?_⟩) (by assumption) ?_
      rotate_left
      · (intro w hSw; (try dsimp only at hSw); go_simp; (try with_reducible rfl))
      simp only [Act.put, List.setIfInBounds_toArray, List.set_cons_zero, List.set_cons_succ, List.getElem_toArray, List.getElem_cons_zero, List.getElem_cons_succ]
      refine wpAnyH_done (by kernel_rfl) ?_ _
      clear p0 p1 p2
      go_wp2_with fail
      go_ret
      exact ⟨rfl, (Kept.trans HK1.out KB15.out)⟩
end Go.Proofs.YtdogaaepiddnoaaDoor
