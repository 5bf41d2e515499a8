/- law23.NormalizeEqual returns true. -/
import Derived.Deep.RegionHeld3
import Derived.Test.YtdogaaepiddnoaaDoorKAlv
namespace Go.Proofs.YtdogaaepiddnoaaDoor
open Go Go.RowKit

set_option maxRecDepth 100000 in
set_option maxHeartbeats 4000000 in
theorem law_equal23 (s : Sls) (n : Nrm) (A : Option Addr) (l c : Nat) (xs : List Int) (B : Option Addr) (m d : Nat) (ys : List Int) (w : World) (hN : NormIn w s n) (hI : l ≤ c ∧ c ≤ 9223372036854775807 ∧ Ints w A l xs) (hJ : m ≤ d ∧ d ≤ 9223372036854775807 ∧ Ints w B m ys) (hG : Glob w) : Calls Tryd.prog 6 #[s.val, .slice A l c, .slice B m d] w (RetB w true) := by
  have hk1 := Kept.alloc (Kept.refl w) (Obj.cells #[Value.slice s.Ac s.nc s.cc, Value.slice s.Am s.nm s.cm, Value.slice s.Ae s.ne s.ce] 28)
  have HK1 := Lib.hid hk1
  have hbx := box_cell w #[Value.slice s.Ac s.nc s.cc, Value.slice s.Am s.nm s.cm, Value.slice s.Ae s.ne s.ce] 28
  have x0 : (w.alloc (Obj.cells #[Value.slice s.Ac s.nc s.cc, Value.slice s.Am s.nm s.cm, Value.slice s.Ae s.ne s.ce] 28)).cell? ⟨w.heap.size, 0, none⟩ = some (.slice s.Ac s.nc s.cc) := hbx 0
  have x1 : (w.alloc (Obj.cells #[Value.slice s.Ac s.nc s.cc, Value.slice s.Am s.nm s.cm, Value.slice s.Ae s.ne s.ce] 28)).cell? ⟨w.heap.size, 1, none⟩ = some (.slice s.Am s.nm s.cm) := hbx 1
  have x2 : (w.alloc (Obj.cells #[Value.slice s.Ac s.nc s.cc, Value.slice s.Am s.nm s.cm, Value.slice s.Ae s.ne s.ce] 28)).cell? ⟨w.heap.size, 2, none⟩ = some (.slice s.Ae s.ne s.ce) := hbx 2
  have HX0 := Lib.hid x0
  have HX1 := Lib.hid x1
  have HX2 := Lib.hid x2
  have HN := Lib.hid hN
  have HG := Lib.hid hG
  obtain ⟨hle, hbig, hI⟩ := hI
  obtain ⟨hle2, hbig2, hJ⟩ := hJ
  have HS := Lib.hid (few23 s n A l c (w.alloc (Obj.cells #[Value.slice s.Ac s.nc s.cc, Value.slice s.Am s.nm s.cm, Value.slice s.Ae s.ne s.ce] 28)) (hN.kept hk1) ⟨hle, hbig⟩)
  have HI := Lib.hid hI
  have HJ := Lib.hid hJ
  have hm63 : m ≤ 9223372036854775807 := by omega
  clear hN hG hk1 hbx x0 x1 x2 hI hle hbig hJ hle2 hbig2
  cases hsm : (smallB n && decide (l ≤ 40))
  · rw [hsm] at HS
    clear hsm
    unfold Sls.val at *
    go_enter Tryd.func6, Tryd.ntmps6
    go_wp2_with fail
    refine (HS.out).mono ?_
    rintro e w1 ⟨rfl, k1⟩
    have KB1 := Lib.hid (Kept.trans (Kept.refl (w.alloc (Obj.cells #[Value.slice s.Ac s.nc s.cc, Value.slice s.Am s.nm s.cm, Value.slice s.Ae s.ne s.ce] 28))) k1)
    go_wp2_with fail
    refine (alive23 _ (HG.out.kept (Kept.trans HK1.out KB1.out))).mono ?_
    rintro e w2 ⟨rfl, k2⟩
    have KB2 := Lib.hid (Kept.trans KB1.out k2)
    go_wp2_with fail
    go_ret
    exact ⟨rfl, (Kept.trans HK1.out KB2.out)⟩
  · rw [hsm] at HS
    obtain ⟨hsb, hl40⟩ := (Bool.and_eq_true _ _).mp hsm
    have hl40 := of_decide_eq_true hl40
    have HNA := Lib.hid (HN.out.small hsb)
    have HXL := Lib.hid HI.out.1
    clear hsm hsb
    by_cases hf : 40 < m
    · unfold Sls.val at *
      go_enter Tryd.func6, Tryd.ntmps6
      have p0 := HX0.out
      have p1 := HX1.out
      have p2 := HX2.out
      go_wp2_with fail
      refine (HS.out).mono ?_
      rintro e w1 ⟨rfl, k1⟩
      clear p0 p1 p2
      have KB1 := Lib.hid (Kept.trans (Kept.refl (w.alloc (Obj.cells #[Value.slice s.Ac s.nc s.cc, Value.slice s.Am s.nm s.cm, Value.slice s.Ae s.ne s.ce] 28))) k1)
      go_wp2_with fail
      refine (alive23 _ (HG.out.kept (Kept.trans HK1.out KB1.out))).mono ?_
      rintro e w2 ⟨rfl, k2⟩
      have KB2 := Lib.hid (Kept.trans KB1.out k2)
      go_wp2_with fail
      go_ret
      exact ⟨rfl, (Kept.trans HK1.out KB2.out)⟩
    · have HYL := Lib.hid HJ.out.1
      have HX_1 := Lib.hid (fun w' (hk : Kept w w') => form_any s n 1 A l c xs w' (HNA.out.kept hk) (HG.out.kept hk) (by omega) (HI.out.kept hk))
      have HY_1 := Lib.hid (fun w' (hk : Kept w w') => form_any s n 1 B m d ys w' (HNA.out.kept hk) (HG.out.kept hk) (by omega) (HJ.out.kept hk))
      have HLX1 := Lib.hid (show (formOf n 1 xs).length ≤ 10000 by have := formOf_length n 1 xs; have := HXL.out; omega)
      have HLY1 := Lib.hid (show (formOf n 1 ys).length ≤ 10000 by have := formOf_length n 1 ys; have := HYL.out; omega)
      have HX_2 := Lib.hid (fun w' (hk : Kept w w') => form_any s n 2 A l c xs w' (HNA.out.kept hk) (HG.out.kept hk) (by omega) (HI.out.kept hk))
      have HY_2 := Lib.hid (fun w' (hk : Kept w w') => form_any s n 2 B m d ys w' (HNA.out.kept hk) (HG.out.kept hk) (by omega) (HJ.out.kept hk))
      have HLX2 := Lib.hid (show (formOf n 2 xs).length ≤ 10000 by have := formOf_length n 2 xs; have := HXL.out; omega)
      have HLY2 := Lib.hid (show (formOf n 2 ys).length ≤ 10000 by have := formOf_length n 2 ys; have := HYL.out; omega)
      have HX_3 := Lib.hid (fun w' (hk : Kept w w') => form_any s n 3 A l c xs w' (HNA.out.kept hk) (HG.out.kept hk) (by omega) (HI.out.kept hk))
      have HY_3 := Lib.hid (fun w' (hk : Kept w w') => form_any s n 3 B m d ys w' (HNA.out.kept hk) (HG.out.kept hk) (by omega) (HJ.out.kept hk))
      have HLX3 := Lib.hid (show (formOf n 3 xs).length ≤ 10000 by have := formOf_length n 3 xs; have := HXL.out; omega)
      have HLY3 := Lib.hid (show (formOf n 3 ys).length ≤ 10000 by have := formOf_length n 3 ys; have := HYL.out; omega)
      have HX_4 := Lib.hid (fun w' (hk : Kept w w') => form_any s n 4 A l c xs w' (HNA.out.kept hk) (HG.out.kept hk) (by omega) (HI.out.kept hk))
      have HY_4 := Lib.hid (fun w' (hk : Kept w w') => form_any s n 4 B m d ys w' (HNA.out.kept hk) (HG.out.kept hk) (by omega) (HJ.out.kept hk))
      have HLX4 := Lib.hid (show (formOf n 4 xs).length ≤ 10000 by have := formOf_length n 4 xs; have := HXL.out; omega)
      have HLY4 := Lib.hid (show (formOf n 4 ys).length ≤ 10000 by have := formOf_length n 4 ys; have := HYL.out; omega)
      have HS2 := Lib.hid (fun w' (hk : Kept w w') => nsame_any s n false A l c xs B m d ys w' (HNA.out.kept hk) (HG.out.kept hk) (by omega) (by omega) (HI.out.kept hk) (HJ.out.kept hk))
      have HS4 := Lib.hid (fun w' (hk : Kept w w') => nsame_any s n true A l c xs B m d ys w' (HNA.out.kept hk) (HG.out.kept hk) (by omega) (by omega) (HI.out.kept hk) (HJ.out.kept hk))
      simp only [sameForm, Bool.false_eq_true, if_false, if_true] at HS2 HS4
      have hE1 : decide (formOf n 1 xs = formOf n 1 ys) = decide (formOf n 2 xs = formOf n 2 ys) := decide_eq_decide.2 (same_cd n xs ys)
      have hE2 : decide (formOf n 3 xs = formOf n 3 ys) = decide (formOf n 4 xs = formOf n 4 ys) := decide_eq_decide.2 (same_kckd n xs ys)
      have HIM := Lib.hid (same_dkd n xs ys)
      have HE1 := Lib.hid hE1
      have HE2 := Lib.hid hE2
      clear hE1 hE2
      generalize formOf n 1 xs = X1 at *
      generalize formOf n 1 ys = Y1 at *
      generalize formOf n 2 xs = X2 at *
      generalize formOf n 2 ys = Y2 at *
      generalize formOf n 3 xs = X3 at *
      generalize formOf n 3 ys = Y3 at *
      generalize formOf n 4 xs = X4 at *
      generalize formOf n 4 ys = Y4 at *
      obtain ⟨b2, hb2⟩ : ∃ b2 : Bool, decide (X2 = Y2) = b2 := ⟨_, rfl⟩
      obtain ⟨b4, hb4⟩ : ∃ b4 : Bool, decide (X4 = Y4) = b4 := ⟨_, rfl⟩
      rw [hb2] at HS2 HE1
      rw [hb4] at HS4 HE2
      have hor : b2 = false ∨ (b2 = true ∧ b4 = true) := by
        cases b2
        · exact .inl rfl
        · exact .inr ⟨rfl, by rw [← hb4]; exact decide_eq_true (HIM.out (of_decide_eq_true hb2))⟩
      have HB2 := Lib.hid hb2
      have HB4 := Lib.hid hb4
      clear hb2 hb4
      have s2 : (b2 == b2) = true := by cases b2 <;> rfl
      have s4 : (b4 == b4) = true := by cases b4 <;> rfl
      unfold Sls.val at *
      go_enter Tryd.func6, Tryd.ntmps6
      have p0 := HX0.out
      have p1 := HX1.out
      have p2 := HX2.out
      go_wp2_with fail
      refine (HS.out).mono ?_
      rintro e w1 ⟨rfl, k1⟩
      clear p0 p1 p2
      have KB1 := Lib.hid (Kept.trans (Kept.refl (w.alloc (Obj.cells #[Value.slice s.Ac s.nc s.cc, Value.slice s.Am s.nm s.cm, Value.slice s.Ae s.ne s.ce] 28))) k1)
      have HQ := Lib.hid (fun A' n' c' A'' n'' c'' w' (h1 : n' ≤ 10000) (h2 : n'' ≤ 10000) (i1 : Ints w' A' n' X1) (i2 : Ints w' A'' n'' Y1) => r01Equal A' A'' n' n'' c' c'' X1 Y1 w' (by omega) (by omega) i1 i2)
      rw [HE1.out] at HQ
      have p0 := Kept.cell KB1.out HX0.out
      have p1 := Kept.cell KB1.out HX1.out
      have p2 := Kept.cell KB1.out HX2.out
      go_wp2_with fail
      refine wp_region_held_drew (S := (fun w' => w'.cell? ⟨w.heap.size, 0, none⟩ = some (.slice s.Ac s.nc s.cc) ∧ w'.cell? ⟨w.heap.size, 1, none⟩ = some (.slice s.Am s.nm s.cm) ∧ w'.cell? ⟨w.heap.size, 2, none⟩ = some (.slice s.Ae s.ne s.ce))) (by kernel_rfl) ⟨p0, p1, p2⟩ (fun hHeld => ?_)
      refine wpAnyH_take (i := 0) (v := ?_) rfl (by kernel_rfl) (by kernel_rfl) (by kernel_rfl) (fun _ _ _ h => h) (Or.inl ⟨by rfl, ?_⟩) (by assumption) ?_
      rotate_left
      · (intro w hSw; (try dsimp only at hSw); go_simp; (try with_reducible rfl))
      simp only [Act.put, List.setIfInBounds_toArray, List.set_cons_zero, List.set_cons_succ, List.getElem_toArray, List.getElem_cons_zero]
      refine wpAnyH_take (i := 1) (v := ?_) rfl (by kernel_rfl) (by kernel_rfl) (by kernel_rfl) (fun _ _ _ h => h) (Or.inl ⟨by rfl, ?_⟩) (by assumption) ?_
      rotate_left
      · (intro w hSw; (try dsimp only at hSw); go_simp; (try with_reducible rfl))
      simp only [Act.put, List.setIfInBounds_toArray, List.set_cons_zero, List.set_cons_succ, List.getElem_toArray, List.getElem_cons_zero, List.getElem_cons_succ]
      refine wpAnyH_take (i := 3) (v := ?_) rfl (by kernel_rfl) (by kernel_rfl) (by kernel_rfl) (fun _ _ _ h => h) (Or.inl ⟨by rfl, ?_⟩) (by assumption) ?_
      rotate_left
      · (intro w hSw; (try dsimp only at hSw); go_simp; (try with_reducible rfl))
      simp only [Act.put, List.setIfInBounds_toArray, List.set_cons_zero, List.set_cons_succ, List.getElem_toArray, List.getElem_cons_zero, List.getElem_cons_succ]
      refine wpAnyH_take (i := 4) (v := ?_) rfl (by kernel_rfl) (by kernel_rfl) (by kernel_rfl) (fun _ _ _ h => h) (Or.inl ⟨by rfl, ?_⟩) (by assumption) ?_
      rotate_left
      · (intro w hSw; (try dsimp only at hSw); go_simp; (try with_reducible rfl))
      simp only [Act.put, List.setIfInBounds_toArray, List.set_cons_zero, List.set_cons_succ, List.getElem_toArray, List.getElem_cons_zero, List.getElem_cons_succ]
      refine wpAnyH_ready (rs := [2]) (by kernel_rfl) (by simp) ?_
      refine AllReadyH.cons rfl (fun K hK => ?_) AllReadyH.nil
      go_simp
      (refine (HX_1.out _ (Kept.trans HK1.out (Kept.drew KB1.out))).mono ?_; rintro e w2 ⟨A2, n2, c2, rfl, le2, i2, k2⟩; have I2 := Lib.hid i2; have hn2 : n2 ≤ 10000 := (by rw [i2.1]; exact HLX1.out); clear i2; have KB2 := Lib.hid (Kept.trans (Kept.drew KB1.out) k2))
      go_wp2_with fail
      refine hK.out _ _ ⟨Kept.cell KB2.out HX0.out, Kept.cell KB2.out HX1.out, Kept.cell KB2.out HX2.out⟩ (fun hHeld => ?_)
      clear hK K
      (try simp only [Act.put, List.setIfInBounds_toArray, List.set_cons_zero, List.set_cons_succ, List.getElem_toArray, List.getElem_cons_zero, List.getElem_cons_succ])
      refine wpAnyH_ready (rs := [5]) (by kernel_rfl) (by simp) ?_
      refine AllReadyH.cons rfl (fun K hK => ?_) AllReadyH.nil
      go_simp
      (refine (HY_1.out _ (Kept.trans HK1.out KB2.out)).mono ?_; rintro e w3 ⟨A3, n3, c3, rfl, le3, i3, k3⟩; have I3 := Lib.hid i3; have hn3 : n3 ≤ 10000 := (by rw [i3.1]; exact HLY1.out); clear i3; have KB3 := Lib.hid (Kept.trans KB2.out k3))
      go_wp2_with fail
      refine hK.out _ _ ⟨Kept.cell KB3.out HX0.out, Kept.cell KB3.out HX1.out, Kept.cell KB3.out HX2.out⟩ (fun hHeld => ?_)
      clear hK K
      (try simp only [Act.put, List.setIfInBounds_toArray, List.set_cons_zero, List.set_cons_succ, List.getElem_toArray, List.getElem_cons_zero, List.getElem_cons_succ])
      refine wpAnyH_ready (rs := [6]) (by kernel_rfl) (by simp) ?_
      refine AllReadyH.cons rfl (fun K hK => ?_) AllReadyH.nil
      go_simp
      (refine (HQ.out A2 n2 c2 A3 n3 c3 _ hn2 hn3 (I2.out.kept k3) I3.out).mono ?_; rintro e w4 ⟨rfl, k4⟩; have KB4 := Lib.hid (Kept.trans KB3.out k4))
      go_wp2_with fail
      refine hK.out _ _ ⟨Kept.cell KB4.out HX0.out, Kept.cell KB4.out HX1.out, Kept.cell KB4.out HX2.out⟩ (fun hHeld => ?_)
      clear hK K
      (try simp only [Act.put, List.setIfInBounds_toArray, List.set_cons_zero, List.set_cons_succ, List.getElem_toArray, List.getElem_cons_zero, List.getElem_cons_succ])
      refine wpAnyH_take (i := 7) (v := ?_) rfl (by kernel_rfl) (by kernel_rfl) (by kernel_rfl) (fun _ _ _ h => h) (Or.inl ⟨by rfl, ?_⟩) (by assumption) ?_
      rotate_left
      · (intro w hSw; (try dsimp only at hSw); go_simp; (try with_reducible rfl))
      simp only [Act.put, List.setIfInBounds_toArray, List.set_cons_zero, List.set_cons_succ, List.getElem_toArray, List.getElem_cons_zero, List.getElem_cons_succ]
      refine wpAnyH_done (by kernel_rfl) ?_ _
      clear p0 p1 p2
      clear HQ
      have HQ := Lib.hid (fun A' n' c' A'' n'' c'' w' (h1 : n' ≤ 10000) (h2 : n'' ≤ 10000) (i1 : Ints w' A' n' X2) (i2 : Ints w' A'' n'' Y2) => r01Equal A' A'' n' n'' c' c'' X2 Y2 w' (by omega) (by omega) i1 i2)
      rw [HB2.out] at HQ
      have p0 := Kept.cell KB4.out HX0.out
      have p1 := Kept.cell KB4.out HX1.out
      have p2 := Kept.cell KB4.out HX2.out
      go_wp2_with fail
      refine wp_region_held_drew (S := (fun w' => w'.cell? ⟨w.heap.size, 0, none⟩ = some (.slice s.Ac s.nc s.cc) ∧ w'.cell? ⟨w.heap.size, 1, none⟩ = some (.slice s.Am s.nm s.cm) ∧ w'.cell? ⟨w.heap.size, 2, none⟩ = some (.slice s.Ae s.ne s.ce))) (by kernel_rfl) ⟨p0, p1, p2⟩ (fun hHeld => ?_)
      refine wpAnyH_take (i := 0) (v := ?_) rfl (by kernel_rfl) (by kernel_rfl) (by kernel_rfl) (fun _ _ _ h => h) (Or.inl ⟨by rfl, ?_⟩) (by assumption) ?_
      rotate_left
      · (intro w hSw; (try dsimp only at hSw); go_simp; (try with_reducible rfl))
      simp only [Act.put, List.setIfInBounds_toArray, List.set_cons_zero, List.set_cons_succ, List.getElem_toArray, List.getElem_cons_zero]
      refine wpAnyH_take (i := 1) (v := ?_) rfl (by kernel_rfl) (by kernel_rfl) (by kernel_rfl) (fun _ _ _ h => h) (Or.inl ⟨by rfl, ?_⟩) (by assumption) ?_
      rotate_left
      · (intro w hSw; (try dsimp only at hSw); go_simp; (try with_reducible rfl))
      simp only [Act.put, List.setIfInBounds_toArray, List.set_cons_zero, List.set_cons_succ, List.getElem_toArray, List.getElem_cons_zero, List.getElem_cons_succ]
      refine wpAnyH_take (i := 3) (v := ?_) rfl (by kernel_rfl) (by kernel_rfl) (by kernel_rfl) (fun _ _ _ h => h) (Or.inl ⟨by rfl, ?_⟩) (by assumption) ?_
      rotate_left
      · (intro w hSw; (try dsimp only at hSw); go_simp; (try with_reducible rfl))
      simp only [Act.put, List.setIfInBounds_toArray, List.set_cons_zero, List.set_cons_succ, List.getElem_toArray, List.getElem_cons_zero, List.getElem_cons_succ]
      refine wpAnyH_take (i := 4) (v := ?_) rfl (by kernel_rfl) (by kernel_rfl) (by kernel_rfl) (fun _ _ _ h => h) (Or.inl ⟨by rfl, ?_⟩) (by assumption) ?_
      rotate_left
      · (intro w hSw; (try dsimp only at hSw); go_simp; (try with_reducible rfl))
      simp only [Act.put, List.setIfInBounds_toArray, List.set_cons_zero, List.set_cons_succ, List.getElem_toArray, List.getElem_cons_zero, List.getElem_cons_succ]
      refine wpAnyH_ready (rs := [2]) (by kernel_rfl) (by simp) ?_
      refine AllReadyH.cons rfl (fun K hK => ?_) AllReadyH.nil
      go_simp
      (refine (HX_2.out _ (Kept.trans HK1.out (Kept.drew KB4.out))).mono ?_; rintro e w5 ⟨A5, n5, c5, rfl, le5, i5, k5⟩; have I5 := Lib.hid i5; have hn5 : n5 ≤ 10000 := (by rw [i5.1]; exact HLX2.out); clear i5; have KB5 := Lib.hid (Kept.trans (Kept.drew KB4.out) k5))
      go_wp2_with fail
      refine hK.out _ _ ⟨Kept.cell KB5.out HX0.out, Kept.cell KB5.out HX1.out, Kept.cell KB5.out HX2.out⟩ (fun hHeld => ?_)
      clear hK K
      (try simp only [Act.put, List.setIfInBounds_toArray, List.set_cons_zero, List.set_cons_succ, List.getElem_toArray, List.getElem_cons_zero, List.getElem_cons_succ])
      refine wpAnyH_ready (rs := [5]) (by kernel_rfl) (by simp) ?_
      refine AllReadyH.cons rfl (fun K hK => ?_) AllReadyH.nil
      go_simp
      (refine (HY_2.out _ (Kept.trans HK1.out KB5.out)).mono ?_; rintro e w6 ⟨A6, n6, c6, rfl, le6, i6, k6⟩; have I6 := Lib.hid i6; have hn6 : n6 ≤ 10000 := (by rw [i6.1]; exact HLY2.out); clear i6; have KB6 := Lib.hid (Kept.trans KB5.out k6))
      go_wp2_with fail
      refine hK.out _ _ ⟨Kept.cell KB6.out HX0.out, Kept.cell KB6.out HX1.out, Kept.cell KB6.out HX2.out⟩ (fun hHeld => ?_)
      clear hK K
      (try simp only [Act.put, List.setIfInBounds_toArray, List.set_cons_zero, List.set_cons_succ, List.getElem_toArray, List.getElem_cons_zero, List.getElem_cons_succ])
      refine wpAnyH_ready (rs := [6]) (by kernel_rfl) (by simp) ?_
      refine AllReadyH.cons rfl (fun K hK => ?_) AllReadyH.nil
      go_simp
      (refine (HQ.out A5 n5 c5 A6 n6 c6 _ hn5 hn6 (I5.out.kept k6) I6.out).mono ?_; rintro e w7 ⟨rfl, k7⟩; have KB7 := Lib.hid (Kept.trans KB6.out k7))
      go_wp2_with fail
      refine hK.out _ _ ⟨Kept.cell KB7.out HX0.out, Kept.cell KB7.out HX1.out, Kept.cell KB7.out HX2.out⟩ (fun hHeld => ?_)
      clear hK K
      (try simp only [Act.put, List.setIfInBounds_toArray, List.set_cons_zero, List.set_cons_succ, List.getElem_toArray, List.getElem_cons_zero, List.getElem_cons_succ])
      refine wpAnyH_take (i := 7) (v := ?_) rfl (by kernel_rfl) (by kernel_rfl) (by kernel_rfl) (fun _ _ _ h => h) (Or.inl ⟨by rfl, ?_⟩) (by assumption) ?_
      rotate_left
      · (intro w hSw; (try dsimp only at hSw); go_simp; (try with_reducible rfl))
      simp only [Act.put, List.setIfInBounds_toArray, List.set_cons_zero, List.set_cons_succ, List.getElem_toArray, List.getElem_cons_zero, List.getElem_cons_succ]
      refine wpAnyH_done (by kernel_rfl) ?_ _
      clear p0 p1 p2
      clear HQ
      have HQ := Lib.hid (fun A' n' c' A'' n'' c'' w' (h1 : n' ≤ 10000) (h2 : n'' ≤ 10000) (i1 : Ints w' A' n' X3) (i2 : Ints w' A'' n'' Y3) => r01Equal A' A'' n' n'' c' c'' X3 Y3 w' (by omega) (by omega) i1 i2)
      rw [HE2.out] at HQ
      have p0 := Kept.cell KB7.out HX0.out
      have p1 := Kept.cell KB7.out HX1.out
      have p2 := Kept.cell KB7.out HX2.out
      go_wp2_with fail
      refine wp_region_held_drew (S := (fun w' => w'.cell? ⟨w.heap.size, 0, none⟩ = some (.slice s.Ac s.nc s.cc) ∧ w'.cell? ⟨w.heap.size, 1, none⟩ = some (.slice s.Am s.nm s.cm) ∧ w'.cell? ⟨w.heap.size, 2, none⟩ = some (.slice s.Ae s.ne s.ce))) (by kernel_rfl) ⟨p0, p1, p2⟩ (fun hHeld => ?_)
      refine wpAnyH_take (i := 0) (v := ?_) rfl (by kernel_rfl) (by kernel_rfl) (by kernel_rfl) (fun _ _ _ h => h) (Or.inl ⟨by rfl, ?_⟩) (by assumption) ?_
      rotate_left
      · (intro w hSw; (try dsimp only at hSw); go_simp; (try with_reducible rfl))
      simp only [Act.put, List.setIfInBounds_toArray, List.set_cons_zero, List.set_cons_succ, List.getElem_toArray, List.getElem_cons_zero]
      refine wpAnyH_take (i := 1) (v := ?_) rfl (by kernel_rfl) (by kernel_rfl) (by kernel_rfl) (fun _ _ _ h => h) (Or.inl ⟨by rfl, ?_⟩) (by assumption) ?_
      rotate_left
      · (intro w hSw; (try dsimp only at hSw); go_simp; (try with_reducible rfl))
      simp only [Act.put, List.setIfInBounds_toArray, List.set_cons_zero, List.set_cons_succ, List.getElem_toArray, List.getElem_cons_zero, List.getElem_cons_succ]
      refine wpAnyH_take (i := 3) (v := ?_) rfl (by kernel_rfl) (by kernel_rfl) (by kernel_rfl) (fun _ _ _ h => h) (Or.inl ⟨by rfl, ?_⟩) (by assumption) ?_
      rotate_left
      · (intro w hSw; (try dsimp only at hSw); go_simp; (try with_reducible rfl))
      simp only [Act.put, List.setIfInBounds_toArray, List.set_cons_zero, List.set_cons_succ, List.getElem_toArray, List.getElem_cons_zero, List.getElem_cons_succ]
      refine wpAnyH_take (i := 4) (v := ?_) rfl (by kernel_rfl) (by kernel_rfl) (by kernel_rfl) (fun _ _ _ h => h) (Or.inl ⟨by rfl, ?_⟩) (by assumption) ?_
      rotate_left
      · (intro w hSw; (try dsimp only at hSw); go_simp; (try with_reducible rfl))
      simp only [Act.put, List.setIfInBounds_toArray, List.set_cons_zero, List.set_cons_succ, List.getElem_toArray, List.getElem_cons_zero, List.getElem_cons_succ]
      refine wpAnyH_ready (rs := [2]) (by kernel_rfl) (by simp) ?_
      refine AllReadyH.cons rfl (fun K hK => ?_) AllReadyH.nil
      go_simp
      (refine (HX_3.out _ (Kept.trans HK1.out (Kept.drew KB7.out))).mono ?_; rintro e w8 ⟨A8, n8, c8, rfl, le8, i8, k8⟩; have I8 := Lib.hid i8; have hn8 : n8 ≤ 10000 := (by rw [i8.1]; exact HLX3.out); clear i8; have KB8 := Lib.hid (Kept.trans (Kept.drew KB7.out) k8))
      go_wp2_with fail
      refine hK.out _ _ ⟨Kept.cell KB8.out HX0.out, Kept.cell KB8.out HX1.out, Kept.cell KB8.out HX2.out⟩ (fun hHeld => ?_)
      clear hK K
      (try simp only [Act.put, List.setIfInBounds_toArray, List.set_cons_zero, List.set_cons_succ, List.getElem_toArray, List.getElem_cons_zero, List.getElem_cons_succ])
      refine wpAnyH_ready (rs := [5]) (by kernel_rfl) (by simp) ?_
      refine AllReadyH.cons rfl (fun K hK => ?_) AllReadyH.nil
      go_simp
      (refine (HY_3.out _ (Kept.trans HK1.out KB8.out)).mono ?_; rintro e w9 ⟨A9, n9, c9, rfl, le9, i9, k9⟩; have I9 := Lib.hid i9; have hn9 : n9 ≤ 10000 := (by rw [i9.1]; exact HLY3.out); clear i9; have KB9 := Lib.hid (Kept.trans KB8.out k9))
      go_wp2_with fail
      refine hK.out _ _ ⟨Kept.cell KB9.out HX0.out, Kept.cell KB9.out HX1.out, Kept.cell KB9.out HX2.out⟩ (fun hHeld => ?_)
      clear hK K
      (try simp only [Act.put, List.setIfInBounds_toArray, List.set_cons_zero, List.set_cons_succ, List.getElem_toArray, List.getElem_cons_zero, List.getElem_cons_succ])
      refine wpAnyH_ready (rs := [6]) (by kernel_rfl) (by simp) ?_
      refine AllReadyH.cons rfl (fun K hK => ?_) AllReadyH.nil
      go_simp
      (refine (HQ.out A8 n8 c8 A9 n9 c9 _ hn8 hn9 (I8.out.kept k9) I9.out).mono ?_; rintro e w10 ⟨rfl, k10⟩; have KB10 := Lib.hid (Kept.trans KB9.out k10))
      go_wp2_with fail
      refine hK.out _ _ ⟨Kept.cell KB10.out HX0.out, Kept.cell KB10.out HX1.out, Kept.cell KB10.out HX2.out⟩ (fun hHeld => ?_)
      clear hK K
      (try simp only [Act.put, List.setIfInBounds_toArray, List.set_cons_zero, List.set_cons_succ, List.getElem_toArray, List.getElem_cons_zero, List.getElem_cons_succ])
      refine wpAnyH_take (i := 7) (v := ?_) rfl (by kernel_rfl) (by kernel_rfl) (by kernel_rfl) (fun _ _ _ h => h) (Or.inl ⟨by rfl, ?_⟩) (by assumption) ?_
      rotate_left
      · (intro w hSw; (try dsimp only at hSw); go_simp; (try with_reducible rfl))
      simp only [Act.put, List.setIfInBounds_toArray, List.set_cons_zero, List.set_cons_succ, List.getElem_toArray, List.getElem_cons_zero, List.getElem_cons_succ]
      refine wpAnyH_done (by kernel_rfl) ?_ _
      clear p0 p1 p2
      clear HQ
      have HQ := Lib.hid (fun A' n' c' A'' n'' c'' w' (h1 : n' ≤ 10000) (h2 : n'' ≤ 10000) (i1 : Ints w' A' n' X4) (i2 : Ints w' A'' n'' Y4) => r01Equal A' A'' n' n'' c' c'' X4 Y4 w' (by omega) (by omega) i1 i2)
      rw [HB4.out] at HQ
      have p0 := Kept.cell KB10.out HX0.out
      have p1 := Kept.cell KB10.out HX1.out
      have p2 := Kept.cell KB10.out HX2.out
      go_wp2_with fail
      refine wp_region_held_drew (S := (fun w' => w'.cell? ⟨w.heap.size, 0, none⟩ = some (.slice s.Ac s.nc s.cc) ∧ w'.cell? ⟨w.heap.size, 1, none⟩ = some (.slice s.Am s.nm s.cm) ∧ w'.cell? ⟨w.heap.size, 2, none⟩ = some (.slice s.Ae s.ne s.ce))) (by kernel_rfl) ⟨p0, p1, p2⟩ (fun hHeld => ?_)
      refine wpAnyH_take (i := 0) (v := ?_) rfl (by kernel_rfl) (by kernel_rfl) (by kernel_rfl) (fun _ _ _ h => h) (Or.inl ⟨by rfl, ?_⟩) (by assumption) ?_
      rotate_left
      · (intro w hSw; (try dsimp only at hSw); go_simp; (try with_reducible rfl))
      simp only [Act.put, List.setIfInBounds_toArray, List.set_cons_zero, List.set_cons_succ, List.getElem_toArray, List.getElem_cons_zero]
      refine wpAnyH_take (i := 1) (v := ?_) rfl (by kernel_rfl) (by kernel_rfl) (by kernel_rfl) (fun _ _ _ h => h) (Or.inl ⟨by rfl, ?_⟩) (by assumption) ?_
      rotate_left
      · (intro w hSw; (try dsimp only at hSw); go_simp; (try with_reducible rfl))
      simp only [Act.put, List.setIfInBounds_toArray, List.set_cons_zero, List.set_cons_succ, List.getElem_toArray, List.getElem_cons_zero, List.getElem_cons_succ]
      refine wpAnyH_take (i := 3) (v := ?_) rfl (by kernel_rfl) (by kernel_rfl) (by kernel_rfl) (fun _ _ _ h => h) (Or.inl ⟨by rfl, ?_⟩) (by assumption) ?_
      rotate_left
      · (intro w hSw; (try dsimp only at hSw); go_simp; (try with_reducible rfl))
      simp only [Act.put, List.setIfInBounds_toArray, List.set_cons_zero, List.set_cons_succ, List.getElem_toArray, List.getElem_cons_zero, List.getElem_cons_succ]
      refine wpAnyH_take (i := 4) (v := ?_) rfl (by kernel_rfl) (by kernel_rfl) (by kernel_rfl) (fun _ _ _ h => h) (Or.inl ⟨by rfl, ?_⟩) (by assumption) ?_
      rotate_left
      · (intro w hSw; (try dsimp only at hSw); go_simp; (try with_reducible rfl))
      simp only [Act.put, List.setIfInBounds_toArray, List.set_cons_zero, List.set_cons_succ, List.getElem_toArray, List.getElem_cons_zero, List.getElem_cons_succ]
      refine wpAnyH_ready (rs := [2]) (by kernel_rfl) (by simp) ?_
      refine AllReadyH.cons rfl (fun K hK => ?_) AllReadyH.nil
      go_simp
      (refine (HX_4.out _ (Kept.trans HK1.out (Kept.drew KB10.out))).mono ?_; rintro e w11 ⟨A11, n11, c11, rfl, le11, i11, k11⟩; have I11 := Lib.hid i11; have hn11 : n11 ≤ 10000 := (by rw [i11.1]; exact HLX4.out); clear i11; have KB11 := Lib.hid (Kept.trans (Kept.drew KB10.out) k11))
      go_wp2_with fail
      refine hK.out _ _ ⟨Kept.cell KB11.out HX0.out, Kept.cell KB11.out HX1.out, Kept.cell KB11.out HX2.out⟩ (fun hHeld => ?_)
      clear hK K
      (try simp only [Act.put, List.setIfInBounds_toArray, List.set_cons_zero, List.set_cons_succ, List.getElem_toArray, List.getElem_cons_zero, List.getElem_cons_succ])
      refine wpAnyH_ready (rs := [5]) (by kernel_rfl) (by simp) ?_
      refine AllReadyH.cons rfl (fun K hK => ?_) AllReadyH.nil
      go_simp
      (refine (HY_4.out _ (Kept.trans HK1.out KB11.out)).mono ?_; rintro e w12 ⟨A12, n12, c12, rfl, le12, i12, k12⟩; have I12 := Lib.hid i12; have hn12 : n12 ≤ 10000 := (by rw [i12.1]; exact HLY4.out); clear i12; have KB12 := Lib.hid (Kept.trans KB11.out k12))
      go_wp2_with fail
      refine hK.out _ _ ⟨Kept.cell KB12.out HX0.out, Kept.cell KB12.out HX1.out, Kept.cell KB12.out HX2.out⟩ (fun hHeld => ?_)
      clear hK K
      (try simp only [Act.put, List.setIfInBounds_toArray, List.set_cons_zero, List.set_cons_succ, List.getElem_toArray, List.getElem_cons_zero, List.getElem_cons_succ])
      refine wpAnyH_ready (rs := [6]) (by kernel_rfl) (by simp) ?_
      refine AllReadyH.cons rfl (fun K hK => ?_) AllReadyH.nil
      go_simp
      (refine (HQ.out A11 n11 c11 A12 n12 c12 _ hn11 hn12 (I11.out.kept k12) I12.out).mono ?_; rintro e w13 ⟨rfl, k13⟩; have KB13 := Lib.hid (Kept.trans KB12.out k13))
      go_wp2_with fail
      refine hK.out _ _ ⟨Kept.cell KB13.out HX0.out, Kept.cell KB13.out HX1.out, Kept.cell KB13.out HX2.out⟩ (fun hHeld => ?_)
      clear hK K
      (try simp only [Act.put, List.setIfInBounds_toArray, List.set_cons_zero, List.set_cons_succ, List.getElem_toArray, List.getElem_cons_zero, List.getElem_cons_succ])
      refine wpAnyH_take (i := 7) (v := ?_) rfl (by kernel_rfl) (by kernel_rfl) (by kernel_rfl) (fun _ _ _ h => h) (Or.inl ⟨by rfl, ?_⟩) (by assumption) ?_
      rotate_left
      · (intro w hSw; (try dsimp only at hSw); go_simp; (try with_reducible rfl))
      simp only [Act.put, List.setIfInBounds_toArray, List.set_cons_zero, List.set_cons_succ, List.getElem_toArray, List.getElem_cons_zero, List.getElem_cons_succ]
      refine wpAnyH_done (by kernel_rfl) ?_ _
      clear p0 p1 p2
      clear HQ
      have p0 := Kept.cell KB13.out HX0.out
      have p1 := Kept.cell KB13.out HX1.out
      have p2 := Kept.cell KB13.out HX2.out
      go_wp2_with fail
      refine (HS2.out _ (Kept.trans HK1.out KB13.out)).mono ?_
      rintro e w14 ⟨rfl, k14⟩
      clear p0 p1 p2
      have KB14 := Lib.hid (Kept.trans KB13.out k14)
      have p0 := Kept.cell KB14.out HX0.out
      have p1 := Kept.cell KB14.out HX1.out
      have p2 := Kept.cell KB14.out HX2.out
      go_wp2_with fail
      refine (HS4.out _ (Kept.trans HK1.out KB14.out)).mono ?_
      rintro e w15 ⟨rfl, k15⟩
      clear p0 p1 p2
      have KB15 := Lib.hid (Kept.trans KB14.out k15)
      rcases hor with rfl | ⟨rfl, rfl⟩
      all_goals
        go_wp2_with fail
        refine (alive23 _ (HG.out.kept (Kept.trans HK1.out KB15.out))).mono ?_
        rintro e w16 ⟨rfl, k16⟩
        have KB16 := Lib.hid (Kept.trans KB15.out k16)
        go_wp2_with fail
        go_ret
        exact ⟨rfl, (Kept.trans HK1.out KB16.out)⟩
end Go.Proofs.YtdogaaepiddnoaaDoor
