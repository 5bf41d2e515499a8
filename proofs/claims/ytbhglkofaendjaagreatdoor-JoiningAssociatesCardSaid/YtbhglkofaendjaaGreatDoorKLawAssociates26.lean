/- law26.JoiningAssociates returns true. -/
import Derived.Deep.RegionHeld3
import Derived.Test.YtbhglkofaendjaaGreatDoorKAl6
import Derived.Test.YtbhglkofaendjaaGreatDoorKNrm
namespace Go.Proofs.YtbhglkofaendjaaGreatDoor
open Go Go.RowKit

set_option maxRecDepth 100000 in
set_option maxHeartbeats 4000000 in
theorem law_associates26 (s : Sls) (n : Nrm) (form : Int) (A : Option Addr) (l c : Nat) (xs : List Int) (B : Option Addr) (m d : Nat) (ys : List Int) (C : Option Addr) (q g : Nat) (zs : List Int) (w : World) (hN : NormIn w s n) (_hx : I64 form) (hI : l ≤ c ∧ c ≤ 9223372036854775807 ∧ Ints w A l xs) (hJ : m ≤ d ∧ d ≤ 9223372036854775807 ∧ Ints w B m ys) (hK : q ≤ g ∧ g ≤ 9223372036854775807 ∧ Ints w C q zs) (hG : Glob w) : Calls Tryz.prog 6 #[s.val, .int .i64 form, .agg #[.slice A l c, .slice B m d, .slice C q g]] w (RetB w true) := by
  have hk0 := Kept.alloc (Kept.refl w) (Obj.cells #[Value.slice s.Ac s.nc s.cc, Value.slice s.Am s.nm s.cm, Value.slice s.Ae s.ne s.ce] 28)
  have hk1 := Kept.alloc hk0 (Obj.cells #[Value.slice A l c, Value.slice B m d, Value.slice C q g] 45)
  have HK1 := Lib.hid hk1
  have hbx := alloc_lift (o := (Obj.cells #[Value.slice A l c, Value.slice B m d, Value.slice C q g] 45)) (box_block w (Obj.cells #[Value.slice s.Ac s.nc s.cc, Value.slice s.Am s.nm s.cm, Value.slice s.Ae s.ne s.ce] 28))
  have hby := box_block (w.alloc (Obj.cells #[Value.slice s.Ac s.nc s.cc, Value.slice s.Am s.nm s.cm, Value.slice s.Ae s.ne s.ce] 28)) (Obj.cells #[Value.slice A l c, Value.slice B m d, Value.slice C q g] 45)
  rw [World.size_alloc] at hby
  have x0 := cell_of_block (i := 0) hbx rfl
  have x1 := cell_of_block (i := 1) hbx rfl
  have x2 := cell_of_block (i := 2) hbx rfl
  have x3 := cell_of_block (i := 0) hby rfl
  have x4 := cell_of_block (i := 1) hby rfl
  have x5 := cell_of_block (i := 2) hby rfl
  simp only [List.getElem_toArray, List.getElem_cons_zero, List.getElem_cons_succ] at x0 x1 x2 x3 x4 x5
  have HX0 := Lib.hid x0
  have HX1 := Lib.hid x1
  have HX2 := Lib.hid x2
  have HX3 := Lib.hid x3
  have HX4 := Lib.hid x4
  have HX5 := Lib.hid x5
  have HN := Lib.hid hN
  have HG := Lib.hid hG
  clear hk0 hbx hby x3 x4 x5
  obtain ⟨hle, hbig, hI⟩ := hI
  obtain ⟨hle2, hbig2, hJ⟩ := hJ
  obtain ⟨hle3, hbig3, hK⟩ := hK
  have HS := Lib.hid (few26 s n A l c B m d ((w.alloc (Obj.cells #[Value.slice s.Ac s.nc s.cc, Value.slice s.Am s.nm s.cm, Value.slice s.Ae s.ne s.ce] 28)).alloc (Obj.cells #[Value.slice A l c, Value.slice B m d, Value.slice C q g] 45)) (hN.kept hk1) ⟨hle, hbig⟩ ⟨hle2, hbig2⟩)
  have HI := Lib.hid hI
  have HJ := Lib.hid hJ
  have HK := Lib.hid hK
  clear hN hG hk1 x0 x1 x2 hI hJ hK hbig hbig2
  cases hsm : (smallB n && (decide (l ≤ 20) && decide (m ≤ 20)))
  · rw [hsm] at HS
    clear hsm
    unfold Sls.val at *
    go_enter Tryz.func6, Tryz.ntmps6
    have p0 := HX0.out
    have p1 := HX1.out
    have p2 := HX2.out
    have p3 := HX3.out
    have p4 := HX4.out
    have p5 := HX5.out
    go_wp2_with fail
    refine (HS.out).mono ?_
    rintro e w1 ⟨rfl, k1⟩
    clear p0 p1 p2 p3 p4 p5
    have KB1 := Lib.hid (Kept.trans (Kept.refl ((w.alloc (Obj.cells #[Value.slice s.Ac s.nc s.cc, Value.slice s.Am s.nm s.cm, Value.slice s.Ae s.ne s.ce] 28)).alloc (Obj.cells #[Value.slice A l c, Value.slice B m d, Value.slice C q g] 45))) k1)
    go_wp2_with fail
    refine (alive26 _ (HG.out.kept (Kept.trans HK1.out KB1.out))).mono ?_
    rintro e w2 ⟨rfl, k2⟩
    have KB2 := Lib.hid (Kept.trans KB1.out k2)
    go_wp2_with fail
    go_ret
    exact ⟨rfl, (Kept.trans HK1.out KB2.out)⟩
  · rw [hsm] at HS
    obtain ⟨hsb, hsm2⟩ := (Bool.and_eq_true _ _).mp hsm
    obtain ⟨hl20, hm20⟩ := (Bool.and_eq_true _ _).mp hsm2
    have hl20 := of_decide_eq_true hl20
    have hm20 := of_decide_eq_true hm20
    have HNA := Lib.hid (HN.out.small hsb)
    have HXL := Lib.hid HI.out.1
    have HYL := Lib.hid HJ.out.1
    have HZL := Lib.hid HK.out.1
    clear hsm hsm2 hsb
    by_cases hq : 20 < q
    · unfold Sls.val at *
      go_enter Tryz.func6, Tryz.ntmps6
      have p0 := HX0.out
      have p1 := HX1.out
      have p2 := HX2.out
      have p3 := HX3.out
      have p4 := HX4.out
      have p5 := HX5.out
      go_wp2_with fail
      refine (HS.out).mono ?_
      rintro e w1 ⟨rfl, k1⟩
      clear p0 p1 p2 p3 p4 p5
      have KB1 := Lib.hid (Kept.trans (Kept.refl ((w.alloc (Obj.cells #[Value.slice s.Ac s.nc s.cc, Value.slice s.Am s.nm s.cm, Value.slice s.Ae s.ne s.ce] 28)).alloc (Obj.cells #[Value.slice A l c, Value.slice B m d, Value.slice C q g] 45))) k1)
      have p0 := Kept.cell KB1.out HX0.out
      have p1 := Kept.cell KB1.out HX1.out
      have p2 := Kept.cell KB1.out HX2.out
      have p3 := Kept.cell KB1.out HX3.out
      have p4 := Kept.cell KB1.out HX4.out
      have p5 := Kept.cell KB1.out HX5.out
      go_wp2_with fail
      refine (alive26 _ (HG.out.kept (Kept.trans HK1.out KB1.out))).mono ?_
      rintro e w2 ⟨rfl, k2⟩
      have KB2 := Lib.hid (Kept.trans KB1.out k2)
      go_wp2_with fail
      go_ret
      exact ⟨rfl, (Kept.trans HK1.out KB2.out)⟩
    · have hq20 : q ≤ 20 := by omega
      clear hq
      have HTX := Lib.hid (fun w' (hk : Kept w w') => form_any s n form A l c xs w' (HNA.out.kept hk) (HG.out.kept hk) (by omega) (HI.out.kept hk))
      have HLX := Lib.hid (show (formOf n form xs).length ≤ 10000 by have := formOf_length n form xs; have := HXL.out; omega)
      have HTY := Lib.hid (fun w' (hk : Kept w w') => form_any s n form B m d ys w' (HNA.out.kept hk) (HG.out.kept hk) (by omega) (HJ.out.kept hk))
      have HLY := Lib.hid (show (formOf n form ys).length ≤ 10000 by have := formOf_length n form ys; have := HYL.out; omega)
      have HTZ := Lib.hid (fun w' (hk : Kept w w') => form_any s n form C q g zs w' (HNA.out.kept hk) (HG.out.kept hk) (by omega) (HK.out.kept hk))
      have HLZ := Lib.hid (show (formOf n form zs).length ≤ 10000 by have := formOf_length n form zs; have := HZL.out; omega)
      have HJ1 := Lib.hid (fun A' n' c' A'' n'' c'' w' (hk : Kept w w') (h1 : n' ≤ 10000) (h2 : n'' ≤ 10000) (l1 : n' ≤ c') (l2 : n'' ≤ c'') (i1 : Ints w' A' n' (formOf n form xs)) (i2 : Ints w' A'' n'' (formOf n form ys)) => joinP_any s n form A' n' c' _ A'' n'' c'' _ w' (HNA.out.kept hk) (HG.out.kept hk) (by omega) (by omega) l1 l2 i1 i2)
      rw [join_two n form (form_again n form xs) (form_again n form ys), form_append] at HJ1
      have HJ2 := Lib.hid (fun A' n' c' A'' n'' c'' w' (hk : Kept w w') (h1 : n' ≤ 10000) (h2 : n'' ≤ 10000) (l1 : n' ≤ c') (l2 : n'' ≤ c'') (i1 : Ints w' A' n' (formOf n form (xs ++ ys))) (i2 : Ints w' A'' n'' (formOf n form zs)) => joinP_any s n form A' n' c' _ A'' n'' c'' _ w' (HNA.out.kept hk) (HG.out.kept hk) (by omega) (by omega) l1 l2 i1 i2)
      rw [join_two n form (form_again n form (xs ++ ys)) (form_again n form zs), form_append, List.append_assoc] at HJ2
      have HJ3 := Lib.hid (fun A' n' c' A'' n'' c'' w' (hk : Kept w w') (h1 : n' ≤ 10000) (h2 : n'' ≤ 10000) (l1 : n' ≤ c') (l2 : n'' ≤ c'') (i1 : Ints w' A' n' (formOf n form ys)) (i2 : Ints w' A'' n'' (formOf n form zs)) => joinP_any s n form A' n' c' _ A'' n'' c'' _ w' (HNA.out.kept hk) (HG.out.kept hk) (by omega) (by omega) l1 l2 i1 i2)
      rw [join_two n form (form_again n form ys) (form_again n form zs), form_append] at HJ3
      have HJ4 := Lib.hid (fun A' n' c' A'' n'' c'' w' (hk : Kept w w') (h1 : n' ≤ 10000) (h2 : n'' ≤ 10000) (l1 : n' ≤ c') (l2 : n'' ≤ c'') (i1 : Ints w' A' n' (formOf n form xs)) (i2 : Ints w' A'' n'' (formOf n form (ys ++ zs))) => joinP_any s n form A' n' c' _ A'' n'' c'' _ w' (HNA.out.kept hk) (HG.out.kept hk) (by omega) (by omega) l1 l2 i1 i2)
      rw [join_two n form (form_again n form xs) (form_again n form (ys ++ zs)), form_append] at HJ4
      have HJ5 := Lib.hid (fun A' n' c' w' (hk : Kept w w') (h1 : n' ≤ 10000) (l1 : n' ≤ c') (i1 : Ints w' A' n' (formOf n form xs)) => joinP_any s n form A' n' c' _ none 0 0 [] w' (HNA.out.kept hk) (HG.out.kept hk) (by omega) (by omega) l1 (Nat.le_refl _) i1 Sl.nil)
      rw [join_nil_right n form (form_again n form xs)] at HJ5
      have HJ6 := Lib.hid (fun A' n' c' w' (hk : Kept w w') (h1 : n' ≤ 10000) (l1 : n' ≤ c') (i1 : Ints w' A' n' (formOf n form xs)) => joinP_any s n form none 0 0 [] A' n' c' _ w' (HNA.out.kept hk) (HG.out.kept hk) (by omega) (by omega) (Nat.le_refl _) l1 Sl.nil i1)
      rw [join_nil_left n form (form_again n form xs)] at HJ6
      have HLXY := Lib.hid (show (formOf n form (xs ++ ys)).length ≤ 10000 by have h := formOf_length n form (xs ++ ys); simp only [List.length_append] at h; have := HXL.out; have := HYL.out; have := HZL.out; omega)
      have HLYZ := Lib.hid (show (formOf n form (ys ++ zs)).length ≤ 10000 by have h := formOf_length n form (ys ++ zs); simp only [List.length_append] at h; have := HXL.out; have := HYL.out; have := HZL.out; omega)
      have HLT := Lib.hid (show (formOf n form (xs ++ (ys ++ zs))).length ≤ 10000 by have h := formOf_length n form (xs ++ (ys ++ zs)); simp only [List.length_append] at h; have := HXL.out; have := HYL.out; have := HZL.out; omega)
      generalize formOf n form (xs ++ (ys ++ zs)) = T at *
      generalize formOf n form (xs ++ ys) = XY at *
      generalize formOf n form (ys ++ zs) = YZ at *
      generalize formOf n form xs = X at *
      generalize formOf n form ys = Y at *
      generalize formOf n form zs = Z at *
      unfold Sls.val at *
      go_enter Tryz.func6, Tryz.ntmps6
      have p0 := HX0.out
      have p1 := HX1.out
      have p2 := HX2.out
      have p3 := HX3.out
      have p4 := HX4.out
      have p5 := HX5.out
      go_wp2_with fail
      refine (HS.out).mono ?_
      rintro e w1 ⟨rfl, k1⟩
      clear p0 p1 p2 p3 p4 p5
      have KB1 := Lib.hid (Kept.trans (Kept.refl ((w.alloc (Obj.cells #[Value.slice s.Ac s.nc s.cc, Value.slice s.Am s.nm s.cm, Value.slice s.Ae s.ne s.ce] 28)).alloc (Obj.cells #[Value.slice A l c, Value.slice B m d, Value.slice C q g] 45))) k1)
      have p0 := Kept.cell KB1.out HX0.out
      have p1 := Kept.cell KB1.out HX1.out
      have p2 := Kept.cell KB1.out HX2.out
      have p3 := Kept.cell KB1.out HX3.out
      have p4 := Kept.cell KB1.out HX4.out
      have p5 := Kept.cell KB1.out HX5.out
      go_wp2_with fail
      refine wp_region_held_drew (S := (fun w' => w'.cell? ⟨w.heap.size, 0, none⟩ = some (.slice s.Ac s.nc s.cc) ∧ w'.cell? ⟨w.heap.size, 1, none⟩ = some (.slice s.Am s.nm s.cm) ∧ w'.cell? ⟨w.heap.size, 2, none⟩ = some (.slice s.Ae s.ne s.ce) ∧ w'.cell? ⟨w.heap.size + 1, 0, none⟩ = some (.slice A l c) ∧ w'.cell? ⟨w.heap.size + 1, 1, none⟩ = some (.slice B m d) ∧ w'.cell? ⟨w.heap.size + 1, 2, none⟩ = some (.slice C q g))) (by kernel_rfl) ⟨p0, p1, p2, p3, p4, p5⟩ (fun hHeld => ?_)
      refine wpAnyH_take (i := 0) (v := ?_) rfl (by kernel_rfl) (by kernel_rfl) (by kernel_rfl) (fun _ _ _ h => h) (Or.inl ⟨by rfl, ?_⟩) (by assumption) ?_
      rotate_left
      · (intro w hSw; (try dsimp only at hSw); go_simp; (try with_reducible rfl))
      simp only [Act.put, List.setIfInBounds_toArray, List.set_cons_zero, List.set_cons_succ, List.getElem_toArray, List.getElem_cons_zero]
      refine wpAnyH_take (i := 1) (v := ?_) rfl (by kernel_rfl) (by kernel_rfl) (by kernel_rfl) (fun _ _ _ h => h) (Or.inl ⟨by rfl, ?_⟩) (by assumption) ?_
      rotate_left
      · (intro w hSw; (try dsimp only at hSw); go_simp; (try with_reducible rfl))
      simp only [Act.put, List.setIfInBounds_toArray, List.set_cons_zero, List.set_cons_succ, List.getElem_toArray, List.getElem_cons_zero, List.getElem_cons_succ]
      refine wpAnyH_take (i := 2) (v := ?_) rfl (by kernel_rfl) (by kernel_rfl) (by kernel_rfl) (fun _ _ _ h => h) (Or.inl ⟨by rfl, ?_⟩) (by assumption) ?_
      rotate_left
      · (intro w hSw; (try dsimp only at hSw); go_simp; (try with_reducible rfl))
      simp only [Act.put, List.setIfInBounds_toArray, List.set_cons_zero, List.set_cons_succ, List.getElem_toArray, List.getElem_cons_zero, List.getElem_cons_succ]
      refine wpAnyH_take (i := 3) (v := ?_) rfl (by kernel_rfl) (by kernel_rfl) (by kernel_rfl) (fun _ _ _ h => h) (Or.inl ⟨by rfl, ?_⟩) (by assumption) ?_
      rotate_left
      · (intro w hSw; (try dsimp only at hSw); go_simp; (try with_reducible rfl))
      simp only [Act.put, List.setIfInBounds_toArray, List.set_cons_zero, List.set_cons_succ, List.getElem_toArray, List.getElem_cons_zero, List.getElem_cons_succ]
      refine wpAnyH_take (i := 5) (v := ?_) rfl (by kernel_rfl) (by kernel_rfl) (by kernel_rfl) (fun _ _ _ h => h) (Or.inl ⟨by rfl, ?_⟩) (by assumption) ?_
      rotate_left
      · (intro w hSw; (try dsimp only at hSw); go_simp; (try with_reducible rfl))
      simp only [Act.put, List.setIfInBounds_toArray, List.set_cons_zero, List.set_cons_succ, List.getElem_toArray, List.getElem_cons_zero, List.getElem_cons_succ]
      refine wpAnyH_take (i := 6) (v := ?_) rfl (by kernel_rfl) (by kernel_rfl) (by kernel_rfl) (fun _ _ _ h => h) (Or.inl ⟨by rfl, ?_⟩) (by assumption) ?_
      rotate_left
      · (intro w hSw; (try dsimp only at hSw); go_simp; (try with_reducible rfl))
      simp only [Act.put, List.setIfInBounds_toArray, List.set_cons_zero, List.set_cons_succ, List.getElem_toArray, List.getElem_cons_zero, List.getElem_cons_succ]
      refine wpAnyH_take (i := 7) (v := ?_) rfl (by kernel_rfl) (by kernel_rfl) (by kernel_rfl) (fun _ _ _ h => h) (Or.inl ⟨by rfl, ?_⟩) (by assumption) ?_
      rotate_left
      · (intro w hSw; (try dsimp only at hSw); go_simp; (try with_reducible rfl))
      simp only [Act.put, List.setIfInBounds_toArray, List.set_cons_zero, List.set_cons_succ, List.getElem_toArray, List.getElem_cons_zero, List.getElem_cons_succ]
      refine wpAnyH_take (i := 8) (v := ?_) rfl (by kernel_rfl) (by kernel_rfl) (by kernel_rfl) (fun _ _ _ h => h) (Or.inl ⟨by rfl, ?_⟩) (by assumption) ?_
      rotate_left
      · (intro w hSw; (try dsimp only at hSw); go_simp; (try with_reducible rfl))
      simp only [Act.put, List.setIfInBounds_toArray, List.set_cons_zero, List.set_cons_succ, List.getElem_toArray, List.getElem_cons_zero, List.getElem_cons_succ]
      refine wpAnyH_take (i := 10) (v := ?_) rfl (by kernel_rfl) (by kernel_rfl) (by kernel_rfl) (fun _ _ _ h => h) (Or.inl ⟨by rfl, ?_⟩) (by assumption) ?_
      rotate_left
      · (intro w hSw; (try dsimp only at hSw); go_simp; (try with_reducible rfl))
      simp only [Act.put, List.setIfInBounds_toArray, List.set_cons_zero, List.set_cons_succ, List.getElem_toArray, List.getElem_cons_zero, List.getElem_cons_succ]
      refine wpAnyH_take (i := 11) (v := ?_) rfl (by kernel_rfl) (by kernel_rfl) (by kernel_rfl) (fun _ _ _ h => h) (Or.inl ⟨by rfl, ?_⟩) (by assumption) ?_
      rotate_left
      · (intro w hSw; (try dsimp only at hSw); go_simp; (try with_reducible rfl))
      simp only [Act.put, List.setIfInBounds_toArray, List.set_cons_zero, List.set_cons_succ, List.getElem_toArray, List.getElem_cons_zero, List.getElem_cons_succ]
      refine wpAnyH_take (i := 12) (v := ?_) rfl (by kernel_rfl) (by kernel_rfl) (by kernel_rfl) (fun _ _ _ h => h) (Or.inl ⟨by rfl, ?_⟩) (by assumption) ?_
      rotate_left
      · (intro w hSw; (try dsimp only at hSw); go_simp; (try with_reducible rfl))
      simp only [Act.put, List.setIfInBounds_toArray, List.set_cons_zero, List.set_cons_succ, List.getElem_toArray, List.getElem_cons_zero, List.getElem_cons_succ]
      refine wpAnyH_take (i := 13) (v := ?_) rfl (by kernel_rfl) (by kernel_rfl) (by kernel_rfl) (fun _ _ _ h => h) (Or.inl ⟨by rfl, ?_⟩) (by assumption) ?_
      rotate_left
      · (intro w hSw; (try dsimp only at hSw); go_simp; (try with_reducible rfl))
      simp only [Act.put, List.setIfInBounds_toArray, List.set_cons_zero, List.set_cons_succ, List.getElem_toArray, List.getElem_cons_zero, List.getElem_cons_succ]
      refine wpAnyH_ready (rs := [4]) (by kernel_rfl) (by simp) ?_
      refine AllReadyH.cons rfl (fun K hK => ?_) AllReadyH.nil
      go_simp
      (refine (HTX.out _ (Kept.trans HK1.out (Kept.drew KB1.out))).mono ?_; rintro e w2 ⟨A2, n2, c2, rfl, le2, i2, k2⟩; have I2 := Lib.hid i2; have hn2 : n2 ≤ 10000 := (by rw [i2.1]; exact HLX.out); clear i2; have KB2 := Lib.hid (Kept.trans (Kept.drew KB1.out) k2))
      go_wp2_with fail
      refine hK.out _ _ ⟨Kept.cell KB2.out HX0.out, Kept.cell KB2.out HX1.out, Kept.cell KB2.out HX2.out, Kept.cell KB2.out HX3.out, Kept.cell KB2.out HX4.out, Kept.cell KB2.out HX5.out⟩ (fun hHeld => ?_)
      clear hK K
      (try simp only [Act.put, List.setIfInBounds_toArray, List.set_cons_zero, List.set_cons_succ, List.getElem_toArray, List.getElem_cons_zero, List.getElem_cons_succ])
      refine wpAnyH_ready (rs := [9]) (by kernel_rfl) (by simp) ?_
      refine AllReadyH.cons rfl (fun K hK => ?_) AllReadyH.nil
      go_simp
      (refine (HTY.out _ (Kept.trans HK1.out KB2.out)).mono ?_; rintro e w3 ⟨A3, n3, c3, rfl, le3, i3, k3⟩; have I3 := Lib.hid i3; have hn3 : n3 ≤ 10000 := (by rw [i3.1]; exact HLY.out); clear i3; have KB3 := Lib.hid (Kept.trans KB2.out k3))
      go_wp2_with fail
      refine hK.out _ _ ⟨Kept.cell KB3.out HX0.out, Kept.cell KB3.out HX1.out, Kept.cell KB3.out HX2.out, Kept.cell KB3.out HX3.out, Kept.cell KB3.out HX4.out, Kept.cell KB3.out HX5.out⟩ (fun hHeld => ?_)
      clear hK K
      (try simp only [Act.put, List.setIfInBounds_toArray, List.set_cons_zero, List.set_cons_succ, List.getElem_toArray, List.getElem_cons_zero, List.getElem_cons_succ])
      refine wpAnyH_ready (rs := [14]) (by kernel_rfl) (by simp) ?_
      refine AllReadyH.cons rfl (fun K hK => ?_) AllReadyH.nil
      go_simp
      (refine (HTZ.out _ (Kept.trans HK1.out KB3.out)).mono ?_; rintro e w4 ⟨A4, n4, c4, rfl, le4, i4, k4⟩; have I4 := Lib.hid i4; have hn4 : n4 ≤ 10000 := (by rw [i4.1]; exact HLZ.out); clear i4; have KB4 := Lib.hid (Kept.trans KB3.out k4))
      go_wp2_with fail
      refine hK.out _ _ ⟨Kept.cell KB4.out HX0.out, Kept.cell KB4.out HX1.out, Kept.cell KB4.out HX2.out, Kept.cell KB4.out HX3.out, Kept.cell KB4.out HX4.out, Kept.cell KB4.out HX5.out⟩ (fun hHeld => ?_)
      clear hK K
      (try simp only [Act.put, List.setIfInBounds_toArray, List.set_cons_zero, List.set_cons_succ, List.getElem_toArray, List.getElem_cons_zero, List.getElem_cons_succ])
      refine wpAnyH_take (i := 15) (v := ?_) rfl (by kernel_rfl) (by kernel_rfl) (by kernel_rfl) (fun _ _ _ h => h) (Or.inl ⟨by rfl, ?_⟩) (by assumption) ?_
      rotate_left
      · (intro w hSw; (try dsimp only at hSw); go_simp; (try with_reducible rfl))
      simp only [Act.put, List.setIfInBounds_toArray, List.set_cons_zero, List.set_cons_succ, List.getElem_toArray, List.getElem_cons_zero, List.getElem_cons_succ]
      refine wpAnyH_take (i := 16) (v := ?_) rfl (by kernel_rfl) (by kernel_rfl) (by kernel_rfl) (fun _ _ _ h => h) (Or.inl ⟨by rfl, ?_⟩) (by assumption) ?_
      rotate_left
      · (intro w hSw; (try dsimp only at hSw); go_simp; (try with_reducible rfl))
      simp only [Act.put, List.setIfInBounds_toArray, List.set_cons_zero, List.set_cons_succ, List.getElem_toArray, List.getElem_cons_zero, List.getElem_cons_succ]
      refine wpAnyH_take (i := 17) (v := ?_) rfl (by kernel_rfl) (by kernel_rfl) (by kernel_rfl) (fun _ _ _ h => h) (Or.inl ⟨by rfl, ?_⟩) (by assumption) ?_
      rotate_left
      · (intro w hSw; (try dsimp only at hSw); go_simp; (try with_reducible rfl))
      simp only [Act.put, List.setIfInBounds_toArray, List.set_cons_zero, List.set_cons_succ, List.getElem_toArray, List.getElem_cons_zero, List.getElem_cons_succ]
      refine wpAnyH_done (by kernel_rfl) ?_ _
      clear p0 p1 p2 p3 p4 p5
      have p0 := Kept.cell KB4.out HX0.out
      have p1 := Kept.cell KB4.out HX1.out
      have p2 := Kept.cell KB4.out HX2.out
      have p3 := Kept.cell KB4.out HX3.out
      have p4 := Kept.cell KB4.out HX4.out
      have p5 := Kept.cell KB4.out HX5.out
      go_wp2_with fail
      refine wp_region_held_drew (S := (fun w' => w'.cell? ⟨w.heap.size, 0, none⟩ = some (.slice s.Ac s.nc s.cc) ∧ w'.cell? ⟨w.heap.size, 1, none⟩ = some (.slice s.Am s.nm s.cm) ∧ w'.cell? ⟨w.heap.size, 2, none⟩ = some (.slice s.Ae s.ne s.ce) ∧ w'.cell? ⟨w.heap.size + 1, 0, none⟩ = some (.slice A l c) ∧ w'.cell? ⟨w.heap.size + 1, 1, none⟩ = some (.slice B m d) ∧ w'.cell? ⟨w.heap.size + 1, 2, none⟩ = some (.slice C q g))) (by kernel_rfl) ⟨p0, p1, p2, p3, p4, p5⟩ (fun hHeld => ?_)
      refine wpAnyH_take (i := 0) (v := ?_) rfl (by kernel_rfl) (by kernel_rfl) (by kernel_rfl) (fun _ _ _ h => h) (Or.inl ⟨by rfl, ?_⟩) (by assumption) ?_
      rotate_left
      · (intro w hSw; (try dsimp only at hSw); go_simp; (try with_reducible rfl))
      simp only [Act.put, List.setIfInBounds_toArray, List.set_cons_zero, List.set_cons_succ, List.getElem_toArray, List.getElem_cons_zero]
      refine wpAnyH_take (i := 1) (v := ?_) rfl (by kernel_rfl) (by kernel_rfl) (by kernel_rfl) (fun _ _ _ h => h) (Or.inl ⟨by rfl, ?_⟩) (by assumption) ?_
      rotate_left
      · (intro w hSw; (try dsimp only at hSw); go_simp; (try with_reducible rfl))
      simp only [Act.put, List.setIfInBounds_toArray, List.set_cons_zero, List.set_cons_succ, List.getElem_toArray, List.getElem_cons_zero, List.getElem_cons_succ]
      refine wpAnyH_take (i := 2) (v := ?_) rfl (by kernel_rfl) (by kernel_rfl) (by kernel_rfl) (fun _ _ _ h => h) (Or.inl ⟨by rfl, ?_⟩) (by assumption) ?_
      rotate_left
      · (intro w hSw; (try dsimp only at hSw); go_simp; (try with_reducible rfl))
      simp only [Act.put, List.setIfInBounds_toArray, List.set_cons_zero, List.set_cons_succ, List.getElem_toArray, List.getElem_cons_zero, List.getElem_cons_succ]
      refine wpAnyH_take (i := 3) (v := ?_) rfl (by kernel_rfl) (by kernel_rfl) (by kernel_rfl) (fun _ _ _ h => h) (Or.inl ⟨by rfl, ?_⟩) (by assumption) ?_
      rotate_left
      · (intro w hSw; (try dsimp only at hSw); go_simp; (try with_reducible rfl))
      simp only [Act.put, List.setIfInBounds_toArray, List.set_cons_zero, List.set_cons_succ, List.getElem_toArray, List.getElem_cons_zero, List.getElem_cons_succ]
      refine wpAnyH_take (i := 4) (v := ?_) rfl (by kernel_rfl) (by kernel_rfl) (by kernel_rfl) (fun _ _ _ h => h) (Or.inl ⟨by rfl, ?_⟩) (by assumption) ?_
      rotate_left
      · (intro w hSw; (try dsimp only at hSw); go_simp; (try with_reducible rfl))
      simp only [Act.put, List.setIfInBounds_toArray, List.set_cons_zero, List.set_cons_succ, List.getElem_toArray, List.getElem_cons_zero, List.getElem_cons_succ]
      refine wpAnyH_take (i := 5) (v := ?_) rfl (by kernel_rfl) (by kernel_rfl) (by kernel_rfl) (fun _ _ _ h => h) (Or.inl ⟨by rfl, ?_⟩) (by assumption) ?_
      rotate_left
      · (intro w hSw; (try dsimp only at hSw); go_simp; (try with_reducible rfl))
      simp only [Act.put, List.setIfInBounds_toArray, List.set_cons_zero, List.set_cons_succ, List.getElem_toArray, List.getElem_cons_zero, List.getElem_cons_succ]
      refine wpAnyH_take (i := 7) (v := ?_) rfl (by kernel_rfl) (by kernel_rfl) (by kernel_rfl) (fun _ _ _ h => h) (Or.inl ⟨by rfl, ?_⟩) (by assumption) ?_
      rotate_left
      · (intro w hSw; (try dsimp only at hSw); go_simp; (try with_reducible rfl))
      simp only [Act.put, List.setIfInBounds_toArray, List.set_cons_zero, List.set_cons_succ, List.getElem_toArray, List.getElem_cons_zero, List.getElem_cons_succ]
      refine wpAnyH_ready (rs := [6]) (by kernel_rfl) (by simp) ?_
      refine AllReadyH.cons rfl (fun K hK => ?_) AllReadyH.nil
      go_simp
      (refine (HJ1.out A2 n2 c2 A3 n3 c3 _ (Kept.trans HK1.out (Kept.drew KB4.out)) hn2 hn3 le2 le3 (I2.out.kept (Kept.trans k3 (Kept.trans k4 (Kept.drew (Kept.refl _))))) (I3.out.kept (Kept.trans k4 (Kept.drew (Kept.refl _))))).mono ?_; rintro e w5 ⟨A5, n5, c5, rfl, le5, i5, k5⟩; have I5 := Lib.hid i5; have hn5 : n5 ≤ 10000 := (by rw [i5.1]; exact HLXY.out); clear i5; have KB5 := Lib.hid (Kept.trans (Kept.drew KB4.out) k5))
      go_wp2_with fail
      refine hK.out _ _ ⟨Kept.cell KB5.out HX0.out, Kept.cell KB5.out HX1.out, Kept.cell KB5.out HX2.out, Kept.cell KB5.out HX3.out, Kept.cell KB5.out HX4.out, Kept.cell KB5.out HX5.out⟩ (fun hHeld => ?_)
      clear hK K
      (try simp only [Act.put, List.setIfInBounds_toArray, List.set_cons_zero, List.set_cons_succ, List.getElem_toArray, List.getElem_cons_zero, List.getElem_cons_succ])
      refine wpAnyH_ready (rs := [8]) (by kernel_rfl) (by simp) ?_
      refine AllReadyH.cons rfl (fun K hK => ?_) AllReadyH.nil
      go_simp
      (refine (HJ2.out A5 n5 c5 A4 n4 c4 _ (Kept.trans HK1.out KB5.out) hn5 hn4 le5 le4 I5.out (I4.out.kept (Kept.trans (Kept.drew (Kept.refl _)) k5))).mono ?_; rintro e w6 ⟨A6, n6, c6, rfl, le6, i6, k6⟩; have I6 := Lib.hid i6; have hn6 : n6 ≤ 10000 := (by rw [i6.1]; exact HLT.out); clear i6; have KB6 := Lib.hid (Kept.trans KB5.out k6))
      go_wp2_with fail
      refine hK.out _ _ ⟨Kept.cell KB6.out HX0.out, Kept.cell KB6.out HX1.out, Kept.cell KB6.out HX2.out, Kept.cell KB6.out HX3.out, Kept.cell KB6.out HX4.out, Kept.cell KB6.out HX5.out⟩ (fun hHeld => ?_)
      clear hK K
      (try simp only [Act.put, List.setIfInBounds_toArray, List.set_cons_zero, List.set_cons_succ, List.getElem_toArray, List.getElem_cons_zero, List.getElem_cons_succ])
      refine wpAnyH_take (i := 9) (v := ?_) rfl (by kernel_rfl) (by kernel_rfl) (by kernel_rfl) (fun _ _ _ h => h) (Or.inl ⟨by rfl, ?_⟩) (by assumption) ?_
      rotate_left
      · (intro w hSw; (try dsimp only at hSw); go_simp; (try with_reducible rfl))
      simp only [Act.put, List.setIfInBounds_toArray, List.set_cons_zero, List.set_cons_succ, List.getElem_toArray, List.getElem_cons_zero, List.getElem_cons_succ]
      refine wpAnyH_done (by kernel_rfl) ?_ _
      clear p0 p1 p2 p3 p4 p5
      have p0 := Kept.cell KB6.out HX0.out
      have p1 := Kept.cell KB6.out HX1.out
      have p2 := Kept.cell KB6.out HX2.out
      have p3 := Kept.cell KB6.out HX3.out
      have p4 := Kept.cell KB6.out HX4.out
      have p5 := Kept.cell KB6.out HX5.out
      go_wp2_with fail
      refine wp_region_held_drew (S := (fun w' => w'.cell? ⟨w.heap.size, 0, none⟩ = some (.slice s.Ac s.nc s.cc) ∧ w'.cell? ⟨w.heap.size, 1, none⟩ = some (.slice s.Am s.nm s.cm) ∧ w'.cell? ⟨w.heap.size, 2, none⟩ = some (.slice s.Ae s.ne s.ce) ∧ w'.cell? ⟨w.heap.size + 1, 0, none⟩ = some (.slice A l c) ∧ w'.cell? ⟨w.heap.size + 1, 1, none⟩ = some (.slice B m d) ∧ w'.cell? ⟨w.heap.size + 1, 2, none⟩ = some (.slice C q g))) (by kernel_rfl) ⟨p0, p1, p2, p3, p4, p5⟩ (fun hHeld => ?_)
      refine wpAnyH_take (i := 0) (v := ?_) rfl (by kernel_rfl) (by kernel_rfl) (by kernel_rfl) (fun _ _ _ h => h) (Or.inl ⟨by rfl, ?_⟩) (by assumption) ?_
      rotate_left
      · (intro w hSw; (try dsimp only at hSw); go_simp; (try with_reducible rfl))
      simp only [Act.put, List.setIfInBounds_toArray, List.set_cons_zero, List.set_cons_succ, List.getElem_toArray, List.getElem_cons_zero]
      refine wpAnyH_take (i := 1) (v := ?_) rfl (by kernel_rfl) (by kernel_rfl) (by kernel_rfl) (fun _ _ _ h => h) (Or.inl ⟨by rfl, ?_⟩) (by assumption) ?_
      rotate_left
      · (intro w hSw; (try dsimp only at hSw); go_simp; (try with_reducible rfl))
      simp only [Act.put, List.setIfInBounds_toArray, List.set_cons_zero, List.set_cons_succ, List.getElem_toArray, List.getElem_cons_zero, List.getElem_cons_succ]
      refine wpAnyH_take (i := 2) (v := ?_) rfl (by kernel_rfl) (by kernel_rfl) (by kernel_rfl) (fun _ _ _ h => h) (Or.inl ⟨by rfl, ?_⟩) (by assumption) ?_
      rotate_left
      · (intro w hSw; (try dsimp only at hSw); go_simp; (try with_reducible rfl))
      simp only [Act.put, List.setIfInBounds_toArray, List.set_cons_zero, List.set_cons_succ, List.getElem_toArray, List.getElem_cons_zero, List.getElem_cons_succ]
      refine wpAnyH_take (i := 3) (v := ?_) rfl (by kernel_rfl) (by kernel_rfl) (by kernel_rfl) (fun _ _ _ h => h) (Or.inl ⟨by rfl, ?_⟩) (by assumption) ?_
      rotate_left
      · (intro w hSw; (try dsimp only at hSw); go_simp; (try with_reducible rfl))
      simp only [Act.put, List.setIfInBounds_toArray, List.set_cons_zero, List.set_cons_succ, List.getElem_toArray, List.getElem_cons_zero, List.getElem_cons_succ]
      refine wpAnyH_take (i := 4) (v := ?_) rfl (by kernel_rfl) (by kernel_rfl) (by kernel_rfl) (fun _ _ _ h => h) (Or.inl ⟨by rfl, ?_⟩) (by assumption) ?_
      rotate_left
      · (intro w hSw; (try dsimp only at hSw); go_simp; (try with_reducible rfl))
      simp only [Act.put, List.setIfInBounds_toArray, List.set_cons_zero, List.set_cons_succ, List.getElem_toArray, List.getElem_cons_zero, List.getElem_cons_succ]
      refine wpAnyH_take (i := 5) (v := ?_) rfl (by kernel_rfl) (by kernel_rfl) (by kernel_rfl) (fun _ _ _ h => h) (Or.inl ⟨by rfl, ?_⟩) (by assumption) ?_
      rotate_left
      · (intro w hSw; (try dsimp only at hSw); go_simp; (try with_reducible rfl))
      simp only [Act.put, List.setIfInBounds_toArray, List.set_cons_zero, List.set_cons_succ, List.getElem_toArray, List.getElem_cons_zero, List.getElem_cons_succ]
      refine wpAnyH_take (i := 6) (v := ?_) rfl (by kernel_rfl) (by kernel_rfl) (by kernel_rfl) (fun _ _ _ h => h) (Or.inl ⟨by rfl, ?_⟩) (by assumption) ?_
      rotate_left
      · (intro w hSw; (try dsimp only at hSw); go_simp; (try with_reducible rfl))
      simp only [Act.put, List.setIfInBounds_toArray, List.set_cons_zero, List.set_cons_succ, List.getElem_toArray, List.getElem_cons_zero, List.getElem_cons_succ]
      refine wpAnyH_ready (rs := [7]) (by kernel_rfl) (by simp) ?_
      refine AllReadyH.cons rfl (fun K hK => ?_) AllReadyH.nil
      go_simp
      (refine (HJ3.out A3 n3 c3 A4 n4 c4 _ (Kept.trans HK1.out (Kept.drew KB6.out)) hn3 hn4 le3 le4 (I3.out.kept (Kept.trans k4 (Kept.trans (Kept.trans (Kept.drew (Kept.refl _)) k5) (Kept.trans k6 (Kept.drew (Kept.refl _)))))) (I4.out.kept (Kept.trans (Kept.trans (Kept.drew (Kept.refl _)) k5) (Kept.trans k6 (Kept.drew (Kept.refl _)))))).mono ?_; rintro e w7 ⟨A7, n7, c7, rfl, le7, i7, k7⟩; have I7 := Lib.hid i7; have hn7 : n7 ≤ 10000 := (by rw [i7.1]; exact HLYZ.out); clear i7; have KB7 := Lib.hid (Kept.trans (Kept.drew KB6.out) k7))
      go_wp2_with fail
      refine hK.out _ _ ⟨Kept.cell KB7.out HX0.out, Kept.cell KB7.out HX1.out, Kept.cell KB7.out HX2.out, Kept.cell KB7.out HX3.out, Kept.cell KB7.out HX4.out, Kept.cell KB7.out HX5.out⟩ (fun hHeld => ?_)
      clear hK K
      (try simp only [Act.put, List.setIfInBounds_toArray, List.set_cons_zero, List.set_cons_succ, List.getElem_toArray, List.getElem_cons_zero, List.getElem_cons_succ])
      refine wpAnyH_ready (rs := [8]) (by kernel_rfl) (by simp) ?_
      refine AllReadyH.cons rfl (fun K hK => ?_) AllReadyH.nil
      go_simp
      (refine (HJ4.out A2 n2 c2 A7 n7 c7 _ (Kept.trans HK1.out KB7.out) hn2 hn7 le2 le7 (I2.out.kept (Kept.trans k3 (Kept.trans k4 (Kept.trans (Kept.trans (Kept.drew (Kept.refl _)) k5) (Kept.trans k6 (Kept.trans (Kept.drew (Kept.refl _)) k7)))))) I7.out).mono ?_; rintro e w8 ⟨A8, n8, c8, rfl, le8, i8, k8⟩; have I8 := Lib.hid i8; have hn8 : n8 ≤ 10000 := (by rw [i8.1]; exact HLT.out); clear i8; have KB8 := Lib.hid (Kept.trans KB7.out k8))
      go_wp2_with fail
      refine hK.out _ _ ⟨Kept.cell KB8.out HX0.out, Kept.cell KB8.out HX1.out, Kept.cell KB8.out HX2.out, Kept.cell KB8.out HX3.out, Kept.cell KB8.out HX4.out, Kept.cell KB8.out HX5.out⟩ (fun hHeld => ?_)
      clear hK K
      (try simp only [Act.put, List.setIfInBounds_toArray, List.set_cons_zero, List.set_cons_succ, List.getElem_toArray, List.getElem_cons_zero, List.getElem_cons_succ])
      refine wpAnyH_take (i := 9) (v := ?_) rfl (by kernel_rfl) (by kernel_rfl) (by kernel_rfl) (fun _ _ _ h => h) (Or.inl ⟨by rfl, ?_⟩) (by assumption) ?_
      rotate_left
      · (intro w hSw; (try dsimp only at hSw); go_simp; (try with_reducible rfl))
      simp only [Act.put, List.setIfInBounds_toArray, List.set_cons_zero, List.set_cons_succ, List.getElem_toArray, List.getElem_cons_zero, List.getElem_cons_succ]
      refine wpAnyH_done (by kernel_rfl) ?_ _
      clear p0 p1 p2 p3 p4 p5
      have p0 := Kept.cell KB8.out HX0.out
      have p1 := Kept.cell KB8.out HX1.out
      have p2 := Kept.cell KB8.out HX2.out
      have p3 := Kept.cell KB8.out HX3.out
      have p4 := Kept.cell KB8.out HX4.out
      have p5 := Kept.cell KB8.out HX5.out
      go_wp2_with fail
      refine (r01_same T A6 A8 n6 n8 c6 c8 _ HLT.out (I6.out.kept (Kept.trans (Kept.trans (Kept.drew (Kept.refl _)) k7) k8)) I8.out).mono ?_
      rintro e w9 ⟨rfl, k9⟩
      clear p0 p1 p2 p3 p4 p5
      have KB9 := Lib.hid (Kept.trans KB8.out k9)
      have p0 := Kept.cell KB9.out HX0.out
      have p1 := Kept.cell KB9.out HX1.out
      have p2 := Kept.cell KB9.out HX2.out
      have p3 := Kept.cell KB9.out HX3.out
      have p4 := Kept.cell KB9.out HX4.out
      have p5 := Kept.cell KB9.out HX5.out
      go_wp2_with fail
      refine (HJ5.out A2 n2 c2 _ (Kept.trans HK1.out KB9.out) hn2 le2 (I2.out.kept (Kept.trans k3 (Kept.trans k4 (Kept.trans (Kept.trans (Kept.drew (Kept.refl _)) k5) (Kept.trans k6 (Kept.trans (Kept.trans (Kept.drew (Kept.refl _)) k7) (Kept.trans k8 k9)))))))).mono ?_
      rintro e w10 ⟨A10, n10, c10, rfl, le10, i10, k10⟩
      have I10 := Lib.hid i10
      have hn10 : n10 ≤ 10000 := (by rw [i10.1]; exact HLX.out)
      clear i10
      clear p0 p1 p2 p3 p4 p5
      have KB10 := Lib.hid (Kept.trans KB9.out k10)
      have p0 := Kept.cell KB10.out HX0.out
      have p1 := Kept.cell KB10.out HX1.out
      have p2 := Kept.cell KB10.out HX2.out
      have p3 := Kept.cell KB10.out HX3.out
      have p4 := Kept.cell KB10.out HX4.out
      have p5 := Kept.cell KB10.out HX5.out
      go_wp2_with fail
      refine (r01_same X A10 A2 n10 n2 c10 c2 _ HLX.out I10.out (I2.out.kept (Kept.trans k3 (Kept.trans k4 (Kept.trans (Kept.trans (Kept.drew (Kept.refl _)) k5) (Kept.trans k6 (Kept.trans (Kept.trans (Kept.drew (Kept.refl _)) k7) (Kept.trans k8 (Kept.trans k9 k10))))))))).mono ?_
      rintro e w11 ⟨rfl, k11⟩
      clear p0 p1 p2 p3 p4 p5
      have KB11 := Lib.hid (Kept.trans KB10.out k11)
      have p0 := Kept.cell KB11.out HX0.out
      have p1 := Kept.cell KB11.out HX1.out
      have p2 := Kept.cell KB11.out HX2.out
      have p3 := Kept.cell KB11.out HX3.out
      have p4 := Kept.cell KB11.out HX4.out
      have p5 := Kept.cell KB11.out HX5.out
      go_wp2_with fail
      refine (HJ6.out A2 n2 c2 _ (Kept.trans HK1.out KB11.out) hn2 le2 (I2.out.kept (Kept.trans k3 (Kept.trans k4 (Kept.trans (Kept.trans (Kept.drew (Kept.refl _)) k5) (Kept.trans k6 (Kept.trans (Kept.trans (Kept.drew (Kept.refl _)) k7) (Kept.trans k8 (Kept.trans k9 (Kept.trans k10 k11)))))))))).mono ?_
      rintro e w12 ⟨A12, n12, c12, rfl, le12, i12, k12⟩
      have I12 := Lib.hid i12
      have hn12 : n12 ≤ 10000 := (by rw [i12.1]; exact HLX.out)
      clear i12
      clear p0 p1 p2 p3 p4 p5
      have KB12 := Lib.hid (Kept.trans KB11.out k12)
      have p0 := Kept.cell KB12.out HX0.out
      have p1 := Kept.cell KB12.out HX1.out
      have p2 := Kept.cell KB12.out HX2.out
      have p3 := Kept.cell KB12.out HX3.out
      have p4 := Kept.cell KB12.out HX4.out
      have p5 := Kept.cell KB12.out HX5.out
      go_wp2_with fail
      refine (r01_same X A12 A2 n12 n2 c12 c2 _ HLX.out I12.out (I2.out.kept (Kept.trans k3 (Kept.trans k4 (Kept.trans (Kept.trans (Kept.drew (Kept.refl _)) k5) (Kept.trans k6 (Kept.trans (Kept.trans (Kept.drew (Kept.refl _)) k7) (Kept.trans k8 (Kept.trans k9 (Kept.trans k10 (Kept.trans k11 k12))))))))))).mono ?_
      rintro e w13 ⟨rfl, k13⟩
      clear p0 p1 p2 p3 p4 p5
      have KB13 := Lib.hid (Kept.trans KB12.out k13)
      have p0 := Kept.cell KB13.out HX0.out
      have p1 := Kept.cell KB13.out HX1.out
      have p2 := Kept.cell KB13.out HX2.out
      have p3 := Kept.cell KB13.out HX3.out
      have p4 := Kept.cell KB13.out HX4.out
      have p5 := Kept.cell KB13.out HX5.out
      go_wp2_with fail
      refine (alive26 _ (HG.out.kept (Kept.trans HK1.out KB13.out))).mono ?_
      rintro e w14 ⟨rfl, k14⟩
      clear p0 p1 p2 p3 p4 p5
      have KB14 := Lib.hid (Kept.trans KB13.out k14)
      go_wp2_with fail
      go_ret
      exact ⟨rfl, (Kept.trans HK1.out KB14.out)⟩
end Go.Proofs.YtbhglkofaendjaaGreatDoor
