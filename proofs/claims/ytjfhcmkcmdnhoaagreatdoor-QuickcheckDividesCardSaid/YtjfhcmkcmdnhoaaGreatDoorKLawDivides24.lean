/- law24.QuickcheckDivides returns true. -/
import Derived.Deep.RegionHeld3
import Derived.Test.YtjfhcmkcmdnhoaaGreatDoorKSq
import Derived.Test.YtjfhcmkcmdnhoaaGreatDoorKRow
import Derived.Test.YtjfhcmkcmdnhoaaGreatDoorKNrm
import Derived.Test.YtjfhcmkcmdnhoaaGreatDoorKJoA
namespace Go.Proofs.YtjfhcmkcmdnhoaaGreatDoor
open Go Go.RowKit
theorem own_emptyD (w : World) : OwnI (w.alloc (Obj.cells #[] 3)) w.heap.size (.slice (some ⟨w.heap.size, 0, none⟩) 0 0) [] :=
  ⟨rfl, .inr ⟨w.heap.size, 0, #[], rfl, Nat.le_refl _, heap_alloc_new _ _, Nat.le_refl _, Nat.zero_le _, rfl, rfl⟩⟩
theorem bnds_at (p : Int → Bool) : ∀ (t : List Int) (i : Nat) (q : Nat), q ∈ bnds p i t → ∃ j c, q = i + j ∧ t[j]? = some c ∧ p c = true
  | [], i, q, h => by simp [bnds] at h
  | d :: t, i, q, h => by
    unfold bnds at h
    by_cases hd : p d = true
    · rw [if_pos hd] at h
      rcases List.mem_cons.1 h with e | h
      · exact ⟨0, d, by omega, rfl, hd⟩
      · obtain ⟨j, c, h1, h2, h3⟩ := bnds_at p t (i + 1) q h
        exact ⟨j + 1, c, by omega, by simpa using h2, h3⟩
    · rw [if_neg hd] at h
      obtain ⟨j, c, h1, h2, h3⟩ := bnds_at p t (i + 1) q h
      exact ⟨j + 1, c, by omega, by simpa using h2, h3⟩
theorem bndI_at {n : Nrm} {form : Int} {xs : List Int} {k : Nat} {y : Int} (h : (bndI n form xs)[k]? = some y) : ∃ q : Nat, y = (q : Int) ∧ q < xs.length ∧ formOf n form (xs.take q) ++ formOf n form (xs.drop q) = formOf n form xs := by
  unfold bndI at h
  rw [List.getElem?_map] at h
  cases hb : (bnds (boundB n form) 0 xs)[k]? with
  | none => rw [hb] at h; cases h
  | some q =>
    rw [hb] at h
    injection h with h
    obtain ⟨j, c, h1, h2, h3⟩ := bnds_at _ _ _ _ (mem_of_getElem?_some hb)
    have hj : q = j := by omega
    subst hj
    have hl := lt_of_getElem?_some h2
    refine ⟨q, h.symm, hl, ?_⟩
    have e : xs = xs.take q ++ c :: xs.drop (q + 1) := by rw [← drop_some h2, List.take_append_drop]
    have e2 := form_join n h3 (xs.take q) (xs.drop (q + 1))
    rw [← drop_some h2, List.take_append_drop] at e2
    exact e2.symm
set_option maxRecDepth 100000 in
set_option maxHeartbeats 4000000 in
theorem law_divides24 (s : Sls) (n : Nrm) (form : Int) (A : Option Addr) (l c : Nat) (xs : List Int) (w : World) (hN : NormIn w s n) (_hx : I64 form) (hI : l ≤ c ∧ c ≤ 9223372036854775807 ∧ Ints w A l xs) (hG : Glob w) : Calls Tryz.prog 11 #[.agg #[Value.slice s.Ac s.nc s.cc, Value.slice s.Am s.nm s.cm, Value.slice s.Ae s.ne s.ce, Value.int IntKind.i64 form, Value.slice A l c]] w (RetB w true) := by
  have hk1 := Kept.alloc (Kept.refl w) (Obj.cells #[Value.slice s.Ac s.nc s.cc, Value.slice s.Am s.nm s.cm, Value.slice s.Ae s.ne s.ce, Value.int IntKind.i64 form, Value.slice A l c] 54)
  have HK1 := Lib.hid hk1
  have hbx := box_cell w #[Value.slice s.Ac s.nc s.cc, Value.slice s.Am s.nm s.cm, Value.slice s.Ae s.ne s.ce, Value.int IntKind.i64 form, Value.slice A l c] 54
  have HX0 : Hid ((w.alloc (Obj.cells #[Value.slice s.Ac s.nc s.cc, Value.slice s.Am s.nm s.cm, Value.slice s.Ae s.ne s.ce, Value.int IntKind.i64 form, Value.slice A l c] 54)).cell? ⟨w.heap.size, 0, none⟩ = some (Value.slice s.Ac s.nc s.cc)) := Lib.hid (hbx 0)
  have HX1 : Hid ((w.alloc (Obj.cells #[Value.slice s.Ac s.nc s.cc, Value.slice s.Am s.nm s.cm, Value.slice s.Ae s.ne s.ce, Value.int IntKind.i64 form, Value.slice A l c] 54)).cell? ⟨w.heap.size, 1, none⟩ = some (Value.slice s.Am s.nm s.cm)) := Lib.hid (hbx 1)
  have HX2 : Hid ((w.alloc (Obj.cells #[Value.slice s.Ac s.nc s.cc, Value.slice s.Am s.nm s.cm, Value.slice s.Ae s.ne s.ce, Value.int IntKind.i64 form, Value.slice A l c] 54)).cell? ⟨w.heap.size, 2, none⟩ = some (Value.slice s.Ae s.ne s.ce)) := Lib.hid (hbx 2)
  have HX3 : Hid ((w.alloc (Obj.cells #[Value.slice s.Ac s.nc s.cc, Value.slice s.Am s.nm s.cm, Value.slice s.Ae s.ne s.ce, Value.int IntKind.i64 form, Value.slice A l c] 54)).cell? ⟨w.heap.size, 3, none⟩ = some (Value.int IntKind.i64 form)) := Lib.hid (hbx 3)
  have HX4 : Hid ((w.alloc (Obj.cells #[Value.slice s.Ac s.nc s.cc, Value.slice s.Am s.nm s.cm, Value.slice s.Ae s.ne s.ce, Value.int IntKind.i64 form, Value.slice A l c] 54)).cell? ⟨w.heap.size, 4, none⟩ = some (Value.slice A l c)) := Lib.hid (hbx 4)
  have HN := Lib.hid hN
  have HG := Lib.hid hG
  obtain ⟨hle, hbig, hI⟩ := hI
  have HS := Lib.hid (few24 s n A l c (w.alloc (Obj.cells #[Value.slice s.Ac s.nc s.cc, Value.slice s.Am s.nm s.cm, Value.slice s.Ae s.ne s.ce, Value.int IntKind.i64 form, Value.slice A l c] 54)) (hN.kept hk1) ⟨hle, hbig⟩)
  have HI := Lib.hid hI
  clear hN hG hk1 hbx hI hbig
  cases hsm : (smallB n && decide (l ≤ 12))
  · rw [hsm] at HS
    clear hsm
    unfold Sls.val at *
    go_enter Tryz.func11, Tryz.ntmps11
    have p0 := HX0.out
    have p1 := HX1.out
    have p2 := HX2.out
    have p3 := HX3.out
    have p4 := HX4.out
    go_wp2_with fail
    refine (HS.out).mono ?_
    rintro e w1 ⟨rfl, k1⟩
    clear p0 p1 p2 p3 p4
    have KB1 := Lib.hid (Kept.trans (Kept.refl (w.alloc (Obj.cells #[Value.slice s.Ac s.nc s.cc, Value.slice s.Am s.nm s.cm, Value.slice s.Ae s.ne s.ce, Value.int IntKind.i64 form, Value.slice A l c] 54))) k1)
    go_wp2_with fail
    refine (alive24 _ (HG.out.kept (Kept.trans HK1.out KB1.out))).mono ?_
    rintro e w2 ⟨rfl, k2⟩
    have KB2 := Lib.hid (Kept.trans KB1.out k2)
    go_wp2_with fail
    go_ret
    exact ⟨rfl, (Kept.trans HK1.out KB2.out)⟩
  · rw [hsm] at HS
    obtain ⟨hsb, hl12⟩ := (Bool.and_eq_true _ _).mp hsm
    have hl12 := of_decide_eq_true hl12
    have HNA := Lib.hid (HN.out.small hsb)
    have HXL := Lib.hid HI.out.1
    clear hsm hsb
    have HT := Lib.hid (fun w' (hk : Kept w w') => form_any s n form A l c xs w' (HNA.out.kept hk) (HG.out.kept hk) (by omega) (HI.out.kept hk))
    have HBO := Lib.hid (fun w' (hk : Kept w w') => bounds_any s n form A l c xs w' (HNA.out.kept hk) (HG.out.kept hk) (by omega) (HI.out.kept hk))
    have HLX := Lib.hid (show (formOf n form xs).length ≤ 10000 by have := formOf_length n form xs; have := HXL.out; omega)
    have HLB := Lib.hid (show (bndI n form xs).length ≤ 10000 by have := bndI_le n form xs; have := HXL.out; omega)
    have HAT := Lib.hid (fun k y (h : (bndI n form xs)[k]? = some y) => bndI_at h)
    have HB2 := Lib.hid (show (bndI n form xs).length ≤ 12 by have := bndI_le n form xs; have := HXL.out; omega)
    generalize formOf n form xs = W at *
    generalize bndI n form xs = LB at *
    unfold Sls.val at *
    go_enter Tryz.func11, Tryz.ntmps11
    have p0 := HX0.out
    have p1 := HX1.out
    have p2 := HX2.out
    have p3 := HX3.out
    have p4 := HX4.out
    go_wp2_with fail
    refine (HS.out).mono ?_
    rintro e w1 ⟨rfl, k1⟩
    clear p0 p1 p2 p3 p4
    have KB1 := Lib.hid (Kept.trans (Kept.refl (w.alloc (Obj.cells #[Value.slice s.Ac s.nc s.cc, Value.slice s.Am s.nm s.cm, Value.slice s.Ae s.ne s.ce, Value.int IntKind.i64 form, Value.slice A l c] 54))) k1)
    have p0 := Kept.cell KB1.out HX0.out
    have p1 := Kept.cell KB1.out HX1.out
    have p2 := Kept.cell KB1.out HX2.out
    have p3 := Kept.cell KB1.out HX3.out
    have p4 := Kept.cell KB1.out HX4.out
    go_wp2_with fail
    refine (HT.out _ (Kept.trans HK1.out KB1.out)).mono ?_
    rintro e w2 ⟨A2, n2, c2, rfl, le2, i2, k2⟩
    have I2 := Lib.hid i2
    have hn2 : n2 ≤ 10000 := (by rw [i2.1]; exact HLX.out)
    clear i2
    clear p0 p1 p2 p3 p4
    have KB2 := Lib.hid (Kept.trans KB1.out k2)
    have p0 := Kept.cell KB2.out HX0.out
    have p1 := Kept.cell KB2.out HX1.out
    have p2 := Kept.cell KB2.out HX2.out
    have p3 := Kept.cell KB2.out HX3.out
    have p4 := Kept.cell KB2.out HX4.out
    go_wp2_with fail
    refine (HBO.out _ (Kept.trans HK1.out KB2.out)).mono ?_
    rintro e w3 ⟨A3, n3, c3, rfl, le3, i3, k3⟩
    have I3 := Lib.hid i3
    have hn3 : n3 ≤ 10000 := (by rw [i3.1]; exact HLB.out)
    clear i3
    clear p0 p1 p2 p3 p4
    have KB3 := Lib.hid (Kept.trans KB2.out k3)
    have hn12 : n3 ≤ 12 := by rw [I3.out.1]; exact HB2.out
    have p0 := Kept.cell KB3.out HX0.out
    have p1 := Kept.cell KB3.out HX1.out
    have p2 := Kept.cell KB3.out HX2.out
    have p3 := Kept.cell KB3.out HX3.out
    have p4 := Kept.cell KB3.out HX4.out
    go_wp2_with fail
    clear p0 p1 p2 p3 p4
    go_loopw [5] (fun i wr => ∃ k : Nat, k ≤ n3 ∧ i = .int .i64 k ∧ Kept w3 wr) (fun i _ => n3 - (intOf i).toNat)
    case atStart => exact ⟨0, Nat.zero_le _, rfl, Kept.refl _⟩
    case round =>
      obtain ⟨k, hk, rfl, hkw⟩ := hrel
      have HKW := Lib.hid hkw
      clear hkw
      have KB4 := Lib.hid (Kept.trans KB3.out HKW.out)
      by_cases hlt : k < n3
      · obtain ⟨bL, oL, y, rfl, hy, cL⟩ := int_at (I3.out.kept HKW.out) hlt
        obtain ⟨q, rfl, hq, hW⟩ := HAT.out k y hy
        have HW := Lib.hid hW
        have HCL := Lib.hid cL
        have hql : q < l := by rw [HXL.out]; exact hq
        have hk100 : (k : Int) < 100 := by omega
        have HQ1 := Lib.hid (fun w' (hk : Kept w w') => form_any s n form A q c (xs.take q) w' (HNA.out.kept hk) (HG.out.kept hk) (by omega) (Ints.front_ (HI.out.kept hk) (by omega)))
        have HQ2 := Lib.hid (fun w' (hk : Kept w w') => form_any s n form (dropA A c q) (l - q) (c - q) (xs.drop q) w' (HNA.out.kept hk) (HG.out.kept hk) (by omega) (Ints.drop_ (HI.out.kept hk) (by omega) hle))
        have HL1 := Lib.hid (show (formOf n form (xs.take q)).length ≤ 10000 by have h := formOf_length n form (xs.take q); rw [List.length_take] at h; omega)
        have HL2 := Lib.hid (show (formOf n form (xs.drop q)).length ≤ 10000 by have h := formOf_length n form (xs.drop q); rw [List.length_drop] at h; have := HXL.out; omega)
        have HLS := Lib.hid (show (formOf n form (xs.take q)).length + (formOf n form (xs.drop q)).length ≤ 1000000000 by have := HL1.out; have := HL2.out; omega)
        have HLS0 := Lib.hid (show ([] : List Int).length + (formOf n form (xs.take q)).length ≤ 1000000000 by have := HL1.out; simp; omega)
        have s1 := run_take1 A l c q (by omega)
        have s2 := run_drop1 A l c q (by omega)
        generalize formOf n form (xs.take q) = X at *
        generalize formOf n form (xs.drop q) = Y at *
        clear hy hq hW cL
        have p0 := Kept.cell KB4.out HX0.out
        have p1 := Kept.cell KB4.out HX1.out
        have p2 := Kept.cell KB4.out HX2.out
        have p3 := Kept.cell KB4.out HX3.out
        have p4 := Kept.cell KB4.out HX4.out
        have p5 := Kept.cell (Kept.refl _) HCL.out
        go_wp2_with fail
        refine wp_region_held_drew (S := (fun w' => w'.cell? ⟨w.heap.size, 0, none⟩ = some (Value.slice s.Ac s.nc s.cc) ∧ w'.cell? ⟨w.heap.size, 1, none⟩ = some (Value.slice s.Am s.nm s.cm) ∧ w'.cell? ⟨w.heap.size, 2, none⟩ = some (Value.slice s.Ae s.ne s.ce) ∧ w'.cell? ⟨w.heap.size, 3, none⟩ = some (Value.int IntKind.i64 form) ∧ w'.cell? ⟨w.heap.size, 4, none⟩ = some (Value.slice A l c) ∧ w'.cell? ⟨bL, oL + k, none⟩ = some (.int .i64 (q : Int)))) (by kernel_rfl) ⟨p0, p1, p2, p3, p4, p5⟩ (fun hHeld => ?_)
        refine tk_ 0 ?_ rfl ?_; refine tk_ 1 ?_ rfl ?_; refine tk_ 2 ?_ rfl ?_; refine tk_ 3 ?_ rfl ?_; refine tk_ 4 ?_ rfl ?_; refine tk_ 5 ?_ rfl ?_; refine tk_ 6 ?_ rfl ?_; refine tk_ 7 ?_ rfl ?_; refine tk_ 8 ?_ rfl ?_; refine tk_ 9 ?_ rfl ?_; refine tk_ 10 ?_ rfl ?_; refine tk_ 11 ?_ rfl ?_; refine tk_ 12 ?_ rfl ?_; refine tk_ 13 ?_ rfl ?_; refine tk_ 14 ?_ rfl ?_
        refine wpAnyH_done (by kernel_rfl) ?_ _
        clear p0 p1 p2 p3 p4 p5
        have KB5 := Lib.hid (Kept.trans KB4.out (Kept.drew (Kept.refl _)))
        have p0 := Kept.cell KB5.out HX0.out
        have p1 := Kept.cell KB5.out HX1.out
        have p2 := Kept.cell KB5.out HX2.out
        have p3 := Kept.cell KB5.out HX3.out
        have p4 := Kept.cell KB5.out HX4.out
        have p5 := Kept.cell (Kept.drew (Kept.refl _)) HCL.out
        go_wp2_with fail
        refine wp_region_held_drew (S := (fun w' => w'.cell? ⟨w.heap.size, 0, none⟩ = some (Value.slice s.Ac s.nc s.cc) ∧ w'.cell? ⟨w.heap.size, 1, none⟩ = some (Value.slice s.Am s.nm s.cm) ∧ w'.cell? ⟨w.heap.size, 2, none⟩ = some (Value.slice s.Ae s.ne s.ce) ∧ w'.cell? ⟨w.heap.size, 3, none⟩ = some (Value.int IntKind.i64 form) ∧ w'.cell? ⟨w.heap.size, 4, none⟩ = some (Value.slice A l c) ∧ w'.cell? ⟨bL, oL + k, none⟩ = some (.int .i64 (q : Int)))) (by kernel_rfl) ⟨p0, p1, p2, p3, p4, p5⟩ (fun hHeld => ?_)
        refine tk_ 0 ?_ rfl ?_; refine tk_ 1 ?_ rfl ?_; refine tk_ 2 ?_ rfl ?_; refine tk_ 3 ?_ rfl ?_; refine tk_ 4 ?_ rfl ?_; refine tk_ 5 ?_ rfl ?_; refine tk_ 6 ?_ rfl ?_; refine tk_ 7 ?_ rfl ?_; refine tk_ 8 ?_ rfl ?_; refine tk_ 9 ?_ rfl ?_; refine tk_ 10 ?_ rfl ?_
        refine rd_ 11 rfl (fun K hK => ?_)
        go_simp
        (refine (HQ1.out _ (Kept.trans HK1.out (Kept.drew KB5.out))).mono ?_; rintro e w6 ⟨A6, n6, c6, rfl, le6, i6, k6⟩; have I6 := Lib.hid i6; have hn6 : n6 ≤ 10000 := (by rw [i6.1]; exact HL1.out); clear i6; have KB6 := Lib.hid (Kept.trans (Kept.drew KB5.out) k6))
        go_wp2_with fail
        refine hK.out _ _ ⟨Kept.cell KB6.out HX0.out, Kept.cell KB6.out HX1.out, Kept.cell KB6.out HX2.out, Kept.cell KB6.out HX3.out, Kept.cell KB6.out HX4.out, Kept.cell (Kept.trans (Kept.drew (Kept.refl _)) (Kept.trans (Kept.drew (Kept.refl _)) k6)) HCL.out⟩ (fun hHeld => ?_)
        clear hK K
        (try simp only [Act.put, s1_, s2_, s3_, s4_, s5_, s6_])
        refine tk_ 12 ?_ rfl ?_
        refine wpAnyH_done (by kernel_rfl) ?_ _
        clear p0 p1 p2 p3 p4 p5
        have p0 := Kept.cell KB6.out HX0.out
        have p1 := Kept.cell KB6.out HX1.out
        have p2 := Kept.cell KB6.out HX2.out
        have p3 := Kept.cell KB6.out HX3.out
        have p4 := Kept.cell KB6.out HX4.out
        have p5 := Kept.cell (Kept.trans (Kept.drew (Kept.refl _)) (Kept.trans (Kept.drew (Kept.refl _)) k6)) HCL.out
        go_wp2_with fail
        refine wp_region_held_drew (S := (fun w' => w'.cell? ⟨w.heap.size, 0, none⟩ = some (Value.slice s.Ac s.nc s.cc) ∧ w'.cell? ⟨w.heap.size, 1, none⟩ = some (Value.slice s.Am s.nm s.cm) ∧ w'.cell? ⟨w.heap.size, 2, none⟩ = some (Value.slice s.Ae s.ne s.ce) ∧ w'.cell? ⟨w.heap.size, 3, none⟩ = some (Value.int IntKind.i64 form) ∧ w'.cell? ⟨w.heap.size, 4, none⟩ = some (Value.slice A l c) ∧ w'.cell? ⟨bL, oL + k, none⟩ = some (.int .i64 (q : Int)))) (by kernel_rfl) ⟨p0, p1, p2, p3, p4, p5⟩ (fun hHeld => ?_)
        refine tk_ 0 ?_ rfl ?_; refine tk_ 1 ?_ rfl ?_; refine tk_ 2 ?_ rfl ?_; refine tk_ 3 ?_ rfl ?_; refine tk_ 4 ?_ rfl ?_; refine tk_ 5 ?_ rfl ?_; refine tk_ 6 ?_ rfl ?_; refine tk_ 7 ?_ rfl ?_; refine tk_ 8 ?_ rfl ?_; refine tk_ 9 ?_ rfl ?_; refine tk_ 10 ?_ rfl ?_
        refine rd_ 11 rfl (fun K hK => ?_)
        go_simp
        (refine (HQ2.out _ (Kept.trans HK1.out (Kept.drew KB6.out))).mono ?_; rintro e w7 ⟨A7, n7, c7, rfl, le7, i7, k7⟩; have I7 := Lib.hid i7; have hn7 : n7 ≤ 10000 := (by rw [i7.1]; exact HL2.out); clear i7; have KB7 := Lib.hid (Kept.trans (Kept.drew KB6.out) k7))
        go_wp2_with fail
        refine hK.out _ _ ⟨Kept.cell KB7.out HX0.out, Kept.cell KB7.out HX1.out, Kept.cell KB7.out HX2.out, Kept.cell KB7.out HX3.out, Kept.cell KB7.out HX4.out, Kept.cell (Kept.trans (Kept.drew (Kept.refl _)) (Kept.trans (Kept.trans (Kept.drew (Kept.refl _)) k6) (Kept.trans (Kept.drew (Kept.refl _)) k7))) HCL.out⟩ (fun hHeld => ?_)
        clear hK K
        (try simp only [Act.put, s1_, s2_, s3_, s4_, s5_, s6_])
        refine tk_ 12 ?_ rfl ?_
        refine wpAnyH_done (by kernel_rfl) ?_ _
        clear p0 p1 p2 p3 p4 p5
        have HKA := Lib.hid (Kept.alloc (Kept.refl w7) (Obj.cells #[] 3))
        have HO := Lib.hid (own_emptyD w7)
        have IX := Lib.hid (I6.out.kept (Kept.trans (Kept.drew (Kept.refl _)) k7))
        have IY := I7
        go_wp2_with (first
          | (at_builtin; refine app_ints rfl _ _ rfl w7.heap.size _ _ rfl HO2.out _ _ _ Y rfl (IY.out.kept HK2.out) HLS.out HK2.out.size ?_; intro v8 w8 hown8 hgrow8 hat8)
          | (at_builtin; refine app_ints rfl _ _ rfl w7.heap.size _ _ rfl HO.out _ _ _ X rfl (IX.out.kept HKA.out) HLS0.out (by simp) ?_; intro v7 w7' hown7 hgrow7 hat7; have HK2 := Lib.hid (HKA.out.grown hgrow7 (by simp) (fun q e => (World.ownsRow.lt HO.out q e).1)); have HO2 := Lib.hid hown7; rw [List.nil_append] at HO2; clear hown7 hgrow7 hat7))
        have hk8 : Kept w7 w8 := HK2.out.grown hgrow8 HK2.out.size (fun q e => (World.ownsRow.lt HO2.out q e).1)
        rw [HW.out] at hown8
        obtain ⟨A8, c8, rfl, hle8, hI8⟩ := OwnI.sl hown8
        have I8 := Lib.hid hI8
        have HK8 := Lib.hid hk8
        obtain ⟨m8, hm8⟩ : ∃ m8 : Nat, m8 = W.length := ⟨_, rfl⟩
        rw [← hm8] at I8 ⊢
        clear hown8 hgrow8 hat8 hI8 hle8 hm8 hk8
        have KB8 := Lib.hid (Kept.trans KB7.out HK8.out)
        go_wp2_with fail
        refine (r01_same W A8 A2 m8 n2 c8 c2 _ HLX.out I8.out (I2.out.kept (Kept.trans k3 (Kept.trans HKW.out (Kept.trans (Kept.drew (Kept.refl _)) (Kept.trans (Kept.trans (Kept.drew (Kept.refl _)) k6) (Kept.trans (Kept.trans (Kept.drew (Kept.refl _)) k7) HK8.out))))))).mono ?_
        rintro e w9 ⟨rfl, k9⟩
        have KR := Lib.hid (Kept.trans (Kept.trans HKW.out (Kept.trans (Kept.drew (Kept.refl _)) (Kept.trans (Kept.trans (Kept.drew (Kept.refl _)) k6) (Kept.trans (Kept.trans (Kept.drew (Kept.refl _)) k7) HK8.out)))) k9)
        go_wp2_with fail
        go_roundw
        case rel => exact ⟨k + 1, by omega, by go_num, KR.out⟩
        case measure => simp [intOf]; omega
      · have hkn : k = n3 := by omega
        subst hkn
        have p0 := Kept.cell KB4.out HX0.out
        have p1 := Kept.cell KB4.out HX1.out
        have p2 := Kept.cell KB4.out HX2.out
        have p3 := Kept.cell KB4.out HX3.out
        have p4 := Kept.cell KB4.out HX4.out
        go_wp2_with fail
        refine (alive24 _ (HG.out.kept (Kept.trans HK1.out KB4.out))).mono ?_
        rintro e w5 ⟨rfl, k5⟩
        have KB5 := Lib.hid (Kept.trans KB4.out k5)
        go_wp2_with fail
        go_ret
        exact ⟨rfl, (Kept.trans HK1.out KB5.out)⟩
end Go.Proofs.YtjfhcmkcmdnhoaaGreatDoor
