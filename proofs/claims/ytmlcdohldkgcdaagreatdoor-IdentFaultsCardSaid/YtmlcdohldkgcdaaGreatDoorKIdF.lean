/- casefold.Form, ident.prepared, Prepare. -/
import Derived.Deep.RegionHeld3
import Derived.Test.YtmlcdohldkgcdaaGreatDoorKSq
import Derived.Test.YtmlcdohldkgcdaaGreatDoorKCaA
import Derived.Test.YtmlcdohldkgcdaaGreatDoorKCasS
import Derived.Test.YtmlcdohldkgcdaaGreatDoorKNrm
import Derived.Test.YtmlcdohldkgcdaaGreatDoorKPl58
namespace Go.Proofs.YtmlcdohldkgcdaaGreatDoor
open Go Go.RowKit
set_option maxRecDepth 100000 in
set_option maxHeartbeats 2000000 in
theorem cform_empty (A : Option Addr) (nt ct : Nat) (text : List Int) (w : World) (hG : Glob w) (hnt : nt ≤ 500000) (hT : Ints w A nt text) (hx : ∀ x ∈ text, kind x = 0) : Calls Tryz.prog 83 #[.agg #[.slice none 0 0, .slice none 0 0, .slice none 0 0], .agg #[.slice none 0 0, .slice none 0 0, .slice none 0 0, .slice none 0 0, .slice none 0 0, .slice none 0 0], .slice A nt ct, .int .i64 1] w (RetFr w text) := by
  have hk0_ := Kept.alloc (Kept.refl w) (Obj.cells #[Value.slice none 0 0, Value.slice none 0 0, Value.slice none 0 0] 28)
  have hk1_ := Kept.alloc hk0_ (Obj.cells #[Value.slice none 0 0, Value.slice none 0 0, Value.slice none 0 0, Value.slice none 0 0, Value.slice none 0 0, Value.slice none 0 0] 60)
  have HK1 := Lib.hid hk1_
  have hb0_ := (alloc_lift (o := (Obj.cells #[Value.slice none 0 0, Value.slice none 0 0, Value.slice none 0 0, Value.slice none 0 0, Value.slice none 0 0, Value.slice none 0 0] 60)) (box_block w (Obj.cells #[Value.slice none 0 0, Value.slice none 0 0, Value.slice none 0 0] 28)))
  have x0_ := cell_of_block (i := 0) hb0_ rfl
  have x1_ := cell_of_block (i := 1) hb0_ rfl
  have x2_ := cell_of_block (i := 2) hb0_ rfl
  have hb1_ := (box_block (w.alloc (Obj.cells #[Value.slice none 0 0, Value.slice none 0 0, Value.slice none 0 0] 28)) (Obj.cells #[Value.slice none 0 0, Value.slice none 0 0, Value.slice none 0 0, Value.slice none 0 0, Value.slice none 0 0, Value.slice none 0 0] 60))
  simp only [World.size_alloc] at hb1_
  have x3_ := cell_of_block (i := 0) hb1_ rfl
  have x4_ := cell_of_block (i := 1) hb1_ rfl
  have x5_ := cell_of_block (i := 2) hb1_ rfl
  have x6_ := cell_of_block (i := 3) hb1_ rfl
  have x7_ := cell_of_block (i := 4) hb1_ rfl
  have x8_ := cell_of_block (i := 5) hb1_ rfl
  simp only [s4_, s5_, s6_] at x0_ x1_ x2_ x3_ x4_ x5_ x6_ x7_ x8_
  have HX0 := Lib.hid x0_
  have HX1 := Lib.hid x1_
  have HX2 := Lib.hid x2_
  have HX3 := Lib.hid x3_
  have HX4 := Lib.hid x4_
  have HX5 := Lib.hid x5_
  have HX6 := Lib.hid x6_
  have HX7 := Lib.hid x7_
  have HX8 := Lib.hid x8_
  have HB0 := Lib.hid hb0_
  have HB1 := Lib.hid hb1_
  clear x0_ x1_ x2_ x3_ x4_ x5_ x6_ x7_ x8_ hb0_ hb1_
  have HFM := Lib.hid (fun A' n' c' w' (hk : Kept w w') (hn' : n' ≤ 500000) (hI : Ints w' A' n' text) => form_new emptyS emptyN 2 A' n' c' text w' (emptyS_at _) (hG.kept hk) hn' hI)
  rw [empty_form 2 hx] at HFM
  have HT := Lib.hid (fun w' (hk : Kept w w') => hT.kept hk)
  have HTL := Lib.hid (show text.length ≤ 500000 by rw [← hT.1]; exact hnt)
  clear hG hT hx hk0_ hk1_
  unfold Sls.val emptyS at HFM
  dsimp only at HFM
  go_enter Tryz.func83, Tryz.ntmps83
  have p0 := HX0.out
  have p1 := HX1.out
  have p2 := HX2.out
  have p3 := HX3.out
  have p4 := HX4.out
  have p5 := HX5.out
  have p6 := HX6.out
  have p7 := HX7.out
  have p8 := HX8.out
  go_wp2_with fail
  refine wp_region_held_drew (S := (fun w' => w'.cell? ⟨w.heap.size, 0, none⟩ = some (.slice none 0 0) ∧ w'.cell? ⟨w.heap.size, 1, none⟩ = some (.slice none 0 0) ∧ w'.cell? ⟨w.heap.size, 2, none⟩ = some (.slice none 0 0) ∧ w'.cell? ⟨w.heap.size + 1, 0, none⟩ = some (.slice none 0 0) ∧ w'.cell? ⟨w.heap.size + 1, 1, none⟩ = some (.slice none 0 0) ∧ w'.cell? ⟨w.heap.size + 1, 2, none⟩ = some (.slice none 0 0) ∧ w'.cell? ⟨w.heap.size + 1, 3, none⟩ = some (.slice none 0 0) ∧ w'.cell? ⟨w.heap.size + 1, 4, none⟩ = some (.slice none 0 0) ∧ w'.cell? ⟨w.heap.size + 1, 5, none⟩ = some (.slice none 0 0))) (by kernel_rfl) ⟨p0, p1, p2, p3, p4, p5, p6, p7, p8⟩ (fun hHeld => ?_)
  refine tk_ 0 ?_ rfl ?_; refine tk_ 1 ?_ rfl ?_; refine tk_ 2 ?_ rfl ?_; refine tk_ 3 ?_ rfl ?_
  refine rd_ 4 rfl (fun K hK => ?_)
  go_simp
  (refine (HFM.out A nt ct _ (Kept.trans HK1.out (Kept.drew (Kept.refl ((w.alloc (Obj.cells #[Value.slice none 0 0, Value.slice none 0 0, Value.slice none 0 0] 28)).alloc (Obj.cells #[Value.slice none 0 0, Value.slice none 0 0, Value.slice none 0 0, Value.slice none 0 0, Value.slice none 0 0, Value.slice none 0 0] 60))))) hnt (HT.out _ (Kept.trans HK1.out (Kept.drew (Kept.refl ((w.alloc (Obj.cells #[Value.slice none 0 0, Value.slice none 0 0, Value.slice none 0 0] 28)).alloc (Obj.cells #[Value.slice none 0 0, Value.slice none 0 0, Value.slice none 0 0, Value.slice none 0 0, Value.slice none 0 0, Value.slice none 0 0] 60))))))).mono ?_; rintro e w1 ⟨A1, n1, c1, rfl, le1, i1, fr1, k1⟩; have I1 := Lib.hid i1; have FR1 := Lib.hid fr1; have hn1 : n1 ≤ 500000 := (by rw [i1.1]; exact HTL.out); clear i1 fr1; have KB1 := Lib.hid (Kept.trans (Kept.drew (Kept.refl ((w.alloc (Obj.cells #[Value.slice none 0 0, Value.slice none 0 0, Value.slice none 0 0] 28)).alloc (Obj.cells #[Value.slice none 0 0, Value.slice none 0 0, Value.slice none 0 0, Value.slice none 0 0, Value.slice none 0 0, Value.slice none 0 0] 60)))) k1))
  go_wp2_with fail
  refine hK.out _ _ ⟨Kept.cell KB1.out HX0.out, Kept.cell KB1.out HX1.out, Kept.cell KB1.out HX2.out, Kept.cell KB1.out HX3.out, Kept.cell KB1.out HX4.out, Kept.cell KB1.out HX5.out, Kept.cell KB1.out HX6.out, Kept.cell KB1.out HX7.out, Kept.cell KB1.out HX8.out⟩ (fun hHeld => ?_)
  clear hK K
  (try simp only [Act.put, s1_, s2_, s3_, s4_, s5_, s6_])
  refine rd_ 5 rfl (fun K hK => ?_)
  go_simp
  (refine (fold_empty A1 n1 c1 text _ (by omega) (I1.out.kept (Kept.refl _))).mono ?_; rintro e w2 ⟨A2, n2, c2, rfl, le2, i2, k2⟩; have I2 := Lib.hid i2; have hn2 : n2 ≤ 500000 := (by rw [i2.1]; exact HTL.out); clear i2; have KB2 := Lib.hid (Kept.trans KB1.out k2))
  go_wp2_with fail
  refine hK.out _ _ ⟨Kept.cell KB2.out HX0.out, Kept.cell KB2.out HX1.out, Kept.cell KB2.out HX2.out, Kept.cell KB2.out HX3.out, Kept.cell KB2.out HX4.out, Kept.cell KB2.out HX5.out, Kept.cell KB2.out HX6.out, Kept.cell KB2.out HX7.out, Kept.cell KB2.out HX8.out⟩ (fun hHeld => ?_)
  clear hK K
  (try simp only [Act.put, s1_, s2_, s3_, s4_, s5_, s6_])
  refine tk_ 6 ?_ rfl ?_
  refine wpAnyH_done (by kernel_rfl) ?_ _
  clear p0 p1 p2 p3 p4 p5 p6 p7 p8
  have p0 := Kept.cell KB2.out HX0.out
  have p1 := Kept.cell KB2.out HX1.out
  have p2 := Kept.cell KB2.out HX2.out
  have p3 := Kept.cell KB2.out HX3.out
  have p4 := Kept.cell KB2.out HX4.out
  have p5 := Kept.cell KB2.out HX5.out
  have p6 := Kept.cell KB2.out HX6.out
  have p7 := Kept.cell KB2.out HX7.out
  have p8 := Kept.cell KB2.out HX8.out
  go_wp2_with fail
  refine (HFM.out A2 n2 c2 _ (Kept.trans HK1.out KB2.out) hn2 I2.out).mono ?_
  rintro e w3 ⟨A3, n3, c3, rfl, le3, i3, fr3, k3⟩
  have I3 := Lib.hid i3
  have FR3 := Lib.hid fr3
  have hn3 : n3 ≤ 500000 := (by rw [i3.1]; exact HTL.out)
  clear i3 fr3
  clear p0 p1 p2 p3 p4 p5 p6 p7 p8
  have KB3 := Lib.hid (Kept.trans KB2.out k3)
  go_wp2_with fail
  go_ret
  exact ⟨A3, n3, c3, rfl, le3, I3.out, fun a ha => Nat.le_trans (Kept.trans HK1.out KB2.out).size (FR3.out a ha), (Kept.trans HK1.out KB3.out)⟩
set_option maxRecDepth 100000 in
set_option maxHeartbeats 2000000 in
theorem prep_plain (s : Sls) (n : Nrm) (A : Option Addr) (nt ct : Nat) (text : List Int) (w : World) (hN : NormAt w s n) (hG : Glob w) (hnt : nt ≤ 500000) (hT : Ints w A nt text) : Calls Tryz.prog 58 #[s.val, .agg #[.slice none 0 0, .slice none 0 0, .slice none 0 0, .slice none 0 0, .slice none 0 0, .slice none 0 0], .slice A nt ct, .bool false, .bool false] w (RetFr w (formOf n 1 text)) := by
  have hk0_ := Kept.alloc (Kept.refl w) (Obj.cells #[Value.slice s.Ac s.nc s.cc, Value.slice s.Am s.nm s.cm, Value.slice s.Ae s.ne s.ce] 28)
  have hk1_ := Kept.alloc hk0_ (Obj.cells #[Value.slice none 0 0, Value.slice none 0 0, Value.slice none 0 0, Value.slice none 0 0, Value.slice none 0 0, Value.slice none 0 0] 60)
  have HK1 := Lib.hid hk1_
  have hb0_ := (alloc_lift (o := (Obj.cells #[Value.slice none 0 0, Value.slice none 0 0, Value.slice none 0 0, Value.slice none 0 0, Value.slice none 0 0, Value.slice none 0 0] 60)) (box_block w (Obj.cells #[Value.slice s.Ac s.nc s.cc, Value.slice s.Am s.nm s.cm, Value.slice s.Ae s.ne s.ce] 28)))
  have x0_ := cell_of_block (i := 0) hb0_ rfl
  have x1_ := cell_of_block (i := 1) hb0_ rfl
  have x2_ := cell_of_block (i := 2) hb0_ rfl
  have hb1_ := (box_block (w.alloc (Obj.cells #[Value.slice s.Ac s.nc s.cc, Value.slice s.Am s.nm s.cm, Value.slice s.Ae s.ne s.ce] 28)) (Obj.cells #[Value.slice none 0 0, Value.slice none 0 0, Value.slice none 0 0, Value.slice none 0 0, Value.slice none 0 0, Value.slice none 0 0] 60))
  simp only [World.size_alloc] at hb1_
  have x3_ := cell_of_block (i := 0) hb1_ rfl
  have x4_ := cell_of_block (i := 1) hb1_ rfl
  have x5_ := cell_of_block (i := 2) hb1_ rfl
  have x6_ := cell_of_block (i := 3) hb1_ rfl
  have x7_ := cell_of_block (i := 4) hb1_ rfl
  have x8_ := cell_of_block (i := 5) hb1_ rfl
  simp only [s4_, s5_, s6_] at x0_ x1_ x2_ x3_ x4_ x5_ x6_ x7_ x8_
  have HX0 := Lib.hid x0_
  have HX1 := Lib.hid x1_
  have HX2 := Lib.hid x2_
  have HX3 := Lib.hid x3_
  have HX4 := Lib.hid x4_
  have HX5 := Lib.hid x5_
  have HX6 := Lib.hid x6_
  have HX7 := Lib.hid x7_
  have HX8 := Lib.hid x8_
  have HB0 := Lib.hid hb0_
  have HB1 := Lib.hid hb1_
  clear x0_ x1_ x2_ x3_ x4_ x5_ x6_ x7_ x8_ hb0_ hb1_
  have HFM := Lib.hid (form_new s n 1 A nt ct text _ (hN.kept HK1.out) (hG.kept HK1.out) hnt (hT.kept HK1.out))
  clear hN hG hT hk0_ hk1_
  unfold Sls.val at *
  go_enter Tryz.func58, Tryz.ntmps58
  have p0 := HX0.out
  have p1 := HX1.out
  have p2 := HX2.out
  go_wp2_with fail
  refine HFM.out.mono ?_
  rintro e w1 ⟨A1, n1, c1, rfl, le1, i1, fr1, k1⟩
  have I1 := Lib.hid i1
  have FR1 := Lib.hid fr1
  clear i1 fr1
  go_wp2_with fail
  go_ret
  exact ⟨A1, n1, c1, rfl, le1, I1.out, fun a ha => Nat.le_trans HK1.out.size (FR1.out a ha), Kept.trans HK1.out k1⟩
set_option maxRecDepth 100000 in
set_option maxHeartbeats 2000000 in
theorem prep_fold (A : Option Addr) (nt ct : Nat) (text : List Int) (w : World) (hG : Glob w) (hnt : nt ≤ 500000) (hT : Ints w A nt text) (hx : ∀ x ∈ text, kind x = 0) : Calls Tryz.prog 58 #[.agg #[.slice none 0 0, .slice none 0 0, .slice none 0 0], .agg #[.slice none 0 0, .slice none 0 0, .slice none 0 0, .slice none 0 0, .slice none 0 0, .slice none 0 0], .slice A nt ct, .bool false, .bool true] w (RetFr w text) := by
  have hk0_ := Kept.alloc (Kept.refl w) (Obj.cells #[Value.slice none 0 0, Value.slice none 0 0, Value.slice none 0 0] 28)
  have hk1_ := Kept.alloc hk0_ (Obj.cells #[Value.slice none 0 0, Value.slice none 0 0, Value.slice none 0 0, Value.slice none 0 0, Value.slice none 0 0, Value.slice none 0 0] 60)
  have HK1 := Lib.hid hk1_
  have hb0_ := (alloc_lift (o := (Obj.cells #[Value.slice none 0 0, Value.slice none 0 0, Value.slice none 0 0, Value.slice none 0 0, Value.slice none 0 0, Value.slice none 0 0] 60)) (box_block w (Obj.cells #[Value.slice none 0 0, Value.slice none 0 0, Value.slice none 0 0] 28)))
  have x0_ := cell_of_block (i := 0) hb0_ rfl
  have x1_ := cell_of_block (i := 1) hb0_ rfl
  have x2_ := cell_of_block (i := 2) hb0_ rfl
  have hb1_ := (box_block (w.alloc (Obj.cells #[Value.slice none 0 0, Value.slice none 0 0, Value.slice none 0 0] 28)) (Obj.cells #[Value.slice none 0 0, Value.slice none 0 0, Value.slice none 0 0, Value.slice none 0 0, Value.slice none 0 0, Value.slice none 0 0] 60))
  simp only [World.size_alloc] at hb1_
  have x3_ := cell_of_block (i := 0) hb1_ rfl
  have x4_ := cell_of_block (i := 1) hb1_ rfl
  have x5_ := cell_of_block (i := 2) hb1_ rfl
  have x6_ := cell_of_block (i := 3) hb1_ rfl
  have x7_ := cell_of_block (i := 4) hb1_ rfl
  have x8_ := cell_of_block (i := 5) hb1_ rfl
  simp only [s4_, s5_, s6_] at x0_ x1_ x2_ x3_ x4_ x5_ x6_ x7_ x8_
  have HX0 := Lib.hid x0_
  have HX1 := Lib.hid x1_
  have HX2 := Lib.hid x2_
  have HX3 := Lib.hid x3_
  have HX4 := Lib.hid x4_
  have HX5 := Lib.hid x5_
  have HX6 := Lib.hid x6_
  have HX7 := Lib.hid x7_
  have HX8 := Lib.hid x8_
  have HB0 := Lib.hid hb0_
  have HB1 := Lib.hid hb1_
  clear x0_ x1_ x2_ x3_ x4_ x5_ x6_ x7_ x8_ hb0_ hb1_
  have HCF := Lib.hid (cform_empty A nt ct text _ (hG.kept HK1.out) hnt (hT.kept HK1.out) hx)
  have HFM := Lib.hid (fun A' n' c' w' (hk : Kept w w') (hn' : n' ≤ 500000) (hI : Ints w' A' n' text) => form_new emptyS emptyN 1 A' n' c' text w' (emptyS_at _) (hG.kept hk) hn' hI)
  rw [empty_form 1 hx] at HFM
  have HTL := Lib.hid (show text.length ≤ 500000 by rw [← hT.1]; exact hnt)
  clear hG hT hx hk0_ hk1_
  unfold Sls.val emptyS at HFM
  dsimp only at HFM
  go_enter Tryz.func58, Tryz.ntmps58
  have p0 := HX0.out
  have p1 := HX1.out
  have p2 := HX2.out
  have p3 := HX3.out
  have p4 := HX4.out
  have p5 := HX5.out
  have p6 := HX6.out
  have p7 := HX7.out
  have p8 := HX8.out
  go_wp2_with fail
  refine (HCF.out).mono ?_
  rintro e w1 ⟨A1, n1, c1, rfl, le1, i1, fr1, k1⟩
  have I1 := Lib.hid i1
  have FR1 := Lib.hid fr1
  have hn1 : n1 ≤ 500000 := (by rw [i1.1]; exact HTL.out)
  clear i1 fr1
  clear p0 p1 p2 p3 p4 p5 p6 p7 p8
  have KB1 := Lib.hid (Kept.trans (Kept.refl ((w.alloc (Obj.cells #[Value.slice none 0 0, Value.slice none 0 0, Value.slice none 0 0] 28)).alloc (Obj.cells #[Value.slice none 0 0, Value.slice none 0 0, Value.slice none 0 0, Value.slice none 0 0, Value.slice none 0 0, Value.slice none 0 0] 60))) k1)
  have p0 := Kept.cell KB1.out HX0.out
  have p1 := Kept.cell KB1.out HX1.out
  have p2 := Kept.cell KB1.out HX2.out
  have p3 := Kept.cell KB1.out HX3.out
  have p4 := Kept.cell KB1.out HX4.out
  have p5 := Kept.cell KB1.out HX5.out
  have p6 := Kept.cell KB1.out HX6.out
  have p7 := Kept.cell KB1.out HX7.out
  have p8 := Kept.cell KB1.out HX8.out
  go_wp2_with fail
  refine (HFM.out A1 n1 c1 _ (Kept.trans HK1.out KB1.out) hn1 I1.out).mono ?_
  rintro e w2 ⟨A2, n2, c2, rfl, le2, i2, fr2, k2⟩
  have I2 := Lib.hid i2
  have FR2 := Lib.hid fr2
  have hn2 : n2 ≤ 500000 := (by rw [i2.1]; exact HTL.out)
  clear i2 fr2
  clear p0 p1 p2 p3 p4 p5 p6 p7 p8
  have KB2 := Lib.hid (Kept.trans KB1.out k2)
  go_wp2_with fail
  go_ret
  exact ⟨A2, n2, c2, rfl, le2, I2.out, fun a ha => Nat.le_trans (Kept.trans HK1.out KB1.out).size (FR2.out a ha), (Kept.trans HK1.out KB2.out)⟩
def RetPrep (w : World) (R : Nat × Nat) (T : List Int) (e : Ending) (w' : World) : Prop := ∃ Q k c, e = .returned (.tuple #[.slice Q k c, .agg #[.int .i64 (if R.1 = 0 ∨ R.1 < T.length then 7 else 0), .int .i64 (if R.1 = 0 ∨ R.1 < T.length then ((R.2 : Nat) : Int) else 0)]]) ∧ k ≤ c ∧ Ints w' Q k (if R.1 = 0 ∨ R.1 < T.length then [] else T) ∧ Kept w w'
set_option maxRecDepth 100000 in
set_option maxHeartbeats 2000000 in
theorem prepare_of (fo : Bool) (s : Sls) (i : Ids) (r : IdR) (A : Option Addr) (nt ct : Nat) (T : List Int) (w : World) (hI : IdIn w i r) (hs : smallI r = true) (hTL : T.length ≤ 100000) (HP : Hid (∀ w', Kept w w' → Calls Tryz.prog 58 #[s.val, .agg #[.slice none 0 0, .slice none 0 0, .slice none 0 0, .slice none 0 0, .slice none 0 0, .slice none 0 0], .slice A nt ct, .bool false, .bool fo] w' (RetFr w' T))) : Calls Tryz.prog 31 #[s.val, .agg #[.slice none 0 0, .slice none 0 0, .slice none 0 0, .slice none 0 0, .slice none 0 0, .slice none 0 0], i.val, .slice A nt ct, .bool false, .bool fo] w (RetPrep w (idScan r.b r.p r.c T) T) := by
  have hk0_ := Kept.alloc (Kept.refl w) (Obj.cells #[Value.slice s.Ac s.nc s.cc, Value.slice s.Am s.nm s.cm, Value.slice s.Ae s.ne s.ce] 28)
  have hk1_ := Kept.alloc hk0_ (Obj.cells #[Value.slice none 0 0, Value.slice none 0 0, Value.slice none 0 0, Value.slice none 0 0, Value.slice none 0 0, Value.slice none 0 0] 60)
  have hk2_ := Kept.alloc hk1_ (Obj.cells #[Value.slice i.As i.ns i.cs, Value.slice i.Ac i.nc i.cc, Value.slice i.Am i.nm i.cm] 54)
  have hk3_ := Kept.alloc hk2_ (Obj.cells #[Value.int IntKind.i64 0, Value.int IntKind.i64 0] 67)
  have HK1 := Lib.hid hk3_
  have hb0_ := (alloc_lift (o := (Obj.cells #[Value.int IntKind.i64 0, Value.int IntKind.i64 0] 67)) (alloc_lift (o := (Obj.cells #[Value.slice i.As i.ns i.cs, Value.slice i.Ac i.nc i.cc, Value.slice i.Am i.nm i.cm] 54)) (alloc_lift (o := (Obj.cells #[Value.slice none 0 0, Value.slice none 0 0, Value.slice none 0 0, Value.slice none 0 0, Value.slice none 0 0, Value.slice none 0 0] 60)) (box_block w (Obj.cells #[Value.slice s.Ac s.nc s.cc, Value.slice s.Am s.nm s.cm, Value.slice s.Ae s.ne s.ce] 28)))))
  have x0_ := cell_of_block (i := 0) hb0_ rfl
  have x1_ := cell_of_block (i := 1) hb0_ rfl
  have x2_ := cell_of_block (i := 2) hb0_ rfl
  have hb1_ := (alloc_lift (o := (Obj.cells #[Value.int IntKind.i64 0, Value.int IntKind.i64 0] 67)) (alloc_lift (o := (Obj.cells #[Value.slice i.As i.ns i.cs, Value.slice i.Ac i.nc i.cc, Value.slice i.Am i.nm i.cm] 54)) (box_block (w.alloc (Obj.cells #[Value.slice s.Ac s.nc s.cc, Value.slice s.Am s.nm s.cm, Value.slice s.Ae s.ne s.ce] 28)) (Obj.cells #[Value.slice none 0 0, Value.slice none 0 0, Value.slice none 0 0, Value.slice none 0 0, Value.slice none 0 0, Value.slice none 0 0] 60))))
  simp only [World.size_alloc] at hb1_
  have x3_ := cell_of_block (i := 0) hb1_ rfl
  have x4_ := cell_of_block (i := 1) hb1_ rfl
  have x5_ := cell_of_block (i := 2) hb1_ rfl
  have x6_ := cell_of_block (i := 3) hb1_ rfl
  have x7_ := cell_of_block (i := 4) hb1_ rfl
  have x8_ := cell_of_block (i := 5) hb1_ rfl
  have hb2_ := (alloc_lift (o := (Obj.cells #[Value.int IntKind.i64 0, Value.int IntKind.i64 0] 67)) (box_block ((w.alloc (Obj.cells #[Value.slice s.Ac s.nc s.cc, Value.slice s.Am s.nm s.cm, Value.slice s.Ae s.ne s.ce] 28)).alloc (Obj.cells #[Value.slice none 0 0, Value.slice none 0 0, Value.slice none 0 0, Value.slice none 0 0, Value.slice none 0 0, Value.slice none 0 0] 60)) (Obj.cells #[Value.slice i.As i.ns i.cs, Value.slice i.Ac i.nc i.cc, Value.slice i.Am i.nm i.cm] 54)))
  simp only [World.size_alloc] at hb2_
  have x9_ := cell_of_block (i := 0) hb2_ rfl
  have x10_ := cell_of_block (i := 1) hb2_ rfl
  have x11_ := cell_of_block (i := 2) hb2_ rfl
  have hb3_ := (box_block (((w.alloc (Obj.cells #[Value.slice s.Ac s.nc s.cc, Value.slice s.Am s.nm s.cm, Value.slice s.Ae s.ne s.ce] 28)).alloc (Obj.cells #[Value.slice none 0 0, Value.slice none 0 0, Value.slice none 0 0, Value.slice none 0 0, Value.slice none 0 0, Value.slice none 0 0] 60)).alloc (Obj.cells #[Value.slice i.As i.ns i.cs, Value.slice i.Ac i.nc i.cc, Value.slice i.Am i.nm i.cm] 54)) (Obj.cells #[Value.int IntKind.i64 0, Value.int IntKind.i64 0] 67))
  simp only [World.size_alloc] at hb3_
  have x12_ := cell_of_block (i := 0) hb3_ rfl
  have x13_ := cell_of_block (i := 1) hb3_ rfl
  simp only [s4_, s5_, s6_] at x0_ x1_ x2_ x3_ x4_ x5_ x6_ x7_ x8_ x9_ x10_ x11_ x12_ x13_
  have HX0 := Lib.hid x0_
  have HX1 := Lib.hid x1_
  have HX2 := Lib.hid x2_
  have HX3 := Lib.hid x3_
  have HX4 := Lib.hid x4_
  have HX5 := Lib.hid x5_
  have HX6 := Lib.hid x6_
  have HX7 := Lib.hid x7_
  have HX8 := Lib.hid x8_
  have HX9 := Lib.hid x9_
  have HX10 := Lib.hid x10_
  have HX11 := Lib.hid x11_
  have HX12 := Lib.hid x12_
  have HX13 := Lib.hid x13_
  have HB0 := Lib.hid hb0_
  have HB1 := Lib.hid hb1_
  have HB2 := Lib.hid hb2_
  have HB3 := Lib.hid hb3_
  clear x0_ x1_ x2_ x3_ x4_ x5_ x6_ x7_ x8_ x9_ x10_ x11_ x12_ x13_ hb0_ hb1_ hb2_ hb3_
  have HTL := Lib.hid hTL
  have HM := Lib.hid (fun w' (hk : Kept w w') => made_any i r w' (hI.kept hk) hs)
  clear hI hs hTL hk0_ hk1_ hk2_ hk3_
  unfold Sls.val Ids.val at *
  go_enter Tryz.func31, Tryz.ntmps31
  have p0 := HX0.out
  have p1 := HX1.out
  have p2 := HX2.out
  have p3 := HX3.out
  have p4 := HX4.out
  have p5 := HX5.out
  have p6 := HX6.out
  have p7 := HX7.out
  have p8 := HX8.out
  go_wp2_with fail
  refine (HP.out _ HK1.out).mono ?_
  rintro e w1 ⟨A1, n1, c1, rfl, le1, i1, fr1, k1⟩
  have I1 := Lib.hid i1
  have HN1 := Lib.hid i1.1
  have FR1 := Lib.hid fr1
  have KB1 := Lib.hid k1
  have hn1 : n1 ≤ 100000 := (by rw [i1.1]; exact HTL.out)
  clear i1 fr1 k1 p0 p1 p2 p3 p4 p5 p6 p7 p8
  have q9 := Kept.cell KB1.out HX9.out
  have q10 := Kept.cell KB1.out HX10.out
  have q11 := Kept.cell KB1.out HX11.out
  go_wp2_with fail
  refine (HM.out _ (Kept.trans HK1.out KB1.out)).mono ?_
  rintro e w2 ⟨B, rfl, hS, k2⟩
  have HS := Lib.hid (iscan_any A1 n1 c1 T w2 hS hn1 (I1.out.kept k2))
  have KB2 := Lib.hid (Kept.trans KB1.out k2)
  have I2 := Lib.hid (I1.out.kept k2)
  clear hS k2 q9 q10 q11
  generalize idScan r.b r.p r.c T = R at *
  obtain ⟨en, sto⟩ := R
  dsimp only at HS
  go_wp2_with fail
  refine HS.out.mono ?_
  rintro e w3 ⟨rfl, k3⟩
  have KB3 := Lib.hid (Kept.trans KB2.out k3)
  have I3 := Lib.hid (I2.out.kept k3)
  clear k3 HS
  have hy := (KB3.out.block _ (block_lt HB3.out)).trans HB3.out
  have f0 := frozen_of_block (i := 0) hy
  have f1 := frozen_of_block (i := 1) hy
  have d0 := cell_of_block (i := 0) hy rfl
  have d1 := cell_of_block (i := 1) hy rfl
  simp only [s4_, s5_, s6_] at d0 d1
  have HY := Lib.hid hy
  clear hy
  have HSB := Lib.hid (show w.heap.size + 1 + 1 + 1 < w1.heap.size from Nat.lt_of_lt_of_le (block_lt HB3.out) KB1.out.size)
  have HBB := Lib.hid (show ∀ a, A1 = some a → a.block ≠ w.heap.size + 1 + 1 + 1 from fun a h => by have h1 := FR1.out a h; have h2 : (((((w.alloc (Obj.cells #[Value.slice s.Ac s.nc s.cc, Value.slice s.Am s.nm s.cm, Value.slice s.Ae s.ne s.ce] 28)).alloc (Obj.cells #[Value.slice none 0 0, Value.slice none 0 0, Value.slice none 0 0, Value.slice none 0 0, Value.slice none 0 0, Value.slice none 0 0] 60)).alloc (Obj.cells #[Value.slice i.As i.ns i.cs, Value.slice i.Ac i.nc i.cc, Value.slice i.Am i.nm i.cm] 54)).alloc (Obj.cells #[Value.int IntKind.i64 0, Value.int IntKind.i64 0] 67))).heap.size = w.heap.size + 1 + 1 + 1 + 1 := (by simp); omega)
  by_cases h0 : en = 0
  · have h1 : ((en : Nat) : Int) = 0 := by omega
    have h2 : (((en : Nat) : Int) == 0) = true := by simp [h1]
    have HC := Lib.hid (show (en = 0 ∨ en < T.length) from .inl h0)
    clear h0
    have hF := cells2_set HY.out (.int .i64 7) (.int .i64 ((sto : Nat) : Int))
    have g0 := cell_of_block (i := 0) hF rfl
    have g1 := cell_of_block (i := 1) hF rfl
    simp only [s4_, s5_, s6_] at g0 g1
    have G0 := Lib.hid g0
    have G1 := Lib.hid g1
    clear hF g0 g1
    go_wp2_with fail
    have g0 := G0.out
    have g1 := G1.out
    clear d0 d1 f0 f1
    refine bodyPost_ret (v := .tuple #[.slice none 0 0, .agg #[.int .i64 7, .int .i64 ((sto : Nat) : Int)]]) (by simp [results, Tryz.results31, go_sem, g0, g1]) rfl ?_
    have hcond := HC.out
    unfold RetPrep
    dsimp only
    rw [if_pos hcond, if_pos hcond, if_pos hcond]
    exact ⟨none, 0, 0, rfl, Nat.le_refl _, Sl.nil, Kept.setCell (Kept.setCell (Kept.trans HK1.out KB3.out) (p := ⟨w.heap.size + 1 + 1 + 1, 0, none⟩) (by show w.heap.size ≤ w.heap.size + 1 + 1 + 1; omega) (.int .i64 7)) (p := ⟨w.heap.size + 1 + 1 + 1, 1, none⟩) (by show w.heap.size ≤ w.heap.size + 1 + 1 + 1; omega) (.int .i64 ((sto : Nat) : Int))⟩
  · have h1 : ¬ ((en : Nat) : Int) = 0 := by omega
    have h2 : (((en : Nat) : Int) == 0) = false := by simp; omega
    by_cases h3 : en < n1
    · have h4 : ((en : Nat) : Int) < (n1 : Int) := by omega
      have HC := Lib.hid (show (en = 0 ∨ en < T.length) from .inr (by rw [← HN1.out]; exact h3))
      clear h0 h3
      have hF := cells2_set HY.out (.int .i64 7) (.int .i64 ((sto : Nat) : Int))
      have g0 := cell_of_block (i := 0) hF rfl
      have g1 := cell_of_block (i := 1) hF rfl
      simp only [s4_, s5_, s6_] at g0 g1
      have G0 := Lib.hid g0
      have G1 := Lib.hid g1
      clear hF g0 g1
      go_wp2_with fail
      have g0 := G0.out
      have g1 := G1.out
      clear d0 d1 f0 f1
      refine bodyPost_ret (v := .tuple #[.slice none 0 0, .agg #[.int .i64 7, .int .i64 ((sto : Nat) : Int)]]) (by simp [results, Tryz.results31, go_sem, g0, g1]) rfl ?_
      have hcond := HC.out
      unfold RetPrep
      dsimp only
      rw [if_pos hcond, if_pos hcond, if_pos hcond]
      exact ⟨none, 0, 0, rfl, Nat.le_refl _, Sl.nil, Kept.setCell (Kept.setCell (Kept.trans HK1.out KB3.out) (p := ⟨w.heap.size + 1 + 1 + 1, 0, none⟩) (by show w.heap.size ≤ w.heap.size + 1 + 1 + 1; omega) (.int .i64 7)) (p := ⟨w.heap.size + 1 + 1 + 1, 1, none⟩) (by show w.heap.size ≤ w.heap.size + 1 + 1 + 1; omega) (.int .i64 ((sto : Nat) : Int))⟩
    · have h4 : ¬ ((en : Nat) : Int) < (n1 : Int) := by omega
      have HC := Lib.hid (show ¬ (en = 0 ∨ en < T.length) by rw [← HN1.out]; omega)
      clear h0 h3
      have hF := cells2_set HY.out (.int .i64 0) (.int .i64 0)
      have g0 := cell_of_block (i := 0) hF rfl
      have g1 := cell_of_block (i := 1) hF rfl
      simp only [s4_, s5_, s6_] at g0 g1
      have G0 := Lib.hid g0
      have G1 := Lib.hid g1
      clear hF g0 g1
      go_wp2_with fail
      have g0 := G0.out
      have g1 := G1.out
      clear d0 d1 f0 f1
      refine bodyPost_ret (v := .tuple #[.slice A1 n1 c1, .agg #[.int .i64 0, .int .i64 0]]) (by simp [results, Tryz.results31, go_sem, g0, g1]) rfl ?_
      have hcond := HC.out
      unfold RetPrep
      dsimp only
      rw [if_neg hcond, if_neg hcond, if_neg hcond]
      exact ⟨A1, n1, c1, rfl, le1, Ints.sets (Ints.sets I3.out HBB.out 0 _) HBB.out 1 _, Kept.setCell (Kept.setCell (Kept.trans HK1.out KB3.out) (p := ⟨w.heap.size + 1 + 1 + 1, 0, none⟩) (by show w.heap.size ≤ w.heap.size + 1 + 1 + 1; omega) (.int .i64 0)) (p := ⟨w.heap.size + 1 + 1 + 1, 1, none⟩) (by show w.heap.size ≤ w.heap.size + 1 + 1 + 1; omega) (.int .i64 0)⟩
end Go.Proofs.YtmlcdohldkgcdaaGreatDoor
