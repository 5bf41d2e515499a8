/- law24.QuickcheckTexts returns true. -/
import Derived.Deep.RegionHeld3
import Derived.Test.YtjfhcmkcmdnhoaaGreatDoorKSq
import Derived.Test.YtjfhcmkcmdnhoaaGreatDoorKRow
import Derived.Test.YtjfhcmkcmdnhoaaGreatDoorKRefAF
namespace Go.Proofs.YtjfhcmkcmdnhoaaGreatDoor
open Go Go.RowKit
set_option maxRecDepth 100000 in
set_option maxHeartbeats 4000000 in
theorem law_texts24 (s : Sls) (n : Nrm) (form : Int) (A : Option Addr) (l c : Nat) (xs : List Int) (w : World) (hN : NormIn w s n) (_hx : I64 form) (hI : l ≤ c ∧ c ≤ 9223372036854775807 ∧ Ints w A l xs) (hG : Glob w) : Calls Tryz.prog 12 #[.agg #[Value.slice s.Ac s.nc s.cc, Value.slice s.Am s.nm s.cm, Value.slice s.Ae s.ne s.ce, Value.int IntKind.i64 form, Value.slice A l c]] w (RetB w true) := by
  have hk0_ := Kept.alloc (Kept.refl w) (Obj.cells #[Value.slice s.Ac s.nc s.cc, Value.slice s.Am s.nm s.cm, Value.slice s.Ae s.ne s.ce, Value.int IntKind.i64 form, Value.slice A l c] 54)
  have HK1 := Lib.hid hk0_
  have hb0_ := (box_block w (Obj.cells #[Value.slice s.Ac s.nc s.cc, Value.slice s.Am s.nm s.cm, Value.slice s.Ae s.ne s.ce, Value.int IntKind.i64 form, Value.slice A l c] 54))
  have x0_ := cell_of_block (i := 0) hb0_ rfl
  have x1_ := cell_of_block (i := 1) hb0_ rfl
  have x2_ := cell_of_block (i := 2) hb0_ rfl
  have x3_ := cell_of_block (i := 3) hb0_ rfl
  have x4_ := cell_of_block (i := 4) hb0_ rfl
  simp only [s4_, s5_, s6_] at x0_ x1_ x2_ x3_ x4_
  have HX0 := Lib.hid x0_
  have HX1 := Lib.hid x1_
  have HX2 := Lib.hid x2_
  have HX3 := Lib.hid x3_
  have HX4 := Lib.hid x4_
  have HB0 := Lib.hid hb0_
  clear x0_ x1_ x2_ x3_ x4_ hb0_
  obtain ⟨hle, hbig, hI⟩ := hI
  have HS := Lib.hid (few24 s n A l c (w.alloc (Obj.cells #[Value.slice s.Ac s.nc s.cc, Value.slice s.Am s.nm s.cm, Value.slice s.Ae s.ne s.ce, Value.int IntKind.i64 form, Value.slice A l c] 54)) (hN.kept hk0_) ⟨hle, hbig⟩)
  have HN := Lib.hid hN
  have HG := Lib.hid hG
  have HI := Lib.hid hI
  clear hN hG hk0_ hI hbig
  cases hsm : (smallB n && decide (l ≤ 12))
  · rw [hsm] at HS
    clear hsm
    unfold Sls.val at *
    go_enter Tryz.func12, Tryz.ntmps12
    have p0 := HX0.out
    have p1 := HX1.out
    have p2 := HX2.out
    have p3 := HX3.out
    have p4 := HX4.out
    go_wp2_with fail
    refine (HS.out).mono ?_
    rintro e w1 ⟨rfl, k1⟩
    clear p0 p1 p2 p3 p4
    have KB1 := Lib.hid (Kept.trans (Kept.refl (w.alloc (Obj.cells #[Value.slice s.Ac s.nc s.cc, Value.slice s.Am s.nm s.cm, Value.slice s.Ae s.ne s.ce, Value.int IntKind.i64 form, Value.slice A l c] 54))) k1)
    have p0 := Kept.cell KB1.out HX0.out
    have p1 := Kept.cell KB1.out HX1.out
    have p2 := Kept.cell KB1.out HX2.out
    have p3 := Kept.cell KB1.out HX3.out
    have p4 := Kept.cell KB1.out HX4.out
    go_wp2_with fail
    refine (alive24 _ (HG.out.kept (Kept.trans HK1.out KB1.out))).mono ?_
    rintro e w2 ⟨rfl, k2⟩
    clear p0 p1 p2 p3 p4
    have KB2 := Lib.hid (Kept.trans KB1.out k2)
    go_wp2_with fail
    go_ret
    exact ⟨rfl, (Kept.trans HK1.out KB2.out)⟩
  · rw [hsm] at HS
    obtain ⟨hsb, hl12⟩ := (Bool.and_eq_true _ _).mp hsm
    have hl12 := of_decide_eq_true hl12
    have HNA := Lib.hid (HN.out.small hsb)
    have HTG := Lib.hid (norm_tag HN.out hsb)
    have HXL := Lib.hid HI.out.1
    clear hsm hsb
    have HC := Lib.hid (fun w' (hk : Kept w w') => qtext_any s n form A l c xs w' (HNA.out.kept hk) (HG.out.kept hk) (by omega) (HI.out.kept hk))
    have HC2 := Lib.hid (fun w' (hk : Kept w w') => r24Text s n form A l c xs w' (HNA.out.kept hk) HTG.out (by omega) (HI.out.kept hk))
    generalize textQ n form xs = q at *
    have z1 : (q == q) = true := by simp
    unfold Sls.val at *
    go_enter Tryz.func12, Tryz.ntmps12
    have p0 := HX0.out
    have p1 := HX1.out
    have p2 := HX2.out
    have p3 := HX3.out
    have p4 := HX4.out
    go_wp2_with fail
    refine (HS.out).mono ?_
    rintro e w1 ⟨rfl, k1⟩
    clear p0 p1 p2 p3 p4
    have KB1 := Lib.hid (Kept.trans (Kept.refl (w.alloc (Obj.cells #[Value.slice s.Ac s.nc s.cc, Value.slice s.Am s.nm s.cm, Value.slice s.Ae s.ne s.ce, Value.int IntKind.i64 form, Value.slice A l c] 54))) k1)
    have p0 := Kept.cell KB1.out HX0.out
    have p1 := Kept.cell KB1.out HX1.out
    have p2 := Kept.cell KB1.out HX2.out
    have p3 := Kept.cell KB1.out HX3.out
    have p4 := Kept.cell KB1.out HX4.out
    go_wp2_with fail
    refine wp_region_held_drew (S := (fun w' => w'.cell? ⟨w.heap.size, 0, none⟩ = some (.slice s.Ac s.nc s.cc) ∧ w'.cell? ⟨w.heap.size, 1, none⟩ = some (.slice s.Am s.nm s.cm) ∧ w'.cell? ⟨w.heap.size, 2, none⟩ = some (.slice s.Ae s.ne s.ce) ∧ w'.cell? ⟨w.heap.size, 3, none⟩ = some (.int .i64 form) ∧ w'.cell? ⟨w.heap.size, 4, none⟩ = some (.slice A l c))) (by kernel_rfl) ⟨p0, p1, p2, p3, p4⟩ (fun hHeld => ?_)
    refine tk_ 0 ?_ rfl ?_; refine tk_ 1 ?_ rfl ?_; refine tk_ 2 ?_ rfl ?_; refine tk_ 3 ?_ rfl ?_; refine tk_ 4 ?_ rfl ?_; refine tk_ 5 ?_ rfl ?_; refine tk_ 7 ?_ rfl ?_; refine tk_ 8 ?_ rfl ?_; refine tk_ 9 ?_ rfl ?_; refine tk_ 10 ?_ rfl ?_; refine tk_ 11 ?_ rfl ?_; refine tk_ 12 ?_ rfl ?_
    refine rd_ 6 rfl (fun K hK => ?_)
    go_simp
    (refine (HC.out _ (Kept.trans HK1.out (Kept.drew KB1.out))).mono ?_; rintro e w2 ⟨rfl, k2⟩; have KB2 := Lib.hid (Kept.trans (Kept.drew KB1.out) k2))
    go_wp2_with fail
    refine hK.out _ _ ⟨Kept.cell KB2.out HX0.out, Kept.cell KB2.out HX1.out, Kept.cell KB2.out HX2.out, Kept.cell KB2.out HX3.out, Kept.cell KB2.out HX4.out⟩ (fun hHeld => ?_)
    clear hK K
    (try simp only [Act.put, s1_, s2_, s3_, s4_, s5_, s6_])
    refine rd_ 13 rfl (fun K hK => ?_)
    go_simp
    (refine (HC2.out _ (Kept.trans HK1.out KB2.out)).mono ?_; rintro e w3 ⟨rfl, k3⟩; have KB3 := Lib.hid (Kept.trans KB2.out k3))
    go_wp2_with fail
    refine hK.out _ _ ⟨Kept.cell KB3.out HX0.out, Kept.cell KB3.out HX1.out, Kept.cell KB3.out HX2.out, Kept.cell KB3.out HX3.out, Kept.cell KB3.out HX4.out⟩ (fun hHeld => ?_)
    clear hK K
    (try simp only [Act.put, s1_, s2_, s3_, s4_, s5_, s6_])
    refine tk_ 14 ?_ rfl ?_; refine tk_ 15 ?_ rfl ?_
    refine rd_ 16 rfl (fun K hK => ?_)
    go_simp
    (refine (alive24 _ (HG.out.kept (Kept.trans HK1.out KB3.out))).mono ?_; rintro e w4 ⟨rfl, k4⟩; have KB4 := Lib.hid (Kept.trans KB3.out k4))
    go_wp2_with fail
    refine hK.out _ _ ⟨Kept.cell KB4.out HX0.out, Kept.cell KB4.out HX1.out, Kept.cell KB4.out HX2.out, Kept.cell KB4.out HX3.out, Kept.cell KB4.out HX4.out⟩ (fun hHeld => ?_)
    clear hK K
    (try simp only [Act.put, s1_, s2_, s3_, s4_, s5_, s6_])
    refine tk_ 17 ?_ rfl ?_; refine tk_ 18 ?_ rfl ?_
    refine wpAnyH_done (by kernel_rfl) ?_ _
    clear p0 p1 p2 p3 p4
    go_wp2_with fail
    go_ret
    exact ⟨rfl, (Kept.trans HK1.out KB4.out)⟩
end Go.Proofs.YtjfhcmkcmdnhoaaGreatDoor
