/- law26.JoiningJoins returns true. -/
import Derived.Deep.RegionHeld3
import Derived.Test.YtjfhcmkcmdnhoaaGreatDoorKSq
import Derived.Test.YtjfhcmkcmdnhoaaGreatDoorKAl6
import Derived.Test.YtjfhcmkcmdnhoaaGreatDoorKRefAG
namespace Go.Proofs.YtjfhcmkcmdnhoaaGreatDoor
open Go Go.RowKit
set_option maxRecDepth 100000 in
set_option maxHeartbeats 4000000 in
theorem law_joins26 (s : Sls) (n : Nrm) (form : Int) (A : Option Addr) (l c : Nat) (xs : List Int) (B : Option Addr) (m d : Nat) (ys : List Int) (w : World) (hN : NormIn w s n) (_hx : I64 form) (hI : l ≤ c ∧ c ≤ 9223372036854775807 ∧ Ints w A l xs) (hJ : m ≤ d ∧ d ≤ 9223372036854775807 ∧ Ints w B m ys) (hG : Glob w) : Calls Tryz.prog 4 #[s.val, .int .i64 form, .slice A l c, .slice B m d] w (RetB w true) := by
  have hk0_ := Kept.alloc (Kept.refl w) (Obj.cells #[Value.slice s.Ac s.nc s.cc, Value.slice s.Am s.nm s.cm, Value.slice s.Ae s.ne s.ce] 28)
  have HK1 := Lib.hid hk0_
  have hb0_ := (box_block w (Obj.cells #[Value.slice s.Ac s.nc s.cc, Value.slice s.Am s.nm s.cm, Value.slice s.Ae s.ne s.ce] 28))
  have x0_ := cell_of_block (i := 0) hb0_ rfl
  have x1_ := cell_of_block (i := 1) hb0_ rfl
  have x2_ := cell_of_block (i := 2) hb0_ rfl
  simp only [s4_, s5_, s6_] at x0_ x1_ x2_
  have HX0 := Lib.hid x0_
  have HX1 := Lib.hid x1_
  have HX2 := Lib.hid x2_
  have HB0 := Lib.hid hb0_
  clear x0_ x1_ x2_ hb0_
  obtain ⟨hle, hbig, hI⟩ := hI
  obtain ⟨hle2, hbig2, hJ⟩ := hJ
  have HS := Lib.hid (fun w' (hk : Kept w w') => few26 s n A l c B m d w' (hN.kept hk) ⟨hle, hbig⟩ ⟨hle2, hbig2⟩)
  have HN := Lib.hid hN
  have HG := Lib.hid hG
  have HI := Lib.hid hI
  have HJ := Lib.hid hJ
  clear hN hG hk0_ hI hJ hbig hbig2
  cases hsm : (smallB n && (decide (l ≤ 20) && decide (m ≤ 20)))
  · rw [hsm] at HS
    clear hsm
    unfold Sls.val at *
    go_enter Tryz.func4, Tryz.ntmps4
    have p0 := HX0.out
    have p1 := HX1.out
    have p2 := HX2.out
    go_wp2_with fail
    refine wp_region_held_drew (S := (fun w' => w'.cell? ⟨w.heap.size, 0, none⟩ = some (.slice s.Ac s.nc s.cc) ∧ w'.cell? ⟨w.heap.size, 1, none⟩ = some (.slice s.Am s.nm s.cm) ∧ w'.cell? ⟨w.heap.size, 2, none⟩ = some (.slice s.Ae s.ne s.ce))) (by kernel_rfl) ⟨p0, p1, p2⟩ (fun hHeld => ?_)
    refine tk_ 0 ?_ rfl ?_; refine tk_ 1 ?_ rfl ?_; refine tk_ 2 ?_ rfl ?_
    refine rd_ 3 rfl (fun K hK => ?_)
    go_simp
    (refine (HS.out _ (Kept.trans HK1.out (Kept.drew (Kept.refl (w.alloc (Obj.cells #[Value.slice s.Ac s.nc s.cc, Value.slice s.Am s.nm s.cm, Value.slice s.Ae s.ne s.ce] 28)))))).mono ?_; rintro e w1 ⟨rfl, k1⟩; have KB1 := Lib.hid (Kept.trans (Kept.drew (Kept.refl (w.alloc (Obj.cells #[Value.slice s.Ac s.nc s.cc, Value.slice s.Am s.nm s.cm, Value.slice s.Ae s.ne s.ce] 28)))) k1))
    go_wp2_with fail
    refine hK.out _ _ ⟨Kept.cell KB1.out HX0.out, Kept.cell KB1.out HX1.out, Kept.cell KB1.out HX2.out⟩ (fun hHeld => ?_)
    clear hK K
    (try simp only [Act.put, s1_, s2_, s3_, s4_, s5_, s6_])
    refine tk_ 4 ?_ rfl ?_; refine tk_ 5 ?_ rfl ?_; refine sk_ 6 rfl ?_; refine sk_ 7 rfl ?_; refine sk_ 8 rfl ?_; refine sk_ 9 rfl ?_; refine sk_ 10 rfl ?_; refine sk_ 11 rfl ?_; refine sk_ 12 rfl ?_; refine sk_ 13 rfl ?_; refine sk_ 14 rfl ?_; refine sk_ 15 rfl ?_; refine sk_ 16 rfl ?_; refine tk_ 17 ?_ rfl ?_; refine tk_ 18 ?_ rfl ?_
    refine rd_ 19 rfl (fun K hK => ?_)
    go_simp
    (refine (alive26 _ (HG.out.kept (Kept.trans HK1.out KB1.out))).mono ?_; rintro e w2 ⟨rfl, k2⟩; have KB2 := Lib.hid (Kept.trans KB1.out k2))
    go_wp2_with fail
    refine hK.out _ _ ⟨Kept.cell KB2.out HX0.out, Kept.cell KB2.out HX1.out, Kept.cell KB2.out HX2.out⟩ (fun hHeld => ?_)
    clear hK K
    (try simp only [Act.put, s1_, s2_, s3_, s4_, s5_, s6_])
    refine tk_ 20 ?_ rfl ?_; refine tk_ 21 ?_ rfl ?_
    refine wpAnyH_done (by kernel_rfl) ?_ _
    clear p0 p1 p2
    go_wp2_with fail
    go_ret
    exact ⟨rfl, (Kept.trans HK1.out KB2.out)⟩
  · rw [hsm] at HS
    obtain ⟨hsb, hsm2⟩ := (Bool.and_eq_true _ _).mp hsm
    obtain ⟨hl20, hm20⟩ := (Bool.and_eq_true _ _).mp hsm2
    have hl20 := of_decide_eq_true hl20
    have hm20 := of_decide_eq_true hm20
    have HNA := Lib.hid (HN.out.small hsb)
    have HTG := Lib.hid (norm_tag HN.out hsb)
    have HXL := Lib.hid HI.out.1
    have HYL := Lib.hid HJ.out.1
    clear hsm hsm2 hsb
    have HE := Lib.hid (fun w' (hk : Kept w w') => joinP_any s n form A l c xs B m d ys w' (HNA.out.kept hk) (HG.out.kept hk) (by omega) (by omega) hle hle2 (HI.out.kept hk) (HJ.out.kept hk))
    have HE2 := Lib.hid (fun w' (hk : Kept w w') => r26Join s n form A l c xs B m d ys w' (HNA.out.kept hk) HTG.out (by omega) (by omega) (HI.out.kept hk) (HJ.out.kept hk) hle hle2)
    have HLX := Lib.hid (show (joinM n form xs [] ys).length ≤ 10000 by have := joinM_length n form xs [] ys; have := HXL.out; have := HYL.out; simp only [List.length_nil] at *; omega)
    generalize joinM n form xs [] ys = X at *
    unfold Sls.val at *
    go_enter Tryz.func4, Tryz.ntmps4
    have p0 := HX0.out
    have p1 := HX1.out
    have p2 := HX2.out
    go_wp2_with fail
    refine wp_region_held_drew (S := (fun w' => w'.cell? ⟨w.heap.size, 0, none⟩ = some (.slice s.Ac s.nc s.cc) ∧ w'.cell? ⟨w.heap.size, 1, none⟩ = some (.slice s.Am s.nm s.cm) ∧ w'.cell? ⟨w.heap.size, 2, none⟩ = some (.slice s.Ae s.ne s.ce))) (by kernel_rfl) ⟨p0, p1, p2⟩ (fun hHeld => ?_)
    refine tk_ 0 ?_ rfl ?_; refine tk_ 1 ?_ rfl ?_; refine tk_ 2 ?_ rfl ?_
    refine rd_ 3 rfl (fun K hK => ?_)
    go_simp
    (refine (HS.out _ (Kept.trans HK1.out (Kept.drew (Kept.refl (w.alloc (Obj.cells #[Value.slice s.Ac s.nc s.cc, Value.slice s.Am s.nm s.cm, Value.slice s.Ae s.ne s.ce] 28)))))).mono ?_; rintro e w1 ⟨rfl, k1⟩; have KB1 := Lib.hid (Kept.trans (Kept.drew (Kept.refl (w.alloc (Obj.cells #[Value.slice s.Ac s.nc s.cc, Value.slice s.Am s.nm s.cm, Value.slice s.Ae s.ne s.ce] 28)))) k1))
    go_wp2_with fail
    refine hK.out _ _ ⟨Kept.cell KB1.out HX0.out, Kept.cell KB1.out HX1.out, Kept.cell KB1.out HX2.out⟩ (fun hHeld => ?_)
    clear hK K
    (try simp only [Act.put, s1_, s2_, s3_, s4_, s5_, s6_])
    refine tk_ 4 ?_ rfl ?_; refine tk_ 5 ?_ rfl ?_; refine tk_ 6 ?_ rfl ?_; refine tk_ 7 ?_ rfl ?_; refine tk_ 8 ?_ rfl ?_; refine tk_ 9 ?_ rfl ?_; refine tk_ 11 ?_ rfl ?_; refine tk_ 12 ?_ rfl ?_; refine tk_ 13 ?_ rfl ?_; refine tk_ 14 ?_ rfl ?_
    refine rd_ 10 rfl (fun K hK => ?_)
    go_simp
    (refine (HE.out _ (Kept.trans HK1.out KB1.out)).mono ?_; rintro e w2 ⟨A2, n2, c2, rfl, le2, i2, k2⟩; have I2 := Lib.hid i2; have hn2 : n2 ≤ 10000 := (by rw [i2.1]; exact HLX.out); clear i2; have KB2 := Lib.hid (Kept.trans KB1.out k2))
    go_wp2_with fail
    refine hK.out _ _ ⟨Kept.cell KB2.out HX0.out, Kept.cell KB2.out HX1.out, Kept.cell KB2.out HX2.out⟩ (fun hHeld => ?_)
    clear hK K
    (try simp only [Act.put, s1_, s2_, s3_, s4_, s5_, s6_])
    refine rd_ 15 rfl (fun K hK => ?_)
    go_simp
    (refine (HE2.out _ (Kept.trans HK1.out KB2.out)).mono ?_; rintro e w3 ⟨A3, n3, c3, rfl, le3, i3, k3⟩; have I3 := Lib.hid i3; have hn3 : n3 ≤ 10000 := (by rw [i3.1]; exact HLX.out); clear i3; have KB3 := Lib.hid (Kept.trans KB2.out k3))
    go_wp2_with fail
    refine hK.out _ _ ⟨Kept.cell KB3.out HX0.out, Kept.cell KB3.out HX1.out, Kept.cell KB3.out HX2.out⟩ (fun hHeld => ?_)
    clear hK K
    (try simp only [Act.put, s1_, s2_, s3_, s4_, s5_, s6_])
    refine rd_ 16 rfl (fun K hK => ?_)
    go_simp
    (refine (r01_same X A2 A3 n2 n3 c2 c3 _ HLX.out (I2.out.kept k3) I3.out).mono ?_; rintro e w4 ⟨rfl, k4⟩; have KB4 := Lib.hid (Kept.trans KB3.out k4))
    go_wp2_with fail
    refine hK.out _ _ ⟨Kept.cell KB4.out HX0.out, Kept.cell KB4.out HX1.out, Kept.cell KB4.out HX2.out⟩ (fun hHeld => ?_)
    clear hK K
    (try simp only [Act.put, s1_, s2_, s3_, s4_, s5_, s6_])
    refine tk_ 17 ?_ rfl ?_; refine tk_ 18 ?_ rfl ?_
    refine rd_ 19 rfl (fun K hK => ?_)
    go_simp
    (refine (alive26 _ (HG.out.kept (Kept.trans HK1.out KB4.out))).mono ?_; rintro e w5 ⟨rfl, k5⟩; have KB5 := Lib.hid (Kept.trans KB4.out k5))
    go_wp2_with fail
    refine hK.out _ _ ⟨Kept.cell KB5.out HX0.out, Kept.cell KB5.out HX1.out, Kept.cell KB5.out HX2.out⟩ (fun hHeld => ?_)
    clear hK K
    (try simp only [Act.put, s1_, s2_, s3_, s4_, s5_, s6_])
    refine tk_ 20 ?_ rfl ?_; refine tk_ 21 ?_ rfl ?_
    refine wpAnyH_done (by kernel_rfl) ?_ _
    clear p0 p1 p2
    go_wp2_with fail
    go_ret
    exact ⟨rfl, (Kept.trans HK1.out KB5.out)⟩
end Go.Proofs.YtjfhcmkcmdnhoaaGreatDoor
