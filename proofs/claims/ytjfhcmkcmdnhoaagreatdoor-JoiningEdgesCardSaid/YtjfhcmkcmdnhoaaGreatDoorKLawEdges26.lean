/- law26.JoiningEdges returns true. -/
import Derived.Deep.RegionHeld3
import Derived.Test.YtjfhcmkcmdnhoaaGreatDoorKSq
import Derived.Test.YtjfhcmkcmdnhoaaGreatDoorKAl6
import Derived.Test.YtjfhcmkcmdnhoaaGreatDoorKRefAG
namespace Go.Proofs.YtjfhcmkcmdnhoaaGreatDoor
open Go Go.RowKit
set_option maxRecDepth 100000 in
set_option maxHeartbeats 4000000 in
theorem law_edges26 (s : Sls) (n : Nrm) (form : Int) (A : Option Addr) (l c : Nat) (xs : List Int) (B : Option Addr) (m d : Nat) (ys : List Int) (w : World) (hN : NormIn w s n) (_hx : I64 form) (hI : l ≤ c ∧ c ≤ 9223372036854775807 ∧ Ints w A l xs) (hJ : m ≤ d ∧ d ≤ 9223372036854775807 ∧ Ints w B m ys) (hG : Glob w) : Calls Tryz.prog 3 #[s.val, .int .i64 form, .slice A l c, .slice B m d] w (RetB w true) := by
  have hk0_ := Kept.alloc (Kept.refl w) (Obj.cells #[Value.slice s.Ac s.nc s.cc, Value.slice s.Am s.nm s.cm, Value.slice s.Ae s.ne s.ce] 28)
  have HK1 := Lib.hid hk0_
  have hb0_ := (box_block w (Obj.cells #[Value.slice s.Ac s.nc s.cc, Value.slice s.Am s.nm s.cm, Value.slice s.Ae s.ne s.ce] 28))
  have x0_ := cell_of_block (i := 0) hb0_ rfl
  have x1_ := cell_of_block (i := 1) hb0_ rfl
  have x2_ := cell_of_block (i := 2) hb0_ rfl
  simp only [s4_, s5_, s6_] at x0_ x1_ x2_
  have HX0 := Lib.hid x0_
  have HX1 := Lib.hid x1_
  have HX2 := Lib.hid x2_
  have HB0 := Lib.hid hb0_
  clear x0_ x1_ x2_ hb0_
  obtain ⟨hle, hbig, hI⟩ := hI
  obtain ⟨hle2, hbig2, hJ⟩ := hJ
  have HS := Lib.hid (fun w' (hk : Kept w w') => few26 s n A l c B m d w' (hN.kept hk) ⟨hle, hbig⟩ ⟨hle2, hbig2⟩)
  have HN := Lib.hid hN
  have HG := Lib.hid hG
  have HI := Lib.hid hI
  have HJ := Lib.hid hJ
  clear hN hG hk0_ hI hJ hbig hbig2
  cases hsm : (smallB n && (decide (l ≤ 20) && decide (m ≤ 20)))
  · rw [hsm] at HS
    clear hsm
    unfold Sls.val at *
    go_enter Tryz.func3, Tryz.ntmps3
    have p0 := HX0.out
    have p1 := HX1.out
    have p2 := HX2.out
    go_wp2_with fail
    refine (HS.out _ (Kept.trans HK1.out (Kept.refl (w.alloc (Obj.cells #[Value.slice s.Ac s.nc s.cc, Value.slice s.Am s.nm s.cm, Value.slice s.Ae s.ne s.ce] 28))))).mono ?_
    rintro e w1 ⟨rfl, k1⟩
    clear p0 p1 p2
    have KB1 := Lib.hid (Kept.trans (Kept.refl (w.alloc (Obj.cells #[Value.slice s.Ac s.nc s.cc, Value.slice s.Am s.nm s.cm, Value.slice s.Ae s.ne s.ce] 28))) k1)
    have p0 := Kept.cell KB1.out HX0.out
    have p1 := Kept.cell KB1.out HX1.out
    have p2 := Kept.cell KB1.out HX2.out
    go_wp2_with fail
    refine (alive26 _ (HG.out.kept (Kept.trans HK1.out KB1.out))).mono ?_
    rintro e w2 ⟨rfl, k2⟩
    clear p0 p1 p2
    have KB2 := Lib.hid (Kept.trans KB1.out k2)
    go_wp2_with fail
    go_ret
    exact ⟨rfl, (Kept.trans HK1.out KB2.out)⟩
  · rw [hsm] at HS
    obtain ⟨hsb, hsm2⟩ := (Bool.and_eq_true _ _).mp hsm
    obtain ⟨hl20, hm20⟩ := (Bool.and_eq_true _ _).mp hsm2
    have hl20 := of_decide_eq_true hl20
    have hm20 := of_decide_eq_true hm20
    have HNA := Lib.hid (HN.out.small hsb)
    have HTG := Lib.hid (norm_tag HN.out hsb)
    have HXL := Lib.hid HI.out.1
    have HYL := Lib.hid HJ.out.1
    clear hsm hsm2 hsb
    have HE := Lib.hid (fun w' (hk : Kept w w') => edges_any s n form A l c xs B m d ys w' (HNA.out.kept hk) (HG.out.kept hk) (by omega) (by omega) (HI.out.kept hk) (HJ.out.kept hk))
    have HE2 := Lib.hid (fun w' (hk : Kept w w') => r26Edges s n form A l c xs B m d ys w' (HNA.out.kept hk) HTG.out (by omega) (by omega) (HI.out.kept hk) (HJ.out.kept hk))
    generalize jFrom n form xs = f at *
    generalize jTo n form ys = t at *
    have z1 : ((f : Int) == (f : Int)) = true := by simp
    have z2 : ((t : Int) == (t : Int)) = true := by simp
    unfold Sls.val at *
    go_enter Tryz.func3, Tryz.ntmps3
    have p0 := HX0.out
    have p1 := HX1.out
    have p2 := HX2.out
    go_wp2_with fail
    refine (HS.out _ (Kept.trans HK1.out (Kept.refl (w.alloc (Obj.cells #[Value.slice s.Ac s.nc s.cc, Value.slice s.Am s.nm s.cm, Value.slice s.Ae s.ne s.ce] 28))))).mono ?_
    rintro e w1 ⟨rfl, k1⟩
    clear p0 p1 p2
    have KB1 := Lib.hid (Kept.trans (Kept.refl (w.alloc (Obj.cells #[Value.slice s.Ac s.nc s.cc, Value.slice s.Am s.nm s.cm, Value.slice s.Ae s.ne s.ce] 28))) k1)
    have p0 := Kept.cell KB1.out HX0.out
    have p1 := Kept.cell KB1.out HX1.out
    have p2 := Kept.cell KB1.out HX2.out
    go_wp2_with fail
    refine (HE.out _ (Kept.trans HK1.out KB1.out)).mono ?_
    rintro e w2 ⟨rfl, k2⟩
    clear p0 p1 p2
    have KB2 := Lib.hid (Kept.trans KB1.out k2)
    have p0 := Kept.cell KB2.out HX0.out
    have p1 := Kept.cell KB2.out HX1.out
    have p2 := Kept.cell KB2.out HX2.out
    go_wp2_with fail
    refine (HE2.out _ (Kept.trans HK1.out KB2.out)).mono ?_
    rintro e w3 ⟨rfl, k3⟩
    clear p0 p1 p2
    have KB3 := Lib.hid (Kept.trans KB2.out k3)
    have p0 := Kept.cell KB3.out HX0.out
    have p1 := Kept.cell KB3.out HX1.out
    have p2 := Kept.cell KB3.out HX2.out
    go_wp2_with fail
    refine (alive26 _ (HG.out.kept (Kept.trans HK1.out KB3.out))).mono ?_
    rintro e w4 ⟨rfl, k4⟩
    clear p0 p1 p2
    have KB4 := Lib.hid (Kept.trans KB3.out k4)
    go_wp2_with fail
    go_ret
    exact ⟨rfl, (Kept.trans HK1.out KB4.out)⟩
end Go.Proofs.YtjfhcmkcmdnhoaaGreatDoor
