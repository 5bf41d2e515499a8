/- law24.QuickcheckDecides returns true. -/
import Derived.Deep.RegionHeld3
import Derived.Test.YtjfhcmkcmdnhoaaGreatDoorKRow
import Derived.Test.YtjfhcmkcmdnhoaaGreatDoorKNrm
namespace Go.Proofs.YtjfhcmkcmdnhoaaGreatDoor
open Go Go.RowKit
set_option maxRecDepth 100000 in
set_option maxHeartbeats 4000000 in
theorem law_decides24 (s : Sls) (n : Nrm) (form : Int) (A : Option Addr) (l c : Nat) (xs : List Int) (w : World) (hN : NormIn w s n) (_hx : I64 form) (hI : l ≤ c ∧ c ≤ 9223372036854775807 ∧ Ints w A l xs) (hG : Glob w) : Calls Tryz.prog 14 #[.agg #[Value.slice s.Ac s.nc s.cc, Value.slice s.Am s.nm s.cm, Value.slice s.Ae s.ne s.ce, Value.int IntKind.i64 form, Value.slice A l c]] w (RetB w true) := by
  have hk1 := Kept.alloc (Kept.refl w) (Obj.cells #[Value.slice s.Ac s.nc s.cc, Value.slice s.Am s.nm s.cm, Value.slice s.Ae s.ne s.ce, Value.int IntKind.i64 form, Value.slice A l c] 54)
  have HK1 := Lib.hid hk1
  have hbx := box_cell w #[Value.slice s.Ac s.nc s.cc, Value.slice s.Am s.nm s.cm, Value.slice s.Ae s.ne s.ce, Value.int IntKind.i64 form, Value.slice A l c] 54
  have HX0 : Hid ((w.alloc (Obj.cells #[Value.slice s.Ac s.nc s.cc, Value.slice s.Am s.nm s.cm, Value.slice s.Ae s.ne s.ce, Value.int IntKind.i64 form, Value.slice A l c] 54)).cell? ⟨w.heap.size, 0, none⟩ = some (Value.slice s.Ac s.nc s.cc)) := Lib.hid (hbx 0)
  have HX1 : Hid ((w.alloc (Obj.cells #[Value.slice s.Ac s.nc s.cc, Value.slice s.Am s.nm s.cm, Value.slice s.Ae s.ne s.ce, Value.int IntKind.i64 form, Value.slice A l c] 54)).cell? ⟨w.heap.size, 1, none⟩ = some (Value.slice s.Am s.nm s.cm)) := Lib.hid (hbx 1)
  have HX2 : Hid ((w.alloc (Obj.cells #[Value.slice s.Ac s.nc s.cc, Value.slice s.Am s.nm s.cm, Value.slice s.Ae s.ne s.ce, Value.int IntKind.i64 form, Value.slice A l c] 54)).cell? ⟨w.heap.size, 2, none⟩ = some (Value.slice s.Ae s.ne s.ce)) := Lib.hid (hbx 2)
  have HX3 : Hid ((w.alloc (Obj.cells #[Value.slice s.Ac s.nc s.cc, Value.slice s.Am s.nm s.cm, Value.slice s.Ae s.ne s.ce, Value.int IntKind.i64 form, Value.slice A l c] 54)).cell? ⟨w.heap.size, 3, none⟩ = some (Value.int IntKind.i64 form)) := Lib.hid (hbx 3)
  have HX4 : Hid ((w.alloc (Obj.cells #[Value.slice s.Ac s.nc s.cc, Value.slice s.Am s.nm s.cm, Value.slice s.Ae s.ne s.ce, Value.int IntKind.i64 form, Value.slice A l c] 54)).cell? ⟨w.heap.size, 4, none⟩ = some (Value.slice A l c)) := Lib.hid (hbx 4)
  have HN := Lib.hid hN
  have HG := Lib.hid hG
  obtain ⟨hle, hbig, hI⟩ := hI
  have HS := Lib.hid (few24 s n A l c (w.alloc (Obj.cells #[Value.slice s.Ac s.nc s.cc, Value.slice s.Am s.nm s.cm, Value.slice s.Ae s.ne s.ce, Value.int IntKind.i64 form, Value.slice A l c] 54)) (hN.kept hk1) ⟨hle, hbig⟩)
  have HI := Lib.hid hI
  clear hN hG hk1 hbx hI hbig
  cases hsm : (smallB n && decide (l ≤ 12))
  · rw [hsm] at HS
    clear hsm
    unfold Sls.val at *
    go_enter Tryz.func14, Tryz.ntmps14
    have p0 := HX0.out
    have p1 := HX1.out
    have p2 := HX2.out
    have p3 := HX3.out
    have p4 := HX4.out
    go_wp2_with fail
    refine (HS.out).mono ?_
    rintro e w1 ⟨rfl, k1⟩
    clear p0 p1 p2 p3 p4
    have KB1 := Lib.hid (Kept.trans (Kept.refl (w.alloc (Obj.cells #[Value.slice s.Ac s.nc s.cc, Value.slice s.Am s.nm s.cm, Value.slice s.Ae s.ne s.ce, Value.int IntKind.i64 form, Value.slice A l c] 54))) k1)
    go_wp2_with fail
    refine (alive24 _ (HG.out.kept (Kept.trans HK1.out KB1.out))).mono ?_
    rintro e w2 ⟨rfl, k2⟩
    have KB2 := Lib.hid (Kept.trans KB1.out k2)
    go_wp2_with fail
    go_ret
    exact ⟨rfl, (Kept.trans HK1.out KB2.out)⟩
  · rw [hsm] at HS
    obtain ⟨hsb, hl12⟩ := (Bool.and_eq_true _ _).mp hsm
    have hl12 := of_decide_eq_true hl12
    have HNA := Lib.hid (HN.out.small hsb)
    have HXL := Lib.hid HI.out.1
    clear hsm hsb
    have HIS := Lib.hid (fun w' (hk : Kept w w') => nis_any s n form A l c xs w' (HNA.out.kept hk) (HG.out.kept hk) (by omega) (HI.out.kept hk))
    have HTX := Lib.hid (fun w' (hk : Kept w w') => qtext_any s n form A l c xs w' (HNA.out.kept hk) (HG.out.kept hk) (by omega) (HI.out.kept hk))
    obtain ⟨hy, hn, hall⟩ := quick_decides n form xs
    rcases hall with h | h | h
    · rw [h] at HTX
      rw [decide_eq_true (hy h)] at HIS
      clear h hy hn
      unfold Sls.val at *
      go_enter Tryz.func14, Tryz.ntmps14
      have p0 := HX0.out
      have p1 := HX1.out
      have p2 := HX2.out
      have p3 := HX3.out
      have p4 := HX4.out
      go_wp2_with fail
      refine (HS.out).mono ?_
      rintro e w1 ⟨rfl, k1⟩
      clear p0 p1 p2 p3 p4
      have KB1 := Lib.hid (Kept.trans (Kept.refl (w.alloc (Obj.cells #[Value.slice s.Ac s.nc s.cc, Value.slice s.Am s.nm s.cm, Value.slice s.Ae s.ne s.ce, Value.int IntKind.i64 form, Value.slice A l c] 54))) k1)
      have p0 := Kept.cell KB1.out HX0.out
      have p1 := Kept.cell KB1.out HX1.out
      have p2 := Kept.cell KB1.out HX2.out
      have p3 := Kept.cell KB1.out HX3.out
      have p4 := Kept.cell KB1.out HX4.out
      go_wp2_with fail
      refine (HIS.out _ (Kept.trans HK1.out KB1.out)).mono ?_
      rintro e w2 ⟨rfl, k2⟩
      clear p0 p1 p2 p3 p4
      have KB2 := Lib.hid (Kept.trans KB1.out k2)
      have p0 := Kept.cell KB2.out HX0.out
      have p1 := Kept.cell KB2.out HX1.out
      have p2 := Kept.cell KB2.out HX2.out
      have p3 := Kept.cell KB2.out HX3.out
      have p4 := Kept.cell KB2.out HX4.out
      go_wp2_with fail
      refine (HTX.out _ (Kept.trans HK1.out KB2.out)).mono ?_
      rintro e w3 ⟨rfl, k3⟩
      clear p0 p1 p2 p3 p4
      have KB3 := Lib.hid (Kept.trans KB2.out k3)
      have p0 := Kept.cell KB3.out HX0.out
      have p1 := Kept.cell KB3.out HX1.out
      have p2 := Kept.cell KB3.out HX2.out
      have p3 := Kept.cell KB3.out HX3.out
      have p4 := Kept.cell KB3.out HX4.out
      go_wp2_with fail
      refine (alive24 _ (HG.out.kept (Kept.trans HK1.out KB3.out))).mono ?_
      rintro e w4 ⟨rfl, k4⟩
      have KB4 := Lib.hid (Kept.trans KB3.out k4)
      go_wp2_with fail
      go_ret
      exact ⟨rfl, (Kept.trans HK1.out KB4.out)⟩
    · rw [h] at HTX
      rw [decide_eq_false (hn h)] at HIS
      clear h hy hn
      unfold Sls.val at *
      go_enter Tryz.func14, Tryz.ntmps14
      have p0 := HX0.out
      have p1 := HX1.out
      have p2 := HX2.out
      have p3 := HX3.out
      have p4 := HX4.out
      go_wp2_with fail
      refine (HS.out).mono ?_
      rintro e w1 ⟨rfl, k1⟩
      clear p0 p1 p2 p3 p4
      have KB1 := Lib.hid (Kept.trans (Kept.refl (w.alloc (Obj.cells #[Value.slice s.Ac s.nc s.cc, Value.slice s.Am s.nm s.cm, Value.slice s.Ae s.ne s.ce, Value.int IntKind.i64 form, Value.slice A l c] 54))) k1)
      have p0 := Kept.cell KB1.out HX0.out
      have p1 := Kept.cell KB1.out HX1.out
      have p2 := Kept.cell KB1.out HX2.out
      have p3 := Kept.cell KB1.out HX3.out
      have p4 := Kept.cell KB1.out HX4.out
      go_wp2_with fail
      refine (HIS.out _ (Kept.trans HK1.out KB1.out)).mono ?_
      rintro e w2 ⟨rfl, k2⟩
      clear p0 p1 p2 p3 p4
      have KB2 := Lib.hid (Kept.trans KB1.out k2)
      have p0 := Kept.cell KB2.out HX0.out
      have p1 := Kept.cell KB2.out HX1.out
      have p2 := Kept.cell KB2.out HX2.out
      have p3 := Kept.cell KB2.out HX3.out
      have p4 := Kept.cell KB2.out HX4.out
      go_wp2_with fail
      refine (HTX.out _ (Kept.trans HK1.out KB2.out)).mono ?_
      rintro e w3 ⟨rfl, k3⟩
      clear p0 p1 p2 p3 p4
      have KB3 := Lib.hid (Kept.trans KB2.out k3)
      have p0 := Kept.cell KB3.out HX0.out
      have p1 := Kept.cell KB3.out HX1.out
      have p2 := Kept.cell KB3.out HX2.out
      have p3 := Kept.cell KB3.out HX3.out
      have p4 := Kept.cell KB3.out HX4.out
      go_wp2_with fail
      refine (alive24 _ (HG.out.kept (Kept.trans HK1.out KB3.out))).mono ?_
      rintro e w4 ⟨rfl, k4⟩
      have KB4 := Lib.hid (Kept.trans KB3.out k4)
      go_wp2_with fail
      go_ret
      exact ⟨rfl, (Kept.trans HK1.out KB4.out)⟩
    · rw [h] at HTX
      generalize decide (formOf n form xs = xs) = bb at *
      clear h hy hn
      unfold Sls.val at *
      go_enter Tryz.func14, Tryz.ntmps14
      have p0 := HX0.out
      have p1 := HX1.out
      have p2 := HX2.out
      have p3 := HX3.out
      have p4 := HX4.out
      go_wp2_with fail
      refine (HS.out).mono ?_
      rintro e w1 ⟨rfl, k1⟩
      clear p0 p1 p2 p3 p4
      have KB1 := Lib.hid (Kept.trans (Kept.refl (w.alloc (Obj.cells #[Value.slice s.Ac s.nc s.cc, Value.slice s.Am s.nm s.cm, Value.slice s.Ae s.ne s.ce, Value.int IntKind.i64 form, Value.slice A l c] 54))) k1)
      have p0 := Kept.cell KB1.out HX0.out
      have p1 := Kept.cell KB1.out HX1.out
      have p2 := Kept.cell KB1.out HX2.out
      have p3 := Kept.cell KB1.out HX3.out
      have p4 := Kept.cell KB1.out HX4.out
      go_wp2_with fail
      refine (HIS.out _ (Kept.trans HK1.out KB1.out)).mono ?_
      rintro e w2 ⟨rfl, k2⟩
      clear p0 p1 p2 p3 p4
      have KB2 := Lib.hid (Kept.trans KB1.out k2)
      have p0 := Kept.cell KB2.out HX0.out
      have p1 := Kept.cell KB2.out HX1.out
      have p2 := Kept.cell KB2.out HX2.out
      have p3 := Kept.cell KB2.out HX3.out
      have p4 := Kept.cell KB2.out HX4.out
      go_wp2_with fail
      refine (HTX.out _ (Kept.trans HK1.out KB2.out)).mono ?_
      rintro e w3 ⟨rfl, k3⟩
      clear p0 p1 p2 p3 p4
      have KB3 := Lib.hid (Kept.trans KB2.out k3)
      have p0 := Kept.cell KB3.out HX0.out
      have p1 := Kept.cell KB3.out HX1.out
      have p2 := Kept.cell KB3.out HX2.out
      have p3 := Kept.cell KB3.out HX3.out
      have p4 := Kept.cell KB3.out HX4.out
      go_wp2_with fail
      refine (alive24 _ (HG.out.kept (Kept.trans HK1.out KB3.out))).mono ?_
      rintro e w4 ⟨rfl, k4⟩
      have KB4 := Lib.hid (Kept.trans KB3.out k4)
      go_wp2_with fail
      go_ret
      exact ⟨rfl, (Kept.trans HK1.out KB4.out)⟩
end Go.Proofs.YtjfhcmkcmdnhoaaGreatDoor
