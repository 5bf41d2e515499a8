/- law26.JoiningReplaces returns true. -/
import Derived.Deep.RegionHeld3
import Derived.Test.YtjfhcmkcmdnhoaaGreatDoorKSq
import Derived.Test.YtjfhcmkcmdnhoaaGreatDoorKAl6
import Derived.Test.YtjfhcmkcmdnhoaaGreatDoorKRefAG
namespace Go.Proofs.YtjfhcmkcmdnhoaaGreatDoor
open Go Go.RowKit
set_option maxRecDepth 100000 in
set_option maxHeartbeats 4000000 in
theorem law_replaces26 (s : Sls) (n : Nrm) (form : Int) (A : Option Addr) (l c : Nat) (xs : List Int) (ea ed : Int) (I : Option Addr) (ni ci : Nat) (ins : List Int) (w : World) (hN : NormIn w s n) (_hx : I64 form) (hI : l ≤ c ∧ c ≤ 9223372036854775807 ∧ Ints w A l xs) (_hea : I64 ea) (_hed : I64 ed) (hJ : ni ≤ ci ∧ ci ≤ 9223372036854775807 ∧ Ints w I ni ins) (hG : Glob w) : Calls Tryz.prog 5 #[s.val, .int .i64 form, .slice A l c, .agg #[.int .i64 ea, .int .i64 ed, .slice I ni ci]] w (RetB w true) := by
  have hk0_ := Kept.alloc (Kept.refl w) (Obj.cells #[Value.slice s.Ac s.nc s.cc, Value.slice s.Am s.nm s.cm, Value.slice s.Ae s.ne s.ce] 28)
  have hk1_ := Kept.alloc hk0_ (Obj.cells #[Value.int IntKind.i64 ea, Value.int IntKind.i64 ed, Value.slice I ni ci] 38)
  have HK1 := Lib.hid hk1_
  have hb0_ := (alloc_lift (o := (Obj.cells #[Value.int IntKind.i64 ea, Value.int IntKind.i64 ed, Value.slice I ni ci] 38)) (box_block w (Obj.cells #[Value.slice s.Ac s.nc s.cc, Value.slice s.Am s.nm s.cm, Value.slice s.Ae s.ne s.ce] 28)))
  have x0_ := cell_of_block (i := 0) hb0_ rfl
  have x1_ := cell_of_block (i := 1) hb0_ rfl
  have x2_ := cell_of_block (i := 2) hb0_ rfl
  have hb1_ := (box_block (w.alloc (Obj.cells #[Value.slice s.Ac s.nc s.cc, Value.slice s.Am s.nm s.cm, Value.slice s.Ae s.ne s.ce] 28)) (Obj.cells #[Value.int IntKind.i64 ea, Value.int IntKind.i64 ed, Value.slice I ni ci] 38))
  simp only [World.size_alloc] at hb1_
  have x3_ := cell_of_block (i := 0) hb1_ rfl
  have x4_ := cell_of_block (i := 1) hb1_ rfl
  have x5_ := cell_of_block (i := 2) hb1_ rfl
  simp only [s4_, s5_, s6_] at x0_ x1_ x2_ x3_ x4_ x5_
  have HX0 := Lib.hid x0_
  have HX1 := Lib.hid x1_
  have HX2 := Lib.hid x2_
  have HX3 := Lib.hid x3_
  have HX4 := Lib.hid x4_
  have HX5 := Lib.hid x5_
  have HB0 := Lib.hid hb0_
  have HB1 := Lib.hid hb1_
  clear x0_ x1_ x2_ x3_ x4_ x5_ hb0_ hb1_
  obtain ⟨hle, hbig, hI⟩ := hI
  obtain ⟨hle2, hbig2, hJ⟩ := hJ
  have HS := Lib.hid (fun w' (hk : Kept w w') => few26 s n A l c I ni ci w' (hN.kept hk) ⟨hle, hbig⟩ ⟨hle2, hbig2⟩)
  have HN := Lib.hid hN
  have HG := Lib.hid hG
  have HI := Lib.hid hI
  have HJ := Lib.hid hJ
  clear hN hG hk0_ hk1_ hI hJ hbig hbig2
  cases hsm : (smallB n && (decide (l ≤ 20) && decide (ni ≤ 20)))
  · rw [hsm] at HS
    clear hsm
    unfold Sls.val at *
    go_enter Tryz.func5, Tryz.ntmps5
    have p0 := HX0.out
    have p1 := HX1.out
    have p2 := HX2.out
    have p3 := HX3.out
    have p4 := HX4.out
    have p5 := HX5.out
    go_wp2_with fail
    refine (HS.out _ (Kept.trans HK1.out (Kept.refl ((w.alloc (Obj.cells #[Value.slice s.Ac s.nc s.cc, Value.slice s.Am s.nm s.cm, Value.slice s.Ae s.ne s.ce] 28)).alloc (Obj.cells #[Value.int IntKind.i64 ea, Value.int IntKind.i64 ed, Value.slice I ni ci] 38))))).mono ?_
    rintro e w1 ⟨rfl, k1⟩
    clear p0 p1 p2 p3 p4 p5
    have KB1 := Lib.hid (Kept.trans (Kept.refl ((w.alloc (Obj.cells #[Value.slice s.Ac s.nc s.cc, Value.slice s.Am s.nm s.cm, Value.slice s.Ae s.ne s.ce] 28)).alloc (Obj.cells #[Value.int IntKind.i64 ea, Value.int IntKind.i64 ed, Value.slice I ni ci] 38))) k1)
    have p0 := Kept.cell KB1.out HX0.out
    have p1 := Kept.cell KB1.out HX1.out
    have p2 := Kept.cell KB1.out HX2.out
    have p3 := Kept.cell KB1.out HX3.out
    have p4 := Kept.cell KB1.out HX4.out
    have p5 := Kept.cell KB1.out HX5.out
    go_wp2_with fail
    refine (alive26 _ (HG.out.kept (Kept.trans HK1.out KB1.out))).mono ?_
    rintro e w2 ⟨rfl, k2⟩
    clear p0 p1 p2 p3 p4 p5
    have KB2 := Lib.hid (Kept.trans KB1.out k2)
    go_wp2_with fail
    go_ret
    exact ⟨rfl, (Kept.trans HK1.out KB2.out)⟩
  · rw [hsm] at HS
    obtain ⟨hsb, hsm2⟩ := (Bool.and_eq_true _ _).mp hsm
    obtain ⟨hl20, hm20⟩ := (Bool.and_eq_true _ _).mp hsm2
    have hl20 := of_decide_eq_true hl20
    have hm20 := of_decide_eq_true hm20
    have HNA := Lib.hid (HN.out.small hsb)
    have HTG := Lib.hid (norm_tag HN.out hsb)
    have HXL := Lib.hid HI.out.1
    have HYL := Lib.hid HJ.out.1
    clear hsm hsm2 hsb
    have HR := Lib.hid (fun w' (hk : Kept w w') => replace_any s n form A l c xs ea ed I ni ci ins w' (HNA.out.kept hk) (HG.out.kept hk) (by omega) (by omega) hle hle2 (HI.out.kept hk) (HJ.out.kept hk))
    have HQ := Lib.hid (fun w' (hk : Kept w w') => r26Replace s n form A l c xs ea ed I ni ci ins w' (HNA.out.kept hk) HTG.out (by omega) (by omega) hle hle2 (HI.out.kept hk) (HJ.out.kept hk))
    rcases (show (form < 1 ∨ 4 < form) ∨ (¬ (form < 1 ∨ 4 < form) ∧ (ea < 0 ∨ ed < 0 ∨ (xs.length : Int) < ea ∨ (xs.length : Int) - ea < ed)) ∨ (¬ (form < 1 ∨ 4 < form) ∧ ¬ (ea < 0 ∨ ed < 0 ∨ (xs.length : Int) < ea ∨ (xs.length : Int) - ea < ed)) by by_cases h1 : form < 1 ∨ 4 < form <;> by_cases h2 : ea < 0 ∨ ed < 0 ∨ (xs.length : Int) < ea ∨ (xs.length : Int) - ea < ed <;> simp [h1, h2]) with hf | ⟨hf, hb⟩ | ⟨hf, hb⟩
    · unfold RetRepl at HR HQ
      simp only [if_pos hf] at HR HQ
      clear hf
      unfold Sls.val at *
      go_enter Tryz.func5, Tryz.ntmps5
      have p0 := HX0.out
      have p1 := HX1.out
      have p2 := HX2.out
      have p3 := HX3.out
      have p4 := HX4.out
      have p5 := HX5.out
      go_wp2_with fail
      refine (HS.out _ (Kept.trans HK1.out (Kept.refl ((w.alloc (Obj.cells #[Value.slice s.Ac s.nc s.cc, Value.slice s.Am s.nm s.cm, Value.slice s.Ae s.ne s.ce] 28)).alloc (Obj.cells #[Value.int IntKind.i64 ea, Value.int IntKind.i64 ed, Value.slice I ni ci] 38))))).mono ?_
      rintro e w1 ⟨rfl, k1⟩
      clear p0 p1 p2 p3 p4 p5
      have KB1 := Lib.hid (Kept.trans (Kept.refl ((w.alloc (Obj.cells #[Value.slice s.Ac s.nc s.cc, Value.slice s.Am s.nm s.cm, Value.slice s.Ae s.ne s.ce] 28)).alloc (Obj.cells #[Value.int IntKind.i64 ea, Value.int IntKind.i64 ed, Value.slice I ni ci] 38))) k1)
      have p0 := Kept.cell KB1.out HX0.out
      have p1 := Kept.cell KB1.out HX1.out
      have p2 := Kept.cell KB1.out HX2.out
      have p3 := Kept.cell KB1.out HX3.out
      have p4 := Kept.cell KB1.out HX4.out
      have p5 := Kept.cell KB1.out HX5.out
      go_wp2_with fail
      refine (HR.out _ (Kept.trans HK1.out KB1.out)).mono ?_
      rintro e w2 ⟨rfl, k2⟩
      clear p0 p1 p2 p3 p4 p5
      have KB2 := Lib.hid (Kept.trans KB1.out k2)
      have HRA : Hid ((w2.alloc (Obj.cells #[Value.int IntKind.i64 0, Value.int IntKind.i64 0] 40)).heap[w2.heap.size]? = some (Obj.cells #[Value.int IntKind.i64 0, Value.int IntKind.i64 0] 40)) := Lib.hid (alloc_at rfl)
      have HR0 := Lib.hid (cell_of_block (i := 0) HRA.out rfl)
      have HR1 := Lib.hid (cell_of_block (i := 1) HRA.out rfl)
      simp only [s4_, s5_, s6_] at HR0 HR1
      have KB3 := Lib.hid (Kept.trans KB2.out (Kept.alloc (Kept.refl w2) (Obj.cells #[Value.int IntKind.i64 0, Value.int IntKind.i64 0] 40)))
      have p0 := Kept.cell KB3.out HX0.out
      have p1 := Kept.cell KB3.out HX1.out
      have p2 := Kept.cell KB3.out HX2.out
      have p3 := Kept.cell KB3.out HX3.out
      have p4 := Kept.cell KB3.out HX4.out
      have p5 := Kept.cell KB3.out HX5.out
      have p6 := Kept.cell (Kept.refl _) HR0.out
      have p7 := Kept.cell (Kept.refl _) HR1.out
      go_wp2_with fail
      refine (HQ.out _ (Kept.trans HK1.out KB3.out)).mono ?_
      rintro e w4 ⟨rfl, k4⟩
      clear p0 p1 p2 p3 p4 p5 p6 p7
      have KB4 := Lib.hid (Kept.trans KB3.out k4)
      have HRA4 : Hid ((w4.alloc (Obj.cells #[Value.int IntKind.i64 0, Value.int IntKind.i64 0] 40)).heap[w4.heap.size]? = some (Obj.cells #[Value.int IntKind.i64 0, Value.int IntKind.i64 0] 40)) := Lib.hid (alloc_at rfl)
      have HR2 := Lib.hid (cell_of_block (i := 0) HRA4.out rfl)
      have HR3 := Lib.hid (cell_of_block (i := 1) HRA4.out rfl)
      simp only [s4_, s5_, s6_] at HR2 HR3
      have KB5 := Lib.hid (Kept.trans KB4.out (Kept.alloc (Kept.refl w4) (Obj.cells #[Value.int IntKind.i64 0, Value.int IntKind.i64 0] 40)))
      have p0 := Kept.cell KB5.out HX0.out
      have p1 := Kept.cell KB5.out HX1.out
      have p2 := Kept.cell KB5.out HX2.out
      have p3 := Kept.cell KB5.out HX3.out
      have p4 := Kept.cell KB5.out HX4.out
      have p5 := Kept.cell KB5.out HX5.out
      have p6 := Kept.cell (Kept.trans k4 (Kept.alloc (Kept.refl w4) (Obj.cells #[Value.int IntKind.i64 0, Value.int IntKind.i64 0] 40))) HR0.out
      have p7 := Kept.cell (Kept.trans k4 (Kept.alloc (Kept.refl w4) (Obj.cells #[Value.int IntKind.i64 0, Value.int IntKind.i64 0] 40))) HR1.out
      have p8 := Kept.cell (Kept.refl _) HR2.out
      have p9 := Kept.cell (Kept.refl _) HR3.out
      go_wp2_with fail
      refine (r01_same [] none none 0 0 0 0 _ (by simp) Sl.nil Sl.nil).mono ?_
      rintro e w6 ⟨rfl, k6⟩
      clear p0 p1 p2 p3 p4 p5 p6 p7 p8 p9
      have KB6 := Lib.hid (Kept.trans KB5.out k6)
      have p0 := Kept.cell KB6.out HX0.out
      have p1 := Kept.cell KB6.out HX1.out
      have p2 := Kept.cell KB6.out HX2.out
      have p3 := Kept.cell KB6.out HX3.out
      have p4 := Kept.cell KB6.out HX4.out
      have p5 := Kept.cell KB6.out HX5.out
      have p6 := Kept.cell (Kept.trans k4 (Kept.trans (Kept.alloc (Kept.refl w4) (Obj.cells #[Value.int IntKind.i64 0, Value.int IntKind.i64 0] 40)) k6)) HR0.out
      have p7 := Kept.cell (Kept.trans k4 (Kept.trans (Kept.alloc (Kept.refl w4) (Obj.cells #[Value.int IntKind.i64 0, Value.int IntKind.i64 0] 40)) k6)) HR1.out
      have p8 := Kept.cell k6 HR2.out
      have p9 := Kept.cell k6 HR3.out
      go_wp2_with fail
      refine (alive26 _ (HG.out.kept (Kept.trans HK1.out KB6.out))).mono ?_
      rintro e w7 ⟨rfl, k7⟩
      clear p0 p1 p2 p3 p4 p5 p6 p7 p8 p9
      have KB7 := Lib.hid (Kept.trans KB6.out k7)
      go_wp2_with fail
      go_ret
      exact ⟨rfl, (Kept.trans HK1.out KB7.out)⟩
    · unfold RetRepl at HR HQ
      simp only [if_neg hf, if_pos hb] at HR HQ
      clear hf hb
      unfold Sls.val at *
      go_enter Tryz.func5, Tryz.ntmps5
      have p0 := HX0.out
      have p1 := HX1.out
      have p2 := HX2.out
      have p3 := HX3.out
      have p4 := HX4.out
      have p5 := HX5.out
      go_wp2_with fail
      refine (HS.out _ (Kept.trans HK1.out (Kept.refl ((w.alloc (Obj.cells #[Value.slice s.Ac s.nc s.cc, Value.slice s.Am s.nm s.cm, Value.slice s.Ae s.ne s.ce] 28)).alloc (Obj.cells #[Value.int IntKind.i64 ea, Value.int IntKind.i64 ed, Value.slice I ni ci] 38))))).mono ?_
      rintro e w1 ⟨rfl, k1⟩
      clear p0 p1 p2 p3 p4 p5
      have KB1 := Lib.hid (Kept.trans (Kept.refl ((w.alloc (Obj.cells #[Value.slice s.Ac s.nc s.cc, Value.slice s.Am s.nm s.cm, Value.slice s.Ae s.ne s.ce] 28)).alloc (Obj.cells #[Value.int IntKind.i64 ea, Value.int IntKind.i64 ed, Value.slice I ni ci] 38))) k1)
      have p0 := Kept.cell KB1.out HX0.out
      have p1 := Kept.cell KB1.out HX1.out
      have p2 := Kept.cell KB1.out HX2.out
      have p3 := Kept.cell KB1.out HX3.out
      have p4 := Kept.cell KB1.out HX4.out
      have p5 := Kept.cell KB1.out HX5.out
      go_wp2_with fail
      refine (HR.out _ (Kept.trans HK1.out KB1.out)).mono ?_
      rintro e w2 ⟨rfl, k2⟩
      clear p0 p1 p2 p3 p4 p5
      have KB2 := Lib.hid (Kept.trans KB1.out k2)
      have HRA : Hid ((w2.alloc (Obj.cells #[Value.int IntKind.i64 0, Value.int IntKind.i64 0] 40)).heap[w2.heap.size]? = some (Obj.cells #[Value.int IntKind.i64 0, Value.int IntKind.i64 0] 40)) := Lib.hid (alloc_at rfl)
      have HR0 := Lib.hid (cell_of_block (i := 0) HRA.out rfl)
      have HR1 := Lib.hid (cell_of_block (i := 1) HRA.out rfl)
      simp only [s4_, s5_, s6_] at HR0 HR1
      have KB3 := Lib.hid (Kept.trans KB2.out (Kept.alloc (Kept.refl w2) (Obj.cells #[Value.int IntKind.i64 0, Value.int IntKind.i64 0] 40)))
      have p0 := Kept.cell KB3.out HX0.out
      have p1 := Kept.cell KB3.out HX1.out
      have p2 := Kept.cell KB3.out HX2.out
      have p3 := Kept.cell KB3.out HX3.out
      have p4 := Kept.cell KB3.out HX4.out
      have p5 := Kept.cell KB3.out HX5.out
      have p6 := Kept.cell (Kept.refl _) HR0.out
      have p7 := Kept.cell (Kept.refl _) HR1.out
      go_wp2_with fail
      refine (HQ.out _ (Kept.trans HK1.out KB3.out)).mono ?_
      rintro e w4 ⟨rfl, k4⟩
      clear p0 p1 p2 p3 p4 p5 p6 p7
      have KB4 := Lib.hid (Kept.trans KB3.out k4)
      have HRA4 : Hid ((w4.alloc (Obj.cells #[Value.int IntKind.i64 0, Value.int IntKind.i64 0] 40)).heap[w4.heap.size]? = some (Obj.cells #[Value.int IntKind.i64 0, Value.int IntKind.i64 0] 40)) := Lib.hid (alloc_at rfl)
      have HR2 := Lib.hid (cell_of_block (i := 0) HRA4.out rfl)
      have HR3 := Lib.hid (cell_of_block (i := 1) HRA4.out rfl)
      simp only [s4_, s5_, s6_] at HR2 HR3
      have KB5 := Lib.hid (Kept.trans KB4.out (Kept.alloc (Kept.refl w4) (Obj.cells #[Value.int IntKind.i64 0, Value.int IntKind.i64 0] 40)))
      have p0 := Kept.cell KB5.out HX0.out
      have p1 := Kept.cell KB5.out HX1.out
      have p2 := Kept.cell KB5.out HX2.out
      have p3 := Kept.cell KB5.out HX3.out
      have p4 := Kept.cell KB5.out HX4.out
      have p5 := Kept.cell KB5.out HX5.out
      have p6 := Kept.cell (Kept.trans k4 (Kept.alloc (Kept.refl w4) (Obj.cells #[Value.int IntKind.i64 0, Value.int IntKind.i64 0] 40))) HR0.out
      have p7 := Kept.cell (Kept.trans k4 (Kept.alloc (Kept.refl w4) (Obj.cells #[Value.int IntKind.i64 0, Value.int IntKind.i64 0] 40))) HR1.out
      have p8 := Kept.cell (Kept.refl _) HR2.out
      have p9 := Kept.cell (Kept.refl _) HR3.out
      go_wp2_with fail
      refine (r01_same [] none none 0 0 0 0 _ (by simp) Sl.nil Sl.nil).mono ?_
      rintro e w6 ⟨rfl, k6⟩
      clear p0 p1 p2 p3 p4 p5 p6 p7 p8 p9
      have KB6 := Lib.hid (Kept.trans KB5.out k6)
      have p0 := Kept.cell KB6.out HX0.out
      have p1 := Kept.cell KB6.out HX1.out
      have p2 := Kept.cell KB6.out HX2.out
      have p3 := Kept.cell KB6.out HX3.out
      have p4 := Kept.cell KB6.out HX4.out
      have p5 := Kept.cell KB6.out HX5.out
      have p6 := Kept.cell (Kept.trans k4 (Kept.trans (Kept.alloc (Kept.refl w4) (Obj.cells #[Value.int IntKind.i64 0, Value.int IntKind.i64 0] 40)) k6)) HR0.out
      have p7 := Kept.cell (Kept.trans k4 (Kept.trans (Kept.alloc (Kept.refl w4) (Obj.cells #[Value.int IntKind.i64 0, Value.int IntKind.i64 0] 40)) k6)) HR1.out
      have p8 := Kept.cell k6 HR2.out
      have p9 := Kept.cell k6 HR3.out
      go_wp2_with fail
      refine (alive26 _ (HG.out.kept (Kept.trans HK1.out KB6.out))).mono ?_
      rintro e w7 ⟨rfl, k7⟩
      clear p0 p1 p2 p3 p4 p5 p6 p7 p8 p9
      have KB7 := Lib.hid (Kept.trans KB6.out k7)
      go_wp2_with fail
      go_ret
      exact ⟨rfl, (Kept.trans HK1.out KB7.out)⟩
    · unfold RetRepl at HR HQ
      simp only [if_neg hf, if_neg hb] at HR HQ
      clear hf hb
      have HLX := Lib.hid (show (joinM n form (xs.take ea.toNat) ins (xs.drop (ea + ed).toNat)).length ≤ 10000 by have := joinM_length n form (xs.take ea.toNat) ins (xs.drop (ea + ed).toNat); have := HXL.out; have := HYL.out; simp only [List.length_take, List.length_drop] at *; omega)
      generalize joinM n form (xs.take ea.toNat) ins (xs.drop (ea + ed).toNat) = X at *
      generalize (jFrom n form (xs.take ea.toNat) + (jMid n form (xs.take ea.toNat) ins (xs.drop (ea + ed).toNat)).length) = hi at *
      generalize jFrom n form (xs.take ea.toNat) = lo at *
      have z1 : ((lo : Int) == (lo : Int)) = true := by simp
      have z2 : ((hi : Int) == (hi : Int)) = true := by simp
      unfold Sls.val at *
      go_enter Tryz.func5, Tryz.ntmps5
      have p0 := HX0.out
      have p1 := HX1.out
      have p2 := HX2.out
      have p3 := HX3.out
      have p4 := HX4.out
      have p5 := HX5.out
      go_wp2_with fail
      refine (HS.out _ (Kept.trans HK1.out (Kept.refl ((w.alloc (Obj.cells #[Value.slice s.Ac s.nc s.cc, Value.slice s.Am s.nm s.cm, Value.slice s.Ae s.ne s.ce] 28)).alloc (Obj.cells #[Value.int IntKind.i64 ea, Value.int IntKind.i64 ed, Value.slice I ni ci] 38))))).mono ?_
      rintro e w1 ⟨rfl, k1⟩
      clear p0 p1 p2 p3 p4 p5
      have KB1 := Lib.hid (Kept.trans (Kept.refl ((w.alloc (Obj.cells #[Value.slice s.Ac s.nc s.cc, Value.slice s.Am s.nm s.cm, Value.slice s.Ae s.ne s.ce] 28)).alloc (Obj.cells #[Value.int IntKind.i64 ea, Value.int IntKind.i64 ed, Value.slice I ni ci] 38))) k1)
      have p0 := Kept.cell KB1.out HX0.out
      have p1 := Kept.cell KB1.out HX1.out
      have p2 := Kept.cell KB1.out HX2.out
      have p3 := Kept.cell KB1.out HX3.out
      have p4 := Kept.cell KB1.out HX4.out
      have p5 := Kept.cell KB1.out HX5.out
      go_wp2_with fail
      refine (HR.out _ (Kept.trans HK1.out KB1.out)).mono ?_
      rintro e w2 ⟨A2, n2, c2, rfl, le2, i2, _, k2⟩
      have I2 := Lib.hid i2
      have hn2 : n2 ≤ 10000 := by rw [i2.1]; exact HLX.out
      clear i2
      clear p0 p1 p2 p3 p4 p5
      have KB2 := Lib.hid (Kept.trans KB1.out k2)
      have HRA : Hid ((w2.alloc (Obj.cells #[Value.int IntKind.i64 (lo : Int), Value.int IntKind.i64 (hi : Int)] 40)).heap[w2.heap.size]? = some (Obj.cells #[Value.int IntKind.i64 (lo : Int), Value.int IntKind.i64 (hi : Int)] 40)) := Lib.hid (alloc_at rfl)
      have HR0 := Lib.hid (cell_of_block (i := 0) HRA.out rfl)
      have HR1 := Lib.hid (cell_of_block (i := 1) HRA.out rfl)
      simp only [s4_, s5_, s6_] at HR0 HR1
      have KB3 := Lib.hid (Kept.trans KB2.out (Kept.alloc (Kept.refl w2) (Obj.cells #[Value.int IntKind.i64 (lo : Int), Value.int IntKind.i64 (hi : Int)] 40)))
      have p0 := Kept.cell KB3.out HX0.out
      have p1 := Kept.cell KB3.out HX1.out
      have p2 := Kept.cell KB3.out HX2.out
      have p3 := Kept.cell KB3.out HX3.out
      have p4 := Kept.cell KB3.out HX4.out
      have p5 := Kept.cell KB3.out HX5.out
      have p6 := Kept.cell (Kept.refl _) HR0.out
      have p7 := Kept.cell (Kept.refl _) HR1.out
      go_wp2_with fail
      refine (HQ.out _ (Kept.trans HK1.out KB3.out)).mono ?_
      rintro e w4 ⟨A4, n4, c4, rfl, le4, i4, _, k4⟩
      have I4 := Lib.hid i4
      have hn4 : n4 ≤ 10000 := by rw [i4.1]; exact HLX.out
      clear i4
      clear p0 p1 p2 p3 p4 p5 p6 p7
      have KB4 := Lib.hid (Kept.trans KB3.out k4)
      have HRA4 : Hid ((w4.alloc (Obj.cells #[Value.int IntKind.i64 (lo : Int), Value.int IntKind.i64 (hi : Int)] 40)).heap[w4.heap.size]? = some (Obj.cells #[Value.int IntKind.i64 (lo : Int), Value.int IntKind.i64 (hi : Int)] 40)) := Lib.hid (alloc_at rfl)
      have HR2 := Lib.hid (cell_of_block (i := 0) HRA4.out rfl)
      have HR3 := Lib.hid (cell_of_block (i := 1) HRA4.out rfl)
      simp only [s4_, s5_, s6_] at HR2 HR3
      have KB5 := Lib.hid (Kept.trans KB4.out (Kept.alloc (Kept.refl w4) (Obj.cells #[Value.int IntKind.i64 (lo : Int), Value.int IntKind.i64 (hi : Int)] 40)))
      have p0 := Kept.cell KB5.out HX0.out
      have p1 := Kept.cell KB5.out HX1.out
      have p2 := Kept.cell KB5.out HX2.out
      have p3 := Kept.cell KB5.out HX3.out
      have p4 := Kept.cell KB5.out HX4.out
      have p5 := Kept.cell KB5.out HX5.out
      have p6 := Kept.cell (Kept.trans k4 (Kept.alloc (Kept.refl w4) (Obj.cells #[Value.int IntKind.i64 (lo : Int), Value.int IntKind.i64 (hi : Int)] 40))) HR0.out
      have p7 := Kept.cell (Kept.trans k4 (Kept.alloc (Kept.refl w4) (Obj.cells #[Value.int IntKind.i64 (lo : Int), Value.int IntKind.i64 (hi : Int)] 40))) HR1.out
      have p8 := Kept.cell (Kept.refl _) HR2.out
      have p9 := Kept.cell (Kept.refl _) HR3.out
      go_wp2_with fail
      refine (r01_same X A2 A4 n2 n4 c2 c4 _ HLX.out (I2.out.kept (Kept.trans (Kept.alloc (Kept.refl w2) (Obj.cells #[Value.int IntKind.i64 (lo : Int), Value.int IntKind.i64 (hi : Int)] 40)) (Kept.trans k4 (Kept.alloc (Kept.refl w4) (Obj.cells #[Value.int IntKind.i64 (lo : Int), Value.int IntKind.i64 (hi : Int)] 40))))) (I4.out.kept (Kept.alloc (Kept.refl w4) (Obj.cells #[Value.int IntKind.i64 (lo : Int), Value.int IntKind.i64 (hi : Int)] 40)))).mono ?_
      rintro e w6 ⟨rfl, k6⟩
      clear p0 p1 p2 p3 p4 p5 p6 p7 p8 p9
      have KB6 := Lib.hid (Kept.trans KB5.out k6)
      have p0 := Kept.cell KB6.out HX0.out
      have p1 := Kept.cell KB6.out HX1.out
      have p2 := Kept.cell KB6.out HX2.out
      have p3 := Kept.cell KB6.out HX3.out
      have p4 := Kept.cell KB6.out HX4.out
      have p5 := Kept.cell KB6.out HX5.out
      have p6 := Kept.cell (Kept.trans k4 (Kept.trans (Kept.alloc (Kept.refl w4) (Obj.cells #[Value.int IntKind.i64 (lo : Int), Value.int IntKind.i64 (hi : Int)] 40)) k6)) HR0.out
      have p7 := Kept.cell (Kept.trans k4 (Kept.trans (Kept.alloc (Kept.refl w4) (Obj.cells #[Value.int IntKind.i64 (lo : Int), Value.int IntKind.i64 (hi : Int)] 40)) k6)) HR1.out
      have p8 := Kept.cell k6 HR2.out
      have p9 := Kept.cell k6 HR3.out
      go_wp2_with fail
      refine (alive26 _ (HG.out.kept (Kept.trans HK1.out KB6.out))).mono ?_
      rintro e w7 ⟨rfl, k7⟩
      clear p0 p1 p2 p3 p4 p5 p6 p7 p8 p9
      have KB7 := Lib.hid (Kept.trans KB6.out k7)
      go_wp2_with fail
      go_ret
      exact ⟨rfl, (Kept.trans HK1.out KB7.out)⟩
end Go.Proofs.YtjfhcmkcmdnhoaaGreatDoor
