/- The reference on identifiers: Small, medial, follows. -/
import Derived.Test.YtmlcdohldkgcdaaGreatDoorKSq
import Derived.Test.YtmlcdohldkgcdaaGreatDoorKRfb
import Derived.Test.YtmlcdohldkgcdaaGreatDoorKRefA
import Derived.Test.YtmlcdohldkgcdaaGreatDoorKSimA
namespace Go.Proofs.YtmlcdohldkgcdaaGreatDoor
open Go Go.RowKit
set_option maxRecDepth 100000 in
set_option maxHeartbeats 2000000 in
theorem r39Small (i : Ids) (r : IdR) (w : World) (hI : IdIn w i r) : Calls Tryz.prog 47 #[i.val] w (RetB w (smallI r)) := by
  have hk0_ := Kept.alloc (Kept.refl w) (Obj.cells #[Value.slice i.As i.ns i.cs, Value.slice i.Ac i.nc i.cc, Value.slice i.Am i.nm i.cm] 54)
  have HK1 := Lib.hid hk0_
  have hb0_ := (box_block w (Obj.cells #[Value.slice i.As i.ns i.cs, Value.slice i.Ac i.nc i.cc, Value.slice i.Am i.nm i.cm] 54))
  have x0_ := cell_of_block (i := 0) hb0_ rfl
  have x1_ := cell_of_block (i := 1) hb0_ rfl
  have x2_ := cell_of_block (i := 2) hb0_ rfl
  simp only [s4_, s5_, s6_] at x0_ x1_ x2_
  have HX0 := Lib.hid x0_
  have HX1 := Lib.hid x1_
  have HX2 := Lib.hid x2_
  have HB0 := Lib.hid hb0_
  clear x0_ x1_ x2_ hb0_
  have e1 : decide (r.st.length ≤ 12) = decide (i.ns ≤ 12) := by rw [hI.st.1]
  have e2 : decide (r.co.length ≤ 12) = decide (i.nc ≤ 12) := by rw [hI.co.1]
  have e3 : decide (r.me.length ≤ 12) = decide (i.nm ≤ 12) := by rw [hI.me.1]
  have HSM := Lib.hid (show smallI r = (decide (i.ns ≤ 12) && decide (i.nc ≤ 12) && decide (i.nm ≤ 12)) by unfold smallI; rw [e1, e2, e3])
  clear hI e1 e2 e3 hk0_
  have H1 := Lib.hid (fun w' => r02Small i.As i.ns i.cs w')
  have H2 := Lib.hid (fun w' => r02Small i.Ac i.nc i.cc w')
  have H3 := Lib.hid (fun w' => r02Small i.Am i.nm i.cm w')
  generalize decide (i.ns ≤ 12) = b1 at *
  generalize decide (i.nc ≤ 12) = b2 at *
  generalize decide (i.nm ≤ 12) = b3 at *
  rw [HSM.out]
  cases b1
  · skip
    unfold Ids.val
    go_enter Tryz.func47, Tryz.ntmps47
    have p0 := HX0.out
    have p1 := HX1.out
    have p2 := HX2.out
    go_wp2_with fail
    refine (H1.out _).mono ?_
    rintro e w1 ⟨rfl, k1⟩
    clear p0 p1 p2
    have KB1 := Lib.hid (Kept.trans (Kept.refl (w.alloc (Obj.cells #[Value.slice i.As i.ns i.cs, Value.slice i.Ac i.nc i.cc, Value.slice i.Am i.nm i.cm] 54))) k1)
    go_wp2_with fail
    go_ret
    exact ⟨rfl, (Kept.trans HK1.out KB1.out)⟩
  · cases b2
    · skip
      unfold Ids.val
      go_enter Tryz.func47, Tryz.ntmps47
      have p0 := HX0.out
      have p1 := HX1.out
      have p2 := HX2.out
      go_wp2_with fail
      refine (H1.out _).mono ?_
      rintro e w1 ⟨rfl, k1⟩
      clear p0 p1 p2
      have KB1 := Lib.hid (Kept.trans (Kept.refl (w.alloc (Obj.cells #[Value.slice i.As i.ns i.cs, Value.slice i.Ac i.nc i.cc, Value.slice i.Am i.nm i.cm] 54))) k1)
      have p0 := Kept.cell KB1.out HX0.out
      have p1 := Kept.cell KB1.out HX1.out
      have p2 := Kept.cell KB1.out HX2.out
      go_wp2_with fail
      refine (H2.out _).mono ?_
      rintro e w2 ⟨rfl, k2⟩
      clear p0 p1 p2
      have KB2 := Lib.hid (Kept.trans KB1.out k2)
      go_wp2_with fail
      go_ret
      exact ⟨rfl, (Kept.trans HK1.out KB2.out)⟩
    · skip
      cases b3
      · skip
        unfold Ids.val
        go_enter Tryz.func47, Tryz.ntmps47
        have p0 := HX0.out
        have p1 := HX1.out
        have p2 := HX2.out
        go_wp2_with fail
        refine (H1.out _).mono ?_
        rintro e w1 ⟨rfl, k1⟩
        clear p0 p1 p2
        have KB1 := Lib.hid (Kept.trans (Kept.refl (w.alloc (Obj.cells #[Value.slice i.As i.ns i.cs, Value.slice i.Ac i.nc i.cc, Value.slice i.Am i.nm i.cm] 54))) k1)
        have p0 := Kept.cell KB1.out HX0.out
        have p1 := Kept.cell KB1.out HX1.out
        have p2 := Kept.cell KB1.out HX2.out
        go_wp2_with fail
        refine (H2.out _).mono ?_
        rintro e w2 ⟨rfl, k2⟩
        clear p0 p1 p2
        have KB2 := Lib.hid (Kept.trans KB1.out k2)
        have p0 := Kept.cell KB2.out HX0.out
        have p1 := Kept.cell KB2.out HX1.out
        have p2 := Kept.cell KB2.out HX2.out
        go_wp2_with fail
        refine (H3.out _).mono ?_
        rintro e w3 ⟨rfl, k3⟩
        clear p0 p1 p2
        have KB3 := Lib.hid (Kept.trans KB2.out k3)
        go_wp2_with fail
        go_ret
        exact ⟨rfl, (Kept.trans HK1.out KB3.out)⟩
      · skip
        unfold Ids.val
        go_enter Tryz.func47, Tryz.ntmps47
        have p0 := HX0.out
        have p1 := HX1.out
        have p2 := HX2.out
        go_wp2_with fail
        refine (H1.out _).mono ?_
        rintro e w1 ⟨rfl, k1⟩
        clear p0 p1 p2
        have KB1 := Lib.hid (Kept.trans (Kept.refl (w.alloc (Obj.cells #[Value.slice i.As i.ns i.cs, Value.slice i.Ac i.nc i.cc, Value.slice i.Am i.nm i.cm] 54))) k1)
        have p0 := Kept.cell KB1.out HX0.out
        have p1 := Kept.cell KB1.out HX1.out
        have p2 := Kept.cell KB1.out HX2.out
        go_wp2_with fail
        refine (H2.out _).mono ?_
        rintro e w2 ⟨rfl, k2⟩
        clear p0 p1 p2
        have KB2 := Lib.hid (Kept.trans KB1.out k2)
        have p0 := Kept.cell KB2.out HX0.out
        have p1 := Kept.cell KB2.out HX1.out
        have p2 := Kept.cell KB2.out HX2.out
        go_wp2_with fail
        refine (H3.out _).mono ?_
        rintro e w3 ⟨rfl, k3⟩
        clear p0 p1 p2
        have KB3 := Lib.hid (Kept.trans KB2.out k3)
        go_wp2_with fail
        go_ret
        exact ⟨rfl, (Kept.trans HK1.out KB3.out)⟩
set_option maxRecDepth 100000 in
set_option maxHeartbeats 2000000 in
theorem r39medial (i : Ids) (r : IdR) (x : Int) (w : World) (hI : IdIn w i r) (hs : smallI r = true) : Calls Tryz.prog 76 #[i.val, .int .i64 x] w (RetB w (medB r.p r.c x)) := by
  have hk0_ := Kept.alloc (Kept.refl w) (Obj.cells #[Value.slice i.As i.ns i.cs, Value.slice i.Ac i.nc i.cc, Value.slice i.Am i.nm i.cm] 54)
  have HK1 := Lib.hid hk0_
  have hb0_ := (box_block w (Obj.cells #[Value.slice i.As i.ns i.cs, Value.slice i.Ac i.nc i.cc, Value.slice i.Am i.nm i.cm] 54))
  have x0_ := cell_of_block (i := 0) hb0_ rfl
  have x1_ := cell_of_block (i := 1) hb0_ rfl
  have x2_ := cell_of_block (i := 2) hb0_ rfl
  simp only [s4_, s5_, s6_] at x0_ x1_ x2_
  have HX0 := Lib.hid x0_
  have HX1 := Lib.hid x1_
  have HX2 := Lib.hid x2_
  have HB0 := Lib.hid hb0_
  clear x0_ x1_ x2_ hb0_
  obtain ⟨hn1, hn2, hn3⟩ := hI.len hs
  have H1 := Lib.hid (fun w' (hk : Kept w w') => r02Has i.As i.ns i.cs r.st x w' (by omega) (hI.st.kept hk))
  have H2 := Lib.hid (fun w' (hk : Kept w w') => r02Has i.Ac i.nc i.cc r.co x w' (by omega) (hI.co.kept hk))
  have H3 := Lib.hid (fun w' (hk : Kept w w') => r02Has i.Am i.nm i.cm r.me x w' (by omega) (hI.me.kept hk))
  clear hI hs hk0_ hn1 hn2 hn3
  have HM := Lib.hid (show medB r.p r.c x = (hasR r.me x && !hasR r.st x && !hasR r.co x) by unfold medB IdR.p IdR.c; cases hasR r.me x <;> cases hasR r.st x <;> cases hasR r.co x <;> rfl)
  rw [HM.out]
  generalize hasR r.st x = b1 at *
  generalize hasR r.co x = b2 at *
  generalize hasR r.me x = b3 at *
  cases b3
  · skip
    unfold Ids.val
    go_enter Tryz.func76, Tryz.ntmps76
    have p0 := HX0.out
    have p1 := HX1.out
    have p2 := HX2.out
    go_wp2_with fail
    refine (H3.out _ (Kept.trans HK1.out (Kept.refl (w.alloc (Obj.cells #[Value.slice i.As i.ns i.cs, Value.slice i.Ac i.nc i.cc, Value.slice i.Am i.nm i.cm] 54))))).mono ?_
    rintro e w1 ⟨rfl, k1⟩
    clear p0 p1 p2
    have KB1 := Lib.hid (Kept.trans (Kept.refl (w.alloc (Obj.cells #[Value.slice i.As i.ns i.cs, Value.slice i.Ac i.nc i.cc, Value.slice i.Am i.nm i.cm] 54))) k1)
    go_wp2_with fail
    go_ret
    exact ⟨rfl, (Kept.trans HK1.out KB1.out)⟩
  · cases b1
    · cases b2
      · skip
        unfold Ids.val
        go_enter Tryz.func76, Tryz.ntmps76
        have p0 := HX0.out
        have p1 := HX1.out
        have p2 := HX2.out
        go_wp2_with fail
        refine (H3.out _ (Kept.trans HK1.out (Kept.refl (w.alloc (Obj.cells #[Value.slice i.As i.ns i.cs, Value.slice i.Ac i.nc i.cc, Value.slice i.Am i.nm i.cm] 54))))).mono ?_
        rintro e w1 ⟨rfl, k1⟩
        clear p0 p1 p2
        have KB1 := Lib.hid (Kept.trans (Kept.refl (w.alloc (Obj.cells #[Value.slice i.As i.ns i.cs, Value.slice i.Ac i.nc i.cc, Value.slice i.Am i.nm i.cm] 54))) k1)
        have p0 := Kept.cell KB1.out HX0.out
        have p1 := Kept.cell KB1.out HX1.out
        have p2 := Kept.cell KB1.out HX2.out
        go_wp2_with fail
        refine (H1.out _ (Kept.trans HK1.out KB1.out)).mono ?_
        rintro e w2 ⟨rfl, k2⟩
        clear p0 p1 p2
        have KB2 := Lib.hid (Kept.trans KB1.out k2)
        have p0 := Kept.cell KB2.out HX0.out
        have p1 := Kept.cell KB2.out HX1.out
        have p2 := Kept.cell KB2.out HX2.out
        go_wp2_with fail
        refine (H2.out _ (Kept.trans HK1.out KB2.out)).mono ?_
        rintro e w3 ⟨rfl, k3⟩
        clear p0 p1 p2
        have KB3 := Lib.hid (Kept.trans KB2.out k3)
        go_wp2_with fail
        go_ret
        exact ⟨rfl, (Kept.trans HK1.out KB3.out)⟩
      · skip
        unfold Ids.val
        go_enter Tryz.func76, Tryz.ntmps76
        have p0 := HX0.out
        have p1 := HX1.out
        have p2 := HX2.out
        go_wp2_with fail
        refine (H3.out _ (Kept.trans HK1.out (Kept.refl (w.alloc (Obj.cells #[Value.slice i.As i.ns i.cs, Value.slice i.Ac i.nc i.cc, Value.slice i.Am i.nm i.cm] 54))))).mono ?_
        rintro e w1 ⟨rfl, k1⟩
        clear p0 p1 p2
        have KB1 := Lib.hid (Kept.trans (Kept.refl (w.alloc (Obj.cells #[Value.slice i.As i.ns i.cs, Value.slice i.Ac i.nc i.cc, Value.slice i.Am i.nm i.cm] 54))) k1)
        have p0 := Kept.cell KB1.out HX0.out
        have p1 := Kept.cell KB1.out HX1.out
        have p2 := Kept.cell KB1.out HX2.out
        go_wp2_with fail
        refine (H1.out _ (Kept.trans HK1.out KB1.out)).mono ?_
        rintro e w2 ⟨rfl, k2⟩
        clear p0 p1 p2
        have KB2 := Lib.hid (Kept.trans KB1.out k2)
        have p0 := Kept.cell KB2.out HX0.out
        have p1 := Kept.cell KB2.out HX1.out
        have p2 := Kept.cell KB2.out HX2.out
        go_wp2_with fail
        refine (H2.out _ (Kept.trans HK1.out KB2.out)).mono ?_
        rintro e w3 ⟨rfl, k3⟩
        clear p0 p1 p2
        have KB3 := Lib.hid (Kept.trans KB2.out k3)
        go_wp2_with fail
        go_ret
        exact ⟨rfl, (Kept.trans HK1.out KB3.out)⟩
    · skip
      unfold Ids.val
      go_enter Tryz.func76, Tryz.ntmps76
      have p0 := HX0.out
      have p1 := HX1.out
      have p2 := HX2.out
      go_wp2_with fail
      refine (H3.out _ (Kept.trans HK1.out (Kept.refl (w.alloc (Obj.cells #[Value.slice i.As i.ns i.cs, Value.slice i.Ac i.nc i.cc, Value.slice i.Am i.nm i.cm] 54))))).mono ?_
      rintro e w1 ⟨rfl, k1⟩
      clear p0 p1 p2
      have KB1 := Lib.hid (Kept.trans (Kept.refl (w.alloc (Obj.cells #[Value.slice i.As i.ns i.cs, Value.slice i.Ac i.nc i.cc, Value.slice i.Am i.nm i.cm] 54))) k1)
      have p0 := Kept.cell KB1.out HX0.out
      have p1 := Kept.cell KB1.out HX1.out
      have p2 := Kept.cell KB1.out HX2.out
      go_wp2_with fail
      refine (H1.out _ (Kept.trans HK1.out KB1.out)).mono ?_
      rintro e w2 ⟨rfl, k2⟩
      clear p0 p1 p2
      have KB2 := Lib.hid (Kept.trans KB1.out k2)
      go_wp2_with fail
      go_ret
      exact ⟨rfl, (Kept.trans HK1.out KB2.out)⟩
set_option maxRecDepth 100000 in
set_option maxHeartbeats 2000000 in
theorem r39follows (i : Ids) (r : IdR) (a x : Int) (w : World) (hI : IdIn w i r) (hs : smallI r = true) : Calls Tryz.prog 75 #[i.val, .int .i64 a, .int .i64 x] w (RetB w (folB r.p r.c a x)) := by
  have hk0_ := Kept.alloc (Kept.refl w) (Obj.cells #[Value.slice i.As i.ns i.cs, Value.slice i.Ac i.nc i.cc, Value.slice i.Am i.nm i.cm] 54)
  have HK1 := Lib.hid hk0_
  have hb0_ := (box_block w (Obj.cells #[Value.slice i.As i.ns i.cs, Value.slice i.Ac i.nc i.cc, Value.slice i.Am i.nm i.cm] 54))
  have x0_ := cell_of_block (i := 0) hb0_ rfl
  have x1_ := cell_of_block (i := 1) hb0_ rfl
  have x2_ := cell_of_block (i := 2) hb0_ rfl
  simp only [s4_, s5_, s6_] at x0_ x1_ x2_
  have HX0 := Lib.hid x0_
  have HX1 := Lib.hid x1_
  have HX2 := Lib.hid x2_
  have HB0 := Lib.hid hb0_
  clear x0_ x1_ x2_ hb0_
  obtain ⟨hn1, hn2, hn3⟩ := hI.len hs
  have H1 := Lib.hid (fun w' (hk : Kept w w') => r02Has i.As i.ns i.cs r.st x w' (by omega) (hI.st.kept hk))
  have H2 := Lib.hid (fun w' (hk : Kept w w') => r02Has i.Ac i.nc i.cc r.co x w' (by omega) (hI.co.kept hk))
  have HX := Lib.hid (fun w' (hk : Kept w w') => r39medial i r x w' (hI.kept hk) hs)
  have HA := Lib.hid (fun w' (hk : Kept w w') => r39medial i r a w' (hI.kept hk) hs)
  clear hI hs hk0_ hn1 hn2 hn3
  have HF := Lib.hid (show folB r.p r.c a x = if medB r.p r.c x = true then !medB r.p r.c a else (hasR r.st x || hasR r.co x) from rfl)
  rw [HF.out]
  generalize medB r.p r.c x = m1 at *
  generalize medB r.p r.c a = m2 at *
  generalize hasR r.st x = b1 at *
  generalize hasR r.co x = b2 at *
  unfold Ids.val at *
  cases m1
  · cases b1
    · cases b2
      · skip
        go_enter Tryz.func75, Tryz.ntmps75
        have p0 := HX0.out
        have p1 := HX1.out
        have p2 := HX2.out
        go_wp2_with fail
        refine (HX.out _ (Kept.trans HK1.out (Kept.refl (w.alloc (Obj.cells #[Value.slice i.As i.ns i.cs, Value.slice i.Ac i.nc i.cc, Value.slice i.Am i.nm i.cm] 54))))).mono ?_
        rintro e w1 ⟨rfl, k1⟩
        clear p0 p1 p2
        have KB1 := Lib.hid (Kept.trans (Kept.refl (w.alloc (Obj.cells #[Value.slice i.As i.ns i.cs, Value.slice i.Ac i.nc i.cc, Value.slice i.Am i.nm i.cm] 54))) k1)
        have p0 := Kept.cell KB1.out HX0.out
        have p1 := Kept.cell KB1.out HX1.out
        have p2 := Kept.cell KB1.out HX2.out
        go_wp2_with fail
        refine (H1.out _ (Kept.trans HK1.out KB1.out)).mono ?_
        rintro e w2 ⟨rfl, k2⟩
        clear p0 p1 p2
        have KB2 := Lib.hid (Kept.trans KB1.out k2)
        have p0 := Kept.cell KB2.out HX0.out
        have p1 := Kept.cell KB2.out HX1.out
        have p2 := Kept.cell KB2.out HX2.out
        go_wp2_with fail
        refine (H2.out _ (Kept.trans HK1.out KB2.out)).mono ?_
        rintro e w3 ⟨rfl, k3⟩
        clear p0 p1 p2
        have KB3 := Lib.hid (Kept.trans KB2.out k3)
        go_wp2_with fail
        go_ret
        exact ⟨rfl, (Kept.trans HK1.out KB3.out)⟩
      · skip
        go_enter Tryz.func75, Tryz.ntmps75
        have p0 := HX0.out
        have p1 := HX1.out
        have p2 := HX2.out
        go_wp2_with fail
        refine (HX.out _ (Kept.trans HK1.out (Kept.refl (w.alloc (Obj.cells #[Value.slice i.As i.ns i.cs, Value.slice i.Ac i.nc i.cc, Value.slice i.Am i.nm i.cm] 54))))).mono ?_
        rintro e w1 ⟨rfl, k1⟩
        clear p0 p1 p2
        have KB1 := Lib.hid (Kept.trans (Kept.refl (w.alloc (Obj.cells #[Value.slice i.As i.ns i.cs, Value.slice i.Ac i.nc i.cc, Value.slice i.Am i.nm i.cm] 54))) k1)
        have p0 := Kept.cell KB1.out HX0.out
        have p1 := Kept.cell KB1.out HX1.out
        have p2 := Kept.cell KB1.out HX2.out
        go_wp2_with fail
        refine (H1.out _ (Kept.trans HK1.out KB1.out)).mono ?_
        rintro e w2 ⟨rfl, k2⟩
        clear p0 p1 p2
        have KB2 := Lib.hid (Kept.trans KB1.out k2)
        have p0 := Kept.cell KB2.out HX0.out
        have p1 := Kept.cell KB2.out HX1.out
        have p2 := Kept.cell KB2.out HX2.out
        go_wp2_with fail
        refine (H2.out _ (Kept.trans HK1.out KB2.out)).mono ?_
        rintro e w3 ⟨rfl, k3⟩
        clear p0 p1 p2
        have KB3 := Lib.hid (Kept.trans KB2.out k3)
        go_wp2_with fail
        go_ret
        exact ⟨rfl, (Kept.trans HK1.out KB3.out)⟩
    · skip
      go_enter Tryz.func75, Tryz.ntmps75
      have p0 := HX0.out
      have p1 := HX1.out
      have p2 := HX2.out
      go_wp2_with fail
      refine (HX.out _ (Kept.trans HK1.out (Kept.refl (w.alloc (Obj.cells #[Value.slice i.As i.ns i.cs, Value.slice i.Ac i.nc i.cc, Value.slice i.Am i.nm i.cm] 54))))).mono ?_
      rintro e w1 ⟨rfl, k1⟩
      clear p0 p1 p2
      have KB1 := Lib.hid (Kept.trans (Kept.refl (w.alloc (Obj.cells #[Value.slice i.As i.ns i.cs, Value.slice i.Ac i.nc i.cc, Value.slice i.Am i.nm i.cm] 54))) k1)
      have p0 := Kept.cell KB1.out HX0.out
      have p1 := Kept.cell KB1.out HX1.out
      have p2 := Kept.cell KB1.out HX2.out
      go_wp2_with fail
      refine (H1.out _ (Kept.trans HK1.out KB1.out)).mono ?_
      rintro e w2 ⟨rfl, k2⟩
      clear p0 p1 p2
      have KB2 := Lib.hid (Kept.trans KB1.out k2)
      go_wp2_with fail
      go_ret
      exact ⟨rfl, (Kept.trans HK1.out KB2.out)⟩
  · cases m2
    · skip
      go_enter Tryz.func75, Tryz.ntmps75
      have p0 := HX0.out
      have p1 := HX1.out
      have p2 := HX2.out
      go_wp2_with fail
      refine (HX.out _ (Kept.trans HK1.out (Kept.refl (w.alloc (Obj.cells #[Value.slice i.As i.ns i.cs, Value.slice i.Ac i.nc i.cc, Value.slice i.Am i.nm i.cm] 54))))).mono ?_
      rintro e w1 ⟨rfl, k1⟩
      clear p0 p1 p2
      have KB1 := Lib.hid (Kept.trans (Kept.refl (w.alloc (Obj.cells #[Value.slice i.As i.ns i.cs, Value.slice i.Ac i.nc i.cc, Value.slice i.Am i.nm i.cm] 54))) k1)
      have p0 := Kept.cell KB1.out HX0.out
      have p1 := Kept.cell KB1.out HX1.out
      have p2 := Kept.cell KB1.out HX2.out
      go_wp2_with fail
      refine (HA.out _ (Kept.trans HK1.out KB1.out)).mono ?_
      rintro e w2 ⟨rfl, k2⟩
      clear p0 p1 p2
      have KB2 := Lib.hid (Kept.trans KB1.out k2)
      go_wp2_with fail
      go_ret
      exact ⟨rfl, (Kept.trans HK1.out KB2.out)⟩
    · skip
      go_enter Tryz.func75, Tryz.ntmps75
      have p0 := HX0.out
      have p1 := HX1.out
      have p2 := HX2.out
      go_wp2_with fail
      refine (HX.out _ (Kept.trans HK1.out (Kept.refl (w.alloc (Obj.cells #[Value.slice i.As i.ns i.cs, Value.slice i.Ac i.nc i.cc, Value.slice i.Am i.nm i.cm] 54))))).mono ?_
      rintro e w1 ⟨rfl, k1⟩
      clear p0 p1 p2
      have KB1 := Lib.hid (Kept.trans (Kept.refl (w.alloc (Obj.cells #[Value.slice i.As i.ns i.cs, Value.slice i.Ac i.nc i.cc, Value.slice i.Am i.nm i.cm] 54))) k1)
      have p0 := Kept.cell KB1.out HX0.out
      have p1 := Kept.cell KB1.out HX1.out
      have p2 := Kept.cell KB1.out HX2.out
      go_wp2_with fail
      refine (HA.out _ (Kept.trans HK1.out KB1.out)).mono ?_
      rintro e w2 ⟨rfl, k2⟩
      clear p0 p1 p2
      have KB2 := Lib.hid (Kept.trans KB1.out k2)
      go_wp2_with fail
      go_ret
      exact ⟨rfl, (Kept.trans HK1.out KB2.out)⟩
end Go.Proofs.YtmlcdohldkgcdaaGreatDoor
