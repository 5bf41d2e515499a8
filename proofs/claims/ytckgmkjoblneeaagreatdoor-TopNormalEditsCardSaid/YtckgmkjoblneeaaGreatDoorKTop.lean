/- top.equal, r01.Few, r53.Small. top.alive7 returns true. -/
import Derived.Deep.RegionHeld3
import Derived.Test.YtckgmkjoblneeaaGreatDoorKRefA
import Derived.Test.YtckgmkjoblneeaaGreatDoorKNrm
import Derived.Test.YtckgmkjoblneeaaGreatDoorKSq
import Derived.Test.YtckgmkjoblneeaaGreatDoorKClg
import Derived.Test.YtckgmkjoblneeaaGreatDoorKRfb
namespace Go.Proofs.YtckgmkjoblneeaaGreatDoor
open Go Go.RowKit
set_option maxRecDepth 100000 in
set_option maxHeartbeats 8000000 in
theorem top_equal (A B : Option Addr) (n m c d : Nat) (xs ys : List Int) (w : World) (hn : n ≤ 100000000) (hm : m ≤ 100000000) (hx : Ints w A n xs) (hy : Ints w B m ys) : Calls Tryz.prog 10 #[.slice A n c, .slice B m d] w (RetB w (decide (xs = ys))) := by
  have HE := Lib.hid (r01Equal A B n m c d xs ys w hn hm hx hy)
  clear hx hy
  go_enter Tryz.func10, Tryz.ntmps10
  go_wp2_with fail
  refine HE.out.mono ?_
  rintro e w1 ⟨rfl, k1⟩
  go_wp2_with fail
  go_ret
  exact ⟨rfl, k1⟩
theorem top_few (A : Option Addr) (n c : Nat) (k : Int) (w : World) (_hn : n ≤ 9223372036854775807) : Calls Tryz.prog 7 #[.slice A n c, .int .i64 k] w (RetB w (decide ((n : Int) ≤ k))) := by
  go_enter Tryz.func7, Tryz.ntmps7
  go_wp2_with fail
  go_ret
  exact ⟨rfl, Kept.refl _⟩
theorem top_small (a d : Int) (A : Option Addr) (n c : Nat) (w : World) (hn : n ≤ 9223372036854775807) : Calls Tryz.prog 11 #[.agg #[.int .i64 a, .int .i64 d, .slice A n c]] w (RetB w (decide (n ≤ 40))) := by
  have HK := Lib.hid (Kept.alloc (Kept.refl w) (Obj.cells #[Value.int IntKind.i64 a, Value.int IntKind.i64 d, Value.slice A n c] 42))
  go_enter Tryz.func11, Tryz.ntmps11
  go_wp2_with fail
  go_ret
  exact ⟨ret_bool (by simp; try omega), HK.out⟩
end Go.Proofs.YtckgmkjoblneeaaGreatDoor
namespace Go.Proofs.YtckgmkjoblneeaaGreatDoor
open Go Go.RowKit
theorem mps_ac {w : World} {b b0 : Nat} (h : w.heap[b]? = some (.cells #[.int .i64 225, .slice (some ⟨b0, 0, none⟩) 2 2, .string ⟨#[]⟩] 57 (0, 0)))
    (h0 : Ints w (some ⟨b0, 0, none⟩) 2 [97, 769]) : Mps w (some ⟨b, 0, none⟩) 1 acMm := by
  refine ⟨rfl, fun _ => ⟨b, 0, rfl, fun i m hm => ?_⟩⟩
  match i, hm with
  | 0, hm =>
    simp only [acMm, List.getElem?_cons_zero, Option.some.injEq] at hm
    subst hm
    exact ⟨_, 2, 2, Nat.le_refl _, h0, cell_of_block h rfl, cell_of_block h rfl, cell_of_block h rfl⟩
  | i + 1, hm => simp [acMm] at hm
set_option maxRecDepth 100000 in
set_option maxHeartbeats 8000000 in
theorem alive8 (w : World) (hG : Glob w) : Calls Tryz.prog 6 #[] w (RetB w true) := by
  have hk0_ := Kept.alloc (Kept.refl w) (Obj.cells #[Value.int IntKind.i64 97, Value.int IntKind.i64 769] 3)
  have hk1_ := Kept.alloc hk0_ (Obj.cells #[Value.int IntKind.i64 225, Value.slice (some ⟨w.heap.size, 0, none⟩) 2 2, Value.string ⟨#[]⟩] 57)
  have hk2_ := Kept.alloc hk1_ (Obj.cells #[Value.slice none 0 0, Value.slice (some ⟨w.heap.size + 1, 0, none⟩) 1 1, Value.slice none 0 0] 28)
  have hk3_ := Kept.alloc hk2_ (Obj.cells #[Value.int IntKind.i64 3, Value.int IntKind.i64 1, Value.bool false, Value.bool false] 59)
  have HK1 := Lib.hid hk3_
  have hb0_ := (alloc_lift (o := (Obj.cells #[Value.int IntKind.i64 3, Value.int IntKind.i64 1, Value.bool false, Value.bool false] 59)) (alloc_lift (o := (Obj.cells #[Value.slice none 0 0, Value.slice (some ⟨w.heap.size + 1, 0, none⟩) 1 1, Value.slice none 0 0] 28)) (alloc_lift (o := (Obj.cells #[Value.int IntKind.i64 225, Value.slice (some ⟨w.heap.size, 0, none⟩) 2 2, Value.string ⟨#[]⟩] 57)) (box_block w (Obj.cells #[Value.int IntKind.i64 97, Value.int IntKind.i64 769] 3)))))
  have x0_ := cell_of_block (i := 0) hb0_ rfl
  have x1_ := cell_of_block (i := 1) hb0_ rfl
  have hb1_ := (alloc_lift (o := (Obj.cells #[Value.int IntKind.i64 3, Value.int IntKind.i64 1, Value.bool false, Value.bool false] 59)) (alloc_lift (o := (Obj.cells #[Value.slice none 0 0, Value.slice (some ⟨w.heap.size + 1, 0, none⟩) 1 1, Value.slice none 0 0] 28)) (box_block (w.alloc (Obj.cells #[Value.int IntKind.i64 97, Value.int IntKind.i64 769] 3)) (Obj.cells #[Value.int IntKind.i64 225, Value.slice (some ⟨w.heap.size, 0, none⟩) 2 2, Value.string ⟨#[]⟩] 57))))
  simp only [World.size_alloc] at hb1_
  have x2_ := cell_of_block (i := 0) hb1_ rfl
  have x3_ := cell_of_block (i := 1) hb1_ rfl
  have x4_ := cell_of_block (i := 2) hb1_ rfl
  have hb2_ := (alloc_lift (o := (Obj.cells #[Value.int IntKind.i64 3, Value.int IntKind.i64 1, Value.bool false, Value.bool false] 59)) (box_block ((w.alloc (Obj.cells #[Value.int IntKind.i64 97, Value.int IntKind.i64 769] 3)).alloc (Obj.cells #[Value.int IntKind.i64 225, Value.slice (some ⟨w.heap.size, 0, none⟩) 2 2, Value.string ⟨#[]⟩] 57)) (Obj.cells #[Value.slice none 0 0, Value.slice (some ⟨w.heap.size + 1, 0, none⟩) 1 1, Value.slice none 0 0] 28)))
  simp only [World.size_alloc] at hb2_
  have x5_ := cell_of_block (i := 0) hb2_ rfl
  have x6_ := cell_of_block (i := 1) hb2_ rfl
  have x7_ := cell_of_block (i := 2) hb2_ rfl
  have hb3_ := (box_block (((w.alloc (Obj.cells #[Value.int IntKind.i64 97, Value.int IntKind.i64 769] 3)).alloc (Obj.cells #[Value.int IntKind.i64 225, Value.slice (some ⟨w.heap.size, 0, none⟩) 2 2, Value.string ⟨#[]⟩] 57)).alloc (Obj.cells #[Value.slice none 0 0, Value.slice (some ⟨w.heap.size + 1, 0, none⟩) 1 1, Value.slice none 0 0] 28)) (Obj.cells #[Value.int IntKind.i64 3, Value.int IntKind.i64 1, Value.bool false, Value.bool false] 59))
  simp only [World.size_alloc] at hb3_
  have x8_ := cell_of_block (i := 0) hb3_ rfl
  have x9_ := cell_of_block (i := 1) hb3_ rfl
  have x10_ := cell_of_block (i := 2) hb3_ rfl
  have x11_ := cell_of_block (i := 3) hb3_ rfl
  simp only [s4_, s5_, s6_] at x0_ x1_ x2_ x3_ x4_ x5_ x6_ x7_ x8_ x9_ x10_ x11_
  have HX0 := Lib.hid x0_
  have HX1 := Lib.hid x1_
  have HX2 := Lib.hid x2_
  have HX3 := Lib.hid x3_
  have HX4 := Lib.hid x4_
  have HX5 := Lib.hid x5_
  have HX6 := Lib.hid x6_
  have HX7 := Lib.hid x7_
  have HX8 := Lib.hid x8_
  have HX9 := Lib.hid x9_
  have HX10 := Lib.hid x10_
  have HX11 := Lib.hid x11_
  have HB0 := Lib.hid hb0_
  have HB1 := Lib.hid hb1_
  have HB2 := Lib.hid hb2_
  have HB3 := Lib.hid hb3_
  clear x0_ x1_ x2_ x3_ x4_ x5_ x6_ x7_ x8_ x9_ x10_ x11_ hb0_ hb1_ hb2_ hb3_
  have HN := Lib.hid (show NormAt ((((w.alloc (Obj.cells #[Value.int IntKind.i64 97, Value.int IntKind.i64 769] 3)).alloc (Obj.cells #[Value.int IntKind.i64 225, Value.slice (some ⟨w.heap.size, 0, none⟩) 2 2, Value.string ⟨#[]⟩] 57)).alloc (Obj.cells #[Value.slice none 0 0, Value.slice (some ⟨w.heap.size + 1, 0, none⟩) 1 1, Value.slice none 0 0] 28)).alloc (Obj.cells #[Value.int IntKind.i64 3, Value.int IntKind.i64 1, Value.bool false, Value.bool false] 59)) ⟨none, 0, 0, some ⟨w.heap.size + 1, 0, none⟩, 1, 1, none, 0, 0⟩ acN from ⟨Nat.le_refl _, Nat.le_refl _, Nat.le_refl _, Nat.zero_le _, show 1 ≤ 1000 by decide, Nat.zero_le _, Sl.nil, mps_ac HB1.out (Ints.new_ (xs := [97, 769]) HB0.out rfl), Sl.nil, fun m hm => by
    simp only [acN, acMm, List.mem_cons, List.not_mem_nil, or_false] at hm
    rcases hm with rfl
    simp⟩)
  have HG := Lib.hid (hG.kept HK1.out)
  clear hG hk0_ hk1_ hk2_ hk3_
  go_enter Tryz.func6, Tryz.ntmps6
  have p0 := HX0.out
  have p1 := HX1.out
  have p2 := HX2.out
  have p3 := HX3.out
  have p4 := HX4.out
  have p5 := HX5.out
  have p6 := HX6.out
  have p7 := HX7.out
  have p8 := HX8.out
  have p9 := HX9.out
  have p10 := HX10.out
  have p11 := HX11.out
  go_wp2_with fail
  clear p0 p1 p2 p3 p4 p5 p6 p7 p8 p9 p10 p11
  have KB1 := Lib.hid (Kept.trans (Kept.refl ((((w.alloc (Obj.cells #[Value.int IntKind.i64 97, Value.int IntKind.i64 769] 3)).alloc (Obj.cells #[Value.int IntKind.i64 225, Value.slice (some ⟨w.heap.size, 0, none⟩) 2 2, Value.string ⟨#[]⟩] 57)).alloc (Obj.cells #[Value.slice none 0 0, Value.slice (some ⟨w.heap.size + 1, 0, none⟩) 1 1, Value.slice none 0 0] 28)).alloc (Obj.cells #[Value.int IntKind.i64 3, Value.int IntKind.i64 1, Value.bool false, Value.bool false] 59))) (Kept.alloc (Kept.refl _) (Obj.cells #[Value.int IntKind.i64 225] 3)))
  have HF := Lib.hid (form_any ⟨none, 0, 0, some ⟨w.heap.size + 1, 0, none⟩, 1, 1, none, 0, 0⟩ acN 2 (some ⟨w.heap.size + 1 + 1 + 1 + 1, 0, none⟩) 1 1 [225] _ (HN.out.kept KB1.out) (HG.out.kept KB1.out) (by omega) (Ints.alloc_ (xs := [225]) (by simp) rfl))
  rw [acN_f1] at HF
  unfold Sls.val at HF
  refine (HF.out).mono ?_
  rintro e w2 ⟨A2, n2, c2, rfl, le2, i2, k2⟩
  obtain rfl : n2 = 2 := i2.1
  have I2 := Lib.hid i2
  clear i2
  have KB2 := Lib.hid (Kept.trans KB1.out k2)
  clear HF
  have p0 := Kept.cell KB2.out HX0.out
  have p1 := Kept.cell KB2.out HX1.out
  have p2 := Kept.cell KB2.out HX2.out
  have p3 := Kept.cell KB2.out HX3.out
  have p4 := Kept.cell KB2.out HX4.out
  have p5 := Kept.cell KB2.out HX5.out
  have p6 := Kept.cell KB2.out HX6.out
  have p7 := Kept.cell KB2.out HX7.out
  have p8 := Kept.cell KB2.out HX8.out
  have p9 := Kept.cell KB2.out HX9.out
  have p10 := Kept.cell KB2.out HX10.out
  have p11 := Kept.cell KB2.out HX11.out
  go_wp2_with fail
  clear p0 p1 p2 p3 p4 p5 p6 p7 p8 p9 p10 p11
  have KB3 := Lib.hid (Kept.trans KB2.out (Kept.alloc (Kept.refl _) (Obj.cells #[Value.int IntKind.i64 97, Value.int IntKind.i64 769] 3)))
  have HF := Lib.hid (top_equal A2 (some ⟨w2.heap.size, 0, none⟩) 2 2 c2 2 [97, 769] [97, 769] _ (by omega) (by omega) (I2.out.kept (Kept.alloc (Kept.refl _) (Obj.cells #[Value.int IntKind.i64 97, Value.int IntKind.i64 769] 3))) (Ints.alloc_ (xs := [97, 769]) (by simp) rfl))
  rw [show decide (([97, 769] : List Int) = [97, 769]) = true by decide] at HF
  refine (HF.out).mono ?_
  rintro e w4 ⟨rfl, k4⟩
  have KB4 := Lib.hid (Kept.trans KB3.out k4)
  clear HF
  have p0 := Kept.cell KB4.out HX0.out
  have p1 := Kept.cell KB4.out HX1.out
  have p2 := Kept.cell KB4.out HX2.out
  have p3 := Kept.cell KB4.out HX3.out
  have p4 := Kept.cell KB4.out HX4.out
  have p5 := Kept.cell KB4.out HX5.out
  have p6 := Kept.cell KB4.out HX6.out
  have p7 := Kept.cell KB4.out HX7.out
  have p8 := Kept.cell KB4.out HX8.out
  have p9 := Kept.cell KB4.out HX9.out
  have p10 := Kept.cell KB4.out HX10.out
  have p11 := Kept.cell KB4.out HX11.out
  go_wp2_with fail
  clear p0 p1 p2 p3 p4 p5 p6 p7 p8 p9 p10 p11
  have KB5 := Lib.hid (Kept.trans KB4.out (Kept.alloc (Kept.refl _) (Obj.cells #[Value.int IntKind.i64 225] 3)))
  have KB6 := Lib.hid (Kept.trans KB5.out (Kept.alloc (Kept.refl _) (Obj.cells #[Value.int IntKind.i64 97, Value.int IntKind.i64 769] 3)))
  have HF := Lib.hid (nsame_any ⟨none, 0, 0, some ⟨w.heap.size + 1, 0, none⟩, 1, 1, none, 0, 0⟩ acN false (some ⟨w4.heap.size, 0, none⟩) 1 1 [225] (some ⟨w4.heap.size + 1, 0, none⟩) 2 2 [97, 769] _ (HN.out.kept KB6.out) (HG.out.kept KB6.out) (by omega) (by omega) (Sl.kept (Ints.alloc_ (xs := [225]) (by simp) rfl) (Kept.alloc (Kept.refl _) (Obj.cells #[Value.int IntKind.i64 97, Value.int IntKind.i64 769] 3))) (Ints.alloc_ (xs := [97, 769]) (by simp) rfl))
  rw [show decide (formOf acN (sameForm false) [225] = formOf acN (sameForm false) [97, 769]) = true by simp [sameForm, acN_f1, acN_f2]] at HF
  unfold Sls.val at HF
  refine (HF.out).mono ?_
  rintro e w7 ⟨rfl, k7⟩
  have KB7 := Lib.hid (Kept.trans KB6.out k7)
  clear HF
  have p0 := Kept.cell KB7.out HX0.out
  have p1 := Kept.cell KB7.out HX1.out
  have p2 := Kept.cell KB7.out HX2.out
  have p3 := Kept.cell KB7.out HX3.out
  have p4 := Kept.cell KB7.out HX4.out
  have p5 := Kept.cell KB7.out HX5.out
  have p6 := Kept.cell KB7.out HX6.out
  have p7 := Kept.cell KB7.out HX7.out
  have p8 := Kept.cell KB7.out HX8.out
  have p9 := Kept.cell KB7.out HX9.out
  have p10 := Kept.cell KB7.out HX10.out
  have p11 := Kept.cell KB7.out HX11.out
  go_wp2_with fail
  clear p0 p1 p2 p3 p4 p5 p6 p7 p8 p9 p10 p11
  have KB8 := Lib.hid (Kept.trans KB7.out (Kept.alloc (Kept.refl _) (Obj.cells #[Value.int IntKind.i64 97] 3)))
  have KB9 := Lib.hid (Kept.trans KB8.out (Kept.alloc (Kept.refl _) (Obj.cells #[Value.int IntKind.i64 98] 3)))
  have HF := Lib.hid (col_cmp (some ⟨w.heap.size + 1, 0, none⟩) 1 1 acN (some ⟨w7.heap.size, 0, none⟩) 1 (some ⟨w7.heap.size + 1, 0, none⟩) 1 _ (HN.out.kept KB9.out) (HG.out.kept KB9.out) acN_check acN_t3 acN_t4 (Sl.kept (Ints.alloc_ (xs := [97]) (by simp) rfl) (Kept.alloc (Kept.refl _) (Obj.cells #[Value.int IntKind.i64 98] 3))) (Ints.alloc_ (xs := [98]) (by simp) rfl))
  refine (HF.out).mono ?_
  rintro e w10 ⟨rfl, k10⟩
  have KB10 := Lib.hid (Kept.trans KB9.out k10)
  clear HF
  have p0 := Kept.cell KB10.out HX0.out
  have p1 := Kept.cell KB10.out HX1.out
  have p2 := Kept.cell KB10.out HX2.out
  have p3 := Kept.cell KB10.out HX3.out
  have p4 := Kept.cell KB10.out HX4.out
  have p5 := Kept.cell KB10.out HX5.out
  have p6 := Kept.cell KB10.out HX6.out
  have p7 := Kept.cell KB10.out HX7.out
  have p8 := Kept.cell KB10.out HX8.out
  have p9 := Kept.cell KB10.out HX9.out
  have p10 := Kept.cell KB10.out HX10.out
  have p11 := Kept.cell KB10.out HX11.out
  go_wp2_with fail
  clear p0 p1 p2 p3 p4 p5 p6 p7 p8 p9 p10 p11
  have KB11 := Lib.hid (Kept.trans KB10.out (Kept.alloc (Kept.refl _) (Obj.cells #[Value.int IntKind.i64 97] 3)))
  have HF := Lib.hid (sk_key97 (some ⟨w.heap.size + 1, 0, none⟩) 1 1 acN (some ⟨w10.heap.size, 0, none⟩) 1 _ (HN.out.kept KB11.out) (HG.out.kept KB11.out) acN_check acN_t3 (Ints.alloc_ (xs := [97]) (by simp) rfl))
  refine (HF.out).mono ?_
  rintro e w12 ⟨A12, n12, c12, rfl, le12, i12, k12⟩
  obtain rfl : n12 = 6 := i12.1
  have I12 := Lib.hid i12
  clear i12
  have KB12 := Lib.hid (Kept.trans KB11.out k12)
  clear HF
  go_wp2_with fail
  go_ret
  exact ⟨rfl, (Kept.trans HK1.out KB12.out)⟩
end Go.Proofs.YtckgmkjoblneeaaGreatDoor
