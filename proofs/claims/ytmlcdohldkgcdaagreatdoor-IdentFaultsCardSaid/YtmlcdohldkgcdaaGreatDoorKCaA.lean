/- casemap.Check and casefold's foldings, Fold on empty data. -/
import Derived.Test.YtmlcdohldkgcdaaGreatDoorKSq
import Derived.Test.YtmlcdohldkgcdaaGreatDoorKSet
import Derived.Test.YtmlcdohldkgcdaaGreatDoorKMpx
import Derived.Test.YtmlcdohldkgcdaaGreatDoorKExpC
import Derived.Test.YtmlcdohldkgcdaaGreatDoorKRfj
namespace Go.Proofs.YtmlcdohldkgcdaaGreatDoor
open Go Go.RowKit
theorem mapCheck_nil0 : mapCheck [] = 0 := by decide
theorem makeR_nil0 : decide (makeR [] = []) = true := by
  rw [decide_eq_true_eq]
  simp [makeR, sortR, clipped]
theorem idx4_0 (w : World) : Sem.run Tryz.prog (Instr.index 259 (.agg #[.slice none 0 0, .slice none 0 0, .slice none 0 0, .slice none 0 0]) (.int .i64 0)) w = .ok (.slice none 0 0) w := by kernel_rfl
theorem idx4_1 (w : World) : Sem.run Tryz.prog (Instr.index 259 (.agg #[.slice none 0 0, .slice none 0 0, .slice none 0 0, .slice none 0 0]) (.int .i64 1)) w = .ok (.slice none 0 0) w := by kernel_rfl
theorem idx4_2 (w : World) : Sem.run Tryz.prog (Instr.index 259 (.agg #[.slice none 0 0, .slice none 0 0, .slice none 0 0, .slice none 0 0]) (.int .i64 2)) w = .ok (.slice none 0 0) w := by kernel_rfl
theorem idx4_3 (w : World) : Sem.run Tryz.prog (Instr.index 259 (.agg #[.slice none 0 0, .slice none 0 0, .slice none 0 0, .slice none 0 0]) (.int .i64 3)) w = .ok (.slice none 0 0) w := by kernel_rfl
set_option maxRecDepth 100000 in
set_option maxHeartbeats 2000000 in
theorem ccheck_empty (w : World) : Calls Tryz.prog 185 #[.agg #[.slice none 0 0, .slice none 0 0, .slice none 0 0, .slice none 0 0, .slice none 0 0, .slice none 0 0]] w (RetI w 0) := by
  have HMC := Lib.hid (fun w' => mapping_check none 0 0 [] w' (by omega) ⟨rfl, fun h => absurd h (by decide)⟩ (by simp))
  have HSV := Lib.hid (fun w' => setValid_any none 0 0 [] w' (by omega) Sl.nil)
  rw [mapCheck_nil0] at HMC
  rw [makeR_nil0] at HSV
  have hk0_ := Kept.alloc (Kept.refl w) (Obj.cells #[Value.slice none 0 0, Value.slice none 0 0, Value.slice none 0 0, Value.slice none 0 0, Value.slice none 0 0, Value.slice none 0 0] 60)
  have hk1_ := Kept.alloc hk0_ (Obj.cells #[Value.slice none 0 0, Value.slice none 0 0, Value.slice none 0 0, Value.slice none 0 0] 259)
  have HK1 := Lib.hid hk1_
  have hb0_ := (alloc_lift (o := (Obj.cells #[Value.slice none 0 0, Value.slice none 0 0, Value.slice none 0 0, Value.slice none 0 0] 259)) (box_block w (Obj.cells #[Value.slice none 0 0, Value.slice none 0 0, Value.slice none 0 0, Value.slice none 0 0, Value.slice none 0 0, Value.slice none 0 0] 60)))
  have x0_ := cell_of_block (i := 0) hb0_ rfl
  have x1_ := cell_of_block (i := 1) hb0_ rfl
  have x2_ := cell_of_block (i := 2) hb0_ rfl
  have x3_ := cell_of_block (i := 3) hb0_ rfl
  have x4_ := cell_of_block (i := 4) hb0_ rfl
  have x5_ := cell_of_block (i := 5) hb0_ rfl
  have hb1_ := (box_block (w.alloc (Obj.cells #[Value.slice none 0 0, Value.slice none 0 0, Value.slice none 0 0, Value.slice none 0 0, Value.slice none 0 0, Value.slice none 0 0] 60)) (Obj.cells #[Value.slice none 0 0, Value.slice none 0 0, Value.slice none 0 0, Value.slice none 0 0] 259))
  simp only [World.size_alloc] at hb1_
  have x6_ := cell_of_block (i := 0) hb1_ rfl
  have x7_ := cell_of_block (i := 1) hb1_ rfl
  have x8_ := cell_of_block (i := 2) hb1_ rfl
  have x9_ := cell_of_block (i := 3) hb1_ rfl
  simp only [s4_, s5_, s6_] at x0_ x1_ x2_ x3_ x4_ x5_ x6_ x7_ x8_ x9_
  have HX0 := Lib.hid x0_
  have HX1 := Lib.hid x1_
  have HX2 := Lib.hid x2_
  have HX3 := Lib.hid x3_
  have HX4 := Lib.hid x4_
  have HX5 := Lib.hid x5_
  have HX6 := Lib.hid x6_
  have HX7 := Lib.hid x7_
  have HX8 := Lib.hid x8_
  have HX9 := Lib.hid x9_
  have HB0 := Lib.hid hb0_
  have HB1 := Lib.hid hb1_
  clear x0_ x1_ x2_ x3_ x4_ x5_ x6_ x7_ x8_ x9_ hb0_ hb1_
  clear hk0_ hk1_
  have p0 := HX0.out
  have p1 := HX1.out
  have p2 := HX2.out
  have p3 := HX3.out
  have p4 := HX4.out
  have p5 := HX5.out
  go_enter Tryz.func185, Tryz.ntmps185
  go_wp2_with fail
  clear p0 p1 p2 p3 p4 p5
  go_loopw [21] (fun i wr => (i = .int .i64 0 ∨ i = .int .i64 1 ∨ i = .int .i64 2 ∨ i = .int .i64 3 ∨ i = .int .i64 4) ∧ Kept ((w.alloc (Obj.cells #[Value.slice none 0 0, Value.slice none 0 0, Value.slice none 0 0, Value.slice none 0 0, Value.slice none 0 0, Value.slice none 0 0] 60)).alloc (Obj.cells #[Value.slice none 0 0, Value.slice none 0 0, Value.slice none 0 0, Value.slice none 0 0] 259)) wr) (fun i _ => 4 - (intOf i).toNat)
  case atStart => exact ⟨.inl rfl, Kept.refl _⟩
  case round =>
    obtain ⟨hi, hkw⟩ := hrel
    have KW := Lib.hid hkw
    clear hkw
    rcases hi with rfl | rfl | rfl | rfl | rfl
    · have hix := idx4_0
      go_wp2_with fail
      clear hix
      refine (HMC.out _).mono ?_
      rintro e w1 ⟨rfl, k1⟩
      go_wp2_with fail
      go_roundw
      case rel => exact ⟨by simp, Kept.trans KW.out k1⟩
      case measure => simp [intOf]
    · have hix := idx4_1
      go_wp2_with fail
      clear hix
      refine (HMC.out _).mono ?_
      rintro e w1 ⟨rfl, k1⟩
      go_wp2_with fail
      go_roundw
      case rel => exact ⟨by simp, Kept.trans KW.out k1⟩
      case measure => simp [intOf]
    · have hix := idx4_2
      go_wp2_with fail
      clear hix
      refine (HMC.out _).mono ?_
      rintro e w1 ⟨rfl, k1⟩
      go_wp2_with fail
      go_roundw
      case rel => exact ⟨by simp, Kept.trans KW.out k1⟩
      case measure => simp [intOf]
    · have hix := idx4_3
      go_wp2_with fail
      clear hix
      refine (HMC.out _).mono ?_
      rintro e w1 ⟨rfl, k1⟩
      go_wp2_with fail
      go_roundw
      case rel => exact ⟨by simp, Kept.trans KW.out k1⟩
      case measure => simp [intOf]
    · have p6 := Kept.cell KW.out HX6.out
      have p7 := Kept.cell KW.out HX7.out
      have p8 := Kept.cell KW.out HX8.out
      have p9 := Kept.cell KW.out HX9.out
      go_wp2_with fail
      clear p6 p7 p8 p9
      go_loopw [31] (fun i wr => (i = .int .i64 0 ∨ i = .int .i64 1 ∨ i = .int .i64 2 ∨ i = .int .i64 3 ∨ i = .int .i64 4) ∧ Kept ((w.alloc (Obj.cells #[Value.slice none 0 0, Value.slice none 0 0, Value.slice none 0 0, Value.slice none 0 0, Value.slice none 0 0, Value.slice none 0 0] 60)).alloc (Obj.cells #[Value.slice none 0 0, Value.slice none 0 0, Value.slice none 0 0, Value.slice none 0 0] 259)) wr) (fun i _ => 4 - (intOf i).toNat)
      case atStart => exact ⟨.inl rfl, KW.out⟩
      case round =>
        obtain ⟨hi, hkw⟩ := hrel
        have KV := Lib.hid hkw
        clear hkw
        rcases hi with rfl | rfl | rfl | rfl | rfl
        · have hix := idx4_0
          go_wp2_with fail
          clear hix
          go_loopw [37] (fun i wr => i = .int .i64 0 ∧ Kept ((w.alloc (Obj.cells #[Value.slice none 0 0, Value.slice none 0 0, Value.slice none 0 0, Value.slice none 0 0, Value.slice none 0 0, Value.slice none 0 0] 60)).alloc (Obj.cells #[Value.slice none 0 0, Value.slice none 0 0, Value.slice none 0 0, Value.slice none 0 0] 259)) wr) (fun _ _ => 0)
          case atStart => exact ⟨rfl, KV.out⟩
          case round =>
            obtain ⟨rfl, hkw⟩ := hrel
            have KU := Lib.hid hkw
            clear hkw
            go_wp2_with fail
            go_roundw
            case rel => exact ⟨by simp, KU.out⟩
            case measure => simp [intOf]
        · have hix := idx4_1
          go_wp2_with fail
          clear hix
          go_loopw [37] (fun i wr => i = .int .i64 0 ∧ Kept ((w.alloc (Obj.cells #[Value.slice none 0 0, Value.slice none 0 0, Value.slice none 0 0, Value.slice none 0 0, Value.slice none 0 0, Value.slice none 0 0] 60)).alloc (Obj.cells #[Value.slice none 0 0, Value.slice none 0 0, Value.slice none 0 0, Value.slice none 0 0] 259)) wr) (fun _ _ => 0)
          case atStart => exact ⟨rfl, KV.out⟩
          case round =>
            obtain ⟨rfl, hkw⟩ := hrel
            have KU := Lib.hid hkw
            clear hkw
            go_wp2_with fail
            go_roundw
            case rel => exact ⟨by simp, KU.out⟩
            case measure => simp [intOf]
        · have hix := idx4_2
          go_wp2_with fail
          clear hix
          go_loopw [37] (fun i wr => i = .int .i64 0 ∧ Kept ((w.alloc (Obj.cells #[Value.slice none 0 0, Value.slice none 0 0, Value.slice none 0 0, Value.slice none 0 0, Value.slice none 0 0, Value.slice none 0 0] 60)).alloc (Obj.cells #[Value.slice none 0 0, Value.slice none 0 0, Value.slice none 0 0, Value.slice none 0 0] 259)) wr) (fun _ _ => 0)
          case atStart => exact ⟨rfl, KV.out⟩
          case round =>
            obtain ⟨rfl, hkw⟩ := hrel
            have KU := Lib.hid hkw
            clear hkw
            go_wp2_with fail
            go_roundw
            case rel => exact ⟨by simp, KU.out⟩
            case measure => simp [intOf]
        · have hix := idx4_3
          go_wp2_with fail
          clear hix
          go_loopw [37] (fun i wr => i = .int .i64 0 ∧ Kept ((w.alloc (Obj.cells #[Value.slice none 0 0, Value.slice none 0 0, Value.slice none 0 0, Value.slice none 0 0, Value.slice none 0 0, Value.slice none 0 0] 60)).alloc (Obj.cells #[Value.slice none 0 0, Value.slice none 0 0, Value.slice none 0 0, Value.slice none 0 0] 259)) wr) (fun _ _ => 0)
          case atStart => exact ⟨rfl, KV.out⟩
          case round =>
            obtain ⟨rfl, hkw⟩ := hrel
            have KU := Lib.hid hkw
            clear hkw
            go_wp2_with fail
            go_roundw
            case rel => exact ⟨by simp, KU.out⟩
            case measure => simp [intOf]
        · have p4 := Kept.cell KV.out HX4.out
          have p5 := Kept.cell KV.out HX5.out
          go_wp2_with fail
          refine (HSV.out _).mono ?_
          rintro e w1 ⟨rfl, k1⟩
          have q5 := Kept.cell k1 p5
          go_wp2_with fail
          refine (HSV.out _).mono ?_
          rintro e w2 ⟨rfl, k2⟩
          go_wp2_with fail
          go_ret
          exact ⟨rfl, Kept.trans HK1.out (Kept.trans KV.out (Kept.trans k1 k2))⟩
set_option maxRecDepth 100000 in
set_option maxHeartbeats 2000000 in
theorem foldings_empty (w : World) : Calls Tryz.prog 142 #[.agg #[.slice none 0 0, .slice none 0 0, .slice none 0 0, .slice none 0 0, .slice none 0 0, .slice none 0 0]] w (fun e w' => ∃ b, e = .returned (.map (some b)) ∧ MapIs w' b (fun k : Int => Value.int .i64 k) [] ∧ Kept w w') := by
  have HCH := Lib.hid (fun w' => ccheck_empty w')
  have hk0_ := Kept.alloc (Kept.refl w) (Obj.cells #[Value.slice none 0 0, Value.slice none 0 0, Value.slice none 0 0, Value.slice none 0 0, Value.slice none 0 0, Value.slice none 0 0] 60)
  have HK1 := Lib.hid hk0_
  have hb0_ := (box_block w (Obj.cells #[Value.slice none 0 0, Value.slice none 0 0, Value.slice none 0 0, Value.slice none 0 0, Value.slice none 0 0, Value.slice none 0 0] 60))
  have x0_ := cell_of_block (i := 0) hb0_ rfl
  have x1_ := cell_of_block (i := 1) hb0_ rfl
  have x2_ := cell_of_block (i := 2) hb0_ rfl
  have x3_ := cell_of_block (i := 3) hb0_ rfl
  have x4_ := cell_of_block (i := 4) hb0_ rfl
  have x5_ := cell_of_block (i := 5) hb0_ rfl
  simp only [s4_, s5_, s6_] at x0_ x1_ x2_ x3_ x4_ x5_
  have HX0 := Lib.hid x0_
  have HX1 := Lib.hid x1_
  have HX2 := Lib.hid x2_
  have HX3 := Lib.hid x3_
  have HX4 := Lib.hid x4_
  have HX5 := Lib.hid x5_
  have HB0 := Lib.hid hb0_
  clear x0_ x1_ x2_ x3_ x4_ x5_ hb0_
  clear hk0_
  have hmm := @run_makeMap Tryz.prog
  have HM := Lib.hid (MapIs.made (w.alloc (Obj.cells #[Value.slice none 0 0, Value.slice none 0 0, Value.slice none 0 0, Value.slice none 0 0, Value.slice none 0 0, Value.slice none 0 0] 60)) (fun k : Int => Value.int .i64 k) 0)
  have HKM := Lib.hid (Kept.alloc (Kept.refl (w.alloc (Obj.cells #[Value.slice none 0 0, Value.slice none 0 0, Value.slice none 0 0, Value.slice none 0 0, Value.slice none 0 0, Value.slice none 0 0] 60))) (.map #[] 0))
  have p0 := Kept.cell HKM.out HX0.out
  have p1 := Kept.cell HKM.out HX1.out
  have p2 := Kept.cell HKM.out HX2.out
  have p3 := Kept.cell HKM.out HX3.out
  have p4 := Kept.cell HKM.out HX4.out
  have p5 := Kept.cell HKM.out HX5.out
  go_enter Tryz.func142, Tryz.ntmps142
  go_wp2_with fail
  clear hmm
  refine (HCH.out _).mono ?_
  rintro e w1 ⟨rfl, k1⟩
  clear p0 p1 p2 p3 p4 p5
  have p3 := Kept.cell (Kept.trans HKM.out k1) HX3.out
  have K1 := Lib.hid k1
  clear k1
  go_wp2_with fail
  clear p3
  go_loopw [14] (fun i wr => i = .int .i64 0 ∧ Kept w1 wr) (fun _ _ => 0)
  case atStart => exact ⟨rfl, Kept.refl _⟩
  case round =>
    obtain ⟨rfl, hkw⟩ := hrel
    have KU := Lib.hid hkw
    clear hkw
    go_wp2_with fail
    go_ret
    refine ⟨_, rfl, ?_, Kept.trans HK1.out (Kept.trans HKM.out (Kept.trans K1.out KU.out))⟩
    have := HM.out.kept (Kept.trans K1.out KU.out)
    simpa using this
set_option maxRecDepth 100000 in
set_option maxHeartbeats 2000000 in
theorem fold_empty (B : Option Addr) (m d : Nat) (text : List Int) (w : World) (hm : m ≤ 10000000) (hI : Ints w B m text) : Calls Tryz.prog 108 #[.agg #[.slice none 0 0, .slice none 0 0, .slice none 0 0, .slice none 0 0, .slice none 0 0, .slice none 0 0], .slice B m d] w (RetInts w text) := by
  have hk0_ := Kept.alloc (Kept.refl w) (Obj.cells #[Value.slice none 0 0, Value.slice none 0 0, Value.slice none 0 0, Value.slice none 0 0, Value.slice none 0 0, Value.slice none 0 0] 60)
  have HK1 := Lib.hid hk0_
  have hb0_ := (box_block w (Obj.cells #[Value.slice none 0 0, Value.slice none 0 0, Value.slice none 0 0, Value.slice none 0 0, Value.slice none 0 0, Value.slice none 0 0] 60))
  have x0_ := cell_of_block (i := 0) hb0_ rfl
  have x1_ := cell_of_block (i := 1) hb0_ rfl
  have x2_ := cell_of_block (i := 2) hb0_ rfl
  have x3_ := cell_of_block (i := 3) hb0_ rfl
  have x4_ := cell_of_block (i := 4) hb0_ rfl
  have x5_ := cell_of_block (i := 5) hb0_ rfl
  simp only [s4_, s5_, s6_] at x0_ x1_ x2_ x3_ x4_ x5_
  have HX0 := Lib.hid x0_
  have HX1 := Lib.hid x1_
  have HX2 := Lib.hid x2_
  have HX3 := Lib.hid x3_
  have HX4 := Lib.hid x4_
  have HX5 := Lib.hid x5_
  have HB0 := Lib.hid hb0_
  clear x0_ x1_ x2_ x3_ x4_ x5_ hb0_
  have HI := Lib.hid (hI.kept HK1.out)
  have HML := Lib.hid hI.1
  clear hI hk0_
  obtain ⟨base, hbase⟩ : ∃ base : Nat, base = w.heap.size := ⟨_, rfl⟩
  have HBASE := Lib.hid hbase
  clear hbase
  have HF := Lib.hid (foldings_empty (w.alloc (Obj.cells #[Value.slice none 0 0, Value.slice none 0 0, Value.slice none 0 0, Value.slice none 0 0, Value.slice none 0 0, Value.slice none 0 0] 60)))
  have p0 := HX0.out
  have p1 := HX1.out
  have p2 := HX2.out
  have p3 := HX3.out
  have p4 := HX4.out
  have p5 := HX5.out
  go_enter Tryz.func108, Tryz.ntmps108
  go_wp2_with fail
  refine HF.out.mono ?_
  rintro e w1 ⟨bm, rfl, hmap, k1⟩
  clear p0 p1 p2 p3 p4 p5
  have HMAP := Lib.hid hmap
  have I1 := Lib.hid (HI.out.kept k1)
  have K1 := Lib.hid (Kept.trans HK1.out k1)
  have hsz1 := K1.out.size
  clear hmap k1
  go_wp2_with fail
  go_loopw [6, 15] (fun p i wr => ∃ k : Nat, k ≤ m ∧ i = .int .i64 k ∧ OwnI wr w1.heap.size p (text.take k) ∧ Kept w1 wr) (fun _ i _ => m - (intOf i).toNat)
  case atStart => exact ⟨0, Nat.zero_le _, rfl, (World.ownsRow_nil _ _ _ _ : OwnI w1 w1.heap.size (.slice none 0 0) []), Kept.refl _⟩
  case round =>
    obtain ⟨k, hk, rfl, hown, hkw⟩ := hrel
    have HOW := Lib.hid hown
    have HKW := Lib.hid hkw
    have hsz := hkw.size
    clear hown hkw
    by_cases hlt : k < m
    · obtain ⟨b, off, x, hA, hx, cx⟩ := int_at (I1.out.kept HKW.out) hlt
      rw [hA]
      have hlk := run_lookup_ok (T := 170) (E := 32) (keyOk_int (P := Tryz.prog) (K := 3) (by kernel_rfl)) (by kernel_rfl) (HMAP.out.kept HKW.out) (.slice none 0 0) (fun w => by kernel_rfl) x
      dsimp only [getKV] at hlk
      have HSN := Lib.hid (take_succ_some hx)
      have hLl : (text.take k).length ≤ 10000000 := Nat.le_trans (List.length_take_le _ _) (by omega)
      generalize text.take k = T at *
      clear hx
      have hka := Kept.alloc (Kept.refl wr) (Obj.cells #[Value.int IntKind.i64 x] 3)
      have HKA := Lib.hid hka
      clear hka
      go_wp2_with (at_builtin; refine app_ints rfl _ _ rfl w1.heap.size _ _ rfl (by exact own_kept HOW.out HKA.out) _ _ _ [x] rfl (by exact Ints.alloc_ (xs := [x]) rfl rfl) (by simp; omega) (by simp; omega) ?_; intro v2 w2 hown2 hgrow2 hat2)
      have hs2 := hgrow2.size
      have K2 : Hid (Kept w1 w2) := Lib.hid ((Kept.trans HKW.out HKA.out).grown hgrow2 (by simp; omega) (fun q e => by have := (World.ownsRow.lt HOW.out q e).1; omega))
      go_roundw
      case rel => exact ⟨k + 1, by omega, by go_num, by rw [HSN.out]; exact hown2, K2.out⟩
      case measure => simp [intOf]; omega
    · have hfull : text.take k = text := List.take_of_length_le (by have := HML.out; omega)
      have hown := HOW.out
      rw [hfull] at hown
      obtain ⟨A4, c4, hu, hle4, hI4⟩ := OwnI.sl hown
      clear hown hfull
      subst hu
      go_wp2_with fail
      go_ret
      exact ⟨A4, _, c4, rfl, hle4, hI4, Kept.trans K1.out HKW.out⟩
end Go.Proofs.YtmlcdohldkgcdaaGreatDoor
