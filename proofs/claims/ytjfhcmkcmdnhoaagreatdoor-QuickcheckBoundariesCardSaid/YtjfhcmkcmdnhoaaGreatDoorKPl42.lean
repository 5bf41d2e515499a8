/- Streams that normalize: what is pending, and what has come out. No walk. law24.QuickcheckBoundaries returns true. -/
import Derived.Deep.RegionHeld3
import Derived.Test.YtjfhcmkcmdnhoaaGreatDoorKQp
import Derived.Test.YtjfhcmkcmdnhoaaGreatDoorKSq
import Derived.Test.YtjfhcmkcmdnhoaaGreatDoorKRow
import Derived.Test.YtjfhcmkcmdnhoaaGreatDoorKRefAF
namespace Go.Proofs.YtjfhcmkcmdnhoaaGreatDoor
theorem bnds_append (p : Int → Bool) (b : List Int) : ∀ (a : List Int) (i : Nat), bnds p i (a ++ b) = bnds p i a ++ bnds p (i + a.length) b
  | [], i => by simp [bnds]
  | c :: a, i => by
    rw [List.cons_append, bnds, bnds, bnds_append p b a, List.length_cons, show i + 1 + a.length = i + (a.length + 1) by omega]
    split <;> simp
end Go.Proofs.YtjfhcmkcmdnhoaaGreatDoor
namespace Go.Proofs.YtjfhcmkcmdnhoaaGreatDoor
open Go Go.RowKit
theorem bndI_next {n : Nrm} {form : Int} {t : List Int} {k : Nat} {x : Int} (h : t[k]? = some x) (hb : boundB n form x = true) : (bndI n form t)[(bndI n form (t.take k)).length]? = some (k : Int) := by
  have e : bndI n form t = bndI n form (t.take (k + 1)) ++ (bnds (boundB n form) (t.take (k + 1)).length (t.drop (k + 1))).map (fun k : Nat => (k : Int)) := by
    unfold bndI
    rw [← List.map_append]
    congr 1
    have := bnds_append (boundB n form) (t.drop (k + 1)) (t.take (k + 1)) 0
    rw [List.take_append_drop, Nat.zero_add] at this
    exact this
  rw [e, bndI_step h, if_pos hb, List.append_assoc, List.getElem?_append_right (Nat.le_refl _)]
  simp
set_option maxRecDepth 100000 in
set_option maxHeartbeats 4000000 in
theorem law_boundaries24 (s : Sls) (n : Nrm) (form : Int) (A : Option Addr) (l c : Nat) (xs : List Int) (w : World) (hN : NormIn w s n) (_hx : I64 form) (hI : l ≤ c ∧ c ≤ 9223372036854775807 ∧ Ints w A l xs) (hG : Glob w) : Calls Tryz.prog 10 #[.agg #[Value.slice s.Ac s.nc s.cc, Value.slice s.Am s.nm s.cm, Value.slice s.Ae s.ne s.ce, Value.int IntKind.i64 form, Value.slice A l c]] w (RetB w true) := by
  have hk0_ := Kept.alloc (Kept.refl w) (Obj.cells #[Value.slice s.Ac s.nc s.cc, Value.slice s.Am s.nm s.cm, Value.slice s.Ae s.ne s.ce, Value.int IntKind.i64 form, Value.slice A l c] 54)
  have HK1 := Lib.hid hk0_
  have hb0_ := (box_block w (Obj.cells #[Value.slice s.Ac s.nc s.cc, Value.slice s.Am s.nm s.cm, Value.slice s.Ae s.ne s.ce, Value.int IntKind.i64 form, Value.slice A l c] 54))
  have x0_ := cell_of_block (i := 0) hb0_ rfl
  have x1_ := cell_of_block (i := 1) hb0_ rfl
  have x2_ := cell_of_block (i := 2) hb0_ rfl
  have x3_ := cell_of_block (i := 3) hb0_ rfl
  have x4_ := cell_of_block (i := 4) hb0_ rfl
  simp only [s4_, s5_, s6_] at x0_ x1_ x2_ x3_ x4_
  have HX0 := Lib.hid x0_
  have HX1 := Lib.hid x1_
  have HX2 := Lib.hid x2_
  have HX3 := Lib.hid x3_
  have HX4 := Lib.hid x4_
  have HB0 := Lib.hid hb0_
  clear x0_ x1_ x2_ x3_ x4_ hb0_
  obtain ⟨hle, hbig, hI⟩ := hI
  have HS := Lib.hid (few24 s n A l c (w.alloc (Obj.cells #[Value.slice s.Ac s.nc s.cc, Value.slice s.Am s.nm s.cm, Value.slice s.Ae s.ne s.ce, Value.int IntKind.i64 form, Value.slice A l c] 54)) (hN.kept hk0_) ⟨hle, hbig⟩)
  have HN := Lib.hid hN
  have HG := Lib.hid hG
  have HI := Lib.hid hI
  clear hN hG hk0_ hI hbig
  cases hsm : (smallB n && decide (l ≤ 12))
  · rw [hsm] at HS
    clear hsm
    unfold Sls.val at *
    go_enter Tryz.func10, Tryz.ntmps10
    have p0 := HX0.out
    have p1 := HX1.out
    have p2 := HX2.out
    have p3 := HX3.out
    have p4 := HX4.out
    go_wp2_with fail
    refine (HS.out).mono ?_
    rintro e w1 ⟨rfl, k1⟩
    clear p0 p1 p2 p3 p4
    have KB1 := Lib.hid (Kept.trans (Kept.refl (w.alloc (Obj.cells #[Value.slice s.Ac s.nc s.cc, Value.slice s.Am s.nm s.cm, Value.slice s.Ae s.ne s.ce, Value.int IntKind.i64 form, Value.slice A l c] 54))) k1)
    have p0 := Kept.cell KB1.out HX0.out
    have p1 := Kept.cell KB1.out HX1.out
    have p2 := Kept.cell KB1.out HX2.out
    have p3 := Kept.cell KB1.out HX3.out
    have p4 := Kept.cell KB1.out HX4.out
    go_wp2_with fail
    refine (alive24 _ (HG.out.kept (Kept.trans HK1.out KB1.out))).mono ?_
    rintro e w2 ⟨rfl, k2⟩
    clear p0 p1 p2 p3 p4
    have KB2 := Lib.hid (Kept.trans KB1.out k2)
    go_wp2_with fail
    go_ret
    exact ⟨rfl, (Kept.trans HK1.out KB2.out)⟩
  · rw [hsm] at HS
    obtain ⟨hsb, hl12⟩ := (Bool.and_eq_true _ _).mp hsm
    have hl12 := of_decide_eq_true hl12
    have HNA := Lib.hid (HN.out.small hsb)
    have HTG := Lib.hid (norm_tag HN.out hsb)
    have HXL := Lib.hid HI.out.1
    clear hsm hsb
    have HB0 := Lib.hid (fun w' (hk : Kept w w') => bounds_any s n form A l c xs w' (HNA.out.kept hk) (HG.out.kept hk) (by omega) (HI.out.kept hk))
    have HB2 := Lib.hid (fun w' (hk : Kept w w') => r24Boundaries s n form A l c xs w' (HNA.out.kept hk) HTG.out (by omega) (HI.out.kept hk))
    have HBD := Lib.hid (fun x w' (hk : Kept w w') => bound_any s n form x w' (HNA.out.kept hk) (HG.out.kept hk))
    have HLB := Lib.hid (show (bndI n form xs).length ≤ 10000 by have := bndI_le n form xs; have := HXL.out; omega)
    have HLC := Lib.hid (show (bndI n form xs).length ≤ 12 by have := bndI_le n form xs; have := HXL.out; omega)
    unfold Sls.val at *
    go_enter Tryz.func10, Tryz.ntmps10
    have p0 := HX0.out
    have p1 := HX1.out
    have p2 := HX2.out
    have p3 := HX3.out
    have p4 := HX4.out
    go_wp2_with fail
    refine (HS.out).mono ?_
    rintro e w1 ⟨rfl, k1⟩
    clear p0 p1 p2 p3 p4
    have KB1 := Lib.hid (Kept.trans (Kept.refl (w.alloc (Obj.cells #[Value.slice s.Ac s.nc s.cc, Value.slice s.Am s.nm s.cm, Value.slice s.Ae s.ne s.ce, Value.int IntKind.i64 form, Value.slice A l c] 54))) k1)
    have p0 := Kept.cell KB1.out HX0.out
    have p1 := Kept.cell KB1.out HX1.out
    have p2 := Kept.cell KB1.out HX2.out
    have p3 := Kept.cell KB1.out HX3.out
    have p4 := Kept.cell KB1.out HX4.out
    go_wp2_with fail
    refine (HB0.out _ (Kept.trans HK1.out KB1.out)).mono ?_
    rintro e w2 ⟨A2, n2, c2, rfl, le2, i2, k2⟩
    have I2 := Lib.hid i2
    have hn2 : n2 ≤ 10000 := (by rw [i2.1]; exact HLB.out)
    clear i2
    clear p0 p1 p2 p3 p4
    have KB2 := Lib.hid (Kept.trans KB1.out k2)
    have hn12 : n2 ≤ 12 := by rw [I2.out.1]; exact HLC.out
    have HLN := Lib.hid I2.out.1
    have p0 := Kept.cell KB2.out HX0.out
    have p1 := Kept.cell KB2.out HX1.out
    have p2 := Kept.cell KB2.out HX2.out
    have p3 := Kept.cell KB2.out HX3.out
    have p4 := Kept.cell KB2.out HX4.out
    go_wp2_with fail
    clear p0 p1 p2 p3 p4
    go_loopw [4, 5] (fun q i wr => ∃ k j : Nat, k ≤ l ∧ i = .int .i64 k ∧ q = .int .i64 j ∧ j = (bndI n form (xs.take k)).length ∧ Kept w2 wr) (fun _ i _ => l - (intOf i).toNat)
    case atStart => exact ⟨0, 0, Nat.zero_le _, rfl, rfl, by simp [bndI, bnds], Kept.refl _⟩
    case round =>
      obtain ⟨k, j, hk, rfl, rfl, hj, hkr⟩ := hrel
      have HJ := Lib.hid hj
      have KR := Lib.hid hkr
      have KW := Lib.hid (Kept.trans HK1.out (Kept.trans KB2.out hkr))
      clear hj hkr
      have q0 := Kept.cell (Kept.trans KB2.out KR.out) HX0.out
      have q1 := Kept.cell (Kept.trans KB2.out KR.out) HX1.out
      have q2 := Kept.cell (Kept.trans KB2.out KR.out) HX2.out
      have q3 := Kept.cell (Kept.trans KB2.out KR.out) HX3.out
      have q4 := Kept.cell (Kept.trans KB2.out KR.out) HX4.out
      by_cases hlt : k < l
      · obtain ⟨b, off, x, rfl, hx, cx⟩ := int_at (HI.out.kept KW.out) hlt
        have HST := Lib.hid (bndI_step (n := n) (form := form) hx)
        have HNX := Lib.hid (fun hb => bndI_next (n := n) (form := form) hx hb)
        have HBX := Lib.hid (fun w' hk => HBD.out x w' hk)
        clear hx
        generalize boundB n form x = bb at *
        cases bb
        · go_wp2_with fail
          refine wp_region_held_drew (S := (fun w' => w'.cell? ⟨w.heap.size, 0, none⟩ = some (.slice s.Ac s.nc s.cc) ∧ w'.cell? ⟨w.heap.size, 1, none⟩ = some (.slice s.Am s.nm s.cm) ∧ w'.cell? ⟨w.heap.size, 2, none⟩ = some (.slice s.Ae s.ne s.ce) ∧ w'.cell? ⟨w.heap.size, 3, none⟩ = some (.int .i64 form) ∧ w'.cell? ⟨w.heap.size, 4, none⟩ = some (.slice (some ⟨b, off, none⟩) l c) ∧ w'.cell? ⟨b, off + k, none⟩ = some (.int .i64 x))) (by kernel_rfl) ⟨q0, q1, q2, q3, q4, cx⟩ (fun hHeld => ?_)
          refine tk_ 0 ?_ rfl ?_; refine tk_ 1 ?_ rfl ?_; refine tk_ 2 ?_ rfl ?_; refine tk_ 3 ?_ rfl ?_; refine tk_ 4 ?_ rfl ?_; refine tk_ 5 ?_ rfl ?_; refine tk_ 6 ?_ rfl ?_; refine tk_ 7 ?_ rfl ?_; refine tk_ 8 ?_ rfl ?_
          refine rd_ 9 rfl (fun K hK => ?_)
          go_simp
          (refine (HBX.out _ (Kept.trans KW.out (Kept.drew (Kept.refl wr)))).mono ?_; rintro e w6 ⟨rfl, k6⟩; have K6 := Lib.hid (Kept.trans (Kept.drew (Kept.refl wr)) k6); clear k6)
          go_wp2_with fail
          refine hK.out _ _ ⟨Kept.cell K6.out q0, Kept.cell K6.out q1, Kept.cell K6.out q2, Kept.cell K6.out q3, Kept.cell K6.out q4, Kept.cell K6.out cx⟩ (fun hHeld => ?_)
          clear hK K
          (try simp only [Act.put, s1_, s2_, s3_, s4_, s5_, s6_])
          refine tk_ 10 ?_ rfl ?_
          refine wpAnyH_done (by kernel_rfl) ?_ _
          clear q0 q1 q2 q3 q4 cx
          go_wp2_with fail
          go_roundw
          case rel => exact ⟨k + 1, j, by omega, by go_num, rfl, by rw [HST.out, if_neg (by simp), List.append_nil]; exact HJ.out, Kept.trans KR.out K6.out⟩
          case measure => simp [intOf]; omega
        · go_wp2_with fail
          refine wp_region_held_drew (S := (fun w' => w'.cell? ⟨w.heap.size, 0, none⟩ = some (.slice s.Ac s.nc s.cc) ∧ w'.cell? ⟨w.heap.size, 1, none⟩ = some (.slice s.Am s.nm s.cm) ∧ w'.cell? ⟨w.heap.size, 2, none⟩ = some (.slice s.Ae s.ne s.ce) ∧ w'.cell? ⟨w.heap.size, 3, none⟩ = some (.int .i64 form) ∧ w'.cell? ⟨w.heap.size, 4, none⟩ = some (.slice (some ⟨b, off, none⟩) l c) ∧ w'.cell? ⟨b, off + k, none⟩ = some (.int .i64 x))) (by kernel_rfl) ⟨q0, q1, q2, q3, q4, cx⟩ (fun hHeld => ?_)
          refine tk_ 0 ?_ rfl ?_; refine tk_ 1 ?_ rfl ?_; refine tk_ 2 ?_ rfl ?_; refine tk_ 3 ?_ rfl ?_; refine tk_ 4 ?_ rfl ?_; refine tk_ 5 ?_ rfl ?_; refine tk_ 6 ?_ rfl ?_; refine tk_ 7 ?_ rfl ?_; refine tk_ 8 ?_ rfl ?_
          refine rd_ 9 rfl (fun K hK => ?_)
          go_simp
          (refine (HBX.out _ (Kept.trans KW.out (Kept.drew (Kept.refl wr)))).mono ?_; rintro e w6 ⟨rfl, k6⟩; have K6 := Lib.hid (Kept.trans (Kept.drew (Kept.refl wr)) k6); clear k6)
          go_wp2_with fail
          refine hK.out _ _ ⟨Kept.cell K6.out q0, Kept.cell K6.out q1, Kept.cell K6.out q2, Kept.cell K6.out q3, Kept.cell K6.out q4, Kept.cell K6.out cx⟩ (fun hHeld => ?_)
          clear hK K
          (try simp only [Act.put, s1_, s2_, s3_, s4_, s5_, s6_])
          refine tk_ 10 ?_ rfl ?_
          refine wpAnyH_done (by kernel_rfl) ?_ _
          clear q0 q1 q2 q3 q4 cx
          have hnx := HNX.out (by first | rfl | trivial)
          rw [← HJ.out] at hnx
          have hjn : j < n2 := by rw [HLN.out]; exact lt_of_getElem?_some hnx
          obtain ⟨b3, off3, y, rfl, hy, cy⟩ := int_at (I2.out.kept (Kept.trans KR.out K6.out)) hjn
          obtain rfl : y = (k : Int) := by rw [hnx] at hy; exact (Option.some.inj hy).symm
          have z1 : ((k : Int) != (k : Int)) = false := by simp
          have z2 : decide ((n2 : Int) ≤ (j : Int)) = false := decide_eq_false (by omega)
          have z3 : decide (n2 ≤ j) = false := decide_eq_false (by omega)
          have z4 : ¬ n2 ≤ j := by omega
          clear hnx hy
          go_wp2_with fail
          go_roundw
          case rel => exact ⟨k + 1, j + 1, by omega, by go_num, by go_num, by rw [HST.out, List.length_append, ← HJ.out]; simp, Kept.trans KR.out K6.out⟩
          case measure => simp [intOf]; omega
      · have hjn : j = n2 := by rw [HJ.out, List.take_of_length_le (by have := HXL.out; omega), HLN.out]
        subst hjn
        have z1 : ((j : Int) == (j : Int)) = true := by simp
        go_wp2_with fail
        refine (HB2.out _ KW.out).mono ?_
        rintro e w7 ⟨A7, n7, c7, rfl, le7, i7, k7⟩
        have I7 := Lib.hid i7
        clear i7
        go_wp2_with fail
        refine (r01_same _ A2 A7 j n7 c2 c7 _ HLB.out (I2.out.kept (Kept.trans KR.out k7)) I7.out).mono ?_
        rintro e w8 ⟨rfl, k8⟩
        go_wp2_with fail
        refine (alive24 _ (HG.out.kept (Kept.trans KW.out (Kept.trans k7 k8)))).mono ?_
        rintro e w9 ⟨rfl, k9⟩
        go_wp2_with fail
        go_ret
        exact ⟨rfl, Kept.trans KW.out (Kept.trans k7 (Kept.trans k8 k9))⟩
end Go.Proofs.YtjfhcmkcmdnhoaaGreatDoor
