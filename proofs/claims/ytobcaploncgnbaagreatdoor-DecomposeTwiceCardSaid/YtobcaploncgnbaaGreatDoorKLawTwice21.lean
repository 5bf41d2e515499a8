/- law21.DecomposeTwice returns true. -/
import Derived.Test.YtobcaploncgnbaaGreatDoorKFew
import Derived.Test.YtobcaploncgnbaaGreatDoorKRefO
import Derived.Test.YtobcaploncgnbaaGreatDoorKRefM
namespace Go.Proofs.YtobcaploncgnbaaGreatDoor
open Go Go.RowKit

theorem twice_text (n : Nrm) (cp : Bool) (xs : List Int) : textOf n cp (textOf n cp xs) = textOf n cp xs := by
  rw [textOf_eq, textOf_eq]
  exact textE_twice (usableN_good n) (usableN_full n cp) xs
theorem none_text (n : Nrm) (cp : Bool) (xs : List Int) : ∀ e ∈ textOf n cp xs, onceOf (usableN n).decomp e cp = none := by
  rw [textOf_eq]
  exact textE_none (usableN_good n) (usableN_full n cp) xs
theorem cls_nonneg (n : Nrm) (x : Int) : 0 ≤ classOf (usableN n).classes x := classOf_nonneg (usableN_good n).ord x
theorem text_sorted (n : Nrm) (cp : Bool) (xs : List Int) : refSort (classOf (usableN n).classes) (textOf n cp xs) = textOf n cp xs := by
  rw [refSort_eq (cls_nonneg n), textOf_eq, textE_eq, sortT_idem]
theorem field_cls_ (A : Option Addr) (n c : Nat) (u v : Value) (w : World) : Sem.run Tryz.prog (Instr.field 28 (.agg #[.slice A n c, u, v]) 0) w = .ok (.slice A n c) w := by kernel_rfl

set_option maxRecDepth 100000 in
set_option maxHeartbeats 2000000 in
theorem r20Sorted (A : Option Addr) (n c : Nat) (l : List Span) (B : Option Addr) (m d : Nat) (text : List Int) (w : World) (hn : n ≤ 1000) (hm : m ≤ 10000) (hl : Spans w A n l) (hI : Ints w B m text) (hs : refSort (classOf (usableSpans l)) text = text) :
    Calls Tryz.prog 9 #[.slice A n c, .slice B m d] w (RetB w true) := by
  have HS := Lib.hid (r20Sort A n c l B m d text w hn (by omega) hl hI)
  rw [hs] at HS
  have HI := Lib.hid hI
  have HL := Lib.hid (show text.length ≤ 10000 by have := hI.1; omega)
  clear hl hI hs
  go_enter Tryz.func9, Tryz.ntmps9
  go_wp2_with fail
  refine HS.out.mono ?_
  rintro e w1 ⟨A1, n1, c1, rfl, le1, i1, k1⟩
  have HEQ := Lib.hid (r01_same text A1 B n1 m c1 d w1 HL.out i1 (HI.out.kept k1))
  clear i1
  go_wp2_with fail
  refine HEQ.out.mono ?_
  rintro e w2 ⟨rfl, k2⟩
  go_wp2_with fail
  go_ret
  exact ⟨rfl, Kept.trans k1 k2⟩

set_option maxRecDepth 100000 in
set_option maxHeartbeats 2000000 in
theorem law_twice21 (s : Sls) (n : Nrm) (A : Option Addr) (l c : Nat) (xs : List Int) (cp : Bool) (w : World) (hN : NormIn w s n) (hI : l ≤ c ∧ c ≤ 9223372036854775807 ∧ Ints w A l xs) (hG : Glob w) : Calls Tryz.prog 3 #[s.val, .slice A l c, .bool cp] w (RetB w true) := by
  have HG := Lib.hid hG
  have hk1 := Kept.alloc (Kept.refl w) (Obj.cells #[Value.slice s.Ac s.nc s.cc, Value.slice s.Am s.nm s.cm, Value.slice s.Ae s.ne s.ce] 28)
  have HK1 := Lib.hid hk1
  obtain ⟨hle, hbig, hI⟩ := hI
  have HS := Lib.hid (few21 s n A l c (w.alloc (Obj.cells #[Value.slice s.Ac s.nc s.cc, Value.slice s.Am s.nm s.cm, Value.slice s.Ae s.ne s.ce] 28)) (hN.kept hk1) ⟨hle, hbig⟩)
  have hbx := box_cell w #[Value.slice s.Ac s.nc s.cc, Value.slice s.Am s.nm s.cm, Value.slice s.Ae s.ne s.ce] 28
  have x0 : (w.alloc (Obj.cells #[Value.slice s.Ac s.nc s.cc, Value.slice s.Am s.nm s.cm, Value.slice s.Ae s.ne s.ce] 28)).cell? ⟨w.heap.size, 0, none⟩ = some (.slice s.Ac s.nc s.cc) := hbx 0
  have x1 : (w.alloc (Obj.cells #[Value.slice s.Ac s.nc s.cc, Value.slice s.Am s.nm s.cm, Value.slice s.Ae s.ne s.ce] 28)).cell? ⟨w.heap.size, 1, none⟩ = some (.slice s.Am s.nm s.cm) := hbx 1
  have x2 : (w.alloc (Obj.cells #[Value.slice s.Ac s.nc s.cc, Value.slice s.Am s.nm s.cm, Value.slice s.Ae s.ne s.ce] 28)).cell? ⟨w.heap.size, 2, none⟩ = some (.slice s.Ae s.ne s.ce) := hbx 2
  have HX0 := Lib.hid x0
  have HX1 := Lib.hid x1
  have HX2 := Lib.hid x2
  have HN := Lib.hid hN
  have HI := Lib.hid hI
  clear hN hG hk1 hbx x0 x1 x2 hI hle hbig
  cases hsm : (smallB n && decide (l ≤ 40))
  · rw [hsm] at HS
    clear hsm
    unfold Sls.val at *
    go_enter Tryz.func3, Tryz.ntmps3
    go_wp2_with fail
    refine HS.out.mono ?_
    rintro e w1 ⟨rfl, k1⟩
    have HA := Lib.hid (alive21 w1 (HG.out.kept (Kept.trans HK1.out k1)))
    go_wp2_with fail
    refine HA.out.mono ?_
    rintro e w2 ⟨rfl, k2⟩
    go_wp2_with fail
    go_ret
    exact ⟨rfl, Kept.trans HK1.out (Kept.trans k1 k2)⟩
  · rw [hsm] at HS
    obtain ⟨hsb, hl40⟩ := (Bool.and_eq_true _ _).mp hsm
    have hl40 := of_decide_eq_true hl40
    have HNA := Lib.hid (HN.out.small hsb)
    have HTG := Lib.hid (norm_tag HN.out hsb)
    clear hsm hsb
    have hxl := HI.out.1
    have e0 := textOf_length n cp xs
    have e1 := twice_text n cp xs
    have HT0 := Lib.hid (fun w' (hk : Kept w w') => text_any s n A l c xs cp w' (HNA.out.kept hk) (HG.out.kept hk) (by omega) (HI.out.kept hk))
    have HT1 := Lib.hid (fun w' A2 n2 c2 (hk : Kept w w') (h2 : n2 ≤ 10000) (hI2 : Ints w' A2 n2 (textOf n cp xs)) => text_any s n A2 n2 c2 _ cp w' (HNA.out.kept hk) (HG.out.kept hk) h2 hI2)
    rw [e1] at HT1
    have HON := Lib.hid (fun x w' (hk : Kept w w') => onceP_any s n x cp w' (HNA.out.kept hk) (HG.out.kept hk))
    have HNO := Lib.hid (none_text n cp xs)
    have HDA := Lib.hid (fun w' (hk : Kept w w') => r21data s n w' (HNA.out.kept hk) HTG.out)
    have HNU := Lib.hid (usableS_at HNA.out)
    have hsr := text_sorted n cp xs
    have HSP := Lib.hid (usableN_spans n)
    have hL0 : (textOf n cp xs).length ≤ 10000 := by omega
    have HSO := Lib.hid (fun A2 n2 c2 w' (hk : Kept w w') (h2 : n2 ≤ 10000) (hI2 : Ints w' A2 n2 (textOf n cp xs)) => r20Sorted (usableS s n).Ac (usableS s n).nc (usableS s n).cc (usableN n).classes A2 n2 c2 _ w' (by have := HNU.out.bc; omega) h2 (HNU.out.kept hk).cls hI2 (by rw [HSP.out]; exact hsr))
    clear e0 e1 hsr hxl
    generalize textOf n cp xs = X at *
    generalize onceOf (usableN n).decomp = oo at *
    generalize usableS s n = s1 at *
    clear hl40
    unfold Sls.val at *
    go_enter Tryz.func3, Tryz.ntmps3
    go_wp2_with fail
    refine HS.out.mono ?_
    rintro e w1 ⟨rfl, k1⟩
    have p0 := Kept.cell k1 HX0.out
    have p1 := Kept.cell k1 HX1.out
    have p2 := Kept.cell k1 HX2.out
    have K1 := Lib.hid (Kept.trans HK1.out k1)
    go_wp2_with fail
    refine (HT0.out _ K1.out).mono ?_
    rintro e w2 ⟨A2, n2, c2, rfl, le2, i2, k2⟩
    have I2 := Lib.hid i2
    have hn2 : n2 ≤ 10000 := by rw [i2.1]; exact hL0
    have HL0 := Lib.hid hL0
    have K2 := Lib.hid (Kept.trans K1.out k2)
    have HP0 := Lib.hid (Kept.cell k2 p0)
    have HP1 := Lib.hid (Kept.cell k2 p1)
    have HP2 := Lib.hid (Kept.cell k2 p2)
    clear p0 p1 p2 i2
    go_wp2_with fail
    go_loopw [8, 9, 10] (fun i _ _ wr => ∃ j : Nat, j ≤ n2 ∧ i = .int .i64 j ∧ Kept w2 wr) (fun i _ _ _ => n2 - (intOf i).toNat)
    case atStart => exact ⟨0, Nat.zero_le _, rfl, Kept.refl _⟩
    case round =>
      obtain ⟨j, hj, rfl, hkj⟩ := hrel
      have HKJ := Lib.hid hkj
      have KW := Lib.hid (Kept.trans K2.out hkj)
      have q0 := Kept.cell hkj HP0.out
      have q1 := Kept.cell hkj HP1.out
      have q2 := Kept.cell hkj HP2.out
      clear hkj
      by_cases hjn : j < n2
      · obtain ⟨b2, off2, y, hA, hy, cy⟩ := int_at (I2.out.kept HKJ.out) hjn
        have HO := Lib.hid (HNO.out y (List.mem_of_getElem? hy))
        have HONY := Lib.hid (HON.out y wr.drew (Kept.drew KW.out))
        rw [HO.out] at HONY
        subst hA
        clear hy
        go_wp2_with fail
        go_region_held3 (fun w' => w'.cell? ⟨w.heap.size, 0, none⟩ = some (.slice s.Ac s.nc s.cc) ∧ w'.cell? ⟨w.heap.size, 1, none⟩ = some (.slice s.Am s.nm s.cm) ∧ w'.cell? ⟨w.heap.size, 2, none⟩ = some (.slice s.Ae s.ne s.ce) ∧ w'.cell? ⟨b2, off2 + j, none⟩ = some (.int .i64 y)) (first | exact ⟨r0, r1, r2, r3⟩ | exact ⟨q0, q1, q2, cy⟩)
          (first
            | (go_at_call 7; refine HONY.out.mono ?_; rintro e w3 ⟨A3, n3, c3, rfl, le3, i3, k3⟩; have r0 := Kept.cell k3 q0; have r1 := Kept.cell k3 q1; have r2 := Kept.cell k3 q2; have r3 := Kept.cell k3 cy; have K3 := Lib.hid (Kept.trans (Kept.drew HKJ.out) k3)))
        go_wp2_with fail
        go_roundw
        case rel => exact ⟨j + 1, by omega, by go_num, K3.out⟩
        case measure => simp [intOf]; omega
      · have HI2 := Lib.hid (I2.out.kept HKJ.out)
        have hn2' : n2 ≤ 10000 := hn2
        have hfd := fun w' => field_cls_ s1.Ac s1.nc s1.cc (.slice s1.Am s1.nm s1.cm) (.slice s1.Ae s1.ne s1.ce) w'
        go_wp2_with fail
        refine (HT1.out _ A2 n2 c2 KW.out hn2' HI2.out).mono ?_
        rintro e w4 ⟨A4, n4, c4, rfl, le4, i4, k4⟩
        have HEQ := Lib.hid (r01_same X A4 A2 n4 n2 c4 c2 w4 hL0 i4 (HI2.out.kept k4))
        have K4 := Lib.hid (Kept.trans KW.out k4)
        have HI4 := Lib.hid (HI2.out.kept k4)
        have t0 := Kept.cell k4 q0
        have t1 := Kept.cell k4 q1
        have t2 := Kept.cell k4 q2
        clear i4 q0 q1 q2
        go_wp2_with fail
        refine HEQ.out.mono ?_
        rintro e w5 ⟨rfl, k5⟩
        have K5 := Lib.hid (Kept.trans K4.out k5)
        have HI5 := Lib.hid (HI4.out.kept k5)
        have u0 := Kept.cell k5 t0
        have u1 := Kept.cell k5 t1
        have u2 := Kept.cell k5 t2
        clear t0 t1 t2
        go_wp2_with fail
        refine (HDA.out _ K5.out).mono ?_
        rintro e w6 ⟨rfl, k6⟩
        have K6 := Lib.hid (Kept.trans K5.out k6)
        have HI6 := Lib.hid (HI5.out.kept k6)
        clear u0 u1 u2
        go_wp2_with fail
        refine (HSO.out A2 n2 c2 _ K6.out hn2' HI6.out).mono ?_
        rintro e w7 ⟨rfl, k7⟩
        have K7 := Lib.hid (Kept.trans K6.out k7)
        go_wp2_with fail
        refine (alive21 w7 (HG.out.kept K7.out)).mono ?_
        rintro e w8 ⟨rfl, k8⟩
        go_wp2_with fail
        go_ret
        exact ⟨rfl, Kept.trans K7.out k8⟩
end Go.Proofs.YtobcaploncgnbaaGreatDoor
