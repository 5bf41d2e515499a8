/- law21.few. law21.DecomposeKinds returns true. -/
import Derived.Test.YtobcaploncgnbaaDoorKLawChecks21
import Derived.Test.YtobcaploncgnbaaDoorKDecD
import Derived.Test.YtobcaploncgnbaaDoorKPq
namespace Go.Proofs.YtobcaploncgnbaaDoor
open Go Go.RowKit

theorem textOf_eq (n : Nrm) (cp : Bool) (text : List Int) : textOf n cp text = textE (classOf (usableN n).classes) (fullOf (usableN n).decomp cp) text := rfl

theorem r01_same (X : List Int) (A B : Option Addr) (n m c d : Nat) (w : World) (hl : X.length ≤ 10000) (hx : Ints w A n X) (hy : Ints w B m X) : Calls Tryd.prog 14 #[.slice A n c, .slice B m d] w (RetB w true) := by
  have h1 := hx.1
  have h2 := hy.1
  have := r01Equal A B n m c d X X w (by omega) (by omega) hx hy
  simpa using this

set_option maxRecDepth 100000 in
set_option maxHeartbeats 1000000 in
theorem few21 (s : Sls) (n : Nrm) (A : Option Addr) (l c : Nat) (w : World) (hN : NormIn w s n) (hl : l ≤ c ∧ c ≤ 9223372036854775807) : Calls Tryd.prog 21 #[s.val, .slice A l c] w (RetB w (smallB n && decide (l ≤ 40))) := by
  have hk1 := Kept.alloc (Kept.refl w) (Obj.cells #[Value.slice s.Ac s.nc s.cc, Value.slice s.Am s.nm s.cm, Value.slice s.Ae s.ne s.ce] 28)
  have HK1 := Lib.hid hk1
  have HS := Lib.hid (r21small s n (w.alloc (Obj.cells #[Value.slice s.Ac s.nc s.cc, Value.slice s.Am s.nm s.cm, Value.slice s.Ae s.ne s.ce] 28)) (hN.kept hk1))
  clear hN hk1
  obtain ⟨hle, hc⟩ := hl
  cases hsm : smallB n
  · rw [hsm] at HS
    clear hsm
    unfold Sls.val at *
    go_enter Tryd.func21, Tryd.ntmps21
    go_wp2_with (go_at_call 9; refine HS.out.mono ?_; rintro e w1 ⟨rfl, k1⟩)
    go_ret
    exact ⟨rfl, Kept.trans HK1.out k1⟩
  · rw [hsm] at HS
    clear hsm
    unfold Sls.val at *
    go_enter Tryd.func21, Tryd.ntmps21
    go_wp2_with (go_at_call 9; refine HS.out.mono ?_; rintro e w1 ⟨rfl, k1⟩)
    go_ret
    refine ⟨ret_bool ?_, Kept.trans HK1.out k1⟩
    simp
    try omega
end Go.Proofs.YtobcaploncgnbaaDoor
namespace Go.Proofs.YtobcaploncgnbaaDoor
open Go Go.RowKit

theorem kinds_text (n : Nrm) (xs : List Int) : textOf n true (textOf n false xs) = textOf n true xs := by
  rw [textOf_eq, textOf_eq, textOf_eq]
  exact textE_kinds (usableN_good n) (usableN_full n false) (usableN_full n true) xs

set_option maxRecDepth 100000 in
set_option maxHeartbeats 2000000 in
theorem law_kinds21 (s : Sls) (n : Nrm) (A : Option Addr) (l c : Nat) (xs : List Int) (w : World) (hN : NormIn w s n) (hI : l ≤ c ∧ c ≤ 9223372036854775807 ∧ Ints w A l xs) (hG : Glob w) : Calls Tryd.prog 6 #[s.val, .slice A l c] w (RetB w true) := by
  have HG := Lib.hid hG
  have hk1 := Kept.alloc (Kept.refl w) (Obj.cells #[Value.slice s.Ac s.nc s.cc, Value.slice s.Am s.nm s.cm, Value.slice s.Ae s.ne s.ce] 28)
  have HK1 := Lib.hid hk1
  obtain ⟨hle, hbig, hI⟩ := hI
  have HS := Lib.hid (few21 s n A l c (w.alloc (Obj.cells #[Value.slice s.Ac s.nc s.cc, Value.slice s.Am s.nm s.cm, Value.slice s.Ae s.ne s.ce] 28)) (hN.kept hk1) ⟨hle, hbig⟩)
  have hbx := box_cell w #[Value.slice s.Ac s.nc s.cc, Value.slice s.Am s.nm s.cm, Value.slice s.Ae s.ne s.ce] 28
  have x0 : (w.alloc (Obj.cells #[Value.slice s.Ac s.nc s.cc, Value.slice s.Am s.nm s.cm, Value.slice s.Ae s.ne s.ce] 28)).cell? ⟨w.heap.size, 0, none⟩ = some (.slice s.Ac s.nc s.cc) := hbx 0
  have x1 : (w.alloc (Obj.cells #[Value.slice s.Ac s.nc s.cc, Value.slice s.Am s.nm s.cm, Value.slice s.Ae s.ne s.ce] 28)).cell? ⟨w.heap.size, 1, none⟩ = some (.slice s.Am s.nm s.cm) := hbx 1
  have x2 : (w.alloc (Obj.cells #[Value.slice s.Ac s.nc s.cc, Value.slice s.Am s.nm s.cm, Value.slice s.Ae s.ne s.ce] 28)).cell? ⟨w.heap.size, 2, none⟩ = some (.slice s.Ae s.ne s.ce) := hbx 2
  have HX0 := Lib.hid x0
  have HX1 := Lib.hid x1
  have HX2 := Lib.hid x2
  have HN := Lib.hid hN
  have HI := Lib.hid hI
  have HB := Lib.hid (And.intro hle hbig)
  clear hN hG hk1 hbx x0 x1 x2 hI hle hbig
  cases hsm : (smallB n && decide (l ≤ 40))
  · rw [hsm] at HS
    clear hsm
    unfold Sls.val at *
    go_enter Tryd.func6, Tryd.ntmps6
    go_wp2_with fail
    refine HS.out.mono ?_
    rintro e w1 ⟨rfl, k1⟩
    have HA := Lib.hid (alive21 w1 (HG.out.kept (Kept.trans HK1.out k1)))
    go_wp2_with fail
    refine HA.out.mono ?_
    rintro e w2 ⟨rfl, k2⟩
    go_wp2_with fail
    go_ret
    exact ⟨rfl, Kept.trans HK1.out (Kept.trans k1 k2)⟩
  · rw [hsm] at HS
    obtain ⟨hsb, hl40⟩ := (Bool.and_eq_true _ _).mp hsm
    have hl40 := of_decide_eq_true hl40
    have HNA := Lib.hid (HN.out.small hsb)
    clear hsm hsb
    have HXL := Lib.hid HI.out.1
    have e0 := textOf_length n false xs
    have e1 := textOf_length n true xs
    have e2 := kinds_text n xs
    have HT0 := Lib.hid (fun w' (hk : Kept w w') => text_any s n A l c xs false w' (HNA.out.kept hk) (HG.out.kept hk) (by omega) (HI.out.kept hk))
    have HT2 := Lib.hid (fun w' (hk : Kept w w') => text_any s n A l c xs true w' (HNA.out.kept hk) (HG.out.kept hk) (by omega) (HI.out.kept hk))
    have HT1 := Lib.hid (fun w' A2 n2 c2 (hk : Kept w w') (h2 : n2 ≤ 10000) (hI2 : Ints w' A2 n2 (textOf n false xs)) => text_any s n A2 n2 c2 _ true w' (HNA.out.kept hk) (HG.out.kept hk) h2 hI2)
    rw [e2] at HT1
    rw [HXL.out] at hl40
    have HL0 := Lib.hid (show (textOf n false xs).length ≤ 10000 by omega)
    have HL1 := Lib.hid (show (textOf n true xs).length ≤ 10000 by omega)
    clear e0 e1 e2
    generalize textOf n false xs = X0 at *
    generalize textOf n true xs = X1 at *
    have HEQ := Lib.hid (r01_same X1)
    clear hl40
    unfold Sls.val at *
    go_enter Tryd.func6, Tryd.ntmps6
    go_wp2_with fail
    refine HS.out.mono ?_
    rintro e w1 ⟨rfl, k1⟩
    have p0 := Kept.cell k1 HX0.out
    have p1 := Kept.cell k1 HX1.out
    have p2 := Kept.cell k1 HX2.out
    have K1 := Lib.hid (Kept.trans HK1.out (Kept.drew k1))
    go_wp2_with fail
    go_region_held3 (fun w' => w'.cell? ⟨w.heap.size, 0, none⟩ = some (.slice s.Ac s.nc s.cc) ∧ w'.cell? ⟨w.heap.size, 1, none⟩ = some (.slice s.Am s.nm s.cm) ∧ w'.cell? ⟨w.heap.size, 2, none⟩ = some (.slice s.Ae s.ne s.ce)) (first | exact ⟨u0, u1, u2⟩ | exact ⟨t0, t1, t2⟩ | exact ⟨o0, o1, o2⟩ | exact ⟨r0, r1, r2⟩ | exact ⟨q0, q1, q2⟩ | exact ⟨p0, p1, p2⟩)
      (first
        | (go_at_call 12; refine (alive21 _ (HG.out.kept K5.out)).mono ?_; rintro e w6 ⟨rfl, k6⟩; have u0 := Kept.cell k6 t0; have u1 := Kept.cell k6 t1; have u2 := Kept.cell k6 t2; have K6 := Lib.hid (Kept.trans K5.out k6))
        | (go_at_call 14; refine (HEQ.out A3 A4 n3 n4 c3 c4 _ HL1.out I3b.out I4.out).mono ?_; rintro e w5 ⟨rfl, k5⟩; have t0 := Kept.cell k5 o0; have t1 := Kept.cell k5 o1; have t2 := Kept.cell k5 o2; have K5 := Lib.hid (Kept.trans K4.out k5))
        | (go_at_call 22; refine (HT2.out _ K3.out).mono ?_; rintro e w4 ⟨A4, n4, c4, rfl, le4, i4, k4⟩; have I4 := Lib.hid i4; have I3b := Lib.hid (I3.out.kept k4); clear i4; have o0 := Kept.cell k4 r0; have o1 := Kept.cell k4 r1; have o2 := Kept.cell k4 r2; have K4 := Lib.hid (Kept.trans K3.out k4))
        | (go_at_call 22; refine (HT1.out _ A2 n2 c2 K2.out (by rw [I2.out.1]; exact HL0.out) I2.out).mono ?_; rintro e w3 ⟨A3, n3, c3, rfl, le3, i3, k3⟩; have I3 := Lib.hid i3; clear i3; have r0 := Kept.cell k3 q0; have r1 := Kept.cell k3 q1; have r2 := Kept.cell k3 q2; have K3 := Lib.hid (Kept.trans K2.out k3))
        | (go_at_call 22; refine (HT0.out _ K1.out).mono ?_; rintro e w2 ⟨A2, n2, c2, rfl, le2, i2, k2⟩; have I2 := Lib.hid i2; clear i2; have q0 := Kept.cell k2 p0; have q1 := Kept.cell k2 p1; have q2 := Kept.cell k2 p2; have K2 := Lib.hid (Kept.trans K1.out k2)))
    go_wp2_with fail
    go_ret
    exact ⟨rfl, K6.out⟩
end Go.Proofs.YtobcaploncgnbaaDoor
