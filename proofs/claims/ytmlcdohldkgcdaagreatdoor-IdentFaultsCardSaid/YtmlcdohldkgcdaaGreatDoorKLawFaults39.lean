/- law39.IdentFaults. -/
import Derived.Deep.RegionHeld3
import Derived.Test.YtmlcdohldkgcdaaGreatDoorKSq
import Derived.Test.YtmlcdohldkgcdaaGreatDoorKAll39
import Derived.Test.YtmlcdohldkgcdaaGreatDoorKNthB
import Derived.Test.YtmlcdohldkgcdaaGreatDoorKRefAK
namespace Go.Proofs.YtmlcdohldkgcdaaGreatDoor
open Go Go.RowKit
theorem nth_has {R : List Rng} {x : Rng} {t : List Rng} (h : makeR R = x :: t) : hasR R x.lo = true ∧ 0 ≤ x.lo ∧ x.lo ≤ 1114111 := by
  obtain ⟨h1, h2, h3⟩ := canon_bounds (makeR_spec R).1 (show x ∈ makeR R by rw [h]; exact List.mem_cons_self ..)
  refine ⟨?_, h1, by omega⟩
  rw [← has_make, h]
  exact List.any_eq_true.2 ⟨x, List.mem_cons_self .., by simp [inR, validB, h1, h2]; omega⟩
theorem own_emptyB {w : World} {base g : Nat} (h : w.heap[g]? = some (.cells #[] 3 (0, 0))) (hb : base ≤ g) : OwnI w base (.slice (some ⟨g, 0, none⟩) 0 0) [] :=
  ⟨rfl, .inr ⟨g, 0, #[], rfl, hb, h, Nat.le_refl _, Nat.zero_le _, rfl, rfl⟩⟩
set_option maxRecDepth 100000 in
set_option maxHeartbeats 4000000 in
theorem law_faults39 (s : Sls) (n : Nrm) (k : Cas) (r : CasR) (i : Ids) (ir : IdR) (A : Option Addr) (l c : Nat) (xs : List Int) (cp fo : Bool) (w : World) (hN : NormIn w s n) (hC : CasIn w k r) (hI : IdIn w i ir) (hl : l ≤ c ∧ c ≤ 9223372036854775807 ∧ Ints w A l xs) (hG : Glob w) : Calls Tryz.prog 10 #[.agg #[.slice s.Ac s.nc s.cc, .slice s.Am s.nm s.cm, .slice s.Ae s.ne s.ce, .slice k.A1 k.n1 k.c1, .slice k.A2 k.n2 k.c2, .slice k.A3 k.n3 k.c3, .slice k.A4 k.n4 k.c4, .slice k.A5 k.n5 k.c5, .slice k.A6 k.n6 k.c6, .slice i.As i.ns i.cs, .slice i.Ac i.nc i.cc, .slice i.Am i.nm i.cm, .slice A l c, .bool cp, .bool fo]] w (RetB w true) := by
  have hk0_ := Kept.alloc (Kept.refl w) (Obj.cells #[Value.slice s.Ac s.nc s.cc, Value.slice s.Am s.nm s.cm, Value.slice s.Ae s.ne s.ce, Value.slice k.A1 k.n1 k.c1, Value.slice k.A2 k.n2 k.c2, Value.slice k.A3 k.n3 k.c3, Value.slice k.A4 k.n4 k.c4, Value.slice k.A5 k.n5 k.c5, Value.slice k.A6 k.n6 k.c6, Value.slice i.As i.ns i.cs, Value.slice i.Ac i.nc i.cc, Value.slice i.Am i.nm i.cm, Value.slice A l c, Value.bool cp, Value.bool fo] 62)
  have HK1 := Lib.hid hk0_
  have hb0_ := (box_block w (Obj.cells #[Value.slice s.Ac s.nc s.cc, Value.slice s.Am s.nm s.cm, Value.slice s.Ae s.ne s.ce, Value.slice k.A1 k.n1 k.c1, Value.slice k.A2 k.n2 k.c2, Value.slice k.A3 k.n3 k.c3, Value.slice k.A4 k.n4 k.c4, Value.slice k.A5 k.n5 k.c5, Value.slice k.A6 k.n6 k.c6, Value.slice i.As i.ns i.cs, Value.slice i.Ac i.nc i.cc, Value.slice i.Am i.nm i.cm, Value.slice A l c, Value.bool cp, Value.bool fo] 62))
  have x0_ := cell_of_block (i := 0) hb0_ rfl
  have x1_ := cell_of_block (i := 1) hb0_ rfl
  have x2_ := cell_of_block (i := 2) hb0_ rfl
  have x3_ := cell_of_block (i := 3) hb0_ rfl
  have x4_ := cell_of_block (i := 4) hb0_ rfl
  have x5_ := cell_of_block (i := 5) hb0_ rfl
  have x6_ := cell_of_block (i := 6) hb0_ rfl
  have x7_ := cell_of_block (i := 7) hb0_ rfl
  have x8_ := cell_of_block (i := 8) hb0_ rfl
  have x9_ := cell_of_block (i := 9) hb0_ rfl
  have x10_ := cell_of_block (i := 10) hb0_ rfl
  have x11_ := cell_of_block (i := 11) hb0_ rfl
  have x12_ := cell_of_block (i := 12) hb0_ rfl
  have x13_ := cell_of_block (i := 13) hb0_ rfl
  have x14_ := cell_of_block (i := 14) hb0_ rfl
  simp only [s4_, s5_, s6_] at x0_ x1_ x2_ x3_ x4_ x5_ x6_ x7_ x8_ x9_ x10_ x11_ x12_ x13_ x14_
  have HX0 := Lib.hid x0_
  have HX1 := Lib.hid x1_
  have HX2 := Lib.hid x2_
  have HX3 := Lib.hid x3_
  have HX4 := Lib.hid x4_
  have HX5 := Lib.hid x5_
  have HX6 := Lib.hid x6_
  have HX7 := Lib.hid x7_
  have HX8 := Lib.hid x8_
  have HX9 := Lib.hid x9_
  have HX10 := Lib.hid x10_
  have HX11 := Lib.hid x11_
  have HX12 := Lib.hid x12_
  have HX13 := Lib.hid x13_
  have HX14 := Lib.hid x14_
  have HB0 := Lib.hid hb0_
  clear x0_ x1_ x2_ x3_ x4_ x5_ x6_ x7_ x8_ x9_ x10_ x11_ x12_ x13_ x14_ hb0_
  obtain ⟨hle, hc, hT⟩ := hl
  have HALL := Lib.hid (all39 s n k r i ir A l c xs cp fo _ (hN.kept HK1.out) (hC.kept HK1.out) (hI.kept HK1.out) ⟨hle, hc⟩ (hT.kept HK1.out))
  have HAL := Lib.hid (fun w' (hk : Kept w w') => alive39 w' (hG.kept hk))
  have HXL := Lib.hid hT.1
  have HNT := Lib.hid (fun w' (hk : Kept w w') (h : i.ns ≤ 100000) => nth_any i.As i.ns i.cs ir.st w' h (hI.st.kept hk))
  have HFM := Lib.hid (fun w' (hk : Kept w w') (h : l ≤ 20) => form_any emptyS emptyN 1 A l c xs w' (emptyS_at _) (hG.kept hk) (by omega) (hT.kept hk))
  have HPL := Lib.hid (show l ≤ 20 → (formOf emptyN 1 xs).length ≤ 1280 from fun h => by have h1 := formOf_length emptyN 1 xs; have h2 := hT.1; omega)
  have HPR := Lib.hid (fun w' (hk : Kept w w') (h : l ≤ 20) (hs : smallI ir = true) => prepare_of false emptyS i ir A l c (formOf emptyN 1 xs) w' (hI.kept hk) hs (by have := HPL.out h; omega) (Lib.hid (fun w2 (hk2 : Kept w' w2) => prep_plain emptyS emptyN A l c xs w2 (emptyS_at _) (hG.kept (Kept.trans hk hk2)) (by omega) (hT.kept (Kept.trans hk hk2)))))
  have HVA := Lib.hid (fun (A' : Option Addr) (n' c' : Nat) (X : List Int) w' (hk : Kept w w') (hs : smallI ir = true) (hn' : n' ≤ 100000) (hX : Ints w' A' n' X) => idvalid_any i ir A' n' c' X w' (hI.kept hk) hs hn' hX)
  have HSN := Lib.hid (fun h => (hI.len h).1)
  clear hN hC hI hT hG hk0_
  unfold Sls.val emptyS at HFM HPR
  unfold Ids.val at *
  dsimp only at HFM HPR
  have p0 := HX0.out
  have p1 := HX1.out
  have p2 := HX2.out
  have p3 := HX3.out
  have p4 := HX4.out
  have p5 := HX5.out
  have p6 := HX6.out
  have p7 := HX7.out
  have p8 := HX8.out
  have p9 := HX9.out
  have p10 := HX10.out
  have p11 := HX11.out
  have p12 := HX12.out
  have p13 := HX13.out
  have p14 := HX14.out
  go_enter Tryz.func10, Tryz.ntmps10
  go_wp2_with fail
  refine HALL.out.mono ?_
  rintro e w1 ⟨b, rfl, hall, k1⟩
  have HA := Lib.hid hall
  have K1 := Lib.hid k1
  clear hall k1
  clear p0 p1 p2 p3 p4 p5 p6 p7 p8 p9 p10 p11 p12 p13 p14
  cases b
  · go_wp2_with fail
    refine (HAL.out _ (Kept.trans HK1.out K1.out)).mono ?_
    rintro e v9 ⟨rfl, k9⟩
    go_wp2_with fail
    go_ret
    exact ⟨rfl, Kept.trans HK1.out (Kept.trans K1.out k9)⟩
  · obtain ⟨hs, hl20⟩ := HA.out rfl
    clear HA
    have hns := HSN.out hs
    rcases Nat.eq_zero_or_pos i.ns with hz | hz
    · have hz1 : ((i.ns : Nat) : Int) = 0 := by omega
      have hz2 : (((i.ns : Nat) : Int) == 0) = true := by simp [hz1]
      have p0 := Kept.cell K1.out HX0.out
      have p1 := Kept.cell K1.out HX1.out
      have p2 := Kept.cell K1.out HX2.out
      have p3 := Kept.cell K1.out HX3.out
      have p4 := Kept.cell K1.out HX4.out
      have p5 := Kept.cell K1.out HX5.out
      have p6 := Kept.cell K1.out HX6.out
      have p7 := Kept.cell K1.out HX7.out
      have p8 := Kept.cell K1.out HX8.out
      have p9 := Kept.cell K1.out HX9.out
      have p10 := Kept.cell K1.out HX10.out
      have p11 := Kept.cell K1.out HX11.out
      have p12 := Kept.cell K1.out HX12.out
      have p13 := Kept.cell K1.out HX13.out
      have p14 := Kept.cell K1.out HX14.out
      clear hz
      go_wp2_with fail
      clear p0 p1 p2 p3 p4 p5 p6 p7 p8 p9 p10 p11 p12 p13 p14
      refine (HAL.out _ (Kept.trans HK1.out K1.out)).mono ?_
      rintro e v9 ⟨rfl, k9⟩
      go_wp2_with fail
      go_ret
      exact ⟨rfl, Kept.trans HK1.out (Kept.trans K1.out k9)⟩
    · have hz1 : ¬ ((i.ns : Nat) : Int) = 0 := by omega
      have hz2 : (((i.ns : Nat) : Int) == 0) = false := by simp; omega
      have p0 := Kept.cell K1.out HX0.out
      have p1 := Kept.cell K1.out HX1.out
      have p2 := Kept.cell K1.out HX2.out
      have p3 := Kept.cell K1.out HX3.out
      have p4 := Kept.cell K1.out HX4.out
      have p5 := Kept.cell K1.out HX5.out
      have p6 := Kept.cell K1.out HX6.out
      have p7 := Kept.cell K1.out HX7.out
      have p8 := Kept.cell K1.out HX8.out
      have p9 := Kept.cell K1.out HX9.out
      have p10 := Kept.cell K1.out HX10.out
      have p11 := Kept.cell K1.out HX11.out
      have p12 := Kept.cell K1.out HX12.out
      have p13 := Kept.cell K1.out HX13.out
      have p14 := Kept.cell K1.out HX14.out
      go_wp2_with fail
      clear hz1 hz2 hz
      refine (HNT.out _ (Kept.trans HK1.out K1.out) (by omega)).mono ?_
      rintro e w2 ⟨hnth, k2⟩
      have K2 := Lib.hid (Kept.trans K1.out k2)
      clear k2
      clear p0 p1 p2 p3 p4 p5 p6 p7 p8 p9 p10 p11 p12 p13 p14
      rcases hnth with hnth | hnth
      · obtain ⟨x, t, hmk, rfl⟩ := hnth
        obtain ⟨hxb, hx0, hx1⟩ := nth_has hmk
        have HXB := Lib.hid hxb
        clear hmk hxb
        have p0 := Kept.cell K2.out HX0.out
        have p1 := Kept.cell K2.out HX1.out
        have p2 := Kept.cell K2.out HX2.out
        have p3 := Kept.cell K2.out HX3.out
        have p4 := Kept.cell K2.out HX4.out
        have p5 := Kept.cell K2.out HX5.out
        have p6 := Kept.cell K2.out HX6.out
        have p7 := Kept.cell K2.out HX7.out
        have p8 := Kept.cell K2.out HX8.out
        have p9 := Kept.cell K2.out HX9.out
        have p10 := Kept.cell K2.out HX10.out
        have p11 := Kept.cell K2.out HX11.out
        have p12 := Kept.cell K2.out HX12.out
        have p13 := Kept.cell K2.out HX13.out
        have p14 := Kept.cell K2.out HX14.out
        go_wp2_with fail
        refine (HFM.out _ (Kept.trans HK1.out K2.out) hl20).mono ?_
        rintro e w3 ⟨A3, n3, c3, rfl, le3, i3, k3⟩
        have I3 := Lib.hid i3
        have K3 := Lib.hid (Kept.trans K2.out k3)
        clear i3 k3
        clear p0 p1 p2 p3 p4 p5 p6 p7 p8 p9 p10 p11 p12 p13 p14
        have p0 := Kept.cell K3.out HX0.out
        have p1 := Kept.cell K3.out HX1.out
        have p2 := Kept.cell K3.out HX2.out
        have p3 := Kept.cell K3.out HX3.out
        have p4 := Kept.cell K3.out HX4.out
        have p5 := Kept.cell K3.out HX5.out
        have p6 := Kept.cell K3.out HX6.out
        have p7 := Kept.cell K3.out HX7.out
        have p8 := Kept.cell K3.out HX8.out
        have p9 := Kept.cell K3.out HX9.out
        have p10 := Kept.cell K3.out HX10.out
        have p11 := Kept.cell K3.out HX11.out
        have p12 := Kept.cell K3.out HX12.out
        have p13 := Kept.cell K3.out HX13.out
        have p14 := Kept.cell K3.out HX14.out
        go_wp2_with fail
        refine (HPR.out _ (Kept.trans HK1.out K3.out) hl20 hs).mono ?_
        rintro e w4 ⟨Q4, q4, d4, rfl, _, _, k4⟩
        have K4 := Lib.hid (Kept.trans K3.out k4)
        have I4 := Lib.hid (I3.out.kept k4)
        clear k4
        clear p0 p1 p2 p3 p4 p5 p6 p7 p8 p9 p10 p11 p12 p13 p14
        have HFS := Lib.hid (fun (sv : Int) (h : ir.b sv = true) => fault_spec (c := ir.c) ir.bp h (formOf emptyN 1 xs))
        have HSS := Lib.hid (scan_spec (c := ir.c) ir.bp (formOf emptyN 1 xs))
        have HTL := Lib.hid (HPL.out hl20)
        have HN3 := Lib.hid I4.out.1
        have hTL := HPL.out hl20
        clear HFM HPR HPL
        generalize formOf emptyN 1 xs = T at *
        generalize idScan ir.b ir.p ir.c T = R at *
        obtain ⟨en, sto⟩ := R
        dsimp only at *
        have hsto : sto ≤ n3 := by rw [HN3.out]; exact HSS.out.2.1
        have hn3 : n3 ≤ 1280 := by rw [HN3.out]; exact hTL
        clear hTL
        by_cases hc0 : en = 0 ∨ en < T.length
        · rw [if_pos hc0, if_pos hc0]
          have HFX := Lib.hid (HFS.out x.lo HXB.out)
          have hnb := heap_alloc_new w4 (Obj.cells #[Value.int .i64 7, Value.int .i64 ((sto : Nat) : Int)] 67)
          have KA := Lib.hid (Kept.alloc K4.out (Obj.cells #[Value.int .i64 7, Value.int .i64 ((sto : Nat) : Int)] 67))
          have IA := Lib.hid (I4.out.kept (Kept.alloc (Kept.refl w4) (Obj.cells #[Value.int .i64 7, Value.int .i64 ((sto : Nat) : Int)] 67)))
          have HFB := Lib.hid hnb
          have hw0 : (w4.alloc (Obj.cells #[Value.int .i64 7, Value.int .i64 ((sto : Nat) : Int)] 67)).heap.size = w4.heap.size + 1 := by simp
          clear hnb hc0
          have hfr := fun w => run_take1 A3 n3 c3 sto (by omega) w
          have hg1 : ¬ ((sto : Nat) : Int) < 0 := by omega
          have hg2 : ¬ ((sto : Nat) : Int) > (n3 : Int) := by omega
          have hg3 : ¬ (n3 : Int) < ((sto : Nat) : Int) := by omega
          have q0 := cell_of_block (i := 0) HFB.out rfl
          have q1 := cell_of_block (i := 1) HFB.out rfl
          simp only [s4_, s5_, s6_] at q0 q1
          have hka := Kept.alloc (Kept.refl (w4.alloc (Obj.cells #[Value.int .i64 7, Value.int .i64 ((sto : Nat) : Int)] 67))) (Obj.cells #[] 3)
          have HKA := Lib.hid hka
          have q0' := Kept.cell hka q0
          have q1' := Kept.cell hka q1
          clear hka
          have ho0 := own_emptyM (w4.alloc (Obj.cells #[Value.int .i64 7, Value.int .i64 ((sto : Nat) : Int)] 67))
          rw [hw0] at ho0
          have HO := Lib.hid ho0
          have HW0 := Lib.hid hw0
          clear ho0 hw0
          have HTK := Lib.hid (show (T.take sto).length ≤ 1280 by rw [List.length_take]; have := HTL.out; omega)
          go_wp2_with (first | (at_builtin; refine app_ints rfl _ _ rfl (w4.heap.size + 1) _ _ rfl (by exact own_kept HO5.out (Kept.alloc (Kept.refl w5) (Obj.cells #[Value.int IntKind.i64 x.lo] 3))) _ _ _ [x.lo] rfl (by exact Ints.alloc_ (xs := [x.lo]) rfl rfl) (by have := HTK.out; simp at this ⊢; omega) (by have := K5.out.size; have := HW0.out; simp at *; omega) ?_; intro v6 w6 hown6 hgrow6 hat6; have K6 := Lib.hid (show Kept (w4.alloc (Obj.cells #[Value.int .i64 7, Value.int .i64 ((sto : Nat) : Int)] 67)) w6 from (Kept.trans K5.out (Kept.alloc (Kept.refl w5) (Obj.cells #[Value.int IntKind.i64 x.lo] 3))).grown hgrow6 (by have := K5.out.size; simp at *; omega) (fun q e => by have h1 := (World.ownsRow.lt HO5.out q e).1; have h2 := HW0.out; omega)); have HO6 := Lib.hid hown6; have p9 := Kept.cell (Kept.trans KA.out K6.out) HX9.out; have p10 := Kept.cell (Kept.trans KA.out K6.out) HX10.out; have p11 := Kept.cell (Kept.trans KA.out K6.out) HX11.out; obtain ⟨A6, c6, rfl, le6, hI6⟩ := OwnI.sl hown6) | (at_builtin; refine app_ints rfl _ _ rfl (w4.heap.size + 1) _ _ rfl (by exact HO.out) _ _ _ (T.take sto) rfl (by exact Ints.front_ (IA.out.kept HKA.out) hsto) (by have := HTK.out; simp at this ⊢; omega) (by simp) ?_; intro v5 w5 hown5 hgrow5 hat5; have HO5 := Lib.hid hown5; have K5 := Lib.hid (show Kept (w4.alloc (Obj.cells #[Value.int .i64 7, Value.int .i64 ((sto : Nat) : Int)] 67)) w5 from HKA.out.grown hgrow5 (by simp) (fun q e => by have h1 := (World.ownsRow.lt HO.out q e).1; have h2 := HW0.out; omega))))
          have e6 : (T.take sto ++ [x.lo]).length = min sto T.length + 1 := by simp
          have IV : Ints w6 A6 (min sto T.length + 1) (T.take sto ++ [x.lo]) := by have h := hI6; rw [List.nil_append, e6] at h; exact h
          have HV1 := Lib.hid (HVA.out A6 _ c6 _ w6 (Kept.trans HK1.out (Kept.trans KA.out K6.out)) hs (by have := HTK.out; rw [List.length_take] at this; omega) IV)
          rw [HFX.out.1] at HV1
          refine HV1.out.mono ?_
          rintro e w7 ⟨rfl, k7⟩
          have K7 := Lib.hid (Kept.trans K6.out k7)
          have KB7 := Lib.hid (Kept.trans KA.out K7.out)
          have I7 := Lib.hid (IA.out.kept K7.out)
          have r1 := Kept.cell K7.out q1
          clear k7 hfr p9 p10 p11 q0 q1 q0' q1' HV1 IV hI6 le6 e6 HO6 hown6 hgrow6 hat6 hown5 hgrow5 hat5 HO5 HO HKA HTK HSS HFS hg1 hg2 hg3
          by_cases hsn : sto = n3
          · have hsn1 : ((sto : Nat) : Int) = (n3 : Int) := by omega
            have hsn2 : (((sto : Nat) : Int) == (n3 : Int)) = true := by simp [hsn1]
            clear hsn
            go_wp2_with fail
            refine (HAL.out _ (Kept.trans HK1.out KB7.out)).mono ?_
            rintro e v9 ⟨rfl, k9⟩
            go_wp2_with fail
            go_ret
            exact ⟨rfl, Kept.trans HK1.out (Kept.trans KB7.out k9)⟩
          · have hsn1 : ¬ ((sto : Nat) : Int) = (n3 : Int) := by omega
            have hsn2 : (((sto : Nat) : Int) == (n3 : Int)) = false := by simp; omega
            have HLT := Lib.hid (show sto + 1 ≤ n3 by omega)
            have hlt := HLT.out
            clear hsn
            have HTK := Lib.hid (show (T.take (sto + 1)).length ≤ 1280 by rw [List.length_take]; have := HTL.out; omega)
            have z9 := Kept.cell KB7.out HX9.out
            have z10 := Kept.cell KB7.out HX10.out
            have z11 := Kept.cell KB7.out HX11.out
            have hfr : ∀ w : World, (Instr.slice 32 (.slice A3 n3 c3) none (some (.int .i64 ((sto : Int) + 1))) none).run Tryz.prog w = .ok (.slice A3 (sto + 1) c3) w := fun w => by have h := run_take1 A3 n3 c3 (sto + 1) (by omega) w; rwa [Int.natCast_add] at h
            have hw1 : IntKind.i64.wrap ((sto : Int) + 1) = (sto : Int) + 1 := IntWalk.i64_in _ (by omega)
            have hw2 : wrap64 ((sto : Int) + 1) = (sto : Int) + 1 := IntWalk.wrap64_in _ (by omega)
            go_wp2_with fail
            clear hsn1 hsn2
            refine wp_region_held_drew (S := (fun w' => w'.cell? ⟨w.heap.size, 9, none⟩ = some (.slice i.As i.ns i.cs) ∧ w'.cell? ⟨w.heap.size, 10, none⟩ = some (.slice i.Ac i.nc i.cc) ∧ w'.cell? ⟨w.heap.size, 11, none⟩ = some (.slice i.Am i.nm i.cm) ∧ w'.cell? ⟨w4.heap.size, 1, none⟩ = some (.int .i64 ((sto : Nat) : Int)))) (by kernel_rfl) ⟨z9, z10, z11, r1⟩ (fun hHeld => ?_)
            refine tk_ 0 ?_ rfl ?_; refine tk_ 1 ?_ rfl ?_; refine tk_ 3 ?_ rfl ?_; refine tk_ 4 ?_ rfl ?_; refine tk_ 5 ?_ rfl ?_; refine tk_ 6 ?_ rfl ?_; refine tk_ 7 ?_ rfl ?_; refine tk_ 9 ?_ rfl ?_
            clear hw1 hw2 hfr hlt
            refine wpAnyH_ready (rs := [2, 10]) (by kernel_rfl) (by simp) ?_
            refine AllReadyH.cons rfl (fun K hK => ?_) (AllReadyH.cons rfl (fun K hK => ?_) AllReadyH.nil)
            · go_simp
              have KC2 := Lib.hid (Kept.alloc (Kept.drew (Kept.refl w7)) (Obj.cells #[] 3))
              have OW2 := Lib.hid (show OwnI (w7.drew.alloc (Obj.cells #[] 3)) w7.heap.size (.slice (some ⟨w7.heap.size, 0, none⟩) 0 0) [] from own_emptyB (alloc_at (by simp)) (by omega))
              refine hK.out _ _ ⟨Kept.cell KC2.out z9, Kept.cell KC2.out z10, Kept.cell KC2.out z11, Kept.cell KC2.out r1⟩ (fun hHeld => ?_)
              clear hK K
              (try simp only [Act.put, s1_, s2_, s3_, s4_, s5_, s6_])
              refine wpAnyH_ready (rs := [8, 10]) (by kernel_rfl) (by simp) ?_
              refine AllReadyH.cons rfl (fun K hK => ?_) (AllReadyH.cons rfl (fun K hK => ?_) AllReadyH.nil)
              · refine step_app_ints (by rfl) (.tmp 82) (.tmp 87) (by rfl) w7.heap.size _ _ (by rfl) OW2.out _ _ _ (T.take (sto + 1)) (by rfl) (Ints.front_ (I7.out.kept KC2.out) HLT.out) (by have := HTK.out; simp only [List.length_nil]; omega) (KC2.out).size ?_
                intro v8 w8 hown8 hgrow8 hat8
                have KC8 := Lib.hid (show Kept w7 w8 from (KC2.out).grown hgrow8 (KC2.out).size (fun q e => (World.ownsRow.lt OW2.out q e).1))
                have OW8 := Lib.hid hown8
                refine hK.out _ _ ⟨Kept.cell KC8.out z9, Kept.cell KC8.out z10, Kept.cell KC8.out z11, Kept.cell KC8.out r1⟩ (fun hHeld => ?_)
                clear hK K
                (try simp only [Act.put, s1_, s2_, s3_, s4_, s5_, s6_])
                refine rd_ 10 rfl (fun K hK => ?_)
                go_simp
                have KC10 := Lib.hid (Kept.alloc KC8.out (Obj.cells #[Value.int IntKind.i64 x.lo] 3))
                have IE := Lib.hid (show Ints (w8.alloc (Obj.cells #[Value.int IntKind.i64 x.lo] 3)) (some ⟨w8.heap.size, 0, none⟩) 1 [x.lo] from Ints.alloc_ (xs := [x.lo]) rfl rfl)
                have OW9 := Lib.hid (own_kept OW8.out (Kept.alloc (Kept.refl w8) (Obj.cells #[Value.int IntKind.i64 x.lo] 3)))
                clear hown8 hgrow8 hat8
                refine hK.out _ _ ⟨Kept.cell KC10.out z9, Kept.cell KC10.out z10, Kept.cell KC10.out z11, Kept.cell KC10.out r1⟩ (fun hHeld => ?_)
                clear hK K
                (try simp only [Act.put, s1_, s2_, s3_, s4_, s5_, s6_])
                refine rd_ 11 rfl (fun K hK => ?_)
                refine step_app_ints (by rfl) (.tmp 88) (.tmp 90) (by rfl) w7.heap.size _ _ (by rfl) OW9.out _ _ _ [x.lo] (by rfl) IE.out (by have := HTK.out; simp only [List.nil_append, List.length_singleton]; omega) (KC10.out).size ?_
                intro v11 w11 hown11 hgrow11 hat11
                have KC11 := Lib.hid (show Kept w7 w11 from (KC10.out).grown hgrow11 (KC10.out).size (fun q e => (World.ownsRow.lt OW9.out q e).1))
                obtain ⟨A11, c11, hv11, le11, hI11⟩ := OwnI.sl hown11
                obtain ⟨m11, hm11⟩ : ∃ m11 : Nat, m11 = ([] ++ T.take (sto + 1) ++ [x.lo]).length := ⟨_, rfl⟩
                rw [← hm11] at hv11 hI11
                subst hv11
                rw [List.nil_append] at hI11
                have hm12 : m11 ≤ 100000 := by have := HTK.out; rw [hm11]; simp only [List.nil_append, List.length_append, List.length_singleton]; omega
                have HV2 := Lib.hid (HVA.out A11 m11 c11 _ w11 (Kept.trans HK1.out (Kept.trans KB7.out KC11.out)) hs hm12 hI11)
                rw [HFX.out.2 (by have := HLT.out; rw [← HN3.out]; omega)] at HV2
                clear hown11 hgrow11 hat11 hI11 hm11 hm12 le11
                refine hK.out _ _ ⟨Kept.cell KC11.out z9, Kept.cell KC11.out z10, Kept.cell KC11.out z11, Kept.cell KC11.out r1⟩ (fun hHeld => ?_)
                clear hK K
                (try simp only [Act.put, s1_, s2_, s3_, s4_, s5_, s6_])
                refine rd_ 12 rfl (fun K hK => ?_)
                go_simp
                (refine HV2.out.mono ?_; rintro e w12 ⟨rfl, k12⟩; have KC12 := Lib.hid (Kept.trans KC11.out k12); clear k12)
                go_wp2_with fail
                refine hK.out _ _ ⟨Kept.cell KC12.out z9, Kept.cell KC12.out z10, Kept.cell KC12.out z11, Kept.cell KC12.out r1⟩ (fun hHeld => ?_)
                clear hK K
                (try simp only [Act.put, s1_, s2_, s3_, s4_, s5_, s6_])
                refine tk_ 13 ?_ rfl ?_; refine tk_ 14 ?_ rfl ?_
                refine rd_ 15 rfl (fun K hK => ?_)
                go_simp
                (refine (HAL.out _ (Kept.trans HK1.out (Kept.trans KB7.out KC12.out))).mono ?_; rintro e w15 ⟨rfl, k15⟩; have KC15 := Lib.hid (Kept.trans KC12.out k15); clear k15)
                go_wp2_with fail
                refine hK.out _ _ ⟨Kept.cell KC15.out z9, Kept.cell KC15.out z10, Kept.cell KC15.out z11, Kept.cell KC15.out r1⟩ (fun hHeld => ?_)
                clear hK K
                (try simp only [Act.put, s1_, s2_, s3_, s4_, s5_, s6_])
                refine tk_ 16 ?_ rfl ?_; refine tk_ 17 ?_ rfl ?_
                refine wpAnyH_done (by kernel_rfl) ?_ _
                go_wp2_with fail
                go_ret
                exact ⟨rfl, Kept.trans HK1.out (Kept.trans KB7.out KC15.out)⟩
              · go_simp
                have KC10 := Lib.hid (Kept.alloc KC2.out (Obj.cells #[Value.int IntKind.i64 x.lo] 3))
                have IE := Lib.hid (show Ints ((w7.drew.alloc (Obj.cells #[] 3)).alloc (Obj.cells #[Value.int IntKind.i64 x.lo] 3)) (some ⟨w7.heap.size + 1, 0, none⟩) 1 [x.lo] from Ints.alloc_ (xs := [x.lo]) (by simp) rfl)
                refine hK.out _ _ ⟨Kept.cell KC10.out z9, Kept.cell KC10.out z10, Kept.cell KC10.out z11, Kept.cell KC10.out r1⟩ (fun hHeld => ?_)
                clear hK K
                (try simp only [Act.put, s1_, s2_, s3_, s4_, s5_, s6_])
                have OW3 := Lib.hid (own_kept OW2.out (Kept.alloc (Kept.refl (w7.drew.alloc (Obj.cells #[] 3))) (Obj.cells #[Value.int IntKind.i64 x.lo] 3)))
                refine rd_ 8 rfl (fun K hK => ?_)
                refine step_app_ints (by rfl) (.tmp 82) (.tmp 87) (by rfl) w7.heap.size _ _ (by rfl) OW3.out _ _ _ (T.take (sto + 1)) (by rfl) (Ints.front_ (I7.out.kept KC10.out) HLT.out) (by have := HTK.out; simp only [List.length_nil]; omega) (KC10.out).size ?_
                intro v8 w8 hown8 hgrow8 hat8
                have KC8 := Lib.hid (show Kept w7 w8 from (KC10.out).grown hgrow8 (KC10.out).size (fun q e => (World.ownsRow.lt OW3.out q e).1))
                have OW8 := Lib.hid hown8
                have IE8 := Lib.hid (show Ints w8 (some ⟨w7.heap.size + 1, 0, none⟩) 1 [x.lo] from Ints.grown IE.out hgrow8 (fun g e a ha => by injection ha with ha; subst ha; simp [Value.ownBlock] at e; simp; omega))
                clear hown8 hgrow8 hat8
                refine hK.out _ _ ⟨Kept.cell KC8.out z9, Kept.cell KC8.out z10, Kept.cell KC8.out z11, Kept.cell KC8.out r1⟩ (fun hHeld => ?_)
                clear hK K
                (try simp only [Act.put, s1_, s2_, s3_, s4_, s5_, s6_])
                refine rd_ 11 rfl (fun K hK => ?_)
                refine step_app_ints (by rfl) (.tmp 88) (.tmp 90) (by rfl) w7.heap.size _ _ (by rfl) OW8.out _ _ _ [x.lo] (by rfl) IE8.out (by have := HTK.out; simp only [List.nil_append, List.length_singleton]; omega) (KC8.out).size ?_
                intro v11 w11 hown11 hgrow11 hat11
                have KC11 := Lib.hid (show Kept w7 w11 from (KC8.out).grown hgrow11 (KC8.out).size (fun q e => (World.ownsRow.lt OW8.out q e).1))
                obtain ⟨A11, c11, hv11, le11, hI11⟩ := OwnI.sl hown11
                obtain ⟨m11, hm11⟩ : ∃ m11 : Nat, m11 = ([] ++ T.take (sto + 1) ++ [x.lo]).length := ⟨_, rfl⟩
                rw [← hm11] at hv11 hI11
                subst hv11
                rw [List.nil_append] at hI11
                have hm12 : m11 ≤ 100000 := by have := HTK.out; rw [hm11]; simp only [List.nil_append, List.length_append, List.length_singleton]; omega
                have HV2 := Lib.hid (HVA.out A11 m11 c11 _ w11 (Kept.trans HK1.out (Kept.trans KB7.out KC11.out)) hs hm12 hI11)
                rw [HFX.out.2 (by have := HLT.out; rw [← HN3.out]; omega)] at HV2
                clear hown11 hgrow11 hat11 hI11 hm11 hm12 le11
                refine hK.out _ _ ⟨Kept.cell KC11.out z9, Kept.cell KC11.out z10, Kept.cell KC11.out z11, Kept.cell KC11.out r1⟩ (fun hHeld => ?_)
                clear hK K
                (try simp only [Act.put, s1_, s2_, s3_, s4_, s5_, s6_])
                refine rd_ 12 rfl (fun K hK => ?_)
                go_simp
                (refine HV2.out.mono ?_; rintro e w12 ⟨rfl, k12⟩; have KC12 := Lib.hid (Kept.trans KC11.out k12); clear k12)
                go_wp2_with fail
                refine hK.out _ _ ⟨Kept.cell KC12.out z9, Kept.cell KC12.out z10, Kept.cell KC12.out z11, Kept.cell KC12.out r1⟩ (fun hHeld => ?_)
                clear hK K
                (try simp only [Act.put, s1_, s2_, s3_, s4_, s5_, s6_])
                refine tk_ 13 ?_ rfl ?_; refine tk_ 14 ?_ rfl ?_
                refine rd_ 15 rfl (fun K hK => ?_)
                go_simp
                (refine (HAL.out _ (Kept.trans HK1.out (Kept.trans KB7.out KC12.out))).mono ?_; rintro e w15 ⟨rfl, k15⟩; have KC15 := Lib.hid (Kept.trans KC12.out k15); clear k15)
                go_wp2_with fail
                refine hK.out _ _ ⟨Kept.cell KC15.out z9, Kept.cell KC15.out z10, Kept.cell KC15.out z11, Kept.cell KC15.out r1⟩ (fun hHeld => ?_)
                clear hK K
                (try simp only [Act.put, s1_, s2_, s3_, s4_, s5_, s6_])
                refine tk_ 16 ?_ rfl ?_; refine tk_ 17 ?_ rfl ?_
                refine wpAnyH_done (by kernel_rfl) ?_ _
                go_wp2_with fail
                go_ret
                exact ⟨rfl, Kept.trans HK1.out (Kept.trans KB7.out KC15.out)⟩
            · go_simp
              have KC10 := Lib.hid (Kept.alloc (Kept.drew (Kept.refl w7)) (Obj.cells #[Value.int IntKind.i64 x.lo] 3))
              have IE := Lib.hid (show Ints (w7.drew.alloc (Obj.cells #[Value.int IntKind.i64 x.lo] 3)) (some ⟨w7.heap.size, 0, none⟩) 1 [x.lo] from Ints.alloc_ (xs := [x.lo]) (by simp) rfl)
              refine hK.out _ _ ⟨Kept.cell KC10.out z9, Kept.cell KC10.out z10, Kept.cell KC10.out z11, Kept.cell KC10.out r1⟩ (fun hHeld => ?_)
              clear hK K
              (try simp only [Act.put, s1_, s2_, s3_, s4_, s5_, s6_])
              refine rd_ 2 rfl (fun K hK => ?_)
              go_simp
              have KC2 := Lib.hid (Kept.alloc KC10.out (Obj.cells #[] 3))
              have OW2 := Lib.hid (show OwnI ((w7.drew.alloc (Obj.cells #[Value.int IntKind.i64 x.lo] 3)).alloc (Obj.cells #[] 3)) w7.heap.size (.slice (some ⟨w7.heap.size + 1, 0, none⟩) 0 0) [] from own_emptyB (alloc_at (by simp)) (by omega))
              have IE := Lib.hid (IE.out.kept (Kept.alloc (Kept.refl (w7.drew.alloc (Obj.cells #[Value.int IntKind.i64 x.lo] 3))) (Obj.cells #[] 3)))
              refine hK.out _ _ ⟨Kept.cell KC2.out z9, Kept.cell KC2.out z10, Kept.cell KC2.out z11, Kept.cell KC2.out r1⟩ (fun hHeld => ?_)
              clear hK K
              (try simp only [Act.put, s1_, s2_, s3_, s4_, s5_, s6_])
              refine rd_ 8 rfl (fun K hK => ?_)
              refine step_app_ints (by rfl) (.tmp 82) (.tmp 87) (by rfl) w7.heap.size _ _ (by rfl) OW2.out _ _ _ (T.take (sto + 1)) (by rfl) (Ints.front_ (I7.out.kept KC2.out) HLT.out) (by have := HTK.out; simp only [List.length_nil]; omega) (KC2.out).size ?_
              intro v8 w8 hown8 hgrow8 hat8
              have KC8 := Lib.hid (show Kept w7 w8 from (KC2.out).grown hgrow8 (KC2.out).size (fun q e => (World.ownsRow.lt OW2.out q e).1))
              have OW8 := Lib.hid hown8
              have IE8 := Lib.hid (show Ints w8 (some ⟨w7.heap.size, 0, none⟩) 1 [x.lo] from Ints.grown IE.out hgrow8 (fun g e a ha => by injection ha with ha; subst ha; simp [Value.ownBlock] at e; simp; omega))
              clear hown8 hgrow8 hat8
              refine hK.out _ _ ⟨Kept.cell KC8.out z9, Kept.cell KC8.out z10, Kept.cell KC8.out z11, Kept.cell KC8.out r1⟩ (fun hHeld => ?_)
              clear hK K
              (try simp only [Act.put, s1_, s2_, s3_, s4_, s5_, s6_])
              refine rd_ 11 rfl (fun K hK => ?_)
              refine step_app_ints (by rfl) (.tmp 88) (.tmp 90) (by rfl) w7.heap.size _ _ (by rfl) OW8.out _ _ _ [x.lo] (by rfl) IE8.out (by have := HTK.out; simp only [List.nil_append, List.length_singleton]; omega) (KC8.out).size ?_
              intro v11 w11 hown11 hgrow11 hat11
              have KC11 := Lib.hid (show Kept w7 w11 from (KC8.out).grown hgrow11 (KC8.out).size (fun q e => (World.ownsRow.lt OW8.out q e).1))
              obtain ⟨A11, c11, hv11, le11, hI11⟩ := OwnI.sl hown11
              obtain ⟨m11, hm11⟩ : ∃ m11 : Nat, m11 = ([] ++ T.take (sto + 1) ++ [x.lo]).length := ⟨_, rfl⟩
              rw [← hm11] at hv11 hI11
              subst hv11
              rw [List.nil_append] at hI11
              have hm12 : m11 ≤ 100000 := by have := HTK.out; rw [hm11]; simp only [List.nil_append, List.length_append, List.length_singleton]; omega
              have HV2 := Lib.hid (HVA.out A11 m11 c11 _ w11 (Kept.trans HK1.out (Kept.trans KB7.out KC11.out)) hs hm12 hI11)
              rw [HFX.out.2 (by have := HLT.out; rw [← HN3.out]; omega)] at HV2
              clear hown11 hgrow11 hat11 hI11 hm11 hm12 le11
              refine hK.out _ _ ⟨Kept.cell KC11.out z9, Kept.cell KC11.out z10, Kept.cell KC11.out z11, Kept.cell KC11.out r1⟩ (fun hHeld => ?_)
              clear hK K
              (try simp only [Act.put, s1_, s2_, s3_, s4_, s5_, s6_])
              refine rd_ 12 rfl (fun K hK => ?_)
              go_simp
              (refine HV2.out.mono ?_; rintro e w12 ⟨rfl, k12⟩; have KC12 := Lib.hid (Kept.trans KC11.out k12); clear k12)
              go_wp2_with fail
              refine hK.out _ _ ⟨Kept.cell KC12.out z9, Kept.cell KC12.out z10, Kept.cell KC12.out z11, Kept.cell KC12.out r1⟩ (fun hHeld => ?_)
              clear hK K
              (try simp only [Act.put, s1_, s2_, s3_, s4_, s5_, s6_])
              refine tk_ 13 ?_ rfl ?_; refine tk_ 14 ?_ rfl ?_
              refine rd_ 15 rfl (fun K hK => ?_)
              go_simp
              (refine (HAL.out _ (Kept.trans HK1.out (Kept.trans KB7.out KC12.out))).mono ?_; rintro e w15 ⟨rfl, k15⟩; have KC15 := Lib.hid (Kept.trans KC12.out k15); clear k15)
              go_wp2_with fail
              refine hK.out _ _ ⟨Kept.cell KC15.out z9, Kept.cell KC15.out z10, Kept.cell KC15.out z11, Kept.cell KC15.out r1⟩ (fun hHeld => ?_)
              clear hK K
              (try simp only [Act.put, s1_, s2_, s3_, s4_, s5_, s6_])
              refine tk_ 16 ?_ rfl ?_; refine tk_ 17 ?_ rfl ?_
              refine wpAnyH_done (by kernel_rfl) ?_ _
              go_wp2_with fail
              go_ret
              exact ⟨rfl, Kept.trans HK1.out (Kept.trans KB7.out KC15.out)⟩
        · rw [if_neg hc0, if_neg hc0]
          have hnb := heap_alloc_new w4 (Obj.cells #[Value.int .i64 0, Value.int .i64 0] 67)
          have KA := Lib.hid (Kept.alloc K4.out (Obj.cells #[Value.int .i64 0, Value.int .i64 0] 67))
          have q0 := cell_of_block (i := 0) hnb rfl
          have q1 := cell_of_block (i := 1) hnb rfl
          simp only [s4_, s5_, s6_] at q0 q1
          clear hnb hc0
          go_wp2_with fail
          refine (HAL.out _ (Kept.trans HK1.out KA.out)).mono ?_
          rintro e v9 ⟨rfl, k9⟩
          go_wp2_with fail
          go_ret
          exact ⟨rfl, Kept.trans HK1.out (Kept.trans KA.out k9)⟩
      · obtain ⟨_, rfl⟩ := hnth
        have p0 := Kept.cell K2.out HX0.out
        have p1 := Kept.cell K2.out HX1.out
        have p2 := Kept.cell K2.out HX2.out
        have p3 := Kept.cell K2.out HX3.out
        have p4 := Kept.cell K2.out HX4.out
        have p5 := Kept.cell K2.out HX5.out
        have p6 := Kept.cell K2.out HX6.out
        have p7 := Kept.cell K2.out HX7.out
        have p8 := Kept.cell K2.out HX8.out
        have p9 := Kept.cell K2.out HX9.out
        have p10 := Kept.cell K2.out HX10.out
        have p11 := Kept.cell K2.out HX11.out
        have p12 := Kept.cell K2.out HX12.out
        have p13 := Kept.cell K2.out HX13.out
        have p14 := Kept.cell K2.out HX14.out
        go_wp2_with fail
        refine (HFM.out _ (Kept.trans HK1.out K2.out) hl20).mono ?_
        rintro e w3 ⟨A3, n3, c3, rfl, le3, i3, k3⟩
        have I3 := Lib.hid i3
        have K3 := Lib.hid (Kept.trans K2.out k3)
        clear i3 k3
        clear p0 p1 p2 p3 p4 p5 p6 p7 p8 p9 p10 p11 p12 p13 p14
        have p0 := Kept.cell K3.out HX0.out
        have p1 := Kept.cell K3.out HX1.out
        have p2 := Kept.cell K3.out HX2.out
        have p3 := Kept.cell K3.out HX3.out
        have p4 := Kept.cell K3.out HX4.out
        have p5 := Kept.cell K3.out HX5.out
        have p6 := Kept.cell K3.out HX6.out
        have p7 := Kept.cell K3.out HX7.out
        have p8 := Kept.cell K3.out HX8.out
        have p9 := Kept.cell K3.out HX9.out
        have p10 := Kept.cell K3.out HX10.out
        have p11 := Kept.cell K3.out HX11.out
        have p12 := Kept.cell K3.out HX12.out
        have p13 := Kept.cell K3.out HX13.out
        have p14 := Kept.cell K3.out HX14.out
        go_wp2_with fail
        refine (HPR.out _ (Kept.trans HK1.out K3.out) hl20 hs).mono ?_
        rintro e w4 ⟨Q4, q4, d4, rfl, _, _, k4⟩
        have K4 := Lib.hid (Kept.trans K3.out k4)
        have I4 := Lib.hid (I3.out.kept k4)
        clear k4
        clear p0 p1 p2 p3 p4 p5 p6 p7 p8 p9 p10 p11 p12 p13 p14
        have HFS := Lib.hid (fun (sv : Int) (h : ir.b sv = true) => fault_spec (c := ir.c) ir.bp h (formOf emptyN 1 xs))
        have HSS := Lib.hid (scan_spec (c := ir.c) ir.bp (formOf emptyN 1 xs))
        have HTL := Lib.hid (HPL.out hl20)
        have HN3 := Lib.hid I4.out.1
        have hTL := HPL.out hl20
        clear HFM HPR HPL
        generalize formOf emptyN 1 xs = T at *
        generalize idScan ir.b ir.p ir.c T = R at *
        obtain ⟨en, sto⟩ := R
        dsimp only at *
        have hsto : sto ≤ n3 := by rw [HN3.out]; exact HSS.out.2.1
        have hn3 : n3 ≤ 1280 := by rw [HN3.out]; exact hTL
        clear hTL
        by_cases hc0 : en = 0 ∨ en < T.length
        · rw [if_pos hc0, if_pos hc0]
          clear hc0
          go_wp2_with fail
          refine (HAL.out _ (Kept.trans HK1.out (Kept.alloc K4.out (Obj.cells #[Value.int .i64 7, Value.int .i64 ((sto : Nat) : Int)] 67)))).mono ?_
          rintro e v9 ⟨rfl, k9⟩
          go_wp2_with fail
          go_ret
          exact ⟨rfl, Kept.trans HK1.out (Kept.trans (Kept.alloc K4.out (Obj.cells #[Value.int .i64 7, Value.int .i64 ((sto : Nat) : Int)] 67)) k9)⟩
        · rw [if_neg hc0, if_neg hc0]
          have hnb := heap_alloc_new w4 (Obj.cells #[Value.int .i64 0, Value.int .i64 0] 67)
          have KA := Lib.hid (Kept.alloc K4.out (Obj.cells #[Value.int .i64 0, Value.int .i64 0] 67))
          have q0 := cell_of_block (i := 0) hnb rfl
          have q1 := cell_of_block (i := 1) hnb rfl
          simp only [s4_, s5_, s6_] at q0 q1
          clear hnb hc0
          go_wp2_with fail
          refine (HAL.out _ (Kept.trans HK1.out KA.out)).mono ?_
          rintro e v9 ⟨rfl, k9⟩
          go_wp2_with fail
          go_ret
          exact ⟨rfl, Kept.trans HK1.out (Kept.trans KA.out k9)⟩
end Go.Proofs.YtmlcdohldkgcdaaGreatDoor
