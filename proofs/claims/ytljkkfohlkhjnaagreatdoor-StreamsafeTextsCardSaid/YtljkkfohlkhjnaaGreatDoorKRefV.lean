/- The reference's Text of layer 27. -/
import Derived.Test.YtljkkfohlkhjnaaGreatDoorKRgx
import Derived.Test.YtljkkfohlkhjnaaGreatDoorKSag
namespace Go.Proofs.YtljkkfohlkhjnaaGreatDoor
open Go Go.RowKit

theorem edgU_ok {n : Nrm} (hd : decCheck n = 0) (c : Int) : edgU n c = edgN n c := by unfold edgU edgN; rw [usable_ok hd]

set_option maxRecDepth 100000 in
set_option maxHeartbeats 4000000 in
theorem r27text (s : Sls) (n : Nrm) (most : Int) (A : Option Addr) (nt ct : Nat) (text : List Int) (w : World) (hN : NormAt w s n) (htag : ∀ m ∈ n.decomp, m.tag.size ≤ 1000) (_hx : I64 most) (hnt : nt ≤ 1000) (hT : Ints w A nt text) :
    Calls Tryz.prog 15 #[s.val, .int .i64 most, .slice A nt ct] w (RetInts w (ssText n most text)) := by
  have hk1 := Kept.alloc (Kept.refl w) (Obj.cells #[Value.slice s.Ac s.nc s.cc, Value.slice s.Am s.nm s.cm, Value.slice s.Ae s.ne s.ce] 28)
  have hbx := box_cell w #[Value.slice s.Ac s.nc s.cc, Value.slice s.Am s.nm s.cm, Value.slice s.Ae s.ne s.ce] 28
  have x0 : (w.alloc (Obj.cells #[Value.slice s.Ac s.nc s.cc, Value.slice s.Am s.nm s.cm, Value.slice s.Ae s.ne s.ce] 28)).cell? ⟨w.heap.size, 0, none⟩ = some (.slice s.Ac s.nc s.cc) := hbx 0
  have x1 : (w.alloc (Obj.cells #[Value.slice s.Ac s.nc s.cc, Value.slice s.Am s.nm s.cm, Value.slice s.Ae s.ne s.ce] 28)).cell? ⟨w.heap.size, 1, none⟩ = some (.slice s.Am s.nm s.cm) := hbx 1
  have x2 : (w.alloc (Obj.cells #[Value.slice s.Ac s.nc s.cc, Value.slice s.Am s.nm s.cm, Value.slice s.Ae s.ne s.ce] 28)).cell? ⟨w.heap.size, 2, none⟩ = some (.slice s.Ae s.ne s.ce) := hbx 2
  have HX0 := Lib.hid x0
  have HX1 := Lib.hid x1
  have HX2 := Lib.hid x2
  have HK1 := Lib.hid hk1
  have HCK := Lib.hid (r27check s n most _ (hN.kept hk1) htag)
  have HNUM := Lib.hid (fun c w' (hk : Kept w w') => r27numbers s n c w' (hN.kept hk) htag)
  have HT := Lib.hid hT
  have HTL := Lib.hid hT.1
  clear hN htag hk1 hbx x0 x1 x2 hT
  by_cases h : ssCheck n most = 0
  · have HR := Lib.hid (ssText_ok h text)
    obtain ⟨hm1, hm2, hd, _, _⟩ := ssCheck_zero h
    have HD := Lib.hid hd
    have HEU := Lib.hid (edgU_ok hd)
    rw [h] at HCK
    clear h hd
    unfold Sls.val at *
    go_enter Tryz.func15, Tryz.ntmps15
    go_wp2_with fail
    refine HCK.out.mono ?_
    rintro e w2 ⟨rfl, k2⟩
    have HP0 := Lib.hid (Kept.cell k2 HX0.out)
    have HP1 := Lib.hid (Kept.cell k2 HX1.out)
    have HP2 := Lib.hid (Kept.cell k2 HX2.out)
    have K2 := Lib.hid (Kept.trans HK1.out k2)
    obtain ⟨base, hbase⟩ : ∃ base : Nat, base = w2.heap.size := ⟨_, rfl⟩
    have HBASE := Lib.hid hbase
    clear hbase
    go_wp2_with fail
    go_loopw [7, 8, 9] (fun p q i wr => ∃ k cnt : Nat, k ≤ nt ∧ i = .int .i64 k ∧ q = .int .i64 cnt ∧ cnt = ssCount (edgN n) most 0 (text.take k) ∧ cnt ≤ 64 * k ∧ OwnI wr base p (ssFrom (edgN n) most 0 (text.take k)) ∧ Kept w2 wr) (fun _ _ i _ => nt - (intOf i).toNat)
    case atStart => exact ⟨0, 0, Nat.zero_le _, rfl, rfl, rfl, Nat.zero_le _, (World.ownsRow_nil _ _ _ _ : OwnI w2 base (.slice none 0 0) []), Kept.refl _⟩
    case round =>
      obtain ⟨k, cnt, hk, rfl, rfl, hcnt, hcl, hown, hkw⟩ := hrel
      have HOW := Lib.hid hown
      have HKW := Lib.hid hkw
      have KW := Lib.hid (Kept.trans K2.out hkw)
      have hszr := hkw.size
      have hbw : base ≤ wr.heap.size := by have := HBASE.out; omega
      have q0 := Kept.cell hkw HP0.out
      have q1 := Kept.cell hkw HP1.out
      have q2 := Kept.cell hkw HP2.out
      clear hown hkw
      by_cases hlt : k < nt
      · obtain ⟨b, off, y, hA, hy, cy0⟩ := int_at (HT.out.kept K2.out) hlt
        have HCY0 := Lib.hid cy0
        have cy := Kept.cell HKW.out cy0
        clear cy0
        have HSF := Lib.hid (show ssFrom (edgN n) most 0 (text.take (k + 1)) = _ by rw [take_succ_some hy, ssFrom_snoc])
        have HSC := Lib.hid (show ssCount (edgN n) most 0 (text.take (k + 1)) = _ by rw [take_succ_some hy, ssCount_snoc])
        have hsl := (ss_len (E := edgN n) (most := most) (text.take k) 0).2
        have htl : (text.take k).length ≤ k := List.length_take_le _ _
        obtain ⟨hle1, htr1⟩ := edgN_le HD.out y
        have HNY := Lib.hid (HNUM.out y wr.drew (Kept.drew KW.out))
        rw [HEU.out] at HNY
        obtain ⟨le, tr, op, hed⟩ : ∃ le tr op, edgN n y = ⟨le, tr, op⟩ := ⟨_, _, _, rfl⟩
        rw [hed] at hle1 htr1 HSF HSC HNY
        rw [← hcnt] at HSF HSC
        clear hed hcnt hy
        generalize ssFrom (edgN n) most 0 (text.take k) = L at *
        simp only at hle1 htr1
        unfold RetEdg at HNY
        simp only at HNY
        subst hA
        go_wp2_with fail
        go_region_held3 (fun w' => w'.cell? ⟨w.heap.size, 0, none⟩ = some (.slice s.Ac s.nc s.cc) ∧ w'.cell? ⟨w.heap.size, 1, none⟩ = some (.slice s.Am s.nm s.cm) ∧ w'.cell? ⟨w.heap.size, 2, none⟩ = some (.slice s.Ae s.ne s.ce) ∧ w'.cell? ⟨b, off + k, none⟩ = some (.int .i64 y)) (first | exact ⟨r0, r1, r2, r3⟩ | exact ⟨q0, q1, q2, cy⟩)
          (first
            | (go_at_call 19; refine HNY.out.mono ?_; rintro e w4 ⟨rfl, k4⟩; have r0 := Kept.cell k4 q0; have r1 := Kept.cell k4 q1; have r2 := Kept.cell k4 q2; have r3 := Kept.cell k4 cy))
        have cy4 : w4.cell? ⟨b, off + k, none⟩ = some (.int .i64 y) := r3
        have K4 := Lib.hid (Kept.trans (Kept.drew HKW.out) k4)
        have HO4 := Lib.hid (own_kept (own_kept HOW.out (Kept.drew (Kept.refl wr))) k4)
        have hsz4 : wr.heap.size ≤ w4.heap.size := k4.size
        have hw1 : IntKind.i64.wrap ((cnt : Int) + (le : Int)) = (cnt : Int) + (le : Int) := IntWalk.i64_in _ (by omega)
        clear q0 q1 q2 cy r0 r1 r2 r3
        by_cases h1 : cnt = 0
        · subst h1
          have HFT := Lib.hid (show fitsE most ⟨le, tr, op⟩ 0 = true by simp [fitsE])
          cases op
          · have hka := Kept.alloc (Kept.refl w4) (Obj.cells #[Value.int IntKind.i64 y] 3)
            have HKA := Lib.hid hka
            clear hka
            go_wp2_with (at_builtin; refine app_ints rfl _ _ rfl base _ _ rfl (by exact own_kept HO4.out HKA.out) _ _ _ [y] rfl (by exact Ints.alloc_ (xs := [y]) rfl rfl) (by simp; omega) (by simp; omega) ?_; intro v5 w5 hown5 hgrow5 hat5)
            have K5 : Hid (Kept w2 w5) := Lib.hid ((Kept.trans K4.out HKA.out).grown hgrow5 (by simp; omega) (fun q e => by have := (World.ownsRow.lt HOW.out q e).1; have := HBASE.out; omega))
            go_wp2_with fail
            go_roundw
            case rel => exact ⟨k + 1, tr, by omega, by go_num, by go_num, by rw [HSC.out, HFT.out]; simp [nxtE], by omega, by rw [HSF.out, HFT.out]; simpa using hown5, K5.out⟩
            case measure => simp [intOf]; omega
          · have hka := Kept.alloc (Kept.refl w4) (Obj.cells #[Value.int IntKind.i64 y] 3)
            have HKA := Lib.hid hka
            clear hka
            go_wp2_with (at_builtin; refine app_ints rfl _ _ rfl base _ _ rfl (by exact own_kept HO4.out HKA.out) _ _ _ [y] rfl (by exact Ints.alloc_ (xs := [y]) rfl rfl) (by simp; omega) (by simp; omega) ?_; intro v5 w5 hown5 hgrow5 hat5)
            have K5 : Hid (Kept w2 w5) := Lib.hid ((Kept.trans K4.out HKA.out).grown hgrow5 (by simp; omega) (fun q e => by have := (World.ownsRow.lt HOW.out q e).1; have := HBASE.out; omega))
            go_wp2_with fail
            go_roundw
            case rel => exact ⟨k + 1, 0 + le, by omega, by go_num, by go_num, by rw [HSC.out, HFT.out]; simp [nxtE], by omega, by rw [HSF.out, HFT.out]; simpa using hown5, K5.out⟩
            case measure => simp [intOf]; omega
        · have hc1 : (0 : Int) < (cnt : Int) := by omega
          by_cases h2 : le = 0
          · have hl0 : ¬ ((0 : Int) < (le : Int)) := by omega
            have HFT := Lib.hid (show fitsE most ⟨le, tr, op⟩ cnt = true by simp [fitsE, h2])
            cases op
            · have hka := Kept.alloc (Kept.refl w4) (Obj.cells #[Value.int IntKind.i64 y] 3)
              have HKA := Lib.hid hka
              clear hka
              go_wp2_with (at_builtin; refine app_ints rfl _ _ rfl base _ _ rfl (by exact own_kept HO4.out HKA.out) _ _ _ [y] rfl (by exact Ints.alloc_ (xs := [y]) rfl rfl) (by simp; omega) (by simp; omega) ?_; intro v5 w5 hown5 hgrow5 hat5)
              have K5 : Hid (Kept w2 w5) := Lib.hid ((Kept.trans K4.out HKA.out).grown hgrow5 (by simp; omega) (fun q e => by have := (World.ownsRow.lt HOW.out q e).1; have := HBASE.out; omega))
              go_wp2_with fail
              go_roundw
              case rel => exact ⟨k + 1, tr, by omega, by go_num, by go_num, by rw [HSC.out, HFT.out]; simp [nxtE], by omega, by rw [HSF.out, HFT.out]; simpa using hown5, K5.out⟩
              case measure => simp [intOf]; omega
            · have hka := Kept.alloc (Kept.refl w4) (Obj.cells #[Value.int IntKind.i64 y] 3)
              have HKA := Lib.hid hka
              clear hka
              go_wp2_with (at_builtin; refine app_ints rfl _ _ rfl base _ _ rfl (by exact own_kept HO4.out HKA.out) _ _ _ [y] rfl (by exact Ints.alloc_ (xs := [y]) rfl rfl) (by simp; omega) (by simp; omega) ?_; intro v5 w5 hown5 hgrow5 hat5)
              have K5 : Hid (Kept w2 w5) := Lib.hid ((Kept.trans K4.out HKA.out).grown hgrow5 (by simp; omega) (fun q e => by have := (World.ownsRow.lt HOW.out q e).1; have := HBASE.out; omega))
              go_wp2_with fail
              go_roundw
              case rel => exact ⟨k + 1, cnt + le, by omega, by go_num, by go_num, by rw [HSC.out, HFT.out]; simp [nxtE], by omega, by rw [HSF.out, HFT.out]; simpa using hown5, K5.out⟩
              case measure => simp [intOf]; omega
          · have hl0 : (0 : Int) < (le : Int) := by omega
            by_cases h3 : (cnt : Int) + (le : Int) ≤ most
            · have hs0 : ¬ (most < (cnt : Int) + (le : Int)) := by omega
              have HFT := Lib.hid (show fitsE most ⟨le, tr, op⟩ cnt = true by simp [fitsE]; omega)
              cases op
              · have hka := Kept.alloc (Kept.refl w4) (Obj.cells #[Value.int IntKind.i64 y] 3)
                have HKA := Lib.hid hka
                clear hka
                go_wp2_with (at_builtin; refine app_ints rfl _ _ rfl base _ _ rfl (by exact own_kept HO4.out HKA.out) _ _ _ [y] rfl (by exact Ints.alloc_ (xs := [y]) rfl rfl) (by simp; omega) (by simp; omega) ?_; intro v5 w5 hown5 hgrow5 hat5)
                have K5 : Hid (Kept w2 w5) := Lib.hid ((Kept.trans K4.out HKA.out).grown hgrow5 (by simp; omega) (fun q e => by have := (World.ownsRow.lt HOW.out q e).1; have := HBASE.out; omega))
                go_wp2_with fail
                go_roundw
                case rel => exact ⟨k + 1, tr, by omega, by go_num, by go_num, by rw [HSC.out, HFT.out]; simp [nxtE], by omega, by rw [HSF.out, HFT.out]; simpa using hown5, K5.out⟩
                case measure => simp [intOf]; omega
              · have hka := Kept.alloc (Kept.refl w4) (Obj.cells #[Value.int IntKind.i64 y] 3)
                have HKA := Lib.hid hka
                clear hka
                go_wp2_with (at_builtin; refine app_ints rfl _ _ rfl base _ _ rfl (by exact own_kept HO4.out HKA.out) _ _ _ [y] rfl (by exact Ints.alloc_ (xs := [y]) rfl rfl) (by simp; omega) (by simp; omega) ?_; intro v5 w5 hown5 hgrow5 hat5)
                have K5 : Hid (Kept w2 w5) := Lib.hid ((Kept.trans K4.out HKA.out).grown hgrow5 (by simp; omega) (fun q e => by have := (World.ownsRow.lt HOW.out q e).1; have := HBASE.out; omega))
                go_wp2_with fail
                go_roundw
                case rel => exact ⟨k + 1, cnt + le, by omega, by go_num, by go_num, by rw [HSC.out, HFT.out]; simp [nxtE], by omega, by rw [HSF.out, HFT.out]; simpa using hown5, K5.out⟩
                case measure => simp [intOf]; omega
            · have hs0 : most < (cnt : Int) + (le : Int) := by omega
              have HFT := Lib.hid (show fitsE most ⟨le, tr, op⟩ cnt = false by simp [fitsE]; omega)
              cases op
              · have hka := Kept.alloc (Kept.refl w4) (Obj.cells #[Value.int IntKind.i64 847] 3)
                have HKA := Lib.hid hka
                have cyj := Kept.cell hka cy4
                clear hka
                go_wp2_with (first
                  | (at_builtin; refine app_ints rfl _ _ rfl base _ _ rfl (by exact own_kept hown5 HKB.out) _ _ _ [y] rfl (by exact Ints.alloc_ (xs := [y]) rfl rfl) (by simp; omega) (by simp; omega) ?_; intro v6 w6 hown6 hgrow6 hat6)
                  | (at_builtin; refine app_ints rfl _ _ rfl base _ _ rfl (by exact own_kept HO4.out HKA.out) _ _ _ [847] rfl (by exact Ints.alloc_ (xs := [847]) rfl rfl) (by simp; omega) (by simp; omega) ?_; intro v5 w5 hown5 hgrow5 hat5; have hs5 := hgrow5.size; have K5 : Hid (Kept w2 w5) := Lib.hid ((Kept.trans K4.out HKA.out).grown hgrow5 (by simp; omega) (fun q e => by have := (World.ownsRow.lt HOW.out q e).1; have := HBASE.out; omega)); have HKB := Lib.hid (Kept.alloc (Kept.refl w5) (Obj.cells #[Value.int IntKind.i64 y] 3)); have cy5 := Kept.cell K5.out HCY0.out; have hs5' : base ≤ w5.heap.size := by (have := K5.out.size; have := HBASE.out; omega)))
                have K6 : Hid (Kept w2 w6) := Lib.hid ((Kept.trans K5.out HKB.out).grown hgrow6 (by have := K5.out.size; simp; omega) (fun q e => by have := (World.ownsRow.lt hown5 q e).1; have := HBASE.out; omega))
                go_wp2_with fail
                go_roundw
                case rel => exact ⟨k + 1, tr, by omega, by go_num, by go_num, by rw [HSC.out, HFT.out]; simp [nxtE], by omega, by rw [HSF.out, HFT.out]; simpa using hown6, K6.out⟩
                case measure => simp [intOf]; omega
              · have hka := Kept.alloc (Kept.refl w4) (Obj.cells #[Value.int IntKind.i64 847] 3)
                have HKA := Lib.hid hka
                have cyj := Kept.cell hka cy4
                clear hka
                go_wp2_with (first
                  | (at_builtin; refine app_ints rfl _ _ rfl base _ _ rfl (by exact own_kept hown5 HKB.out) _ _ _ [y] rfl (by exact Ints.alloc_ (xs := [y]) rfl rfl) (by simp; omega) (by simp; omega) ?_; intro v6 w6 hown6 hgrow6 hat6)
                  | (at_builtin; refine app_ints rfl _ _ rfl base _ _ rfl (by exact own_kept HO4.out HKA.out) _ _ _ [847] rfl (by exact Ints.alloc_ (xs := [847]) rfl rfl) (by simp; omega) (by simp; omega) ?_; intro v5 w5 hown5 hgrow5 hat5; have hs5 := hgrow5.size; have K5 : Hid (Kept w2 w5) := Lib.hid ((Kept.trans K4.out HKA.out).grown hgrow5 (by simp; omega) (fun q e => by have := (World.ownsRow.lt HOW.out q e).1; have := HBASE.out; omega)); have HKB := Lib.hid (Kept.alloc (Kept.refl w5) (Obj.cells #[Value.int IntKind.i64 y] 3)); have cy5 := Kept.cell K5.out HCY0.out; have hs5' : base ≤ w5.heap.size := by (have := K5.out.size; have := HBASE.out; omega)))
                have K6 : Hid (Kept w2 w6) := Lib.hid ((Kept.trans K5.out HKB.out).grown hgrow6 (by have := K5.out.size; simp; omega) (fun q e => by have := (World.ownsRow.lt hown5 q e).1; have := HBASE.out; omega))
                go_wp2_with fail
                go_roundw
                case rel => exact ⟨k + 1, le, by omega, by go_num, by go_num, by rw [HSC.out, HFT.out]; simp [nxtE], by omega, by rw [HSF.out, HFT.out]; simpa using hown6, K6.out⟩
                case measure => simp [intOf]; omega
      · have hfull : text.take k = text := List.take_of_length_le (by have := HTL.out; omega)
        have hown := HOW.out
        rw [hfull, ← HR.out] at hown
        obtain ⟨R, hRR⟩ : ∃ R : List Int, R = ssText n most text := ⟨_, rfl⟩
        rw [← hRR] at hown
        have HRR := Lib.hid hRR
        obtain ⟨A4, c4, hu, hle4, hI4⟩ := OwnI.sl hown
        clear hown hfull hRR hcnt
        subst hu
        go_wp2_with fail
        go_ret
        exact ⟨A4, _, c4, rfl, hle4, by rw [← HRR.out]; exact hI4, KW.out⟩
  · have hb : (ssCheck n most != 0) = true := by simp [h]
    have HR := Lib.hid (ssText_bad h text)
    clear h
    unfold Sls.val at *
    go_enter Tryz.func15, Tryz.ntmps15
    go_wp2_with fail
    refine HCK.out.mono ?_
    rintro e w1 ⟨rfl, k1⟩
    have K1 := Lib.hid (Kept.trans HK1.out k1)
    obtain ⟨base, hbase⟩ : ∃ base : Nat, base = w1.heap.size := ⟨_, rfl⟩
    have hka := Kept.alloc (Kept.refl w1) (Obj.cells #[] 3)
    have HKA := Lib.hid (Kept.trans K1.out hka)
    have HOE := Lib.hid (own_nil (base := base) (g := w1.heap.size) (w := w1.alloc (Obj.cells #[] 3)) (alloc_at rfl) (by omega))
    have HIa := Lib.hid ((HT.out.kept K1.out).kept hka)
    have hsa : (w1.alloc (Obj.cells #[] 3)).heap.size = base + 1 := by simp [hbase]
    have hbw : w.heap.size ≤ base := by rw [hbase]; exact K1.out.size
    clear hbase hka
    go_wp2_with (at_builtin; refine app_ints rfl _ _ rfl base _ _ rfl HOE.out _ _ _ text rfl HIa.out (by have := HIa.out.1; simp; omega) (by rw [hsa]; omega) ?_; intro v6 w6 hown6 hgrow6 hat6)
    have K6 := Lib.hid (HKA.out.grown hgrow6 (by rw [hsa]; omega) (fun q e => by have := (World.ownsRow.lt HOE.out q e).1; omega))
    obtain ⟨A6, c6, rfl, hle6, hI6⟩ := OwnI.sl hown6
    go_wp2_with fail
    go_ret
    exact ⟨A6, _, c6, rfl, hle6, by rw [HR.out]; simpa using hI6, K6.out⟩
end Go.Proofs.YtljkkfohlkhjnaaGreatDoor
