/- law39.IdentRanges. -/
import Derived.Test.YtmlcdohldkgcdaaGreatDoorKSq
import Derived.Test.YtmlcdohldkgcdaaGreatDoorKLawLongest39
namespace Go.Proofs.YtmlcdohldkgcdaaGreatDoor
open Go Go.RowKit
set_option maxRecDepth 100000 in
set_option maxHeartbeats 4000000 in
theorem law_ranges39 (i : Ids) (r : IdR) (A : Option Addr) (l c : Nat) (xs : List Int) (w : World) (hI : IdIn w i r) (hl : l ≤ c ∧ c ≤ 9223372036854775807 ∧ Ints w A l xs) (hG : Glob w) : Calls Tryz.prog 7 #[i.val, .slice A l c] w (RetB w true) := by
  have hk0_ := Kept.alloc (Kept.refl w) (Obj.cells #[Value.slice i.As i.ns i.cs, Value.slice i.Ac i.nc i.cc, Value.slice i.Am i.nm i.cm] 54)
  have HK1 := Lib.hid hk0_
  have hb0_ := (box_block w (Obj.cells #[Value.slice i.As i.ns i.cs, Value.slice i.Ac i.nc i.cc, Value.slice i.Am i.nm i.cm] 54))
  have x0_ := cell_of_block (i := 0) hb0_ rfl
  have x1_ := cell_of_block (i := 1) hb0_ rfl
  have x2_ := cell_of_block (i := 2) hb0_ rfl
  simp only [s4_, s5_, s6_] at x0_ x1_ x2_
  have HX0 := Lib.hid x0_
  have HX1 := Lib.hid x1_
  have HX2 := Lib.hid x2_
  have HB0 := Lib.hid hb0_
  clear x0_ x1_ x2_ hb0_
  obtain ⟨hle, hc, hT⟩ := hl
  have HF := Lib.hid (few39 i r A l c _ (hI.kept HK1.out) ⟨hle, hc⟩)
  have HAL := Lib.hid (fun w' (hk : Kept w w') => alive39 w' (hG.kept hk))
  have HXL := Lib.hid hT.1
  cases hf : (smallI r && decide (l ≤ 40))
  · rw [hf] at HF
    clear hf hI hT hG hk0_
    unfold Ids.val at *
    have p0 := HX0.out
    have p1 := HX1.out
    have p2 := HX2.out
    go_enter Tryz.func7, Tryz.ntmps7
    go_wp2_with fail
    refine HF.out.mono ?_
    rintro e w1 ⟨rfl, k1⟩
    clear p0 p1 p2
    have K1 := Lib.hid (Kept.trans HK1.out k1)
    go_wp2_with fail
    refine (HAL.out _ K1.out).mono ?_
    rintro e w2 ⟨rfl, k2⟩
    go_wp2_with fail
    go_ret
    exact ⟨rfl, Kept.trans K1.out k2⟩
  · rw [hf] at HF
    obtain ⟨hs, hl40⟩ : smallI r = true ∧ l ≤ 40 := by simpa using hf
    have HSP := Lib.hid (fun w' (hk : Kept w w') => isplit_any i r A l c xs w' (hI.kept hk) hs (by omega) hle (hT.kept hk))
    have HVS := Lib.hid (fun lo hi w' (h1 : lo ≤ hi) (h2 : hi ≤ l) (hk : Kept w w') => idvalid_any i r (dropA A c lo) (hi - lo) (c - lo) ((xs.drop lo).take (hi - lo)) w' (hI.kept hk) hs (by omega) (Ints.front_ (Ints.drop_ (hT.kept hk) (by omega) hle) (by omega)))
    have HHAS := Lib.hid (fun x w' (hk : Kept w w') => setHas i.As i.ns i.cs r.st x w' (by have := (hI.len hs).1; omega) (hI.st.kept hk))
    have HINT := Lib.hid hT
    have HHD := Lib.hid (fun q R rest h => split_head (c := r.c) r.bp xs xs.length q (by omega) R rest h)
    have HNI := Lib.hid (fun q h => split_none (c := r.c) r.bp xs (q := q) h)
    have HSV := Lib.hid (fun k => scan_spec (c := r.c) r.bp (xs.drop k))
    clear hf hI hT hG hk0_ hs
    unfold Ids.val at *
    have p0 := HX0.out
    have p1 := HX1.out
    have p2 := HX2.out
    go_enter Tryz.func7, Tryz.ntmps7
    go_wp2_with fail
    refine HF.out.mono ?_
    rintro e w1 ⟨rfl, k1⟩
    clear p0 p1 p2
    have KB1 := Lib.hid k1
    clear k1
    have p0 := Kept.cell KB1.out HX0.out
    have p1 := Kept.cell KB1.out HX1.out
    have p2 := Kept.cell KB1.out HX2.out
    go_wp2_with fail
    refine (HSP.out _ (Kept.trans HK1.out KB1.out)).mono ?_
    rintro e w2 ⟨A2, n2, c2, rfl, le2, i2, k2⟩
    clear p0 p1 p2
    have KB2 := Lib.hid (Kept.trans KB1.out k2)
    have I2 := Lib.hid i2
    have HN2 := Lib.hid i2.1
    clear k2 i2
    have hn2 : n2 ≤ 40 := by have h := splitF_len (b := r.b) (p := r.p) (c := r.c) xs.length 0 xs; have h1 := HN2.out; have h2 := HXL.out; unfold splitL at h1; omega
    go_wp2_with fail
    go_loopw [6, 7] (fun a v wr => ∃ k q : Nat, v = .int .i64 k ∧ a = .int .i64 q ∧ q ≤ l ∧ ((k ≤ n2 ∧ splitF r.b r.p r.c xs.length q (xs.drop q) = (splitL r.b r.p r.c xs).drop k) ∨ k = n2 + 1) ∧ Kept w2 wr) (fun _ v _ => n2 + 1 - (intOf v).toNat)
    case atStart => exact ⟨0, 0, rfl, rfl, Nat.zero_le _, .inl ⟨Nat.zero_le _, rfl⟩, Kept.refl _⟩
    case round =>
      obtain ⟨k, q, rfl, rfl, hq, hst, hkw⟩ := hrel
      have KW := Lib.hid hkw
      clear hkw
      rcases hst with ⟨hk, hst⟩ | hst
      · have hk1 : (k : Int) ≤ (n2 : Int) := by omega
        by_cases hlt : k < n2
        · have hk2 : (k : Int) < (n2 : Int) := by omega
          obtain ⟨br, or_, R, hA2, hR, c0, c1⟩ := rng_at I2.out hlt
          rw [drop_some hR] at hst
          obtain ⟨i0, e0, h1, h2, hqi, he0, hie, he1, hrest, hno⟩ := HHD.out q R _ hst
          have hva := (HSV.out i0).2.2.1 (by rw [← he1]; exact he0)
          rw [← he1] at hva
          obtain ⟨h, hh⟩ : ∃ h : Nat, h = i0 + e0 := ⟨_, rfl⟩
          rw [← Int.natCast_add, ← hh] at h2
          rw [← hh] at hie hrest
          rw [show e0 = h - i0 by omega] at hva
          rw [h1] at c0
          rw [h2] at c1
          have HNO := Lib.hid hno
          have HRS := Lib.hid hrest
          have hie' : h ≤ l := by rw [HXL.out]; exact hie
          have HIE := Lib.hid (show i0 ≤ l ∧ h ≤ l ∧ i0 < h by omega)
          rw [hA2]
          have HA2 := Lib.hid hA2
          have HVX := Lib.hid (fun w' (hk : Kept w w') => HVS.out i0 h w' (by omega) hie' hk)
          rw [hva] at HVX
          have HQI := Lib.hid hqi
          have c0 := Kept.cell KW.out c0
          have c1 := Kept.cell KW.out c1
          have hrs := fun w => run_sub A l c i0 h (by omega) (by omega) w
          have hq1 : decide ((i0 : Int) < (q : Int)) = false := decide_eq_false (by omega)
          have hq2 : decide ((h : Int) ≤ (i0 : Int)) = false := decide_eq_false (by omega)
          have hq3 : decide ((h : Int) > (l : Int)) = false := decide_eq_false (by omega)
          have hq4 : decide ((l : Int) < (h : Int)) = false := decide_eq_false (by omega)
          have hn1 : decide (i0 < q) = false := decide_eq_false (by omega)
          have hn2' : decide (h ≤ i0) = false := decide_eq_false (by omega)
          have hn3 : decide (l < h) = false := decide_eq_false (by omega)
          clear hst h1 h2 hno hrest hva he1 hA2 hR hie hqi he0 hh hie'
          have p0 := Kept.cell (Kept.trans KB2.out KW.out) HX0.out
          have p1 := Kept.cell (Kept.trans KB2.out KW.out) HX1.out
          have p2 := Kept.cell (Kept.trans KB2.out KW.out) HX2.out
          go_wp2_with fail
          refine wp_region_held_drew (S := (fun w' => w'.cell? ⟨w.heap.size, 0, none⟩ = some (.slice i.As i.ns i.cs) ∧ w'.cell? ⟨w.heap.size, 1, none⟩ = some (.slice i.Ac i.nc i.cc) ∧ w'.cell? ⟨w.heap.size, 2, none⟩ = some (.slice i.Am i.nm i.cm) ∧ w'.cell? ⟨br, or_ + k * 2, none⟩ = some (.int .i64 (i0 : Int)) ∧ w'.cell? ⟨br, or_ + k * 2 + 1, none⟩ = some (.int .i64 (h : Int)))) (by kernel_rfl) ⟨p0, p1, p2, c0, c1⟩ (fun hHeld => ?_)
          refine tk_ 0 ?_ rfl ?_; refine tk_ 1 ?_ rfl ?_; refine tk_ 2 ?_ rfl ?_; refine tk_ 3 ?_ rfl ?_; refine tk_ 4 ?_ rfl ?_; refine tk_ 5 ?_ rfl ?_; refine tk_ 6 ?_ rfl ?_; refine tk_ 7 ?_ rfl ?_; refine tk_ 8 ?_ rfl ?_; refine tk_ 9 ?_ rfl ?_; refine tk_ 10 ?_ rfl ?_; refine tk_ 11 ?_ rfl ?_
          refine wpAnyH_done (by kernel_rfl) ?_ _
          go_wp2_with fail
          obtain ⟨wd, hwd⟩ : ∃ wd, wd = wr.drew := ⟨_, rfl⟩
          have KD := Lib.hid (show Kept wr wd by rw [hwd]; exact Kept.drew (Kept.refl _))
          rw [← hwd]
          clear hwd
          have q0 := Kept.cell KD.out p0
          have q1 := Kept.cell KD.out p1
          have q2 := Kept.cell KD.out p2
          clear p0 p1 p2 c0 c1
          refine wp_region_held_drew (S := (fun w' => w'.cell? ⟨w.heap.size, 0, none⟩ = some (.slice i.As i.ns i.cs) ∧ w'.cell? ⟨w.heap.size, 1, none⟩ = some (.slice i.Ac i.nc i.cc) ∧ w'.cell? ⟨w.heap.size, 2, none⟩ = some (.slice i.Am i.nm i.cm))) (by kernel_rfl) ⟨q0, q1, q2⟩ (fun hHeld => ?_)
          refine tk_ 0 ?_ rfl ?_; refine tk_ 1 ?_ rfl ?_; refine tk_ 2 ?_ rfl ?_; refine tk_ 3 ?_ rfl ?_; refine tk_ 4 ?_ rfl ?_; refine tk_ 5 ?_ rfl ?_; refine tk_ 6 ?_ rfl ?_; refine tk_ 7 ?_ rfl ?_; refine tk_ 8 ?_ rfl ?_; refine tk_ 9 ?_ rfl ?_; refine tk_ 10 ?_ rfl ?_; refine tk_ 11 ?_ rfl ?_; refine tk_ 12 ?_ rfl ?_; refine tk_ 13 ?_ rfl ?_; refine tk_ 14 ?_ rfl ?_; refine tk_ 15 ?_ rfl ?_; refine tk_ 16 ?_ rfl ?_; refine tk_ 17 ?_ rfl ?_; refine tk_ 18 ?_ rfl ?_; refine tk_ 19 ?_ rfl ?_
          refine rd_ 20 rfl (fun K hK => ?_)
          go_simp
          (refine (HVX.out _ (Kept.trans HK1.out (Kept.trans KB2.out (Kept.trans KW.out (Kept.trans KD.out (Kept.drew (Kept.refl _))))))).mono ?_; rintro e w3 ⟨rfl, k3⟩; have K3 := Lib.hid (Kept.trans (Kept.drew (Kept.refl wd)) k3); clear k3)
          go_wp2_with fail
          refine hK.out _ _ ⟨Kept.cell K3.out q0, Kept.cell K3.out q1, Kept.cell K3.out q2⟩ (fun hHeld => ?_)
          clear hK K
          (try simp only [Act.put, s1_, s2_, s3_, s4_, s5_, s6_])
          refine tk_ 21 ?_ rfl ?_; refine tk_ 22 ?_ rfl ?_
          refine wpAnyH_done (by kernel_rfl) ?_ _
          clear q0 q1 q2 hrs hq1 hq2 hq3 hq4 hn1 hn2' hn3
          have KX := Lib.hid (Kept.trans KW.out (Kept.trans KD.out K3.out))
          go_wp2_with fail
          go_loopw [6] (fun a ws => ∃ j : Nat, q ≤ j ∧ j ≤ i0 ∧ a = .int .i64 j ∧ Kept w2 ws) (fun a _ => i0 - (intOf a).toNat)
          case atStart => exact ⟨q, Nat.le_refl _, HQI.out, rfl, KX.out⟩
          case round =>
            obtain ⟨j, hj1, hj2, rfl, hkw⟩ := hrel
            have KV := Lib.hid hkw
            clear hkw
            by_cases hjl : j < i0
            · have hjn : (j : Int) < (i0 : Int) := by omega
              obtain ⟨b1, o1, x, hA, hx, cx⟩ := int_at (HINT.out.kept (Kept.trans HK1.out (Kept.trans KB2.out KV.out))) (i := j) (by have := HIE.out; omega)
              have hb : hasR r.st x = false := HNO.out j x hj1 hjl hx
              have hjl2 : j < l := by have := HIE.out; omega
              have hjl3 : (j : Int) < (l : Int) := by omega
              have HHX := Lib.hid (HHAS.out x)
              rw [hb] at HHX
              rw [hA]
              have HA := Lib.hid hA
              clear hb hx hA
              have p0 := Kept.cell (Kept.trans KB2.out KV.out) HX0.out
              have p1 := Kept.cell (Kept.trans KB2.out KV.out) HX1.out
              have p2 := Kept.cell (Kept.trans KB2.out KV.out) HX2.out
              go_wp2_with fail
              refine wp_region_held_drew (S := (fun w' => w'.cell? ⟨w.heap.size, 0, none⟩ = some (.slice i.As i.ns i.cs) ∧ w'.cell? ⟨w.heap.size, 1, none⟩ = some (.slice i.Ac i.nc i.cc) ∧ w'.cell? ⟨w.heap.size, 2, none⟩ = some (.slice i.Am i.nm i.cm) ∧ w'.cell? ⟨b1, o1 + j, none⟩ = some (.int .i64 x))) (by kernel_rfl) ⟨p0, p1, p2, cx⟩ (fun hHeld => ?_)
              refine tk_ 0 ?_ rfl ?_; refine tk_ 1 ?_ rfl ?_; refine tk_ 2 ?_ rfl ?_; refine tk_ 3 ?_ rfl ?_; refine tk_ 4 ?_ rfl ?_; refine tk_ 5 ?_ rfl ?_
              refine rd_ 6 rfl (fun K hK => ?_)
              go_simp
              (refine (HHX.out _ (Kept.trans HK1.out (Kept.trans KB2.out (Kept.trans KV.out (Kept.drew (Kept.refl _)))))).mono ?_; rintro e w4 ⟨rfl, k4⟩; have K4 := Lib.hid (Kept.trans (Kept.drew (Kept.refl wr)) k4); clear k4)
              go_wp2_with fail
              refine hK.out _ _ ⟨Kept.cell K4.out p0, Kept.cell K4.out p1, Kept.cell K4.out p2, Kept.cell K4.out cx⟩ (fun hHeld => ?_)
              clear hK K
              (try simp only [Act.put, s1_, s2_, s3_, s4_, s5_, s6_])
              refine wpAnyH_done (by kernel_rfl) ?_ _
              clear p0 p1 p2 cx hjl3
              go_wp2_with fail
              go_roundw
              case rel => exact ⟨j + 1, by omega, by omega, by go_num, Kept.trans KV.out K4.out⟩
              case measure => simp [intOf]; omega
            · have hjn : ¬ (j : Int) < (i0 : Int) := by omega
              go_wp2_with fail
              go_roundw
              case rel => exact ⟨k + 1, h, by go_num, rfl, HIE.out.2.1, .inl ⟨by omega, HRS.out.symm⟩, KV.out⟩
              case measure => simp [intOf]; omega
        · have hk2 : ¬ (k : Int) < (n2 : Int) := by omega
          have hkn : k = n2 := by omega
          have hnil : splitF r.b r.p r.c xs.length q (xs.drop q) = [] := by rw [hst, List.drop_of_length_le (by have := HN2.out; omega)]
          have HNO := Lib.hid (HNI.out q hnil)
          have KX := KW
          have HKN := Lib.hid hkn
          clear hst hnil hkn
          go_wp2_with fail
          go_loopw [6] (fun a ws => ∃ j : Nat, q ≤ j ∧ j ≤ l ∧ a = .int .i64 j ∧ Kept w2 ws) (fun a _ => l - (intOf a).toNat)
          case atStart => exact ⟨q, Nat.le_refl _, hq, rfl, KX.out⟩
          case round =>
            obtain ⟨j, hj1, hj2, rfl, hkw⟩ := hrel
            have KV := Lib.hid hkw
            clear hkw
            by_cases hjl : j < l
            · have hjn : (j : Int) < (l : Int) := by omega
              obtain ⟨b1, o1, x, hA, hx, cx⟩ := int_at (HINT.out.kept (Kept.trans HK1.out (Kept.trans KB2.out KV.out))) (i := j) (by omega)
              have hb : hasR r.st x = false := HNO.out j x hj1 hx
              have hjl2 : j < l := by omega
              have hjl3 : (j : Int) < (l : Int) := by omega
              have HHX := Lib.hid (HHAS.out x)
              rw [hb] at HHX
              rw [hA]
              have HA := Lib.hid hA
              clear hb hx hA
              have p0 := Kept.cell (Kept.trans KB2.out KV.out) HX0.out
              have p1 := Kept.cell (Kept.trans KB2.out KV.out) HX1.out
              have p2 := Kept.cell (Kept.trans KB2.out KV.out) HX2.out
              go_wp2_with fail
              refine wp_region_held_drew (S := (fun w' => w'.cell? ⟨w.heap.size, 0, none⟩ = some (.slice i.As i.ns i.cs) ∧ w'.cell? ⟨w.heap.size, 1, none⟩ = some (.slice i.Ac i.nc i.cc) ∧ w'.cell? ⟨w.heap.size, 2, none⟩ = some (.slice i.Am i.nm i.cm) ∧ w'.cell? ⟨b1, o1 + j, none⟩ = some (.int .i64 x))) (by kernel_rfl) ⟨p0, p1, p2, cx⟩ (fun hHeld => ?_)
              refine tk_ 0 ?_ rfl ?_; refine tk_ 1 ?_ rfl ?_; refine tk_ 2 ?_ rfl ?_; refine tk_ 3 ?_ rfl ?_; refine tk_ 4 ?_ rfl ?_; refine tk_ 5 ?_ rfl ?_
              refine rd_ 6 rfl (fun K hK => ?_)
              go_simp
              (refine (HHX.out _ (Kept.trans HK1.out (Kept.trans KB2.out (Kept.trans KV.out (Kept.drew (Kept.refl _)))))).mono ?_; rintro e w4 ⟨rfl, k4⟩; have K4 := Lib.hid (Kept.trans (Kept.drew (Kept.refl wr)) k4); clear k4)
              go_wp2_with fail
              refine hK.out _ _ ⟨Kept.cell K4.out p0, Kept.cell K4.out p1, Kept.cell K4.out p2, Kept.cell K4.out cx⟩ (fun hHeld => ?_)
              clear hK K
              (try simp only [Act.put, s1_, s2_, s3_, s4_, s5_, s6_])
              refine wpAnyH_done (by kernel_rfl) ?_ _
              clear p0 p1 p2 cx hjl3
              go_wp2_with fail
              go_roundw
              case rel => exact ⟨j + 1, by omega, by omega, by go_num, Kept.trans KV.out K4.out⟩
              case measure => simp [intOf]; omega
            · have hjn : ¬ (j : Int) < (l : Int) := by omega
              go_wp2_with fail
              go_roundw
              case rel => exact ⟨k + 1, l, by go_num, rfl, Nat.le_refl _, .inr (by have := HKN.out; omega), KV.out⟩
              case measure => simp [intOf]; omega
      · have hk1 : ¬ (k : Int) ≤ (n2 : Int) := by omega
        go_wp2_with fail
        refine (HAL.out _ (Kept.trans HK1.out (Kept.trans KB2.out KW.out))).mono ?_
        rintro e w4 ⟨rfl, k4⟩
        go_wp2_with fail
        go_ret
        exact ⟨rfl, Kept.trans HK1.out (Kept.trans KB2.out (Kept.trans KW.out k4))⟩
end Go.Proofs.YtmlcdohldkgcdaaGreatDoor
