/- law39.IdentLongest. -/
import Derived.Deep.RegionHeld3
import Derived.Test.YtmlcdohldkgcdaaGreatDoorKSq
import Derived.Test.YtmlcdohldkgcdaaGreatDoorKAlive39
import Derived.Test.YtmlcdohldkgcdaaGreatDoorKPl64
import Derived.Test.YtmlcdohldkgcdaaGreatDoorKRowI
namespace Go.Proofs.YtmlcdohldkgcdaaGreatDoor
open Go Go.RowKit
theorem run_sub (A : Option Addr) (n c lo hi : Nat) (h1 : lo ≤ hi) (h2 : hi ≤ c) (w : World) :
    (Instr.slice 32 (.slice A n c) (some (.int .i64 (lo : Int))) (some (.int .i64 (hi : Int))) none).run Tryz.prog w = .ok (.slice (dropA A c lo) (hi - lo) (c - lo)) w := by
  rw [run_slice_lh w 32 A n c und_ints .i64 .i64 _ _ (by omega) (by omega) (by omega), size_int]
  simp [Result.andThen, sliced, dropA]
set_option maxRecDepth 100000 in
set_option maxHeartbeats 4000000 in
theorem law_longest39 (i : Ids) (r : IdR) (A : Option Addr) (l c : Nat) (xs : List Int) (w : World) (hI : IdIn w i r) (hl : l ≤ c ∧ c ≤ 9223372036854775807 ∧ Ints w A l xs) (hG : Glob w) : Calls Tryz.prog 8 #[i.val, .slice A l c] w (RetB w true) := by
  have hk0_ := Kept.alloc (Kept.refl w) (Obj.cells #[Value.slice i.As i.ns i.cs, Value.slice i.Ac i.nc i.cc, Value.slice i.Am i.nm i.cm] 54)
  have HK1 := Lib.hid hk0_
  have hb0_ := (box_block w (Obj.cells #[Value.slice i.As i.ns i.cs, Value.slice i.Ac i.nc i.cc, Value.slice i.Am i.nm i.cm] 54))
  have x0_ := cell_of_block (i := 0) hb0_ rfl
  have x1_ := cell_of_block (i := 1) hb0_ rfl
  have x2_ := cell_of_block (i := 2) hb0_ rfl
  simp only [s4_, s5_, s6_] at x0_ x1_ x2_
  have HX0 := Lib.hid x0_
  have HX1 := Lib.hid x1_
  have HX2 := Lib.hid x2_
  have HB0 := Lib.hid hb0_
  clear x0_ x1_ x2_ hb0_
  obtain ⟨hle, hc, hT⟩ := hl
  have HF := Lib.hid (few39 i r A l c _ (hI.kept HK1.out) ⟨hle, hc⟩)
  have HAL := Lib.hid (fun w' (hk : Kept w w') => alive39 w' (hG.kept hk))
  have HXL := Lib.hid hT.1
  cases hf : (smallI r && decide (l ≤ 40))
  · rw [hf] at HF
    clear hf hI hT hG hk0_
    unfold Ids.val at *
    have p0 := HX0.out
    have p1 := HX1.out
    have p2 := HX2.out
    go_enter Tryz.func8, Tryz.ntmps8
    go_wp2_with fail
    refine HF.out.mono ?_
    rintro e w1 ⟨rfl, k1⟩
    clear p0 p1 p2
    have K1 := Lib.hid (Kept.trans HK1.out k1)
    go_wp2_with fail
    refine (HAL.out _ K1.out).mono ?_
    rintro e w2 ⟨rfl, k2⟩
    go_wp2_with fail
    go_ret
    exact ⟨rfl, Kept.trans K1.out k2⟩
  · rw [hf] at HF
    obtain ⟨hs, hl40⟩ : smallI r = true ∧ l ≤ 40 := by simpa using hf
    have HSP := Lib.hid (fun w' (hk : Kept w w') => isplit_any i r A l c xs w' (hI.kept hk) hs (by omega) hle (hT.kept hk))
    have HVS := Lib.hid (fun lo hi w' (h1 : lo ≤ hi) (h2 : hi ≤ l) (hk : Kept w w') => idvalid_any i r (dropA A c lo) (hi - lo) (c - lo) ((xs.drop lo).take (hi - lo)) w' (hI.kept hk) hs (by omega) (Ints.front_ (Ints.drop_ (hT.kept hk) (by omega) hle) (by omega)))
    have HGD := Lib.hid (fun R (hR : R ∈ splitL r.b r.p r.c xs) => split_part (c := r.c) r.bp xs hR)
    clear hf hI hT hG hk0_ hs
    unfold Ids.val at *
    have p0 := HX0.out
    have p1 := HX1.out
    have p2 := HX2.out
    go_enter Tryz.func8, Tryz.ntmps8
    go_wp2_with fail
    refine HF.out.mono ?_
    rintro e w1 ⟨rfl, k1⟩
    clear p0 p1 p2
    have KB1 := Lib.hid k1
    clear k1
    have p0 := Kept.cell KB1.out HX0.out
    have p1 := Kept.cell KB1.out HX1.out
    have p2 := Kept.cell KB1.out HX2.out
    go_wp2_with fail
    refine (HSP.out _ (Kept.trans HK1.out KB1.out)).mono ?_
    rintro e w2 ⟨A2, n2, c2, rfl, le2, i2, k2⟩
    clear p0 p1 p2
    have KB2 := Lib.hid (Kept.trans KB1.out k2)
    have I2 := Lib.hid i2
    have HN2 := Lib.hid i2.1
    clear k2 i2
    have HL40 := Lib.hid hl40
    have HLE := Lib.hid hle
    have hn2 : n2 ≤ 40 := by have h := splitF_len (b := r.b) (p := r.p) (c := r.c) xs.length 0 xs; have h1 := HN2.out; have h2 := HXL.out; unfold splitL at h1; omega
    go_wp2_with fail
    go_loopw [6] (fun v wr => ∃ k : Nat, k ≤ n2 ∧ v = .int .i64 k ∧ Kept w2 wr) (fun v _ => n2 - (intOf v).toNat)
    case atStart => exact ⟨0, Nat.zero_le _, rfl, Kept.refl _⟩
    case round =>
      obtain ⟨k, hk, rfl, hkw⟩ := hrel
      have KW := Lib.hid hkw
      clear hkw
      by_cases hlt : k < n2
      · have hl1 : (k : Int) < (n2 : Int) := by omega
        obtain ⟨br, or_, R, hA2, hR, c0, c1⟩ := rng_at I2.out hlt
        obtain ⟨i0, e0, h1, h2, he0, hie, _, hno⟩ := HGD.out R (mem_of_getElem?_some hR)
        rw [h1] at c0
        rw [h2] at c1
        have C0 := Lib.hid c0
        have C1 := Lib.hid c1
        have HNO := Lib.hid hno
        have HIE := Lib.hid (show i0 + e0 ≤ l by rw [HXL.out]; exact hie)
        have hie := HIE.out
        rw [hA2]
        have HA2 := Lib.hid hA2
        clear hA2 hR h1 h2 hno c0 c1
        have c0 := Kept.cell KW.out C0.out
        have c1 := Kept.cell KW.out C1.out
        have hw1 : IntKind.i64.wrap ((i0 : Int) + (e0 : Int) + 1) = (i0 : Int) + (e0 : Int) + 1 := IntWalk.i64_in _ (by omega)
        have hw2 : wrap64 ((i0 : Int) + (e0 : Int) + 1) = (i0 : Int) + (e0 : Int) + 1 := IntWalk.wrap64_in _ (by omega)
        go_wp2_with fail
        clear c0 c1 hw1 hw2
        go_loopw [7] (fun v ws => ∃ h : Nat, i0 + e0 + 1 ≤ h ∧ h ≤ l + 1 ∧ v = .int .i64 h ∧ Kept w2 ws) (fun v _ => l + 1 - (intOf v).toNat)
        case atStart => exact ⟨i0 + e0 + 1, Nat.le_refl _, by omega, by go_num, KW.out⟩
        case round =>
          obtain ⟨h, hh1, hh2, rfl, hkw⟩ := hrel
          have KV := Lib.hid hkw
          clear hkw
          have c0 := Kept.cell KV.out C0.out
          have c1 := Kept.cell KV.out C1.out
          have hp0 : (0 : Int) ≤ (i0 : Int) := by omega
          have hp1 : (i0 : Int) ≥ 0 := hp0
          by_cases hhl : h ≤ l
          · have hq1 : (h : Int) ≤ (l : Int) := by omega
            have hrs := fun w => run_sub A l c i0 h (by omega) (by omega) w
            have HVX := Lib.hid (fun w' (hk : Kept w w') => HVS.out i0 h w' (by omega) hhl hk)
            rw [HNO.out (h - i0) (by omega) (by have := HXL.out; omega)] at HVX
            have p0 := Kept.cell (Kept.trans KB2.out KV.out) HX0.out
            have p1 := Kept.cell (Kept.trans KB2.out KV.out) HX1.out
            have p2 := Kept.cell (Kept.trans KB2.out KV.out) HX2.out
            go_wp2_with fail
            refine wp_region_held_drew (S := (fun w' => w'.cell? ⟨w.heap.size, 0, none⟩ = some (.slice i.As i.ns i.cs) ∧ w'.cell? ⟨w.heap.size, 1, none⟩ = some (.slice i.Ac i.nc i.cc) ∧ w'.cell? ⟨w.heap.size, 2, none⟩ = some (.slice i.Am i.nm i.cm) ∧ w'.cell? ⟨br, or_ + k * 2, none⟩ = some (.int .i64 (i0 : Int)))) (by kernel_rfl) ⟨p0, p1, p2, c0⟩ (fun hHeld => ?_)
            refine tk_ 0 ?_ rfl ?_; refine tk_ 1 ?_ rfl ?_; refine tk_ 2 ?_ rfl ?_; refine tk_ 3 ?_ rfl ?_; refine tk_ 4 ?_ rfl ?_; refine tk_ 5 ?_ rfl ?_; refine tk_ 6 ?_ rfl ?_; refine tk_ 7 ?_ rfl ?_; refine tk_ 8 ?_ rfl ?_
            refine rd_ 9 rfl (fun K hK => ?_)
            go_simp
            (refine (HVX.out _ (Kept.trans HK1.out (Kept.trans KB2.out (Kept.trans KV.out (Kept.drew (Kept.refl _)))))).mono ?_; rintro e w3 ⟨rfl, k3⟩; have K3 := Lib.hid (Kept.trans (Kept.drew (Kept.refl wr)) k3); clear k3)
            go_wp2_with fail
            refine hK.out _ _ ⟨Kept.cell K3.out p0, Kept.cell K3.out p1, Kept.cell K3.out p2, Kept.cell K3.out c0⟩ (fun hHeld => ?_)
            clear hK K
            (try simp only [Act.put, s1_, s2_, s3_, s4_, s5_, s6_])
            refine wpAnyH_done (by kernel_rfl) ?_ _
            clear p0 p1 p2 c0 c1 hrs
            go_wp2_with fail
            go_roundw
            case rel => exact ⟨h + 1, by omega, by omega, by go_num, Kept.trans KV.out K3.out⟩
            case measure => simp [intOf]; omega
          · have hq1 : ¬ (h : Int) ≤ (l : Int) := by omega
            go_wp2_with fail
            go_roundw
            case rel => exact ⟨k + 1, by omega, by go_num, KV.out⟩
            case measure => simp [intOf]; omega
      · have hl1 : ¬ (k : Int) < (n2 : Int) := by omega
        go_wp2_with fail
        refine (HAL.out _ (Kept.trans HK1.out (Kept.trans KB2.out KW.out))).mono ?_
        rintro e w4 ⟨rfl, k4⟩
        go_wp2_with fail
        go_ret
        exact ⟨rfl, Kept.trans HK1.out (Kept.trans KB2.out (Kept.trans KW.out k4))⟩
end Go.Proofs.YtmlcdohldkgcdaaGreatDoor
