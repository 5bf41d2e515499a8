/- law39.IdentSplits. -/
import Derived.Deep.RegionHeld3
import Derived.Test.YtmlcdohldkgcdaaGreatDoorKSq
import Derived.Test.YtmlcdohldkgcdaaGreatDoorKAlive39
import Derived.Test.YtmlcdohldkgcdaaGreatDoorKIdG
namespace Go.Proofs.YtmlcdohldkgcdaaGreatDoor
open Go Go.RowKit
theorem rw_and_splits {a : Bool} {b : Prop} [Decidable b] (h : (a && decide b) = true) : a = true ∧ b := by simpa using h
set_option maxRecDepth 100000 in
set_option maxHeartbeats 4000000 in
theorem law_splits39 (i : Ids) (r : IdR) (A : Option Addr) (l c : Nat) (xs : List Int) (w : World) (hI : IdIn w i r) (hl : l ≤ c ∧ c ≤ 9223372036854775807 ∧ Ints w A l xs) (hG : Glob w) : Calls Tryz.prog 6 #[i.val, .slice A l c] w (RetB w true) := by
  have hk0_ := Kept.alloc (Kept.refl w) (Obj.cells #[Value.slice i.As i.ns i.cs, Value.slice i.Ac i.nc i.cc, Value.slice i.Am i.nm i.cm] 54)
  have HK1 := Lib.hid hk0_
  have hb0_ := (box_block w (Obj.cells #[Value.slice i.As i.ns i.cs, Value.slice i.Ac i.nc i.cc, Value.slice i.Am i.nm i.cm] 54))
  have x0_ := cell_of_block (i := 0) hb0_ rfl
  have x1_ := cell_of_block (i := 1) hb0_ rfl
  have x2_ := cell_of_block (i := 2) hb0_ rfl
  simp only [s4_, s5_, s6_] at x0_ x1_ x2_
  have HX0 := Lib.hid x0_
  have HX1 := Lib.hid x1_
  have HX2 := Lib.hid x2_
  have HB0 := Lib.hid hb0_
  clear x0_ x1_ x2_ hb0_
  obtain ⟨hle, hc, hT⟩ := hl
  have HF := Lib.hid (few39 i r A l c _ (hI.kept HK1.out) ⟨hle, hc⟩)
  have HAL := Lib.hid (fun w' (hk : Kept w w') => alive39 w' (hG.kept hk))
  have HXL := Lib.hid hT.1
  have HFD := Lib.hid (fun w' (hk : Kept w w') => few39 i r A l c w' (hI.kept hk) ⟨hle, hc⟩)
  cases hf : (smallI r && decide (l ≤ 40))
  · skip
    rw [hf] at HFD
    clear hf hI hT hG hk0_ HF
    unfold Ids.val at *
    go_enter Tryz.func6, Tryz.ntmps6
    have p0 := HX0.out
    have p1 := HX1.out
    have p2 := HX2.out
    go_wp2_with fail
    refine wp_region_held_drew (S := (fun w' => w'.cell? ⟨w.heap.size, 0, none⟩ = some (.slice i.As i.ns i.cs) ∧ w'.cell? ⟨w.heap.size, 1, none⟩ = some (.slice i.Ac i.nc i.cc) ∧ w'.cell? ⟨w.heap.size, 2, none⟩ = some (.slice i.Am i.nm i.cm))) (by kernel_rfl) ⟨p0, p1, p2⟩ (fun hHeld => ?_)
    refine tk_ 0 ?_ rfl ?_; refine tk_ 1 ?_ rfl ?_
    refine rd_ 2 rfl (fun K hK => ?_)
    go_simp
    (refine (HFD.out _ (Kept.trans HK1.out (Kept.drew (Kept.refl (w.alloc (Obj.cells #[Value.slice i.As i.ns i.cs, Value.slice i.Ac i.nc i.cc, Value.slice i.Am i.nm i.cm] 54)))))).mono ?_; rintro e w1 ⟨rfl, k1⟩; have KB1 := Lib.hid (Kept.trans (Kept.drew (Kept.refl (w.alloc (Obj.cells #[Value.slice i.As i.ns i.cs, Value.slice i.Ac i.nc i.cc, Value.slice i.Am i.nm i.cm] 54)))) k1))
    go_wp2_with fail
    refine hK.out _ _ ⟨Kept.cell KB1.out HX0.out, Kept.cell KB1.out HX1.out, Kept.cell KB1.out HX2.out⟩ (fun hHeld => ?_)
    clear hK K
    (try simp only [Act.put, s1_, s2_, s3_, s4_, s5_, s6_])
    refine tk_ 3 ?_ rfl ?_; refine tk_ 4 ?_ rfl ?_; refine sk_ 5 rfl ?_; refine sk_ 6 rfl ?_; refine sk_ 7 rfl ?_; refine sk_ 8 rfl ?_; refine sk_ 9 rfl ?_; refine sk_ 10 rfl ?_; refine sk_ 11 rfl ?_; refine tk_ 12 ?_ rfl ?_; refine tk_ 13 ?_ rfl ?_
    refine rd_ 14 rfl (fun K hK => ?_)
    go_simp
    (refine (HAL.out _ (Kept.trans HK1.out KB1.out)).mono ?_; rintro e w2 ⟨rfl, k2⟩; have KB2 := Lib.hid (Kept.trans KB1.out k2))
    go_wp2_with fail
    refine hK.out _ _ ⟨Kept.cell KB2.out HX0.out, Kept.cell KB2.out HX1.out, Kept.cell KB2.out HX2.out⟩ (fun hHeld => ?_)
    clear hK K
    (try simp only [Act.put, s1_, s2_, s3_, s4_, s5_, s6_])
    refine tk_ 15 ?_ rfl ?_; refine tk_ 16 ?_ rfl ?_
    refine wpAnyH_done (by kernel_rfl) ?_ _
    clear p0 p1 p2
    go_wp2_with fail
    go_ret
    exact ⟨rfl, (Kept.trans HK1.out KB2.out)⟩
  · skip
    rw [hf] at HFD
    obtain ⟨hs, hl40⟩ := rw_and_splits hf
    have HSP := Lib.hid (fun w' (hk : Kept w w') => isplit_any i r A l c xs w' (hI.kept hk) hs (by omega) hle (hT.kept hk))
    have HSR := Lib.hid (fun w' (hk : Kept w w') => r39Split i r A l c xs w' (hI.kept hk) hs (by omega) hle (hT.kept hk))
    have HLL := Lib.hid (show (splitL r.b r.p r.c xs).length ≤ 100000 by have h := splitF_len (b := r.b) (p := r.p) (c := r.c) xs.length 0 xs; have := hT.1; unfold splitL; omega)
    have HSM := Lib.hid (fun A' n' c' B' m' d' w' (h1 : n' ≤ 100000) (h2 : m' ≤ 100000) (ha : Rngs w' A' n' (splitL r.b r.p r.c xs)) (hb : Rngs w' B' m' (splitL r.b r.p r.c xs)) => sameRanges A' B' n' m' c' d' _ _ w' h1 h2 ha hb)
    rw [show decide (splitL r.b r.p r.c xs = splitL r.b r.p r.c xs) = true from decide_eq_true rfl] at HSM
    clear hf hI hT hG hk0_ HF
    unfold Ids.val at *
    go_enter Tryz.func6, Tryz.ntmps6
    have p0 := HX0.out
    have p1 := HX1.out
    have p2 := HX2.out
    go_wp2_with fail
    refine wp_region_held_drew (S := (fun w' => w'.cell? ⟨w.heap.size, 0, none⟩ = some (.slice i.As i.ns i.cs) ∧ w'.cell? ⟨w.heap.size, 1, none⟩ = some (.slice i.Ac i.nc i.cc) ∧ w'.cell? ⟨w.heap.size, 2, none⟩ = some (.slice i.Am i.nm i.cm))) (by kernel_rfl) ⟨p0, p1, p2⟩ (fun hHeld => ?_)
    refine tk_ 0 ?_ rfl ?_; refine tk_ 1 ?_ rfl ?_
    refine rd_ 2 rfl (fun K hK => ?_)
    go_simp
    (refine (HFD.out _ (Kept.trans HK1.out (Kept.drew (Kept.refl (w.alloc (Obj.cells #[Value.slice i.As i.ns i.cs, Value.slice i.Ac i.nc i.cc, Value.slice i.Am i.nm i.cm] 54)))))).mono ?_; rintro e w1 ⟨rfl, k1⟩; have KB1 := Lib.hid (Kept.trans (Kept.drew (Kept.refl (w.alloc (Obj.cells #[Value.slice i.As i.ns i.cs, Value.slice i.Ac i.nc i.cc, Value.slice i.Am i.nm i.cm] 54)))) k1))
    go_wp2_with fail
    refine hK.out _ _ ⟨Kept.cell KB1.out HX0.out, Kept.cell KB1.out HX1.out, Kept.cell KB1.out HX2.out⟩ (fun hHeld => ?_)
    clear hK K
    (try simp only [Act.put, s1_, s2_, s3_, s4_, s5_, s6_])
    refine tk_ 3 ?_ rfl ?_; refine tk_ 4 ?_ rfl ?_; refine tk_ 5 ?_ rfl ?_; refine tk_ 6 ?_ rfl ?_; refine tk_ 8 ?_ rfl ?_; refine tk_ 9 ?_ rfl ?_
    refine rd_ 7 rfl (fun K hK => ?_)
    go_simp
    (refine (HSP.out _ (Kept.trans HK1.out KB1.out)).mono ?_; rintro e w2 ⟨A2, n2, c2, rfl, le2, i2, k2⟩; have I2 := Lib.hid i2; have hn2 : n2 ≤ 100000 := (by rw [i2.1]; exact HLL.out); clear i2; have KB2 := Lib.hid (Kept.trans KB1.out k2))
    go_wp2_with fail
    refine hK.out _ _ ⟨Kept.cell KB2.out HX0.out, Kept.cell KB2.out HX1.out, Kept.cell KB2.out HX2.out⟩ (fun hHeld => ?_)
    clear hK K
    (try simp only [Act.put, s1_, s2_, s3_, s4_, s5_, s6_])
    refine rd_ 10 rfl (fun K hK => ?_)
    go_simp
    (refine (HSR.out _ (Kept.trans HK1.out KB2.out)).mono ?_; rintro e w3 ⟨A3, n3, c3, rfl, le3, i3, k3⟩; have I3 := Lib.hid i3; have hn3 : n3 ≤ 100000 := (by rw [i3.1]; exact HLL.out); clear i3; have KB3 := Lib.hid (Kept.trans KB2.out k3))
    go_wp2_with fail
    refine hK.out _ _ ⟨Kept.cell KB3.out HX0.out, Kept.cell KB3.out HX1.out, Kept.cell KB3.out HX2.out⟩ (fun hHeld => ?_)
    clear hK K
    (try simp only [Act.put, s1_, s2_, s3_, s4_, s5_, s6_])
    refine rd_ 11 rfl (fun K hK => ?_)
    go_simp
    (refine (HSM.out A2 n2 c2 A3 n3 c3 _ hn2 hn3 (I2.out.kept k3) (I3.out.kept (Kept.refl _))).mono ?_; rintro e w4 ⟨rfl, k4⟩; have KB4 := Lib.hid (Kept.trans KB3.out k4))
    go_wp2_with fail
    refine hK.out _ _ ⟨Kept.cell KB4.out HX0.out, Kept.cell KB4.out HX1.out, Kept.cell KB4.out HX2.out⟩ (fun hHeld => ?_)
    clear hK K
    (try simp only [Act.put, s1_, s2_, s3_, s4_, s5_, s6_])
    refine tk_ 12 ?_ rfl ?_; refine tk_ 13 ?_ rfl ?_
    refine rd_ 14 rfl (fun K hK => ?_)
    go_simp
    (refine (HAL.out _ (Kept.trans HK1.out KB4.out)).mono ?_; rintro e w5 ⟨rfl, k5⟩; have KB5 := Lib.hid (Kept.trans KB4.out k5))
    go_wp2_with fail
    refine hK.out _ _ ⟨Kept.cell KB5.out HX0.out, Kept.cell KB5.out HX1.out, Kept.cell KB5.out HX2.out⟩ (fun hHeld => ?_)
    clear hK K
    (try simp only [Act.put, s1_, s2_, s3_, s4_, s5_, s6_])
    refine tk_ 15 ?_ rfl ?_; refine tk_ 16 ?_ rfl ?_
    refine wpAnyH_done (by kernel_rfl) ?_ _
    clear p0 p1 p2
    go_wp2_with fail
    go_ret
    exact ⟨rfl, (Kept.trans HK1.out KB5.out)⟩
end Go.Proofs.YtmlcdohldkgcdaaGreatDoor
