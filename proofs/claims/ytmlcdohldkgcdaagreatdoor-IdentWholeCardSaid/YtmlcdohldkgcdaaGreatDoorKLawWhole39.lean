/- law39.IdentWhole. -/
import Derived.Test.YtmlcdohldkgcdaaGreatDoorKSq
import Derived.Test.YtmlcdohldkgcdaaGreatDoorKAlive39
import Derived.Test.YtmlcdohldkgcdaaGreatDoorKPl64
import Derived.Test.YtmlcdohldkgcdaaGreatDoorKPl44
namespace Go.Proofs.YtmlcdohldkgcdaaGreatDoor
open Go Go.RowKit
theorem list_one {α : Type} {L : List α} {x : α} (h : L.length = 1) (hx : L[0]? = some x) : L = [x] := by
  match L, h with
  | [y], _ => simpa using hx
set_option maxRecDepth 100000 in
set_option maxHeartbeats 4000000 in
theorem law_whole39 (i : Ids) (r : IdR) (A : Option Addr) (l c : Nat) (xs : List Int) (w : World) (hI : IdIn w i r) (hl : l ≤ c ∧ c ≤ 9223372036854775807 ∧ Ints w A l xs) (hG : Glob w) : Calls Tryz.prog 9 #[i.val, .slice A l c] w (RetB w true) := by
  have hk0_ := Kept.alloc (Kept.refl w) (Obj.cells #[Value.slice i.As i.ns i.cs, Value.slice i.Ac i.nc i.cc, Value.slice i.Am i.nm i.cm] 54)
  have HK1 := Lib.hid hk0_
  have hb0_ := (box_block w (Obj.cells #[Value.slice i.As i.ns i.cs, Value.slice i.Ac i.nc i.cc, Value.slice i.Am i.nm i.cm] 54))
  have x0_ := cell_of_block (i := 0) hb0_ rfl
  have x1_ := cell_of_block (i := 1) hb0_ rfl
  have x2_ := cell_of_block (i := 2) hb0_ rfl
  simp only [s4_, s5_, s6_] at x0_ x1_ x2_
  have HX0 := Lib.hid x0_
  have HX1 := Lib.hid x1_
  have HX2 := Lib.hid x2_
  have HB0 := Lib.hid hb0_
  clear x0_ x1_ x2_ hb0_
  obtain ⟨hle, hc, hT⟩ := hl
  have HF := Lib.hid (few39 i r A l c _ (hI.kept HK1.out) ⟨hle, hc⟩)
  have HAL := Lib.hid (fun w' (hk : Kept w w') => alive39 w' (hG.kept hk))
  have HXL := Lib.hid hT.1
  cases hf : (smallI r && decide (l ≤ 40))
  · rw [hf] at HF
    clear hf hI hT hG hk0_
    unfold Ids.val at *
    have p0 := HX0.out
    have p1 := HX1.out
    have p2 := HX2.out
    go_enter Tryz.func9, Tryz.ntmps9
    go_wp2_with fail
    refine HF.out.mono ?_
    rintro e w1 ⟨rfl, k1⟩
    clear p0 p1 p2
    have K1 := Lib.hid (Kept.trans HK1.out k1)
    go_wp2_with fail
    refine (HAL.out _ K1.out).mono ?_
    rintro e w2 ⟨rfl, k2⟩
    go_wp2_with fail
    go_ret
    exact ⟨rfl, Kept.trans K1.out k2⟩
  · rw [hf] at HF
    obtain ⟨hs, hl40⟩ : smallI r = true ∧ l ≤ 40 := by simpa using hf
    have HSP := Lib.hid (fun w' (hk : Kept w w') => isplit_any i r A l c xs w' (hI.kept hk) hs (by omega) hle (hT.kept hk))
    have HVA := Lib.hid (fun w' (hk : Kept w w') => idvalid_any i r A l c xs w' (hI.kept hk) hs (by omega) (hT.kept hk))
    have HWH := Lib.hid (split_whole (c := r.c) r.bp xs)
    clear hf hI hT hG hk0_ hs
    unfold Ids.val at *
    have p0 := HX0.out
    have p1 := HX1.out
    have p2 := HX2.out
    go_enter Tryz.func9, Tryz.ntmps9
    go_wp2_with fail
    refine HF.out.mono ?_
    rintro e w1 ⟨rfl, k1⟩
    clear p0 p1 p2
    have KB1 := Lib.hid k1
    clear k1
    have p0 := Kept.cell KB1.out HX0.out
    have p1 := Kept.cell KB1.out HX1.out
    have p2 := Kept.cell KB1.out HX2.out
    go_wp2_with fail
    refine (HSP.out _ (Kept.trans HK1.out KB1.out)).mono ?_
    rintro e w2 ⟨A2, n2, c2, rfl, le2, i2, k2⟩
    clear p0 p1 p2
    have KB2 := Lib.hid (Kept.trans KB1.out k2)
    have I2 := Lib.hid i2
    have HN2 := Lib.hid i2.1
    clear k2 i2
    cases hv : idValid r.b r.p r.c xs
    · rw [hv] at HVA
      by_cases h1 : n2 = 1
      · subst h1
        obtain ⟨br, or_, R, hA2, hR, c0, c1⟩ := rng_at (i := 0) I2.out (by omega)
        simp only [Nat.zero_mul, Nat.add_zero] at c0 c1
        subst hA2
        have hl0 : ((l : Nat) : Int) > 0 := (by
          rcases Nat.eq_zero_or_pos l with h | h
          · exfalso
            have hx0 : xs = [] := List.length_eq_zero_iff.1 (by rw [← HXL.out]; exact h)
            have := HN2.out
            rw [hx0] at this
            cases this
          · omega)
        have hl1 : (0 : Int) < ((l : Nat) : Int) := hl0
        by_cases h2 : R.lo = 0
        · by_cases h3 : R.hi = (l : Int)
          · exfalso
            have h4 : splitL r.b r.p r.c xs = [⟨0, (xs.length : Int)⟩] := (by
              have h5 : splitL r.b r.p r.c xs = [R] := list_one HN2.out.symm hR
              rw [h5, ← HXL.out, ← h3, ← h2])
            have h5 := HWH.out.2 h4
            rw [hv] at h5
            cases h5
          · have h4 : (R.hi == (l : Int)) = false := by simp [h3]
            clear hv
            have p0 := Kept.cell KB2.out HX0.out
            have p1 := Kept.cell KB2.out HX1.out
            have p2 := Kept.cell KB2.out HX2.out
            go_wp2_with fail
            refine (HVA.out _ (Kept.trans HK1.out KB2.out)).mono ?_
            rintro e w3 ⟨rfl, k3⟩
            clear p0 p1 p2
            have KB3 := Lib.hid (Kept.trans KB2.out k3)
            clear k3
            go_wp2_with fail
            refine (HAL.out _ (Kept.trans HK1.out KB3.out)).mono ?_
            rintro e w4 ⟨rfl, k4⟩
            go_wp2_with fail
            go_ret
            exact ⟨rfl, Kept.trans HK1.out (Kept.trans KB3.out k4)⟩
        · have h4 : (R.lo == 0) = false := by simp [h2]
          clear hv
          have p0 := Kept.cell KB2.out HX0.out
          have p1 := Kept.cell KB2.out HX1.out
          have p2 := Kept.cell KB2.out HX2.out
          go_wp2_with fail
          refine (HVA.out _ (Kept.trans HK1.out KB2.out)).mono ?_
          rintro e w3 ⟨rfl, k3⟩
          clear p0 p1 p2
          have KB3 := Lib.hid (Kept.trans KB2.out k3)
          clear k3
          go_wp2_with fail
          refine (HAL.out _ (Kept.trans HK1.out KB3.out)).mono ?_
          rintro e w4 ⟨rfl, k4⟩
          go_wp2_with fail
          go_ret
          exact ⟨rfl, Kept.trans HK1.out (Kept.trans KB3.out k4)⟩
      · have h1' : ¬ ((n2 : Nat) : Int) = 1 := by omega
        have h1'' : (((n2 : Nat) : Int) == 1) = false := by simp; omega
        rcases Nat.eq_zero_or_pos l with h0 | h0
        · have hz : n2 = 0 := (by
            have hx0 : xs = [] := List.length_eq_zero_iff.1 (by rw [← HXL.out]; exact h0)
            have := HN2.out
            rw [hx0] at this
            exact this)
          subst hz
          have hl0 : ¬ ((l : Nat) : Int) > 0 := by omega
          have hl1 : ¬ (0 : Int) < ((l : Nat) : Int) := by omega
          clear hv h0 h1 h1' h1''
          have p0 := Kept.cell KB2.out HX0.out
          have p1 := Kept.cell KB2.out HX1.out
          have p2 := Kept.cell KB2.out HX2.out
          go_wp2_with fail
          refine (HVA.out _ (Kept.trans HK1.out KB2.out)).mono ?_
          rintro e w3 ⟨rfl, k3⟩
          clear p0 p1 p2
          have KB3 := Lib.hid (Kept.trans KB2.out k3)
          clear k3
          go_wp2_with fail
          refine (HAL.out _ (Kept.trans HK1.out KB3.out)).mono ?_
          rintro e w4 ⟨rfl, k4⟩
          go_wp2_with fail
          go_ret
          exact ⟨rfl, Kept.trans HK1.out (Kept.trans KB3.out k4)⟩
        · have hl0 : ((l : Nat) : Int) > 0 := by omega
          have hl1 : (0 : Int) < ((l : Nat) : Int) := by omega
          clear hv h0 h1
          have p0 := Kept.cell KB2.out HX0.out
          have p1 := Kept.cell KB2.out HX1.out
          have p2 := Kept.cell KB2.out HX2.out
          go_wp2_with fail
          refine (HVA.out _ (Kept.trans HK1.out KB2.out)).mono ?_
          rintro e w3 ⟨rfl, k3⟩
          clear p0 p1 p2
          have KB3 := Lib.hid (Kept.trans KB2.out k3)
          clear k3
          go_wp2_with fail
          refine (HAL.out _ (Kept.trans HK1.out KB3.out)).mono ?_
          rintro e w4 ⟨rfl, k4⟩
          go_wp2_with fail
          go_ret
          exact ⟨rfl, Kept.trans HK1.out (Kept.trans KB3.out k4)⟩
    · rw [hv] at HVA
      have hsp := HWH.out.1 hv
      have h1 : n2 = 1 := by have := HN2.out; rw [hsp] at this; exact this
      subst h1
      obtain ⟨br, or_, R, hA2, hR, c0, c1⟩ := rng_at (i := 0) I2.out (by omega)
      simp only [Nat.zero_mul, Nat.add_zero] at c0 c1
      subst hA2
      rw [hsp] at hR
      simp only [List.getElem?_cons_zero, Option.some.injEq] at hR
      subst hR
      dsimp only at c0 c1
      rw [← HXL.out] at c1
      have hl0 : ((l : Nat) : Int) > 0 := (by
        rcases Nat.eq_zero_or_pos l with h | h
        · exfalso
          have hx0 : xs = [] := List.length_eq_zero_iff.1 (by rw [← HXL.out]; exact h)
          rw [hx0] at hv
          cases hv
        · omega)
      have hl1 : (0 : Int) < ((l : Nat) : Int) := hl0
      clear hv hsp
      have p0 := Kept.cell KB2.out HX0.out
      have p1 := Kept.cell KB2.out HX1.out
      have p2 := Kept.cell KB2.out HX2.out
      go_wp2_with fail
      refine (HVA.out _ (Kept.trans HK1.out KB2.out)).mono ?_
      rintro e w3 ⟨rfl, k3⟩
      clear p0 p1 p2
      have KB3 := Lib.hid (Kept.trans KB2.out k3)
      clear k3
      go_wp2_with fail
      refine (HAL.out _ (Kept.trans HK1.out KB3.out)).mono ?_
      rintro e w4 ⟨rfl, k4⟩
      go_wp2_with fail
      go_ret
      exact ⟨rfl, Kept.trans HK1.out (Kept.trans KB3.out k4)⟩
end Go.Proofs.YtmlcdohldkgcdaaGreatDoor
