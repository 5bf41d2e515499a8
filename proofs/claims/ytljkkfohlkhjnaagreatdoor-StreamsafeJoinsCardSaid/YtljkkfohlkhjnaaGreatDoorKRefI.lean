/- References: Decompose of layer 19, Small of layer 21. -/
import Derived.Test.YtljkkfohlkhjnaaGreatDoorKRfx
import Derived.Test.YtljkkfohlkhjnaaGreatDoorKRefB
import Derived.Test.YtljkkfohlkhjnaaGreatDoorKRefA
import Derived.Test.YtljkkfohlkhjnaaGreatDoorKHan
import Derived.Test.YtljkkfohlkhjnaaGreatDoorKDecB
import Derived.Test.YtljkkfohlkhjnaaGreatDoorKPl
namespace Go.Proofs.YtljkkfohlkhjnaaGreatDoor
open Go Go.RowKit

set_option maxRecDepth 100000 in
set_option maxHeartbeats 1000000 in
theorem r19decomp (c : Int) (w : World) : Calls Tryz.prog 83 #[.int .i64 c] w (RetInts w (decompH c)) := by
  obtain ⟨i0, hi, hz0, hz1, hz2⟩ := info_parts info_int
  have HI0 := Lib.hid hi
  have HZ0 := Lib.hid hz0
  have HZ1 := Lib.hid hz1
  have HZ2 := Lib.hid hz2
  clear hi hz0 hz1 hz2
  by_cases hk : kind c < 4
  · have HD := Lib.hid (show decompH c = [c] from if_pos hk)
    go_enter Tryz.func83, Tryz.ntmps83
    go_wp2_with (go_at_call 53; refine (rkind_any _ _).mono ?_; rintro e w' ⟨rfl, rfl⟩)
    go_ret
    refine ⟨_, 1, 1, rfl, Nat.le_refl _, ?_, Kept.alloc (Kept.refl w) _⟩
    rw [HD.out]
    exact Ints.alloc_ (xs := [c]) (by simp) rfl
  · obtain ⟨hr1, hr2⟩ := kind_ge (c := c) (by omega)
    by_cases ht : (c - 44032) % 28 = 0
    · have HD := Lib.hid (show decompH c = [hL c, hV c] by unfold decompH; rw [if_neg hk, if_pos ht])
      have ht' : ¬ 0 < (c - 44032) % 28 := by omega
      clear ht
      go_enter Tryz.func83, Tryz.ntmps83
      go_wp2_with (go_at_call 53; refine (rkind_any _ _).mono ?_; rintro e w' ⟨rfl, rfl⟩)
      go_ret
      refine ⟨_, 2, 2, rfl, Nat.le_refl _, ?_, Kept.alloc (Kept.refl w) _⟩
      rw [HD.out]
      exact Ints.alloc_ (xs := [hL c, hV c]) (by simp) rfl
    · have HD := Lib.hid (show decompH c = [hL c, hV c, hT c] by unfold decompH; rw [if_neg hk, if_neg ht])
      have HT := Lib.hid (show hT c = 4520 + (c - 44032) % 28 - 1 from if_neg ht)
      have ht' : 0 < (c - 44032) % 28 := by omega
      clear ht
      go_enter Tryz.func83, Tryz.ntmps83
      go_wp2_with (first
        | (go_at_call 53; refine (rkind_any _ _).mono ?_; rintro e w' ⟨rfl, rfl⟩)
        | (at_builtin; refine wpList_append_own _ rfl (.tmp 24) (.tmp 29) 34 rfl w.heap.size 3 i0 (.int .i64 0) 1 8 Tryz.underlying34 HI0.out HZ0.out HZ1.out HZ2.out rfl (by decide) _ 2 [.int .i64 (hL c), .int .i64 (hV c)] rfl (by exact World.ownsRow.alloc (World.ownsRow_lit w #[.int .i64 (hL c), .int .i64 (hV c)] 2 (Nat.le_refl _) (by unfold maxLen; omega) rfl) _) ⟨w.heap.size + 1, 0, none⟩ 1 1 [.int .i64 (4520 + (c - 44032) % 28 - 1)] rfl rfl (by exact cell_one_at (by simp)) (by simp [Value.oneCell']) (by unfold maxLen; omega) (by omega) (by simp; omega) ?_; intro v1 w1 hown1 hg1 _))
      have hB1 : Kept w w1 := (Kept.alloc (Kept.alloc (Kept.refl w) (Obj.cells #[Value.int IntKind.i64 (hL c), Value.int IntKind.i64 (hV c)] 3)) (Obj.cells #[Value.int IntKind.i64 (4520 + (c - 44032) % 28 - 1)] 3)).grown hg1 (by simp; omega) (fun q e => by
        change (Value.slice (some ⟨w.heap.size, 0, none⟩) 2 2).ownBlock = some q at e
        simp only [Value.ownBlock, Option.some.injEq] at e
        omega)
      have hown2 : OwnI w1 w.heap.size v1 (decompH c) := by rw [HD.out, HT.out]; simpa [OwnI] using hown1
      obtain ⟨A3, c3, rfl, hle3, hI3⟩ := OwnI.sl hown2
      go_ret
      exact ⟨A3, _, c3, rfl, hle3, hI3, hB1⟩
/-- The data of normalization as it comes in, of any size. -/
structure NormIn (w : World) (s : Sls) (n : Nrm) : Prop where
  hc : s.nc ≤ s.cc
  hm : s.nm ≤ s.cm
  he : s.ne ≤ s.ce
  bm : s.nm ≤ 9223372036854775807
  cls : Spans w s.Ac s.nc n.classes
  dec : Mps w s.Am s.nm n.decomp
  exc : Rngs w s.Ae s.ne n.excl
  to : ∀ m ∈ n.decomp, m.to.length ≤ 9223372036854775807
theorem NormIn.kept {w w' : World} {s : Sls} {n : Nrm} (h : NormIn w s n) (hk : Kept w w') : NormIn w' s n :=
  ⟨h.hc, h.hm, h.he, h.bm, h.cls.kept hk, h.dec.kept hk, h.exc.kept hk, h.to⟩
theorem NormIn.small {w : World} {s : Sls} {n : Nrm} (h : NormIn w s n) (hs : smallB n = true) : NormAt w s n := by
  obtain ⟨h1, h2, h3, h4⟩ := smallB_parts hs
  have e1 := h.cls.1
  have e2 := h.dec.1
  have e3 := h.exc.1
  exact ⟨h.hc, h.hm, h.he, by omega, by omega, by omega, h.cls, h.dec, h.exc, fun m hm => by have := (h4 m hm).1; omega⟩

set_option maxHeartbeats 1000000 in
theorem r21small (s : Sls) (n : Nrm) (w : World) (h : NormIn w s n) : Calls Tryz.prog 8 #[s.val] w (RetB w (smallB n)) := by
  have HN := Lib.hid h
  have HE1 := Lib.hid h.cls.1
  have HE3 := Lib.hid h.exc.1
  have HK1 := Lib.hid (Kept.alloc (Kept.refl w) (Obj.cells #[Value.slice s.Ac s.nc s.cc, Value.slice s.Am s.nm s.cm, Value.slice s.Ae s.ne s.ce] 28))
  have HS11 := Lib.hid (r11Small s.Am s.nm s.cm n.decomp (w.alloc (Obj.cells #[Value.slice s.Ac s.nc s.cc, Value.slice s.Am s.nm s.cm, Value.slice s.Ae s.ne s.ce] 28)) h.bm (h.dec.kept HK1.out) h.to)
  clear h
  have hsb : smallB n = (decide (s.nc ≤ 16) && smallMaps n.decomp && decide (s.ne ≤ 12)) := by unfold smallB; rw [HE1.out, HE3.out]
  have HSB := Lib.hid hsb
  clear hsb
  unfold Sls.val
  cases h1 : decide (s.nc ≤ 16)
  · have HR := Lib.hid (show smallB n = false by rw [HSB.out, h1]; rfl)
    have HS20 := Lib.hid (r20Small s.Ac s.nc s.cc)
    rw [h1] at HS20
    go_enter Tryz.func8, Tryz.ntmps8
    go_wp2_with (go_at_call 20; refine (HS20.out _).mono ?_; rintro e w' ⟨rfl, rfl⟩)
    go_ret
    exact ⟨ret_bool HR.out.symm, HK1.out⟩
  · have HS20 := Lib.hid (r20Small s.Ac s.nc s.cc)
    rw [h1] at HS20
    cases h2 : smallMaps n.decomp
    · have HR := Lib.hid (show smallB n = false by rw [HSB.out, h2]; simp)
      rw [h2] at HS11
      clear h1 h2
      go_enter Tryz.func8, Tryz.ntmps8
      go_wp2_with (first
        | (go_at_call 20; refine (HS20.out _).mono ?_; rintro e w' ⟨rfl, rfl⟩)
        | (go_at_call 21; refine HS11.out.mono ?_; rintro e w' ⟨rfl, rfl⟩))
      go_ret
      exact ⟨ret_bool HR.out.symm, HK1.out⟩
    · have HR := Lib.hid (show smallB n = decide (s.ne ≤ 12) by rw [HSB.out, h1, h2]; simp)
      rw [h2] at HS11
      clear h1 h2
      go_enter Tryz.func8, Tryz.ntmps8
      go_wp2_with (first
        | (go_at_call 20; refine (HS20.out _).mono ?_; rintro e w' ⟨rfl, rfl⟩)
        | (go_at_call 21; refine HS11.out.mono ?_; rintro e w' ⟨rfl, rfl⟩)
        | (go_at_call 22; refine (r02Small _ _ _ _).mono ?_; rintro e w2 ⟨rfl, hk2⟩))
      go_ret
      exact ⟨ret_bool HR.out.symm, Kept.trans HK1.out hk2⟩
end Go.Proofs.YtljkkfohlkhjnaaGreatDoor
