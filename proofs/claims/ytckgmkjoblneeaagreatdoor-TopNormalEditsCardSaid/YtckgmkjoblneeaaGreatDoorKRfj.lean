/- References: Decompose of layer 19, Small of layer 21. Contracts of the library that the kit's shelf has, laid over this program. Written by wip/mkshelf.py through the kit's lay-plain.mjs. References: lengths of layer 21. References: ends of layer 21. -/
import Derived.Shelf.Small.Bits
import Derived.Shelf.Strconv.Itoa0
import Derived.Ground.Names2Prog
import Derived.Shelf.SlSortCmp.Insertion
import Derived.Shelf.SlSortCmp.Insertion1
import Derived.Shelf.SlSortCmp.WholeK
import Derived.Shelf.SlSortCmp.NoneTotal
import Derived.Ground.SlsfProg
import Derived.Shelf.Slices.Clone
import Derived.Shelf.SlicesE.Clone
import Derived.Ground.SlgnProg
import Derived.Test.YtckgmkjoblneeaaGreatDoorKRefA
import Derived.Test.YtckgmkjoblneeaaGreatDoorKOwn
import Derived.Test.YtckgmkjoblneeaaGreatDoorKDca
import Derived.Test.YtckgmkjoblneeaaGreatDoorKPl
import Derived.Test.YtckgmkjoblneeaaGreatDoorProg
namespace Go.Proofs.YtckgmkjoblneeaaGreatDoor
open Go Go.RowKit
structure NormIn (w : World) (s : Sls) (n : Nrm) : Prop where
  hc : s.nc ≤ s.cc
  hm : s.nm ≤ s.cm
  he : s.ne ≤ s.ce
  bm : s.nm ≤ 9223372036854775807
  cls : Spans w s.Ac s.nc n.classes
  dec : Mps w s.Am s.nm n.decomp
  exc : Rngs w s.Ae s.ne n.excl
  to : ∀ m ∈ n.decomp, m.to.length ≤ 9223372036854775807
theorem NormIn.kept {w w' : World} {s : Sls} {n : Nrm} (h : NormIn w s n) (hk : Kept w w') : NormIn w' s n :=
  ⟨h.hc, h.hm, h.he, h.bm, h.cls.kept hk, h.dec.kept hk, h.exc.kept hk, h.to⟩
theorem NormIn.small {w : World} {s : Sls} {n : Nrm} (h : NormIn w s n) (hs : smallB n = true) : NormAt w s n := by
  obtain ⟨h1, h2, h3, h4⟩ := smallB_parts hs
  have e1 := h.cls.1
  have e2 := h.dec.1
  have e3 := h.exc.1
  exact ⟨h.hc, h.hm, h.he, by omega, by omega, by omega, h.cls, h.dec, h.exc, fun m hm => by have := (h4 m hm).1; omega⟩
set_option maxHeartbeats 1000000 in
theorem r21small (s : Sls) (n : Nrm) (w : World) (h : NormIn w s n) : Calls Tryz.prog 5 #[s.val] w (RetB w (smallB n)) := by
  have HN := Lib.hid h
  have HE1 := Lib.hid h.cls.1
  have HE3 := Lib.hid h.exc.1
  have HK1 := Lib.hid (Kept.alloc (Kept.refl w) (Obj.cells #[Value.slice s.Ac s.nc s.cc, Value.slice s.Am s.nm s.cm, Value.slice s.Ae s.ne s.ce] 28))
  have HS11 := Lib.hid (r11Small s.Am s.nm s.cm n.decomp (w.alloc (Obj.cells #[Value.slice s.Ac s.nc s.cc, Value.slice s.Am s.nm s.cm, Value.slice s.Ae s.ne s.ce] 28)) h.bm (h.dec.kept HK1.out) h.to)
  clear h
  have hsb : smallB n = (decide (s.nc ≤ 16) && smallMaps n.decomp && decide (s.ne ≤ 12)) := by unfold smallB; rw [HE1.out, HE3.out]
  have HSB := Lib.hid hsb
  clear hsb
  unfold Sls.val
  cases h1 : decide (s.nc ≤ 16)
  · have HR := Lib.hid (show smallB n = false by rw [HSB.out, h1]; rfl)
    have HS20 := Lib.hid (r20Small s.Ac s.nc s.cc)
    rw [h1] at HS20
    go_enter Tryz.func5, Tryz.ntmps5
    go_wp2_with (go_at_call 15; refine (HS20.out _).mono ?_; rintro e w' ⟨rfl, rfl⟩)
    go_ret
    exact ⟨ret_bool HR.out.symm, HK1.out⟩
  · have HS20 := Lib.hid (r20Small s.Ac s.nc s.cc)
    rw [h1] at HS20
    cases h2 : smallMaps n.decomp
    · have HR := Lib.hid (show smallB n = false by rw [HSB.out, h2]; simp)
      rw [h2] at HS11
      clear h1 h2
      go_enter Tryz.func5, Tryz.ntmps5
      go_wp2_with (first
        | (go_at_call 15; refine (HS20.out _).mono ?_; rintro e w' ⟨rfl, rfl⟩)
        | (go_at_call 16; refine HS11.out.mono ?_; rintro e w' ⟨rfl, rfl⟩))
      go_ret
      exact ⟨ret_bool HR.out.symm, HK1.out⟩
    · have HR := Lib.hid (show smallB n = decide (s.ne ≤ 12) by rw [HSB.out, h1, h2]; simp)
      rw [h2] at HS11
      clear h1 h2
      go_enter Tryz.func5, Tryz.ntmps5
      go_wp2_with (first
        | (go_at_call 15; refine (HS20.out _).mono ?_; rintro e w' ⟨rfl, rfl⟩)
        | (go_at_call 16; refine HS11.out.mono ?_; rintro e w' ⟨rfl, rfl⟩)
        | (go_at_call 17; refine (r02Small _ _ _ _).mono ?_; rintro e w2 ⟨rfl, hk2⟩))
      go_ret
      exact ⟨ret_bool HR.out.symm, Kept.trans HK1.out hk2⟩
end Go.Proofs.YtckgmkjoblneeaaGreatDoor
namespace Go.Proofs
open Go.Shelf
def Tryz.sortRng_ren : Go.Shelf.Ren := ⟨fun | 6 => 113 | 15 => 119 | 14 => 118 | 28 => 129 | 29 => 130 | 20 => 121 | 21 => 122 | 22 => 123 | 23 => 124 | 24 => 125 | 25 => 126 | 26 => 127 | 27 => 128 | 46 => 131 | 47 => 132 | 48 => 133 | 49 => 134 | 50 => 135 | 57 => 136 | n => n, fun | 22 => 24 | 24 => 48 | 25 => 183 | 3 => 3 | 39 => 175 | 0 => 0 | 53 => 195 | 55 => 197 | 4 => 4 | 46 => 189 | 45 => 188 | 50 => 105 | 5 => 5 | 9 => 9 | 66 => 198 | 70 => 202 | 76 => 204 | 77 => 80 | n => n, fun | n => n⟩
theorem Tryz.sortRng : Go.Proofs.SlLaysF0.n6 Tryz.prog Tryz.sortRng_ren := {
  mixed := by kernel_rfl
  f6 := ⟨Tryz.f113.name, by decide, Tryz.func113.trans (congrArg some (by kernel_rfl))⟩
  f14 := ⟨Tryz.f118.name, by decide, Tryz.func118.trans (congrArg some (by kernel_rfl))⟩
  f15 := Tryz.func119.trans (congrArg some (by kernel_rfl))
  f20 := ⟨Tryz.f121.name, by decide, Tryz.func121.trans (congrArg some (by kernel_rfl))⟩
  f21 := ⟨Tryz.f122.name, by decide, Tryz.func122.trans (congrArg some (by kernel_rfl))⟩
  f22 := ⟨Tryz.f123.name, by decide, Tryz.func123.trans (congrArg some (by kernel_rfl))⟩
  f23 := ⟨Tryz.f124.name, by decide, Tryz.func124.trans (congrArg some (by kernel_rfl))⟩
  f24 := ⟨Tryz.f125.name, by decide, Tryz.func125.trans (congrArg some (by kernel_rfl))⟩
  f25 := ⟨Tryz.f126.name, by decide, Tryz.func126.trans (congrArg some (by kernel_rfl))⟩
  f26 := ⟨Tryz.f127.name, by decide, Tryz.func127.trans (congrArg some (by kernel_rfl))⟩
  f27 := ⟨Tryz.f128.name, by decide, Tryz.func128.trans (congrArg some (by kernel_rfl))⟩
  f28 := Tryz.func129.trans (congrArg some (by kernel_rfl))
  f29 := Tryz.func130.trans (congrArg some (by kernel_rfl))
  f46 := ⟨Tryz.f131.name, by decide, Tryz.func131.trans (congrArg some (by kernel_rfl))⟩
  f47 := Tryz.func132.trans (congrArg some (by kernel_rfl))
  f48 := Tryz.func133.trans (congrArg some (by kernel_rfl))
  f49 := ⟨Tryz.f134.name, by decide, Tryz.func134.trans (congrArg some (by kernel_rfl))⟩
  f50 := ⟨Tryz.f135.name, by decide, Tryz.func135.trans (congrArg some (by kernel_rfl))⟩
  f57 := ⟨Tryz.f136.name, by decide, Tryz.func136.trans (congrArg some (by kernel_rfl))⟩
  t0 := Tryz.underlying0
  a0 := Tryz.isAgg0
  z0 := Tryz.sizeOf0
  v0 := Tryz.zeroValue0
  t3 := Tryz.underlying3
  a3 := Tryz.isAgg3
  z3 := Tryz.sizeOf3
  v3 := Tryz.zeroValue3
  t4 := Tryz.underlying4
  a4 := Tryz.isAgg4
  z4 := Tryz.sizeOf4
  v4 := Tryz.zeroValue4
  t5 := Tryz.underlying5
  a5 := Tryz.isAgg5
  z5 := Tryz.sizeOf5
  v5 := Tryz.zeroValue5
  t9 := Tryz.underlying9
  a9 := Tryz.isAgg9
  z9 := Tryz.sizeOf9
  v9 := Tryz.zeroValue9
  t22 := Tryz.underlying24
  a22 := Tryz.isAgg24
  z22 := Tryz.sizeOf24
  v22 := Tryz.zeroValue24
  t25 := Tryz.underlying183
  a25 := Tryz.isAgg183
  z25 := Tryz.sizeOf183
  v25 := Tryz.zeroValue183
  t39 := Tryz.underlying175
  a39 := Tryz.isAgg175
  z39 := Tryz.sizeOf175
  v39 := Tryz.zeroValue175
  t45 := Tryz.underlying188
  a45 := Tryz.isAgg188
  z45 := Tryz.sizeOf188
  v45 := Tryz.zeroValue188
  t46 := Tryz.underlying189
  a46 := Tryz.isAgg189
  z46 := Tryz.sizeOf189
  v46 := Tryz.zeroValue189
  t50 := Tryz.underlying105
  a50 := Tryz.isAgg105
  z50 := Tryz.sizeOf105
  v50 := Tryz.zeroValue105
  t53 := Tryz.underlying195
  a53 := Tryz.isAgg195
  z53 := Tryz.sizeOf195
  v53 := Tryz.zeroValue195
  t55 := Tryz.underlying197
  a55 := Tryz.isAgg197
  z55 := Tryz.sizeOf197
  v55 := Tryz.zeroValue197
  t66 := Tryz.underlying198
  a66 := Tryz.isAgg198
  z66 := Tryz.sizeOf198
  v66 := Tryz.zeroValue198
  t70 := Tryz.underlying202
  a70 := Tryz.isAgg202
  z70 := Tryz.sizeOf202
  v70 := Tryz.zeroValue202
  t76 := Tryz.underlying204
  a76 := Tryz.isAgg204
  z76 := Tryz.sizeOf204
  v76 := Tryz.zeroValue204
  t77 := Tryz.underlying80
  a77 := Tryz.isAgg80
  z77 := Tryz.sizeOf80
  v77 := Tryz.zeroValue80 }
end Go.Proofs
namespace Go.Proofs.YtckgmkjoblneeaaGreatDoor
open Go Go.RowKit
theorem own_kept {w w' : World} {base : Nat} {e : TypeId} {size : Nat} {v : Value} {n : Nat} {xs : List Value} (h : w.ownsRow base e size v n xs) (hk : Kept w w') : w'.ownsRow base e size v n xs := by
  refine ⟨h.1, ?_⟩
  rcases h.2 with h0 | ⟨g, cap, cur, rfl, hg, hgg, rest⟩
  · exact .inl h0
  · exact .inr ⟨g, cap, cur, rfl, hg, (hk.block g (block_lt hgg)).trans hgg, rest⟩
end Go.Proofs.YtckgmkjoblneeaaGreatDoor
namespace Go.Proofs.YtckgmkjoblneeaaGreatDoor
open Go Go.RowKit
end Go.Proofs.YtckgmkjoblneeaaGreatDoor
