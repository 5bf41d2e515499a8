/- References: Small of layers 2, 11, 20, 21; Compare and Equal of layer 1. Contracts of the library that the kit's shelf has, laid over this program. Written by wip/mkshelf.py through the kit's lay-plain.mjs. -/
import Derived.Shelf.Small.Bits
import Derived.Shelf.Strconv.Itoa0
import Derived.Ground.Names2Prog
import Derived.Shelf.SlSortCmp.Insertion
import Derived.Shelf.SlSortCmp.Insertion1
import Derived.Shelf.SlSortCmp.WholeK
import Derived.Shelf.SlSortCmp.NoneTotal
import Derived.Ground.SlsfProg
import Derived.Shelf.Slices.Clone
import Derived.Shelf.SlicesE.Clone
import Derived.Ground.SlgnProg
import Derived.Test.YtmlcdohldkgcdaaGreatDoorKDca
import Derived.Test.YtmlcdohldkgcdaaGreatDoorKPl
import Derived.Test.YtmlcdohldkgcdaaGreatDoorProg
namespace Go.Proofs.YtmlcdohldkgcdaaGreatDoor
open Go Go.RowKit
theorem r02Small (A : Option Addr) (n c : Nat) (w : World) : Calls Tryz.prog 34 #[.agg #[.slice A n c]] w (RetB w (decide (n ≤ 12))) := by
  go_enter Tryz.func34, Tryz.ntmps34
  go_wp2
  go_ret
  exact ⟨ret_bool (by rw [decide_eq_decide]; omega), Kept.alloc (Kept.refl _) _⟩
set_option maxHeartbeats 1000000 in
theorem r01Compare (A B : Option Addr) (n m c d : Nat) (xs ys : List Int) (w : World) (hn : n ≤ 100000000) (_hm : m ≤ 100000000) (hx : Ints w A n xs) (hy : Ints w B m ys) :
    Calls Tryz.prog 67 #[.slice A n c, .slice B m d] w (RetI w (cmpL xs ys)) := by
  have HX := Lib.hid hx
  have HY := Lib.hid hy
  have HXN := Lib.hid hx.1
  have HYN := Lib.hid hy.1
  clear hx hy
  go_enter Tryz.func67, Tryz.ntmps67
  go_wp2
  go_loopw [5] (fun i wr => ∃ k : Nat, k ≤ n ∧ k ≤ m ∧ i = .int .i64 k ∧ cmpL xs ys = cmpL (xs.drop k) (ys.drop k) ∧ Below w.heap.size w wr) (fun i _ => n - (intOf i).toNat)
  case atStart => exact ⟨0, Nat.zero_le _, Nat.zero_le _, rfl, rfl, Below.refl _ _⟩
  case round =>
    obtain ⟨k, hk, hk2, rfl, hc, hB⟩ := hrel
    have HC := Lib.hid hc
    clear hc
    by_cases h1 : k < n
    · by_cases h2 : k < m
      · obtain ⟨b, off, x, rfl, hx, c0⟩ := int_at (HX.out.kept hB) h1
        obtain ⟨b2, off2, y, rfl, hy, c1⟩ := int_at (HY.out.kept hB) h2
        have hcc : cmpL (xs.drop k) (ys.drop k) = if x < y then -1 else if y < x then 1 else cmpL (xs.drop (k + 1)) (ys.drop (k + 1)) := by
          rw [drop_some hx, drop_some hy, cmpL]
        have HCC := Lib.hid (HC.out.trans hcc)
        clear hx hy hcc
        have g1 : (k : Int) < (n : Int) := by omega
        have g2 : (k : Int) < (m : Int) := by omega
        by_cases h3 : x < y
        · go_wp2
          go_quiet (fail)
          go_wp2
          go_ret
          exact ⟨ret_int (by rw [HCC.out, if_pos h3]), Kept.drewN hB _⟩
        · by_cases h4 : y < x
          · have h4' : x > y := h4
            go_wp2
            go_quiet (fail)
            go_wp2
            go_quiet (fail)
            go_wp2
            go_ret
            exact ⟨ret_int (by rw [HCC.out, if_neg (show ¬ x < y by omega), if_pos h4]), by repeat (first | exact hB | refine Kept.drewN ?_ _)⟩
          · go_wp2
            go_quiet (fail)
            go_wp2
            go_quiet (fail)
            go_wp2
            go_roundw
            case rel => exact ⟨k + 1, by omega, by omega, by go_num, by rw [HCC.out, if_neg (show ¬ x < y by omega), if_neg (show ¬ y < x by omega)], by repeat (first | exact hB | refine Kept.drewN ?_ _)⟩
            case measure => simp [intOf]; omega
      · have hkm : k = m := by omega
        have hres : cmpL xs ys = 1 := by
          rw [HC.out, List.drop_of_length_le (l := ys) (by have := HYN.out; omega)]
          obtain ⟨x, hx⟩ := getElem?_some_of_lt (l := xs) (k := k) (by have := HXN.out; omega)
          rw [drop_some hx, cmpL]
        have HR := Lib.hid hres
        clear hres
        go_wp2
        go_ret
        exact ⟨ret_int HR.out.symm, hB⟩
    · have hkn : k = n := by omega
      by_cases h2 : k < m
      · have hres : cmpL xs ys = -1 := by
          rw [HC.out, List.drop_of_length_le (l := xs) (by have := HXN.out; omega)]
          obtain ⟨x, hx⟩ := getElem?_some_of_lt (l := ys) (k := k) (by have := HYN.out; omega)
          rw [drop_some hx, cmpL]
        have HR := Lib.hid hres
        clear hres
        go_wp2
        go_ret
        exact ⟨ret_int HR.out.symm, hB⟩
      · have hres : cmpL xs ys = 0 := by
          rw [HC.out, List.drop_of_length_le (l := xs) (by have := HXN.out; omega), List.drop_of_length_le (l := ys) (by have := HYN.out; omega), cmpL]
        have HR := Lib.hid hres
        clear hres
        go_wp2
        go_ret
        exact ⟨ret_int HR.out.symm, hB⟩
theorem r01Equal (A B : Option Addr) (n m c d : Nat) (xs ys : List Int) (w : World) (hn : n ≤ 100000000) (hm : m ≤ 100000000) (hx : Ints w A n xs) (hy : Ints w B m ys) :
    Calls Tryz.prog 43 #[.slice A n c, .slice B m d] w (RetB w (decide (xs = ys))) := by
  have HC := Lib.hid (r01Compare A B n m c d xs ys w hn hm hx hy)
  clear hx hy
  go_enter Tryz.func43, Tryz.ntmps43
  go_wp2_with (go_at_call 67; refine HC.out.mono ?_; rintro e w' ⟨rfl, hk⟩)
  go_ret
  exact ⟨ret_bool (cmpL_zero xs ys), hk⟩
end Go.Proofs.YtmlcdohldkgcdaaGreatDoor
namespace Go.Proofs
open Go.Shelf
def Tryz.sortRng_ren : Go.Shelf.Ren := ⟨fun | 6 => 99 | 15 => 131 | 14 => 130 | 28 => 173 | 29 => 174 | 20 => 165 | 21 => 166 | 22 => 167 | 23 => 168 | 24 => 169 | 25 => 170 | 26 => 171 | 27 => 172 | 46 => 195 | 47 => 196 | 48 => 197 | 49 => 198 | 50 => 199 | 57 => 212 | n => n, fun | 22 => 24 | 24 => 48 | 25 => 150 | 3 => 3 | 39 => 191 | 0 => 0 | 53 => 221 | 55 => 223 | 4 => 4 | 46 => 215 | 45 => 214 | 50 => 64 | 5 => 5 | 9 => 9 | 66 => 246 | 70 => 250 | 76 => 261 | 77 => 92 | n => n, fun | n => n⟩
theorem Tryz.sortRng : Go.Proofs.SlLaysF0.n6 Tryz.prog Tryz.sortRng_ren := {
  mixed := by kernel_rfl
  f6 := ⟨Tryz.f99.name, by decide, Tryz.func99.trans (congrArg some (by kernel_rfl))⟩
  f14 := ⟨Tryz.f130.name, by decide, Tryz.func130.trans (congrArg some (by kernel_rfl))⟩
  f15 := Tryz.func131.trans (congrArg some (by kernel_rfl))
  f20 := ⟨Tryz.f165.name, by decide, Tryz.func165.trans (congrArg some (by kernel_rfl))⟩
  f21 := ⟨Tryz.f166.name, by decide, Tryz.func166.trans (congrArg some (by kernel_rfl))⟩
  f22 := ⟨Tryz.f167.name, by decide, Tryz.func167.trans (congrArg some (by kernel_rfl))⟩
  f23 := ⟨Tryz.f168.name, by decide, Tryz.func168.trans (congrArg some (by kernel_rfl))⟩
  f24 := ⟨Tryz.f169.name, by decide, Tryz.func169.trans (congrArg some (by kernel_rfl))⟩
  f25 := ⟨Tryz.f170.name, by decide, Tryz.func170.trans (congrArg some (by kernel_rfl))⟩
  f26 := ⟨Tryz.f171.name, by decide, Tryz.func171.trans (congrArg some (by kernel_rfl))⟩
  f27 := ⟨Tryz.f172.name, by decide, Tryz.func172.trans (congrArg some (by kernel_rfl))⟩
  f28 := Tryz.func173.trans (congrArg some (by kernel_rfl))
  f29 := Tryz.func174.trans (congrArg some (by kernel_rfl))
  f46 := ⟨Tryz.f195.name, by decide, Tryz.func195.trans (congrArg some (by kernel_rfl))⟩
  f47 := Tryz.func196.trans (congrArg some (by kernel_rfl))
  f48 := Tryz.func197.trans (congrArg some (by kernel_rfl))
  f49 := ⟨Tryz.f198.name, by decide, Tryz.func198.trans (congrArg some (by kernel_rfl))⟩
  f50 := ⟨Tryz.f199.name, by decide, Tryz.func199.trans (congrArg some (by kernel_rfl))⟩
  f57 := ⟨Tryz.f212.name, by decide, Tryz.func212.trans (congrArg some (by kernel_rfl))⟩
  t0 := Tryz.underlying0
  a0 := Tryz.isAgg0
  z0 := Tryz.sizeOf0
  v0 := Tryz.zeroValue0
  t3 := Tryz.underlying3
  a3 := Tryz.isAgg3
  z3 := Tryz.sizeOf3
  v3 := Tryz.zeroValue3
  t4 := Tryz.underlying4
  a4 := Tryz.isAgg4
  z4 := Tryz.sizeOf4
  v4 := Tryz.zeroValue4
  t5 := Tryz.underlying5
  a5 := Tryz.isAgg5
  z5 := Tryz.sizeOf5
  v5 := Tryz.zeroValue5
  t9 := Tryz.underlying9
  a9 := Tryz.isAgg9
  z9 := Tryz.sizeOf9
  v9 := Tryz.zeroValue9
  t22 := Tryz.underlying24
  a22 := Tryz.isAgg24
  z22 := Tryz.sizeOf24
  v22 := Tryz.zeroValue24
  t25 := Tryz.underlying150
  a25 := Tryz.isAgg150
  z25 := Tryz.sizeOf150
  v25 := Tryz.zeroValue150
  t39 := Tryz.underlying191
  a39 := Tryz.isAgg191
  z39 := Tryz.sizeOf191
  v39 := Tryz.zeroValue191
  t45 := Tryz.underlying214
  a45 := Tryz.isAgg214
  z45 := Tryz.sizeOf214
  v45 := Tryz.zeroValue214
  t46 := Tryz.underlying215
  a46 := Tryz.isAgg215
  z46 := Tryz.sizeOf215
  v46 := Tryz.zeroValue215
  t50 := Tryz.underlying64
  a50 := Tryz.isAgg64
  z50 := Tryz.sizeOf64
  v50 := Tryz.zeroValue64
  t53 := Tryz.underlying221
  a53 := Tryz.isAgg221
  z53 := Tryz.sizeOf221
  v53 := Tryz.zeroValue221
  t55 := Tryz.underlying223
  a55 := Tryz.isAgg223
  z55 := Tryz.sizeOf223
  v55 := Tryz.zeroValue223
  t66 := Tryz.underlying246
  a66 := Tryz.isAgg246
  z66 := Tryz.sizeOf246
  v66 := Tryz.zeroValue246
  t70 := Tryz.underlying250
  a70 := Tryz.isAgg250
  z70 := Tryz.sizeOf250
  v70 := Tryz.zeroValue250
  t76 := Tryz.underlying261
  a76 := Tryz.isAgg261
  z76 := Tryz.sizeOf261
  v76 := Tryz.zeroValue261
  t77 := Tryz.underlying92
  a77 := Tryz.isAgg92
  z77 := Tryz.sizeOf92
  v77 := Tryz.zeroValue92 }
end Go.Proofs
