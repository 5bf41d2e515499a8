/- References: Small of layers 2, 11, 20, 21; Compare and Equal of layer 1. Contracts of the library that the kit's shelf has, laid over this program. Written by wip/mkshelf.py through the kit's lay-plain.mjs. decompose.measure: the search in depth. -/
import Derived.Shelf.Small.Bits
import Derived.Shelf.Strconv.Itoa0
import Derived.Ground.Names2Prog
import Derived.Shelf.SlSortCmp.Insertion
import Derived.Shelf.SlSortCmp.Insertion1
import Derived.Shelf.SlSortCmp.WholeK
import Derived.Shelf.SlSortCmp.NoneTotal
import Derived.Ground.SlsfProg
import Derived.Shelf.Slices.Clone
import Derived.Shelf.SlicesE.Clone
import Derived.Ground.SlgnProg
import Derived.Test.YtomgchfjachedaaGreatDoorKOwn
import Derived.Test.YtomgchfjachedaaGreatDoorKPl
import Derived.Test.YtomgchfjachedaaGreatDoorProg
import Derived.Test.YtomgchfjachedaaGreatDoorKBase
namespace Go.Proofs.YtomgchfjachedaaGreatDoor
open Go Go.RowKit
set_option maxHeartbeats 1000000 in
theorem r01Compare (A B : Option Addr) (n m c d : Nat) (xs ys : List Int) (w : World) (hn : n ≤ 100000000) (_hm : m ≤ 100000000) (hx : Ints w A n xs) (hy : Ints w B m ys) :
    Calls Tryz.prog 63 #[.slice A n c, .slice B m d] w (RetI w (cmpL xs ys)) := by
  have HX := Lib.hid hx
  have HY := Lib.hid hy
  have HXN := Lib.hid hx.1
  have HYN := Lib.hid hy.1
  clear hx hy
  go_enter Tryz.func63, Tryz.ntmps63
  go_wp2
  go_loopw [5] (fun i wr => ∃ k : Nat, k ≤ n ∧ k ≤ m ∧ i = .int .i64 k ∧ cmpL xs ys = cmpL (xs.drop k) (ys.drop k) ∧ Below w.heap.size w wr) (fun i _ => n - (intOf i).toNat)
  case atStart => exact ⟨0, Nat.zero_le _, Nat.zero_le _, rfl, rfl, Below.refl _ _⟩
  case round =>
    obtain ⟨k, hk, hk2, rfl, hc, hB⟩ := hrel
    have HC := Lib.hid hc
    clear hc
    by_cases h1 : k < n
    · by_cases h2 : k < m
      · obtain ⟨b, off, x, rfl, hx, c0⟩ := int_at (HX.out.kept hB) h1
        obtain ⟨b2, off2, y, rfl, hy, c1⟩ := int_at (HY.out.kept hB) h2
        have hcc : cmpL (xs.drop k) (ys.drop k) = if x < y then -1 else if y < x then 1 else cmpL (xs.drop (k + 1)) (ys.drop (k + 1)) := by
          rw [drop_some hx, drop_some hy, cmpL]
        have HCC := Lib.hid (HC.out.trans hcc)
        clear hx hy hcc
        have g1 : (k : Int) < (n : Int) := by omega
        have g2 : (k : Int) < (m : Int) := by omega
        by_cases h3 : x < y
        · go_wp2
          go_quiet (fail)
          go_wp2
          go_ret
          exact ⟨ret_int (by rw [HCC.out, if_pos h3]), Kept.drewN hB _⟩
        · by_cases h4 : y < x
          · have h4' : x > y := h4
            go_wp2
            go_quiet (fail)
            go_wp2
            go_quiet (fail)
            go_wp2
            go_ret
            exact ⟨ret_int (by rw [HCC.out, if_neg (show ¬ x < y by omega), if_pos h4]), by repeat (first | exact hB | refine Kept.drewN ?_ _)⟩
          · go_wp2
            go_quiet (fail)
            go_wp2
            go_quiet (fail)
            go_wp2
            go_roundw
            case rel => exact ⟨k + 1, by omega, by omega, by go_num, by rw [HCC.out, if_neg (show ¬ x < y by omega), if_neg (show ¬ y < x by omega)], by repeat (first | exact hB | refine Kept.drewN ?_ _)⟩
            case measure => simp [intOf]; omega
      · have hkm : k = m := by omega
        have hres : cmpL xs ys = 1 := by
          rw [HC.out, List.drop_of_length_le (l := ys) (by have := HYN.out; omega)]
          obtain ⟨x, hx⟩ := getElem?_some_of_lt (l := xs) (k := k) (by have := HXN.out; omega)
          rw [drop_some hx, cmpL]
        have HR := Lib.hid hres
        clear hres
        go_wp2
        go_ret
        exact ⟨ret_int HR.out.symm, hB⟩
    · have hkn : k = n := by omega
      by_cases h2 : k < m
      · have hres : cmpL xs ys = -1 := by
          rw [HC.out, List.drop_of_length_le (l := xs) (by have := HXN.out; omega)]
          obtain ⟨x, hx⟩ := getElem?_some_of_lt (l := ys) (k := k) (by have := HYN.out; omega)
          rw [drop_some hx, cmpL]
        have HR := Lib.hid hres
        clear hres
        go_wp2
        go_ret
        exact ⟨ret_int HR.out.symm, hB⟩
      · have hres : cmpL xs ys = 0 := by
          rw [HC.out, List.drop_of_length_le (l := xs) (by have := HXN.out; omega), List.drop_of_length_le (l := ys) (by have := HYN.out; omega), cmpL]
        have HR := Lib.hid hres
        clear hres
        go_wp2
        go_ret
        exact ⟨ret_int HR.out.symm, hB⟩
theorem r01Equal (A B : Option Addr) (n m c d : Nat) (xs ys : List Int) (w : World) (hn : n ≤ 100000000) (hm : m ≤ 100000000) (hx : Ints w A n xs) (hy : Ints w B m ys) :
    Calls Tryz.prog 30 #[.slice A n c, .slice B m d] w (RetB w (decide (xs = ys))) := by
  have HC := Lib.hid (r01Compare A B n m c d xs ys w hn hm hx hy)
  clear hx hy
  go_enter Tryz.func30, Tryz.ntmps30
  go_wp2_with (go_at_call 63; refine HC.out.mono ?_; rintro e w' ⟨rfl, hk⟩)
  go_ret
  exact ⟨ret_bool (cmpL_zero xs ys), hk⟩
end Go.Proofs.YtomgchfjachedaaGreatDoor
namespace Go.Proofs
open Go.Shelf
def Tryz.sortRng_ren : Go.Shelf.Ren := ⟨fun | 6 => 75 | 15 => 121 | 14 => 120 | 28 => 159 | 29 => 160 | 20 => 151 | 21 => 152 | 22 => 153 | 23 => 154 | 24 => 155 | 25 => 156 | 26 => 157 | 27 => 158 | 46 => 177 | 47 => 178 | 48 => 179 | 49 => 180 | 50 => 181 | 57 => 187 | n => n, fun | 22 => 24 | 24 => 81 | 25 => 108 | 3 => 3 | 39 => 146 | 0 => 0 | 53 => 176 | 55 => 178 | 4 => 4 | 46 => 170 | 45 => 169 | 50 => 112 | 5 => 5 | 9 => 9 | 66 => 190 | 70 => 194 | 76 => 200 | 77 => 201 | n => n, fun | n => n⟩
theorem Tryz.sortRng : Go.Proofs.SlLaysF0.n6 Tryz.prog Tryz.sortRng_ren := {
  mixed := by kernel_rfl
  f6 := ⟨Tryz.f75.name, by decide, Tryz.func75.trans (congrArg some (by kernel_rfl))⟩
  f14 := ⟨Tryz.f120.name, by decide, Tryz.func120.trans (congrArg some (by kernel_rfl))⟩
  f15 := Tryz.func121.trans (congrArg some (by kernel_rfl))
  f20 := ⟨Tryz.f151.name, by decide, Tryz.func151.trans (congrArg some (by kernel_rfl))⟩
  f21 := ⟨Tryz.f152.name, by decide, Tryz.func152.trans (congrArg some (by kernel_rfl))⟩
  f22 := ⟨Tryz.f153.name, by decide, Tryz.func153.trans (congrArg some (by kernel_rfl))⟩
  f23 := ⟨Tryz.f154.name, by decide, Tryz.func154.trans (congrArg some (by kernel_rfl))⟩
  f24 := ⟨Tryz.f155.name, by decide, Tryz.func155.trans (congrArg some (by kernel_rfl))⟩
  f25 := ⟨Tryz.f156.name, by decide, Tryz.func156.trans (congrArg some (by kernel_rfl))⟩
  f26 := ⟨Tryz.f157.name, by decide, Tryz.func157.trans (congrArg some (by kernel_rfl))⟩
  f27 := ⟨Tryz.f158.name, by decide, Tryz.func158.trans (congrArg some (by kernel_rfl))⟩
  f28 := Tryz.func159.trans (congrArg some (by kernel_rfl))
  f29 := Tryz.func160.trans (congrArg some (by kernel_rfl))
  f46 := ⟨Tryz.f177.name, by decide, Tryz.func177.trans (congrArg some (by kernel_rfl))⟩
  f47 := Tryz.func178.trans (congrArg some (by kernel_rfl))
  f48 := Tryz.func179.trans (congrArg some (by kernel_rfl))
  f49 := ⟨Tryz.f180.name, by decide, Tryz.func180.trans (congrArg some (by kernel_rfl))⟩
  f50 := ⟨Tryz.f181.name, by decide, Tryz.func181.trans (congrArg some (by kernel_rfl))⟩
  f57 := ⟨Tryz.f187.name, by decide, Tryz.func187.trans (congrArg some (by kernel_rfl))⟩
  t0 := Tryz.underlying0
  a0 := Tryz.isAgg0
  z0 := Tryz.sizeOf0
  v0 := Tryz.zeroValue0
  t3 := Tryz.underlying3
  a3 := Tryz.isAgg3
  z3 := Tryz.sizeOf3
  v3 := Tryz.zeroValue3
  t4 := Tryz.underlying4
  a4 := Tryz.isAgg4
  z4 := Tryz.sizeOf4
  v4 := Tryz.zeroValue4
  t5 := Tryz.underlying5
  a5 := Tryz.isAgg5
  z5 := Tryz.sizeOf5
  v5 := Tryz.zeroValue5
  t9 := Tryz.underlying9
  a9 := Tryz.isAgg9
  z9 := Tryz.sizeOf9
  v9 := Tryz.zeroValue9
  t22 := Tryz.underlying24
  a22 := Tryz.isAgg24
  z22 := Tryz.sizeOf24
  v22 := Tryz.zeroValue24
  t25 := Tryz.underlying108
  a25 := Tryz.isAgg108
  z25 := Tryz.sizeOf108
  v25 := Tryz.zeroValue108
  t39 := Tryz.underlying146
  a39 := Tryz.isAgg146
  z39 := Tryz.sizeOf146
  v39 := Tryz.zeroValue146
  t45 := Tryz.underlying169
  a45 := Tryz.isAgg169
  z45 := Tryz.sizeOf169
  v45 := Tryz.zeroValue169
  t46 := Tryz.underlying170
  a46 := Tryz.isAgg170
  z46 := Tryz.sizeOf170
  v46 := Tryz.zeroValue170
  t50 := Tryz.underlying112
  a50 := Tryz.isAgg112
  z50 := Tryz.sizeOf112
  v50 := Tryz.zeroValue112
  t53 := Tryz.underlying176
  a53 := Tryz.isAgg176
  z53 := Tryz.sizeOf176
  v53 := Tryz.zeroValue176
  t55 := Tryz.underlying178
  a55 := Tryz.isAgg178
  z55 := Tryz.sizeOf178
  v55 := Tryz.zeroValue178
  t66 := Tryz.underlying190
  a66 := Tryz.isAgg190
  z66 := Tryz.sizeOf190
  v66 := Tryz.zeroValue190
  t70 := Tryz.underlying194
  a70 := Tryz.isAgg194
  z70 := Tryz.sizeOf194
  v70 := Tryz.zeroValue194
  t76 := Tryz.underlying200
  a76 := Tryz.isAgg200
  z76 := Tryz.sizeOf200
  v76 := Tryz.zeroValue200
  t77 := Tryz.underlying201
  a77 := Tryz.isAgg201
  z77 := Tryz.sizeOf201
  v77 := Tryz.zeroValue201 }
end Go.Proofs
namespace Go.Proofs.YtomgchfjachedaaGreatDoor
open Go Go.RowKit
structure KeptBut (S : List Nat) (w w' : World) : Prop where
  os : w'.os = w.os
  tape : w'.tape = w.tape
  output : w'.output = w.output
  size : w.heap.size ≤ w'.heap.size
  block : ∀ i, i < w.heap.size → i ∉ S → w'.heap[i]? = w.heap[i]?
theorem KeptBut.refl (S : List Nat) (w : World) : KeptBut S w w := ⟨rfl, rfl, rfl, Nat.le_refl _, fun _ _ _ => rfl⟩
theorem KeptBut.trans {S : List Nat} {a b c : World} (h : KeptBut S a b) (k : KeptBut S b c) : KeptBut S a c :=
  ⟨k.os.trans h.os, k.tape.trans h.tape, k.output.trans h.output, Nat.le_trans h.size k.size, fun i hi hS => (k.block i (Nat.lt_of_lt_of_le hi h.size) hS).trans (h.block i hi hS)⟩
theorem Kept.but {w w' : World} (h : Kept w w') (S : List Nat) : KeptBut S w w' := ⟨h.os, h.tape, h.output, h.size, fun i hi _ => h.block i hi⟩
theorem KeptBut.of_grown {S : List Nat} {w w' : World} {b : Nat} (h : w.grownBy w' (some b)) (hb : b ∈ S) : KeptBut S w w' :=
  ⟨h.os, h.tape, h.output, h.size, fun i hi hS => h.block i hi (fun e => hS (by injection e with e; rw [e]; exact hb))⟩
theorem KeptBut.below {S : List Nat} {B : Nat} {w w' : World} (h : KeptBut S w w') (hS : ∀ b ∈ S, B ≤ b) (hB : B ≤ w.heap.size) : Below B w w' :=
  ⟨h.os, h.tape, h.output, h.size, fun i hi => h.block i (by omega) (fun hm => by have := hS i hm; omega)⟩
theorem KeptBut.setCell {S : List Nat} (w : World) {p : Addr} (hp : p.block ∈ S) (v : Value) : KeptBut S w (w.setCell p v) :=
  ⟨rfl, rfl, rfl, by simp [World.setCell], fun i _ hS => Below.heap_setCell w p v i (fun e => hS (by rw [e]; exact hp))⟩
theorem KeptBut.cell {S : List Nat} {w w' : World} (h : KeptBut S w w') {p : Addr} {v : Value} (hc : w.cell? p = some v) (hp : p.block ∉ S) : w'.cell? p = some v :=
  (World.cell?_of_block (h.block p.block (cell_lt hc) hp)).trans hc
theorem Ints.keptBut {S : List Nat} {w w' : World} {A : Option Addr} {n : Nat} {xs : List Int} (h : Ints w A n xs) (hk : KeptBut S w w') (hS : ∀ b ∈ S, ∀ off x, w.cell? ⟨b, off, none⟩ ≠ some (.int .i64 x)) : Ints w' A n xs :=
  ⟨h.1, fun hn => by
    obtain ⟨b, off, e, hc⟩ := h.2 hn
    refine ⟨b, off, e, fun i x hx j u hu => hk.cell (hc i x hx j u hu) (fun hb => ?_)⟩
    have hj : j = 0 := by
      have := lt_of_getElem?_some hu
      simp [encI] at this
      exact this
    subst hj
    simp only [encI, List.getElem?_cons_zero, Option.some.injEq] at hu
    subst hu
    exact hS b hb _ x (hc i x hx 0 _ rfl)⟩
structure MeasAt (w : World) (bn bs bc bf bl bm : Nat) (s : Sls) (st : MSt) : Prop where
  n : w.heap[bn]? = some (.cells #[.slice s.Ac s.nc s.cc, .slice s.Am s.nm s.cm, .slice s.Ae s.ne s.ce] 28 (0, 0))
  s : w.heap[bs]? = some (.cells #[.map (some bm)] 78 (0, 0))
  c : w.heap[bc]? = some (.cells #[.bool st.cyc] 4 (0, 0))
  f : w.heap[bf]? = some (.cells #[.func (.func 135) #[] #[.pointer (some ⟨bn, 0, none⟩), .pointer (some ⟨bs, 0, none⟩), .pointer (some ⟨bc, 0, none⟩), .pointer (some ⟨bf, 0, none⟩), .pointer (some ⟨bl, 0, none⟩)]] 118 (0, 0))
  l : w.heap[bl]? = some (.cells #[.bool st.long] 4 (0, 0))
  m : MapIs w bm (fun k : Int => Value.int .i64 k) (st.M.map fun p => (p.1, Value.int .i64 p.2))
  ne : bc ≠ bl
theorem MeasAt.kept {w w' : World} {bn bs bc bf bl bm : Nat} {s : Sls} {st : MSt} (h : MeasAt w bn bs bc bf bl bm s st) (hk : Kept w w') : MeasAt w' bn bs bc bf bl bm s st :=
  ⟨(hk.block _ (block_lt h.n)).trans h.n, (hk.block _ (block_lt h.s)).trans h.s, (hk.block _ (block_lt h.c)).trans h.c, (hk.block _ (block_lt h.f)).trans h.f, (hk.block _ (block_lt h.l)).trans h.l, h.m.kept hk, h.ne⟩
theorem MeasAt.noInt {w : World} {bn bs bc bf bl bm : Nat} {s : Sls} {st : MSt} (h : MeasAt w bn bs bc bf bl bm s st) : ∀ b ∈ [bc, bl, bm], ∀ off x, w.cell? ⟨b, off, none⟩ ≠ some (.int .i64 x) := by
  intro b hb off x hc
  simp only [List.mem_cons, List.not_mem_nil, or_false] at hb
  rcases hb with rfl | rfl | rfl
  · unfold World.cell? at hc
    simp [h.c] at hc
    cases off <;> simp at hc
  · unfold World.cell? at hc
    simp [h.l] at hc
    cases off <;> simp at hc
  · obtain ⟨es, cl, hm, _⟩ := h.m
    unfold World.cell? at hc
    simp [hm] at hc
theorem MeasAt.mapped {w w' : World} {bn bs bc bf bl bm : Nat} {s : Sls} {st : MSt} (h : MeasAt w bn bs bc bf bl bm s st) {M : List (Int × Int)} (hg : w.grownBy w' (some bm)) (hm : MapIs w' bm (fun k : Int => Value.int .i64 k) (M.map fun p => (p.1, Value.int .i64 p.2))) :
    MeasAt w' bn bs bc bf bl bm s { st with M := M } := by
  obtain ⟨es, cl, hmm, _⟩ := h.m
  have ne : ∀ {b : Nat} {cs : Array Value} {t : TypeId}, w.heap[b]? = some (.cells cs t (0, 0)) → some b ≠ some bm := fun hb e => by
    injection e with e
    subst e
    rw [hmm] at hb
    cases hb
  exact ⟨(hg.block _ (block_lt h.n) (ne h.n)).trans h.n, (hg.block _ (block_lt h.s) (ne h.s)).trans h.s, (hg.block _ (block_lt h.c) (ne h.c)).trans h.c, (hg.block _ (block_lt h.f) (ne h.f)).trans h.f, (hg.block _ (block_lt h.l) (ne h.l)).trans h.l, hm, h.ne⟩
theorem heap_setCell_same {w : World} {b : Nat} {u v : Value} {t : TypeId} (h : w.heap[b]? = some (.cells #[u] t (0, 0))) : (w.setCell ⟨b, 0, none⟩ v).heap[b]? = some (.cells #[v] t (0, 0)) := by
  simp [World.setCell, Array.getElem?_modify, h]
theorem MeasAt.setC {w : World} {bn bs bc bf bl bm : Nat} {s : Sls} {st : MSt} (h : MeasAt w bn bs bc bf bl bm s st) (b : Bool) : MeasAt (w.setCell ⟨bc, 0, none⟩ (.bool b)) bn bs bc bf bl bm s { st with cyc := b } := by
  have hsc : ∀ i, i ≠ bc → (w.setCell ⟨bc, 0, none⟩ (.bool b)).heap[i]? = w.heap[i]? := fun i hi => Below.heap_setCell w ⟨bc, 0, none⟩ _ i hi
  have d : ∀ {i : Nat} {cs : Array Value} {t : TypeId}, w.heap[i]? = some (.cells cs t (0, 0)) → t ≠ 4 → i ≠ bc := fun hi ht e => by
    subst e
    rw [h.c] at hi
    simp only [Option.some.injEq, Obj.cells.injEq] at hi
    exact ht hi.2.1.symm
  refine ⟨(hsc _ (d h.n (by decide))).trans h.n, (hsc _ (d h.s (by decide))).trans h.s, heap_setCell_same h.c, (hsc _ (d h.f (by decide))).trans h.f, (hsc _ (Ne.symm h.ne)).trans h.l, h.m.block (hsc _ (fun e => ?_)), h.ne⟩
  obtain ⟨es, cl, hmm, _⟩ := h.m
  subst e
  rw [h.c] at hmm
  cases hmm
theorem MeasAt.setL {w : World} {bn bs bc bf bl bm : Nat} {s : Sls} {st : MSt} (h : MeasAt w bn bs bc bf bl bm s st) (b : Bool) : MeasAt (w.setCell ⟨bl, 0, none⟩ (.bool b)) bn bs bc bf bl bm s { st with long := b } := by
  have hsc : ∀ i, i ≠ bl → (w.setCell ⟨bl, 0, none⟩ (.bool b)).heap[i]? = w.heap[i]? := fun i hi => Below.heap_setCell w ⟨bl, 0, none⟩ _ i hi
  have d : ∀ {i : Nat} {cs : Array Value} {t : TypeId}, w.heap[i]? = some (.cells cs t (0, 0)) → t ≠ 4 → i ≠ bl := fun hi ht e => by
    subst e
    rw [h.l] at hi
    simp only [Option.some.injEq, Obj.cells.injEq] at hi
    exact ht hi.2.1.symm
  refine ⟨(hsc _ (d h.n (by decide))).trans h.n, (hsc _ (d h.s (by decide))).trans h.s, (hsc _ h.ne).trans h.c, (hsc _ (d h.f (by decide))).trans h.f, heap_setCell_same h.l, h.m.block (hsc _ (fun e => ?_)), h.ne⟩
  obtain ⟨es, cl, hmm, _⟩ := h.m
  subst e
  rw [h.l] at hmm
  cases hmm
end Go.Proofs.YtomgchfjachedaaGreatDoor
