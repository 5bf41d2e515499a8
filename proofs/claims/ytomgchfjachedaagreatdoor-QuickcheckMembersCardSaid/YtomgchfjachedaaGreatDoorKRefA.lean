/- References: Small of layers 2, 11, 20, 21; Compare and Equal of layer 1. Contracts of the library that the kit's shelf has, laid over this program. Written by wip/mkshelf.py through the kit's lay-plain.mjs. Maps that the code makes, as lists of pairs: look-ups and stores, for keys that are numbers or small structs. -/
import Derived.Shelf.Small.Bits
import Derived.Shelf.Strconv.Itoa0
import Derived.Ground.Names2Prog
import Derived.Shelf.SlSortCmp.Insertion
import Derived.Shelf.SlSortCmp.Insertion1
import Derived.Shelf.SlSortCmp.WholeK
import Derived.Shelf.SlSortCmp.NoneTotal
import Derived.Ground.SlsfProg
import Derived.Shelf.Slices.Clone
import Derived.Shelf.SlicesE.Clone
import Derived.Ground.SlgnProg
import Derived.Laws.StructEq
import Derived.MapKept
import Derived.Test.YtomgchfjachedaaGreatDoorKOwn
import Derived.Test.YtomgchfjachedaaGreatDoorKPl
import Derived.Test.YtomgchfjachedaaGreatDoorProg
import Derived.Test.YtomgchfjachedaaGreatDoorKBase
namespace Go.Proofs.YtomgchfjachedaaGreatDoor
open Go Go.RowKit
theorem r20Small (A : Option Addr) (n c : Nat) (w : World) : Calls Tryz.prog 35 #[.slice A n c] w fun e w' => e = .returned (.bool (decide (n ≤ 16))) ∧ w = w' := by
  go_enter Tryz.func35, Tryz.ntmps35
  go_wp2
  go_ret
  exact ⟨ret_bool (by rw [decide_eq_decide]; omega), rfl⟩
theorem r02Small (A : Option Addr) (n c : Nat) (w : World) : Calls Tryz.prog 37 #[.agg #[.slice A n c]] w (RetB w (decide (n ≤ 12))) := by
  go_enter Tryz.func37, Tryz.ntmps37
  go_wp2
  go_ret
  exact ⟨ret_bool (by rw [decide_eq_decide]; omega), Kept.alloc (Kept.refl _) _⟩
set_option maxHeartbeats 1000000 in
theorem r11Small (A : Option Addr) (n c : Nat) (l : List Mp) (w : World) (hn : n ≤ 9223372036854775807) (hl : Mps w A n l) (hto : ∀ m ∈ l, m.to.length ≤ 9223372036854775807) :
    Calls Tryz.prog 36 #[.slice A n c] w fun e w' => e = .returned (.bool (smallMaps l)) ∧ w = w' := by
  have HL := Lib.hid hl
  have HN := Lib.hid hl.1
  have HTO := Lib.hid hto
  clear hl hto
  go_enter Tryz.func36, Tryz.ntmps36
  go_wp2
  go_loop [3] (fun i => ∃ k : Nat, k ≤ n ∧ k ≤ 30 ∧ i = .int .i64 k ∧ (l.take k).any mpBig = false) (fun i => 30 - (intOf i).toNat)
  case atStart => exact ⟨0, Nat.zero_le _, by omega, rfl, by simp⟩
  case round =>
    obtain ⟨k, hk, hk3, rfl, hno⟩ := hrel
    have HNO := Lib.hid hno
    clear hno
    by_cases hlt : k < n
    · by_cases h30 : k < 30
      · obtain ⟨b, off, m, A', n', c', rfl, hm, hle, hI, c0, c1, c2⟩ := mp_at HL.out hlt
        have HM := Lib.hid hm
        have HI := Lib.hid hI.1
        have hn' : n' ≤ 9223372036854775807 := by rw [hI.1]; exact HTO.out m (mem_of_getElem?_some hm)
        have hbig : mpBig m = true → smallMaps l = false := fun h => by
          unfold smallMaps
          have : (l.take 30).any mpBig = true := List.any_eq_true.2 ⟨m, by
            have := HM.out
            exact List.mem_of_getElem? (i := k) (by rw [List.getElem?_take, if_pos h30]; exact this), h⟩
          rw [this]; rfl
        have HBG := Lib.hid hbig
        clear hm hI hbig
        go_wp2
        all_goals first
          | (go_ret
             exact ⟨ret_bool (HBG.out (by have := HI.out; simp [mpBig]; omega)).symm, rfl⟩)
          | (go_round
             case rel => exact ⟨k + 1, by omega, by omega, by go_num, by rw [any_take_snoc _ HM.out, HNO.out]; have := HI.out; simp [mpBig]; omega⟩
             case measure => simp [intOf]; omega)
      · obtain rfl : k = 30 := by omega
        go_wp2
        go_ret
        refine ⟨ret_bool ?_, rfl⟩
        unfold smallMaps
        rw [HNO.out, ← HN.out]
        simp; omega
    · have hkn : k = n := by omega
      go_wp2
      all_goals
        go_ret
        refine ⟨ret_bool ?_, rfl⟩
        unfold smallMaps
        have e1 : l.take 30 = l.take k := by rw [List.take_of_length_le (by have := HN.out; omega), List.take_of_length_le (by have := HN.out; omega)]
        rw [e1, HNO.out, ← HN.out]
        simp only [Bool.not_false, Bool.true_and, decide_eq_decide]; omega
end Go.Proofs.YtomgchfjachedaaGreatDoor
namespace Go.Proofs
open Go.Shelf
def Tryz.sortRng_ren : Go.Shelf.Ren := ⟨fun | 6 => 75 | 15 => 121 | 14 => 120 | 28 => 159 | 29 => 160 | 20 => 151 | 21 => 152 | 22 => 153 | 23 => 154 | 24 => 155 | 25 => 156 | 26 => 157 | 27 => 158 | 46 => 177 | 47 => 178 | 48 => 179 | 49 => 180 | 50 => 181 | 57 => 187 | n => n, fun | 22 => 24 | 24 => 81 | 25 => 108 | 3 => 3 | 39 => 146 | 0 => 0 | 53 => 176 | 55 => 178 | 4 => 4 | 46 => 170 | 45 => 169 | 50 => 112 | 5 => 5 | 9 => 9 | 66 => 190 | 70 => 194 | 76 => 200 | 77 => 201 | n => n, fun | n => n⟩
theorem Tryz.sortRng : Go.Proofs.SlLaysF0.n6 Tryz.prog Tryz.sortRng_ren := {
  mixed := by kernel_rfl
  f6 := ⟨Tryz.f75.name, by decide, Tryz.func75.trans (congrArg some (by kernel_rfl))⟩
  f14 := ⟨Tryz.f120.name, by decide, Tryz.func120.trans (congrArg some (by kernel_rfl))⟩
  f15 := Tryz.func121.trans (congrArg some (by kernel_rfl))
  f20 := ⟨Tryz.f151.name, by decide, Tryz.func151.trans (congrArg some (by kernel_rfl))⟩
  f21 := ⟨Tryz.f152.name, by decide, Tryz.func152.trans (congrArg some (by kernel_rfl))⟩
  f22 := ⟨Tryz.f153.name, by decide, Tryz.func153.trans (congrArg some (by kernel_rfl))⟩
  f23 := ⟨Tryz.f154.name, by decide, Tryz.func154.trans (congrArg some (by kernel_rfl))⟩
  f24 := ⟨Tryz.f155.name, by decide, Tryz.func155.trans (congrArg some (by kernel_rfl))⟩
  f25 := ⟨Tryz.f156.name, by decide, Tryz.func156.trans (congrArg some (by kernel_rfl))⟩
  f26 := ⟨Tryz.f157.name, by decide, Tryz.func157.trans (congrArg some (by kernel_rfl))⟩
  f27 := ⟨Tryz.f158.name, by decide, Tryz.func158.trans (congrArg some (by kernel_rfl))⟩
  f28 := Tryz.func159.trans (congrArg some (by kernel_rfl))
  f29 := Tryz.func160.trans (congrArg some (by kernel_rfl))
  f46 := ⟨Tryz.f177.name, by decide, Tryz.func177.trans (congrArg some (by kernel_rfl))⟩
  f47 := Tryz.func178.trans (congrArg some (by kernel_rfl))
  f48 := Tryz.func179.trans (congrArg some (by kernel_rfl))
  f49 := ⟨Tryz.f180.name, by decide, Tryz.func180.trans (congrArg some (by kernel_rfl))⟩
  f50 := ⟨Tryz.f181.name, by decide, Tryz.func181.trans (congrArg some (by kernel_rfl))⟩
  f57 := ⟨Tryz.f187.name, by decide, Tryz.func187.trans (congrArg some (by kernel_rfl))⟩
  t0 := Tryz.underlying0
  a0 := Tryz.isAgg0
  z0 := Tryz.sizeOf0
  v0 := Tryz.zeroValue0
  t3 := Tryz.underlying3
  a3 := Tryz.isAgg3
  z3 := Tryz.sizeOf3
  v3 := Tryz.zeroValue3
  t4 := Tryz.underlying4
  a4 := Tryz.isAgg4
  z4 := Tryz.sizeOf4
  v4 := Tryz.zeroValue4
  t5 := Tryz.underlying5
  a5 := Tryz.isAgg5
  z5 := Tryz.sizeOf5
  v5 := Tryz.zeroValue5
  t9 := Tryz.underlying9
  a9 := Tryz.isAgg9
  z9 := Tryz.sizeOf9
  v9 := Tryz.zeroValue9
  t22 := Tryz.underlying24
  a22 := Tryz.isAgg24
  z22 := Tryz.sizeOf24
  v22 := Tryz.zeroValue24
  t25 := Tryz.underlying108
  a25 := Tryz.isAgg108
  z25 := Tryz.sizeOf108
  v25 := Tryz.zeroValue108
  t39 := Tryz.underlying146
  a39 := Tryz.isAgg146
  z39 := Tryz.sizeOf146
  v39 := Tryz.zeroValue146
  t45 := Tryz.underlying169
  a45 := Tryz.isAgg169
  z45 := Tryz.sizeOf169
  v45 := Tryz.zeroValue169
  t46 := Tryz.underlying170
  a46 := Tryz.isAgg170
  z46 := Tryz.sizeOf170
  v46 := Tryz.zeroValue170
  t50 := Tryz.underlying112
  a50 := Tryz.isAgg112
  z50 := Tryz.sizeOf112
  v50 := Tryz.zeroValue112
  t53 := Tryz.underlying176
  a53 := Tryz.isAgg176
  z53 := Tryz.sizeOf176
  v53 := Tryz.zeroValue176
  t55 := Tryz.underlying178
  a55 := Tryz.isAgg178
  z55 := Tryz.sizeOf178
  v55 := Tryz.zeroValue178
  t66 := Tryz.underlying190
  a66 := Tryz.isAgg190
  z66 := Tryz.sizeOf190
  v66 := Tryz.zeroValue190
  t70 := Tryz.underlying194
  a70 := Tryz.isAgg194
  z70 := Tryz.sizeOf194
  v70 := Tryz.zeroValue194
  t76 := Tryz.underlying200
  a76 := Tryz.isAgg200
  z76 := Tryz.sizeOf200
  v76 := Tryz.zeroValue200
  t77 := Tryz.underlying201
  a77 := Tryz.isAgg201
  z77 := Tryz.sizeOf201
  v77 := Tryz.zeroValue201 }
end Go.Proofs
namespace Go.Proofs.YtomgchfjachedaaGreatDoor
open Go Go.RowKit
section
variable {α : Type}
def MapIs (w : World) (b : Nat) (enc : α → Value) (M : List (α × Value)) : Prop :=
  ∃ es clock, w.heap[b]? = some (.map es clock) ∧ es.toList.map (fun e => (e.key, e.val)) = M.map (fun p => (enc p.1, p.2)) ∧ (∀ x ∈ es.toList, x.born < clock) ∧ (es.toList.map (·.born)).Nodup
theorem MapIs.block {w w' : World} {b : Nat} {enc : α → Value} {M : List (α × Value)} (h : MapIs w b enc M) (hb : w'.heap[b]? = w.heap[b]?) : MapIs w' b enc M := by
  obtain ⟨es, cl, h1, h2⟩ := h
  exact ⟨es, cl, hb.trans h1, h2⟩
theorem MapIs.lt {w : World} {b : Nat} {enc : α → Value} {M : List (α × Value)} (h : MapIs w b enc M) : b < w.heap.size := by
  obtain ⟨es, cl, h1, h2⟩ := h
  rcases Nat.lt_or_ge b w.heap.size with hlt | hge
  · exact hlt
  · rw [Array.getElem?_eq_none hge] at h1; cases h1
theorem MapIs.kept {w w' : World} {b : Nat} {enc : α → Value} {M : List (α × Value)} (h : MapIs w b enc M) (hk : Kept w w') : MapIs w' b enc M := h.block (Below.block hk b h.lt)
theorem MapIs.made (w : World) (enc : α → Value) (cl : Nat) : MapIs (w.alloc (.map #[] cl)) w.heap.size enc [] := ⟨#[], cl, heap_alloc_new w _, rfl, by simp, by simp⟩
end
section
variable {α : Type} [DecidableEq α]
structure KeyOk (P : Program) (K : TypeId) (enc : α → Value) : Prop where
  chk : ∀ (b : Bool) (k : α) (w : World), (Instr.checkKey b 10000 K (enc k)).run P w = .ok () w
  find : ∀ (k : α) (es : List MapEntry) (M : List (α × Value)) (w : World), es.map (fun e => (e.key, e.val)) = M.map (fun p => (enc p.1, p.2)) → (Instr.findKey K (enc k) es).run P w = .ok (findKV M k 0) w
  same : ∀ k : α, Instr.sameBits 10000 (enc k) (enc k) = true
variable {P : Program}
theorem run_lookup_ok {T K E : TypeId} {enc : α → Value} (hK : KeyOk P K enc) (hT : P.underlying T = some (.map K E)) {w : World} {b : Nat} {M : List (α × Value)} (h : MapIs w b enc M) (z : Value) (hz : ∀ w, (zeroValue E).run P w = .ok z w) (k : α) :
    (Instr.lookup T (.map (some b)) (enc k) true).run P w = .ok (match getKV M k with | some v => .tuple #[v, .bool true] | none => .tuple #[z, .bool false]) w := by
  obtain ⟨es, cl, h1, h2, _⟩ := h
  simp only [Instr.lookup, Sem.run_bind, run_underlying hT, Result.andThen_ok, MapKept.run_getObj_map h1, hK.chk, hK.find k _ M w h2, Sem.run_pure]
  rw [← findKV_get k M 0]
  cases findKV M k 0 with
  | none => simp [hz]
  | some p => simp
theorem run_lookup_plain {T K E : TypeId} {enc : α → Value} (hK : KeyOk P K enc) (hT : P.underlying T = some (.map K E)) {w : World} {b : Nat} {M : List (α × Value)} (h : MapIs w b enc M) (z : Value) (hz : ∀ w, (zeroValue E).run P w = .ok z w) (k : α) :
    (Instr.lookup T (.map (some b)) (enc k) false).run P w = .ok ((getKV M k).getD z) w := by
  obtain ⟨es, cl, h1, h2, _⟩ := h
  simp only [Instr.lookup, Sem.run_bind, run_underlying hT, Result.andThen_ok, MapKept.run_getObj_map h1, hK.chk, hK.find k _ M w h2, Sem.run_pure]
  rw [← findKV_get k M 0]
  cases findKV M k 0 with
  | none => simp [hz]
  | some p => simp
theorem findKV_some_set (enc : α → Value) (k : α) (v : Value) : ∀ (M : List (α × Value)) (es : List MapEntry) (i j : Nat) (v0 : Value), es.map (fun e => (e.key, e.val)) = M.map (fun p => (enc p.1, p.2)) →
    findKV M k i = some (j, v0) → i ≤ j ∧ (∃ e, es[j - i]? = some e ∧ e.key = enc k) ∧ (es.modify (j - i) fun e => { e with key := enc k, val := v }).map (fun e => (e.key, e.val)) = (setKV M k v).map (fun p => (enc p.1, p.2))
  | [], es, i, j, v0, _, h => by simp [findKV] at h
  | p :: r, [], i, j, v0, he, _ => by simp at he
  | p :: r, e :: es, i, j, v0, he, h => by
    simp only [List.map_cons, List.cons.injEq, Prod.mk.injEq] at he
    unfold findKV at h
    by_cases hp : p.1 = k
    · simp only [hp, if_true, Option.some.injEq, Prod.mk.injEq] at h
      obtain ⟨rfl, rfl⟩ := h
      refine ⟨Nat.le_refl _, ⟨e, by simp, by rw [he.1.1, hp]⟩, ?_⟩
      simp only [Nat.sub_self, List.modify_zero_cons, List.map_cons, setKV, hp, if_true, List.cons.injEq, true_and]
      exact he.2
    · simp only [hp, if_false] at h
      obtain ⟨hle, ⟨e', h1, h2⟩, h3⟩ := findKV_some_set enc k v r es (i + 1) j v0 he.2 h
      have hj : j - i = (j - (i + 1)) + 1 := by omega
      refine ⟨by omega, ⟨e', by rw [hj]; simpa using h1, h2⟩, ?_⟩
      rw [hj]
      simp only [List.modify_succ_cons, List.map_cons, setKV, hp, if_false, List.cons.injEq]
      exact ⟨by rw [he.1.1, he.1.2], h3⟩
theorem modify_born (kv v : Value) : ∀ (l : List MapEntry) (j : Nat), (l.modify j fun e => { e with key := kv, val := v }).map (·.born) = l.map (·.born)
  | [], j => by simp
  | e :: l, 0 => by simp
  | e :: l, j + 1 => by simp [modify_born kv v l j]
theorem run_update {T K E : TypeId} {enc : α → Value} (hK : KeyOk P K enc) (hT : P.underlying T = some (.map K E)) {w : World} {b : Nat} {M : List (α × Value)} (h : MapIs w b enc M) (k : α) (v : Value) :
    ∃ w', (Instr.mapUpdate T (.map (some b)) (enc k) v).run P w = .ok () w' ∧ MapIs w' b enc (setKV M k v) ∧ w.grownBy w' (some b) := by
  have hlt := h.lt
  obtain ⟨es, cl, h1, h2, hbo, hnd⟩ := h
  have hfind := hK.find k _ M w h2
  cases hf : findKV M k 0 with
  | none =>
    rw [hf] at hfind
    refine ⟨_, by simp only [Instr.mapUpdate, Sem.run_bind, run_underlying hT, Result.andThen_ok, MapKept.run_getObj_map h1, hK.chk, hfind]; exact MapKept.run_setObj_map _ h1, ⟨es.push { key := enc k, val := v, born := cl }, cl + 1, ?_, ?_, ?_, ?_⟩, ?_⟩
    · simp [hlt]
    · rw [findKV_none_set k v M 0 hf]; simp [h2]
    · intro x hx
      simp only [Array.toList_push, List.mem_append, List.mem_singleton] at hx
      rcases hx with hx | hx
      · have := hbo x hx; omega
      · rw [hx]; exact Nat.lt_succ_self _
    · simp only [Array.toList_push, List.map_append, List.map_cons, List.map_nil]
      refine List.nodup_append.2 ⟨hnd, by simp, fun a ha b hb e => ?_⟩
      obtain ⟨x, hx, rfl⟩ := List.mem_map.1 ha
      have := hbo x hx
      rw [List.mem_singleton.1 hb] at e
      omega
    · exact ⟨rfl, rfl, rfl, by simp, fun i hi hne => by simp [Array.getElem?_setIfInBounds]; intro e; exact absurd (by rw [e]) hne⟩
  | some q =>
    obtain ⟨j, v0⟩ := q
    rw [hf] at hfind
    obtain ⟨_, ⟨e, he1, he2⟩, h3⟩ := findKV_some_set enc k v M es.toList 0 j v0 h2 hf
    simp only [Nat.sub_zero] at he1 h3
    have he1' : es[j]? = some e := by simpa using he1
    have hstay : (Instr.keyThatStays (((es[j]?).map (·.key)).getD (enc k)) (enc k)).run P w = .ok (enc k) w := by
      rw [he1']
      simp [Instr.keyThatStays, he2, hK.same]
    refine ⟨_, by simp only [Instr.mapUpdate, Sem.run_bind, run_underlying hT, Result.andThen_ok, MapKept.run_getObj_map h1, hK.chk, hfind, hstay]; exact MapKept.run_setObj_map _ h1, ⟨es.modify j fun e => { e with key := enc k, val := v }, cl, ?_, ?_, ?_, ?_⟩, ?_⟩
    · simp [hlt]
    · simpa using h3
    · intro x hx
      have hx2 : x.born ∈ (es.toList.modify j fun e => { e with key := enc k, val := v }).map (·.born) := List.mem_map.2 ⟨x, by simpa using hx, rfl⟩
      rw [modify_born] at hx2
      obtain ⟨y, hy, e⟩ := List.mem_map.1 hx2
      have := hbo y hy
      omega
    · have : (es.modify j fun e => { e with key := enc k, val := v }).toList.map (·.born) = es.toList.map (·.born) := by rw [Array.toList_modify, modify_born]
      rw [this]; exact hnd
    · exact ⟨rfl, rfl, rfl, by simp, fun i hi hne => by simp [Array.getElem?_setIfInBounds]; intro e; exact absurd (by rw [e]) hne⟩
end
theorem findNow_int (k : Int) : ∀ (es : List MapEntry) (M : List (Int × Value)) (i : Nat), es.map (fun e => (e.key, e.val)) = M.map (fun p => (Value.int .i64 p.1, p.2)) → Instr.findNow (.int .i64) (.int .i64 k) es i = some (findKV M k i)
  | [], [], _, _ => rfl
  | [], _ :: _, _, h => by simp at h
  | _ :: _, [], _, h => by simp at h
  | e :: es, p :: M, i, h => by
    simp only [List.map_cons, List.cons.injEq, Prod.mk.injEq] at h
    simp only [Instr.findNow, h.1.1, Instr.sameNow, if_true, findKV]
    by_cases hk : p.1 = k
    · have : (k == p.1) = true := by simp [hk]
      rw [this]; simp [hk, h.1.2]
    · have : (k == p.1) = false := by simp; exact fun e => hk e.symm
      rw [this]; simp only [hk, if_false]; exact findNow_int k es M (i + 1) h.2
theorem check_int {P : Program} {K : TypeId} (hK : P.underlying K = some (.int .i64)) (b : Bool) (k : Int) (w : World) : (Instr.checkKey b 10000 K (.int .i64 k)).run P w = .ok () w := by
  have h : ∀ n : Nat, (Instr.checkKey b (n + 1) K (.int .i64 k)).run P w = .ok () w := fun n => by simp [Instr.checkKey, run_underlying hK]
  exact h 9999
theorem keyOk_int {P : Program} {K : TypeId} (hK : P.underlying K = some (.int .i64)) : KeyOk P K (fun k : Int => Value.int .i64 k) where
  chk := fun b k w => check_int hK b k w
  find := fun k es M w h => by simp [Instr.findKey, run_underlying hK, findNow_int k es M 0 h]
  same := fun k => by simp [Instr.sameBits]
end Go.Proofs.YtomgchfjachedaaGreatDoor
