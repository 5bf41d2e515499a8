/- Slices that a call makes, as plain lists. Contracts of the library that the kit's shelf has, laid over this program. Written by wip/mkshelf.py through the kit's lay-plain.mjs. Maps that the code makes, as lists of pairs: look-ups and stores, for keys that are numbers or small structs. -/
import Derived.Shelf.Small.Bits
import Derived.Shelf.Strconv.Itoa0
import Derived.Ground.Names2Prog
import Derived.Shelf.SlSortCmp.Insertion
import Derived.Shelf.SlSortCmp.Insertion1
import Derived.Shelf.SlSortCmp.WholeK
import Derived.Shelf.SlSortCmp.NoneTotal
import Derived.Ground.SlsfProg
import Derived.Shelf.Slices.Clone
import Derived.Shelf.SlicesE.Clone
import Derived.Ground.SlgnProg
import Derived.Laws.StructEq
import Derived.MapKept
import Derived.Test.YtmlcdohldkgcdaaGreatDoorKBase
import Derived.Test.YtmlcdohldkgcdaaGreatDoorProg
import Derived.Test.YtmlcdohldkgcdaaGreatDoorKPl
namespace Go.Proofs.YtmlcdohldkgcdaaGreatDoor
open Go Go.RowKit
theorem info_int : (Tryz.prog.info? 3).map (fun i => (i.zero, i.size, i.bytes)) = some (some (.int .i64 0), 1, 8) := by kernel_rfl
theorem info_rng : (Tryz.prog.info? 48).map (fun i => (i.zero, i.size, i.bytes)) = some (some (.agg #[.int .i64 0, .int .i64 0]), 2, 16) := by kernel_rfl
theorem add_zero_ (g j : Nat) : (⟨g, 0, none⟩ : Addr).add j = ⟨g, j, none⟩ := by
  unfold Addr.add
  by_cases h : j = 0
  · simp [h]
  · simp [h]
theorem flat_length {α : Type} {k : Nat} {f : α → List Value} (h : ∀ x, (f x).length = k) : ∀ l : List α, (l.flatMap f).length = l.length * k
  | [] => by simp
  | x :: r => by
    rw [List.flatMap_cons, List.length_append, h, flat_length h r, List.length_cons, Nat.add_mul]; omega
theorem flat_get {α : Type} {k : Nat} {f : α → List Value} (h : ∀ x, (f x).length = k) : ∀ (l : List α) (i j : Nat) (x : α) (u : Value), l[i]? = some x → (f x)[j]? = some u → (l.flatMap f)[i * k + j]? = some u
  | [], i, j, x, u, hx, _ => by simp at hx
  | y :: r, 0, j, x, u, hx, hu => by
    simp only [List.getElem?_cons_zero, Option.some.injEq] at hx
    subst hx
    rw [List.flatMap_cons, List.getElem?_append_left (by simpa using lt_of_getElem?_some hu)]
    simpa using hu
  | y :: r, i + 1, j, x, u, hx, hu => by
    have ih := flat_get h r i j x u (by simpa using hx) hu
    rw [List.flatMap_cons, List.getElem?_append_right (by rw [h, Nat.add_mul]; omega), h]
    rw [← ih]
    congr 1
    rw [Nat.add_mul]; omega
theorem Sl.of_own {α : Type} {k : Nat} {enc : α → List Value} (hk : ∀ x, (enc x).length = k) {w : World} {base : Nat} {e : TypeId} {v : Value} {xs : List α} (h : w.ownsRow base e k v xs.length (xs.flatMap enc)) :
    ∃ A c, v = .slice A xs.length c ∧ xs.length ≤ c ∧ Sl k enc w A xs.length xs := by
  rcases h.2 with ⟨rfl, h0⟩ | ⟨g, cap, cur, rfl, h1, h2, h3, h4⟩
  · have : xs = [] := by
      rcases xs with _ | ⟨x, r⟩
      · rfl
      · simp at h0
    subst this
    exact ⟨none, 0, rfl, Nat.le_refl _, Sl.nil⟩
  · refine ⟨_, cap, rfl, h3, rfl, fun hn => ⟨g, 0, rfl, fun i x hx j u hu => ?_⟩⟩
    have hc := h.cells (g := g) rfl (i * k + j) u (flat_get hk xs i j x u hx hu)
    rw [add_zero_] at hc
    simpa [Nat.add_assoc] using hc
theorem Ints.new_ {w : World} {b : Nat} {xs : List Int} {cs : Array Value} {t : TypeId} (h : w.heap[b]? = some (.cells cs t (0, 0))) (hcs : cs = (xs.map (Value.int .i64)).toArray) : Ints w (some ⟨b, 0, none⟩) xs.length xs := by
  refine ⟨rfl, fun _ => ⟨b, 0, rfl, fun i x hx j u hu => ?_⟩⟩
  unfold World.cell?
  simp only [h, hcs, Option.isSome_none, Bool.false_eq_true, if_false]
  have hj : j = 0 := by
    have := lt_of_getElem?_some hu
    simp [encI] at this
    exact this
  subst hj
  simp only [encI, List.getElem?_cons_zero, Option.some.injEq] at hu
  subst hu
  simp [hx]
theorem Ints.alloc_ {w : World} {b : Nat} {xs : List Int} {cs : Array Value} {t : TypeId} (hb : b = w.heap.size) (hcs : cs = (xs.map (Value.int .i64)).toArray) : Ints (w.alloc (.cells cs t)) (some ⟨b, 0, none⟩) xs.length xs := by
  subst hb
  exact Ints.new_ (heap_alloc_new _ _) hcs
theorem cell_of_block {w : World} {b i : Nat} {cs : Array Value} {t : TypeId} {v : Value} (h : w.heap[b]? = some (.cells cs t (0, 0))) (hv : cs[i]? = some v) : w.cell? ⟨b, i, none⟩ = some v := by
  unfold World.cell?
  simp [h, hv]
theorem frozen_of_block {w : World} {b i : Nat} {cs : Array Value} {t : TypeId} (h : w.heap[b]? = some (.cells cs t (0, 0))) : w.frozen? ⟨b, i, none⟩ = false := by
  unfold World.frozen?
  simp [h]
theorem block_lt {w : World} {b : Nat} {o : Obj} (h : w.heap[b]? = some o) : b < w.heap.size := (Array.getElem?_eq_some_iff.1 h).1
theorem alloc_lift {W : World} {o x : Obj} {i : Nat} (h : W.heap[i]? = some x) : (W.alloc o).heap[i]? = some x := (Below.heap_alloc _ _ _ (block_lt h)).trans h
theorem alloc_at {W : World} {o : Obj} {b : Nat} (hb : b = W.heap.size) : (W.alloc o).heap[b]? = some o := by rw [hb]; exact heap_alloc_new _ _
def OwnI (w : World) (base : Nat) (v : Value) (xs : List Int) : Prop := w.ownsRow base 3 1 v xs.length (xs.map (Value.int .i64))
theorem flat_encI : ∀ xs : List Int, xs.flatMap encI = xs.map (Value.int .i64)
  | [] => rfl
  | x :: r => by rw [List.flatMap_cons, flat_encI r]; rfl
theorem OwnI.sl {w : World} {base : Nat} {v : Value} {xs : List Int} (h : OwnI w base v xs) : ∃ A c, v = .slice A xs.length c ∧ xs.length ≤ c ∧ Ints w A xs.length xs := by
  have h' : w.ownsRow base 3 1 v xs.length (xs.flatMap encI) := by rw [flat_encI]; exact h
  exact Sl.of_own (k := 1) (enc := encI) (fun _ => rfl) h'
theorem cell_one_at {w : World} {u : Value} {e : TypeId} {b : Nat} (hb : b = w.heap.size) : ∀ j x, [u][j]? = some x → (w.alloc (.cells #[u] e)).cell? ((⟨b, 0, none⟩ : Addr).add j) = some x := by
  subst hb
  intro j x hx
  rw [add_zero_, box_cell]
  simpa using hx
end Go.Proofs.YtmlcdohldkgcdaaGreatDoor
namespace Go.Proofs
open Go.Shelf
def Tryz.sortRng_ren : Go.Shelf.Ren := ⟨fun | 6 => 99 | 15 => 131 | 14 => 130 | 28 => 173 | 29 => 174 | 20 => 165 | 21 => 166 | 22 => 167 | 23 => 168 | 24 => 169 | 25 => 170 | 26 => 171 | 27 => 172 | 46 => 195 | 47 => 196 | 48 => 197 | 49 => 198 | 50 => 199 | 57 => 212 | n => n, fun | 22 => 24 | 24 => 48 | 25 => 150 | 3 => 3 | 39 => 191 | 0 => 0 | 53 => 221 | 55 => 223 | 4 => 4 | 46 => 215 | 45 => 214 | 50 => 64 | 5 => 5 | 9 => 9 | 66 => 246 | 70 => 250 | 76 => 261 | 77 => 92 | n => n, fun | n => n⟩
theorem Tryz.sortRng : Go.Proofs.SlLaysF0.n6 Tryz.prog Tryz.sortRng_ren := {
  mixed := by kernel_rfl
  f6 := ⟨Tryz.f99.name, by decide, Tryz.func99.trans (congrArg some (by kernel_rfl))⟩
  f14 := ⟨Tryz.f130.name, by decide, Tryz.func130.trans (congrArg some (by kernel_rfl))⟩
  f15 := Tryz.func131.trans (congrArg some (by kernel_rfl))
  f20 := ⟨Tryz.f165.name, by decide, Tryz.func165.trans (congrArg some (by kernel_rfl))⟩
  f21 := ⟨Tryz.f166.name, by decide, Tryz.func166.trans (congrArg some (by kernel_rfl))⟩
  f22 := ⟨Tryz.f167.name, by decide, Tryz.func167.trans (congrArg some (by kernel_rfl))⟩
  f23 := ⟨Tryz.f168.name, by decide, Tryz.func168.trans (congrArg some (by kernel_rfl))⟩
  f24 := ⟨Tryz.f169.name, by decide, Tryz.func169.trans (congrArg some (by kernel_rfl))⟩
  f25 := ⟨Tryz.f170.name, by decide, Tryz.func170.trans (congrArg some (by kernel_rfl))⟩
  f26 := ⟨Tryz.f171.name, by decide, Tryz.func171.trans (congrArg some (by kernel_rfl))⟩
  f27 := ⟨Tryz.f172.name, by decide, Tryz.func172.trans (congrArg some (by kernel_rfl))⟩
  f28 := Tryz.func173.trans (congrArg some (by kernel_rfl))
  f29 := Tryz.func174.trans (congrArg some (by kernel_rfl))
  f46 := ⟨Tryz.f195.name, by decide, Tryz.func195.trans (congrArg some (by kernel_rfl))⟩
  f47 := Tryz.func196.trans (congrArg some (by kernel_rfl))
  f48 := Tryz.func197.trans (congrArg some (by kernel_rfl))
  f49 := ⟨Tryz.f198.name, by decide, Tryz.func198.trans (congrArg some (by kernel_rfl))⟩
  f50 := ⟨Tryz.f199.name, by decide, Tryz.func199.trans (congrArg some (by kernel_rfl))⟩
  f57 := ⟨Tryz.f212.name, by decide, Tryz.func212.trans (congrArg some (by kernel_rfl))⟩
  t0 := Tryz.underlying0
  a0 := Tryz.isAgg0
  z0 := Tryz.sizeOf0
  v0 := Tryz.zeroValue0
  t3 := Tryz.underlying3
  a3 := Tryz.isAgg3
  z3 := Tryz.sizeOf3
  v3 := Tryz.zeroValue3
  t4 := Tryz.underlying4
  a4 := Tryz.isAgg4
  z4 := Tryz.sizeOf4
  v4 := Tryz.zeroValue4
  t5 := Tryz.underlying5
  a5 := Tryz.isAgg5
  z5 := Tryz.sizeOf5
  v5 := Tryz.zeroValue5
  t9 := Tryz.underlying9
  a9 := Tryz.isAgg9
  z9 := Tryz.sizeOf9
  v9 := Tryz.zeroValue9
  t22 := Tryz.underlying24
  a22 := Tryz.isAgg24
  z22 := Tryz.sizeOf24
  v22 := Tryz.zeroValue24
  t25 := Tryz.underlying150
  a25 := Tryz.isAgg150
  z25 := Tryz.sizeOf150
  v25 := Tryz.zeroValue150
  t39 := Tryz.underlying191
  a39 := Tryz.isAgg191
  z39 := Tryz.sizeOf191
  v39 := Tryz.zeroValue191
  t45 := Tryz.underlying214
  a45 := Tryz.isAgg214
  z45 := Tryz.sizeOf214
  v45 := Tryz.zeroValue214
  t46 := Tryz.underlying215
  a46 := Tryz.isAgg215
  z46 := Tryz.sizeOf215
  v46 := Tryz.zeroValue215
  t50 := Tryz.underlying64
  a50 := Tryz.isAgg64
  z50 := Tryz.sizeOf64
  v50 := Tryz.zeroValue64
  t53 := Tryz.underlying221
  a53 := Tryz.isAgg221
  z53 := Tryz.sizeOf221
  v53 := Tryz.zeroValue221
  t55 := Tryz.underlying223
  a55 := Tryz.isAgg223
  z55 := Tryz.sizeOf223
  v55 := Tryz.zeroValue223
  t66 := Tryz.underlying246
  a66 := Tryz.isAgg246
  z66 := Tryz.sizeOf246
  v66 := Tryz.zeroValue246
  t70 := Tryz.underlying250
  a70 := Tryz.isAgg250
  z70 := Tryz.sizeOf250
  v70 := Tryz.zeroValue250
  t76 := Tryz.underlying261
  a76 := Tryz.isAgg261
  z76 := Tryz.sizeOf261
  v76 := Tryz.zeroValue261
  t77 := Tryz.underlying92
  a77 := Tryz.isAgg92
  z77 := Tryz.sizeOf92
  v77 := Tryz.zeroValue92 }
end Go.Proofs
namespace Go.Proofs.YtmlcdohldkgcdaaGreatDoor
open Go Go.RowKit
section
variable {α : Type}
def MapIs (w : World) (b : Nat) (enc : α → Value) (M : List (α × Value)) : Prop :=
  ∃ es clock, w.heap[b]? = some (.map es clock) ∧ es.toList.map (fun e => (e.key, e.val)) = M.map (fun p => (enc p.1, p.2)) ∧ (∀ x ∈ es.toList, x.born < clock) ∧ (es.toList.map (·.born)).Nodup
theorem MapIs.block {w w' : World} {b : Nat} {enc : α → Value} {M : List (α × Value)} (h : MapIs w b enc M) (hb : w'.heap[b]? = w.heap[b]?) : MapIs w' b enc M := by
  obtain ⟨es, cl, h1, h2⟩ := h
  exact ⟨es, cl, hb.trans h1, h2⟩
theorem MapIs.lt {w : World} {b : Nat} {enc : α → Value} {M : List (α × Value)} (h : MapIs w b enc M) : b < w.heap.size := by
  obtain ⟨es, cl, h1, h2⟩ := h
  rcases Nat.lt_or_ge b w.heap.size with hlt | hge
  · exact hlt
  · rw [Array.getElem?_eq_none hge] at h1; cases h1
theorem MapIs.kept {w w' : World} {b : Nat} {enc : α → Value} {M : List (α × Value)} (h : MapIs w b enc M) (hk : Kept w w') : MapIs w' b enc M := h.block (Below.block hk b h.lt)
theorem MapIs.made (w : World) (enc : α → Value) (cl : Nat) : MapIs (w.alloc (.map #[] cl)) w.heap.size enc [] := ⟨#[], cl, heap_alloc_new w _, rfl, by simp, by simp⟩
end
section
variable {α : Type} [DecidableEq α]
structure KeyOk (P : Program) (K : TypeId) (enc : α → Value) : Prop where
  chk : ∀ (b : Bool) (k : α) (w : World), (Instr.checkKey b 10000 K (enc k)).run P w = .ok () w
  find : ∀ (k : α) (es : List MapEntry) (M : List (α × Value)) (w : World), es.map (fun e => (e.key, e.val)) = M.map (fun p => (enc p.1, p.2)) → (Instr.findKey K (enc k) es).run P w = .ok (findKV M k 0) w
  same : ∀ k : α, Instr.sameBits 10000 (enc k) (enc k) = true
variable {P : Program}
theorem run_lookup_ok {T K E : TypeId} {enc : α → Value} (hK : KeyOk P K enc) (hT : P.underlying T = some (.map K E)) {w : World} {b : Nat} {M : List (α × Value)} (h : MapIs w b enc M) (z : Value) (hz : ∀ w, (zeroValue E).run P w = .ok z w) (k : α) :
    (Instr.lookup T (.map (some b)) (enc k) true).run P w = .ok (match getKV M k with | some v => .tuple #[v, .bool true] | none => .tuple #[z, .bool false]) w := by
  obtain ⟨es, cl, h1, h2, _⟩ := h
  simp only [Instr.lookup, Sem.run_bind, run_underlying hT, Result.andThen_ok, MapKept.run_getObj_map h1, hK.chk, hK.find k _ M w h2, Sem.run_pure]
  rw [← findKV_get k M 0]
  cases findKV M k 0 with
  | none => simp [hz]
  | some p => simp
theorem run_lookup_plain {T K E : TypeId} {enc : α → Value} (hK : KeyOk P K enc) (hT : P.underlying T = some (.map K E)) {w : World} {b : Nat} {M : List (α × Value)} (h : MapIs w b enc M) (z : Value) (hz : ∀ w, (zeroValue E).run P w = .ok z w) (k : α) :
    (Instr.lookup T (.map (some b)) (enc k) false).run P w = .ok ((getKV M k).getD z) w := by
  obtain ⟨es, cl, h1, h2, _⟩ := h
  simp only [Instr.lookup, Sem.run_bind, run_underlying hT, Result.andThen_ok, MapKept.run_getObj_map h1, hK.chk, hK.find k _ M w h2, Sem.run_pure]
  rw [← findKV_get k M 0]
  cases findKV M k 0 with
  | none => simp [hz]
  | some p => simp
theorem findKV_some_set (enc : α → Value) (k : α) (v : Value) : ∀ (M : List (α × Value)) (es : List MapEntry) (i j : Nat) (v0 : Value), es.map (fun e => (e.key, e.val)) = M.map (fun p => (enc p.1, p.2)) →
    findKV M k i = some (j, v0) → i ≤ j ∧ (∃ e, es[j - i]? = some e ∧ e.key = enc k) ∧ (es.modify (j - i) fun e => { e with key := enc k, val := v }).map (fun e => (e.key, e.val)) = (setKV M k v).map (fun p => (enc p.1, p.2))
  | [], es, i, j, v0, _, h => by simp [findKV] at h
  | p :: r, [], i, j, v0, he, _ => by simp at he
  | p :: r, e :: es, i, j, v0, he, h => by
    simp only [List.map_cons, List.cons.injEq, Prod.mk.injEq] at he
    unfold findKV at h
    by_cases hp : p.1 = k
    · simp only [hp, if_true, Option.some.injEq, Prod.mk.injEq] at h
      obtain ⟨rfl, rfl⟩ := h
      refine ⟨Nat.le_refl _, ⟨e, by simp, by rw [he.1.1, hp]⟩, ?_⟩
      simp only [Nat.sub_self, List.modify_zero_cons, List.map_cons, setKV, hp, if_true, List.cons.injEq, true_and]
      exact he.2
    · simp only [hp, if_false] at h
      obtain ⟨hle, ⟨e', h1, h2⟩, h3⟩ := findKV_some_set enc k v r es (i + 1) j v0 he.2 h
      have hj : j - i = (j - (i + 1)) + 1 := by omega
      refine ⟨by omega, ⟨e', by rw [hj]; simpa using h1, h2⟩, ?_⟩
      rw [hj]
      simp only [List.modify_succ_cons, List.map_cons, setKV, hp, if_false, List.cons.injEq]
      exact ⟨by rw [he.1.1, he.1.2], h3⟩
theorem modify_born (kv v : Value) : ∀ (l : List MapEntry) (j : Nat), (l.modify j fun e => { e with key := kv, val := v }).map (·.born) = l.map (·.born)
  | [], j => by simp
  | e :: l, 0 => by simp
  | e :: l, j + 1 => by simp [modify_born kv v l j]
theorem run_update {T K E : TypeId} {enc : α → Value} (hK : KeyOk P K enc) (hT : P.underlying T = some (.map K E)) {w : World} {b : Nat} {M : List (α × Value)} (h : MapIs w b enc M) (k : α) (v : Value) :
    ∃ w', (Instr.mapUpdate T (.map (some b)) (enc k) v).run P w = .ok () w' ∧ MapIs w' b enc (setKV M k v) ∧ w.grownBy w' (some b) := by
  have hlt := h.lt
  obtain ⟨es, cl, h1, h2, hbo, hnd⟩ := h
  have hfind := hK.find k _ M w h2
  cases hf : findKV M k 0 with
  | none =>
    rw [hf] at hfind
    refine ⟨_, by simp only [Instr.mapUpdate, Sem.run_bind, run_underlying hT, Result.andThen_ok, MapKept.run_getObj_map h1, hK.chk, hfind]; exact MapKept.run_setObj_map _ h1, ⟨es.push { key := enc k, val := v, born := cl }, cl + 1, ?_, ?_, ?_, ?_⟩, ?_⟩
    · simp [hlt]
    · rw [findKV_none_set k v M 0 hf]; simp [h2]
    · intro x hx
      simp only [Array.toList_push, List.mem_append, List.mem_singleton] at hx
      rcases hx with hx | hx
      · have := hbo x hx; omega
      · rw [hx]; exact Nat.lt_succ_self _
    · simp only [Array.toList_push, List.map_append, List.map_cons, List.map_nil]
      refine List.nodup_append.2 ⟨hnd, by simp, fun a ha b hb e => ?_⟩
      obtain ⟨x, hx, rfl⟩ := List.mem_map.1 ha
      have := hbo x hx
      rw [List.mem_singleton.1 hb] at e
      omega
    · exact ⟨rfl, rfl, rfl, by simp, fun i hi hne => by simp [Array.getElem?_setIfInBounds]; intro e; exact absurd (by rw [e]) hne⟩
  | some q =>
    obtain ⟨j, v0⟩ := q
    rw [hf] at hfind
    obtain ⟨_, ⟨e, he1, he2⟩, h3⟩ := findKV_some_set enc k v M es.toList 0 j v0 h2 hf
    simp only [Nat.sub_zero] at he1 h3
    have he1' : es[j]? = some e := by simpa using he1
    have hstay : (Instr.keyThatStays (((es[j]?).map (·.key)).getD (enc k)) (enc k)).run P w = .ok (enc k) w := by
      rw [he1']
      simp [Instr.keyThatStays, he2, hK.same]
    refine ⟨_, by simp only [Instr.mapUpdate, Sem.run_bind, run_underlying hT, Result.andThen_ok, MapKept.run_getObj_map h1, hK.chk, hfind, hstay]; exact MapKept.run_setObj_map _ h1, ⟨es.modify j fun e => { e with key := enc k, val := v }, cl, ?_, ?_, ?_, ?_⟩, ?_⟩
    · simp [hlt]
    · simpa using h3
    · intro x hx
      have hx2 : x.born ∈ (es.toList.modify j fun e => { e with key := enc k, val := v }).map (·.born) := List.mem_map.2 ⟨x, by simpa using hx, rfl⟩
      rw [modify_born] at hx2
      obtain ⟨y, hy, e⟩ := List.mem_map.1 hx2
      have := hbo y hy
      omega
    · have : (es.modify j fun e => { e with key := enc k, val := v }).toList.map (·.born) = es.toList.map (·.born) := by rw [Array.toList_modify, modify_born]
      rw [this]; exact hnd
    · exact ⟨rfl, rfl, rfl, by simp, fun i hi hne => by simp [Array.getElem?_setIfInBounds]; intro e; exact absurd (by rw [e]) hne⟩
end
theorem findNow_int (k : Int) : ∀ (es : List MapEntry) (M : List (Int × Value)) (i : Nat), es.map (fun e => (e.key, e.val)) = M.map (fun p => (Value.int .i64 p.1, p.2)) → Instr.findNow (.int .i64) (.int .i64 k) es i = some (findKV M k i)
  | [], [], _, _ => rfl
  | [], _ :: _, _, h => by simp at h
  | _ :: _, [], _, h => by simp at h
  | e :: es, p :: M, i, h => by
    simp only [List.map_cons, List.cons.injEq, Prod.mk.injEq] at h
    simp only [Instr.findNow, h.1.1, Instr.sameNow, if_true, findKV]
    by_cases hk : p.1 = k
    · have : (k == p.1) = true := by simp [hk]
      rw [this]; simp [hk, h.1.2]
    · have : (k == p.1) = false := by simp; exact fun e => hk e.symm
      rw [this]; simp only [hk, if_false]; exact findNow_int k es M (i + 1) h.2
theorem check_int {P : Program} {K : TypeId} (hK : P.underlying K = some (.int .i64)) (b : Bool) (k : Int) (w : World) : (Instr.checkKey b 10000 K (.int .i64 k)).run P w = .ok () w := by
  have h : ∀ n : Nat, (Instr.checkKey b (n + 1) K (.int .i64 k)).run P w = .ok () w := fun n => by simp [Instr.checkKey, run_underlying hK]
  exact h 9999
theorem keyOk_int {P : Program} {K : TypeId} (hK : P.underlying K = some (.int .i64)) : KeyOk P K (fun k : Int => Value.int .i64 k) where
  chk := fun b k w => check_int hK b k w
  find := fun k es M w h => by simp [Instr.findKey, run_underlying hK, findNow_int k es M 0 h]
  same := fun k => by simp [Instr.sameBits]
end Go.Proofs.YtmlcdohldkgcdaaGreatDoor
