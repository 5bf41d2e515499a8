/- Maps that the code makes, as lists of pairs: look-ups and stores, for keys that are numbers or small structs. -/
import Derived.Laws.StructEq
import Derived.MapKept
import Derived.Test.YtckgmkjoblneeaaGreatDoorKBase
import Derived.Test.YtckgmkjoblneeaaGreatDoorKPl
namespace Go.Proofs.YtckgmkjoblneeaaGreatDoor
open Go Go.RowKit
section
variable {α : Type}
def MapIs (w : World) (b : Nat) (enc : α → Value) (M : List (α × Value)) : Prop :=
  ∃ es clock, w.heap[b]? = some (.map es clock) ∧ es.toList.map (fun e => (e.key, e.val)) = M.map (fun p => (enc p.1, p.2)) ∧ (∀ x ∈ es.toList, x.born < clock) ∧ (es.toList.map (·.born)).Nodup
theorem MapIs.block {w w' : World} {b : Nat} {enc : α → Value} {M : List (α × Value)} (h : MapIs w b enc M) (hb : w'.heap[b]? = w.heap[b]?) : MapIs w' b enc M := by
  obtain ⟨es, cl, h1, h2⟩ := h
  exact ⟨es, cl, hb.trans h1, h2⟩
theorem MapIs.lt {w : World} {b : Nat} {enc : α → Value} {M : List (α × Value)} (h : MapIs w b enc M) : b < w.heap.size := by
  obtain ⟨es, cl, h1, h2⟩ := h
  rcases Nat.lt_or_ge b w.heap.size with hlt | hge
  · exact hlt
  · rw [Array.getElem?_eq_none hge] at h1; cases h1
theorem MapIs.kept {w w' : World} {b : Nat} {enc : α → Value} {M : List (α × Value)} (h : MapIs w b enc M) (hk : Kept w w') : MapIs w' b enc M := h.block (Below.block hk b h.lt)
theorem MapIs.made (w : World) (enc : α → Value) (cl : Nat) : MapIs (w.alloc (.map #[] cl)) w.heap.size enc [] := ⟨#[], cl, heap_alloc_new w _, rfl, by simp, by simp⟩
end
section
variable {α : Type} [DecidableEq α]
structure KeyOk (P : Program) (K : TypeId) (enc : α → Value) : Prop where
  chk : ∀ (b : Bool) (k : α) (w : World), (Instr.checkKey b 10000 K (enc k)).run P w = .ok () w
  find : ∀ (k : α) (es : List MapEntry) (M : List (α × Value)) (w : World), es.map (fun e => (e.key, e.val)) = M.map (fun p => (enc p.1, p.2)) → (Instr.findKey K (enc k) es).run P w = .ok (findKV M k 0) w
  same : ∀ k : α, Instr.sameBits 10000 (enc k) (enc k) = true
variable {P : Program}
theorem run_lookup_ok {T K E : TypeId} {enc : α → Value} (hK : KeyOk P K enc) (hT : P.underlying T = some (.map K E)) {w : World} {b : Nat} {M : List (α × Value)} (h : MapIs w b enc M) (z : Value) (hz : ∀ w, (zeroValue E).run P w = .ok z w) (k : α) :
    (Instr.lookup T (.map (some b)) (enc k) true).run P w = .ok (match getKV M k with | some v => .tuple #[v, .bool true] | none => .tuple #[z, .bool false]) w := by
  obtain ⟨es, cl, h1, h2, _⟩ := h
  simp only [Instr.lookup, Sem.run_bind, run_underlying hT, Result.andThen_ok, MapKept.run_getObj_map h1, hK.chk, hK.find k _ M w h2, Sem.run_pure]
  rw [← findKV_get k M 0]
  cases findKV M k 0 with
  | none => simp [hz]
  | some p => simp
theorem run_lookup_plain {T K E : TypeId} {enc : α → Value} (hK : KeyOk P K enc) (hT : P.underlying T = some (.map K E)) {w : World} {b : Nat} {M : List (α × Value)} (h : MapIs w b enc M) (z : Value) (hz : ∀ w, (zeroValue E).run P w = .ok z w) (k : α) :
    (Instr.lookup T (.map (some b)) (enc k) false).run P w = .ok ((getKV M k).getD z) w := by
  obtain ⟨es, cl, h1, h2, _⟩ := h
  simp only [Instr.lookup, Sem.run_bind, run_underlying hT, Result.andThen_ok, MapKept.run_getObj_map h1, hK.chk, hK.find k _ M w h2, Sem.run_pure]
  rw [← findKV_get k M 0]
  cases findKV M k 0 with
  | none => simp [hz]
  | some p => simp
theorem findKV_some_set (enc : α → Value) (k : α) (v : Value) : ∀ (M : List (α × Value)) (es : List MapEntry) (i j : Nat) (v0 : Value), es.map (fun e => (e.key, e.val)) = M.map (fun p => (enc p.1, p.2)) →
    findKV M k i = some (j, v0) → i ≤ j ∧ (∃ e, es[j - i]? = some e ∧ e.key = enc k) ∧ (es.modify (j - i) fun e => { e with key := enc k, val := v }).map (fun e => (e.key, e.val)) = (setKV M k v).map (fun p => (enc p.1, p.2))
  | [], es, i, j, v0, _, h => by simp [findKV] at h
  | p :: r, [], i, j, v0, he, _ => by simp at he
  | p :: r, e :: es, i, j, v0, he, h => by
    simp only [List.map_cons, List.cons.injEq, Prod.mk.injEq] at he
    unfold findKV at h
    by_cases hp : p.1 = k
    · simp only [hp, if_true, Option.some.injEq, Prod.mk.injEq] at h
      obtain ⟨rfl, rfl⟩ := h
      refine ⟨Nat.le_refl _, ⟨e, by simp, by rw [he.1.1, hp]⟩, ?_⟩
      simp only [Nat.sub_self, List.modify_zero_cons, List.map_cons, setKV, hp, if_true, List.cons.injEq, true_and]
      exact he.2
    · simp only [hp, if_false] at h
      obtain ⟨hle, ⟨e', h1, h2⟩, h3⟩ := findKV_some_set enc k v r es (i + 1) j v0 he.2 h
      have hj : j - i = (j - (i + 1)) + 1 := by omega
      refine ⟨by omega, ⟨e', by rw [hj]; simpa using h1, h2⟩, ?_⟩
      rw [hj]
      simp only [List.modify_succ_cons, List.map_cons, setKV, hp, if_false, List.cons.injEq]
      exact ⟨by rw [he.1.1, he.1.2], h3⟩
theorem modify_born (kv v : Value) : ∀ (l : List MapEntry) (j : Nat), (l.modify j fun e => { e with key := kv, val := v }).map (·.born) = l.map (·.born)
  | [], j => by simp
  | e :: l, 0 => by simp
  | e :: l, j + 1 => by simp [modify_born kv v l j]
theorem run_update {T K E : TypeId} {enc : α → Value} (hK : KeyOk P K enc) (hT : P.underlying T = some (.map K E)) {w : World} {b : Nat} {M : List (α × Value)} (h : MapIs w b enc M) (k : α) (v : Value) :
    ∃ w', (Instr.mapUpdate T (.map (some b)) (enc k) v).run P w = .ok () w' ∧ MapIs w' b enc (setKV M k v) ∧ w.grownBy w' (some b) := by
  have hlt := h.lt
  obtain ⟨es, cl, h1, h2, hbo, hnd⟩ := h
  have hfind := hK.find k _ M w h2
  cases hf : findKV M k 0 with
  | none =>
    rw [hf] at hfind
    refine ⟨_, by simp only [Instr.mapUpdate, Sem.run_bind, run_underlying hT, Result.andThen_ok, MapKept.run_getObj_map h1, hK.chk, hfind]; exact MapKept.run_setObj_map _ h1, ⟨es.push { key := enc k, val := v, born := cl }, cl + 1, ?_, ?_, ?_, ?_⟩, ?_⟩
    · simp [hlt]
    · rw [findKV_none_set k v M 0 hf]; simp [h2]
    · intro x hx
      simp only [Array.toList_push, List.mem_append, List.mem_singleton] at hx
      rcases hx with hx | hx
      · have := hbo x hx; omega
      · rw [hx]; exact Nat.lt_succ_self _
    · simp only [Array.toList_push, List.map_append, List.map_cons, List.map_nil]
      refine List.nodup_append.2 ⟨hnd, by simp, fun a ha b hb e => ?_⟩
      obtain ⟨x, hx, rfl⟩ := List.mem_map.1 ha
      have := hbo x hx
      rw [List.mem_singleton.1 hb] at e
      omega
    · exact ⟨rfl, rfl, rfl, by simp, fun i hi hne => by simp [Array.getElem?_setIfInBounds]; intro e; exact absurd (by rw [e]) hne⟩
  | some q =>
    obtain ⟨j, v0⟩ := q
    rw [hf] at hfind
    obtain ⟨_, ⟨e, he1, he2⟩, h3⟩ := findKV_some_set enc k v M es.toList 0 j v0 h2 hf
    simp only [Nat.sub_zero] at he1 h3
    have he1' : es[j]? = some e := by simpa using he1
    have hstay : (Instr.keyThatStays (((es[j]?).map (·.key)).getD (enc k)) (enc k)).run P w = .ok (enc k) w := by
      rw [he1']
      simp [Instr.keyThatStays, he2, hK.same]
    refine ⟨_, by simp only [Instr.mapUpdate, Sem.run_bind, run_underlying hT, Result.andThen_ok, MapKept.run_getObj_map h1, hK.chk, hfind, hstay]; exact MapKept.run_setObj_map _ h1, ⟨es.modify j fun e => { e with key := enc k, val := v }, cl, ?_, ?_, ?_, ?_⟩, ?_⟩
    · simp [hlt]
    · simpa using h3
    · intro x hx
      have hx2 : x.born ∈ (es.toList.modify j fun e => { e with key := enc k, val := v }).map (·.born) := List.mem_map.2 ⟨x, by simpa using hx, rfl⟩
      rw [modify_born] at hx2
      obtain ⟨y, hy, e⟩ := List.mem_map.1 hx2
      have := hbo y hy
      omega
    · have : (es.modify j fun e => { e with key := enc k, val := v }).toList.map (·.born) = es.toList.map (·.born) := by rw [Array.toList_modify, modify_born]
      rw [this]; exact hnd
    · exact ⟨rfl, rfl, rfl, by simp, fun i hi hne => by simp [Array.getElem?_setIfInBounds]; intro e; exact absurd (by rw [e]) hne⟩
end
theorem findNow_int (k : Int) : ∀ (es : List MapEntry) (M : List (Int × Value)) (i : Nat), es.map (fun e => (e.key, e.val)) = M.map (fun p => (Value.int .i64 p.1, p.2)) → Instr.findNow (.int .i64) (.int .i64 k) es i = some (findKV M k i)
  | [], [], _, _ => rfl
  | [], _ :: _, _, h => by simp at h
  | _ :: _, [], _, h => by simp at h
  | e :: es, p :: M, i, h => by
    simp only [List.map_cons, List.cons.injEq, Prod.mk.injEq] at h
    simp only [Instr.findNow, h.1.1, Instr.sameNow, if_true, findKV]
    by_cases hk : p.1 = k
    · have : (k == p.1) = true := by simp [hk]
      rw [this]; simp [hk, h.1.2]
    · have : (k == p.1) = false := by simp; exact fun e => hk e.symm
      rw [this]; simp only [hk, if_false]; exact findNow_int k es M (i + 1) h.2
theorem check_int {P : Program} {K : TypeId} (hK : P.underlying K = some (.int .i64)) (b : Bool) (k : Int) (w : World) : (Instr.checkKey b 10000 K (.int .i64 k)).run P w = .ok () w := by
  have h : ∀ n : Nat, (Instr.checkKey b (n + 1) K (.int .i64 k)).run P w = .ok () w := fun n => by simp [Instr.checkKey, run_underlying hK]
  exact h 9999
theorem keyOk_int {P : Program} {K : TypeId} (hK : P.underlying K = some (.int .i64)) : KeyOk P K (fun k : Int => Value.int .i64 k) where
  chk := fun b k w => check_int hK b k w
  find := fun k es M w h => by simp [Instr.findKey, run_underlying hK, findNow_int k es M 0 h]
  same := fun k => by simp [Instr.sameBits]
end Go.Proofs.YtckgmkjoblneeaaGreatDoor
