/- Maps that the code makes, as lists of pairs: look-ups and stores, for keys that are numbers or small structs. decompose.measure: the search in depth. -/
import Derived.Laws.StructEq
import Derived.MapKept
import Derived.Test.YtjfhcmkcmdnhoaaGreatDoorKBase
import Derived.Test.YtjfhcmkcmdnhoaaGreatDoorKPl
import Derived.Test.YtjfhcmkcmdnhoaaGreatDoorKDca
namespace Go.Proofs.YtjfhcmkcmdnhoaaGreatDoor
open Go Go.RowKit
section
variable {α : Type}
def MapIs (w : World) (b : Nat) (enc : α → Value) (M : List (α × Value)) : Prop :=
  ∃ es clock, w.heap[b]? = some (.map es clock) ∧ es.toList.map (fun e => (e.key, e.val)) = M.map (fun p => (enc p.1, p.2)) ∧ (∀ x ∈ es.toList, x.born < clock) ∧ (es.toList.map (·.born)).Nodup
theorem MapIs.block {w w' : World} {b : Nat} {enc : α → Value} {M : List (α × Value)} (h : MapIs w b enc M) (hb : w'.heap[b]? = w.heap[b]?) : MapIs w' b enc M := by
  obtain ⟨es, cl, h1, h2⟩ := h
  exact ⟨es, cl, hb.trans h1, h2⟩
theorem MapIs.lt {w : World} {b : Nat} {enc : α → Value} {M : List (α × Value)} (h : MapIs w b enc M) : b < w.heap.size := by
  obtain ⟨es, cl, h1, h2⟩ := h
  rcases Nat.lt_or_ge b w.heap.size with hlt | hge
  · exact hlt
  · rw [Array.getElem?_eq_none hge] at h1; cases h1
theorem MapIs.kept {w w' : World} {b : Nat} {enc : α → Value} {M : List (α × Value)} (h : MapIs w b enc M) (hk : Kept w w') : MapIs w' b enc M := h.block (Below.block hk b h.lt)
theorem MapIs.made (w : World) (enc : α → Value) (cl : Nat) : MapIs (w.alloc (.map #[] cl)) w.heap.size enc [] := ⟨#[], cl, heap_alloc_new w _, rfl, by simp, by simp⟩
end
section
variable {α : Type} [DecidableEq α]
structure KeyOk (P : Program) (K : TypeId) (enc : α → Value) : Prop where
  chk : ∀ (b : Bool) (k : α) (w : World), (Instr.checkKey b 10000 K (enc k)).run P w = .ok () w
  find : ∀ (k : α) (es : List MapEntry) (M : List (α × Value)) (w : World), es.map (fun e => (e.key, e.val)) = M.map (fun p => (enc p.1, p.2)) → (Instr.findKey K (enc k) es).run P w = .ok (findKV M k 0) w
  same : ∀ k : α, Instr.sameBits 10000 (enc k) (enc k) = true
variable {P : Program}
theorem run_lookup_ok {T K E : TypeId} {enc : α → Value} (hK : KeyOk P K enc) (hT : P.underlying T = some (.map K E)) {w : World} {b : Nat} {M : List (α × Value)} (h : MapIs w b enc M) (z : Value) (hz : ∀ w, (zeroValue E).run P w = .ok z w) (k : α) :
    (Instr.lookup T (.map (some b)) (enc k) true).run P w = .ok (match getKV M k with | some v => .tuple #[v, .bool true] | none => .tuple #[z, .bool false]) w := by
  obtain ⟨es, cl, h1, h2, _⟩ := h
  simp only [Instr.lookup, Sem.run_bind, run_underlying hT, Result.andThen_ok, MapKept.run_getObj_map h1, hK.chk, hK.find k _ M w h2, Sem.run_pure]
  rw [← findKV_get k M 0]
  cases findKV M k 0 with
  | none => simp [hz]
  | some p => simp
theorem run_lookup_plain {T K E : TypeId} {enc : α → Value} (hK : KeyOk P K enc) (hT : P.underlying T = some (.map K E)) {w : World} {b : Nat} {M : List (α × Value)} (h : MapIs w b enc M) (z : Value) (hz : ∀ w, (zeroValue E).run P w = .ok z w) (k : α) :
    (Instr.lookup T (.map (some b)) (enc k) false).run P w = .ok ((getKV M k).getD z) w := by
  obtain ⟨es, cl, h1, h2, _⟩ := h
  simp only [Instr.lookup, Sem.run_bind, run_underlying hT, Result.andThen_ok, MapKept.run_getObj_map h1, hK.chk, hK.find k _ M w h2, Sem.run_pure]
  rw [← findKV_get k M 0]
  cases findKV M k 0 with
  | none => simp [hz]
  | some p => simp
theorem findKV_some_set (enc : α → Value) (k : α) (v : Value) : ∀ (M : List (α × Value)) (es : List MapEntry) (i j : Nat) (v0 : Value), es.map (fun e => (e.key, e.val)) = M.map (fun p => (enc p.1, p.2)) →
    findKV M k i = some (j, v0) → i ≤ j ∧ (∃ e, es[j - i]? = some e ∧ e.key = enc k) ∧ (es.modify (j - i) fun e => { e with key := enc k, val := v }).map (fun e => (e.key, e.val)) = (setKV M k v).map (fun p => (enc p.1, p.2))
  | [], es, i, j, v0, _, h => by simp [findKV] at h
  | p :: r, [], i, j, v0, he, _ => by simp at he
  | p :: r, e :: es, i, j, v0, he, h => by
    simp only [List.map_cons, List.cons.injEq, Prod.mk.injEq] at he
    unfold findKV at h
    by_cases hp : p.1 = k
    · simp only [hp, if_true, Option.some.injEq, Prod.mk.injEq] at h
      obtain ⟨rfl, rfl⟩ := h
      refine ⟨Nat.le_refl _, ⟨e, by simp, by rw [he.1.1, hp]⟩, ?_⟩
      simp only [Nat.sub_self, List.modify_zero_cons, List.map_cons, setKV, hp, if_true, List.cons.injEq, true_and]
      exact he.2
    · simp only [hp, if_false] at h
      obtain ⟨hle, ⟨e', h1, h2⟩, h3⟩ := findKV_some_set enc k v r es (i + 1) j v0 he.2 h
      have hj : j - i = (j - (i + 1)) + 1 := by omega
      refine ⟨by omega, ⟨e', by rw [hj]; simpa using h1, h2⟩, ?_⟩
      rw [hj]
      simp only [List.modify_succ_cons, List.map_cons, setKV, hp, if_false, List.cons.injEq]
      exact ⟨by rw [he.1.1, he.1.2], h3⟩
theorem modify_born (kv v : Value) : ∀ (l : List MapEntry) (j : Nat), (l.modify j fun e => { e with key := kv, val := v }).map (·.born) = l.map (·.born)
  | [], j => by simp
  | e :: l, 0 => by simp
  | e :: l, j + 1 => by simp [modify_born kv v l j]
theorem run_update {T K E : TypeId} {enc : α → Value} (hK : KeyOk P K enc) (hT : P.underlying T = some (.map K E)) {w : World} {b : Nat} {M : List (α × Value)} (h : MapIs w b enc M) (k : α) (v : Value) :
    ∃ w', (Instr.mapUpdate T (.map (some b)) (enc k) v).run P w = .ok () w' ∧ MapIs w' b enc (setKV M k v) ∧ w.grownBy w' (some b) := by
  have hlt := h.lt
  obtain ⟨es, cl, h1, h2, hbo, hnd⟩ := h
  have hfind := hK.find k _ M w h2
  cases hf : findKV M k 0 with
  | none =>
    rw [hf] at hfind
    refine ⟨_, by simp only [Instr.mapUpdate, Sem.run_bind, run_underlying hT, Result.andThen_ok, MapKept.run_getObj_map h1, hK.chk, hfind]; exact MapKept.run_setObj_map _ h1, ⟨es.push { key := enc k, val := v, born := cl }, cl + 1, ?_, ?_, ?_, ?_⟩, ?_⟩
    · simp [hlt]
    · rw [findKV_none_set k v M 0 hf]; simp [h2]
    · intro x hx
      simp only [Array.toList_push, List.mem_append, List.mem_singleton] at hx
      rcases hx with hx | hx
      · have := hbo x hx; omega
      · rw [hx]; exact Nat.lt_succ_self _
    · simp only [Array.toList_push, List.map_append, List.map_cons, List.map_nil]
      refine List.nodup_append.2 ⟨hnd, by simp, fun a ha b hb e => ?_⟩
      obtain ⟨x, hx, rfl⟩ := List.mem_map.1 ha
      have := hbo x hx
      rw [List.mem_singleton.1 hb] at e
      omega
    · exact ⟨rfl, rfl, rfl, by simp, fun i hi hne => by simp [Array.getElem?_setIfInBounds]; intro e; exact absurd (by rw [e]) hne⟩
  | some q =>
    obtain ⟨j, v0⟩ := q
    rw [hf] at hfind
    obtain ⟨_, ⟨e, he1, he2⟩, h3⟩ := findKV_some_set enc k v M es.toList 0 j v0 h2 hf
    simp only [Nat.sub_zero] at he1 h3
    have he1' : es[j]? = some e := by simpa using he1
    have hstay : (Instr.keyThatStays (((es[j]?).map (·.key)).getD (enc k)) (enc k)).run P w = .ok (enc k) w := by
      rw [he1']
      simp [Instr.keyThatStays, he2, hK.same]
    refine ⟨_, by simp only [Instr.mapUpdate, Sem.run_bind, run_underlying hT, Result.andThen_ok, MapKept.run_getObj_map h1, hK.chk, hfind, hstay]; exact MapKept.run_setObj_map _ h1, ⟨es.modify j fun e => { e with key := enc k, val := v }, cl, ?_, ?_, ?_, ?_⟩, ?_⟩
    · simp [hlt]
    · simpa using h3
    · intro x hx
      have hx2 : x.born ∈ (es.toList.modify j fun e => { e with key := enc k, val := v }).map (·.born) := List.mem_map.2 ⟨x, by simpa using hx, rfl⟩
      rw [modify_born] at hx2
      obtain ⟨y, hy, e⟩ := List.mem_map.1 hx2
      have := hbo y hy
      omega
    · have : (es.modify j fun e => { e with key := enc k, val := v }).toList.map (·.born) = es.toList.map (·.born) := by rw [Array.toList_modify, modify_born]
      rw [this]; exact hnd
    · exact ⟨rfl, rfl, rfl, by simp, fun i hi hne => by simp [Array.getElem?_setIfInBounds]; intro e; exact absurd (by rw [e]) hne⟩
end
theorem findNow_int (k : Int) : ∀ (es : List MapEntry) (M : List (Int × Value)) (i : Nat), es.map (fun e => (e.key, e.val)) = M.map (fun p => (Value.int .i64 p.1, p.2)) → Instr.findNow (.int .i64) (.int .i64 k) es i = some (findKV M k i)
  | [], [], _, _ => rfl
  | [], _ :: _, _, h => by simp at h
  | _ :: _, [], _, h => by simp at h
  | e :: es, p :: M, i, h => by
    simp only [List.map_cons, List.cons.injEq, Prod.mk.injEq] at h
    simp only [Instr.findNow, h.1.1, Instr.sameNow, if_true, findKV]
    by_cases hk : p.1 = k
    · have : (k == p.1) = true := by simp [hk]
      rw [this]; simp [hk, h.1.2]
    · have : (k == p.1) = false := by simp; exact fun e => hk e.symm
      rw [this]; simp only [hk, if_false]; exact findNow_int k es M (i + 1) h.2
theorem check_int {P : Program} {K : TypeId} (hK : P.underlying K = some (.int .i64)) (b : Bool) (k : Int) (w : World) : (Instr.checkKey b 10000 K (.int .i64 k)).run P w = .ok () w := by
  have h : ∀ n : Nat, (Instr.checkKey b (n + 1) K (.int .i64 k)).run P w = .ok () w := fun n => by simp [Instr.checkKey, run_underlying hK]
  exact h 9999
theorem keyOk_int {P : Program} {K : TypeId} (hK : P.underlying K = some (.int .i64)) : KeyOk P K (fun k : Int => Value.int .i64 k) where
  chk := fun b k w => check_int hK b k w
  find := fun k es M w h => by simp [Instr.findKey, run_underlying hK, findNow_int k es M 0 h]
  same := fun k => by simp [Instr.sameBits]
end Go.Proofs.YtjfhcmkcmdnhoaaGreatDoor
namespace Go.Proofs.YtjfhcmkcmdnhoaaGreatDoor
open Go Go.RowKit
structure KeptBut (S : List Nat) (w w' : World) : Prop where
  os : w'.os = w.os
  tape : w'.tape = w.tape
  output : w'.output = w.output
  size : w.heap.size ≤ w'.heap.size
  block : ∀ i, i < w.heap.size → i ∉ S → w'.heap[i]? = w.heap[i]?
theorem KeptBut.refl (S : List Nat) (w : World) : KeptBut S w w := ⟨rfl, rfl, rfl, Nat.le_refl _, fun _ _ _ => rfl⟩
theorem KeptBut.trans {S : List Nat} {a b c : World} (h : KeptBut S a b) (k : KeptBut S b c) : KeptBut S a c :=
  ⟨k.os.trans h.os, k.tape.trans h.tape, k.output.trans h.output, Nat.le_trans h.size k.size, fun i hi hS => (k.block i (Nat.lt_of_lt_of_le hi h.size) hS).trans (h.block i hi hS)⟩
theorem Kept.but {w w' : World} (h : Kept w w') (S : List Nat) : KeptBut S w w' := ⟨h.os, h.tape, h.output, h.size, fun i hi _ => h.block i hi⟩
theorem KeptBut.of_grown {S : List Nat} {w w' : World} {b : Nat} (h : w.grownBy w' (some b)) (hb : b ∈ S) : KeptBut S w w' :=
  ⟨h.os, h.tape, h.output, h.size, fun i hi hS => h.block i hi (fun e => hS (by injection e with e; rw [e]; exact hb))⟩
theorem KeptBut.below {S : List Nat} {B : Nat} {w w' : World} (h : KeptBut S w w') (hS : ∀ b ∈ S, B ≤ b) (hB : B ≤ w.heap.size) : Below B w w' :=
  ⟨h.os, h.tape, h.output, h.size, fun i hi => h.block i (by omega) (fun hm => by have := hS i hm; omega)⟩
theorem KeptBut.setCell {S : List Nat} (w : World) {p : Addr} (hp : p.block ∈ S) (v : Value) : KeptBut S w (w.setCell p v) :=
  ⟨rfl, rfl, rfl, by simp [World.setCell], fun i _ hS => Below.heap_setCell w p v i (fun e => hS (by rw [e]; exact hp))⟩
theorem KeptBut.cell {S : List Nat} {w w' : World} (h : KeptBut S w w') {p : Addr} {v : Value} (hc : w.cell? p = some v) (hp : p.block ∉ S) : w'.cell? p = some v :=
  (World.cell?_of_block (h.block p.block (cell_lt hc) hp)).trans hc
theorem Ints.keptBut {S : List Nat} {w w' : World} {A : Option Addr} {n : Nat} {xs : List Int} (h : Ints w A n xs) (hk : KeptBut S w w') (hS : ∀ b ∈ S, ∀ off x, w.cell? ⟨b, off, none⟩ ≠ some (.int .i64 x)) : Ints w' A n xs :=
  ⟨h.1, fun hn => by
    obtain ⟨b, off, e, hc⟩ := h.2 hn
    refine ⟨b, off, e, fun i x hx j u hu => hk.cell (hc i x hx j u hu) (fun hb => ?_)⟩
    have hj : j = 0 := by
      have := lt_of_getElem?_some hu
      simp [encI] at this
      exact this
    subst hj
    simp only [encI, List.getElem?_cons_zero, Option.some.injEq] at hu
    subst hu
    exact hS b hb _ x (hc i x hx 0 _ rfl)⟩
structure MeasAt (w : World) (bn bs bc bf bl bm : Nat) (s : Sls) (st : MSt) : Prop where
  n : w.heap[bn]? = some (.cells #[.slice s.Ac s.nc s.cc, .slice s.Am s.nm s.cm, .slice s.Ae s.ne s.ce] 28 (0, 0))
  s : w.heap[bs]? = some (.cells #[.map (some bm)] 97 (0, 0))
  c : w.heap[bc]? = some (.cells #[.bool st.cyc] 4 (0, 0))
  f : w.heap[bf]? = some (.cells #[.func (.func 139) #[] #[.pointer (some ⟨bn, 0, none⟩), .pointer (some ⟨bs, 0, none⟩), .pointer (some ⟨bc, 0, none⟩), .pointer (some ⟨bf, 0, none⟩), .pointer (some ⟨bl, 0, none⟩)]] 116 (0, 0))
  l : w.heap[bl]? = some (.cells #[.bool st.long] 4 (0, 0))
  m : MapIs w bm (fun k : Int => Value.int .i64 k) (st.M.map fun p => (p.1, Value.int .i64 p.2))
  ne : bc ≠ bl
theorem MeasAt.kept {w w' : World} {bn bs bc bf bl bm : Nat} {s : Sls} {st : MSt} (h : MeasAt w bn bs bc bf bl bm s st) (hk : Kept w w') : MeasAt w' bn bs bc bf bl bm s st :=
  ⟨(hk.block _ (block_lt h.n)).trans h.n, (hk.block _ (block_lt h.s)).trans h.s, (hk.block _ (block_lt h.c)).trans h.c, (hk.block _ (block_lt h.f)).trans h.f, (hk.block _ (block_lt h.l)).trans h.l, h.m.kept hk, h.ne⟩
theorem MeasAt.noInt {w : World} {bn bs bc bf bl bm : Nat} {s : Sls} {st : MSt} (h : MeasAt w bn bs bc bf bl bm s st) : ∀ b ∈ [bc, bl, bm], ∀ off x, w.cell? ⟨b, off, none⟩ ≠ some (.int .i64 x) := by
  intro b hb off x hc
  simp only [List.mem_cons, List.not_mem_nil, or_false] at hb
  rcases hb with rfl | rfl | rfl
  · unfold World.cell? at hc
    simp [h.c] at hc
    cases off <;> simp at hc
  · unfold World.cell? at hc
    simp [h.l] at hc
    cases off <;> simp at hc
  · obtain ⟨es, cl, hm, _⟩ := h.m
    unfold World.cell? at hc
    simp [hm] at hc
theorem MeasAt.mapped {w w' : World} {bn bs bc bf bl bm : Nat} {s : Sls} {st : MSt} (h : MeasAt w bn bs bc bf bl bm s st) {M : List (Int × Int)} (hg : w.grownBy w' (some bm)) (hm : MapIs w' bm (fun k : Int => Value.int .i64 k) (M.map fun p => (p.1, Value.int .i64 p.2))) :
    MeasAt w' bn bs bc bf bl bm s { st with M := M } := by
  obtain ⟨es, cl, hmm, _⟩ := h.m
  have ne : ∀ {b : Nat} {cs : Array Value} {t : TypeId}, w.heap[b]? = some (.cells cs t (0, 0)) → some b ≠ some bm := fun hb e => by
    injection e with e
    subst e
    rw [hmm] at hb
    cases hb
  exact ⟨(hg.block _ (block_lt h.n) (ne h.n)).trans h.n, (hg.block _ (block_lt h.s) (ne h.s)).trans h.s, (hg.block _ (block_lt h.c) (ne h.c)).trans h.c, (hg.block _ (block_lt h.f) (ne h.f)).trans h.f, (hg.block _ (block_lt h.l) (ne h.l)).trans h.l, hm, h.ne⟩
theorem heap_setCell_same {w : World} {b : Nat} {u v : Value} {t : TypeId} (h : w.heap[b]? = some (.cells #[u] t (0, 0))) : (w.setCell ⟨b, 0, none⟩ v).heap[b]? = some (.cells #[v] t (0, 0)) := by
  simp [World.setCell, Array.getElem?_modify, h]
theorem MeasAt.setC {w : World} {bn bs bc bf bl bm : Nat} {s : Sls} {st : MSt} (h : MeasAt w bn bs bc bf bl bm s st) (b : Bool) : MeasAt (w.setCell ⟨bc, 0, none⟩ (.bool b)) bn bs bc bf bl bm s { st with cyc := b } := by
  have hsc : ∀ i, i ≠ bc → (w.setCell ⟨bc, 0, none⟩ (.bool b)).heap[i]? = w.heap[i]? := fun i hi => Below.heap_setCell w ⟨bc, 0, none⟩ _ i hi
  have d : ∀ {i : Nat} {cs : Array Value} {t : TypeId}, w.heap[i]? = some (.cells cs t (0, 0)) → t ≠ 4 → i ≠ bc := fun hi ht e => by
    subst e
    rw [h.c] at hi
    simp only [Option.some.injEq, Obj.cells.injEq] at hi
    exact ht hi.2.1.symm
  refine ⟨(hsc _ (d h.n (by decide))).trans h.n, (hsc _ (d h.s (by decide))).trans h.s, heap_setCell_same h.c, (hsc _ (d h.f (by decide))).trans h.f, (hsc _ (Ne.symm h.ne)).trans h.l, h.m.block (hsc _ (fun e => ?_)), h.ne⟩
  obtain ⟨es, cl, hmm, _⟩ := h.m
  subst e
  rw [h.c] at hmm
  cases hmm
theorem MeasAt.setL {w : World} {bn bs bc bf bl bm : Nat} {s : Sls} {st : MSt} (h : MeasAt w bn bs bc bf bl bm s st) (b : Bool) : MeasAt (w.setCell ⟨bl, 0, none⟩ (.bool b)) bn bs bc bf bl bm s { st with long := b } := by
  have hsc : ∀ i, i ≠ bl → (w.setCell ⟨bl, 0, none⟩ (.bool b)).heap[i]? = w.heap[i]? := fun i hi => Below.heap_setCell w ⟨bl, 0, none⟩ _ i hi
  have d : ∀ {i : Nat} {cs : Array Value} {t : TypeId}, w.heap[i]? = some (.cells cs t (0, 0)) → t ≠ 4 → i ≠ bl := fun hi ht e => by
    subst e
    rw [h.l] at hi
    simp only [Option.some.injEq, Obj.cells.injEq] at hi
    exact ht hi.2.1.symm
  refine ⟨(hsc _ (d h.n (by decide))).trans h.n, (hsc _ (d h.s (by decide))).trans h.s, (hsc _ h.ne).trans h.c, (hsc _ (d h.f (by decide))).trans h.f, heap_setCell_same h.l, h.m.block (hsc _ (fun e => ?_)), h.ne⟩
  obtain ⟨es, cl, hmm, _⟩ := h.m
  subst e
  rw [h.l] at hmm
  cases hmm
end Go.Proofs.YtjfhcmkcmdnhoaaGreatDoor
