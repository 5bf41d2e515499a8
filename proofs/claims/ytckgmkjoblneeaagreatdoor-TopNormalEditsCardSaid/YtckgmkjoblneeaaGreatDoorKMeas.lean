/- decompose.measure: the search in depth. -/
import Derived.Test.YtckgmkjoblneeaaGreatDoorKDca
import Derived.Test.YtckgmkjoblneeaaGreatDoorKPl
import Derived.Test.YtckgmkjoblneeaaGreatDoorKMaps
namespace Go.Proofs.YtckgmkjoblneeaaGreatDoor
open Go Go.RowKit
structure KeptBut (S : List Nat) (w w' : World) : Prop where
  os : w'.os = w.os
  tape : w'.tape = w.tape
  output : w'.output = w.output
  size : w.heap.size ≤ w'.heap.size
  block : ∀ i, i < w.heap.size → i ∉ S → w'.heap[i]? = w.heap[i]?
theorem KeptBut.refl (S : List Nat) (w : World) : KeptBut S w w := ⟨rfl, rfl, rfl, Nat.le_refl _, fun _ _ _ => rfl⟩
theorem KeptBut.trans {S : List Nat} {a b c : World} (h : KeptBut S a b) (k : KeptBut S b c) : KeptBut S a c :=
  ⟨k.os.trans h.os, k.tape.trans h.tape, k.output.trans h.output, Nat.le_trans h.size k.size, fun i hi hS => (k.block i (Nat.lt_of_lt_of_le hi h.size) hS).trans (h.block i hi hS)⟩
theorem Kept.but {w w' : World} (h : Kept w w') (S : List Nat) : KeptBut S w w' := ⟨h.os, h.tape, h.output, h.size, fun i hi _ => h.block i hi⟩
theorem KeptBut.of_grown {S : List Nat} {w w' : World} {b : Nat} (h : w.grownBy w' (some b)) (hb : b ∈ S) : KeptBut S w w' :=
  ⟨h.os, h.tape, h.output, h.size, fun i hi hS => h.block i hi (fun e => hS (by injection e with e; rw [e]; exact hb))⟩
theorem KeptBut.below {S : List Nat} {B : Nat} {w w' : World} (h : KeptBut S w w') (hS : ∀ b ∈ S, B ≤ b) (hB : B ≤ w.heap.size) : Below B w w' :=
  ⟨h.os, h.tape, h.output, h.size, fun i hi => h.block i (by omega) (fun hm => by have := hS i hm; omega)⟩
theorem KeptBut.setCell {S : List Nat} (w : World) {p : Addr} (hp : p.block ∈ S) (v : Value) : KeptBut S w (w.setCell p v) :=
  ⟨rfl, rfl, rfl, by simp [World.setCell], fun i _ hS => Below.heap_setCell w p v i (fun e => hS (by rw [e]; exact hp))⟩
theorem KeptBut.cell {S : List Nat} {w w' : World} (h : KeptBut S w w') {p : Addr} {v : Value} (hc : w.cell? p = some v) (hp : p.block ∉ S) : w'.cell? p = some v :=
  (World.cell?_of_block (h.block p.block (cell_lt hc) hp)).trans hc
theorem Ints.keptBut {S : List Nat} {w w' : World} {A : Option Addr} {n : Nat} {xs : List Int} (h : Ints w A n xs) (hk : KeptBut S w w') (hS : ∀ b ∈ S, ∀ off x, w.cell? ⟨b, off, none⟩ ≠ some (.int .i64 x)) : Ints w' A n xs :=
  ⟨h.1, fun hn => by
    obtain ⟨b, off, e, hc⟩ := h.2 hn
    refine ⟨b, off, e, fun i x hx j u hu => hk.cell (hc i x hx j u hu) (fun hb => ?_)⟩
    have hj : j = 0 := by
      have := lt_of_getElem?_some hu
      simp [encI] at this
      exact this
    subst hj
    simp only [encI, List.getElem?_cons_zero, Option.some.injEq] at hu
    subst hu
    exact hS b hb _ x (hc i x hx 0 _ rfl)⟩
structure MeasAt (w : World) (bn bs bc bf bl bm : Nat) (s : Sls) (st : MSt) : Prop where
  n : w.heap[bn]? = some (.cells #[.slice s.Ac s.nc s.cc, .slice s.Am s.nm s.cm, .slice s.Ae s.ne s.ce] 28 (0, 0))
  s : w.heap[bs]? = some (.cells #[.map (some bm)] 174 (0, 0))
  c : w.heap[bc]? = some (.cells #[.bool st.cyc] 4 (0, 0))
  f : w.heap[bf]? = some (.cells #[.func (.func 106) #[] #[.pointer (some ⟨bn, 0, none⟩), .pointer (some ⟨bs, 0, none⟩), .pointer (some ⟨bc, 0, none⟩), .pointer (some ⟨bf, 0, none⟩), .pointer (some ⟨bl, 0, none⟩)]] 123 (0, 0))
  l : w.heap[bl]? = some (.cells #[.bool st.long] 4 (0, 0))
  m : MapIs w bm (fun k : Int => Value.int .i64 k) (st.M.map fun p => (p.1, Value.int .i64 p.2))
  ne : bc ≠ bl
theorem MeasAt.kept {w w' : World} {bn bs bc bf bl bm : Nat} {s : Sls} {st : MSt} (h : MeasAt w bn bs bc bf bl bm s st) (hk : Kept w w') : MeasAt w' bn bs bc bf bl bm s st :=
  ⟨(hk.block _ (block_lt h.n)).trans h.n, (hk.block _ (block_lt h.s)).trans h.s, (hk.block _ (block_lt h.c)).trans h.c, (hk.block _ (block_lt h.f)).trans h.f, (hk.block _ (block_lt h.l)).trans h.l, h.m.kept hk, h.ne⟩
theorem MeasAt.noInt {w : World} {bn bs bc bf bl bm : Nat} {s : Sls} {st : MSt} (h : MeasAt w bn bs bc bf bl bm s st) : ∀ b ∈ [bc, bl, bm], ∀ off x, w.cell? ⟨b, off, none⟩ ≠ some (.int .i64 x) := by
  intro b hb off x hc
  simp only [List.mem_cons, List.not_mem_nil, or_false] at hb
  rcases hb with rfl | rfl | rfl
  · unfold World.cell? at hc
    simp [h.c] at hc
    cases off <;> simp at hc
  · unfold World.cell? at hc
    simp [h.l] at hc
    cases off <;> simp at hc
  · obtain ⟨es, cl, hm, _⟩ := h.m
    unfold World.cell? at hc
    simp [hm] at hc
theorem MeasAt.mapped {w w' : World} {bn bs bc bf bl bm : Nat} {s : Sls} {st : MSt} (h : MeasAt w bn bs bc bf bl bm s st) {M : List (Int × Int)} (hg : w.grownBy w' (some bm)) (hm : MapIs w' bm (fun k : Int => Value.int .i64 k) (M.map fun p => (p.1, Value.int .i64 p.2))) :
    MeasAt w' bn bs bc bf bl bm s { st with M := M } := by
  obtain ⟨es, cl, hmm, _⟩ := h.m
  have ne : ∀ {b : Nat} {cs : Array Value} {t : TypeId}, w.heap[b]? = some (.cells cs t (0, 0)) → some b ≠ some bm := fun hb e => by
    injection e with e
    subst e
    rw [hmm] at hb
    cases hb
  exact ⟨(hg.block _ (block_lt h.n) (ne h.n)).trans h.n, (hg.block _ (block_lt h.s) (ne h.s)).trans h.s, (hg.block _ (block_lt h.c) (ne h.c)).trans h.c, (hg.block _ (block_lt h.f) (ne h.f)).trans h.f, (hg.block _ (block_lt h.l) (ne h.l)).trans h.l, hm, h.ne⟩
theorem heap_setCell_same {w : World} {b : Nat} {u v : Value} {t : TypeId} (h : w.heap[b]? = some (.cells #[u] t (0, 0))) : (w.setCell ⟨b, 0, none⟩ v).heap[b]? = some (.cells #[v] t (0, 0)) := by
  simp [World.setCell, Array.getElem?_modify, h]
theorem MeasAt.setC {w : World} {bn bs bc bf bl bm : Nat} {s : Sls} {st : MSt} (h : MeasAt w bn bs bc bf bl bm s st) (b : Bool) : MeasAt (w.setCell ⟨bc, 0, none⟩ (.bool b)) bn bs bc bf bl bm s { st with cyc := b } := by
  have hsc : ∀ i, i ≠ bc → (w.setCell ⟨bc, 0, none⟩ (.bool b)).heap[i]? = w.heap[i]? := fun i hi => Below.heap_setCell w ⟨bc, 0, none⟩ _ i hi
  have d : ∀ {i : Nat} {cs : Array Value} {t : TypeId}, w.heap[i]? = some (.cells cs t (0, 0)) → t ≠ 4 → i ≠ bc := fun hi ht e => by
    subst e
    rw [h.c] at hi
    simp only [Option.some.injEq, Obj.cells.injEq] at hi
    exact ht hi.2.1.symm
  refine ⟨(hsc _ (d h.n (by decide))).trans h.n, (hsc _ (d h.s (by decide))).trans h.s, heap_setCell_same h.c, (hsc _ (d h.f (by decide))).trans h.f, (hsc _ (Ne.symm h.ne)).trans h.l, h.m.block (hsc _ (fun e => ?_)), h.ne⟩
  obtain ⟨es, cl, hmm, _⟩ := h.m
  subst e
  rw [h.c] at hmm
  cases hmm
theorem MeasAt.setL {w : World} {bn bs bc bf bl bm : Nat} {s : Sls} {st : MSt} (h : MeasAt w bn bs bc bf bl bm s st) (b : Bool) : MeasAt (w.setCell ⟨bl, 0, none⟩ (.bool b)) bn bs bc bf bl bm s { st with long := b } := by
  have hsc : ∀ i, i ≠ bl → (w.setCell ⟨bl, 0, none⟩ (.bool b)).heap[i]? = w.heap[i]? := fun i hi => Below.heap_setCell w ⟨bl, 0, none⟩ _ i hi
  have d : ∀ {i : Nat} {cs : Array Value} {t : TypeId}, w.heap[i]? = some (.cells cs t (0, 0)) → t ≠ 4 → i ≠ bl := fun hi ht e => by
    subst e
    rw [h.l] at hi
    simp only [Option.some.injEq, Obj.cells.injEq] at hi
    exact ht hi.2.1.symm
  refine ⟨(hsc _ (d h.n (by decide))).trans h.n, (hsc _ (d h.s (by decide))).trans h.s, (hsc _ h.ne).trans h.c, (hsc _ (d h.f (by decide))).trans h.f, heap_setCell_same h.l, h.m.block (hsc _ (fun e => ?_)), h.ne⟩
  obtain ⟨es, cl, hmm, _⟩ := h.m
  subst e
  rw [h.l] at hmm
  cases hmm
end Go.Proofs.YtckgmkjoblneeaaGreatDoor
