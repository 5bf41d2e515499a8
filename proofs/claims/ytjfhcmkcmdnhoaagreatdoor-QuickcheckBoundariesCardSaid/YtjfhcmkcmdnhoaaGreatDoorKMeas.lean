/- decompose.measure: the search in depth. Ranging over a map that the code made: one entry after the other, in any order. -/
import Derived.Maps.RangeRun
import Derived.Test.YtjfhcmkcmdnhoaaGreatDoorKDca
import Derived.Test.YtjfhcmkcmdnhoaaGreatDoorKPl
import Derived.Test.YtjfhcmkcmdnhoaaGreatDoorKBase
namespace Go.Proofs.YtjfhcmkcmdnhoaaGreatDoor
open Go Go.RowKit
structure KeptBut (S : List Nat) (w w' : World) : Prop where
  os : w'.os = w.os
  tape : w'.tape = w.tape
  output : w'.output = w.output
  size : w.heap.size ≤ w'.heap.size
  block : ∀ i, i < w.heap.size → i ∉ S → w'.heap[i]? = w.heap[i]?
theorem KeptBut.refl (S : List Nat) (w : World) : KeptBut S w w := ⟨rfl, rfl, rfl, Nat.le_refl _, fun _ _ _ => rfl⟩
theorem KeptBut.trans {S : List Nat} {a b c : World} (h : KeptBut S a b) (k : KeptBut S b c) : KeptBut S a c :=
  ⟨k.os.trans h.os, k.tape.trans h.tape, k.output.trans h.output, Nat.le_trans h.size k.size, fun i hi hS => (k.block i (Nat.lt_of_lt_of_le hi h.size) hS).trans (h.block i hi hS)⟩
theorem Kept.but {w w' : World} (h : Kept w w') (S : List Nat) : KeptBut S w w' := ⟨h.os, h.tape, h.output, h.size, fun i hi _ => h.block i hi⟩
theorem KeptBut.of_grown {S : List Nat} {w w' : World} {b : Nat} (h : w.grownBy w' (some b)) (hb : b ∈ S) : KeptBut S w w' :=
  ⟨h.os, h.tape, h.output, h.size, fun i hi hS => h.block i hi (fun e => hS (by injection e with e; rw [e]; exact hb))⟩
theorem KeptBut.below {S : List Nat} {B : Nat} {w w' : World} (h : KeptBut S w w') (hS : ∀ b ∈ S, B ≤ b) (hB : B ≤ w.heap.size) : Below B w w' :=
  ⟨h.os, h.tape, h.output, h.size, fun i hi => h.block i (by omega) (fun hm => by have := hS i hm; omega)⟩
theorem KeptBut.setCell {S : List Nat} (w : World) {p : Addr} (hp : p.block ∈ S) (v : Value) : KeptBut S w (w.setCell p v) :=
  ⟨rfl, rfl, rfl, by simp [World.setCell], fun i _ hS => Below.heap_setCell w p v i (fun e => hS (by rw [e]; exact hp))⟩
theorem KeptBut.cell {S : List Nat} {w w' : World} (h : KeptBut S w w') {p : Addr} {v : Value} (hc : w.cell? p = some v) (hp : p.block ∉ S) : w'.cell? p = some v :=
  (World.cell?_of_block (h.block p.block (cell_lt hc) hp)).trans hc
theorem Ints.keptBut {S : List Nat} {w w' : World} {A : Option Addr} {n : Nat} {xs : List Int} (h : Ints w A n xs) (hk : KeptBut S w w') (hS : ∀ b ∈ S, ∀ off x, w.cell? ⟨b, off, none⟩ ≠ some (.int .i64 x)) : Ints w' A n xs :=
  ⟨h.1, fun hn => by
    obtain ⟨b, off, e, hc⟩ := h.2 hn
    refine ⟨b, off, e, fun i x hx j u hu => hk.cell (hc i x hx j u hu) (fun hb => ?_)⟩
    have hj : j = 0 := by
      have := lt_of_getElem?_some hu
      simp [encI] at this
      exact this
    subst hj
    simp only [encI, List.getElem?_cons_zero, Option.some.injEq] at hu
    subst hu
    exact hS b hb _ x (hc i x hx 0 _ rfl)⟩
structure MeasAt (w : World) (bn bs bc bf bl bm : Nat) (s : Sls) (st : MSt) : Prop where
  n : w.heap[bn]? = some (.cells #[.slice s.Ac s.nc s.cc, .slice s.Am s.nm s.cm, .slice s.Ae s.ne s.ce] 28 (0, 0))
  s : w.heap[bs]? = some (.cells #[.map (some bm)] 97 (0, 0))
  c : w.heap[bc]? = some (.cells #[.bool st.cyc] 4 (0, 0))
  f : w.heap[bf]? = some (.cells #[.func (.func 139) #[] #[.pointer (some ⟨bn, 0, none⟩), .pointer (some ⟨bs, 0, none⟩), .pointer (some ⟨bc, 0, none⟩), .pointer (some ⟨bf, 0, none⟩), .pointer (some ⟨bl, 0, none⟩)]] 116 (0, 0))
  l : w.heap[bl]? = some (.cells #[.bool st.long] 4 (0, 0))
  m : MapIs w bm (fun k : Int => Value.int .i64 k) (st.M.map fun p => (p.1, Value.int .i64 p.2))
  ne : bc ≠ bl
theorem MeasAt.kept {w w' : World} {bn bs bc bf bl bm : Nat} {s : Sls} {st : MSt} (h : MeasAt w bn bs bc bf bl bm s st) (hk : Kept w w') : MeasAt w' bn bs bc bf bl bm s st :=
  ⟨(hk.block _ (block_lt h.n)).trans h.n, (hk.block _ (block_lt h.s)).trans h.s, (hk.block _ (block_lt h.c)).trans h.c, (hk.block _ (block_lt h.f)).trans h.f, (hk.block _ (block_lt h.l)).trans h.l, h.m.kept hk, h.ne⟩
theorem MeasAt.noInt {w : World} {bn bs bc bf bl bm : Nat} {s : Sls} {st : MSt} (h : MeasAt w bn bs bc bf bl bm s st) : ∀ b ∈ [bc, bl, bm], ∀ off x, w.cell? ⟨b, off, none⟩ ≠ some (.int .i64 x) := by
  intro b hb off x hc
  simp only [List.mem_cons, List.not_mem_nil, or_false] at hb
  rcases hb with rfl | rfl | rfl
  · unfold World.cell? at hc
    simp [h.c] at hc
    cases off <;> simp at hc
  · unfold World.cell? at hc
    simp [h.l] at hc
    cases off <;> simp at hc
  · obtain ⟨es, cl, hm, _⟩ := h.m
    unfold World.cell? at hc
    simp [hm] at hc
theorem MeasAt.mapped {w w' : World} {bn bs bc bf bl bm : Nat} {s : Sls} {st : MSt} (h : MeasAt w bn bs bc bf bl bm s st) {M : List (Int × Int)} (hg : w.grownBy w' (some bm)) (hm : MapIs w' bm (fun k : Int => Value.int .i64 k) (M.map fun p => (p.1, Value.int .i64 p.2))) :
    MeasAt w' bn bs bc bf bl bm s { st with M := M } := by
  obtain ⟨es, cl, hmm, _⟩ := h.m
  have ne : ∀ {b : Nat} {cs : Array Value} {t : TypeId}, w.heap[b]? = some (.cells cs t (0, 0)) → some b ≠ some bm := fun hb e => by
    injection e with e
    subst e
    rw [hmm] at hb
    cases hb
  exact ⟨(hg.block _ (block_lt h.n) (ne h.n)).trans h.n, (hg.block _ (block_lt h.s) (ne h.s)).trans h.s, (hg.block _ (block_lt h.c) (ne h.c)).trans h.c, (hg.block _ (block_lt h.f) (ne h.f)).trans h.f, (hg.block _ (block_lt h.l) (ne h.l)).trans h.l, hm, h.ne⟩
theorem heap_setCell_same {w : World} {b : Nat} {u v : Value} {t : TypeId} (h : w.heap[b]? = some (.cells #[u] t (0, 0))) : (w.setCell ⟨b, 0, none⟩ v).heap[b]? = some (.cells #[v] t (0, 0)) := by
  simp [World.setCell, Array.getElem?_modify, h]
theorem MeasAt.setC {w : World} {bn bs bc bf bl bm : Nat} {s : Sls} {st : MSt} (h : MeasAt w bn bs bc bf bl bm s st) (b : Bool) : MeasAt (w.setCell ⟨bc, 0, none⟩ (.bool b)) bn bs bc bf bl bm s { st with cyc := b } := by
  have hsc : ∀ i, i ≠ bc → (w.setCell ⟨bc, 0, none⟩ (.bool b)).heap[i]? = w.heap[i]? := fun i hi => Below.heap_setCell w ⟨bc, 0, none⟩ _ i hi
  have d : ∀ {i : Nat} {cs : Array Value} {t : TypeId}, w.heap[i]? = some (.cells cs t (0, 0)) → t ≠ 4 → i ≠ bc := fun hi ht e => by
    subst e
    rw [h.c] at hi
    simp only [Option.some.injEq, Obj.cells.injEq] at hi
    exact ht hi.2.1.symm
  refine ⟨(hsc _ (d h.n (by decide))).trans h.n, (hsc _ (d h.s (by decide))).trans h.s, heap_setCell_same h.c, (hsc _ (d h.f (by decide))).trans h.f, (hsc _ (Ne.symm h.ne)).trans h.l, h.m.block (hsc _ (fun e => ?_)), h.ne⟩
  obtain ⟨es, cl, hmm, _⟩ := h.m
  subst e
  rw [h.c] at hmm
  cases hmm
theorem MeasAt.setL {w : World} {bn bs bc bf bl bm : Nat} {s : Sls} {st : MSt} (h : MeasAt w bn bs bc bf bl bm s st) (b : Bool) : MeasAt (w.setCell ⟨bl, 0, none⟩ (.bool b)) bn bs bc bf bl bm s { st with long := b } := by
  have hsc : ∀ i, i ≠ bl → (w.setCell ⟨bl, 0, none⟩ (.bool b)).heap[i]? = w.heap[i]? := fun i hi => Below.heap_setCell w ⟨bl, 0, none⟩ _ i hi
  have d : ∀ {i : Nat} {cs : Array Value} {t : TypeId}, w.heap[i]? = some (.cells cs t (0, 0)) → t ≠ 4 → i ≠ bl := fun hi ht e => by
    subst e
    rw [h.l] at hi
    simp only [Option.some.injEq, Obj.cells.injEq] at hi
    exact ht hi.2.1.symm
  refine ⟨(hsc _ (d h.n (by decide))).trans h.n, (hsc _ (d h.s (by decide))).trans h.s, (hsc _ h.ne).trans h.c, (hsc _ (d h.f (by decide))).trans h.f, heap_setCell_same h.l, h.m.block (hsc _ (fun e => ?_)), h.ne⟩
  obtain ⟨es, cl, hmm, _⟩ := h.m
  subst e
  rw [h.l] at hmm
  cases hmm
end Go.Proofs.YtjfhcmkcmdnhoaaGreatDoor
namespace Go.Proofs.YtjfhcmkcmdnhoaaGreatDoor
open Go Go.RowKit
open Go.ChangeMaps (setBlock)
section
variable {α : Type}
def MapRg (w : World) (b r : Nat) (enc : α → Value) (M D : List (α × Value)) (m : Nat) : Prop :=
  ∃ es clock since seen c0, w.heap[b]? = some (.map es clock) ∧ w.heap[r]? = some (.mapIter (some b) since seen c0) ∧ es.toList.map (fun e => (e.key, e.val)) = M.map (fun p => (enc p.1, p.2)) ∧
    (∀ x ∈ es.toList, x.born < since) ∧ since ≤ c0 ∧ since ≤ clock ∧ (es.toList.map (·.born)).Nodup ∧ (leftOf es seen).size = m ∧ (∀ p ∈ D, p ∈ M) ∧ ∀ (i : Nat) e p, es.toList[i]? = some e → M[i]? = some p → seen.contains e.born = true → p ∈ D
theorem MapRg.block {w w' : World} {b r m : Nat} {enc : α → Value} {M D : List (α × Value)} (h : MapRg w b r enc M D m) (hb : w'.heap[b]? = w.heap[b]?) (hr : w'.heap[r]? = w.heap[r]?) : MapRg w' b r enc M D m := by
  obtain ⟨es, cl, si, se, c0, h1, h2, h3⟩ := h
  exact ⟨es, cl, si, se, c0, hb.trans h1, hr.trans h2, h3⟩
theorem MapRg.lt {w : World} {b r m : Nat} {enc : α → Value} {M D : List (α × Value)} (h : MapRg w b r enc M D m) : b < w.heap.size ∧ r < w.heap.size := by
  obtain ⟨es, cl, si, se, c0, h1, h2, _⟩ := h
  exact ⟨(Array.getElem?_eq_some_iff.1 h1).1, (Array.getElem?_eq_some_iff.1 h2).1⟩
theorem MapRg.ne {w : World} {b r m : Nat} {enc : α → Value} {M D : List (α × Value)} (h : MapRg w b r enc M D m) : r ≠ b := by
  obtain ⟨es, cl, si, se, c0, h1, h2, _⟩ := h
  intro e
  rw [e, h1] at h2
  cases h2
theorem MapRg.kept {w w' : World} {b r m : Nat} {enc : α → Value} {M D : List (α × Value)} (h : MapRg w b r enc M D m) (hk : Kept w w') : MapRg w' b r enc M D m := h.block (Below.block hk b h.lt.1) (Below.block hk r h.lt.2)
theorem MapRg.grown {w w' : World} {b r m : Nat} {enc : α → Value} {M D : List (α × Value)} {row : Option Nat} (h : MapRg w b r enc M D m) (hg : w.grownBy w' row) (hb : some b ≠ row) (hr : some r ≠ row) : MapRg w' b r enc M D m := h.block (hg.block b h.lt.1 hb) (hg.block r h.lt.2 hr)
theorem MapRg.mem {w : World} {b r m : Nat} {enc : α → Value} {M D : List (α × Value)} (h : MapRg w b r enc M D m) : ∀ p ∈ D, p ∈ M := by
  obtain ⟨es, cl, si, se, c0, _, _, _, _, _, _, _, _, h9, _⟩ := h
  exact h9
theorem MapRg.start {P : Program} {T K E : TypeId} {w : World} {b : Nat} {enc : α → Value} {M : List (α × Value)} (h : MapIs w b enc M) (hT : P.underlying T = some (.map K E)) :
    ∃ o m, (Instr.range T (.map (some b))).run P w = .ok (.pointer (some ⟨w.heap.size, 0, none⟩)) (w.alloc o) ∧ MapRg (w.alloc o) b w.heap.size enc M [] m := by
  have hlt := h.lt
  obtain ⟨es, cl, h1, h2, h3, h4⟩ := h
  refine ⟨.mapIter (some b) cl #[] cl, (leftOf es #[]).size, run_range_map w T K E b es cl hT h1, es, cl, cl, #[], cl, ?_, heap_alloc_new w _, h2, h3, Nat.le_refl _, Nat.le_refl _, h4, rfl, by simp, ?_⟩
  · exact (Below.heap_alloc _ _ _ hlt).trans h1
  · intro i e p _ _ h5
    simp at h5
theorem nodup_idx {l : List Nat} (h : l.Nodup) {i j : Nat} {x : Nat} (hi : l[i]? = some x) (hj : l[j]? = some x) : i = j := by
  have hil := lt_of_getElem?_some hi
  have hjl := lt_of_getElem?_some hj
  rw [List.getElem?_eq_getElem hil, Option.some.injEq] at hi
  rw [List.getElem?_eq_getElem hjl, Option.some.injEq] at hj
  rcases Nat.lt_trichotomy i j with h1 | h1 | h1
  · exact absurd (hi.trans hj.symm) (List.pairwise_iff_getElem.1 h i j hil hjl h1)
  · exact h1
  · exact absurd (hj.trans hi.symm) (List.pairwise_iff_getElem.1 h j i hjl hil h1)
theorem grown_setBlock {w w1 : World} {r : Nat} (hw : w1 = w ∨ w1 = w.drew) (o : Obj) : w.grownBy (setBlock w1 r o) (some r) := by
  have hblk : ∀ k, some k ≠ some r → (w.heap.setIfInBounds r o)[k]? = w.heap[k]? := fun k hne => by
    rw [Array.getElem?_setIfInBounds, if_neg (fun e => hne (by rw [e]))]
  have hsz : w.heap.size ≤ (w.heap.setIfInBounds r o).size := by simp
  rcases hw with e | e
  · subst e; exact ⟨rfl, rfl, rfl, hsz, fun k _ hne => hblk k hne⟩
  · subst e; exact ⟨rfl, rfl, rfl, hsz, fun k _ hne => hblk k hne⟩
theorem MapRg.next {P : Program} {w : World} {b r m : Nat} {enc : α → Value} {M D : List (α × Value)} (h : MapRg w b r enc M D m) (ty : TypeId) :
    (m = 0 ∧ (∀ p ∈ M, p ∈ D) ∧ (Instr.next (.pointer (some ⟨r, 0, none⟩)) false ty).run P w = .ok (.tuple #[.bool false]) w) ∨
    ∃ p ∈ M, ∃ w' m', m' < m ∧ MapRg w' b r enc M (p :: D) m' ∧ w.grownBy w' (some r) ∧ (Instr.next (.pointer (some ⟨r, 0, none⟩)) false ty).run P w = .ok (.tuple #[.bool true, enc p.1, p.2]) w' ∧
      (Instr.entry (.pointer (some ⟨r, 0, none⟩))).run P w' = .ok (.tuple #[enc p.1, p.2]) w' := by
  have hne := h.ne
  have hlt := h.lt
  obtain ⟨es, cl, si, se, c0, h1, h2, h3, h4, h5, h6, h7, h8, h9, h10⟩ := h
  have hlen : es.toList.length = M.length := by have := congrArg List.length h3; simpa using this
  have hpair : ∀ (i : Nat) e, es.toList[i]? = some e → ∃ p, M[i]? = some p ∧ e.key = enc p.1 ∧ e.val = p.2 := fun i e he => by
    have hi := lt_of_getElem?_some he
    obtain ⟨p, hp⟩ := getElem?_some_of_lt (l := M) (k := i) (by omega)
    have := congrArg (fun l => l[i]?) h3
    simp only [List.getElem?_map, he, hp, Option.map_some, Option.some.injEq, Prod.mk.injEq] at this
    exact ⟨p, hp, this.1, this.2⟩
  rcases run_next_at (P := P) w ty r b si c0 se es cl h2 h1 h4 h5 with ⟨hz, hrun⟩ | ⟨e, he, w1, hw1, hrun⟩
  · refine .inl ⟨by omega, fun p hp => ?_, hrun⟩
    obtain ⟨i, hi, ep⟩ := List.getElem_of_mem hp
    obtain ⟨e, he⟩ := getElem?_some_of_lt (l := es.toList) (k := i) (by omega)
    exact h10 i e p he (by rw [List.getElem?_eq_getElem hi, ep]) (all_seen es se hz e (mem_of_getElem?_some he))
  · obtain ⟨hem, hns⟩ := mem_left he
    obtain ⟨i, hi, ei⟩ := List.getElem_of_mem hem
    have hei : es.toList[i]? = some e := by rw [List.getElem?_eq_getElem hi, ei]
    obtain ⟨p, hp, ek, ev⟩ := hpair i e hei
    rw [ek, ev] at hrun
    have hr2 : (setBlock w1 r (.mapIter (some b) si (se.push e.born) cl)).heap[r]? = some (.mapIter (some b) si (se.push e.born) cl) := by
      have h0 : (w.heap.setIfInBounds r (Obj.mapIter (some b) si (se.push e.born) cl))[r]? = some (.mapIter (some b) si (se.push e.born) cl) := by simp [hlt.2]
      rcases hw1 with rfl | rfl <;> exact h0
    have hb2 : (setBlock w1 r (.mapIter (some b) si (se.push e.born) cl)).heap[b]? = some (.map es cl) := by
      have := (grown_setBlock (r := r) hw1 (.mapIter (some b) si (se.push e.born) cl)).block b hlt.1 (by simp; exact fun e => hne e.symm)
      rw [this]; exact h1
    have hent := run_entry_at (P := P) (setBlock w1 r (.mapIter (some b) si (se.push e.born) cl)) r b si se es cl e hr2 hb2 hem h7
    rw [ek, ev] at hent
    refine .inr ⟨p, mem_of_getElem?_some hp, _, (leftOf es (se.push e.born)).size, by have := left_shrinks es se e he; omega, ⟨es, cl, si, se.push e.born, cl, hb2, hr2, h3, h4, h6, h6, h7, rfl, ?_, ?_⟩, grown_setBlock hw1 _, hrun, hent⟩
    · intro q hq
      rcases List.mem_cons.1 hq with rfl | hq
      · exact mem_of_getElem?_some hp
      · exact h9 q hq
    · intro j e' p' he' hp' hs
      rw [contains_push, Bool.or_eq_true, beq_iff_eq] at hs
      rcases hs with hs | hs
      · exact List.mem_cons_of_mem _ (h10 j e' p' he' hp' hs)
      · have hij : i = j := nodup_idx h7 (x := e.born) (by rw [List.getElem?_map, hei]; rfl) (by rw [List.getElem?_map, he', ← hs]; rfl)
        subst hij
        rw [hp] at hp'
        injection hp' with hp'
        rw [hp']
        exact List.mem_cons_self ..
end
end Go.Proofs.YtjfhcmkcmdnhoaaGreatDoor
