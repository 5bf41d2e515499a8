/- Slices that a call makes, as plain lists. -/
import Derived.Test.YtjfhcmkcmdnhoaaGreatDoorKBase
namespace Go.Proofs.YtjfhcmkcmdnhoaaGreatDoor
open Go Go.RowKit
theorem info_int : (Tryz.prog.info? 3).map (fun i => (i.zero, i.size, i.bytes)) = some (some (.int .i64 0), 1, 8) := by kernel_rfl
theorem info_rng : (Tryz.prog.info? 40).map (fun i => (i.zero, i.size, i.bytes)) = some (some (.agg #[.int .i64 0, .int .i64 0]), 2, 16) := by kernel_rfl
theorem add_zero_ (g j : Nat) : (⟨g, 0, none⟩ : Addr).add j = ⟨g, j, none⟩ := by
  unfold Addr.add
  by_cases h : j = 0
  · simp [h]
  · simp [h]
theorem flat_length {α : Type} {k : Nat} {f : α → List Value} (h : ∀ x, (f x).length = k) : ∀ l : List α, (l.flatMap f).length = l.length * k
  | [] => by simp
  | x :: r => by
    rw [List.flatMap_cons, List.length_append, h, flat_length h r, List.length_cons, Nat.add_mul]; omega
theorem flat_get {α : Type} {k : Nat} {f : α → List Value} (h : ∀ x, (f x).length = k) : ∀ (l : List α) (i j : Nat) (x : α) (u : Value), l[i]? = some x → (f x)[j]? = some u → (l.flatMap f)[i * k + j]? = some u
  | [], i, j, x, u, hx, _ => by simp at hx
  | y :: r, 0, j, x, u, hx, hu => by
    simp only [List.getElem?_cons_zero, Option.some.injEq] at hx
    subst hx
    rw [List.flatMap_cons, List.getElem?_append_left (by simpa using lt_of_getElem?_some hu)]
    simpa using hu
  | y :: r, i + 1, j, x, u, hx, hu => by
    have ih := flat_get h r i j x u (by simpa using hx) hu
    rw [List.flatMap_cons, List.getElem?_append_right (by rw [h, Nat.add_mul]; omega), h]
    rw [← ih]
    congr 1
    rw [Nat.add_mul]; omega
theorem Sl.of_own {α : Type} {k : Nat} {enc : α → List Value} (hk : ∀ x, (enc x).length = k) {w : World} {base : Nat} {e : TypeId} {v : Value} {xs : List α} (h : w.ownsRow base e k v xs.length (xs.flatMap enc)) :
    ∃ A c, v = .slice A xs.length c ∧ xs.length ≤ c ∧ Sl k enc w A xs.length xs := by
  rcases h.2 with ⟨rfl, h0⟩ | ⟨g, cap, cur, rfl, h1, h2, h3, h4⟩
  · have : xs = [] := by
      rcases xs with _ | ⟨x, r⟩
      · rfl
      · simp at h0
    subst this
    exact ⟨none, 0, rfl, Nat.le_refl _, Sl.nil⟩
  · refine ⟨_, cap, rfl, h3, rfl, fun hn => ⟨g, 0, rfl, fun i x hx j u hu => ?_⟩⟩
    have hc := h.cells (g := g) rfl (i * k + j) u (flat_get hk xs i j x u hx hu)
    rw [add_zero_] at hc
    simpa [Nat.add_assoc] using hc
theorem Ints.new_ {w : World} {b : Nat} {xs : List Int} {cs : Array Value} {t : TypeId} (h : w.heap[b]? = some (.cells cs t (0, 0))) (hcs : cs = (xs.map (Value.int .i64)).toArray) : Ints w (some ⟨b, 0, none⟩) xs.length xs := by
  refine ⟨rfl, fun _ => ⟨b, 0, rfl, fun i x hx j u hu => ?_⟩⟩
  unfold World.cell?
  simp only [h, hcs, Option.isSome_none, Bool.false_eq_true, if_false]
  have hj : j = 0 := by
    have := lt_of_getElem?_some hu
    simp [encI] at this
    exact this
  subst hj
  simp only [encI, List.getElem?_cons_zero, Option.some.injEq] at hu
  subst hu
  simp [hx]
theorem Ints.alloc_ {w : World} {b : Nat} {xs : List Int} {cs : Array Value} {t : TypeId} (hb : b = w.heap.size) (hcs : cs = (xs.map (Value.int .i64)).toArray) : Ints (w.alloc (.cells cs t)) (some ⟨b, 0, none⟩) xs.length xs := by
  subst hb
  exact Ints.new_ (heap_alloc_new _ _) hcs
theorem cell_of_block {w : World} {b i : Nat} {cs : Array Value} {t : TypeId} {v : Value} (h : w.heap[b]? = some (.cells cs t (0, 0))) (hv : cs[i]? = some v) : w.cell? ⟨b, i, none⟩ = some v := by
  unfold World.cell?
  simp [h, hv]
theorem frozen_of_block {w : World} {b i : Nat} {cs : Array Value} {t : TypeId} (h : w.heap[b]? = some (.cells cs t (0, 0))) : w.frozen? ⟨b, i, none⟩ = false := by
  unfold World.frozen?
  simp [h]
theorem block_lt {w : World} {b : Nat} {o : Obj} (h : w.heap[b]? = some o) : b < w.heap.size := (Array.getElem?_eq_some_iff.1 h).1
theorem alloc_lift {W : World} {o x : Obj} {i : Nat} (h : W.heap[i]? = some x) : (W.alloc o).heap[i]? = some x := (Below.heap_alloc _ _ _ (block_lt h)).trans h
theorem alloc_at {W : World} {o : Obj} {b : Nat} (hb : b = W.heap.size) : (W.alloc o).heap[b]? = some o := by rw [hb]; exact heap_alloc_new _ _
def OwnI (w : World) (base : Nat) (v : Value) (xs : List Int) : Prop := w.ownsRow base 3 1 v xs.length (xs.map (Value.int .i64))
theorem flat_encI : ∀ xs : List Int, xs.flatMap encI = xs.map (Value.int .i64)
  | [] => rfl
  | x :: r => by rw [List.flatMap_cons, flat_encI r]; rfl
theorem OwnI.sl {w : World} {base : Nat} {v : Value} {xs : List Int} (h : OwnI w base v xs) : ∃ A c, v = .slice A xs.length c ∧ xs.length ≤ c ∧ Ints w A xs.length xs := by
  have h' : w.ownsRow base 3 1 v xs.length (xs.flatMap encI) := by rw [flat_encI]; exact h
  exact Sl.of_own (k := 1) (enc := encI) (fun _ => rfl) h'
theorem cell_one_at {w : World} {u : Value} {e : TypeId} {b : Nat} (hb : b = w.heap.size) : ∀ j x, [u][j]? = some x → (w.alloc (.cells #[u] e)).cell? ((⟨b, 0, none⟩ : Addr).add j) = some x := by
  subst hb
  intro j x hx
  rw [add_zero_, box_cell]
  simpa using hx
end Go.Proofs.YtjfhcmkcmdnhoaaGreatDoor
