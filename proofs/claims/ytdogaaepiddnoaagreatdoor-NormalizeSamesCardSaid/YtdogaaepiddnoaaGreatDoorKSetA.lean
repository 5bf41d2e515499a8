/- slices.SortFunc of ranges, as cpset.Make calls it. -/
import Derived.Test.YtdogaaepiddnoaaGreatDoorKSimA
import Derived.Test.YtdogaaepiddnoaaGreatDoorKOwn
import Derived.Test.YtdogaaepiddnoaaGreatDoorKPl
import Derived.Test.YtdogaaepiddnoaaGreatDoorKShelf
namespace Go.Proofs.YtdogaaepiddnoaaGreatDoor
open Go Go.RowKit Go.Sort

set_option maxHeartbeats 1000000 in
set_option maxRecDepth 100000 in
theorem make1_any (a b : Rng) (w : World) : Calls Tryz.prog 118 #[.agg #[.int .i64 a.lo, .int .i64 a.hi], .agg #[.int .i64 b.lo, .int .i64 b.hi]] w fun e w' => e = .returned (.int .i64 (rngCmp a b)) ∧ ∃ q os', w' = grow (w.drewN q) os' := by
  go_enter Tryz.func118, Tryz.ntmps118
  go_wp2
  refine region_still_tail 10 (by kernel_rfl) (by kernel_rfl) ?_
  simp only [List.take_succ_cons, List.take_zero, List.drop_succ_cons, List.drop_zero]
  still_step
  still_step
  still_step
  still_step
  still_call (flip_ (cmp_any _ _ _))
  still_step
  still_step
  still_step
  still_step
  still_call (flip_ (cmp_any _ _ _))
  refine wpStill_nil ?_
  go_wp2_with (go_at_call 115; refine (or_two _ _ _ (cmpI a.lo b.lo) (cmpI a.hi b.hi) _ (by go_simp) (by go_simp)).mono ?_; rintro e w' ⟨rfl, rfl⟩)
  go_ret
  refine ⟨rfl, 1, #[Obj.cells #[Value.int IntKind.i64 a.lo, Value.int IntKind.i64 a.hi] 55, Obj.cells #[Value.int IntKind.i64 b.lo, Value.int IntKind.i64 b.hi] 55, Obj.cells #[Value.int IntKind.i64 (cmpI a.lo b.lo), Value.int IntKind.i64 (cmpI a.hi b.hi)] 3], ?_⟩
  rw [alloc_eq_grow, alloc_eq_grow, alloc_eq_grow, grow_grow, grow_grow]
  rfl

theorem rng_swo : SWO (ltOf rngCmp) where
  irrefl x := by
    have : ltOf rngCmp x x = rngLt x x := rfl
    rw [this, rngLt_false]; omega
  trans x y z h1 h2 := by
    have e : ∀ a b, ltOf rngCmp a b = rngLt a b := fun _ _ => rfl
    rw [e] at *
    rw [rngLt_iff] at *
    omega
  ntrans x y z h1 h2 := by
    have e : ∀ a b, ltOf rngCmp a b = rngLt a b := fun _ _ => rfl
    rw [e] at *
    rw [rngLt_false] at *
    omega
instance instInhRng : Inhabited Rng := ⟨⟨0, 0⟩⟩
theorem cmpLays (blk off size : Nat) (w : World) : CmpLays Tryz.prog 118 #[] encR 2 rngCmp blk off size w :=
  fun _ _ _ _ x y => make1_any x y _
theorem flat_at {l : List Rng} {t : Nat} (h : t < l.length * 2) : (l.flatMap encR)[t]? = some (flatK encR 2 l.toArray)[t]! := by
  have h1 : t / 2 < l.length := by omega
  have h2 : t % 2 < 2 := by omega
  rw [get_flatK encR 2 l.toArray t (by simpa using h)]
  have hx : l[t / 2]? = some l.toArray[t / 2]! := by simp [getElem!_pos, h1]
  have hu : (encR l.toArray[t / 2]!)[t % 2]? = some (encR l.toArray[t / 2]!)[t % 2]! := by
    have : t % 2 < (encR l.toArray[t / 2]!).length := h2
    rw [getElem!_pos (encR l.toArray[t / 2]!) (t % 2) this, List.getElem?_eq_getElem this]
  have := flat_get (k := 2) (f := encR) (fun _ => rfl) l (t / 2) (t % 2) _ _ hx hu
  rwa [show t / 2 * 2 + t % 2 = t from by omega] at this
theorem sortR_length (l : List Rng) : (sortR l).length = l.length := List.length_mergeSort l

theorem sort_rngs (base : Nat) (v : Value) (xs : List Rng) (w : World) (hown : w.ownsRow base 55 2 v xs.length (xs.flatMap encR)) (hx : xs.length ≤ 1000000) :
    Calls Tryz.prog 117 #[v, .func (.func 118) #[] #[]] w fun e w' => e = .returned (.tuple #[]) ∧ w'.ownsRow base 55 2 v xs.length ((sortR xs).flatMap encR) ∧ w.grownBy w' v.ownBlock := by
  rcases hown.2 with ⟨rfl, h0⟩ | ⟨g, cap, cur, rfl, hb, hg, hn, hm, hsz, htk⟩
  · have : xs = [] := List.eq_nil_of_length_eq_zero h0
    subst this
    refine (AnyF.slices_SortFunc_none Tryz.sortRng none 0 (.func (.func 118) #[] #[]) w).mono ?_
    rintro e w' ⟨rfl, rfl⟩
    exact ⟨rfl, by simpa [sortR] using hown, World.grownBy.refl _ _⟩
  · have hcur : ∀ t, t < xs.length * 2 → cur[t]? = some (flatK encR 2 xs.toArray)[t]! := fun t ht => by
      have := flat_at (l := xs) ht
      rw [← htk, List.getElem?_take, if_pos ht] at this
      simpa using this
    have hH : HoldsK encR 2 w g 0 xs.toArray := fun t ht => by
      rw [size_flatK] at ht
      have ht' : t < xs.length * 2 := by simpa using ht
      refine ⟨?_, ?_⟩
      · unfold World.cell?
        simp only [hg, Nat.zero_add, Option.isSome_none, Bool.false_eq_true, if_false]
        exact hcur t ht'
      · unfold World.frozen?
        simp [hg]
    have hsz' : xs.toArray.size = xs.length := by simp
    have hcon := AnyQ.slices_SortFunc_total Tryz.sortRng 2 (fun _ => by kernel_rfl) (fun _ => by kernel_rfl) encR (fun _ => rfl) (fun x v hv => by simp [encR] at hv; rcases hv with rfl | rfl <;> rfl) rngCmp rng_swo 118 #[] g 0 cap xs.toArray w (enters_of Tryz.func118 (by kernel_rfl) rfl) (cmpLays _ _ _ _) hH (Array.getElem?_eq_some_iff.1 hg).1 (by simp; omega)
      (fun x y h1 h2 => by
        have e : ∀ a b, ltOf rngCmp a b = rngLt a b := fun _ _ => rfl
        rw [e, rngLt_false] at h1 h2
        exact Rng.ext' (by omega) (by omega))
    rw [hsz'] at hcon
    refine hcon.mono ?_
    rintro e w' ⟨rfl, n, os, rfl⟩
    have hsort : (xs.toArray.toList.mergeSort fun x y => !ltOf rngCmp y x) = sortR xs := rfl
    rw [hsort]
    have hgl : g < w.heap.size := (Array.getElem?_eq_some_iff.1 hg).1
    have hblk : (sortWorldK encR 2 w g 0 n (sortR xs).toArray os).heap[g]? = some (.cells (putCells id 0 (flatK encR 2 (sortR xs).toArray) cur) 55 (0, 0)) := by
      unfold sortWorldK
      rw [heap_grow_old _ _ (by rw [size_putRowK]; exact hgl)]
      simp [putRowK, putRow, mapBlock, Sort.ahead, Array.getElem?_modify, hg, onCells]
    refine ⟨rfl, ⟨by rw [flat_length (k := 2) (fun _ => rfl), sortR_length], .inr ⟨g, cap, _, rfl, hb, hblk, hn, hm, by simpa [putCells] using hsz, ?_⟩⟩, ?_⟩
    · apply List.ext_getElem?
      intro t
      rw [List.getElem?_take, Array.getElem?_toList]
      by_cases ht : t < xs.length * 2
      · rw [if_pos ht]
        have hf := flat_at (l := sortR xs) (t := t) (by rw [sortR_length]; exact ht)
        rw [hf]
        have htc : t < cur.size := by rw [hsz]; omega
        simp only [putCells, Array.getElem?_mapIdx, Array.getElem?_eq_getElem htc, Option.map_some]
        rw [if_pos (by rw [size_flatK]; simp [sortR_length]; exact ht)]
        rfl
      · rw [if_neg ht, List.getElem?_eq_none (by rw [flat_length (k := 2) (fun _ => rfl), sortR_length]; omega)]
    · refine ⟨rfl, rfl, rfl, size_sortWorldK_c encR 2 w g 0 n _ os, fun k hk hne => ?_⟩
      have hkg : g ≠ k := fun e => hne (by rw [e]; rfl)
      unfold sortWorldK
      rw [heap_grow_old _ _ (by rw [size_putRowK]; exact hk)]
      simp [putRowK, putRow, mapBlock, Sort.ahead, Array.getElem?_modify, hkg]
end Go.Proofs.YtdogaaepiddnoaaGreatDoor
