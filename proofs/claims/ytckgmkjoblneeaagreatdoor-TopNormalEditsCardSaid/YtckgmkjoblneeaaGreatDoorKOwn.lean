/- Slices that a call makes, as plain lists. hangul.parts and Decompose, and the reference's. hangul.Decompose, and the reference's. -/
import Derived.Laws.StructEq
import Derived.Test.YtckgmkjoblneeaaGreatDoorKBase
import Derived.Test.YtckgmkjoblneeaaGreatDoorKSq
import Derived.Test.YtckgmkjoblneeaaGreatDoorKPl
namespace Go.Proofs.YtckgmkjoblneeaaGreatDoor
open Go Go.RowKit
theorem info_int : (Tryz.prog.info? 3).map (fun i => (i.zero, i.size, i.bytes)) = some (some (.int .i64 0), 1, 8) := by kernel_rfl
theorem info_rng : (Tryz.prog.info? 48).map (fun i => (i.zero, i.size, i.bytes)) = some (some (.agg #[.int .i64 0, .int .i64 0]), 2, 16) := by kernel_rfl
theorem add_zero_ (g j : Nat) : (⟨g, 0, none⟩ : Addr).add j = ⟨g, j, none⟩ := by
  unfold Addr.add
  by_cases h : j = 0
  · simp [h]
  · simp [h]
theorem flat_length {α : Type} {k : Nat} {f : α → List Value} (h : ∀ x, (f x).length = k) : ∀ l : List α, (l.flatMap f).length = l.length * k
  | [] => by simp
  | x :: r => by
    rw [List.flatMap_cons, List.length_append, h, flat_length h r, List.length_cons, Nat.add_mul]; omega
theorem flat_get {α : Type} {k : Nat} {f : α → List Value} (h : ∀ x, (f x).length = k) : ∀ (l : List α) (i j : Nat) (x : α) (u : Value), l[i]? = some x → (f x)[j]? = some u → (l.flatMap f)[i * k + j]? = some u
  | [], i, j, x, u, hx, _ => by simp at hx
  | y :: r, 0, j, x, u, hx, hu => by
    simp only [List.getElem?_cons_zero, Option.some.injEq] at hx
    subst hx
    rw [List.flatMap_cons, List.getElem?_append_left (by simpa using lt_of_getElem?_some hu)]
    simpa using hu
  | y :: r, i + 1, j, x, u, hx, hu => by
    have ih := flat_get h r i j x u (by simpa using hx) hu
    rw [List.flatMap_cons, List.getElem?_append_right (by rw [h, Nat.add_mul]; omega), h]
    rw [← ih]
    congr 1
    rw [Nat.add_mul]; omega
theorem Sl.of_own {α : Type} {k : Nat} {enc : α → List Value} (hk : ∀ x, (enc x).length = k) {w : World} {base : Nat} {e : TypeId} {v : Value} {xs : List α} (h : w.ownsRow base e k v xs.length (xs.flatMap enc)) :
    ∃ A c, v = .slice A xs.length c ∧ xs.length ≤ c ∧ Sl k enc w A xs.length xs := by
  rcases h.2 with ⟨rfl, h0⟩ | ⟨g, cap, cur, rfl, h1, h2, h3, h4⟩
  · have : xs = [] := by
      rcases xs with _ | ⟨x, r⟩
      · rfl
      · simp at h0
    subst this
    exact ⟨none, 0, rfl, Nat.le_refl _, Sl.nil⟩
  · refine ⟨_, cap, rfl, h3, rfl, fun hn => ⟨g, 0, rfl, fun i x hx j u hu => ?_⟩⟩
    have hc := h.cells (g := g) rfl (i * k + j) u (flat_get hk xs i j x u hx hu)
    rw [add_zero_] at hc
    simpa [Nat.add_assoc] using hc
theorem Ints.new_ {w : World} {b : Nat} {xs : List Int} {cs : Array Value} {t : TypeId} (h : w.heap[b]? = some (.cells cs t (0, 0))) (hcs : cs = (xs.map (Value.int .i64)).toArray) : Ints w (some ⟨b, 0, none⟩) xs.length xs := by
  refine ⟨rfl, fun _ => ⟨b, 0, rfl, fun i x hx j u hu => ?_⟩⟩
  unfold World.cell?
  simp only [h, hcs, Option.isSome_none, Bool.false_eq_true, if_false]
  have hj : j = 0 := by
    have := lt_of_getElem?_some hu
    simp [encI] at this
    exact this
  subst hj
  simp only [encI, List.getElem?_cons_zero, Option.some.injEq] at hu
  subst hu
  simp [hx]
theorem Ints.alloc_ {w : World} {b : Nat} {xs : List Int} {cs : Array Value} {t : TypeId} (hb : b = w.heap.size) (hcs : cs = (xs.map (Value.int .i64)).toArray) : Ints (w.alloc (.cells cs t)) (some ⟨b, 0, none⟩) xs.length xs := by
  subst hb
  exact Ints.new_ (heap_alloc_new _ _) hcs
theorem cell_of_block {w : World} {b i : Nat} {cs : Array Value} {t : TypeId} {v : Value} (h : w.heap[b]? = some (.cells cs t (0, 0))) (hv : cs[i]? = some v) : w.cell? ⟨b, i, none⟩ = some v := by
  unfold World.cell?
  simp [h, hv]
theorem frozen_of_block {w : World} {b i : Nat} {cs : Array Value} {t : TypeId} (h : w.heap[b]? = some (.cells cs t (0, 0))) : w.frozen? ⟨b, i, none⟩ = false := by
  unfold World.frozen?
  simp [h]
theorem block_lt {w : World} {b : Nat} {o : Obj} (h : w.heap[b]? = some o) : b < w.heap.size := (Array.getElem?_eq_some_iff.1 h).1
theorem alloc_lift {W : World} {o x : Obj} {i : Nat} (h : W.heap[i]? = some x) : (W.alloc o).heap[i]? = some x := (Below.heap_alloc _ _ _ (block_lt h)).trans h
theorem alloc_at {W : World} {o : Obj} {b : Nat} (hb : b = W.heap.size) : (W.alloc o).heap[b]? = some o := by rw [hb]; exact heap_alloc_new _ _
def OwnI (w : World) (base : Nat) (v : Value) (xs : List Int) : Prop := w.ownsRow base 3 1 v xs.length (xs.map (Value.int .i64))
theorem flat_encI : ∀ xs : List Int, xs.flatMap encI = xs.map (Value.int .i64)
  | [] => rfl
  | x :: r => by rw [List.flatMap_cons, flat_encI r]; rfl
theorem OwnI.sl {w : World} {base : Nat} {v : Value} {xs : List Int} (h : OwnI w base v xs) : ∃ A c, v = .slice A xs.length c ∧ xs.length ≤ c ∧ Ints w A xs.length xs := by
  have h' : w.ownsRow base 3 1 v xs.length (xs.flatMap encI) := by rw [flat_encI]; exact h
  exact Sl.of_own (k := 1) (enc := encI) (fun _ => rfl) h'
theorem cell_one_at {w : World} {u : Value} {e : TypeId} {b : Nat} (hb : b = w.heap.size) : ∀ j x, [u][j]? = some x → (w.alloc (.cells #[u] e)).cell? ((⟨b, 0, none⟩ : Addr).add j) = some x := by
  subst hb
  intro j x hx
  rw [add_zero_, box_cell]
  simpa using hx
end Go.Proofs.YtckgmkjoblneeaaGreatDoor
namespace Go.Proofs.YtckgmkjoblneeaaGreatDoor
open Go Go.RowKit
theorem kind_ge {c : Int} (h : 4 ≤ kind c) : 44032 ≤ c ∧ c < 55204 := by
  unfold kind at h
  by_cases h1 : 4352 ≤ c ∧ c < 4371
  · rw [if_pos h1] at h; omega
  · by_cases h2 : 4449 ≤ c ∧ c < 4470
    · rw [if_neg h1, if_pos h2] at h; omega
    · by_cases h3 : 4520 ≤ c ∧ c < 4547
      · rw [if_neg h1, if_neg h2, if_pos h3] at h; omega
      · by_cases h4 : c < 44032 ∨ 55204 ≤ c
        · rw [if_neg h1, if_neg h2, if_neg h3, if_pos h4] at h; omega
        · omega
theorem hparts_any (c : Int) (w : World) : Calls Tryz.prog 107 #[.int .i64 c] w fun e w' =>
    e = .returned (.agg (if kind c < 4 then #[.int .i64 0, .int .i64 0, .int .i64 0] else #[.int .i64 (hL c), .int .i64 (hV c), .int .i64 (hT c)])) ∧ Kept w w' := by
  by_cases hk : kind c < 4
  · rw [if_pos hk]
    go_enter Tryz.func107, Tryz.ntmps107
    go_wp2_with (go_at_call 82; refine (kind_any _ _).mono ?_; rintro e w' ⟨rfl, rfl⟩)
    exact bodyPost_ret (v := .agg #[.int .i64 0, .int .i64 0, .int .i64 0]) (by simp [results, Tryz.results107, go_sem]) rfl ⟨rfl, by repeat (first | exact Kept.refl _ | refine Kept.drew ?_ | refine Kept.alloc ?_ _)⟩
  · rw [if_neg hk]
    have hr := kind_ge (c := c) (by omega)
    obtain ⟨hr1, hr2⟩ := hr
    by_cases ht : (c - 44032) % 28 = 0
    · have e3 : hT c = 0 := if_pos ht
      have HT3 := Lib.hid e3
      have ht' : ¬ 0 < (c - 44032) % 28 := by omega
      clear e3
      go_enter Tryz.func107, Tryz.ntmps107
      go_wp2_with (go_at_call 82; refine (kind_any _ _).mono ?_; rintro e w' ⟨rfl, rfl⟩)
      rw [HT3.out]
      exact bodyPost_ret (v := .agg #[.int .i64 (hL c), .int .i64 (hV c), .int .i64 0]) (by simp [results, Tryz.results107, go_sem, hL, hV]) rfl ⟨rfl, by repeat (first | exact Kept.refl _ | refine Kept.drew ?_ | refine Kept.alloc ?_ _)⟩
    · have e3 : hT c = 4520 + (c - 44032) % 28 - 1 := if_neg ht
      have HT3 := Lib.hid e3
      have ht' : 0 < (c - 44032) % 28 := by omega
      clear e3 ht
      go_enter Tryz.func107, Tryz.ntmps107
      go_wp2_with (go_at_call 82; refine (kind_any _ _).mono ?_; rintro e w' ⟨rfl, rfl⟩)
      rw [HT3.out]
      exact bodyPost_ret (v := .agg #[.int .i64 (hL c), .int .i64 (hV c), .int .i64 (4520 + (c - 44032) % 28 - 1)]) (by simp [results, Tryz.results107, go_sem, hL, hV]) rfl ⟨rfl, by repeat (first | exact Kept.refl _ | refine Kept.drew ?_ | refine Kept.alloc ?_ _ | refine Kept.setCell ?_ (by simp) _)⟩
end Go.Proofs.YtckgmkjoblneeaaGreatDoor
namespace Go.Proofs.YtckgmkjoblneeaaGreatDoor
open Go Go.RowKit
theorem eq3_same (w : World) : (binOp .eql 176 (.agg #[.int .i64 0, .int .i64 0, .int .i64 0]) (.agg #[.int .i64 0, .int .i64 0, .int .i64 0])).run Tryz.prog w = .ok (.bool true) w := by kernel_rfl
theorem eq3_other (a b c : Int) (h : a ≠ 0) (w : World) : (binOp .eql 176 (.agg #[.int .i64 a, .int .i64 b, .int .i64 c]) (.agg #[.int .i64 0, .int .i64 0, .int .i64 0])).run Tryz.prog w = .ok (.bool false) w := by
  have hu : Tryz.prog.underlying 176 = some (.array 3 3) := by kernel_rfl
  have hu3 : Tryz.prog.underlying 3 = some (.int .i64) := by kernel_rfl
  have hs : (sizeOf 3).run Tryz.prog w = .ok 1 w := by kernel_rfl
  have hp : ∀ x y z, (part 3 #[.int .i64 x, .int .i64 y, .int .i64 z] (0 * 1)).run Tryz.prog w = .ok (.int .i64 x) w := fun x y z => by kernel_rfl
  have hd : ∀ d : Nat, (Op.equalIn (d + 2) 176 (.agg #[.int .i64 a, .int .i64 b, .int .i64 c]) (.agg #[.int .i64 0, .int .i64 0, .int .i64 0])).run Tryz.prog w = .ok false w := by
    intro d
    have e : (a == 0) = false := by simpa using h
    rw [Op.equalIn]
    simp only [Sem.run_bind, run_underlying hu, Result.andThen_ok, hs]
    rw [Std.Legacy.Range.forIn_eq_forIn_range']
    simp [Std.Legacy.Range.size, List.range'_succ, List.forIn_cons, Sem.run_bind, hp, run_equalIn_int w d 3 .i64 .i64 a 0 hu3, e]
  simp only [binOp]
  simp [Op.equal, Op.maxDepth, hd 9998]
theorem hdecomp_any (c : Int) (w : World) : Calls Tryz.prog 88 #[.int .i64 c] w (RetInts w (decompH c)) := by
  by_cases hk : kind c < 4
  · have hp := hparts_any c w
    rw [if_pos hk] at hp
    have HP := Lib.hid hp
    have HD := Lib.hid (show decompH c = [c] from if_pos hk)
    clear hp hk
    have he := eq3_same
    go_enter Tryz.func88, Tryz.ntmps88
    go_wp2_with (go_at_call 107; refine HP.out.mono ?_; rintro e w' ⟨rfl, hk1⟩)
    go_ret
    refine ⟨_, 1, 1, rfl, Nat.le_refl _, ?_, Kept.alloc (Kept.alloc hk1 _) _⟩
    rw [HD.out]
    exact Ints.alloc_ (xs := [c]) (by simp) rfl
  · have hp := hparts_any c w
    rw [if_neg hk] at hp
    have HP := Lib.hid hp
    obtain ⟨hr1, hr2⟩ := kind_ge (c := c) (by omega)
    have hl0 : hL c ≠ 0 := by unfold hL; omega
    have he := eq3_other (hL c) (hV c) (hT c) hl0
    clear hp
    by_cases ht : (c - 44032) % 28 = 0
    · have hz : (hT c == 0) = true := by unfold hT; rw [if_pos ht]; rfl
      have HD := Lib.hid (show decompH c = [hL c, hV c] by unfold decompH; rw [if_neg hk, if_pos ht])
      clear ht hk hl0
      go_enter Tryz.func88, Tryz.ntmps88
      go_wp2_with (go_at_call 107; refine HP.out.mono ?_; rintro e w' ⟨rfl, hk1⟩)
      go_ret
      refine ⟨_, 2, 2, rfl, Nat.le_refl _, ?_, Kept.alloc (Kept.alloc hk1 _) _⟩
      rw [HD.out]
      exact Ints.alloc_ (xs := [hL c, hV c]) (by simp) rfl
    · have hz : (hT c == 0) = false := by unfold hT; rw [if_neg ht]; simp; omega
      have HD := Lib.hid (show decompH c = [hL c, hV c, hT c] by unfold decompH; rw [if_neg hk, if_neg ht])
      clear ht hk hl0
      go_enter Tryz.func88, Tryz.ntmps88
      go_wp2_with (go_at_call 107; refine HP.out.mono ?_; rintro e w' ⟨rfl, hk1⟩)
      go_ret
      refine ⟨_, 3, 3, rfl, Nat.le_refl _, ?_, Kept.alloc (Kept.alloc hk1 _) _⟩
      rw [HD.out]
      exact Ints.alloc_ (xs := [hL c, hV c, hT c]) (by simp) rfl
end Go.Proofs.YtckgmkjoblneeaaGreatDoor
