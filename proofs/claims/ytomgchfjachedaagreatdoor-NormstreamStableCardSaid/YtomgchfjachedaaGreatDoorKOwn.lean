/- Slices that a call makes, as plain lists. hangul.parts and Decompose, and the reference's. And more of that kind. -/
import Derived.Laws.StructEq
import Derived.Test.YtomgchfjachedaaGreatDoorKBase
import Derived.Test.YtomgchfjachedaaGreatDoorKSq
import Derived.Test.YtomgchfjachedaaGreatDoorKPl
namespace Go.Proofs.YtomgchfjachedaaGreatDoor
open Go Go.RowKit
theorem info_int : (Tryz.prog.info? 3).map (fun i => (i.zero, i.size, i.bytes)) = some (some (.int .i64 0), 1, 8) := by kernel_rfl
theorem info_rng : (Tryz.prog.info? 81).map (fun i => (i.zero, i.size, i.bytes)) = some (some (.agg #[.int .i64 0, .int .i64 0]), 2, 16) := by kernel_rfl
theorem add_zero_ (g j : Nat) : (⟨g, 0, none⟩ : Addr).add j = ⟨g, j, none⟩ := by
  unfold Addr.add
  by_cases h : j = 0
  · simp [h]
  · simp [h]
theorem flat_length {α : Type} {k : Nat} {f : α → List Value} (h : ∀ x, (f x).length = k) : ∀ l : List α, (l.flatMap f).length = l.length * k
  | [] => by simp
  | x :: r => by
    rw [List.flatMap_cons, List.length_append, h, flat_length h r, List.length_cons, Nat.add_mul]; omega
theorem flat_get {α : Type} {k : Nat} {f : α → List Value} (h : ∀ x, (f x).length = k) : ∀ (l : List α) (i j : Nat) (x : α) (u : Value), l[i]? = some x → (f x)[j]? = some u → (l.flatMap f)[i * k + j]? = some u
  | [], i, j, x, u, hx, _ => by simp at hx
  | y :: r, 0, j, x, u, hx, hu => by
    simp only [List.getElem?_cons_zero, Option.some.injEq] at hx
    subst hx
    rw [List.flatMap_cons, List.getElem?_append_left (by simpa using lt_of_getElem?_some hu)]
    simpa using hu
  | y :: r, i + 1, j, x, u, hx, hu => by
    have ih := flat_get h r i j x u (by simpa using hx) hu
    rw [List.flatMap_cons, List.getElem?_append_right (by rw [h, Nat.add_mul]; omega), h]
    rw [← ih]
    congr 1
    rw [Nat.add_mul]; omega
theorem Sl.of_own {α : Type} {k : Nat} {enc : α → List Value} (hk : ∀ x, (enc x).length = k) {w : World} {base : Nat} {e : TypeId} {v : Value} {xs : List α} (h : w.ownsRow base e k v xs.length (xs.flatMap enc)) :
    ∃ A c, v = .slice A xs.length c ∧ xs.length ≤ c ∧ Sl k enc w A xs.length xs := by
  rcases h.2 with ⟨rfl, h0⟩ | ⟨g, cap, cur, rfl, h1, h2, h3, h4⟩
  · have : xs = [] := by
      rcases xs with _ | ⟨x, r⟩
      · rfl
      · simp at h0
    subst this
    exact ⟨none, 0, rfl, Nat.le_refl _, Sl.nil⟩
  · refine ⟨_, cap, rfl, h3, rfl, fun hn => ⟨g, 0, rfl, fun i x hx j u hu => ?_⟩⟩
    have hc := h.cells (g := g) rfl (i * k + j) u (flat_get hk xs i j x u hx hu)
    rw [add_zero_] at hc
    simpa [Nat.add_assoc] using hc
theorem Ints.new_ {w : World} {b : Nat} {xs : List Int} {cs : Array Value} {t : TypeId} (h : w.heap[b]? = some (.cells cs t (0, 0))) (hcs : cs = (xs.map (Value.int .i64)).toArray) : Ints w (some ⟨b, 0, none⟩) xs.length xs := by
  refine ⟨rfl, fun _ => ⟨b, 0, rfl, fun i x hx j u hu => ?_⟩⟩
  unfold World.cell?
  simp only [h, hcs, Option.isSome_none, Bool.false_eq_true, if_false]
  have hj : j = 0 := by
    have := lt_of_getElem?_some hu
    simp [encI] at this
    exact this
  subst hj
  simp only [encI, List.getElem?_cons_zero, Option.some.injEq] at hu
  subst hu
  simp [hx]
theorem Ints.alloc_ {w : World} {b : Nat} {xs : List Int} {cs : Array Value} {t : TypeId} (hb : b = w.heap.size) (hcs : cs = (xs.map (Value.int .i64)).toArray) : Ints (w.alloc (.cells cs t)) (some ⟨b, 0, none⟩) xs.length xs := by
  subst hb
  exact Ints.new_ (heap_alloc_new _ _) hcs
theorem cell_of_block {w : World} {b i : Nat} {cs : Array Value} {t : TypeId} {v : Value} (h : w.heap[b]? = some (.cells cs t (0, 0))) (hv : cs[i]? = some v) : w.cell? ⟨b, i, none⟩ = some v := by
  unfold World.cell?
  simp [h, hv]
theorem frozen_of_block {w : World} {b i : Nat} {cs : Array Value} {t : TypeId} (h : w.heap[b]? = some (.cells cs t (0, 0))) : w.frozen? ⟨b, i, none⟩ = false := by
  unfold World.frozen?
  simp [h]
theorem block_lt {w : World} {b : Nat} {o : Obj} (h : w.heap[b]? = some o) : b < w.heap.size := (Array.getElem?_eq_some_iff.1 h).1
theorem alloc_lift {W : World} {o x : Obj} {i : Nat} (h : W.heap[i]? = some x) : (W.alloc o).heap[i]? = some x := (Below.heap_alloc _ _ _ (block_lt h)).trans h
theorem alloc_at {W : World} {o : Obj} {b : Nat} (hb : b = W.heap.size) : (W.alloc o).heap[b]? = some o := by rw [hb]; exact heap_alloc_new _ _
def OwnI (w : World) (base : Nat) (v : Value) (xs : List Int) : Prop := w.ownsRow base 3 1 v xs.length (xs.map (Value.int .i64))
theorem flat_encI : ∀ xs : List Int, xs.flatMap encI = xs.map (Value.int .i64)
  | [] => rfl
  | x :: r => by rw [List.flatMap_cons, flat_encI r]; rfl
theorem OwnI.sl {w : World} {base : Nat} {v : Value} {xs : List Int} (h : OwnI w base v xs) : ∃ A c, v = .slice A xs.length c ∧ xs.length ≤ c ∧ Ints w A xs.length xs := by
  have h' : w.ownsRow base 3 1 v xs.length (xs.flatMap encI) := by rw [flat_encI]; exact h
  exact Sl.of_own (k := 1) (enc := encI) (fun _ => rfl) h'
theorem cell_one_at {w : World} {u : Value} {e : TypeId} {b : Nat} (hb : b = w.heap.size) : ∀ j x, [u][j]? = some x → (w.alloc (.cells #[u] e)).cell? ((⟨b, 0, none⟩ : Addr).add j) = some x := by
  subst hb
  intro j x hx
  rw [add_zero_, box_cell]
  simpa using hx
end Go.Proofs.YtomgchfjachedaaGreatDoor
namespace Go.Proofs.YtomgchfjachedaaGreatDoor
open Go Go.RowKit
theorem kind_ge {c : Int} (h : 4 ≤ kind c) : 44032 ≤ c ∧ c < 55204 := by
  unfold kind at h
  by_cases h1 : 4352 ≤ c ∧ c < 4371
  · rw [if_pos h1] at h; omega
  · by_cases h2 : 4449 ≤ c ∧ c < 4470
    · rw [if_neg h1, if_pos h2] at h; omega
    · by_cases h3 : 4520 ≤ c ∧ c < 4547
      · rw [if_neg h1, if_neg h2, if_pos h3] at h; omega
      · by_cases h4 : c < 44032 ∨ 55204 ≤ c
        · rw [if_neg h1, if_neg h2, if_neg h3, if_pos h4] at h; omega
        · omega
theorem hparts_any (c : Int) (w : World) : Calls Tryz.prog 185 #[.int .i64 c] w fun e w' =>
    e = .returned (.agg (if kind c < 4 then #[.int .i64 0, .int .i64 0, .int .i64 0] else #[.int .i64 (hL c), .int .i64 (hV c), .int .i64 (hT c)])) ∧ Kept w w' := by
  by_cases hk : kind c < 4
  · rw [if_pos hk]
    go_enter Tryz.func185, Tryz.ntmps185
    go_wp2_with (go_at_call 89; refine (kind_any _ _).mono ?_; rintro e w' ⟨rfl, rfl⟩)
    exact bodyPost_ret (v := .agg #[.int .i64 0, .int .i64 0, .int .i64 0]) (by simp [results, Tryz.results185, go_sem]) rfl ⟨rfl, by repeat (first | exact Kept.refl _ | refine Kept.drew ?_ | refine Kept.alloc ?_ _)⟩
  · rw [if_neg hk]
    have hr := kind_ge (c := c) (by omega)
    obtain ⟨hr1, hr2⟩ := hr
    by_cases ht : (c - 44032) % 28 = 0
    · have e3 : hT c = 0 := if_pos ht
      have HT3 := Lib.hid e3
      have ht' : ¬ 0 < (c - 44032) % 28 := by omega
      clear e3
      go_enter Tryz.func185, Tryz.ntmps185
      go_wp2_with (go_at_call 89; refine (kind_any _ _).mono ?_; rintro e w' ⟨rfl, rfl⟩)
      rw [HT3.out]
      exact bodyPost_ret (v := .agg #[.int .i64 (hL c), .int .i64 (hV c), .int .i64 0]) (by simp [results, Tryz.results185, go_sem, hL, hV]) rfl ⟨rfl, by repeat (first | exact Kept.refl _ | refine Kept.drew ?_ | refine Kept.alloc ?_ _)⟩
    · have e3 : hT c = 4520 + (c - 44032) % 28 - 1 := if_neg ht
      have HT3 := Lib.hid e3
      have ht' : 0 < (c - 44032) % 28 := by omega
      clear e3 ht
      go_enter Tryz.func185, Tryz.ntmps185
      go_wp2_with (go_at_call 89; refine (kind_any _ _).mono ?_; rintro e w' ⟨rfl, rfl⟩)
      rw [HT3.out]
      exact bodyPost_ret (v := .agg #[.int .i64 (hL c), .int .i64 (hV c), .int .i64 (4520 + (c - 44032) % 28 - 1)]) (by simp [results, Tryz.results185, go_sem, hL, hV]) rfl ⟨rfl, by repeat (first | exact Kept.refl _ | refine Kept.drew ?_ | refine Kept.alloc ?_ _ | refine Kept.setCell ?_ (by simp) _)⟩
end Go.Proofs.YtomgchfjachedaaGreatDoor
namespace Go.Proofs.YtomgchfjachedaaGreatDoor
open Go Go.RowKit
theorem eq3_same (w : World) : (binOp .eql 111 (.agg #[.int .i64 0, .int .i64 0, .int .i64 0]) (.agg #[.int .i64 0, .int .i64 0, .int .i64 0])).run Tryz.prog w = .ok (.bool true) w := by kernel_rfl
theorem eq3_other (a b c : Int) (h : a ≠ 0) (w : World) : (binOp .eql 111 (.agg #[.int .i64 a, .int .i64 b, .int .i64 c]) (.agg #[.int .i64 0, .int .i64 0, .int .i64 0])).run Tryz.prog w = .ok (.bool false) w := by
  have hu : Tryz.prog.underlying 111 = some (.array 3 3) := by kernel_rfl
  have hu3 : Tryz.prog.underlying 3 = some (.int .i64) := by kernel_rfl
  have hs : (sizeOf 3).run Tryz.prog w = .ok 1 w := by kernel_rfl
  have hp : ∀ x y z, (part 3 #[.int .i64 x, .int .i64 y, .int .i64 z] (0 * 1)).run Tryz.prog w = .ok (.int .i64 x) w := fun x y z => by kernel_rfl
  have hd : ∀ d : Nat, (Op.equalIn (d + 2) 111 (.agg #[.int .i64 a, .int .i64 b, .int .i64 c]) (.agg #[.int .i64 0, .int .i64 0, .int .i64 0])).run Tryz.prog w = .ok false w := by
    intro d
    have e : (a == 0) = false := by simpa using h
    rw [Op.equalIn]
    simp only [Sem.run_bind, run_underlying hu, Result.andThen_ok, hs]
    rw [Std.Legacy.Range.forIn_eq_forIn_range']
    simp [Std.Legacy.Range.size, List.range'_succ, List.forIn_cons, Sem.run_bind, hp, run_equalIn_int w d 3 .i64 .i64 a 0 hu3, e]
  simp only [binOp]
  simp [Op.equal, Op.maxDepth, hd 9998]
theorem hdecomp_any (c : Int) (w : World) : Calls Tryz.prog 167 #[.int .i64 c] w (RetInts w (decompH c)) := by
  by_cases hk : kind c < 4
  · have hp := hparts_any c w
    rw [if_pos hk] at hp
    have HP := Lib.hid hp
    have HD := Lib.hid (show decompH c = [c] from if_pos hk)
    clear hp hk
    have he := eq3_same
    go_enter Tryz.func167, Tryz.ntmps167
    go_wp2_with (go_at_call 185; refine HP.out.mono ?_; rintro e w' ⟨rfl, hk1⟩)
    go_ret
    refine ⟨_, 1, 1, rfl, Nat.le_refl _, ?_, Kept.alloc (Kept.alloc hk1 _) _⟩
    rw [HD.out]
    exact Ints.alloc_ (xs := [c]) (by simp) rfl
  · have hp := hparts_any c w
    rw [if_neg hk] at hp
    have HP := Lib.hid hp
    obtain ⟨hr1, hr2⟩ := kind_ge (c := c) (by omega)
    have hl0 : hL c ≠ 0 := by unfold hL; omega
    have he := eq3_other (hL c) (hV c) (hT c) hl0
    clear hp
    by_cases ht : (c - 44032) % 28 = 0
    · have hz : (hT c == 0) = true := by unfold hT; rw [if_pos ht]; rfl
      have HD := Lib.hid (show decompH c = [hL c, hV c] by unfold decompH; rw [if_neg hk, if_pos ht])
      clear ht hk hl0
      go_enter Tryz.func167, Tryz.ntmps167
      go_wp2_with (go_at_call 185; refine HP.out.mono ?_; rintro e w' ⟨rfl, hk1⟩)
      go_ret
      refine ⟨_, 2, 2, rfl, Nat.le_refl _, ?_, Kept.alloc (Kept.alloc hk1 _) _⟩
      rw [HD.out]
      exact Ints.alloc_ (xs := [hL c, hV c]) (by simp) rfl
    · have hz : (hT c == 0) = false := by unfold hT; rw [if_neg ht]; simp; omega
      have HD := Lib.hid (show decompH c = [hL c, hV c, hT c] by unfold decompH; rw [if_neg hk, if_neg ht])
      clear ht hk hl0
      go_enter Tryz.func167, Tryz.ntmps167
      go_wp2_with (go_at_call 185; refine HP.out.mono ?_; rintro e w' ⟨rfl, hk1⟩)
      go_ret
      refine ⟨_, 3, 3, rfl, Nat.le_refl _, ?_, Kept.alloc (Kept.alloc hk1 _) _⟩
      rw [HD.out]
      exact Ints.alloc_ (xs := [hL c, hV c, hT c]) (by simp) rfl
end Go.Proofs.YtomgchfjachedaaGreatDoor
namespace Go.Proofs.YtomgchfjachedaaGreatDoor
open Go Go.RowKit
theorem once1_any (s : Mp) (v1 v2 : Value) (c : Int) (w : World) : Calls Tryz.prog 169 #[.agg #[.int .i64 s.src, v1, v2], .int .i64 c] w (RetI w (cmpI s.src c)) := by
  go_enter Tryz.func169, Tryz.ntmps169
  go_wp2_with (go_at_call 78; refine (cmp_any _ _ _).mono ?_; rintro e w' ⟨rfl, rfl⟩)
  go_ret
  exact ⟨rfl, Kept.alloc (Kept.refl _) _⟩
def BsMp (w : World) (l : List Mp) (c : Int) (e : Ending) (w' : World) : Prop :=
  ∃ (i : Nat) (ok : Bool), e = .returned (.tuple #[.int .i64 (i : Int), .bool ok]) ∧ Kept w w' ∧ i ≤ l.length ∧
    (ok = true → ∃ s, l[i]? = some s ∧ s.src = c) ∧ (ok = false → ∀ s ∈ l, ¬ s.src = c)
set_option maxRecDepth 100000 in
set_option maxHeartbeats 1000000 in
theorem bs_mp (A : Option Addr) (n cp : Nat) (l : List Mp) (c : Int) (w : World) (hn : n ≤ 100000) (hl : Mps w A n l) (hs : MpSorted l) :
    Calls Tryz.prog 168 #[.slice A n cp, .int .i64 c, .func (.func 169) #[] #[]] w (BsMp w l c) := by
  have HL := Lib.hid hl
  have HN := Lib.hid hl.1
  have HO := Lib.hid hs
  clear hl hs
  go_enter Tryz.func168, Tryz.ntmps168
  go_wp2
  go_loopw [9, 10] (fun a b wr => ∃ i j : Nat, i ≤ j ∧ j ≤ n ∧ a = .int .i64 i ∧ b = .int .i64 j ∧ (∀ k s, k < i → l[k]? = some s → s.src < c) ∧ (∀ k s, j ≤ k → l[k]? = some s → c ≤ s.src) ∧ Below w.heap.size w wr) (fun a b _ => (intOf b).toNat - (intOf a).toNat)
  case atStart => exact ⟨0, n, Nat.zero_le _, Nat.le_refl _, rfl, rfl, fun k s h => by omega, fun k s h1 h2 => by have := lt_of_getElem?_some h2; have := HN.out; omega, Below.refl _ _⟩
  case round =>
    obtain ⟨i, j, hij, hjn, rfl, rfl, hlo, hhi, hB⟩ := hrel
    have HLO := Lib.hid hlo
    have HHI := Lib.hid hhi
    clear hlo hhi
    by_cases hlt : i < j
    · obtain ⟨b, off, s, A', n', c', rfl, hs, _, _, c0, c1, c2⟩ := mp_at (i := (i + j) / 2) (HL.out.kept hB) (by omega)
      have HS := Lib.hid hs
      clear hs
      by_cases hcmp : s.src < c
      · have hz : cmpI s.src c < 0 := by unfold cmpI; rw [if_pos hcmp]; decide
        go_wp2_with (go_at_call 169; refine (once1_any _ _ _ _ _).mono ?_; rintro e w' ⟨rfl, hk2⟩)
        go_roundw
        case rel =>
          refine ⟨(i + j) / 2 + 1, j, by omega, hjn, by go_num, rfl, fun k t hk ht => ?_, HHI.out, Kept.trans hB hk2⟩
          rcases Nat.lt_or_ge k ((i + j) / 2) with h | h
          · have h1 := HO.out k _ t s h ht HS.out
            omega
          · obtain rfl : k = (i + j) / 2 := by omega
            have := HS.out
            rw [ht] at this
            injection this with this
            subst this
            exact hcmp
        case measure => simp [intOf]; omega
      · have hz : ¬ cmpI s.src c < 0 := by unfold cmpI; rw [if_neg hcmp]; split <;> decide
        go_wp2_with (go_at_call 169; refine (once1_any _ _ _ _ _).mono ?_; rintro e w' ⟨rfl, hk2⟩)
        go_roundw
        case rel =>
          refine ⟨i, (i + j) / 2, by omega, by omega, rfl, by go_num, HLO.out, fun k t hk ht => ?_, Kept.trans hB hk2⟩
          rcases Nat.lt_or_ge ((i + j) / 2) k with h | h
          · have h1 := HO.out _ k s t h HS.out ht
            omega
          · obtain rfl : k = (i + j) / 2 := by omega
            have := HS.out
            rw [ht] at this
            injection this with this
            subst this
            omega
        case measure => simp [intOf]; omega
    · obtain rfl : i = j := by omega
      by_cases hin : i < n
      · obtain ⟨b, off, s, A', n', c', rfl, hs, _, _, c0, c1, c2⟩ := mp_at (i := i) (HL.out.kept hB) (by omega)
        have HS := Lib.hid hs
        clear hs
        have hnot : ∀ (k : Nat) (t : Mp), l[k]? = some t → k ≠ i → ¬ t.src = c := fun k t ht hki => by
          rcases Nat.lt_or_gt_of_ne hki with h | h
          · have := HLO.out k t h ht; omega
          · have h0 := HO.out i k s t h HS.out ht
            have h1 := HHI.out i s (Nat.le_refl _) HS.out
            omega
        have HNOT := Lib.hid hnot
        clear hnot
        by_cases hz : cmpI s.src c = 0
        · have hz' : (cmpI s.src c == 0) = true := by simpa using hz
          have HZ := Lib.hid hz
          clear hz
          go_wp2_with (go_at_call 169; refine (once1_any _ _ _ _ _).mono ?_; rintro e w' ⟨rfl, hk2⟩)
          go_ret2
          refine ⟨i, true, rfl, Kept.trans hB hk2, by have := HN.out; omega, fun _ => ⟨s, HS.out, ?_⟩, fun h => by cases h⟩
          have := HZ.out
          unfold cmpI at this
          by_cases h1 : s.src < c
          · rw [if_pos h1] at this; omega
          · by_cases h2 : c < s.src
            · rw [if_neg h1, if_pos h2] at this; omega
            · omega
        · have hz' : (cmpI s.src c == 0) = false := by simpa using hz
          have HZ := Lib.hid hz
          clear hz
          go_wp2_with (go_at_call 169; refine (once1_any _ _ _ _ _).mono ?_; rintro e w' ⟨rfl, hk2⟩)
          go_ret2
          refine ⟨i, false, rfl, Kept.trans hB hk2, by have := HN.out; omega, (fun h => by cases h), fun _ t ht => ?_⟩
          obtain ⟨k, hk, e⟩ := List.getElem_of_mem ht
          have ht' : l[k]? = some t := by rw [List.getElem?_eq_getElem hk, e]
          by_cases hki : k = i
          · subst hki
            have := HS.out
            rw [ht'] at this
            injection this with this
            subst this
            intro hc
            exact HZ.out (by unfold cmpI; rw [if_neg (by omega), if_neg (by omega)])
          · exact HNOT.out k t ht' hki
      · go_wp2_with fail
        go_ret2
        refine ⟨i, false, rfl, hB, by have := HN.out; omega, (fun h => by cases h), fun _ t ht => ?_⟩
        obtain ⟨k, hk, e⟩ := List.getElem_of_mem ht
        have ht' : l[k]? = some t := by rw [List.getElem?_eq_getElem hk, e]
        have := HLO.out k t (by have := HN.out; omega) ht'
        omega
end Go.Proofs.YtomgchfjachedaaGreatDoor
namespace Go.Proofs.YtomgchfjachedaaGreatDoor
open Go Go.RowKit
structure Sls where
  Ac : Option Addr
  nc : Nat
  cc : Nat
  Am : Option Addr
  nm : Nat
  cm : Nat
  Ae : Option Addr
  ne : Nat
  ce : Nat
def Sls.val (s : Sls) : Value := .agg #[.slice s.Ac s.nc s.cc, .slice s.Am s.nm s.cm, .slice s.Ae s.ne s.ce]
structure NormAt (w : World) (s : Sls) (n : Nrm) : Prop where
  hc : s.nc ≤ s.cc
  hm : s.nm ≤ s.cm
  he : s.ne ≤ s.ce
  bc : s.nc ≤ 1000
  bm : s.nm ≤ 1000
  be : s.ne ≤ 1000
  cls : Spans w s.Ac s.nc n.classes
  dec : Mps w s.Am s.nm n.decomp
  exc : Rngs w s.Ae s.ne n.excl
  to : ∀ m ∈ n.decomp, m.to.length ≤ 1000
theorem NormAt.kept {w w' : World} {s : Sls} {n : Nrm} (h : NormAt w s n) (hk : Kept w w') : NormAt w' s n :=
  ⟨h.hc, h.hm, h.he, h.bc, h.bm, h.be, h.cls.kept hk, h.dec.kept hk, h.exc.kept hk, h.to⟩
def RetOnce (w : World) (r : Option (List Int)) (e : Ending) (w' : World) : Prop := Kept w w' ∧ match r with
  | none => e = .returned (.tuple #[.slice none 0 0, .bool false])
  | some xs => ∃ A n c, e = .returned (.tuple #[.slice A n c, .bool true]) ∧ n ≤ c ∧ Ints w' A n xs
set_option maxHeartbeats 1000000 in
theorem once_any (s : Sls) (n : Nrm) (c : Int) (compat : Bool) (w : World) (hN : NormAt w s n) (hs : MpSorted n.decomp) :
    Calls Tryz.prog 136 #[s.val, .int .i64 c, .bool compat] w (RetOnce w (onceOf n.decomp c compat)) := by
  unfold Sls.val
  have HS := Lib.hid hs
  have HN := Lib.hid hN
  have hbm := hN.bm
  clear hN hs
  by_cases hk : 4 ≤ kind c
  · have HO := Lib.hid (show onceOf n.decomp c compat = some (decompH c) from if_pos hk)
    go_enter Tryz.func136, Tryz.ntmps136
    go_wp2_with (first
      | (go_at_call 89; refine (kind_any _ _).mono ?_; rintro e w' ⟨rfl, rfl⟩)
      | (go_at_call 167; refine (hdecomp_any _ _).mono ?_; rintro e w' ⟨A, nn, cc, rfl, hle, hI, hk2⟩))
    go_ret2
    rw [HO.out]
    exact ⟨Kept.trans (Kept.alloc (Kept.refl _) _) hk2, A, nn, cc, rfl, hle, hI⟩
  · have hO : onceOf n.decomp c compat = mapOf n.decomp c compat := if_neg hk
    have HO := Lib.hid hO
    clear hO
    go_enter Tryz.func136, Tryz.ntmps136
    go_wp2_with (go_at_call 89; refine (kind_any _ _).mono ?_; rintro e w' ⟨rfl, rfl⟩)
    refine (bs_mp _ _ _ n.decomp _ _ (by omega) (HN.out.dec.kept (Kept.alloc (Kept.refl _) _)) HS.out).mono ?_
    rintro e w1 ⟨i, ok, rfl, hk1, hi, hyes, hno⟩
    have hbx := box_cell w #[Value.slice s.Ac s.nc s.cc, Value.slice s.Am s.nm s.cm, Value.slice s.Ae s.ne s.ce] 28
    have e1 := hk1.cell (hbx 1)
    clear hbx
    have hkw := Kept.trans (Kept.alloc (Kept.refl _) _) hk1
    cases ok
    · have HNO := Lib.hid (hno rfl)
      clear hno hyes
      go_wp2_with fail
      go_ret2
      rw [HO.out, mapOf_none HNO.out]
      exact ⟨hkw, rfl⟩
    · obtain ⟨m, hm, hc⟩ := hyes rfl
      have hin : i < s.nm := by have h1 := lt_of_getElem?_some hm; have h2 := HN.out.dec.1; omega
      obtain ⟨b, off, m', A', n', c', hA, hm', hle, hI, c0, c1, c2⟩ := mp_at (i := i) (HN.out.dec.kept hkw) hin
      have em : m' = m := by rw [hm] at hm'; injection hm' with h; exact h.symm
      subst em
      rw [hA] at e1 ⊢
      have HI := Lib.hid hI
      have HM := Lib.hid (mapOf_some (compat := compat) HS.out hm hc)
      clear hno hyes hm hm' hI hA hc
      cases ht : m'.tag.toList.isEmpty
      · have hte : ¬ m'.tag.toList = [] := by simpa using ht
        cases compat
        · go_wp2_with fail
          go_ret2
          rw [HO.out, HM.out, if_neg (by simp [plainTag, ht])]
          exact ⟨hkw, rfl⟩
        · go_wp2_with fail
          go_ret2
          rw [HO.out, HM.out, if_pos (by simp)]
          exact ⟨hkw, A', n', c', rfl, hle, HI.out⟩
      · have hte : m'.tag.toList = [] := by simpa using ht
        go_wp2_with fail
        go_ret2
        rw [HO.out, HM.out, if_pos (by simp [plainTag, ht])]
        exact ⟨hkw, A', n', c', rfl, hle, HI.out⟩
end Go.Proofs.YtomgchfjachedaaGreatDoor
