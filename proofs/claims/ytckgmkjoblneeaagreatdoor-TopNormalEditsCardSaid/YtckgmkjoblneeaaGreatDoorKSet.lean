/- slices.SortFunc of ranges, as cpset.Make calls it. cpset.Make. cpset.Valid. -/
import Derived.Laws.StructEq
import Derived.Test.YtckgmkjoblneeaaGreatDoorKSq
import Derived.Test.YtckgmkjoblneeaaGreatDoorKOwn
import Derived.Test.YtckgmkjoblneeaaGreatDoorKPl
import Derived.Test.YtckgmkjoblneeaaGreatDoorKRfj
namespace Go.Proofs.YtckgmkjoblneeaaGreatDoor
open Go Go.RowKit Go.Sort
set_option maxHeartbeats 1000000 in
set_option maxRecDepth 100000 in
theorem make1_any (a b : Rng) (w : World) : Calls Tryz.prog 114 #[.agg #[.int .i64 a.lo, .int .i64 a.hi], .agg #[.int .i64 b.lo, .int .i64 b.hi]] w fun e w' => e = .returned (.int .i64 (rngCmp a b)) ∧ ∃ q os', w' = grow (w.drewN q) os' := by
  go_enter Tryz.func114, Tryz.ntmps114
  go_wp2
  refine region_still_tail 10 (by kernel_rfl) (by kernel_rfl) ?_
  simp only [List.take_succ_cons, List.take_zero, List.drop_succ_cons, List.drop_zero]
  still_step
  still_step
  still_step
  still_step
  still_call (flip_ (cmp_any _ _ _))
  still_step
  still_step
  still_step
  still_step
  still_call (flip_ (cmp_any _ _ _))
  refine wpStill_nil ?_
  go_wp2_with (go_at_call 111; refine (or_two _ _ _ (cmpI a.lo b.lo) (cmpI a.hi b.hi) _ (by go_simp) (by go_simp)).mono ?_; rintro e w' ⟨rfl, rfl⟩)
  go_ret
  refine ⟨rfl, 1, #[Obj.cells #[Value.int IntKind.i64 a.lo, Value.int IntKind.i64 a.hi] 48, Obj.cells #[Value.int IntKind.i64 b.lo, Value.int IntKind.i64 b.hi] 48, Obj.cells #[Value.int IntKind.i64 (cmpI a.lo b.lo), Value.int IntKind.i64 (cmpI a.hi b.hi)] 3], ?_⟩
  rw [alloc_eq_grow, alloc_eq_grow, alloc_eq_grow, grow_grow, grow_grow]
  rfl
theorem rng_swo : SWO (ltOf rngCmp) where
  irrefl x := by
    have : ltOf rngCmp x x = rngLt x x := rfl
    rw [this, rngLt_false]; omega
  trans x y z h1 h2 := by
    have e : ∀ a b, ltOf rngCmp a b = rngLt a b := fun _ _ => rfl
    rw [e] at *
    rw [rngLt_iff] at *
    omega
  ntrans x y z h1 h2 := by
    have e : ∀ a b, ltOf rngCmp a b = rngLt a b := fun _ _ => rfl
    rw [e] at *
    rw [rngLt_false] at *
    omega
instance instInhRng : Inhabited Rng := ⟨⟨0, 0⟩⟩
theorem cmpLays (blk off size : Nat) (w : World) : CmpLays Tryz.prog 114 #[] encR 2 rngCmp blk off size w :=
  fun _ _ _ _ x y => make1_any x y _
theorem flat_at {l : List Rng} {t : Nat} (h : t < l.length * 2) : (l.flatMap encR)[t]? = some (flatK encR 2 l.toArray)[t]! := by
  have h1 : t / 2 < l.length := by omega
  have h2 : t % 2 < 2 := by omega
  rw [get_flatK encR 2 l.toArray t (by simpa using h)]
  have hx : l[t / 2]? = some l.toArray[t / 2]! := by simp [getElem!_pos, h1]
  have hu : (encR l.toArray[t / 2]!)[t % 2]? = some (encR l.toArray[t / 2]!)[t % 2]! := by
    have : t % 2 < (encR l.toArray[t / 2]!).length := h2
    rw [getElem!_pos (encR l.toArray[t / 2]!) (t % 2) this, List.getElem?_eq_getElem this]
  have := flat_get (k := 2) (f := encR) (fun _ => rfl) l (t / 2) (t % 2) _ _ hx hu
  rwa [show t / 2 * 2 + t % 2 = t from by omega] at this
theorem sortR_length (l : List Rng) : (sortR l).length = l.length := List.length_mergeSort l
theorem sort_rngs (base : Nat) (v : Value) (xs : List Rng) (w : World) (hown : w.ownsRow base 48 2 v xs.length (xs.flatMap encR)) (hx : xs.length ≤ 100000000) :
    Calls Tryz.prog 113 #[v, .func (.func 114) #[] #[]] w fun e w' => e = .returned (.tuple #[]) ∧ w'.ownsRow base 48 2 v xs.length ((sortR xs).flatMap encR) ∧ w.grownBy w' v.ownBlock := by
  rcases hown.2 with ⟨rfl, h0⟩ | ⟨g, cap, cur, rfl, hb, hg, hn, hm, hsz, htk⟩
  · have : xs = [] := List.eq_nil_of_length_eq_zero h0
    subst this
    refine (AnyF.slices_SortFunc_none Tryz.sortRng none 0 (.func (.func 114) #[] #[]) w).mono ?_
    rintro e w' ⟨rfl, rfl⟩
    exact ⟨rfl, by simpa [sortR] using hown, World.grownBy.refl _ _⟩
  · have hcur : ∀ t, t < xs.length * 2 → cur[t]? = some (flatK encR 2 xs.toArray)[t]! := fun t ht => by
      have := flat_at (l := xs) ht
      rw [← htk, List.getElem?_take, if_pos ht] at this
      simpa using this
    have hH : HoldsK encR 2 w g 0 xs.toArray := fun t ht => by
      rw [size_flatK] at ht
      have ht' : t < xs.length * 2 := by simpa using ht
      refine ⟨?_, ?_⟩
      · unfold World.cell?
        simp only [hg, Nat.zero_add, Option.isSome_none, Bool.false_eq_true, if_false]
        exact hcur t ht'
      · unfold World.frozen?
        simp [hg]
    have hsz' : xs.toArray.size = xs.length := by simp
    have hcon := AnyQ.slices_SortFunc_total Tryz.sortRng 2 (fun _ => by kernel_rfl) (fun _ => by kernel_rfl) encR (fun _ => rfl) (fun x v hv => by simp [encR] at hv; rcases hv with rfl | rfl <;> rfl) rngCmp rng_swo 114 #[] g 0 cap xs.toArray w (enters_of Tryz.func114 (by kernel_rfl) rfl) (cmpLays _ _ _ _) hH (Array.getElem?_eq_some_iff.1 hg).1 (by simp; omega)
      (fun x y h1 h2 => by
        have e : ∀ a b, ltOf rngCmp a b = rngLt a b := fun _ _ => rfl
        rw [e, rngLt_false] at h1 h2
        exact Rng.ext' (by omega) (by omega))
    rw [hsz'] at hcon
    refine hcon.mono ?_
    rintro e w' ⟨rfl, n, os, rfl⟩
    have hsort : (xs.toArray.toList.mergeSort fun x y => !ltOf rngCmp y x) = sortR xs := rfl
    rw [hsort]
    have hgl : g < w.heap.size := (Array.getElem?_eq_some_iff.1 hg).1
    have hblk : (sortWorldK encR 2 w g 0 n (sortR xs).toArray os).heap[g]? = some (.cells (putCells id 0 (flatK encR 2 (sortR xs).toArray) cur) 48 (0, 0)) := by
      unfold sortWorldK
      rw [heap_grow_old _ _ (by rw [size_putRowK]; exact hgl)]
      simp [putRowK, putRow, mapBlock, Sort.ahead, Array.getElem?_modify, hg, onCells]
    refine ⟨rfl, ⟨by rw [flat_length (k := 2) (fun _ => rfl), sortR_length], .inr ⟨g, cap, _, rfl, hb, hblk, hn, hm, by simpa [putCells] using hsz, ?_⟩⟩, ?_⟩
    · apply List.ext_getElem?
      intro t
      rw [List.getElem?_take, Array.getElem?_toList]
      by_cases ht : t < xs.length * 2
      · rw [if_pos ht]
        have hf := flat_at (l := sortR xs) (t := t) (by rw [sortR_length]; exact ht)
        rw [hf]
        have htc : t < cur.size := by rw [hsz]; omega
        simp only [putCells, Array.getElem?_mapIdx, Array.getElem?_eq_getElem htc, Option.map_some]
        rw [if_pos (by rw [size_flatK]; simp [sortR_length]; exact ht)]
        rfl
      · rw [if_neg ht, List.getElem?_eq_none (by rw [flat_length (k := 2) (fun _ => rfl), sortR_length]; omega)]
    · refine ⟨rfl, rfl, rfl, size_sortWorldK_c encR 2 w g 0 n _ os, fun k hk hne => ?_⟩
      have hkg : g ≠ k := fun e => hne (by rw [e]; rfl)
      unfold sortWorldK
      rw [heap_grow_old _ _ (by rw [size_putRowK]; exact hk)]
      simp [putRowK, putRow, mapBlock, Sort.ahead, Array.getElem?_modify, hkg]
end Go.Proofs.YtckgmkjoblneeaaGreatDoor
namespace Go.Proofs.YtckgmkjoblneeaaGreatDoor
open Go Go.RowKit
abbrev OwnR (w : World) (base : Nat) (v : Value) (xs : List Rng) : Prop := w.ownsRow base 48 2 v xs.length (xs.flatMap encR)
theorem OwnR.form {w : World} {base : Nat} {v : Value} {xs : List Rng} (h : OwnR w base v xs) : ∃ A c, v = .slice A xs.length c := by
  rcases h.2 with ⟨rfl, h0⟩ | ⟨g, cap, cur, rfl, _⟩
  · exact ⟨none, 0, by rw [h0]⟩
  · exact ⟨_, _, rfl⟩
theorem cell_two_new {w : World} {u v : Value} {e : TypeId} {b : Nat} (hb : b = w.heap.size) : ∀ j x, [u, v][j]? = some x → (w.alloc (.cells #[u, v] e)).cell? ((⟨b, 0, none⟩ : Addr).add j) = some x := by
  subst hb
  intro j x hx
  rw [add_zero_, box_cell]
  simpa using hx
theorem ownsRow_succ_ {W : World} {base : Nat} {e : TypeId} {size : Nat} {v : Value} {k : Nat} {xs : List Value} (h : W.ownsRow base e size v (k + 1) xs) : ∃ g cap, v = .slice (some ⟨g, 0, none⟩) (k + 1) cap := by
  rcases h.2 with ⟨_, h0⟩ | ⟨g, cap, _, rfl, _⟩
  · omega
  · exact ⟨g, cap, rfl⟩
theorem nil_or_snoc {α : Type} (l : List α) : l = [] ∨ ∃ os q, l = os ++ [q] := by
  rcases List.eq_nil_or_concat l with h | ⟨os, q, h⟩
  · exact .inl h
  · exact .inr ⟨os, q, by rw [h, List.concat_eq_append]⟩
theorem flat_set (os : List Rng) (q : Rng) (h : Int) : ((os ++ [q]).flatMap encR).set (os.length * 2 + 1) (.int .i64 h) = (os ++ [(⟨q.lo, h⟩ : Rng)]).flatMap encR := by
  have e1 : (os ++ [q]).flatMap encR = os.flatMap encR ++ [.int .i64 q.lo, .int .i64 q.hi] := by simp [encR]
  have e2 : (os ++ [(⟨q.lo, h⟩ : Rng)]).flatMap encR = os.flatMap encR ++ [.int .i64 q.lo, .int .i64 h] := by simp [encR]
  have hl : (os.flatMap encR).length = os.length * 2 := flat_length (k := 2) (fun _ => rfl) os
  rw [e1, e2, List.set_append, if_neg (by rw [hl]; omega), hl, show os.length * 2 + 1 - os.length * 2 = 1 by omega]
  rfl
theorem addR_snoc (os : List Rng) (q r : Rng) : addR (os ++ [q]) r = if r.lo ≤ q.hi + 1 then os ++ [(⟨q.lo, max q.hi r.hi⟩ : Rng)] else os ++ [q] ++ [r] := by
  unfold addR
  simp
def RetSet (w : World) (xs : List Rng) (e : Ending) (w' : World) : Prop := ∃ A n c, e = .returned (.agg #[.slice A n c]) ∧ n ≤ c ∧ Rngs w' A n xs ∧ Kept w w'
theorem heap_setCell_one {w : World} {b : Nat} {u v : Value} {t : TypeId} (h : w.heap[b]? = some (.cells #[u] t (0, 0))) : (w.setCell ⟨b, 0, none⟩ v).heap[b]? = some (.cells #[v] t (0, 0)) := by
  simp [World.setCell, Array.getElem?_modify, h]
theorem clipped_snoc {l : List Rng} {k : Nat} {r : Rng} (h : l[k]? = some r) : clipped (l.take (k + 1)) = clipped (l.take k) ++ (if (clip r).lo ≤ (clip r).hi then [clip r] else []) := by
  unfold clipped
  rw [take_succ_some h, List.map_append, List.filter_append]
  congr 1
  simp only [List.map_cons, List.map_nil, List.filter_cons, List.filter_nil]
  by_cases hc : (clip r).lo ≤ (clip r).hi <;> simp [hc]
theorem clipped_bound {l : List Rng} {q : Rng} (h : q ∈ clipped l) : 0 ≤ q.lo ∧ q.lo ≤ q.hi ∧ q.hi ≤ 1114111 := by
  unfold clipped at h
  rw [List.mem_filter] at h
  obtain ⟨h1, h2⟩ := h
  obtain ⟨r, _, e⟩ := List.mem_map.1 h1
  have h2 : q.lo ≤ q.hi := by simpa using h2
  subst e
  unfold clip at h2 ⊢
  simp only at h2 ⊢
  omega
theorem clipped_length (l : List Rng) : (clipped l).length ≤ l.length := by
  unfold clipped
  exact Nat.le_trans (List.length_filter_le _ _) (by simp)
set_option maxRecDepth 100000 in
set_option maxHeartbeats 2000000 in
theorem make_any (A : Option Addr) (n c : Nat) (l : List Rng) (w : World) (hn : n ≤ 100000) (hl : Rngs w A n l) :
    Calls Tryz.prog 104 #[.slice A n c] w (RetSet w (makeR l)) := by
  have HL := Lib.hid hl
  have HN := Lib.hid hl.1
  clear hl
  obtain ⟨i0, hi, hz0, hz1, hz2⟩ := info_parts info_rng
  have HI0 := Lib.hid hi
  have HZ0 := Lib.hid hz0
  have HZ1 := Lib.hid hz1
  have HZ2 := Lib.hid hz2
  clear hi hz0 hz1 hz2
  go_enter Tryz.func104, Tryz.ntmps104
  go_wp2
  have hB0 : Below w.heap.size w (w.alloc (Obj.cells #[Value.slice none 0 0] 26)) := (Below.refl _ w).alloc (Nat.le_refl _) _
  have hbx : (w.alloc (Obj.cells #[Value.slice none 0 0] 26)).heap[w.heap.size]? = some (.cells #[.slice none 0 0] 26 (0, 0)) := heap_alloc_new _ _
  have hs0 : (w.alloc (Obj.cells #[Value.slice none 0 0] 26)).heap.size = w.heap.size + 1 := by simp
  generalize w.alloc (Obj.cells #[Value.slice none 0 0] 26) = W0 at *
  have HBX := Lib.hid hbx
  have hs0' : w.heap.size + 1 ≤ W0.heap.size := by omega
  clear hbx hs0
  obtain ⟨B, hBd⟩ : ∃ B : Nat, B = w.heap.size := ⟨_, rfl⟩
  have HBD := Lib.hid hBd
  rw [← hBd] at HBX hB0 hs0' ⊢
  clear hBd
  go_loopw [3, 13] (fun p i wr => ∃ k : Nat, k ≤ n ∧ i = .int .i64 k ∧ OwnR wr (B + 1) p (clipped (l.take k)) ∧ wr.heap[B]? = some (.cells #[.slice none 0 0] 26 (0, 0)) ∧ Below B w wr) (fun _ i _ => n - (intOf i).toNat)
  case atStart => exact ⟨0, Nat.zero_le _, rfl, (World.ownsRow_nil _ _ _ _ : OwnR W0 (B + 1) (.slice none 0 0) []), HBX.out, hB0⟩
  case round =>
    obtain ⟨k, hk, rfl, hown, hbx, hB⟩ := hrel
    have HO := Lib.hid hown
    have HB := Lib.hid hbx
    have hsz : B + 1 ≤ wr.heap.size := (Array.getElem?_eq_some_iff.1 hbx).1
    clear hown hbx
    have hkw : Kept w wr := by have := hB; rw [HBD.out] at this; exact this
    by_cases hlt : k < n
    · obtain ⟨b, off, r, rfl, hr, c0, c1⟩ := rng_at (HL.out.kept hkw) hlt
      have HR := Lib.hid hr
      clear hr
      have hlen : (clipped (l.take k)).length ≤ 100000 := by
        have h1 := clipped_length (l.take k)
        have h2 : (l.take k).length ≤ k := List.length_take_le _ _
        omega
      by_cases hc : max r.lo 0 ≤ min r.hi 1114111
      · go_wp2_with (at_builtin; refine wpList_append_own _ rfl _ _ 24 rfl (B + 1) 48 i0 (.agg #[.int .i64 0, .int .i64 0]) 2 16 Tryz.underlying24 HI0.out HZ0.out HZ1.out HZ2.out rfl (by decide) _ _ _ rfl (((HO.out.alloc _).alloc _).alloc _) ⟨wr.heap.size + 1 + 1, 0, none⟩ 1 1 [.int .i64 (max r.lo 0), .int .i64 (min r.hi 1114111)] rfl rfl (cell_two_new (by simp)) (by simp [Value.oneCell']) (by unfold maxLen; omega) (by omega) (by simp; omega) ?_; intro v' w1 hown' hgrow _)
        have hown2 : OwnR w1 (B + 1) v' (clipped (l.take (k + 1))) := by
          rw [clipped_snoc HR.out, if_pos (show (clip r).lo ≤ (clip r).hi from hc)]
          have := hown'
          simpa [OwnR, encR, clip] using this
        have hblk := HO.out.lt
        have hbx1 : w1.heap[B]? = some (.cells #[.slice none 0 0] 26 (0, 0)) := by
          refine (hgrow.block B (by simp; omega) (fun e => ?_)).trans ?_
          · have := (hblk B e.symm).1; omega
          · exact alloc_lift (alloc_lift (alloc_lift HB.out))
        have hB1 : Below B w w1 := (((hB.alloc (by omega) _).alloc (by simp; omega) _).alloc (by simp; omega) _).grown hgrow (by simp; omega) (fun q e => by have := (hblk q e).1; omega)
        have HO2 := Lib.hid hown2
        have HB2 := Lib.hid hbx1
        clear hown' hown2 hbx1
        go_wp2_with fail
        go_roundw
        case rel => exact ⟨k + 1, by omega, by go_num, HO2.out, HB2.out, hB1⟩
        case measure => simp [intOf]; omega
      · go_wp2_with fail
        go_roundw
        case rel => exact ⟨k + 1, by omega, by go_num, by rw [clipped_snoc HR.out, if_neg (show ¬ (clip r).lo ≤ (clip r).hi from hc), List.append_nil]; exact (HO.out.alloc _).alloc _, alloc_lift (alloc_lift HB.out), (hB.alloc (by omega) _).alloc (by simp; omega) _⟩
        case measure => simp [intOf]; omega
    · have hfull : l.take k = l := List.take_of_length_le (by have := HN.out; omega)
      have hown := HO.out
      rw [hfull] at hown
      have hlen : (clipped l).length ≤ 100000 := by
        have h1 := clipped_length l
        have h2 := HN.out
        omega
      have HSO := Lib.hid (sort_rngs (B + 1) u3 (clipped l) wr hown (by omega))
      clear hown hfull
      go_wp2_with fail
      refine HSO.out.mono ?_
      rintro e w2 ⟨rfl, hown2, hg2⟩
      have hown3 : OwnR w2 (B + 1) u3 (sortR (clipped l)) := by unfold OwnR; rw [sortR_length]; exact hown2
      have hbnd : ∀ q ∈ sortR (clipped l), 0 ≤ q.lo ∧ q.lo ≤ q.hi ∧ q.hi ≤ 1114111 := fun q hq => clipped_bound (by unfold sortR at hq; exact (List.mem_mergeSort).1 hq)
      have hmk : makeR l = (sortR (clipped l)).foldl addR [] := rfl
      have hslen : (sortR (clipped l)).length ≤ 100000 := by rw [sortR_length]; exact hlen
      have HMK := Lib.hid hmk
      have HBN := Lib.hid hbnd
      have hblk := HO.out.lt
      have hbx2 : w2.heap[B]? = some (.cells #[.slice none 0 0] 26 (0, 0)) := (hg2.block B (by omega) (fun e => by have := (hblk B e.symm).1; omega)).trans HB.out
      have hB2 : Below B w w2 := hB.grown hg2 (by omega) (fun q e => by have := (hblk q e).1; omega)
      clear hown2 hmk hbnd HSO hlen HO
      generalize sortR (clipped l) = S at *
      obtain ⟨A2, c2, hu3, hle2, hS⟩ := Sl.of_own (k := 2) (enc := encR) (fun _ => rfl) hown3
      subst hu3
      have HS := Lib.hid hS
      have HB2 := Lib.hid hbx2
      clear hown3 hS hbx2
      go_wp2_with fail
      obtain ⟨wo, rfl⟩ : ∃ wo : World, wo = wr := ⟨_, rfl⟩
      go_loopw [7, 38] (fun p i wr => ∃ k : Nat, k ≤ S.length ∧ i = .int .i64 k ∧ OwnR wr w2.heap.size p ((S.take k).foldl addR []) ∧ (∀ q ∈ (S.take k).foldl addR [], 0 ≤ q.lo ∧ q.lo ≤ q.hi ∧ q.hi ≤ 1114111) ∧ ((S.take k).foldl addR []).length ≤ k ∧ Below w2.heap.size w2 wr) (fun _ i _ => S.length - (intOf i).toNat)
      case atStart => exact ⟨0, Nat.zero_le _, rfl, (World.ownsRow_nil _ _ _ _ : OwnR w2 w2.heap.size (.slice none 0 0) []), by simp, by simp, Below.refl _ _⟩
      case round =>
        obtain ⟨k, hk, rfl, hown, hqs, hlk, hB3⟩ := hrel
        by_cases hlt : k < S.length
        · obtain ⟨b, off, r, hA2, hr, c0, c1⟩ := rng_at (HS.out.kept hB3) hlt
          rw [hA2]
          have hfold : (S.take (k + 1)).foldl addR [] = addR ((S.take k).foldl addR []) r := by rw [take_succ_some hr, List.foldl_append]; rfl
          have hrb := HBN.out r (mem_of_getElem?_some hr)
          obtain ⟨hr0, hr1, hr2⟩ := hrb
          have HF := Lib.hid hfold
          clear hfold hr
          generalize (S.take k).foldl addR [] = out at *
          rcases nil_or_snoc out with rfl | ⟨os, q, rfl⟩
          · obtain ⟨Ao, co, rfl⟩ := OwnR.form hown
            have HOW := Lib.hid hown
            clear hown
            simp only [List.length_nil]
            go_wp2_with fail
            go_quiet (fail)
            go_wp2_with (at_builtin; refine wpList_append_own _ rfl _ _ 24 rfl w2.heap.size 48 i0 (.agg #[.int .i64 0, .int .i64 0]) 2 16 Tryz.underlying24 HI0.out HZ0.out HZ1.out HZ2.out rfl (by decide) _ _ _ rfl (by exact (HOW.out.alloc _).alloc _) ⟨wr.heap.size + 1, 0, none⟩ 1 1 [.int .i64 r.lo, .int .i64 r.hi] rfl rfl (by exact cell_two_new (w := wr.alloc _) (by simp)) (by simp [Value.oneCell']) (by unfold maxLen; simp) (by simp) (by have := hB3.size; simp; omega) ?_; intro v' w1 hown' hgrow _)
            have hB4 : Below w2.heap.size w2 w1 := (Kept.alloc (Kept.drewN (Kept.alloc hB3 (Obj.cells #[Value.int IntKind.i64 r.lo, Value.int IntKind.i64 r.hi] 48)) nq) (Obj.cells #[Value.int IntKind.i64 r.lo, Value.int IntKind.i64 r.hi] 48)).grown hgrow (by have := hB3.size; simp; omega) (fun q e => (HOW.out.lt q e).1)
            go_roundw
            case rel => exact ⟨k + 1, by omega, by go_num, by rw [HF.out]; simpa [addR, OwnR, encR] using hown', by rw [HF.out]; simp only [addR, List.getLast?_nil, List.mem_singleton]; rintro q rfl; exact ⟨hr0, hr1, hr2⟩, by rw [HF.out]; simp [addR], hB4⟩
            case measure => simp [intOf]; omega
          · have hpos : ∃ g cap, u7 = .slice (some ⟨g, 0, none⟩) (os.length + 1) cap := by
              have := hown
              simp only [OwnR, List.length_append, List.length_singleton] at this
              exact ownsRow_succ_ this
            obtain ⟨g, co, rfl⟩ := hpos
            have hqb := hqs q (by simp)
            obtain ⟨hq0, hq1, hq2⟩ := hqb
            have hol : os.length ≤ 100000 := by simp at hlk; omega
            have hown' := hown
            simp only [OwnR, List.length_append, List.length_singleton] at hown'
            have d0 : wr.cell? ⟨g, os.length * 2, none⟩ = some (.int .i64 q.lo) := by
              rw [hown'.cellAt _ (by omega)]
              exact flat_get (k := 2) (f := encR) (fun _ => rfl) _ os.length 0 q _ (by simp) rfl
            have d1 : wr.cell? ⟨g, os.length * 2 + 1, none⟩ = some (.int .i64 q.hi) := by
              rw [hown'.cellAt _ (by omega)]
              exact flat_get (k := 2) (f := encR) (fun _ => rfl) _ os.length 1 q _ (by simp) rfl
            have d2 := hown'.frozenAt (os.length * 2 + 1)
            have hgl : g < wr.heap.size := cell_lt d0
            have HOW := Lib.hid hown'
            clear hown hown'
            have hw1 : IntKind.i64.wrap (q.hi + 1) = q.hi + 1 := IntWalk.i64_in _ (by omega)
            have hw2 : IntKind.i64.wrap (os.length : Int) = (os.length : Int) := IntWalk.i64_in _ (by omega)
            by_cases hr : r.lo ≤ q.hi + 1
            · have hdec : decide (r.lo ≤ q.hi + 1) = true := by simpa using hr
              go_wp2_with fail
              go_quiet (fail)
              go_wp2_with fail
              go_region
              go_wp2_with fail
              have hst := (show ((wr.alloc (Obj.cells #[Value.int IntKind.i64 r.lo, Value.int IntKind.i64 r.hi] 48)).drewN (nq + 1)).ownsRow w2.heap.size 48 2 (Value.slice (some ⟨g, 0, none⟩) (os.length + 1) co) (os.length + 1) ((os ++ [q]).flatMap encR) from HOW.out.alloc _).stored (os.length * 2 + 1) (.int .i64 (max q.hi r.hi))
              rw [flat_set] at hst
              have hgb : w2.heap.size ≤ g := (HOW.out.lt g rfl).1
              go_roundw
              case rel =>
                refine ⟨k + 1, by omega, by go_num, ?_, ?_, ?_, ?_⟩
                · rw [HF.out, addR_snoc, if_pos hr]
                  simp only [OwnR, List.length_append, List.length_singleton]
                  exact hst.1
                · rw [HF.out, addR_snoc, if_pos hr]
                  intro q' hq'
                  rw [List.mem_append, List.mem_singleton] at hq'
                  rcases hq' with hq' | rfl
                  · exact hqs q' (List.mem_append_left _ hq')
                  · simp only; omega
                · rw [HF.out, addR_snoc, if_pos hr]
                  simp at hlk ⊢; omega
                · exact Kept.setCell (Kept.drewN (Kept.alloc hB3 _) _) hgb _
              case measure => simp [intOf]; omega
            · have hdec : decide (r.lo ≤ q.hi + 1) = false := by simpa using hr
              go_wp2_with fail
              go_quiet (fail)
              go_wp2_with (at_builtin; refine wpList_append_own _ rfl _ _ 24 rfl w2.heap.size 48 i0 (.agg #[.int .i64 0, .int .i64 0]) 2 16 Tryz.underlying24 HI0.out HZ0.out HZ1.out HZ2.out rfl (by decide) _ _ _ rfl (by exact (HOW.out.alloc _).alloc _) ⟨wr.heap.size + 1, 0, none⟩ 1 1 [.int .i64 r.lo, .int .i64 r.hi] rfl rfl (by exact cell_two_new (w := wr.alloc _) (by simp)) (by simp [Value.oneCell']) (by unfold maxLen; omega) (by omega) (by have := hB3.size; simp; omega) ?_; intro v' w1 hown' hgrow _)
              have hB4 : Below w2.heap.size w2 w1 := (Kept.alloc (Kept.drewN (Kept.alloc hB3 (Obj.cells #[Value.int IntKind.i64 r.lo, Value.int IntKind.i64 r.hi] 48)) nq) (Obj.cells #[Value.int IntKind.i64 r.lo, Value.int IntKind.i64 r.hi] 48)).grown hgrow (by have := hB3.size; simp; omega) (fun q e => (HOW.out.lt q e).1)
              go_roundw
              case rel =>
                refine ⟨k + 1, by omega, by go_num, ?_, ?_, ?_, hB4⟩
                · rw [HF.out, addR_snoc, if_neg (show ¬ r.lo ≤ q.hi + 1 by omega)]
                  have := hown'
                  simpa [OwnR, encR] using this
                · rw [HF.out, addR_snoc, if_neg (show ¬ r.lo ≤ q.hi + 1 by omega)]
                  intro q' hq'
                  rw [List.mem_append, List.mem_singleton] at hq'
                  rcases hq' with hq' | rfl
                  · exact hqs q' hq'
                  · exact ⟨hr0, hr1, hr2⟩
                · rw [HF.out, addR_snoc, if_neg (show ¬ r.lo ≤ q.hi + 1 by omega)]
                  simp at hlk ⊢; omega
              case measure => simp [intOf]; omega
        · have hfin : (S.take k).foldl addR [] = makeR l := by rw [HMK.out, List.take_of_length_le (by omega)]
          rw [hfin] at hown
          obtain ⟨A4, c4, rfl, hle4, hS4⟩ := Sl.of_own (k := 2) (enc := encR) (fun _ => rfl) hown
          have e1 : wr.heap[B]? = some (.cells #[.slice none 0 0] 26 (0, 0)) := (hB3.block B (by have := block_lt HB2.out; omega)).trans HB2.out
          have e2 := cell_of_block (i := 0) e1 rfl
          have e3 := frozen_of_block (i := 0) e1
          have HS4 := Lib.hid hS4
          have HE1 := Lib.hid e1
          clear hown hS4 hfin hqs hlk e1
          go_wp2_with fail
          have e4 : (wr.setCell ⟨B, 0, none⟩ (.slice A4 (makeR l).length c4)).cell? ⟨B, 0, none⟩ = some (.slice A4 (makeR l).length c4) := cell_of_block (i := 0) (heap_setCell_one HE1.out) rfl
          clear e2 e3
          refine bodyPost_ret (v := .agg #[.slice A4 (makeR l).length c4]) (by simp [results, Tryz.results104, go_sem, e4]) rfl ⟨A4, _, c4, rfl, hle4, ?_, ?_⟩
          · refine ⟨rfl, fun hpos => ?_⟩
            obtain ⟨b, off, e, hcs⟩ := HS4.out.2 hpos
            refine ⟨b, off, e, fun i x hx j u hu => ?_⟩
            have h1 := hcs i x hx j u hu
            refine (World.cell?_setCell_other _ _ _ _ (fun ea => ?_)).trans h1
            have eb : b = B := by injection ea with e5; exact e5.symm
            subst eb
            unfold World.cell? at h1
            simp only [HE1.out] at h1
            have : (#[Value.slice none 0 0] : Array Value)[off + i * 2 + j]? = some u := by simpa using h1
            have hlt0 := (Array.getElem?_eq_some_iff.1 this).1
            have h0 : off + i * 2 + j = 0 := by simpa using hlt0
            rw [h0] at this
            have hu2 : u = .slice none 0 0 := by simpa using this.symm
            rw [hu2] at hu
            have := List.mem_of_getElem? hu
            simp [encR] at this
          · have hk0 : Kept w w2 := by have := hB2; rw [HBD.out] at this; exact this
            exact Kept.setCell (Kept.trans hk0 hB3) (by rw [HBD.out]; exact Nat.le_refl _) _
end Go.Proofs.YtckgmkjoblneeaaGreatDoor
namespace Go.Proofs.YtckgmkjoblneeaaGreatDoor
open Go Go.RowKit
theorem rng_eqIn (r s : Rng) (w : World) : (Op.equalIn 10000 48 (.agg #[.int .i64 r.lo, .int .i64 r.hi]) (.agg #[.int .i64 s.lo, .int .i64 s.hi])).run Tryz.prog w = .ok (decide (r = s)) w := by
  rw [run_equalIn_agg w 9999 48 _ _ (by kernel_rfl) (by kernel_rfl)]
  go_simp
  by_cases h1 : r.lo = s.lo
  · by_cases h2 : r.hi = s.hi
    · have : r = s := Rng.ext' h1 h2
      simp [this]
    · have : ¬ r = s := fun e => h2 (by rw [e])
      simp [h1, h2, this]
  · have : ¬ r = s := fun e => h1 (by rw [e])
    simp [h1, this]
theorem rng_neq (r s : Rng) (w : World) : (binOp .neq 48 (.agg #[.int .i64 r.lo, .int .i64 r.hi]) (.agg #[.int .i64 s.lo, .int .i64 s.hi])).run Tryz.prog w = .ok (.bool (!decide (r = s))) w := by
  rw [run_neq_struct, rng_eqIn]; rfl
theorem take_eq_snoc {l m : List Rng} {k : Nat} {r s : Rng} (h : l.take k = m.take k) (hr : l[k]? = some r) (hs : m[k]? = some s) (e : r = s) : l.take (k + 1) = m.take (k + 1) := by
  rw [take_succ_some hr, take_succ_some hs, h, e]
set_option maxRecDepth 100000 in
set_option maxHeartbeats 1000000 in
theorem setValid_any (A : Option Addr) (n c : Nat) (l : List Rng) (w : World) (hn : n ≤ 100000) (hl : Rngs w A n l) :
    Calls Tryz.prog 81 #[.agg #[.slice A n c]] w (RetB w (decide (makeR l = l))) := by
  have HL := Lib.hid hl
  have HN := Lib.hid hl.1
  clear hl
  go_enter Tryz.func81, Tryz.ntmps81
  go_wp2_with fail
  refine (make_any A n c l _ hn (HL.out.kept (Kept.alloc (Kept.refl _) _))).mono ?_
  rintro e w1 ⟨A1, n1, c1, rfl, hle1, hR1, hk1⟩
  have b1 := hk1.cell (box_cell w #[.slice A n c] 26 0)
  have hlen := hR1.1
  have HR1 := Lib.hid (hR1.kept (Kept.alloc (Kept.refl w1) (Obj.cells #[.slice A1 n1 c1] 26)))
  have hkw : Kept w (w1.alloc (Obj.cells #[.slice A1 n1 c1] 26)) := Kept.alloc (Kept.trans (Kept.alloc (Kept.refl _) _) hk1) _
  have b1' := (Kept.alloc (Kept.refl w1) (Obj.cells #[.slice A1 n1 c1] 26)).cell b1
  have hml : n1 ≤ 100000 := by
    rw [hlen]
    exact Nat.le_trans (makeR_length l) (by have := HN.out; omega)
  have HLEN := Lib.hid hlen
  clear hR1 hlen
  by_cases hnn : n1 = n
  · subst hnn
    go_wp2_with fail
    have HB1 := Lib.hid b1'
    clear b1 b1'
    generalize w1.alloc (Obj.cells #[.slice A1 n1 c1] 26) = W1 at *
    obtain ⟨bx, hbx⟩ : ∃ bx : Nat, bx = w.heap.size := ⟨_, rfl⟩
    rw [← hbx] at HB1 ⊢
    clear hbx
    go_loopw [19] (fun i wr => ∃ k : Nat, k ≤ n1 ∧ i = .int .i64 k ∧ (makeR l).take k = l.take k ∧ Below W1.heap.size W1 wr) (fun i _ => n1 - (intOf i).toNat)
    case atStart => exact ⟨0, Nat.zero_le _, rfl, by simp, Below.refl _ _⟩
    case round =>
      obtain ⟨k, hk, rfl, hsame, hB⟩ := hrel
      have HSA := Lib.hid hsame
      clear hsame
      by_cases hlt : k < n1
      · obtain ⟨b, off, r, hA1, hr, c0, c1'⟩ := rng_at (HR1.out.kept hB) hlt
        obtain ⟨b', off', s, hA, hs, d0, d1⟩ := rng_at ((HL.out.kept hkw).kept hB) hlt
        rw [hA1, hA]
        have g0 := Kept.cell hB HB1.out
        rw [hA] at g0
        have hbw := cell_lt g0
        have hbw2 := cell_lt d0
        simp only at hbw hbw2
        have HR := Lib.hid hr
        have HS := Lib.hid hs
        have hneq := rng_neq r s
        clear hr hs
        have hk2 : (k : Int) < (n1 : Int) := by omega
        cases hd : decide (r = s)
        · have hne : ¬ r = s := of_decide_eq_false hd
          rw [hd] at hneq
          have HNE := Lib.hid hne
          clear hd hne
          go_wp2_with fail
          go_quiet (fail)
          go_wp2_with fail
          go_ret
          refine ⟨ret_bool ?_, ?_⟩
          · refine (decide_eq_false (fun e => HNE.out ?_)).symm
            have h1 := HR.out
            rw [e, HS.out] at h1
            injection h1 with h1
            exact h1.symm
          · exact Kept.drewN (Kept.alloc (Kept.trans hkw hB) _) _
        · have hne : r = s := of_decide_eq_true hd
          rw [hd] at hneq
          have HNE := Lib.hid hne
          clear hd hne
          go_wp2_with fail
          go_quiet (fail)
          go_wp2_with fail
          go_roundw
          case rel => exact ⟨k + 1, by omega, by go_num, take_eq_snoc HSA.out HR.out HS.out HNE.out, Kept.drewN (Kept.alloc hB _) _⟩
          case measure => simp [intOf]; omega
      · go_wp2_with fail
        go_ret
        refine ⟨ret_bool (decide_eq_true ?_).symm, Kept.trans hkw hB⟩
        have := HSA.out
        rwa [List.take_of_length_le (by have := HLEN.out; omega), List.take_of_length_le (by have := HN.out; omega)] at this
  · have hne : ((n1 : Int) != (n : Int)) = true := by rw [bne_iff_ne]; omega
    go_wp2_with fail
    go_ret
    refine ⟨ret_bool (decide_eq_false (fun e => hnn ?_)).symm, hkw⟩
    have h1 := HLEN.out
    have h2 := HN.out
    rw [e] at h1
    omega
end Go.Proofs.YtckgmkjoblneeaaGreatDoor
