/- Sort keys of closed data: the treatment of elements. Sort keys of closed data: the lists of weights, plainly and in memory. And more of that kind. -/
import Derived.Deep.RegionHeld3
import Derived.Test.YtckgmkjoblneeaaGreatDoorKCla
import Derived.Test.YtckgmkjoblneeaaGreatDoorKSet
import Derived.Test.YtckgmkjoblneeaaGreatDoorKSq
import Derived.Test.YtckgmkjoblneeaaGreatDoorKQca
import Derived.Test.YtckgmkjoblneeaaGreatDoorKApp
import Derived.Test.YtckgmkjoblneeaaGreatDoorKNrm
namespace Go.Proofs.YtckgmkjoblneeaaGreatDoor
open Go Go.RowKit
theorem sk_treat (w : World) : Calls Tryz.prog 41 #[.int .i64 1] w (fun e w' => e = .returned (.func (.func 55) #[] #[.pointer (some ⟨w.heap.size, 0, none⟩), .pointer (some ⟨w.heap.size + 1, 0, none⟩)]) ∧ w' = (w.alloc (.cells #[.int .i64 1] 3)).alloc (.cells #[.bool false] 4)) := by
  go_enter Tryz.func41, Tryz.ntmps41
  go_wp2
  go_ret
  exact ⟨rfl, rfl⟩
theorem block_set {w : World} {b k : Nat} {cs : Array Value} {t : TypeId} (h : w.heap[b]? = some (.cells cs t (0, 0))) (v : Value) : (w.setCell ⟨b, k, none⟩ v).heap[b]? = some (.cells (cs.setIfInBounds k v) t (0, 0)) := by
  simp [World.setCell, Array.getElem?_modify, h]
set_option maxRecDepth 100000 in
set_option maxHeartbeats 1000000 in
theorem sk_weigh (p q t : Int) (hnq : ∀ w : World, (binOp .neq 91 (.agg #[.int .i64 p, .int .i64 q, .int .i64 t, .int .i64 0]) (.agg #[.int .i64 0, .int .i64 0, .int .i64 0, .int .i64 0])).run Tryz.prog w = .ok (.bool true) w) (a b : Addr) (w : World) (h1 : w.cell? a = some (.int .i64 1)) : Calls Tryz.prog 55 #[.agg #[.int .i64 p, .int .i64 q, .int .i64 t, .bool false], .pointer (some a), .pointer (some b)] w (fun e w' => e = .returned (.agg #[.int .i64 p, .int .i64 q, .int .i64 t, .int .i64 65535]) ∧ Kept w w') := by
  have h2 := Kept.cell (Kept.alloc (Kept.alloc (Kept.alloc (Kept.refl w) (Obj.cells #[Value.int .i64 p, Value.int .i64 q, Value.int .i64 t, Value.bool false] 90)) (Obj.cells #[Value.int .i64 0, Value.int .i64 0, Value.int .i64 0, Value.int .i64 0] 91)) (Obj.cells #[Value.int .i64 p, Value.int .i64 q, Value.int .i64 t, Value.int .i64 65535] 91)) h1
  clear h1
  go_enter Tryz.func55, Tryz.ntmps55
  go_wp2_with fail
  refine bodyPost_ret (v := .agg #[.int .i64 p, .int .i64 q, .int .i64 t, .int .i64 65535]) (by simp [results, Tryz.results55, go_sem]) rfl ⟨rfl, ?_⟩
  exact Kept.alloc (Kept.alloc (Kept.alloc (Kept.refl w) _) _) _
end Go.Proofs.YtckgmkjoblneeaaGreatDoor
namespace Go.Proofs.YtckgmkjoblneeaaGreatDoor
open Go Go.RowKit
def eltsP (p : Int) : List Elt := [⟨64448, 32, 2, false⟩, ⟨p, 0, 0, false⟩]
def wsv (p : Int) (t : Nat) : Int := ([64448, 32, 2, 65535, p, 0, 0, 65535] : List Int).getD t 0
def lev (p : Int) : Nat → Nat → List Int
  | 0, _ => []
  | t + 1, j => if j = t % 4 ∧ wsv p t ≠ 0 then lev p t j ++ [wsv p t] else lev p t j
theorem lev_put {p u : Int} {t k : Nat} (hu : wsv p t = u) (hne : u ≠ 0) (hk : t % 4 = k) : ∀ j, (if j = k then lev p t k ++ [u] else lev p t j) = lev p (t + 1) j := by
  intro j
  subst hu
  subst hk
  rw [lev]
  by_cases e : j = t % 4
  · rw [if_pos e, if_pos ⟨e, hne⟩, e]
  · rw [if_neg e, if_neg (fun h => e h.1)]
theorem lev_skip {p : Int} {t : Nat} (hu : wsv p t = 0) : ∀ j, lev p t j = lev p (t + 1) j := by
  intro j
  rw [lev, if_neg (fun h => h.2 hu)]
theorem lev_length (p : Int) : ∀ t j, (lev p t j).length ≤ t
  | 0, _ => Nat.le_refl _
  | t + 1, j => by
    have := lev_length p t j
    rw [lev]
    split
    · rw [List.length_append]; simp; omega
    · omega
structure Wts (w0 w : World) (B : Nat) (s : Nat → Value) (x : Nat → List Int) : Prop where
  blk : w.heap[B]? = some (.cells #[s 0, s 1, s 2, s 3] 86 (0, 0))
  base : w0.heap.size ≤ B
  own : ∀ j, j < 4 → OwnI w (B + 3) (s j) (x j)
  sep : ∀ j j', j < 4 → j' < 4 → j ≠ j' → ∀ b, (s j).ownBlock = some b → (s j').ownBlock ≠ some b
  cap : w.cell? ⟨B + 1, 0, none⟩ = some (.int .i64 1)
  room : B + 3 ≤ w.heap.size
  kept : Kept w0 w
theorem Wts.kept' {w0 w w' : World} {B : Nat} {s : Nat → Value} {x : Nat → List Int} (h : Wts w0 w B s x) (hk : Kept w w') : Wts w0 w' B s x :=
  ⟨(hk.block B (block_lt h.blk)).trans h.blk, h.base, fun j hj => World.ownsRow.kept (h.own j hj) (row := none) ⟨hk.os, hk.tape, hk.output, hk.size, fun q hq _ => hk.block q hq⟩ (by cases h0 : (s j).ownBlock <;> simp), h.sep, hk.cell h.cap, Nat.le_trans h.room hk.size, Kept.trans h.kept hk⟩
theorem Wts.congr {w0 w : World} {B : Nat} {s : Nat → Value} {x y : Nat → List Int} (h : Wts w0 w B s x) (hxy : ∀ j, j < 4 → x j = y j) : Wts w0 w B s y :=
  ⟨h.blk, h.base, fun j hj => by rw [← hxy j hj]; exact h.own j hj, h.sep, h.cap, h.room, h.kept⟩
theorem four {k : Nat} (h : k < 4) : k = 0 ∨ k = 1 ∨ k = 2 ∨ k = 3 := by omega
theorem Wts.cell {w0 w : World} {B : Nat} {s : Nat → Value} {x : Nat → List Int} (h : Wts w0 w B s x) {k : Nat} (hk : k < 4) : w.cell? ⟨B, k, none⟩ = some (s k) :=
  cell_of_block h.blk (by rcases four hk with rfl | rfl | rfl | rfl <;> rfl)
theorem Wts.frozen {w0 w : World} {B : Nat} {s : Nat → Value} {x : Nat → List Int} (h : Wts w0 w B s x) (k : Nat) : w.frozen? ⟨B, k, none⟩ = false :=
  frozen_of_block h.blk
theorem Wts.put {w0 w w1 : World} {B : Nat} {s : Nat → Value} {x : Nat → List Int} (h : Wts w0 w B s x) {k : Nat} (hk : k < 4) {g n c : Nat} {a : Int} (hown : OwnI w1 (B + 3) (.slice (some ⟨g, 0, none⟩) n c) (x k ++ [a]))
    (hg : w.grownBy w1 (s k).ownBlock) (hor : (s k).ownBlock = some g ∨ g = w.heap.size) :
    Wts w0 (w1.setCell ⟨B, k, none⟩ (.slice (some ⟨g, 0, none⟩) n c)) B (fun j => if j = k then .slice (some ⟨g, 0, none⟩) n c else s j) (fun j => if j = k then x k ++ [a] else x j) := by
  have hB := block_lt h.blk
  have hown' : ∀ j, j < 4 → ∀ b, (s j).ownBlock = some b → B + 3 ≤ b ∧ b < w.heap.size := fun j hj b hb => World.ownsRow.lt (h.own j hj) b hb
  have hblk : w1.heap[B]? = some (.cells #[s 0, s 1, s 2, s 3] 86 (0, 0)) := (hg.block B hB (fun e => by have := (hown' k hk B e.symm).1; omega)).trans h.blk
  have hgB : B + 3 ≤ g := by
    rcases hor with e | e
    · exact (hown' k hk g e).1
    · have := h.room; omega
  have hset : ∀ b, b ≠ B → (w1.setCell ⟨B, k, none⟩ (.slice (some ⟨g, 0, none⟩) n c)).heap[b]? = w1.heap[b]? := fun b hb => Below.heap_setCell w1 ⟨B, k, none⟩ _ b hb
  have hsg : w1.grownBy (w1.setCell ⟨B, k, none⟩ (.slice (some ⟨g, 0, none⟩) n c)) (some B) := ⟨rfl, rfl, rfl, by simp [World.setCell], fun b _ hb => hset b (fun e => hb (by rw [e]))⟩
  refine ⟨?_, h.base, ?_, ?_, ?_, by have := hg.size; have := h.room; simp only [World.setCell, Array.size_modify]; omega, ?_⟩
  · have := block_set (k := k) hblk (.slice (some ⟨g, 0, none⟩) n c)
    rcases four hk with rfl | rfl | rfl | rfl <;> simpa using this
  · intro j hj
    by_cases e : j = k
    · subst e
      simp only [if_true]
      exact World.ownsRow.kept hown hsg (Or.inr (by simp only [Value.ownBlock]; intro e2; cases e2; omega))
    · simp only [e, if_false]
      have h1 : OwnI w1 (B + 3) (s j) (x j) := World.ownsRow.kept (h.own j hj) hg (by
        cases hb : (s j).ownBlock with
        | none => exact Or.inl rfl
        | some b => exact Or.inr (fun e2 => h.sep j k hj hk e b hb e2.symm))
      exact World.ownsRow.kept h1 hsg (by
        cases hb : (s j).ownBlock with
        | none => exact Or.inl rfl
        | some b => exact Or.inr (fun e2 => by have := (hown' j hj b hb).1; cases e2; omega))
  · have hne : ∀ j, j < 4 → j ≠ k → (s j).ownBlock ≠ some g := fun j hj e hb => by
      rcases hor with e2 | e2
      · exact h.sep j k hj hk e g hb e2
      · have := (hown' j hj g hb).2; omega
    intro j j' hj hj' hjj b hb
    by_cases e : j = k
    · simp only [e, if_true, Value.ownBlock, Option.some.injEq] at hb
      subst hb
      have e' : j' ≠ k := fun e2 => hjj (by rw [e, e2])
      simp only [e', if_false]
      exact hne j' hj' e'
    · simp only [e, if_false] at hb
      by_cases e' : j' = k
      · simp only [e', if_true, Value.ownBlock]
        intro e2
        cases e2
        exact hne j hj e hb
      · simp only [e', if_false]
        exact h.sep j j' hj hj' hjj b hb
  · have hlt : B + 1 < w.heap.size := cell_lt h.cap
    exact (World.cell?_of_block (hset (B + 1) (by omega))).trans ((World.cell?_of_block (hg.block (B + 1) hlt (fun e => by have := (hown' k hk _ e.symm).1; omega))).trans h.cap)
  · have h1 : Kept w0 w1 := h.kept.grown hg h.kept.size (fun q e => by have := (hown' k hk q e).1; have := h.base; omega)
    exact h1.setCell h.base _
theorem Wts.start {w0 w : World} {b : Nat} (hk : Kept w0 w) (hb : w.heap.size = b) : Wts w0 (((w.alloc (.cells #[.slice none 0 0, .slice none 0 0, .slice none 0 0, .slice none 0 0] 86)).alloc (.cells #[.int .i64 1] 3)).alloc (.cells #[.bool false] 4)) b (fun _ => .slice none 0 0) (fun _ => []) := by
  subst hb
  refine ⟨alloc_lift (alloc_lift (heap_alloc_new _ _)), hk.size, fun j _ => World.ownsRow_nil _ _ _ _, fun _ _ _ _ _ b h => (by cases h), ?_, by simp, ((hk.alloc _).alloc _).alloc _⟩
  exact cell_of_block (i := 0) (alloc_lift (alloc_at (by simp))) rfl
theorem Wts.app {w0 w w1 : World} {B : Nat} {s : Nat → Value} {x : Nat → List Int} (h : Wts w0 w B s x) {k : Nat} (hk : k < 4) {v0 v1 : Value} {n0 : Nat} {L0 : List Value} {u : Int} (hv : v0 = s k) (hn : n0 = (x k).length) (hL : L0 = (x k).map (Value.int .i64))
    (hown : w1.ownsRow (B + 3) 3 1 v1 (n0 + 1) (L0 ++ [.int .i64 u])) (hg : w.grownBy w1 v0.ownBlock) (hor : v1.ownBlock = v0.ownBlock ∨ v1.ownBlock = some w.heap.size) :
    ∃ g c, v1 = .slice (some ⟨g, 0, none⟩) (n0 + 1) c ∧ w1.heap[B]? = some (.cells #[s 0, s 1, s 2, s 3] 86 (0, 0)) ∧
      Wts w0 (w1.setCell ⟨B, k, none⟩ v1) B (fun j => if j = k then v1 else s j) (fun j => if j = k then x k ++ [u] else x j) := by
  subst hv
  obtain ⟨g, c, rfl⟩ := ownsRow_succ_ hown
  have hB := block_lt h.blk
  have hown' : ∀ b, (s k).ownBlock = some b → B + 3 ≤ b ∧ b < w.heap.size := fun b hb => World.ownsRow.lt (h.own k hk) b hb
  refine ⟨g, c, rfl, (hg.block B hB (fun e => by have := (hown' B e.symm).1; omega)).trans h.blk, ?_⟩
  refine h.put hk ?_ hg ?_
  · subst hn
    subst hL
    unfold OwnI
    rw [List.length_append, List.map_append]
    exact hown
  · simp only [Value.ownBlock] at hor
    rcases hor with e | e
    · exact .inl e.symm
    · exact .inr (Option.some.inj e)
end Go.Proofs.YtckgmkjoblneeaaGreatDoor
namespace Go.Proofs.YtckgmkjoblneeaaGreatDoor
open Go Go.RowKit
theorem lev_end {p : Int} (hp : p ≠ 0) : lev p (4 * 2) 0 = [64448, p] ∧ lev p (4 * 2) 1 = [32] ∧ lev p (4 * 2) 2 = [2] := by
  refine ⟨?_, ?_, ?_⟩ <;> simp [lev, wsv, hp]
theorem tab_three {w : World} {g n0 n1 n2 c0 c1 c2 : Nat} {A0 A1 A2 : Option Addr} {X0 X1 X2 : List Int} (hc : ∀ j u, ([.slice A0 n0 c0, .slice A1 n1 c1, .slice A2 n2 c2] : List Value)[j]? = some u → w.cell? ((⟨g, 0, none⟩ : Addr).add j) = some u)
    (I0 : Ints w A0 n0 X0) (I1 : Ints w A1 n1 X1) (I2 : Ints w A2 n2 X2) (l0 : n0 ≤ c0) (l1 : n1 ≤ c1) (l2 : n2 ≤ c2) : Tab w (some ⟨g, 0, none⟩) 3 [X0, X1, X2] := by
  refine ⟨rfl, fun _ => ⟨g, 0, rfl, fun i xs hx => ?_⟩⟩
  match i, hx with
  | 0, hx => simp at hx; subst hx; exact ⟨A0, n0, c0, by have := hc 0 _ rfl; rwa [add_zero_] at this, l0, I0⟩
  | 1, hx => simp at hx; subst hx; exact ⟨A1, n1, c1, by have := hc 1 _ rfl; rwa [add_zero_] at this, l1, I1⟩
  | 2, hx => simp at hx; subst hx; exact ⟨A2, n2, c2, by have := hc 2 _ rfl; rwa [add_zero_] at this, l2, I2⟩
  | i + 3, hx => simp at hx
set_option maxRecDepth 100000 in
set_option maxHeartbeats 4000000 in
theorem sk_weights (p : Int) (hp : p ≠ 0) (hnq : ∀ w : World, (binOp .neq 91 (.agg #[.int .i64 p, .int .i64 0, .int .i64 0, .int .i64 0]) (.agg #[.int .i64 0, .int .i64 0, .int .i64 0, .int .i64 0])).run Tryz.prog w = .ok (.bool true) w) (Q : Option Addr) (k : Nat) (w : World) (hE : Sl 4 encE w Q 2 (eltsP p)) : Calls Tryz.prog 32 #[.slice Q 2 k, .agg #[.int .i64 3, .int .i64 1, .bool false, .bool false]] w (fun e w' => ∃ T c, e = .returned (.slice T 3 c) ∧ 3 ≤ c ∧ Tab w' T 3 [[64448, p], [32], [2]] ∧ Kept w w') := by
  have hk := Kept.alloc (Kept.refl w) (Obj.cells #[Value.int .i64 3, Value.int .i64 1, Value.bool false, Value.bool false] 59)
  have hb := box_block w (Obj.cells #[Value.int .i64 3, Value.int .i64 1, Value.bool false, Value.bool false] 59)
  have p0 := cell_of_block (i := 0) hb rfl
  have p1 := cell_of_block (i := 1) hb rfl
  have p2 := cell_of_block (i := 2) hb rfl
  have p3 := cell_of_block (i := 3) hb rfl
  simp only [s4_, s5_, s6_] at p0 p1 p2 p3
  have HK := Lib.hid hk
  have HB := Lib.hid hb
  have HP := Lib.hid hp
  have HNQ := Lib.hid hnq
  have HE := Lib.hid hE
  have HEF := Lib.hid (fun w' => sk_eff w')
  have HTR := Lib.hid (fun w' => sk_treat w')
  obtain ⟨i0, hi, hz0, hz1, hz2⟩ := info_parts1 info_int
  have HI0 := Lib.hid hi
  have HZ0 := Lib.hid hz0
  have HZ1 := Lib.hid hz1
  have HZ2 := Lib.hid hz2
  obtain ⟨i1, hi1, hy0, hy1, hy2⟩ := info_parts1 info_ints
  have HI1 := Lib.hid hi1
  have HY0 := Lib.hid hy0
  have HY1 := Lib.hid hy1
  have HY2 := Lib.hid hy2
  clear hi hz0 hz1 hz2 hi1 hy0 hy1 hy2 hk hb hp hnq hE
  go_enter Tryz.func32, Tryz.ntmps32
  go_wp2_with fail
  refine (HEF.out _).mono ?_
  rintro e w1 ⟨rfl, k1⟩
  have hc := (k1.block _ (block_lt HB.out)).trans HB.out
  have f0 := frozen_of_block (i := 0) hc
  have f1 := frozen_of_block (i := 1) hc
  have f2 := frozen_of_block (i := 2) hc
  have f3 := frozen_of_block (i := 3) hc
  have d0 := cell_of_block (i := 0) hc rfl
  have d1 := cell_of_block (i := 1) hc rfl
  have d2 := cell_of_block (i := 2) hc rfl
  have d3 := cell_of_block (i := 3) hc rfl
  simp only [s4_, s5_, s6_] at d0 d1 d2 d3
  clear p0 p1 p2 p3
  have hF : ((((w1.setCell ⟨w.heap.size, 0, none⟩ (.int .i64 3)).setCell ⟨w.heap.size, 1, none⟩ (.int .i64 1)).setCell ⟨w.heap.size, 2, none⟩ (.bool false)).setCell ⟨w.heap.size, 3, none⟩ (.bool false)).heap[w.heap.size]? = some (.cells #[Value.int .i64 3, Value.int .i64 1, Value.bool false, Value.bool false] 59 (0, 0)) := by simp [World.setCell, Array.getElem?_modify, hc]
  have hle : w.heap.size ≤ w.heap.size := Nat.le_refl _
  have hK5 : Kept w ((((w1.setCell ⟨w.heap.size, 0, none⟩ (.int .i64 3)).setCell ⟨w.heap.size, 1, none⟩ (.int .i64 1)).setCell ⟨w.heap.size, 2, none⟩ (.bool false)).setCell ⟨w.heap.size, 3, none⟩ (.bool false)) := Kept.setCell (Kept.setCell (Kept.setCell (Kept.setCell (Kept.trans HK.out k1) (p := ⟨w.heap.size, 0, none⟩) hle _) (p := ⟨w.heap.size, 1, none⟩) hle _) (p := ⟨w.heap.size, 2, none⟩) hle _) (p := ⟨w.heap.size, 3, none⟩) hle _
  have hsz : ((((w1.setCell ⟨w.heap.size, 0, none⟩ (.int .i64 3)).setCell ⟨w.heap.size, 1, none⟩ (.int .i64 1)).setCell ⟨w.heap.size, 2, none⟩ (.bool false)).setCell ⟨w.heap.size, 3, none⟩ (.bool false)).heap.size = w1.heap.size := by simp [World.setCell]
  have g1 := cell_of_block (i := 1) (alloc_lift (o := Obj.cells #[.slice none 0 0, .slice none 0 0, .slice none 0 0, .slice none 0 0] 86) hF) rfl
  simp only [s4_, s5_, s6_] at g1
  have HK5 := Lib.hid hK5
  have HSZ := Lib.hid hsz
  have HF := Lib.hid hF
  have K1 := Lib.hid k1
  clear hF hc k1 hK5 hsz
  go_wp2_with fail
  refine (HTR.out _).mono ?_
  rintro e w2 ⟨rfl, rfl⟩
  clear g1 d0 d1 d2 d3 f0 f1 f2 f3
  go_wp2_with fail
  generalize hW2 : ((((w1.setCell ⟨w.heap.size, 0, none⟩ (.int .i64 3)).setCell ⟨w.heap.size, 1, none⟩ (.int .i64 1)).setCell ⟨w.heap.size, 2, none⟩ (.bool false)).setCell ⟨w.heap.size, 3, none⟩ (.bool false)) = w2 at HK5 HSZ HF ⊢
  clear hW2 K1
  go_loopw [18] (fun iv wr => ∃ (i : Nat) (s : Nat → Value), i ≤ 2 ∧ iv = .int .i64 i ∧ Wts w2 wr w1.heap.size s (lev p (4 * i))) (fun iv _ => 2 - (intOf iv).toNat)
  case atStart => exact ⟨0, fun _ => .slice none 0 0, by decide, rfl, Wts.start (Kept.refl _) HSZ.out⟩
  case round =>
    obtain ⟨i, s, hi, rfl, hW⟩ := hrel
    have HW := Lib.hid hW
    clear hW
    rcases (show i = 0 ∨ i = 1 ∨ i = 2 by omega) with he | he | he
    · have HIE := Lib.hid he
      obtain ⟨b, off, rfl, hc⟩ := (HE.out.kept (Kept.trans HK5.out HW.out.kept)).2 (by decide)
      have q0 := hc i ⟨64448, 32, 2, false⟩ (by rw [he]; rfl) 0 _ rfl
      have q1 := hc i ⟨64448, 32, 2, false⟩ (by rw [he]; rfl) 1 _ rfl
      have q2 := hc i ⟨64448, 32, 2, false⟩ (by rw [he]; rfl) 2 _ rfl
      have q3 := hc i ⟨64448, 32, 2, false⟩ (by rw [he]; rfl) 3 _ rfl
      rw [Nat.add_zero] at q0
      have g1 : (i : Int) < 2 := by omega
      have g2 : i < 2 := by omega
      have HNQ2 := Lib.hid (show ∀ w : World, (binOp .neq 91 (.agg #[.int .i64 64448, .int .i64 32, .int .i64 2, .int .i64 0]) (.agg #[.int .i64 0, .int .i64 0, .int .i64 0, .int .i64 0])).run Tryz.prog w = .ok (.bool true) w from fun w => by kernel_rfl)
      have HWG := Lib.hid (sk_weigh 64448 32 2 HNQ2.out ⟨w1.heap.size + 1, 0, none⟩ ⟨w1.heap.size + 1 + 1, 0, none⟩ (wr.alloc (Obj.cells #[Value.int .i64 64448, Value.int .i64 32, Value.int .i64 2, Value.bool false] 90)) (Kept.cell (Kept.alloc (Kept.refl _) _) HW.out.cap))
      have HW1 := Lib.hid (HW.out.kept' (Kept.alloc (Kept.refl _) (Obj.cells #[Value.int .i64 64448, Value.int .i64 32, Value.int .i64 2, Value.bool false] 90)))
      clear hc he HW
      go_wp2_with fail
      refine HWG.out.mono ?_
      rintro e w3 ⟨rfl, k3⟩
      have HW3 := Lib.hid (HW1.out.kept' k3)
      clear q0 q1 q2 q3 g1 g2 k3 HW1 HWG HNQ2
      go_wp2_with fail
      go_loopw [25] (fun jv wr => ∃ (j : Nat) (s : Nat → Value), j ≤ 4 ∧ jv = .int .i64 j ∧ Wts w2 wr w1.heap.size s (lev p (4 * i + j))) (fun jv _ => 4 - (intOf jv).toNat)
      case atStart => exact ⟨0, s, by decide, rfl, HW3.out⟩
      case round =>
        obtain ⟨j, s2, hj, hjv, hW2⟩ := hrel
        clear HW3
        rcases (show j = 0 ∨ j = 1 ∨ j = 2 ∨ j = 3 ∨ j = 4 by omega) with he2 | he2 | he2 | he2 | he2
        · subst he2
          have hjv2 : _ = Value.int .i64 0 := hjv
          clear hjv
          subst hjv2
          have hix := fun w : World => (show (Instr.index 91 (.agg #[.int .i64 64448, .int .i64 32, .int .i64 2, .int .i64 65535]) (.int .i64 0)).run Tryz.prog w = .ok (.int .i64 64448) w by kernel_rfl)
          obtain ⟨x, hx⟩ : ∃ x, x = lev p (4 * i + 0) := ⟨_, rfl⟩
          rw [← hx] at hW2
          obtain ⟨v0, hv0⟩ : ∃ v, v = s2 0 := ⟨_, rfl⟩
          obtain ⟨n0, hn0⟩ : ∃ n, n = (x 0).length := ⟨_, rfl⟩
          obtain ⟨L0, hL0⟩ : ∃ L, L = (x 0).map (Value.int .i64) := ⟨_, rfl⟩
          have hl : n0 ≤ 12 := by rw [hn0, hx]; have := lev_length p (4 * i + 0) 0; omega
          have cj : wr.cell? ⟨w1.heap.size, 0, none⟩ = some v0 := by rw [hv0]; exact hW2.cell (by decide)
          have HOWN := Lib.hid (show wr.ownsRow (w1.heap.size + 3) 3 1 v0 n0 L0 by rw [hv0, hn0, hL0]; exact hW2.own 0 (by decide))
          have HWA := Lib.hid (hW2.kept' (Kept.alloc (Kept.refl _) (Obj.cells #[Value.int .i64 64448] 3)))
          have hroom : w1.heap.size + 3 ≤ wr.heap.size := hW2.room
          have HX := Lib.hid hx
          have HV := Lib.hid hv0
          have HNL := Lib.hid hn0
          have HLL := Lib.hid hL0
          clear hW2 hx hv0 hn0 hL0
          go_wp2_with (at_builtin; refine wpList_append_own_at _ rfl _ _ 32 rfl (w1.heap.size + 3) 3 i0 (.int .i64 0) 1 8 Tryz.underlying32 HI0.out HZ0.out HZ1.out HZ2.out rfl (by decide) _ _ _ rfl (World.ownsRow.alloc HOWN.out _) ⟨wr.heap.size, 0, none⟩ 1 1 [.int .i64 64448] rfl rfl (cell_one_at rfl) (by simp [Value.oneCell']) (by unfold maxLen; omega) (by omega) (by simp; omega) ?_; intro v1 w4 hown1 hg1 _ hob1; obtain ⟨gb, gc, rfl, hb1, hW4⟩ := Wts.app HWA.out (by decide) HV.out HNL.out HLL.out hown1 hg1 hob1; have f1 := frozen_of_block (i := 0) hb1; have c1 := cell_of_block (i := 0) hb1 (v := v0) (by rw [HV.out]; rfl); have HW4 := Lib.hid hW4; clear hown1 hg1 hob1 hb1 hW4)
          go_roundw
          case rel => exact ⟨1, _, by decide, rfl, HW4.out.congr (fun j _ => by rw [HX.out]; exact lev_put (by rw [HIE.out]; rfl) (by decide) (by rw [HIE.out]) j)⟩
          case measure => simp [intOf]
        · subst he2
          have hjv2 : _ = Value.int .i64 1 := hjv
          clear hjv
          subst hjv2
          have hix := fun w : World => (show (Instr.index 91 (.agg #[.int .i64 64448, .int .i64 32, .int .i64 2, .int .i64 65535]) (.int .i64 1)).run Tryz.prog w = .ok (.int .i64 32) w by kernel_rfl)
          obtain ⟨x, hx⟩ : ∃ x, x = lev p (4 * i + 1) := ⟨_, rfl⟩
          rw [← hx] at hW2
          obtain ⟨v0, hv0⟩ : ∃ v, v = s2 1 := ⟨_, rfl⟩
          obtain ⟨n0, hn0⟩ : ∃ n, n = (x 1).length := ⟨_, rfl⟩
          obtain ⟨L0, hL0⟩ : ∃ L, L = (x 1).map (Value.int .i64) := ⟨_, rfl⟩
          have hl : n0 ≤ 12 := by rw [hn0, hx]; have := lev_length p (4 * i + 1) 1; omega
          have cj : wr.cell? ⟨w1.heap.size, 1, none⟩ = some v0 := by rw [hv0]; exact hW2.cell (by decide)
          have HOWN := Lib.hid (show wr.ownsRow (w1.heap.size + 3) 3 1 v0 n0 L0 by rw [hv0, hn0, hL0]; exact hW2.own 1 (by decide))
          have HWA := Lib.hid (hW2.kept' (Kept.alloc (Kept.refl _) (Obj.cells #[Value.int .i64 32] 3)))
          have hroom : w1.heap.size + 3 ≤ wr.heap.size := hW2.room
          have HX := Lib.hid hx
          have HV := Lib.hid hv0
          have HNL := Lib.hid hn0
          have HLL := Lib.hid hL0
          clear hW2 hx hv0 hn0 hL0
          go_wp2_with (at_builtin; refine wpList_append_own_at _ rfl _ _ 32 rfl (w1.heap.size + 3) 3 i0 (.int .i64 0) 1 8 Tryz.underlying32 HI0.out HZ0.out HZ1.out HZ2.out rfl (by decide) _ _ _ rfl (World.ownsRow.alloc HOWN.out _) ⟨wr.heap.size, 0, none⟩ 1 1 [.int .i64 32] rfl rfl (cell_one_at rfl) (by simp [Value.oneCell']) (by unfold maxLen; omega) (by omega) (by simp; omega) ?_; intro v1 w4 hown1 hg1 _ hob1; obtain ⟨gb, gc, rfl, hb1, hW4⟩ := Wts.app HWA.out (by decide) HV.out HNL.out HLL.out hown1 hg1 hob1; have f1 := frozen_of_block (i := 1) hb1; have c1 := cell_of_block (i := 1) hb1 (v := v0) (by rw [HV.out]; rfl); have HW4 := Lib.hid hW4; clear hown1 hg1 hob1 hb1 hW4)
          go_roundw
          case rel => exact ⟨2, _, by decide, rfl, HW4.out.congr (fun j _ => by rw [HX.out]; exact lev_put (by rw [HIE.out]; rfl) (by decide) (by rw [HIE.out]) j)⟩
          case measure => simp [intOf]
        · subst he2
          have hjv2 : _ = Value.int .i64 2 := hjv
          clear hjv
          subst hjv2
          have hix := fun w : World => (show (Instr.index 91 (.agg #[.int .i64 64448, .int .i64 32, .int .i64 2, .int .i64 65535]) (.int .i64 2)).run Tryz.prog w = .ok (.int .i64 2) w by kernel_rfl)
          obtain ⟨x, hx⟩ : ∃ x, x = lev p (4 * i + 2) := ⟨_, rfl⟩
          rw [← hx] at hW2
          obtain ⟨v0, hv0⟩ : ∃ v, v = s2 2 := ⟨_, rfl⟩
          obtain ⟨n0, hn0⟩ : ∃ n, n = (x 2).length := ⟨_, rfl⟩
          obtain ⟨L0, hL0⟩ : ∃ L, L = (x 2).map (Value.int .i64) := ⟨_, rfl⟩
          have hl : n0 ≤ 12 := by rw [hn0, hx]; have := lev_length p (4 * i + 2) 2; omega
          have cj : wr.cell? ⟨w1.heap.size, 2, none⟩ = some v0 := by rw [hv0]; exact hW2.cell (by decide)
          have HOWN := Lib.hid (show wr.ownsRow (w1.heap.size + 3) 3 1 v0 n0 L0 by rw [hv0, hn0, hL0]; exact hW2.own 2 (by decide))
          have HWA := Lib.hid (hW2.kept' (Kept.alloc (Kept.refl _) (Obj.cells #[Value.int .i64 2] 3)))
          have hroom : w1.heap.size + 3 ≤ wr.heap.size := hW2.room
          have HX := Lib.hid hx
          have HV := Lib.hid hv0
          have HNL := Lib.hid hn0
          have HLL := Lib.hid hL0
          clear hW2 hx hv0 hn0 hL0
          go_wp2_with (at_builtin; refine wpList_append_own_at _ rfl _ _ 32 rfl (w1.heap.size + 3) 3 i0 (.int .i64 0) 1 8 Tryz.underlying32 HI0.out HZ0.out HZ1.out HZ2.out rfl (by decide) _ _ _ rfl (World.ownsRow.alloc HOWN.out _) ⟨wr.heap.size, 0, none⟩ 1 1 [.int .i64 2] rfl rfl (cell_one_at rfl) (by simp [Value.oneCell']) (by unfold maxLen; omega) (by omega) (by simp; omega) ?_; intro v1 w4 hown1 hg1 _ hob1; obtain ⟨gb, gc, rfl, hb1, hW4⟩ := Wts.app HWA.out (by decide) HV.out HNL.out HLL.out hown1 hg1 hob1; have f1 := frozen_of_block (i := 2) hb1; have c1 := cell_of_block (i := 2) hb1 (v := v0) (by rw [HV.out]; rfl); have HW4 := Lib.hid hW4; clear hown1 hg1 hob1 hb1 hW4)
          go_roundw
          case rel => exact ⟨3, _, by decide, rfl, HW4.out.congr (fun j _ => by rw [HX.out]; exact lev_put (by rw [HIE.out]; rfl) (by decide) (by rw [HIE.out]) j)⟩
          case measure => simp [intOf]
        · subst he2
          have hjv2 : _ = Value.int .i64 3 := hjv
          clear hjv
          subst hjv2
          have hix := fun w : World => (show (Instr.index 91 (.agg #[.int .i64 64448, .int .i64 32, .int .i64 2, .int .i64 65535]) (.int .i64 3)).run Tryz.prog w = .ok (.int .i64 65535) w by kernel_rfl)
          obtain ⟨x, hx⟩ : ∃ x, x = lev p (4 * i + 3) := ⟨_, rfl⟩
          rw [← hx] at hW2
          obtain ⟨v0, hv0⟩ : ∃ v, v = s2 3 := ⟨_, rfl⟩
          obtain ⟨n0, hn0⟩ : ∃ n, n = (x 3).length := ⟨_, rfl⟩
          obtain ⟨L0, hL0⟩ : ∃ L, L = (x 3).map (Value.int .i64) := ⟨_, rfl⟩
          have hl : n0 ≤ 12 := by rw [hn0, hx]; have := lev_length p (4 * i + 3) 3; omega
          have cj : wr.cell? ⟨w1.heap.size, 3, none⟩ = some v0 := by rw [hv0]; exact hW2.cell (by decide)
          have HOWN := Lib.hid (show wr.ownsRow (w1.heap.size + 3) 3 1 v0 n0 L0 by rw [hv0, hn0, hL0]; exact hW2.own 3 (by decide))
          have HWA := Lib.hid (hW2.kept' (Kept.alloc (Kept.refl _) (Obj.cells #[Value.int .i64 65535] 3)))
          have hroom : w1.heap.size + 3 ≤ wr.heap.size := hW2.room
          have HX := Lib.hid hx
          have HV := Lib.hid hv0
          have HNL := Lib.hid hn0
          have HLL := Lib.hid hL0
          clear hW2 hx hv0 hn0 hL0
          go_wp2_with (at_builtin; refine wpList_append_own_at _ rfl _ _ 32 rfl (w1.heap.size + 3) 3 i0 (.int .i64 0) 1 8 Tryz.underlying32 HI0.out HZ0.out HZ1.out HZ2.out rfl (by decide) _ _ _ rfl (World.ownsRow.alloc HOWN.out _) ⟨wr.heap.size, 0, none⟩ 1 1 [.int .i64 65535] rfl rfl (cell_one_at rfl) (by simp [Value.oneCell']) (by unfold maxLen; omega) (by omega) (by simp; omega) ?_; intro v1 w4 hown1 hg1 _ hob1; obtain ⟨gb, gc, rfl, hb1, hW4⟩ := Wts.app HWA.out (by decide) HV.out HNL.out HLL.out hown1 hg1 hob1; have f1 := frozen_of_block (i := 3) hb1; have c1 := cell_of_block (i := 3) hb1 (v := v0) (by rw [HV.out]; rfl); have HW4 := Lib.hid hW4; clear hown1 hg1 hob1 hb1 hW4)
          go_roundw
          case rel => exact ⟨4, _, by decide, rfl, HW4.out.congr (fun j _ => by rw [HX.out]; exact lev_put (by rw [HIE.out]; rfl) (by decide) (by rw [HIE.out]) j)⟩
          case measure => simp [intOf]
        · subst he2
          have hjv2 : _ = Value.int .i64 4 := hjv
          clear hjv
          subst hjv2
          have HW2 := Lib.hid hW2
          clear hW2
          have hi2 : i < 2 := by have := HIE.out; omega
          go_wp2_with fail
          go_roundw
          case rel => exact ⟨i + 1, s2, by omega, by go_num, by rw [show 4 * (i + 1) = 4 * i + 4 by omega]; exact HW2.out⟩
          case measure => simp [intOf]; omega
    · have HIE := Lib.hid he
      obtain ⟨b, off, rfl, hc⟩ := (HE.out.kept (Kept.trans HK5.out HW.out.kept)).2 (by decide)
      have q0 := hc i ⟨p, 0, 0, false⟩ (by rw [he]; rfl) 0 _ rfl
      have q1 := hc i ⟨p, 0, 0, false⟩ (by rw [he]; rfl) 1 _ rfl
      have q2 := hc i ⟨p, 0, 0, false⟩ (by rw [he]; rfl) 2 _ rfl
      have q3 := hc i ⟨p, 0, 0, false⟩ (by rw [he]; rfl) 3 _ rfl
      rw [Nat.add_zero] at q0
      have g1 : (i : Int) < 2 := by omega
      have g2 : i < 2 := by omega
      have HNQ2 := Lib.hid (show ∀ w : World, (binOp .neq 91 (.agg #[.int .i64 p, .int .i64 0, .int .i64 0, .int .i64 0]) (.agg #[.int .i64 0, .int .i64 0, .int .i64 0, .int .i64 0])).run Tryz.prog w = .ok (.bool true) w from HNQ.out)
      have HWG := Lib.hid (sk_weigh p 0 0 HNQ2.out ⟨w1.heap.size + 1, 0, none⟩ ⟨w1.heap.size + 1 + 1, 0, none⟩ (wr.alloc (Obj.cells #[Value.int .i64 p, Value.int .i64 0, Value.int .i64 0, Value.bool false] 90)) (Kept.cell (Kept.alloc (Kept.refl _) _) HW.out.cap))
      have HW1 := Lib.hid (HW.out.kept' (Kept.alloc (Kept.refl _) (Obj.cells #[Value.int .i64 p, Value.int .i64 0, Value.int .i64 0, Value.bool false] 90)))
      clear hc he HW
      go_wp2_with fail
      refine HWG.out.mono ?_
      rintro e w3 ⟨rfl, k3⟩
      have HW3 := Lib.hid (HW1.out.kept' k3)
      clear q0 q1 q2 q3 g1 g2 k3 HW1 HWG HNQ2
      go_wp2_with fail
      go_loopw [25] (fun jv wr => ∃ (j : Nat) (s : Nat → Value), j ≤ 4 ∧ jv = .int .i64 j ∧ Wts w2 wr w1.heap.size s (lev p (4 * i + j))) (fun jv _ => 4 - (intOf jv).toNat)
      case atStart => exact ⟨0, s, by decide, rfl, HW3.out⟩
      case round =>
        obtain ⟨j, s2, hj, hjv, hW2⟩ := hrel
        clear HW3
        rcases (show j = 0 ∨ j = 1 ∨ j = 2 ∨ j = 3 ∨ j = 4 by omega) with he2 | he2 | he2 | he2 | he2
        · subst he2
          have hjv2 : _ = Value.int .i64 0 := hjv
          clear hjv
          subst hjv2
          have hix := fun w : World => (show (Instr.index 91 (.agg #[.int .i64 p, .int .i64 0, .int .i64 0, .int .i64 65535]) (.int .i64 0)).run Tryz.prog w = .ok (.int .i64 p) w by kernel_rfl)
          have hp0 : (p != 0) = true := by simp [HP.out]
          obtain ⟨x, hx⟩ : ∃ x, x = lev p (4 * i + 0) := ⟨_, rfl⟩
          rw [← hx] at hW2
          obtain ⟨v0, hv0⟩ : ∃ v, v = s2 0 := ⟨_, rfl⟩
          obtain ⟨n0, hn0⟩ : ∃ n, n = (x 0).length := ⟨_, rfl⟩
          obtain ⟨L0, hL0⟩ : ∃ L, L = (x 0).map (Value.int .i64) := ⟨_, rfl⟩
          have hl : n0 ≤ 12 := by rw [hn0, hx]; have := lev_length p (4 * i + 0) 0; omega
          have cj : wr.cell? ⟨w1.heap.size, 0, none⟩ = some v0 := by rw [hv0]; exact hW2.cell (by decide)
          have HOWN := Lib.hid (show wr.ownsRow (w1.heap.size + 3) 3 1 v0 n0 L0 by rw [hv0, hn0, hL0]; exact hW2.own 0 (by decide))
          have HWA := Lib.hid (hW2.kept' (Kept.alloc (Kept.refl _) (Obj.cells #[Value.int .i64 p] 3)))
          have hroom : w1.heap.size + 3 ≤ wr.heap.size := hW2.room
          have HX := Lib.hid hx
          have HV := Lib.hid hv0
          have HNL := Lib.hid hn0
          have HLL := Lib.hid hL0
          clear hW2 hx hv0 hn0 hL0
          go_wp2_with (at_builtin; refine wpList_append_own_at _ rfl _ _ 32 rfl (w1.heap.size + 3) 3 i0 (.int .i64 0) 1 8 Tryz.underlying32 HI0.out HZ0.out HZ1.out HZ2.out rfl (by decide) _ _ _ rfl (World.ownsRow.alloc HOWN.out _) ⟨wr.heap.size, 0, none⟩ 1 1 [.int .i64 p] rfl rfl (cell_one_at rfl) (by simp [Value.oneCell']) (by unfold maxLen; omega) (by omega) (by simp; omega) ?_; intro v1 w4 hown1 hg1 _ hob1; obtain ⟨gb, gc, rfl, hb1, hW4⟩ := Wts.app HWA.out (by decide) HV.out HNL.out HLL.out hown1 hg1 hob1; have f1 := frozen_of_block (i := 0) hb1; have c1 := cell_of_block (i := 0) hb1 (v := v0) (by rw [HV.out]; rfl); have HW4 := Lib.hid hW4; clear hown1 hg1 hob1 hb1 hW4)
          go_roundw
          case rel => exact ⟨1, _, by decide, rfl, HW4.out.congr (fun j _ => by rw [HX.out]; exact lev_put (by rw [HIE.out]; rfl) HP.out (by rw [HIE.out]) j)⟩
          case measure => simp [intOf]
        · subst he2
          have hjv2 : _ = Value.int .i64 1 := hjv
          clear hjv
          subst hjv2
          have hix := fun w : World => (show (Instr.index 91 (.agg #[.int .i64 p, .int .i64 0, .int .i64 0, .int .i64 65535]) (.int .i64 1)).run Tryz.prog w = .ok (.int .i64 0) w by kernel_rfl)
          have HW2 := Lib.hid hW2
          clear hW2
          go_wp2_with fail
          go_roundw
          case rel => exact ⟨2, s2, by decide, rfl, HW2.out.congr (fun j _ => lev_skip (by rw [HIE.out]; rfl) j)⟩
          case measure => simp [intOf]
        · subst he2
          have hjv2 : _ = Value.int .i64 2 := hjv
          clear hjv
          subst hjv2
          have hix := fun w : World => (show (Instr.index 91 (.agg #[.int .i64 p, .int .i64 0, .int .i64 0, .int .i64 65535]) (.int .i64 2)).run Tryz.prog w = .ok (.int .i64 0) w by kernel_rfl)
          have HW2 := Lib.hid hW2
          clear hW2
          go_wp2_with fail
          go_roundw
          case rel => exact ⟨3, s2, by decide, rfl, HW2.out.congr (fun j _ => lev_skip (by rw [HIE.out]; rfl) j)⟩
          case measure => simp [intOf]
        · subst he2
          have hjv2 : _ = Value.int .i64 3 := hjv
          clear hjv
          subst hjv2
          have hix := fun w : World => (show (Instr.index 91 (.agg #[.int .i64 p, .int .i64 0, .int .i64 0, .int .i64 65535]) (.int .i64 3)).run Tryz.prog w = .ok (.int .i64 65535) w by kernel_rfl)
          obtain ⟨x, hx⟩ : ∃ x, x = lev p (4 * i + 3) := ⟨_, rfl⟩
          rw [← hx] at hW2
          obtain ⟨v0, hv0⟩ : ∃ v, v = s2 3 := ⟨_, rfl⟩
          obtain ⟨n0, hn0⟩ : ∃ n, n = (x 3).length := ⟨_, rfl⟩
          obtain ⟨L0, hL0⟩ : ∃ L, L = (x 3).map (Value.int .i64) := ⟨_, rfl⟩
          have hl : n0 ≤ 12 := by rw [hn0, hx]; have := lev_length p (4 * i + 3) 3; omega
          have cj : wr.cell? ⟨w1.heap.size, 3, none⟩ = some v0 := by rw [hv0]; exact hW2.cell (by decide)
          have HOWN := Lib.hid (show wr.ownsRow (w1.heap.size + 3) 3 1 v0 n0 L0 by rw [hv0, hn0, hL0]; exact hW2.own 3 (by decide))
          have HWA := Lib.hid (hW2.kept' (Kept.alloc (Kept.refl _) (Obj.cells #[Value.int .i64 65535] 3)))
          have hroom : w1.heap.size + 3 ≤ wr.heap.size := hW2.room
          have HX := Lib.hid hx
          have HV := Lib.hid hv0
          have HNL := Lib.hid hn0
          have HLL := Lib.hid hL0
          clear hW2 hx hv0 hn0 hL0
          go_wp2_with (at_builtin; refine wpList_append_own_at _ rfl _ _ 32 rfl (w1.heap.size + 3) 3 i0 (.int .i64 0) 1 8 Tryz.underlying32 HI0.out HZ0.out HZ1.out HZ2.out rfl (by decide) _ _ _ rfl (World.ownsRow.alloc HOWN.out _) ⟨wr.heap.size, 0, none⟩ 1 1 [.int .i64 65535] rfl rfl (cell_one_at rfl) (by simp [Value.oneCell']) (by unfold maxLen; omega) (by omega) (by simp; omega) ?_; intro v1 w4 hown1 hg1 _ hob1; obtain ⟨gb, gc, rfl, hb1, hW4⟩ := Wts.app HWA.out (by decide) HV.out HNL.out HLL.out hown1 hg1 hob1; have f1 := frozen_of_block (i := 3) hb1; have c1 := cell_of_block (i := 3) hb1 (v := v0) (by rw [HV.out]; rfl); have HW4 := Lib.hid hW4; clear hown1 hg1 hob1 hb1 hW4)
          go_roundw
          case rel => exact ⟨4, _, by decide, rfl, HW4.out.congr (fun j _ => by rw [HX.out]; exact lev_put (by rw [HIE.out]; rfl) (by decide) (by rw [HIE.out]) j)⟩
          case measure => simp [intOf]
        · subst he2
          have hjv2 : _ = Value.int .i64 4 := hjv
          clear hjv
          subst hjv2
          have HW2 := Lib.hid hW2
          clear hW2
          have hi2 : i < 2 := by have := HIE.out; omega
          go_wp2_with fail
          go_roundw
          case rel => exact ⟨i + 1, s2, by omega, by go_num, by rw [show 4 * (i + 1) = 4 * i + 4 by omega]; exact HW2.out⟩
          case measure => simp [intOf]; omega
    · subst he
      have hb := (HW.out.kept.block _ (block_lt HF.out)).trans HF.out
      have q0 := cell_of_block (i := 0) hb rfl
      have q2 := cell_of_block (i := 2) hb rfl
      simp only [s4_, s5_, s6_] at q0 q2
      clear hb
      obtain ⟨A0, c0, e0, le0, I0⟩ := OwnI.sl (HW.out.own 0 (by decide))
      obtain ⟨A1, c1, e1, le1, I1⟩ := OwnI.sl (HW.out.own 1 (by decide))
      obtain ⟨A2, c2, e2, le2, I2⟩ := OwnI.sl (HW.out.own 2 (by decide))
      rw [(lev_end HP.out).1] at e0 le0 I0
      rw [(lev_end HP.out).2.1] at e1 le1 I1
      rw [(lev_end HP.out).2.2] at e2 le2 I2
      have hcell : ∀ j u, [s 0, s 1, s 2][j]? = some u → wr.cell? ((⟨w1.heap.size, 0, none⟩ : Addr).add j) = some u := fun j u hu => by rw [add_zero_]; exact cell_of_block (i := j) HW.out.blk (by rcases j with _ | _ | _ | j <;> simp at hu ⊢ <;> exact hu)
      have hone : ∀ u ∈ [s 0, s 1, s 2], u.oneCell' = true := by rw [e0, e1, e2]; simp [Value.oneCell']
      have HCL := Lib.hid hcell
      have HON := Lib.hid hone
      have HA0 := Lib.hid e0
      have HA1 := Lib.hid e1
      have HA2 := Lib.hid e2
      have HL0 := Lib.hid le0
      have HL1 := Lib.hid le1
      have HL2 := Lib.hid le2
      have HJ0 := Lib.hid I0
      have HJ1 := Lib.hid I1
      have HJ2 := Lib.hid I2
      clear hcell hone e0 e1 e2 le0 le1 le2 I0 I1 I2
      go_wp2_with (at_builtin; refine wpList_append_own _ rfl _ _ 29 rfl wr.heap.size 32 i1 (.slice none 0 0) 1 24 Tryz.underlying29 HI1.out HY0.out HY1.out HY2.out rfl (by decide) (.slice none 0 0) 0 [] rfl (World.ownsRow_nil _ _ _ _) ⟨w1.heap.size, 0, none⟩ 3 4 [s 0, s 1, s 2] rfl rfl HCL.out HON.out (by unfold maxLen; omega) (by omega) (Nat.le_refl _) ?_; intro v5 w5 hown5 hgrow5 _; rw [HA0.out, HA1.out, HA2.out] at hown5; have HK6 := Lib.hid (HW.out.kept.grown hgrow5 HW.out.kept.size (fun q e => by cases e)); have HK7 := Lib.hid (show Kept wr w5 from (Kept.refl wr).grown hgrow5 (Nat.le_refl _) (fun q e => by cases e)); clear hgrow5)
      go_ret
      rcases hown5.2 with ⟨rfl, h0⟩ | ⟨g, cap, cur, rfl, h1, h2, h3, h4⟩
      · cases h0
      · exact ⟨_, cap, rfl, h3, tab_three (fun j u hu => hown5.cells rfl j u hu) (HJ0.out.kept HK7.out) (HJ1.out.kept HK7.out) (HJ2.out.kept HK7.out) HL0.out HL1.out HL2.out, Kept.trans HK5.out HK6.out⟩
end Go.Proofs.YtckgmkjoblneeaaGreatDoor
namespace Go.Proofs.YtckgmkjoblneeaaGreatDoor
open Go Go.RowKit
def keyL (p : Int) : Nat → List Int
  | 0 => []
  | 1 => [64448, p]
  | 2 => [64448, p, 0, 32]
  | _ => [64448, p, 0, 32, 0, 2]
set_option maxRecDepth 100000 in
set_option maxHeartbeats 4000000 in
theorem sk_key97 (Am : Option Addr) (nm cm : Nat) (n : Nrm) (A : Option Addr) (c : Nat) (w : World) (hN : NormAt w ⟨none, 0, 0, Am, nm, cm, none, 0, 0⟩ n) (hG : Glob w) (hz : decCheck n = 0) (htx : textOf n false [97] = [97]) (hI : Ints w A 1 [97]) : Calls Tryz.prog 20 #[.agg #[.slice none 0 0, .slice Am nm cm, .slice none 0 0], .agg #[.slice none 0 0, .slice none 0 0, .int .i64 0, .int .i64 0, .int .i64 0], .agg #[.int .i64 3, .int .i64 1, .bool false, .bool false], .slice A 1 c] w (RetInts w [64448, 32865, 0, 32, 0, 2]) := by
  have hk0_ := Kept.alloc (Kept.refl w) (Obj.cells #[Value.slice none 0 0, Value.slice Am nm cm, Value.slice none 0 0] 28)
  have hk1_ := Kept.alloc hk0_ (Obj.cells #[Value.slice none 0 0, Value.slice none 0 0, Value.int IntKind.i64 0, Value.int IntKind.i64 0, Value.int IntKind.i64 0] 65)
  have hk2_ := Kept.alloc hk1_ (Obj.cells #[Value.int IntKind.i64 3, Value.int IntKind.i64 1, Value.bool false, Value.bool false] 59)
  have HK1 := Lib.hid hk2_
  have hb0_ := (alloc_lift (o := (Obj.cells #[Value.int IntKind.i64 3, Value.int IntKind.i64 1, Value.bool false, Value.bool false] 59)) (alloc_lift (o := (Obj.cells #[Value.slice none 0 0, Value.slice none 0 0, Value.int IntKind.i64 0, Value.int IntKind.i64 0, Value.int IntKind.i64 0] 65)) (box_block w (Obj.cells #[Value.slice none 0 0, Value.slice Am nm cm, Value.slice none 0 0] 28))))
  have x0_ := cell_of_block (i := 0) hb0_ rfl
  have x1_ := cell_of_block (i := 1) hb0_ rfl
  have x2_ := cell_of_block (i := 2) hb0_ rfl
  have hb1_ := (alloc_lift (o := (Obj.cells #[Value.int IntKind.i64 3, Value.int IntKind.i64 1, Value.bool false, Value.bool false] 59)) (box_block (w.alloc (Obj.cells #[Value.slice none 0 0, Value.slice Am nm cm, Value.slice none 0 0] 28)) (Obj.cells #[Value.slice none 0 0, Value.slice none 0 0, Value.int IntKind.i64 0, Value.int IntKind.i64 0, Value.int IntKind.i64 0] 65)))
  simp only [World.size_alloc] at hb1_
  have x3_ := cell_of_block (i := 0) hb1_ rfl
  have x4_ := cell_of_block (i := 1) hb1_ rfl
  have x5_ := cell_of_block (i := 2) hb1_ rfl
  have x6_ := cell_of_block (i := 3) hb1_ rfl
  have x7_ := cell_of_block (i := 4) hb1_ rfl
  have hb2_ := (box_block ((w.alloc (Obj.cells #[Value.slice none 0 0, Value.slice Am nm cm, Value.slice none 0 0] 28)).alloc (Obj.cells #[Value.slice none 0 0, Value.slice none 0 0, Value.int IntKind.i64 0, Value.int IntKind.i64 0, Value.int IntKind.i64 0] 65)) (Obj.cells #[Value.int IntKind.i64 3, Value.int IntKind.i64 1, Value.bool false, Value.bool false] 59))
  simp only [World.size_alloc] at hb2_
  have x8_ := cell_of_block (i := 0) hb2_ rfl
  have x9_ := cell_of_block (i := 1) hb2_ rfl
  have x10_ := cell_of_block (i := 2) hb2_ rfl
  have x11_ := cell_of_block (i := 3) hb2_ rfl
  simp only [s4_, s5_, s6_] at x0_ x1_ x2_ x3_ x4_ x5_ x6_ x7_ x8_ x9_ x10_ x11_
  have HX0 := Lib.hid x0_
  have HX1 := Lib.hid x1_
  have HX2 := Lib.hid x2_
  have HX3 := Lib.hid x3_
  have HX4 := Lib.hid x4_
  have HX5 := Lib.hid x5_
  have HX6 := Lib.hid x6_
  have HX7 := Lib.hid x7_
  have HX8 := Lib.hid x8_
  have HX9 := Lib.hid x9_
  have HX10 := Lib.hid x10_
  have HX11 := Lib.hid x11_
  have HB0 := Lib.hid hb0_
  have HB1 := Lib.hid hb1_
  have HB2 := Lib.hid hb2_
  clear x0_ x1_ x2_ x3_ x4_ x5_ x6_ x7_ x8_ x9_ x10_ x11_ hb0_ hb1_ hb2_
  have HEF := Lib.hid (fun w' => sk_eff w')
  have HEL := Lib.hid (fun w' (hk : Kept w w') => ct_elems97 Am nm cm n A c w' (hN.kept hk) (hG.kept hk) hz htx (hI.kept hk))
  have HWT := Lib.hid (sk_weights 32865 (by decide) (fun w => by kernel_rfl))
  obtain ⟨i0, hi, hz0, hz1, hz2⟩ := info_parts1 info_int
  have HI0 := Lib.hid hi
  have HZ0 := Lib.hid hz0
  have HZ1 := Lib.hid hz1
  have HZ2 := Lib.hid hz2
  clear hi hz0 hz1 hz2 hN hG hz htx hI hk0_ hk1_ hk2_
  go_enter Tryz.func20, Tryz.ntmps20
  have p0 := HX0.out
  have p1 := HX1.out
  have p2 := HX2.out
  have p3 := HX3.out
  have p4 := HX4.out
  have p5 := HX5.out
  have p6 := HX6.out
  have p7 := HX7.out
  have p8 := HX8.out
  have p9 := HX9.out
  have p10 := HX10.out
  have p11 := HX11.out
  go_wp2_with fail
  refine (HEF.out _).mono ?_
  rintro e w1 ⟨rfl, k1⟩
  clear p0 p1 p2 p3 p4 p5 p6 p7 p8 p9 p10 p11
  have KB1 := Lib.hid (Kept.trans (Kept.refl (((w.alloc (Obj.cells #[Value.slice none 0 0, Value.slice Am nm cm, Value.slice none 0 0] 28)).alloc (Obj.cells #[Value.slice none 0 0, Value.slice none 0 0, Value.int IntKind.i64 0, Value.int IntKind.i64 0, Value.int IntKind.i64 0] 65)).alloc (Obj.cells #[Value.int IntKind.i64 3, Value.int IntKind.i64 1, Value.bool false, Value.bool false] 59))) k1)
  have hc0 := (KB1.out.block _ (block_lt HB2.out)).trans HB2.out
  have f0 := frozen_of_block (i := 0) hc0
  have f1 := frozen_of_block (i := 1) hc0
  have f2 := frozen_of_block (i := 2) hc0
  have f3 := frozen_of_block (i := 3) hc0
  have hs0 := kept_same (i := 0) hc0 (v := .int .i64 3) rfl
  have hc1 := (hs0.block _ (block_lt hc0)).trans hc0
  have hs1 := kept_same (i := 1) hc1 (v := .int .i64 1) rfl
  have hc2 := (hs1.block _ (block_lt hc1)).trans hc1
  have hs2 := kept_same (i := 2) hc2 (v := .bool false) rfl
  have hc3 := (hs2.block _ (block_lt hc2)).trans hc2
  have hs3 := kept_same (i := 3) hc3 (v := .bool false) rfl
  have hks := Kept.trans (Kept.trans (Kept.trans hs0 hs1) hs2) hs3
  have HKS := Lib.hid hks
  clear hks hs0 hs1 hs2 hs3 hc0 hc1 hc2 hc3
  have p0 := Kept.cell KB1.out HX0.out
  have p1 := Kept.cell KB1.out HX1.out
  have p2 := Kept.cell KB1.out HX2.out
  have p3 := Kept.cell KB1.out HX3.out
  have p4 := Kept.cell KB1.out HX4.out
  have p5 := Kept.cell KB1.out HX5.out
  have p6 := Kept.cell KB1.out HX6.out
  have p7 := Kept.cell KB1.out HX7.out
  have p8 := Kept.cell KB1.out HX8.out
  have p9 := Kept.cell KB1.out HX9.out
  have p10 := Kept.cell KB1.out HX10.out
  have p11 := Kept.cell KB1.out HX11.out
  go_wp2_with fail
  clear f0 f1 f2 f3
  generalize hW2 : ((((w1.setCell ⟨w.heap.size + 1 + 1, 0, none⟩ (.int .i64 3)).setCell ⟨w.heap.size + 1 + 1, 1, none⟩ (.int .i64 1)).setCell ⟨w.heap.size + 1 + 1, 2, none⟩ (.bool false)).setCell ⟨w.heap.size + 1 + 1, 3, none⟩ (.bool false)) = w2 at HKS ⊢
  clear hW2
  have k2 := HKS.out
  clear p0 p1 p2 p3 p4 p5 p6 p7 p8 p9 p10 p11
  have KB2 := Lib.hid (Kept.trans KB1.out HKS.out)
  clear k2
  have p0 := Kept.cell KB2.out HX0.out
  have p1 := Kept.cell KB2.out HX1.out
  have p2 := Kept.cell KB2.out HX2.out
  have p3 := Kept.cell KB2.out HX3.out
  have p4 := Kept.cell KB2.out HX4.out
  have p5 := Kept.cell KB2.out HX5.out
  have p6 := Kept.cell KB2.out HX6.out
  have p7 := Kept.cell KB2.out HX7.out
  have p8 := Kept.cell KB2.out HX8.out
  have p9 := Kept.cell KB2.out HX9.out
  have p10 := Kept.cell KB2.out HX10.out
  have p11 := Kept.cell KB2.out HX11.out
  clear p0 p1 p2 p3 p4 p5 p6 p7 p8 p9 p10 p11
  have p0 := Kept.cell KB2.out HX0.out
  have p1 := Kept.cell KB2.out HX1.out
  have p2 := Kept.cell KB2.out HX2.out
  have p3 := Kept.cell KB2.out HX3.out
  have p4 := Kept.cell KB2.out HX4.out
  have p5 := Kept.cell KB2.out HX5.out
  have p6 := Kept.cell KB2.out HX6.out
  have p7 := Kept.cell KB2.out HX7.out
  have p8 := Kept.cell KB2.out HX8.out
  have p9 := Kept.cell KB2.out HX9.out
  have p10 := Kept.cell KB2.out HX10.out
  have p11 := Kept.cell KB2.out HX11.out
  refine wp_region_held_drew (S := (fun w' => w'.cell? ⟨w.heap.size, 0, none⟩ = some (.slice none 0 0) ∧ w'.cell? ⟨w.heap.size, 1, none⟩ = some (.slice Am nm cm) ∧ w'.cell? ⟨w.heap.size, 2, none⟩ = some (.slice none 0 0) ∧ w'.cell? ⟨w.heap.size + 1, 0, none⟩ = some (.slice none 0 0) ∧ w'.cell? ⟨w.heap.size + 1, 1, none⟩ = some (.slice none 0 0) ∧ w'.cell? ⟨w.heap.size + 1, 2, none⟩ = some (.int .i64 0) ∧ w'.cell? ⟨w.heap.size + 1, 3, none⟩ = some (.int .i64 0) ∧ w'.cell? ⟨w.heap.size + 1, 4, none⟩ = some (.int .i64 0) ∧ w'.cell? ⟨w.heap.size + 1 + 1, 0, none⟩ = some (.int .i64 3) ∧ w'.cell? ⟨w.heap.size + 1 + 1, 1, none⟩ = some (.int .i64 1) ∧ w'.cell? ⟨w.heap.size + 1 + 1, 2, none⟩ = some (.bool false) ∧ w'.cell? ⟨w.heap.size + 1 + 1, 3, none⟩ = some (.bool false))) (by kernel_rfl) ⟨p0, p1, p2, p3, p4, p5, p6, p7, p8, p9, p10, p11⟩ (fun hHeld => ?_)
  refine tk_ 0 ?_ rfl ?_; refine tk_ 1 ?_ rfl ?_; refine tk_ 2 ?_ rfl ?_; refine tk_ 4 ?_ rfl ?_; refine tk_ 7 ?_ rfl ?_
  refine rd_ 3 rfl (fun K hK => ?_)
  go_simp
  (refine (HEL.out _ (Kept.trans HK1.out (Kept.drew KB2.out))).mono ?_; rintro e w3 ⟨Q3, c3, rfl, le3, i3, k3⟩; have E3 := Lib.hid (show Sl 4 encE _ _ 2 (eltsP 32865) from i3); clear i3; have KB3 := Lib.hid (Kept.trans (Kept.drew KB2.out) k3))
  go_wp2_with fail
  refine hK.out _ _ ⟨Kept.cell KB3.out HX0.out, Kept.cell KB3.out HX1.out, Kept.cell KB3.out HX2.out, Kept.cell KB3.out HX3.out, Kept.cell KB3.out HX4.out, Kept.cell KB3.out HX5.out, Kept.cell KB3.out HX6.out, Kept.cell KB3.out HX7.out, Kept.cell KB3.out HX8.out, Kept.cell KB3.out HX9.out, Kept.cell KB3.out HX10.out, Kept.cell KB3.out HX11.out⟩ (fun hHeld => ?_)
  clear hK K
  (try simp only [Act.put, s1_, s2_, s3_, s4_, s5_, s6_])
  refine rd_ 5 rfl (fun K hK => ?_)
  go_simp
  (refine (HWT.out Q3 c3 _ E3.out).mono ?_; rintro e w4 ⟨T4, c4, rfl, le4, i4, k4⟩; have T4T := Lib.hid i4; clear i4; have KB4 := Lib.hid (Kept.trans KB3.out k4))
  go_wp2_with fail
  refine hK.out _ _ ⟨Kept.cell KB4.out HX0.out, Kept.cell KB4.out HX1.out, Kept.cell KB4.out HX2.out, Kept.cell KB4.out HX3.out, Kept.cell KB4.out HX4.out, Kept.cell KB4.out HX5.out, Kept.cell KB4.out HX6.out, Kept.cell KB4.out HX7.out, Kept.cell KB4.out HX8.out, Kept.cell KB4.out HX9.out, Kept.cell KB4.out HX10.out, Kept.cell KB4.out HX11.out⟩ (fun hHeld => ?_)
  clear hK K
  (try simp only [Act.put, s1_, s2_, s3_, s4_, s5_, s6_])
  refine tk_ 6 ?_ rfl ?_
  refine wpAnyH_done (by kernel_rfl) ?_ _
  clear p0 p1 p2 p3 p4 p5 p6 p7 p8 p9 p10 p11
  obtain ⟨b0, hb0⟩ : ∃ b0 : Nat, b0 = w4.heap.size := ⟨_, rfl⟩
  have HB4 := Lib.hid hb0
  clear hb0
  have HQ11 := Lib.hid (Kept.cell KB4.out HX11.out)
  go_wp2_with fail
  go_loopw [9, 23] (fun kv iv wr => ∃ i : Nat, i ≤ 3 ∧ iv = .int .i64 i ∧ OwnI wr b0 kv (keyL 32865 i) ∧ Kept w4 wr) (fun _ iv _ => 3 - (intOf iv).toNat)
  case atStart => exact ⟨0, by decide, rfl, (World.ownsRow_nil _ _ _ _ : OwnI w4 b0 (.slice none 0 0) []), Kept.refl _⟩
  case round =>
    obtain ⟨i, hi, hiv, hown, hkw⟩ := hrel
    have KW := Lib.hid hkw
    have hsz : w4.heap.size ≤ wr.heap.size := hkw.size
    clear hkw
    rcases (show i = 0 ∨ i = 1 ∨ i = 2 ∨ i = 3 by omega) with he | he | he | he
    · subst he
      have hiv2 : _ = Value.int .i64 0 := hiv
      clear hiv
      subst hiv2
      have HO := Lib.hid (show OwnI wr b0 _ [] from hown)
      clear hown
      obtain ⟨b, off, A', k', c', xs, rfl, hx, cx, hle', hI'⟩ := tab_at T4T.out (i := 0) (by decide)
      obtain rfl := Option.some.inj (show some [64448, 32865] = some xs from hx)
      obtain rfl : k' = 2 := hI'.1
      have cx := Kept.cell KW.out cx
      rw [Nat.add_zero] at cx
      have HX := Lib.hid hI'
      clear hI' hx
      go_wp2_with (at_builtin; refine app_ints rfl _ _ rfl b0 _ _ rfl HO.out _ _ _ [64448, 32865] rfl (HX.out.kept KW.out) (by simp) (by have := KW.out.size; have := HB4.out; omega) ?_; intro v3 w6 hown3 hgrow3 hat3)
      have K6 := Lib.hid (show Kept w4 w6 from (KW.out).grown hgrow3 KW.out.size (fun q e => by have := (World.ownsRow.lt HO.out q e).1; have := HB4.out; omega))
      have HO3 := Lib.hid (show OwnI w6 b0 v3 [64448, 32865] from hown3)
      clear hown3 hgrow3 hat3
      go_roundw
      case rel => exact ⟨1, by decide, rfl, HO3.out, K6.out⟩
      case measure => simp [intOf]
    · subst he
      have hiv2 : _ = Value.int .i64 1 := hiv
      clear hiv
      subst hiv2
      have HO := Lib.hid (show OwnI wr b0 _ [64448, 32865] from hown)
      clear hown
      obtain ⟨b, off, A', k', c', xs, rfl, hx, cx, hle', hI'⟩ := tab_at T4T.out (i := 1) (by decide)
      obtain rfl := Option.some.inj (show some [32] = some xs from hx)
      obtain rfl : k' = 1 := hI'.1
      have cx := Kept.cell KW.out cx
      have HX := Lib.hid hI'
      clear hI' hx
      go_wp2_with (first | (at_builtin; refine app_ints rfl _ _ rfl b0 _ _ rfl HO1.out _ _ _ [32] rfl (HX.out.kept K5.out) (by simp) (by have := K5.out.size; have := HB4.out; omega) ?_; intro v3 w6 hown3 hgrow3 hat3) | (at_builtin; refine wpList_append_own _ rfl _ _ 32 rfl b0 3 i0 (.int .i64 0) 1 8 Tryz.underlying32 HI0.out HZ0.out HZ1.out HZ2.out rfl (by decide) _ _ _ rfl (World.ownsRow.alloc HO.out _) ⟨wr.heap.size, 0, none⟩ 1 1 [.int .i64 0] rfl rfl (cell_one_at rfl) (by simp [Value.oneCell']) (by simp [maxLen]) (by simp) (by have := HB4.out; simp; omega) ?_; intro v1 w5 hown1 hg1 _; have HO1 := Lib.hid (show OwnI w5 b0 v1 [64448, 32865, 0] by have := hown1; simpa [OwnI] using this); have K5 := Lib.hid (show Kept w4 w5 from (Kept.alloc KW.out (Obj.cells #[Value.int IntKind.i64 0] 3)).grown hg1 (by simp; omega) (fun q e => by have := (World.ownsRow.lt HO.out q e).1; have := HB4.out; omega)); clear hown1 hg1))
      have K6 := Lib.hid (show Kept w4 w6 from (K5.out).grown hgrow3 K5.out.size (fun q e => by have := (World.ownsRow.lt HO1.out q e).1; have := HB4.out; omega))
      have HO3 := Lib.hid (show OwnI w6 b0 v3 [64448, 32865, 0, 32] from hown3)
      clear hown3 hgrow3 hat3
      go_roundw
      case rel => exact ⟨2, by decide, rfl, HO3.out, K6.out⟩
      case measure => simp [intOf]
    · subst he
      have hiv2 : _ = Value.int .i64 2 := hiv
      clear hiv
      subst hiv2
      have HO := Lib.hid (show OwnI wr b0 _ [64448, 32865, 0, 32] from hown)
      clear hown
      obtain ⟨b, off, A', k', c', xs, rfl, hx, cx, hle', hI'⟩ := tab_at T4T.out (i := 2) (by decide)
      obtain rfl := Option.some.inj (show some [2] = some xs from hx)
      obtain rfl : k' = 1 := hI'.1
      have cx := Kept.cell KW.out cx
      have HX := Lib.hid hI'
      clear hI' hx
      go_wp2_with (first | (at_builtin; refine app_ints rfl _ _ rfl b0 _ _ rfl HO1.out _ _ _ [2] rfl (HX.out.kept K5.out) (by simp) (by have := K5.out.size; have := HB4.out; omega) ?_; intro v3 w6 hown3 hgrow3 hat3) | (at_builtin; refine wpList_append_own _ rfl _ _ 32 rfl b0 3 i0 (.int .i64 0) 1 8 Tryz.underlying32 HI0.out HZ0.out HZ1.out HZ2.out rfl (by decide) _ _ _ rfl (World.ownsRow.alloc HO.out _) ⟨wr.heap.size, 0, none⟩ 1 1 [.int .i64 0] rfl rfl (cell_one_at rfl) (by simp [Value.oneCell']) (by simp [maxLen]) (by simp) (by have := HB4.out; simp; omega) ?_; intro v1 w5 hown1 hg1 _; have HO1 := Lib.hid (show OwnI w5 b0 v1 [64448, 32865, 0, 32, 0] by have := hown1; simpa [OwnI] using this); have K5 := Lib.hid (show Kept w4 w5 from (Kept.alloc KW.out (Obj.cells #[Value.int IntKind.i64 0] 3)).grown hg1 (by simp; omega) (fun q e => by have := (World.ownsRow.lt HO.out q e).1; have := HB4.out; omega)); clear hown1 hg1))
      have K6 := Lib.hid (show Kept w4 w6 from (K5.out).grown hgrow3 K5.out.size (fun q e => by have := (World.ownsRow.lt HO1.out q e).1; have := HB4.out; omega))
      have HO3 := Lib.hid (show OwnI w6 b0 v3 [64448, 32865, 0, 32, 0, 2] from hown3)
      clear hown3 hgrow3 hat3
      go_roundw
      case rel => exact ⟨3, by decide, rfl, HO3.out, K6.out⟩
      case measure => simp [intOf]
    · subst he
      have hiv2 : _ = Value.int .i64 3 := hiv
      clear hiv
      subst hiv2
      obtain ⟨A9, c9, rfl, hle9, hI9⟩ := OwnI.sl (show OwnI wr b0 _ [64448, 32865, 0, 32, 0, 2] from hown)
      have q11 := Kept.cell KW.out HQ11.out
      have HI9 := Lib.hid hI9
      clear hI9 hown
      go_wp2_with fail
      go_ret
      exact ⟨A9, 6, c9, rfl, hle9, HI9.out, Kept.trans (Kept.trans HK1.out KB4.out) KW.out⟩
set_option maxRecDepth 100000 in
set_option maxHeartbeats 4000000 in
theorem sk_key98 (Am : Option Addr) (nm cm : Nat) (n : Nrm) (A : Option Addr) (c : Nat) (w : World) (hN : NormAt w ⟨none, 0, 0, Am, nm, cm, none, 0, 0⟩ n) (hG : Glob w) (hz : decCheck n = 0) (htx : textOf n false [98] = [98]) (hI : Ints w A 1 [98]) : Calls Tryz.prog 20 #[.agg #[.slice none 0 0, .slice Am nm cm, .slice none 0 0], .agg #[.slice none 0 0, .slice none 0 0, .int .i64 0, .int .i64 0, .int .i64 0], .agg #[.int .i64 3, .int .i64 1, .bool false, .bool false], .slice A 1 c] w (RetInts w [64448, 32866, 0, 32, 0, 2]) := by
  have hk0_ := Kept.alloc (Kept.refl w) (Obj.cells #[Value.slice none 0 0, Value.slice Am nm cm, Value.slice none 0 0] 28)
  have hk1_ := Kept.alloc hk0_ (Obj.cells #[Value.slice none 0 0, Value.slice none 0 0, Value.int IntKind.i64 0, Value.int IntKind.i64 0, Value.int IntKind.i64 0] 65)
  have hk2_ := Kept.alloc hk1_ (Obj.cells #[Value.int IntKind.i64 3, Value.int IntKind.i64 1, Value.bool false, Value.bool false] 59)
  have HK1 := Lib.hid hk2_
  have hb0_ := (alloc_lift (o := (Obj.cells #[Value.int IntKind.i64 3, Value.int IntKind.i64 1, Value.bool false, Value.bool false] 59)) (alloc_lift (o := (Obj.cells #[Value.slice none 0 0, Value.slice none 0 0, Value.int IntKind.i64 0, Value.int IntKind.i64 0, Value.int IntKind.i64 0] 65)) (box_block w (Obj.cells #[Value.slice none 0 0, Value.slice Am nm cm, Value.slice none 0 0] 28))))
  have x0_ := cell_of_block (i := 0) hb0_ rfl
  have x1_ := cell_of_block (i := 1) hb0_ rfl
  have x2_ := cell_of_block (i := 2) hb0_ rfl
  have hb1_ := (alloc_lift (o := (Obj.cells #[Value.int IntKind.i64 3, Value.int IntKind.i64 1, Value.bool false, Value.bool false] 59)) (box_block (w.alloc (Obj.cells #[Value.slice none 0 0, Value.slice Am nm cm, Value.slice none 0 0] 28)) (Obj.cells #[Value.slice none 0 0, Value.slice none 0 0, Value.int IntKind.i64 0, Value.int IntKind.i64 0, Value.int IntKind.i64 0] 65)))
  simp only [World.size_alloc] at hb1_
  have x3_ := cell_of_block (i := 0) hb1_ rfl
  have x4_ := cell_of_block (i := 1) hb1_ rfl
  have x5_ := cell_of_block (i := 2) hb1_ rfl
  have x6_ := cell_of_block (i := 3) hb1_ rfl
  have x7_ := cell_of_block (i := 4) hb1_ rfl
  have hb2_ := (box_block ((w.alloc (Obj.cells #[Value.slice none 0 0, Value.slice Am nm cm, Value.slice none 0 0] 28)).alloc (Obj.cells #[Value.slice none 0 0, Value.slice none 0 0, Value.int IntKind.i64 0, Value.int IntKind.i64 0, Value.int IntKind.i64 0] 65)) (Obj.cells #[Value.int IntKind.i64 3, Value.int IntKind.i64 1, Value.bool false, Value.bool false] 59))
  simp only [World.size_alloc] at hb2_
  have x8_ := cell_of_block (i := 0) hb2_ rfl
  have x9_ := cell_of_block (i := 1) hb2_ rfl
  have x10_ := cell_of_block (i := 2) hb2_ rfl
  have x11_ := cell_of_block (i := 3) hb2_ rfl
  simp only [s4_, s5_, s6_] at x0_ x1_ x2_ x3_ x4_ x5_ x6_ x7_ x8_ x9_ x10_ x11_
  have HX0 := Lib.hid x0_
  have HX1 := Lib.hid x1_
  have HX2 := Lib.hid x2_
  have HX3 := Lib.hid x3_
  have HX4 := Lib.hid x4_
  have HX5 := Lib.hid x5_
  have HX6 := Lib.hid x6_
  have HX7 := Lib.hid x7_
  have HX8 := Lib.hid x8_
  have HX9 := Lib.hid x9_
  have HX10 := Lib.hid x10_
  have HX11 := Lib.hid x11_
  have HB0 := Lib.hid hb0_
  have HB1 := Lib.hid hb1_
  have HB2 := Lib.hid hb2_
  clear x0_ x1_ x2_ x3_ x4_ x5_ x6_ x7_ x8_ x9_ x10_ x11_ hb0_ hb1_ hb2_
  have HEF := Lib.hid (fun w' => sk_eff w')
  have HEL := Lib.hid (fun w' (hk : Kept w w') => ct_elems98 Am nm cm n A c w' (hN.kept hk) (hG.kept hk) hz htx (hI.kept hk))
  have HWT := Lib.hid (sk_weights 32866 (by decide) (fun w => by kernel_rfl))
  obtain ⟨i0, hi, hz0, hz1, hz2⟩ := info_parts1 info_int
  have HI0 := Lib.hid hi
  have HZ0 := Lib.hid hz0
  have HZ1 := Lib.hid hz1
  have HZ2 := Lib.hid hz2
  clear hi hz0 hz1 hz2 hN hG hz htx hI hk0_ hk1_ hk2_
  go_enter Tryz.func20, Tryz.ntmps20
  have p0 := HX0.out
  have p1 := HX1.out
  have p2 := HX2.out
  have p3 := HX3.out
  have p4 := HX4.out
  have p5 := HX5.out
  have p6 := HX6.out
  have p7 := HX7.out
  have p8 := HX8.out
  have p9 := HX9.out
  have p10 := HX10.out
  have p11 := HX11.out
  go_wp2_with fail
  refine (HEF.out _).mono ?_
  rintro e w1 ⟨rfl, k1⟩
  clear p0 p1 p2 p3 p4 p5 p6 p7 p8 p9 p10 p11
  have KB1 := Lib.hid (Kept.trans (Kept.refl (((w.alloc (Obj.cells #[Value.slice none 0 0, Value.slice Am nm cm, Value.slice none 0 0] 28)).alloc (Obj.cells #[Value.slice none 0 0, Value.slice none 0 0, Value.int IntKind.i64 0, Value.int IntKind.i64 0, Value.int IntKind.i64 0] 65)).alloc (Obj.cells #[Value.int IntKind.i64 3, Value.int IntKind.i64 1, Value.bool false, Value.bool false] 59))) k1)
  have hc0 := (KB1.out.block _ (block_lt HB2.out)).trans HB2.out
  have f0 := frozen_of_block (i := 0) hc0
  have f1 := frozen_of_block (i := 1) hc0
  have f2 := frozen_of_block (i := 2) hc0
  have f3 := frozen_of_block (i := 3) hc0
  have hs0 := kept_same (i := 0) hc0 (v := .int .i64 3) rfl
  have hc1 := (hs0.block _ (block_lt hc0)).trans hc0
  have hs1 := kept_same (i := 1) hc1 (v := .int .i64 1) rfl
  have hc2 := (hs1.block _ (block_lt hc1)).trans hc1
  have hs2 := kept_same (i := 2) hc2 (v := .bool false) rfl
  have hc3 := (hs2.block _ (block_lt hc2)).trans hc2
  have hs3 := kept_same (i := 3) hc3 (v := .bool false) rfl
  have hks := Kept.trans (Kept.trans (Kept.trans hs0 hs1) hs2) hs3
  have HKS := Lib.hid hks
  clear hks hs0 hs1 hs2 hs3 hc0 hc1 hc2 hc3
  have p0 := Kept.cell KB1.out HX0.out
  have p1 := Kept.cell KB1.out HX1.out
  have p2 := Kept.cell KB1.out HX2.out
  have p3 := Kept.cell KB1.out HX3.out
  have p4 := Kept.cell KB1.out HX4.out
  have p5 := Kept.cell KB1.out HX5.out
  have p6 := Kept.cell KB1.out HX6.out
  have p7 := Kept.cell KB1.out HX7.out
  have p8 := Kept.cell KB1.out HX8.out
  have p9 := Kept.cell KB1.out HX9.out
  have p10 := Kept.cell KB1.out HX10.out
  have p11 := Kept.cell KB1.out HX11.out
  go_wp2_with fail
  clear f0 f1 f2 f3
  generalize hW2 : ((((w1.setCell ⟨w.heap.size + 1 + 1, 0, none⟩ (.int .i64 3)).setCell ⟨w.heap.size + 1 + 1, 1, none⟩ (.int .i64 1)).setCell ⟨w.heap.size + 1 + 1, 2, none⟩ (.bool false)).setCell ⟨w.heap.size + 1 + 1, 3, none⟩ (.bool false)) = w2 at HKS ⊢
  clear hW2
  have k2 := HKS.out
  clear p0 p1 p2 p3 p4 p5 p6 p7 p8 p9 p10 p11
  have KB2 := Lib.hid (Kept.trans KB1.out HKS.out)
  clear k2
  have p0 := Kept.cell KB2.out HX0.out
  have p1 := Kept.cell KB2.out HX1.out
  have p2 := Kept.cell KB2.out HX2.out
  have p3 := Kept.cell KB2.out HX3.out
  have p4 := Kept.cell KB2.out HX4.out
  have p5 := Kept.cell KB2.out HX5.out
  have p6 := Kept.cell KB2.out HX6.out
  have p7 := Kept.cell KB2.out HX7.out
  have p8 := Kept.cell KB2.out HX8.out
  have p9 := Kept.cell KB2.out HX9.out
  have p10 := Kept.cell KB2.out HX10.out
  have p11 := Kept.cell KB2.out HX11.out
  clear p0 p1 p2 p3 p4 p5 p6 p7 p8 p9 p10 p11
  have p0 := Kept.cell KB2.out HX0.out
  have p1 := Kept.cell KB2.out HX1.out
  have p2 := Kept.cell KB2.out HX2.out
  have p3 := Kept.cell KB2.out HX3.out
  have p4 := Kept.cell KB2.out HX4.out
  have p5 := Kept.cell KB2.out HX5.out
  have p6 := Kept.cell KB2.out HX6.out
  have p7 := Kept.cell KB2.out HX7.out
  have p8 := Kept.cell KB2.out HX8.out
  have p9 := Kept.cell KB2.out HX9.out
  have p10 := Kept.cell KB2.out HX10.out
  have p11 := Kept.cell KB2.out HX11.out
  refine wp_region_held_drew (S := (fun w' => w'.cell? ⟨w.heap.size, 0, none⟩ = some (.slice none 0 0) ∧ w'.cell? ⟨w.heap.size, 1, none⟩ = some (.slice Am nm cm) ∧ w'.cell? ⟨w.heap.size, 2, none⟩ = some (.slice none 0 0) ∧ w'.cell? ⟨w.heap.size + 1, 0, none⟩ = some (.slice none 0 0) ∧ w'.cell? ⟨w.heap.size + 1, 1, none⟩ = some (.slice none 0 0) ∧ w'.cell? ⟨w.heap.size + 1, 2, none⟩ = some (.int .i64 0) ∧ w'.cell? ⟨w.heap.size + 1, 3, none⟩ = some (.int .i64 0) ∧ w'.cell? ⟨w.heap.size + 1, 4, none⟩ = some (.int .i64 0) ∧ w'.cell? ⟨w.heap.size + 1 + 1, 0, none⟩ = some (.int .i64 3) ∧ w'.cell? ⟨w.heap.size + 1 + 1, 1, none⟩ = some (.int .i64 1) ∧ w'.cell? ⟨w.heap.size + 1 + 1, 2, none⟩ = some (.bool false) ∧ w'.cell? ⟨w.heap.size + 1 + 1, 3, none⟩ = some (.bool false))) (by kernel_rfl) ⟨p0, p1, p2, p3, p4, p5, p6, p7, p8, p9, p10, p11⟩ (fun hHeld => ?_)
  refine tk_ 0 ?_ rfl ?_; refine tk_ 1 ?_ rfl ?_; refine tk_ 2 ?_ rfl ?_; refine tk_ 4 ?_ rfl ?_; refine tk_ 7 ?_ rfl ?_
  refine rd_ 3 rfl (fun K hK => ?_)
  go_simp
  (refine (HEL.out _ (Kept.trans HK1.out (Kept.drew KB2.out))).mono ?_; rintro e w3 ⟨Q3, c3, rfl, le3, i3, k3⟩; have E3 := Lib.hid (show Sl 4 encE _ _ 2 (eltsP 32866) from i3); clear i3; have KB3 := Lib.hid (Kept.trans (Kept.drew KB2.out) k3))
  go_wp2_with fail
  refine hK.out _ _ ⟨Kept.cell KB3.out HX0.out, Kept.cell KB3.out HX1.out, Kept.cell KB3.out HX2.out, Kept.cell KB3.out HX3.out, Kept.cell KB3.out HX4.out, Kept.cell KB3.out HX5.out, Kept.cell KB3.out HX6.out, Kept.cell KB3.out HX7.out, Kept.cell KB3.out HX8.out, Kept.cell KB3.out HX9.out, Kept.cell KB3.out HX10.out, Kept.cell KB3.out HX11.out⟩ (fun hHeld => ?_)
  clear hK K
  (try simp only [Act.put, s1_, s2_, s3_, s4_, s5_, s6_])
  refine rd_ 5 rfl (fun K hK => ?_)
  go_simp
  (refine (HWT.out Q3 c3 _ E3.out).mono ?_; rintro e w4 ⟨T4, c4, rfl, le4, i4, k4⟩; have T4T := Lib.hid i4; clear i4; have KB4 := Lib.hid (Kept.trans KB3.out k4))
  go_wp2_with fail
  refine hK.out _ _ ⟨Kept.cell KB4.out HX0.out, Kept.cell KB4.out HX1.out, Kept.cell KB4.out HX2.out, Kept.cell KB4.out HX3.out, Kept.cell KB4.out HX4.out, Kept.cell KB4.out HX5.out, Kept.cell KB4.out HX6.out, Kept.cell KB4.out HX7.out, Kept.cell KB4.out HX8.out, Kept.cell KB4.out HX9.out, Kept.cell KB4.out HX10.out, Kept.cell KB4.out HX11.out⟩ (fun hHeld => ?_)
  clear hK K
  (try simp only [Act.put, s1_, s2_, s3_, s4_, s5_, s6_])
  refine tk_ 6 ?_ rfl ?_
  refine wpAnyH_done (by kernel_rfl) ?_ _
  clear p0 p1 p2 p3 p4 p5 p6 p7 p8 p9 p10 p11
  obtain ⟨b0, hb0⟩ : ∃ b0 : Nat, b0 = w4.heap.size := ⟨_, rfl⟩
  have HB4 := Lib.hid hb0
  clear hb0
  have HQ11 := Lib.hid (Kept.cell KB4.out HX11.out)
  go_wp2_with fail
  go_loopw [9, 23] (fun kv iv wr => ∃ i : Nat, i ≤ 3 ∧ iv = .int .i64 i ∧ OwnI wr b0 kv (keyL 32866 i) ∧ Kept w4 wr) (fun _ iv _ => 3 - (intOf iv).toNat)
  case atStart => exact ⟨0, by decide, rfl, (World.ownsRow_nil _ _ _ _ : OwnI w4 b0 (.slice none 0 0) []), Kept.refl _⟩
  case round =>
    obtain ⟨i, hi, hiv, hown, hkw⟩ := hrel
    have KW := Lib.hid hkw
    have hsz : w4.heap.size ≤ wr.heap.size := hkw.size
    clear hkw
    rcases (show i = 0 ∨ i = 1 ∨ i = 2 ∨ i = 3 by omega) with he | he | he | he
    · subst he
      have hiv2 : _ = Value.int .i64 0 := hiv
      clear hiv
      subst hiv2
      have HO := Lib.hid (show OwnI wr b0 _ [] from hown)
      clear hown
      obtain ⟨b, off, A', k', c', xs, rfl, hx, cx, hle', hI'⟩ := tab_at T4T.out (i := 0) (by decide)
      obtain rfl := Option.some.inj (show some [64448, 32866] = some xs from hx)
      obtain rfl : k' = 2 := hI'.1
      have cx := Kept.cell KW.out cx
      rw [Nat.add_zero] at cx
      have HX := Lib.hid hI'
      clear hI' hx
      go_wp2_with (at_builtin; refine app_ints rfl _ _ rfl b0 _ _ rfl HO.out _ _ _ [64448, 32866] rfl (HX.out.kept KW.out) (by simp) (by have := KW.out.size; have := HB4.out; omega) ?_; intro v3 w6 hown3 hgrow3 hat3)
      have K6 := Lib.hid (show Kept w4 w6 from (KW.out).grown hgrow3 KW.out.size (fun q e => by have := (World.ownsRow.lt HO.out q e).1; have := HB4.out; omega))
      have HO3 := Lib.hid (show OwnI w6 b0 v3 [64448, 32866] from hown3)
      clear hown3 hgrow3 hat3
      go_roundw
      case rel => exact ⟨1, by decide, rfl, HO3.out, K6.out⟩
      case measure => simp [intOf]
    · subst he
      have hiv2 : _ = Value.int .i64 1 := hiv
      clear hiv
      subst hiv2
      have HO := Lib.hid (show OwnI wr b0 _ [64448, 32866] from hown)
      clear hown
      obtain ⟨b, off, A', k', c', xs, rfl, hx, cx, hle', hI'⟩ := tab_at T4T.out (i := 1) (by decide)
      obtain rfl := Option.some.inj (show some [32] = some xs from hx)
      obtain rfl : k' = 1 := hI'.1
      have cx := Kept.cell KW.out cx
      have HX := Lib.hid hI'
      clear hI' hx
      go_wp2_with (first | (at_builtin; refine app_ints rfl _ _ rfl b0 _ _ rfl HO1.out _ _ _ [32] rfl (HX.out.kept K5.out) (by simp) (by have := K5.out.size; have := HB4.out; omega) ?_; intro v3 w6 hown3 hgrow3 hat3) | (at_builtin; refine wpList_append_own _ rfl _ _ 32 rfl b0 3 i0 (.int .i64 0) 1 8 Tryz.underlying32 HI0.out HZ0.out HZ1.out HZ2.out rfl (by decide) _ _ _ rfl (World.ownsRow.alloc HO.out _) ⟨wr.heap.size, 0, none⟩ 1 1 [.int .i64 0] rfl rfl (cell_one_at rfl) (by simp [Value.oneCell']) (by simp [maxLen]) (by simp) (by have := HB4.out; simp; omega) ?_; intro v1 w5 hown1 hg1 _; have HO1 := Lib.hid (show OwnI w5 b0 v1 [64448, 32866, 0] by have := hown1; simpa [OwnI] using this); have K5 := Lib.hid (show Kept w4 w5 from (Kept.alloc KW.out (Obj.cells #[Value.int IntKind.i64 0] 3)).grown hg1 (by simp; omega) (fun q e => by have := (World.ownsRow.lt HO.out q e).1; have := HB4.out; omega)); clear hown1 hg1))
      have K6 := Lib.hid (show Kept w4 w6 from (K5.out).grown hgrow3 K5.out.size (fun q e => by have := (World.ownsRow.lt HO1.out q e).1; have := HB4.out; omega))
      have HO3 := Lib.hid (show OwnI w6 b0 v3 [64448, 32866, 0, 32] from hown3)
      clear hown3 hgrow3 hat3
      go_roundw
      case rel => exact ⟨2, by decide, rfl, HO3.out, K6.out⟩
      case measure => simp [intOf]
    · subst he
      have hiv2 : _ = Value.int .i64 2 := hiv
      clear hiv
      subst hiv2
      have HO := Lib.hid (show OwnI wr b0 _ [64448, 32866, 0, 32] from hown)
      clear hown
      obtain ⟨b, off, A', k', c', xs, rfl, hx, cx, hle', hI'⟩ := tab_at T4T.out (i := 2) (by decide)
      obtain rfl := Option.some.inj (show some [2] = some xs from hx)
      obtain rfl : k' = 1 := hI'.1
      have cx := Kept.cell KW.out cx
      have HX := Lib.hid hI'
      clear hI' hx
      go_wp2_with (first | (at_builtin; refine app_ints rfl _ _ rfl b0 _ _ rfl HO1.out _ _ _ [2] rfl (HX.out.kept K5.out) (by simp) (by have := K5.out.size; have := HB4.out; omega) ?_; intro v3 w6 hown3 hgrow3 hat3) | (at_builtin; refine wpList_append_own _ rfl _ _ 32 rfl b0 3 i0 (.int .i64 0) 1 8 Tryz.underlying32 HI0.out HZ0.out HZ1.out HZ2.out rfl (by decide) _ _ _ rfl (World.ownsRow.alloc HO.out _) ⟨wr.heap.size, 0, none⟩ 1 1 [.int .i64 0] rfl rfl (cell_one_at rfl) (by simp [Value.oneCell']) (by simp [maxLen]) (by simp) (by have := HB4.out; simp; omega) ?_; intro v1 w5 hown1 hg1 _; have HO1 := Lib.hid (show OwnI w5 b0 v1 [64448, 32866, 0, 32, 0] by have := hown1; simpa [OwnI] using this); have K5 := Lib.hid (show Kept w4 w5 from (Kept.alloc KW.out (Obj.cells #[Value.int IntKind.i64 0] 3)).grown hg1 (by simp; omega) (fun q e => by have := (World.ownsRow.lt HO.out q e).1; have := HB4.out; omega)); clear hown1 hg1))
      have K6 := Lib.hid (show Kept w4 w6 from (K5.out).grown hgrow3 K5.out.size (fun q e => by have := (World.ownsRow.lt HO1.out q e).1; have := HB4.out; omega))
      have HO3 := Lib.hid (show OwnI w6 b0 v3 [64448, 32866, 0, 32, 0, 2] from hown3)
      clear hown3 hgrow3 hat3
      go_roundw
      case rel => exact ⟨3, by decide, rfl, HO3.out, K6.out⟩
      case measure => simp [intOf]
    · subst he
      have hiv2 : _ = Value.int .i64 3 := hiv
      clear hiv
      subst hiv2
      obtain ⟨A9, c9, rfl, hle9, hI9⟩ := OwnI.sl (show OwnI wr b0 _ [64448, 32866, 0, 32, 0, 2] from hown)
      have q11 := Kept.cell KW.out HQ11.out
      have HI9 := Lib.hid hI9
      clear hI9 hown
      go_wp2_with fail
      go_ret
      exact ⟨A9, 6, c9, rfl, hle9, HI9.out, Kept.trans (Kept.trans HK1.out KB4.out) KW.out⟩
end Go.Proofs.YtckgmkjoblneeaaGreatDoor
namespace Go.Proofs.YtckgmkjoblneeaaGreatDoor
open Go Go.RowKit
set_option maxRecDepth 100000 in
set_option maxHeartbeats 4000000 in
theorem col_cmp (Am : Option Addr) (nm cm : Nat) (n : Nrm) (A : Option Addr) (ca : Nat) (B : Option Addr) (cb : Nat) (w : World) (hN : NormAt w ⟨none, 0, 0, Am, nm, cm, none, 0, 0⟩ n) (hG : Glob w) (hz : decCheck n = 0) (h97 : textOf n false [97] = [97]) (h98 : textOf n false [98] = [98]) (hI : Ints w A 1 [97]) (hJ : Ints w B 1 [98]) : Calls Tryz.prog 19 #[.agg #[.slice none 0 0, .slice Am nm cm, .slice none 0 0], .agg #[.slice none 0 0, .slice none 0 0, .int .i64 0, .int .i64 0, .int .i64 0], .agg #[.int .i64 3, .int .i64 1, .bool false, .bool false], .slice A 1 ca, .slice B 1 cb] w (RetI w (-1)) := by
  have hk0_ := Kept.alloc (Kept.refl w) (Obj.cells #[Value.slice none 0 0, Value.slice Am nm cm, Value.slice none 0 0] 28)
  have hk1_ := Kept.alloc hk0_ (Obj.cells #[Value.slice none 0 0, Value.slice none 0 0, Value.int IntKind.i64 0, Value.int IntKind.i64 0, Value.int IntKind.i64 0] 65)
  have hk2_ := Kept.alloc hk1_ (Obj.cells #[Value.int IntKind.i64 3, Value.int IntKind.i64 1, Value.bool false, Value.bool false] 59)
  have HK1 := Lib.hid hk2_
  have hb0_ := (alloc_lift (o := (Obj.cells #[Value.int IntKind.i64 3, Value.int IntKind.i64 1, Value.bool false, Value.bool false] 59)) (alloc_lift (o := (Obj.cells #[Value.slice none 0 0, Value.slice none 0 0, Value.int IntKind.i64 0, Value.int IntKind.i64 0, Value.int IntKind.i64 0] 65)) (box_block w (Obj.cells #[Value.slice none 0 0, Value.slice Am nm cm, Value.slice none 0 0] 28))))
  have x0_ := cell_of_block (i := 0) hb0_ rfl
  have x1_ := cell_of_block (i := 1) hb0_ rfl
  have x2_ := cell_of_block (i := 2) hb0_ rfl
  have hb1_ := (alloc_lift (o := (Obj.cells #[Value.int IntKind.i64 3, Value.int IntKind.i64 1, Value.bool false, Value.bool false] 59)) (box_block (w.alloc (Obj.cells #[Value.slice none 0 0, Value.slice Am nm cm, Value.slice none 0 0] 28)) (Obj.cells #[Value.slice none 0 0, Value.slice none 0 0, Value.int IntKind.i64 0, Value.int IntKind.i64 0, Value.int IntKind.i64 0] 65)))
  simp only [World.size_alloc] at hb1_
  have x3_ := cell_of_block (i := 0) hb1_ rfl
  have x4_ := cell_of_block (i := 1) hb1_ rfl
  have x5_ := cell_of_block (i := 2) hb1_ rfl
  have x6_ := cell_of_block (i := 3) hb1_ rfl
  have x7_ := cell_of_block (i := 4) hb1_ rfl
  have hb2_ := (box_block ((w.alloc (Obj.cells #[Value.slice none 0 0, Value.slice Am nm cm, Value.slice none 0 0] 28)).alloc (Obj.cells #[Value.slice none 0 0, Value.slice none 0 0, Value.int IntKind.i64 0, Value.int IntKind.i64 0, Value.int IntKind.i64 0] 65)) (Obj.cells #[Value.int IntKind.i64 3, Value.int IntKind.i64 1, Value.bool false, Value.bool false] 59))
  simp only [World.size_alloc] at hb2_
  have x8_ := cell_of_block (i := 0) hb2_ rfl
  have x9_ := cell_of_block (i := 1) hb2_ rfl
  have x10_ := cell_of_block (i := 2) hb2_ rfl
  have x11_ := cell_of_block (i := 3) hb2_ rfl
  simp only [s4_, s5_, s6_] at x0_ x1_ x2_ x3_ x4_ x5_ x6_ x7_ x8_ x9_ x10_ x11_
  have HX0 := Lib.hid x0_
  have HX1 := Lib.hid x1_
  have HX2 := Lib.hid x2_
  have HX3 := Lib.hid x3_
  have HX4 := Lib.hid x4_
  have HX5 := Lib.hid x5_
  have HX6 := Lib.hid x6_
  have HX7 := Lib.hid x7_
  have HX8 := Lib.hid x8_
  have HX9 := Lib.hid x9_
  have HX10 := Lib.hid x10_
  have HX11 := Lib.hid x11_
  have HB0 := Lib.hid hb0_
  have HB1 := Lib.hid hb1_
  have HB2 := Lib.hid hb2_
  clear x0_ x1_ x2_ x3_ x4_ x5_ x6_ x7_ x8_ x9_ x10_ x11_ hb0_ hb1_ hb2_
  have HA := Lib.hid (fun w' (hk : Kept w w') => sk_key97 Am nm cm n A ca w' (hN.kept hk) (hG.kept hk) hz h97 (hI.kept hk))
  have HB := Lib.hid (fun w' (hk : Kept w w') => sk_key98 Am nm cm n B cb w' (hN.kept hk) (hG.kept hk) hz h98 (hJ.kept hk))
  have HC := Lib.hid (fun (A B : Option Addr) (c d : Nat) (w : World) (hx : Ints w A 6 [64448, 32865, 0, 32, 0, 2]) (hy : Ints w B 6 [64448, 32866, 0, 32, 0, 2]) => cpCompare A B 6 6 c d _ _ w (by omega) (by omega) hx hy)
  rw [show cmpL [64448, 32865, 0, 32, 0, 2] [64448, 32866, 0, 32, 0, 2] = -1 by decide +kernel] at HC
  clear hN hG hz h97 h98 hI hJ hk0_ hk1_ hk2_
  go_enter Tryz.func19, Tryz.ntmps19
  have p0 := HX0.out
  have p1 := HX1.out
  have p2 := HX2.out
  have p3 := HX3.out
  have p4 := HX4.out
  have p5 := HX5.out
  have p6 := HX6.out
  have p7 := HX7.out
  have p8 := HX8.out
  have p9 := HX9.out
  have p10 := HX10.out
  have p11 := HX11.out
  go_wp2_with fail
  refine wp_region_held_drew (S := (fun w' => w'.cell? ⟨w.heap.size, 0, none⟩ = some (.slice none 0 0) ∧ w'.cell? ⟨w.heap.size, 1, none⟩ = some (.slice Am nm cm) ∧ w'.cell? ⟨w.heap.size, 2, none⟩ = some (.slice none 0 0) ∧ w'.cell? ⟨w.heap.size + 1, 0, none⟩ = some (.slice none 0 0) ∧ w'.cell? ⟨w.heap.size + 1, 1, none⟩ = some (.slice none 0 0) ∧ w'.cell? ⟨w.heap.size + 1, 2, none⟩ = some (.int .i64 0) ∧ w'.cell? ⟨w.heap.size + 1, 3, none⟩ = some (.int .i64 0) ∧ w'.cell? ⟨w.heap.size + 1, 4, none⟩ = some (.int .i64 0) ∧ w'.cell? ⟨w.heap.size + 1 + 1, 0, none⟩ = some (.int .i64 3) ∧ w'.cell? ⟨w.heap.size + 1 + 1, 1, none⟩ = some (.int .i64 1) ∧ w'.cell? ⟨w.heap.size + 1 + 1, 2, none⟩ = some (.bool false) ∧ w'.cell? ⟨w.heap.size + 1 + 1, 3, none⟩ = some (.bool false))) (by kernel_rfl) ⟨p0, p1, p2, p3, p4, p5, p6, p7, p8, p9, p10, p11⟩ (fun hHeld => ?_)
  refine tk_ 0 ?_ rfl ?_; refine tk_ 1 ?_ rfl ?_; refine tk_ 2 ?_ rfl ?_; refine tk_ 3 ?_ rfl ?_; refine tk_ 5 ?_ rfl ?_; refine tk_ 6 ?_ rfl ?_; refine tk_ 7 ?_ rfl ?_; refine tk_ 8 ?_ rfl ?_
  refine rd_ 4 rfl (fun K hK => ?_)
  go_simp
  (refine (HA.out _ (Kept.trans HK1.out (Kept.drew (Kept.refl (((w.alloc (Obj.cells #[Value.slice none 0 0, Value.slice Am nm cm, Value.slice none 0 0] 28)).alloc (Obj.cells #[Value.slice none 0 0, Value.slice none 0 0, Value.int IntKind.i64 0, Value.int IntKind.i64 0, Value.int IntKind.i64 0] 65)).alloc (Obj.cells #[Value.int IntKind.i64 3, Value.int IntKind.i64 1, Value.bool false, Value.bool false] 59)))))).mono ?_; rintro e w1 ⟨A1, n1, c1, rfl, le1, i1, k1⟩; obtain rfl : n1 = 6 := i1.1; have I1 := Lib.hid i1; clear i1; have KB1 := Lib.hid (Kept.trans (Kept.drew (Kept.refl (((w.alloc (Obj.cells #[Value.slice none 0 0, Value.slice Am nm cm, Value.slice none 0 0] 28)).alloc (Obj.cells #[Value.slice none 0 0, Value.slice none 0 0, Value.int IntKind.i64 0, Value.int IntKind.i64 0, Value.int IntKind.i64 0] 65)).alloc (Obj.cells #[Value.int IntKind.i64 3, Value.int IntKind.i64 1, Value.bool false, Value.bool false] 59)))) k1))
  go_wp2_with fail
  refine hK.out _ _ ⟨Kept.cell KB1.out HX0.out, Kept.cell KB1.out HX1.out, Kept.cell KB1.out HX2.out, Kept.cell KB1.out HX3.out, Kept.cell KB1.out HX4.out, Kept.cell KB1.out HX5.out, Kept.cell KB1.out HX6.out, Kept.cell KB1.out HX7.out, Kept.cell KB1.out HX8.out, Kept.cell KB1.out HX9.out, Kept.cell KB1.out HX10.out, Kept.cell KB1.out HX11.out⟩ (fun hHeld => ?_)
  clear hK K
  (try simp only [Act.put, s1_, s2_, s3_, s4_, s5_, s6_])
  refine rd_ 9 rfl (fun K hK => ?_)
  go_simp
  (refine (HB.out _ (Kept.trans HK1.out KB1.out)).mono ?_; rintro e w2 ⟨A2, n2, c2, rfl, le2, i2, k2⟩; obtain rfl : n2 = 6 := i2.1; have I2 := Lib.hid i2; clear i2; have KB2 := Lib.hid (Kept.trans KB1.out k2))
  go_wp2_with fail
  refine hK.out _ _ ⟨Kept.cell KB2.out HX0.out, Kept.cell KB2.out HX1.out, Kept.cell KB2.out HX2.out, Kept.cell KB2.out HX3.out, Kept.cell KB2.out HX4.out, Kept.cell KB2.out HX5.out, Kept.cell KB2.out HX6.out, Kept.cell KB2.out HX7.out, Kept.cell KB2.out HX8.out, Kept.cell KB2.out HX9.out, Kept.cell KB2.out HX10.out, Kept.cell KB2.out HX11.out⟩ (fun hHeld => ?_)
  clear hK K
  (try simp only [Act.put, s1_, s2_, s3_, s4_, s5_, s6_])
  refine rd_ 10 rfl (fun K hK => ?_)
  go_simp
  (refine (HC.out A1 A2 c1 c2 _ (I1.out.kept k2) I2.out).mono ?_; rintro e w3 ⟨rfl, k3⟩; have KB3 := Lib.hid (Kept.trans KB2.out k3))
  go_wp2_with fail
  refine hK.out _ _ ⟨Kept.cell KB3.out HX0.out, Kept.cell KB3.out HX1.out, Kept.cell KB3.out HX2.out, Kept.cell KB3.out HX3.out, Kept.cell KB3.out HX4.out, Kept.cell KB3.out HX5.out, Kept.cell KB3.out HX6.out, Kept.cell KB3.out HX7.out, Kept.cell KB3.out HX8.out, Kept.cell KB3.out HX9.out, Kept.cell KB3.out HX10.out, Kept.cell KB3.out HX11.out⟩ (fun hHeld => ?_)
  clear hK K
  (try simp only [Act.put, s1_, s2_, s3_, s4_, s5_, s6_])
  refine tk_ 11 ?_ rfl ?_
  refine wpAnyH_done (by kernel_rfl) ?_ _
  clear p0 p1 p2 p3 p4 p5 p6 p7 p8 p9 p10 p11
  go_wp2_with fail
  go_ret
  exact ⟨rfl, (Kept.trans HK1.out KB3.out)⟩
end Go.Proofs.YtckgmkjoblneeaaGreatDoor
