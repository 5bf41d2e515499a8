/- cpset.Nth of the first element. -/
import Derived.Test.YtmlcdohldkgcdaaGreatDoorKSq
import Derived.Test.YtmlcdohldkgcdaaGreatDoorKRefAK
import Derived.Test.YtmlcdohldkgcdaaGreatDoorKPl58
namespace Go.Proofs.YtmlcdohldkgcdaaGreatDoor
open Go Go.RowKit Go.Shelf
attribute [local go_sem] Oper.semAt_some
structure OneC (b : Nat) (W : World) : Prop where
  h3 : ∃ v, W.heap[b + 1]? = some (.cells #[v] 3 (0, 0))
  h4 : ∃ v, W.heap[b + 1 + 1]? = some (.cells #[v] 3 (0, 0))
  h5 : ∃ v, W.heap[b + 1 + 1 + 1]? = some (.cells #[v] 4 (0, 0))
theorem OneC.kept {b : Nat} {A B : World} (h : OneC b A) (hk : Kept A B) : OneC b B := by
  obtain ⟨⟨v3, h3⟩, ⟨v4, h4⟩, ⟨v5, h5⟩⟩ := h
  exact ⟨⟨v3, (hk.block _ (block_lt h3)).trans h3⟩, ⟨v4, (hk.block _ (block_lt h4)).trans h4⟩, ⟨v5, (hk.block _ (block_lt h5)).trans h5⟩⟩
def KpN (b : Nat) (A B : World) : Prop := OneC b A → (OneC b B ∧ ∀ (i : Nat) (cs : Array Value) (t : TypeId) (f : Nat × Nat), i ≠ b + 1 → i ≠ b + 1 + 1 → i ≠ b + 1 + 1 + 1 → A.heap[i]? = some (Obj.cells cs t f) → B.heap[i]? = some (Obj.cells cs t f))
theorem KpN.t {b : Nat} {A B C : World} (h : KpN b A B) (k : KpN b B C) : KpN b A C := fun hA => ⟨(k (h hA).1).1, fun i cs t f h1 h2 h3 hi => (k (h hA).1).2 i cs t f h1 h2 h3 ((h hA).2 i cs t f h1 h2 h3 hi)⟩
theorem kpN_b {b : Nat} (W : World) (l : Nat) (o o' : Obj) (h : W.heap[l]? = some o) (hc : o.isCells = false) : KpN b W (W.putObj l o') := by
  have key : ∀ (i : Nat) (cs : Array Value) (t : TypeId) (f : Nat × Nat), W.heap[i]? = some (Obj.cells cs t f) → (W.putObj l o').heap[i]? = some (Obj.cells cs t f) := fun i cs t f hx => by
    by_cases hk : i = l
    · subst hk
      rw [h] at hx
      injection hx with hx
      subst hx
      cases hc
    · rw [← hx]
      simp only [World.putObj]
      rw [Array.getElem?_setIfInBounds, if_neg (fun e => hk e.symm)]
  intro hO
  obtain ⟨⟨v3, h3⟩, ⟨v4, h4⟩, ⟨v5, h5⟩⟩ := hO
  exact ⟨⟨⟨v3, key _ _ _ _ h3⟩, ⟨v4, key _ _ _ _ h4⟩, ⟨v5, key _ _ _ _ h5⟩⟩, fun i cs t f _ _ _ hi => key i cs t f hi⟩
theorem kpN_r {b : Nat} {A B : World} (hO : OneC b A) (h : KpN b A B) : OneC b B ∧ ∀ X m L, Rngs A X m L → Rngs B X m L := by
  obtain ⟨hB, hc⟩ := h hO
  obtain ⟨⟨v3, h3⟩, ⟨v4, h4⟩, ⟨v5, h5⟩⟩ := hO
  exact ⟨hB, fun X m L hR => sl_cells hR (fun p hp h0 cs t f hx => hc p.block cs t f (rngs_one hR h3 p hp h0) (rngs_one hR h4 p hp h0) (rngs_one hR h5 p hp h0) hx)⟩
theorem cells_grown {A B : World} {row : Option Nat} {b Bn : Nat} {cs : Array Value} {t : TypeId} {f : Nat × Nat} (h : A.heap[b]? = some (.cells cs t f)) (hg : A.grownBy B row) (hr : ∀ r, row = some r → Bn ≤ r ∧ ∃ o : Obj, A.heap[r]? = some o ∧ o.isCells = false) : B.heap[b]? = some (.cells cs t f) :=
  (hg.block b (block_lt h) (fun e => by obtain ⟨_, o, ho, hc⟩ := hr b e.symm; rw [h] at ho; cases ho; cases hc)).trans h
theorem set_other {W : World} {b d i : Nat} {v : Value} {cs : Array Value} {t : TypeId} {f : Nat × Nat} (h : W.heap[b]? = some (.cells cs t f)) (hne : b ≠ d) : (W.setCell ⟨d, i, none⟩ v).heap[b]? = some (.cells cs t f) := (Below.heap_setCell W ⟨d, i, none⟩ v b hne).trans h
theorem put_other {W : World} {b D : Nat} {o' : Obj} {cs : Array Value} {t : TypeId} {f : Nat × Nat} (h : W.heap[b]? = some (.cells cs t f)) (hD : W.heap[D]? = some (.deferred (some []))) : (W.putObj D o').heap[b]? = some (.cells cs t f) := by
  have hne : b ≠ D := fun e => by rw [e, hD] at h; cases h
  rw [← h]
  simp only [World.putObj]
  rw [Array.getElem?_setIfInBounds, if_neg (fun e => hne e.symm)]
theorem canon_bounds {L : List Rng} (h : Canon L) {x : Rng} (hx : x ∈ L) : 0 ≤ x.lo ∧ x.lo ≤ x.hi ∧ x.hi ≤ 1114111 := h.1 x hx
set_option maxRecDepth 100000 in
set_option maxHeartbeats 4000000 in
theorem nth_any (As : Option Addr) (m c : Nat) (R : List Rng) (w : World) (hm : m ≤ 100000) (hR : Rngs w As m R) :
    Calls Tryz.prog 30 #[.agg #[.slice As m c], .int .i64 0] w (fun e w' => ((∃ x t, makeR R = x :: t ∧ e = .returned (.tuple #[.int .i64 x.lo, .bool true])) ∨ (makeR R = [] ∧ e = .returned (.tuple #[.int .i64 0, .bool false]))) ∧ Kept w w') := by
  refine (callsIn_wide (n := 5)).1 ?_
  have HR := Lib.hid hR
  have HCAN := Lib.hid (makeR_spec R).1
  have HNL := Lib.hid (makeR_length R)
  clear hR
  refine callsIn_of_wp_marks Tryz.func30 rfl trivial ?_ rfl
  simp only [Tryz.ntmps30, List.size_toArray, List.length_cons, List.length_nil, Nat.reduceAdd, Nat.reduceSub, Array.replicate_succ, Array.replicate_zero, List.push_toArray, List.append_toArray, List.nil_append, List.cons_append]
  have HA := Lib.hid (fun w' => all_any As m c w')
  gi_wp2_with (refine ⟨trivial, ?_⟩; gi_at_call 57; refine (callsIn_wide.2 (HA.out _)).mono ?_; rintro e w' ⟨rfl, rfl⟩)
  have hk1 : Kept w ((((w.alloc (Obj.cells #[Value.slice As m c] 26)).alloc (Obj.cells #[Value.int .i64 0] 3)).alloc (Obj.cells #[Value.int .i64 0] 3)).alloc (Obj.cells #[Value.bool false] 4)) := Kept.alloc (Kept.alloc (Kept.alloc (Kept.alloc (Kept.refl w) _) _) _) _
  have e3 : ((((w.alloc (Obj.cells #[Value.slice As m c] 26)).alloc (Obj.cells #[Value.int .i64 0] 3)).alloc (Obj.cells #[Value.int .i64 0] 3)).alloc (Obj.cells #[Value.bool false] 4)).heap[w.heap.size + 1]? = some (Obj.cells #[Value.int .i64 0] 3 (0, 0)) := alloc_lift (alloc_lift (alloc_at (by simp)))
  have e4 : ((((w.alloc (Obj.cells #[Value.slice As m c] 26)).alloc (Obj.cells #[Value.int .i64 0] 3)).alloc (Obj.cells #[Value.int .i64 0] 3)).alloc (Obj.cells #[Value.bool false] 4)).heap[w.heap.size + 1 + 1]? = some (Obj.cells #[Value.int .i64 0] 3 (0, 0)) := alloc_lift (alloc_at (by simp))
  have e5 : ((((w.alloc (Obj.cells #[Value.slice As m c] 26)).alloc (Obj.cells #[Value.int .i64 0] 3)).alloc (Obj.cells #[Value.int .i64 0] 3)).alloc (Obj.cells #[Value.bool false] 4)).heap[w.heap.size + 1 + 1 + 1]? = some (Obj.cells #[Value.bool false] 4 (0, 0)) := alloc_at (by simp)
  have hsz : ((((w.alloc (Obj.cells #[Value.slice As m c] 26)).alloc (Obj.cells #[Value.int .i64 0] 3)).alloc (Obj.cells #[Value.int .i64 0] 3)).alloc (Obj.cells #[Value.bool false] 4)).heap.size = w.heap.size + 1 + 1 + 1 + 1 := by simp
  generalize (((w.alloc (Obj.cells #[Value.slice As m c] 26)).alloc (Obj.cells #[Value.int .i64 0] 3)).alloc (Obj.cells #[Value.int .i64 0] 3)).alloc (Obj.cells #[Value.bool false] 4) = W1 at *
  have hkb := Kept.alloc (Kept.refl W1) (Obj.cells #[Value.slice As m c] 26)
  have b1 := box_cell W1 #[.slice As m c] 26 0
  have hsz2 : (W1.alloc (Obj.cells #[Value.slice As m c] 26)).heap.size = w.heap.size + 1 + 1 + 1 + 1 + 1 := by simp [hsz]
  have HOne := Lib.hid (show OneC w.heap.size (W1.alloc (Obj.cells #[Value.slice As m c] 26)) from ⟨⟨_, alloc_lift e3⟩, ⟨_, alloc_lift e4⟩, ⟨_, alloc_lift e5⟩⟩)
  have hRA := HR.out.kept (Kept.trans hk1 hkb)
  have HKW := Lib.hid (Kept.trans hk1 hkb)
  rw [hsz] at b1
  have f3 := alloc_lift (o := Obj.cells #[Value.slice As m c] 26) e3
  have f4 := alloc_lift (o := Obj.cells #[Value.slice As m c] 26) e4
  have f5 := alloc_lift (o := Obj.cells #[Value.slice As m c] 26) e5
  clear hk1 e3 e4 e5 hsz hkb HA
  generalize W1.alloc (Obj.cells #[Value.slice As m c] 26) = W2 at *
  refine wpIn_rangeFunc_ownH (F := Fence.wide) (n := 5) rfl (by omega) (gf := 82) (lb := #[.pointer (some ⟨w.heap.size + 1 + 1 + 1 + 1, 0, none⟩)]) rfl trivial (enters_of Tryz.func82 (by kernel_rfl) rfl)
    (encs := encsR) (Kp := KpN w.heap.size) (S := fun ys => ys = makeR R) (Sp := fun pre => pre <+: makeR R) (N := (makeR R).length) (w0 := W2)
    (fun l J Jx W hW hJ hJx hY h0 => all1_in (5 - 1) (by omega) (KpN w.heap.size) (OneC w.heap.size) (fun A B h hk => h.kept hk) (fun A B h hk => kpN_r h hk) l _ As m c R hm J Jx _ hJ (fun pre x W' h1 h2 => hY pre x W' h1 (by obtain ⟨t, ht⟩ := h2; rw [ht]; simp)) W (Kept.cell hW b1) (hRA.kept hW) (HOne.out.kept hW) h0)
    KpN.t (fun W l o o' _ h hc _ => kpN_b W l o o' h hc) (Below.refl _ _) (fun _ => rfl)
    (fun pre W => (∃ iv : Int, W.heap[w.heap.size + 1]? = some (.cells #[.int .i64 iv] 3 (0, 0)) ∧ W.heap[w.heap.size + 1 + 1]? = some (.cells #[.int .i64 0] 3 (0, 0)) ∧ W.heap[w.heap.size + 1 + 1 + 1]? = some (.cells #[.bool false] 4 (0, 0)) ∧ (pre <+: makeR R → pre = [] ∧ iv = 0)) ∧ Below w.heap.size w W)
    (fun c pre W => (c = .ret ∧ ∃ v : Int, W.heap[w.heap.size + 1 + 1]? = some (.cells #[.int .i64 v] 3 (0, 0)) ∧ W.heap[w.heap.size + 1 + 1 + 1]? = some (.cells #[.bool true] 4 (0, 0)) ∧ (pre <+: makeR R → ∃ x t, makeR R = x :: t ∧ v = x.lo)) ∧ Below w.heap.size w W)
    (OwnFrom.and (fun s A B row hs hg hr => by obtain ⟨iv, h3, h4, h5, hp⟩ := hs; exact ⟨iv, cells_grown h3 hg hr, cells_grown h4 hg hr, cells_grown h5 hg hr, hp⟩) (ownFrom_below (Nat.le_refl _) (by omega)))
    (fun c => OwnFrom.and (fun s A B row hs hg hr => by obtain ⟨hc, v, h4, h5, hp⟩ := hs; exact ⟨hc, v, cells_grown h4 hg hr, cells_grown h5 hg hr, hp⟩) (ownFrom_below (Nat.le_refl _) (by omega)))
    ⟨⟨0, f3, f4, f5, fun _ => ⟨rfl, rfl⟩⟩, HKW.out⟩
    (fun x a' W => ∃ Bx, w.heap.size + 1 + 1 + 1 < Bx ∧ W.heap[Bx]? = some (.cells #[.int .i64 x.lo, .int .i64 x.hi] 48 (0, 0)) ∧ a' = { tmps := #[.agg #[.slice As m c], .int .i64 0, .pointer (some ⟨w.heap.size, 0, none⟩), .pointer (some ⟨w.heap.size + 1, 0, none⟩), .pointer (some ⟨w.heap.size + 1 + 1, 0, none⟩), .pointer (some ⟨w.heap.size + 1 + 1 + 1, 0, none⟩), .pointer (some ⟨Bx, 0, none⟩), undef, .int .i64 0, .bool false, .agg #[.slice As m c], .func (.func 82) #[] #[.pointer (some ⟨w.heap.size + 1 + 1 + 1 + 1, 0, none⟩)], .agg #[.int .i64 x.lo, .int .i64 x.hi], undef, undef, undef, undef, undef, undef, undef, undef, undef, undef, undef, undef, undef, undef, undef, undef], defers := [] })
    (fun x a' _ X Y row hs hg hr => by obtain ⟨Bx, h1, h2, h3⟩ := hs; exact ⟨Bx, h1, cells_grown h2 hg hr, h3⟩)
    ?assign ?body ?done ?stop
  case assign =>
    rintro l pre x W K ⟨⟨iv, h3, h4, h5, hp⟩, hB⟩ hK
    dsimp only [encsR]
    have hWs : w.heap.size + 1 + 1 + 1 < W.heap.size := block_lt h5
    gi_wp2
    refine hK _ _ ((KeepsOthers.alloc _ _).from _) ?_ ⟨⟨iv, alloc_lift h3, alloc_lift h4, alloc_lift h5, hp⟩, hB.alloc hB.size _⟩ ⟨W.heap.size, hWs, heap_alloc_new W _, rfl⟩
    exact fun hO => ⟨hO.kept (Kept.alloc (Kept.refl W) _), fun i cs t f _ _ _ hi => alloc_lift hi⟩
  case body =>
    rintro l pre x a' W hl _ ⟨⟨iv, h3, h4, h5, hp⟩, hB⟩ ⟨Bx, hBx, hX, rfl⟩ hlt
    have HP := Lib.hid hp
    have HBW := Lib.hid hB
    have H3 := Lib.hid h3
    have H4 := Lib.hid h4
    have H5 := Lib.hid h5
    have c3 := cell_of_block (i := 0) h3 rfl
    have c4 := cell_of_block (i := 0) h4 rfl
    have c5 := cell_of_block (i := 0) h5 rfl
    have g3 := frozen_of_block (i := 0) h3
    have g4 := frozen_of_block (i := 0) h4
    have g5 := frozen_of_block (i := 0) h5
    have x0 := cell_of_block (i := 0) hX rfl
    have x1 := cell_of_block (i := 1) hX rfl
    simp only [s4_, s5_, s6_] at c3 c4 c5 x0 x1
    clear hp hB h3 h4 h5 hX
    have hne1 : w.heap.size + 1 + 1 + 1 ≠ w.heap.size + 1 + 1 := by omega
    have hne2 : w.heap.size + 1 + 1 ≠ w.heap.size + 1 + 1 + 1 := by omega
    by_cases hx : pre ++ [x] <+: makeR R
    · obtain ⟨hp0, hiv⟩ := HP.out ((List.prefix_append pre [x]).trans hx)
      subst hp0 hiv
      obtain ⟨t, ht⟩ : ∃ t, makeR R = x :: t := by obtain ⟨t, ht⟩ := hx; exact ⟨t, by simpa using ht.symm⟩
      obtain ⟨hb1, hb2, hb3⟩ := canon_bounds HCAN.out (show x ∈ makeR R by rw [ht]; exact List.mem_cons_self ..)
      have HT := Lib.hid ht
      have hw1 : IntKind.i64.wrap (x.hi - x.lo) = x.hi - x.lo := IntWalk.i64_in _ (by omega)
      have hw2 : wrap64 (x.hi - x.lo) = x.hi - x.lo := IntWalk.wrap64_in _ (by omega)
      have hw3 : IntKind.i64.wrap (x.hi - x.lo + 1) = x.hi - x.lo + 1 := IntWalk.i64_in _ (by omega)
      have hw4 : wrap64 (x.hi - x.lo + 1) = x.hi - x.lo + 1 := IntWalk.wrap64_in _ (by omega)
      have hw5 : IntKind.i64.wrap x.lo = x.lo := IntWalk.i64_in _ (by omega)
      have hw6 : wrap64 x.lo = x.lo := IntWalk.wrap64_in _ (by omega)
      have hw7 : (0 : Int) < x.hi - x.lo + 1 := by omega
      have H5b := Lib.hid (set_other (i := 0) (v := .int .i64 x.lo) H5.out hne1)
      have d5 := cell_of_block (i := 0) H5b.out rfl
      have e5 := frozen_of_block (i := 0) H5b.out
      simp only [s4_, s5_] at d5
      clear hx ht hlt hb1 hb2 hb3
      gi_wp2
      refine ⟨((KeepsOthers.setCell _ _ _).trans (KeepsOthers.setCell _ _ _)).from _, ⟨rfl, x.lo, set_other (heap_setCell_one H4.out) hne2, heap_setCell_one H5b.out, fun _ => ⟨x, ⟨t, HT.out⟩, rfl⟩⟩, Kept.setCell (Kept.setCell HBW.out (p := ⟨w.heap.size + 1 + 1, 0, none⟩) (by show w.heap.size ≤ w.heap.size + 1 + 1; omega) _) (p := ⟨w.heap.size + 1 + 1 + 1, 0, none⟩) (by show w.heap.size ≤ w.heap.size + 1 + 1 + 1; omega) _⟩
    · have HX := Lib.hid hx
      have H5b := Lib.hid (fun v => set_other (i := 0) (v := v) H5.out hne1)
      clear hx hlt
      have d5 := fun v => cell_of_block (i := 0) (H5b.out v) rfl
      have e5 := fun v => frozen_of_block (i := 0) (H5b.out v)
      simp only [s4_, s5_] at d5
      gi_wp2
      · exact ⟨((KeepsOthers.setCell _ _ _).trans (KeepsOthers.setCell _ _ _)).from _, ⟨rfl, _, set_other (heap_setCell_one H4.out) hne2, heap_setCell_one (H5b.out _), fun h => absurd h HX.out⟩, Kept.setCell (Kept.setCell HBW.out (p := ⟨w.heap.size + 1 + 1, 0, none⟩) (by show w.heap.size ≤ w.heap.size + 1 + 1; omega) _) (p := ⟨w.heap.size + 1 + 1 + 1, 0, none⟩) (by show w.heap.size ≤ w.heap.size + 1 + 1 + 1; omega) _⟩
      · have hn3 : w.heap.size + 1 + 1 ≠ w.heap.size + 1 := by omega
        have hn4 : w.heap.size + 1 + 1 + 1 ≠ w.heap.size + 1 := by omega
        exact ⟨(KeepsOthers.setCell _ _ _).from _, fun hO => ⟨⟨⟨_, heap_setCell_one H3.out⟩, ⟨_, set_other H4.out hn3⟩, ⟨_, set_other H5.out hn4⟩⟩, fun i cs t f h1 h2 h3 hi => set_other hi h1⟩, ⟨_, heap_setCell_one H3.out, set_other H4.out hn3, set_other H5.out hn4, fun h => absurd h HX.out⟩, Kept.setCell HBW.out (p := ⟨w.heap.size + 1, 0, none⟩) (by show w.heap.size ≤ w.heap.size + 1; omega) _⟩
  case done =>
    rintro D ys W hD rfl ⟨⟨iv, h3, h4, h5, hp⟩, hB⟩ hK
    have hnil : makeR R = [] := (hp (List.prefix_refl _)).1
    have hne1 : w.heap.size + 1 + 1 + 1 ≠ w.heap.size + 1 + 1 := by omega
    have hne2 : w.heap.size + 1 + 1 ≠ w.heap.size + 1 + 1 + 1 := by omega
    have H5b := Lib.hid (set_other (i := 0) (v := .int .i64 0) h5 hne1)
    have c4 := cell_of_block (i := 0) h4 rfl
    have c5 := cell_of_block (i := 0) h5 rfl
    have g4 := frozen_of_block (i := 0) h4
    have g5 := frozen_of_block (i := 0) h5
    have d5 := cell_of_block (i := 0) H5b.out rfl
    have e5 := frozen_of_block (i := 0) H5b.out
    simp only [s4_, s5_] at c4 c5 d5
    have HNIL := Lib.hid hnil
    have H4 := Lib.hid h4
    clear hnil hp h3 h4 h5
    gi_wp2
    have hK' := ((KeepsOthers.setCell W ⟨w.heap.size + 1 + 1, 0, none⟩ (.int .i64 0)).trans (KeepsOthers.setCell _ ⟨w.heap.size + 1 + 1 + 1, 0, none⟩ (.bool false))).same D _ hK rfl
    refine ⟨by simp, .inl ⟨_, _, rfl, run_takeDeferred hK', ?_⟩⟩
    have q4 := cell_of_block (i := 0) (put_other (o' := .deferred none) (set_other (i := 0) (v := .bool false) (heap_setCell_one (v := .int .i64 0) H4.out) hne2) hK') rfl
    have q5 := cell_of_block (i := 0) (put_other (o' := .deferred none) (heap_setCell_one (v := .bool false) H5b.out) hK') rfl
    simp only [s4_, s5_] at q4 q5
    exact ⟨.tuple #[.int .i64 0, .bool false], by simp [results, Tryz.results30, go_sem, q4, q5], .inr ⟨HNIL.out, rfl⟩, Below.trans (show Below w.heap.size w _ from Kept.setCell (Kept.setCell hB (p := ⟨w.heap.size + 1 + 1, 0, none⟩) (by show w.heap.size ≤ w.heap.size + 1 + 1; omega) _) (p := ⟨w.heap.size + 1 + 1 + 1, 0, none⟩) (by show w.heap.size ≤ w.heap.size + 1 + 1 + 1; omega) _) (belowK_b (w := w) (Nat.le_refl _) _ D _ _ (by have := HKW.out.size; omega) hK' rfl rfl)⟩
  case stop =>
    rintro D c pre W hD hpart ⟨⟨rfl, v, h4, h5, hp⟩, hB⟩ hK
    obtain ⟨x, t, ht, rfl⟩ := hp hpart
    have HT := Lib.hid ht
    clear ht hp
    gi_wp2
    refine ⟨by simp, .inl ⟨_, _, rfl, run_takeDeferred hK, ?_⟩⟩
    have q4 := cell_of_block (i := 0) (put_other (o' := .deferred none) h4 hK) rfl
    have q5 := cell_of_block (i := 0) (put_other (o' := .deferred none) h5 hK) rfl
    simp only [s4_, s5_] at q4 q5
    exact ⟨.tuple #[.int .i64 x.lo, .bool true], by simp [results, Tryz.results30, go_sem, q4, q5], .inl ⟨x, t, HT.out, rfl⟩, hB.trans (belowK_b (w := w) (Nat.le_refl _) W D _ _ (by have := HKW.out.size; omega) hK rfl rfl)⟩
end Go.Proofs.YtmlcdohldkgcdaaGreatDoor
