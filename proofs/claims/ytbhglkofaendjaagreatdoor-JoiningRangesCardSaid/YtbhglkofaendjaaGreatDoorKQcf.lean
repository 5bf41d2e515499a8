/- quickcheck.prepare. quickcheck.Boundaries and Boundary. -/
import Derived.Deep.Cut
import Derived.Deep.RegionHeld3
import Derived.Test.YtbhglkofaendjaaGreatDoorKQca
import Derived.Test.YtbhglkofaendjaaGreatDoorKQcc
import Derived.Test.YtbhglkofaendjaaGreatDoorKSqx
import Derived.Test.YtbhglkofaendjaaGreatDoorKCma
import Derived.Test.YtbhglkofaendjaaGreatDoorKQp
namespace Go.Proofs.YtbhglkofaendjaaGreatDoor
open Go Go.RowKit

/-- What prepare returns. -/
def RetChk (w : World) (s : Sls) (n : Nrm) (form : Int) (e : Ending) (w' : World) : Prop :=
  if form < 1 ∨ 4 < form then e = .returned (.tuple #[.agg #[.slice none 0 0, .slice none 0 0, .slice none 0 0, .int .i64 0, .bool false, .slice none 0 0], .bool false]) ∧ Kept w w' else
  ∃ (R : List Rng) (A : Option Addr) (m c : Nat), e = .returned (.tuple #[.agg ((usableS s n).chk form (cpOf form) (.slice A m c)), .bool true]) ∧ m ≤ c ∧ m ≤ 2000 ∧ Rngs w' A m R ∧ (∀ x, hasR R x = (comps form && secondB (usableN n) x)) ∧ makeR R = R ∧ Kept w w'
theorem cells6_set {w : World} {b : Nat} {v0 v1 v2 v3 v4 v5 : Value} {t : TypeId} (h : w.heap[b]? = some (.cells #[v0, v1, v2, v3, v4, v5] t (0, 0))) (a0 a1 a2 a3 a4 a5 : Value) :
    ((((((w.setCell ⟨b, 0, none⟩ a0).setCell ⟨b, 1, none⟩ a1).setCell ⟨b, 2, none⟩ a2).setCell ⟨b, 3, none⟩ a3).setCell ⟨b, 4, none⟩ a4).setCell ⟨b, 5, none⟩ a5).heap[b]? = some (.cells #[a0, a1, a2, a3, a4, a5] t (0, 0)) := by
  simp [World.setCell, Array.getElem?_modify, h]
theorem cells6_set5 {w : World} {b : Nat} {v0 v1 v2 v3 v4 v5 : Value} {t : TypeId} (h : w.heap[b]? = some (.cells #[v0, v1, v2, v3, v4, v5] t (0, 0))) (a5 : Value) :
    (w.setCell ⟨b, 5, none⟩ a5).heap[b]? = some (.cells #[v0, v1, v2, v3, v4, a5] t (0, 0)) := by
  simp [World.setCell, Array.getElem?_modify, h]
theorem cells6_set4 {w : World} {b : Nat} {v0 v1 v2 v3 v4 v5 : Value} {t : TypeId} (h : w.heap[b]? = some (.cells #[v0, v1, v2, v3, v4, v5] t (0, 0))) (a4 : Value) :
    (w.setCell ⟨b, 4, none⟩ a4).heap[b]? = some (.cells #[v0, v1, v2, v3, a4, v5] t (0, 0)) := by
  simp [World.setCell, Array.getElem?_modify, h]
theorem setCell_other {w : World} {b b' i : Nat} {o : Obj} {v : Value} (h : w.heap[b]? = some o) (hne : b' ≠ b) : (w.setCell ⟨b', i, none⟩ v).heap[b]? = some o := by
  simp only [World.setCell]
  rw [Array.getElem?_modify, if_neg hne]
  exact h
theorem form_five (form : Int) : form = 1 ∨ form = 2 ∨ form = 3 ∨ form = 4 ∨ (form < 1 ∨ 4 < form) := by omega
theorem makeR_nil : makeR [] = [] := by decide +kernel
theorem hasR_nil (x : Int) : hasR [] x = false := rfl
/-- Integers lie in the block. -/
theorem Rngs.sets {w : World} {b : Nat} {A : Option Addr} {n : Nat} {rs : List Rng} (h : Rngs w A n rs) (hne : ∀ a, A = some a → 0 < n → a.block ≠ b) (i : Nat) (v : Value) : Rngs (w.setCell ⟨b, i, none⟩ v) A n rs :=
  ⟨h.1, fun hn => by
    obtain ⟨b1, o1, e, hc⟩ := h.2 hn
    refine ⟨b1, o1, e, fun i2 x hx j u hu => ?_⟩
    have h1 := hc i2 x hx j u hu
    have hb := hne _ e hn
    simp only at hb
    rw [← h1]
    refine World.cell?_of_block ?_
    simp only [World.setCell]
    rw [Array.getElem?_modify, if_neg (fun e2 => hb e2.symm)]⟩
theorem usableN_twice (n : Nrm) : usableN (usableN n) = usableN n := by
  unfold usableN
  by_cases h : decCheck n = 0
  · rw [if_pos h, if_pos h]
  · rw [if_neg h]; exact if_pos emptyN_check
/-- No ranges lie in a checker. -/
theorem chk_noRng {w : World} {b : Nat} {v0 v1 v2 v5 : Value} {x : Int} {y : Bool} {t : TypeId} (h : w.heap[b]? = some (.cells #[v0, v1, v2, .int .i64 x, .bool y, v5] t (0, 0))) (h0 : ∀ z, v0 ≠ .int .i64 z) (h1 : ∀ z, v1 ≠ .int .i64 z) (h2 : ∀ z, v2 ≠ .int .i64 z) (h5 : ∀ z, v5 ≠ .int .i64 z)
    {A : Option Addr} {n : Nat} {rs : List Rng} (hR : Rngs w A n rs) : ∀ a, A = some a → 0 < n → a.block ≠ b := by
  intro a ha hn e
  obtain ⟨b1, off, r, e1, hr, c0, c1⟩ := rng_at hR hn
  rw [e1] at ha
  injection ha with ha
  subst ha
  simp only at e
  subst e
  simp only [Nat.zero_mul, Nat.add_zero] at c0 c1
  unfold World.cell? at c0 c1
  simp only [h] at c0 c1
  match off, c0, c1 with
  | 0, c0, _ => simp at c0; exact h0 _ c0
  | 1, c0, _ => simp at c0; exact h1 _ c0
  | 2, c0, _ => simp at c0; exact h2 _ c0
  | 3, _, c1 => simp at c1
  | 4, c0, _ => simp at c0
  | 5, c0, _ => simp at c0; exact h5 _ c0
  | k + 6, c0, _ => simp at c0
set_option maxRecDepth 100000 in
set_option maxHeartbeats 8000000 in
theorem prepare_any (s : Sls) (n : Nrm) (form : Int) (w : World) (hN : NormAt w s n) (hG : Glob w) : Calls Tryz.prog 47 #[s.val, .int .i64 form] w (RetChk w s n form) := by
  have hk1 := Kept.alloc (Kept.refl w) (Obj.cells #[Value.slice s.Ac s.nc s.cc, Value.slice s.Am s.nm s.cm, Value.slice s.Ae s.ne s.ce] 28)
  have hk2 := Kept.alloc hk1 (Obj.cells #[Value.slice none 0 0, Value.slice none 0 0, Value.slice none 0 0, Value.int IntKind.i64 0, Value.bool false, Value.slice none 0 0] 69)
  have HC := Lib.hid (decCheck_any s n _ (hN.kept hk2) (hG.kept hk2))
  have hx := alloc_lift (o := (Obj.cells #[Value.slice none 0 0, Value.slice none 0 0, Value.slice none 0 0, Value.int IntKind.i64 0, Value.bool false, Value.slice none 0 0] 69)) (box_block w (Obj.cells #[Value.slice s.Ac s.nc s.cc, Value.slice s.Am s.nm s.cm, Value.slice s.Ae s.ne s.ce] 28))
  have hy := box_block (w.alloc (Obj.cells #[Value.slice s.Ac s.nc s.cc, Value.slice s.Am s.nm s.cm, Value.slice s.Ae s.ne s.ce] 28)) (Obj.cells #[Value.slice none 0 0, Value.slice none 0 0, Value.slice none 0 0, Value.int IntKind.i64 0, Value.bool false, Value.slice none 0 0] 69)
  rw [World.size_alloc] at hy
  have HX := Lib.hid hx
  have HY := Lib.hid hy
  have HK2 := Lib.hid hk2
  have HS2 := Lib.hid (fun w' (hk : Kept w w') => second_any (usableS s n) (usableN n) w' ((usableS_at hN).kept hk) (hG.kept hk))
  clear hN hG hk1 hk2 hx hy
  rcases form_five form with h | h | h | h | h
  · subst h
    by_cases h0 : decCheck n = 0
    · have hb0 : (decCheck n != 0) = false := by simp [h0]
      have hss : usableS s n = s := if_pos h0
      rw [hss] at HS2
      have HSS := Lib.hid hss
      clear h0 hss
      unfold Sls.val at *
      go_enter Tryz.func47, Tryz.ntmps47
      go_wp2_with fail
      refine HC.out.mono ?_
      rintro e w1 ⟨rfl, hk3⟩
      have e1 := (hk3.block _ (block_lt HX.out)).trans HX.out
      have e2 := (hk3.block _ (block_lt HY.out)).trans HY.out
      have HE1 := Lib.hid e1
      have HE2 := Lib.hid e2
      clear e1 e2
      have HKA := Lib.hid (Kept.trans HK2.out hk3)
      obtain ⟨bb, hbb⟩ : ∃ bb : Nat, bb = w.heap.size := ⟨_, rfl⟩
      have HBB := Lib.hid hbb
      rw [← hbb] at HE1 HE2 ⊢
      have hbs : bb + 1 < w1.heap.size := block_lt HE2.out
      clear hbb hk3
      have a0 := cell_of_block (i := 0) HE1.out rfl
      have a1 := cell_of_block (i := 1) HE1.out rfl
      have a2 := cell_of_block (i := 2) HE1.out rfl
      simp only [List.getElem_toArray, List.getElem_cons_zero, List.getElem_cons_succ] at a0 a1 a2
      have hE := HE2.out
      have hc := HE1.out
      have KW1 := HKA
      have hn : (w1.alloc (Obj.cells #[Value.slice s.Ac s.nc s.cc, Value.slice s.Am s.nm s.cm, Value.slice s.Ae s.ne s.ce, Value.int IntKind.i64 1, Value.bool false, Value.slice none 0 0] 69)).heap[w1.heap.size]? = _ := alloc_at (by simp)
      have hE3 := alloc_lift (o := (Obj.cells #[Value.slice s.Ac s.nc s.cc, Value.slice s.Am s.nm s.cm, Value.slice s.Ae s.ne s.ce, Value.int IntKind.i64 1, Value.bool false, Value.slice none 0 0] 69)) hE
      have hwb : w.heap.size ≤ bb := by rw [HBB.out]; exact Nat.le_refl _
      have b0 := cell_of_block (i := 0) (alloc_lift (o := (Obj.cells #[Value.slice s.Ac s.nc s.cc, Value.slice s.Am s.nm s.cm, Value.slice s.Ae s.ne s.ce, Value.int IntKind.i64 1, Value.bool false, Value.slice none 0 0] 69)) hc) rfl
      have b1 := cell_of_block (i := 1) (alloc_lift (o := (Obj.cells #[Value.slice s.Ac s.nc s.cc, Value.slice s.Am s.nm s.cm, Value.slice s.Ae s.ne s.ce, Value.int IntKind.i64 1, Value.bool false, Value.slice none 0 0] 69)) hc) rfl
      have b2 := cell_of_block (i := 2) (alloc_lift (o := (Obj.cells #[Value.slice s.Ac s.nc s.cc, Value.slice s.Am s.nm s.cm, Value.slice s.Ae s.ne s.ce, Value.int IntKind.i64 1, Value.bool false, Value.slice none 0 0] 69)) hc) rfl
      simp only [List.getElem_toArray, List.getElem_cons_zero, List.getElem_cons_succ] at b0 b1 b2
      have KW3 := Lib.hid (Kept.alloc KW1.out (Obj.cells #[Value.slice s.Ac s.nc s.cc, Value.slice s.Am s.nm s.cm, Value.slice s.Ae s.ne s.ce, Value.int IntKind.i64 1, Value.bool false, Value.slice none 0 0] 69))
      have HN := Lib.hid hn
      have HE3 := Lib.hid hE3
      clear hc hE hn hE3
      go_wp2_with fail
      clear a0 a1 a2 b0 b1 b2
      refine (HS2.out _ KW3.out).mono ?_
      rintro e w4 ⟨R, AR, mR, cR, rfl, leR, hmR, hRR, hRS, hRM, k4⟩
      simp only [usableN_twice] at hRS
      have hn4 := (k4.block _ (block_lt HN.out)).trans HN.out
      have hE4 := (k4.block _ (block_lt HE3.out)).trans HE3.out
      have HNR := Lib.hid (chk_noRng hn4 (by intro z h; cases h) (by intro z h; cases h) (by intro z h; cases h) (by intro z h; cases h) hRR)
      have HER := Lib.hid (chk_noRng hE4 (by intro z h; cases h) (by intro z h; cases h) (by intro z h; cases h) (by intro z h; cases h) hRR)
      have KW4 := Lib.hid (Kept.trans KW3.out k4)
      have HRR := Lib.hid hRR
      have HRS := Lib.hid hRS
      have HRM := Lib.hid hRM
      clear k4 hRR hRS hRM HN HE3
      have hszz : bb + 1 < w1.heap.size := hbs
      obtain ⟨b6, hb6⟩ : ∃ b6 : Nat, b6 = w1.heap.size := ⟨_, rfl⟩
      rw [← hb6] at hn4 HNR hszz ⊢
      have hwb6 : w.heap.size ≤ b6 := by omega
      clear hb6 hbs
      have x5 := cell_of_block (i := 5) hn4 rfl
      have fx5 := frozen_of_block (i := 5) hn4
      have hn5 := cells6_set5 hn4 (.slice AR mR cR)
      have x4 := cell_of_block (i := 4) hn5 rfl
      have fx4 := frozen_of_block (i := 4) hn5
      simp only [List.getElem_toArray, List.getElem_cons_zero, List.getElem_cons_succ] at x4 x5
      have hn6 := cells6_set4 hn5 (.bool false)
      have hE5 := setCell_other (i := 5) (v := .slice AR mR cR) hE4 (show b6 ≠ bb + 1 by omega)
      have hE6 := setCell_other (i := 4) (v := .bool false) hE5 (show b6 ≠ bb + 1 by omega)
      have hF := cells6_set hE6 (Value.slice s.Ac s.nc s.cc) (Value.slice s.Am s.nm s.cm) (Value.slice s.Ae s.ne s.ce) (.int .i64 1) (.bool false) (Value.slice AR mR cR)
      have r0 := cell_of_block (i := 0) hF rfl
      have r1 := cell_of_block (i := 1) hF rfl
      have r2 := cell_of_block (i := 2) hF rfl
      have r3 := cell_of_block (i := 3) hF rfl
      have r4 := cell_of_block (i := 4) hF rfl
      have r5 := cell_of_block (i := 5) hF rfl
      simp only [List.getElem_toArray, List.getElem_cons_zero, List.getElem_cons_succ] at r0 r1 r2 r3 r4 r5
      have HR := Lib.hid (And.intro r0 (And.intro r1 (And.intro r2 (And.intro r3 (And.intro r4 r5)))))
      clear hF r0 r1 r2 r3 r4 r5
      have u0 := cell_of_block (i := 0) hn6 rfl
      have u1 := cell_of_block (i := 1) hn6 rfl
      have u2 := cell_of_block (i := 2) hn6 rfl
      have u3 := cell_of_block (i := 3) hn6 rfl
      have u4 := cell_of_block (i := 4) hn6 rfl
      have u5 := cell_of_block (i := 5) hn6 rfl
      have d0 := cell_of_block (i := 0) hE6 rfl
      have d1 := cell_of_block (i := 1) hE6 rfl
      have d2 := cell_of_block (i := 2) hE6 rfl
      have d3 := cell_of_block (i := 3) hE6 rfl
      have d4 := cell_of_block (i := 4) hE6 rfl
      have d5 := cell_of_block (i := 5) hE6 rfl
      have e0 := frozen_of_block (i := 0) hE6
      have e1 := frozen_of_block (i := 1) hE6
      have e2 := frozen_of_block (i := 2) hE6
      have e3 := frozen_of_block (i := 3) hE6
      have e4 := frozen_of_block (i := 4) hE6
      have e5 := frozen_of_block (i := 5) hE6
      simp only [List.getElem_toArray, List.getElem_cons_zero, List.getElem_cons_succ] at u0 d0 u1 d1 u2 d2 u3 d3 u4 d4 u5 d5
      clear hn4 hn5 hn6 hE4 hE5 hE6
      go_wp2_with fail
      clear u0 d0 e0 u1 d1 e1 u2 d2 e2 u3 d3 e3 u4 d4 e4 u5 d5 e5 x4 fx4 x5 fx5
      obtain ⟨r0, r1, r2, r3, r4, r5⟩ := HR.out
      refine bodyPost_ret (v := .tuple #[.agg #[Value.slice s.Ac s.nc s.cc, Value.slice s.Am s.nm s.cm, Value.slice s.Ae s.ne s.ce, .int .i64 1, .bool false, .slice AR mR cR], .bool true]) (by simp [results, Tryz.results47, go_sem, r0, r1, r2, r3, r4, r5]) rfl ?_
      unfold RetChk
      rw [if_neg (by omega), HSS.out]
      have hk9 := Kept.setCell (Kept.setCell (Kept.setCell (Kept.setCell (Kept.setCell (Kept.setCell (Kept.setCell (Kept.setCell KW4.out (p := ⟨b6, 5, none⟩) hwb6 (.slice AR mR cR)) (p := ⟨b6, 4, none⟩) hwb6 (.bool false)) (p := ⟨bb + 1, 0, none⟩) (Nat.le_succ_of_le hwb) (Value.slice s.Ac s.nc s.cc)) (p := ⟨bb + 1, 1, none⟩) (Nat.le_succ_of_le hwb) (Value.slice s.Am s.nm s.cm)) (p := ⟨bb + 1, 2, none⟩) (Nat.le_succ_of_le hwb) (Value.slice s.Ae s.ne s.ce)) (p := ⟨bb + 1, 3, none⟩) (Nat.le_succ_of_le hwb) (.int .i64 1)) (p := ⟨bb + 1, 4, none⟩) (Nat.le_succ_of_le hwb) (.bool false)) (p := ⟨bb + 1, 5, none⟩) (Nat.le_succ_of_le hwb) (Value.slice AR mR cR)
      exact ⟨R, AR, mR, cR, rfl, leR, hmR, Rngs.sets (Rngs.sets (Rngs.sets (Rngs.sets (Rngs.sets (Rngs.sets (Rngs.sets (Rngs.sets (HRR.out) HNR.out 5 _) HNR.out 4 _) HER.out 0 _) HER.out 1 _) HER.out 2 _) HER.out 3 _) HER.out 4 _) HER.out 5 _, HRS.out, HRM.out, hk9⟩
    · have hb0 : (decCheck n != 0) = true := by simp [h0]
      have hss : usableS s n = emptyS := if_neg h0
      rw [hss] at HS2
      have HSS := Lib.hid hss
      clear h0 hss
      unfold Sls.val at *
      go_enter Tryz.func47, Tryz.ntmps47
      go_wp2_with fail
      refine HC.out.mono ?_
      rintro e w1 ⟨rfl, hk3⟩
      have e1 := (hk3.block _ (block_lt HX.out)).trans HX.out
      have e2 := (hk3.block _ (block_lt HY.out)).trans HY.out
      have HE1 := Lib.hid e1
      have HE2 := Lib.hid e2
      clear e1 e2
      have HKA := Lib.hid (Kept.trans HK2.out hk3)
      obtain ⟨bb, hbb⟩ : ∃ bb : Nat, bb = w.heap.size := ⟨_, rfl⟩
      have HBB := Lib.hid hbb
      rw [← hbb] at HE1 HE2 ⊢
      have hbs : bb + 1 < w1.heap.size := block_lt HE2.out
      clear hbb hk3
      have a0 := cell_of_block (i := 0) HE1.out rfl
      have a1 := cell_of_block (i := 1) HE1.out rfl
      have a2 := cell_of_block (i := 2) HE1.out rfl
      simp only [List.getElem_toArray, List.getElem_cons_zero, List.getElem_cons_succ] at a0 a1 a2
      have f0 := frozen_of_block (i := 0) HE1.out
      have f1 := frozen_of_block (i := 1) HE1.out
      have f2 := frozen_of_block (i := 2) HE1.out
      have hc := cells3_set (v0 := .slice none 0 0) (v1 := .slice none 0 0) (v2 := .slice none 0 0) HE1.out
      have hE := setCell_other (i := 2) (v := .slice none 0 0) (setCell_other (i := 1) (v := .slice none 0 0) (setCell_other (i := 0) (v := .slice none 0 0) HE2.out (show bb ≠ bb + 1 by omega)) (show bb ≠ bb + 1 by omega)) (show bb ≠ bb + 1 by omega)
      have g0 := cell_of_block (i := 0) hc rfl
      have g1 := cell_of_block (i := 1) hc rfl
      have g2 := cell_of_block (i := 2) hc rfl
      simp only [List.getElem_toArray, List.getElem_cons_zero, List.getElem_cons_succ] at g0 g1 g2
      have KW1 := Lib.hid (Kept.setCell (Kept.setCell (Kept.setCell HKA.out (p := ⟨bb, 0, none⟩) (by rw [HBB.out]; exact Nat.le_refl _) (.slice none 0 0)) (p := ⟨bb, 1, none⟩) (by rw [HBB.out]; exact Nat.le_refl _) (.slice none 0 0)) (p := ⟨bb, 2, none⟩) (by rw [HBB.out]; exact Nat.le_refl _) (.slice none 0 0))
      have hn : ((((w1.setCell ⟨bb, 0, none⟩ (.slice none 0 0)).setCell ⟨bb, 1, none⟩ (.slice none 0 0)).setCell ⟨bb, 2, none⟩ (.slice none 0 0)).alloc (Obj.cells #[Value.slice none 0 0, Value.slice none 0 0, Value.slice none 0 0, Value.int IntKind.i64 1, Value.bool false, Value.slice none 0 0] 69)).heap[w1.heap.size]? = _ := alloc_at (by simp)
      have hE3 := alloc_lift (o := (Obj.cells #[Value.slice none 0 0, Value.slice none 0 0, Value.slice none 0 0, Value.int IntKind.i64 1, Value.bool false, Value.slice none 0 0] 69)) hE
      have hwb : w.heap.size ≤ bb := by rw [HBB.out]; exact Nat.le_refl _
      have b0 := cell_of_block (i := 0) (alloc_lift (o := (Obj.cells #[Value.slice none 0 0, Value.slice none 0 0, Value.slice none 0 0, Value.int IntKind.i64 1, Value.bool false, Value.slice none 0 0] 69)) hc) rfl
      have b1 := cell_of_block (i := 1) (alloc_lift (o := (Obj.cells #[Value.slice none 0 0, Value.slice none 0 0, Value.slice none 0 0, Value.int IntKind.i64 1, Value.bool false, Value.slice none 0 0] 69)) hc) rfl
      have b2 := cell_of_block (i := 2) (alloc_lift (o := (Obj.cells #[Value.slice none 0 0, Value.slice none 0 0, Value.slice none 0 0, Value.int IntKind.i64 1, Value.bool false, Value.slice none 0 0] 69)) hc) rfl
      simp only [List.getElem_toArray, List.getElem_cons_zero, List.getElem_cons_succ] at b0 b1 b2
      have KW3 := Lib.hid (Kept.alloc KW1.out (Obj.cells #[Value.slice none 0 0, Value.slice none 0 0, Value.slice none 0 0, Value.int IntKind.i64 1, Value.bool false, Value.slice none 0 0] 69))
      have HN := Lib.hid hn
      have HE3 := Lib.hid hE3
      clear hc hE hn hE3
      go_wp2_with fail
      clear a0 a1 a2 b0 b1 b2 f0 f1 f2 g0 g1 g2
      refine (HS2.out _ KW3.out).mono ?_
      rintro e w4 ⟨R, AR, mR, cR, rfl, leR, hmR, hRR, hRS, hRM, k4⟩
      simp only [usableN_twice] at hRS
      have hn4 := (k4.block _ (block_lt HN.out)).trans HN.out
      have hE4 := (k4.block _ (block_lt HE3.out)).trans HE3.out
      have HNR := Lib.hid (chk_noRng hn4 (by intro z h; cases h) (by intro z h; cases h) (by intro z h; cases h) (by intro z h; cases h) hRR)
      have HER := Lib.hid (chk_noRng hE4 (by intro z h; cases h) (by intro z h; cases h) (by intro z h; cases h) (by intro z h; cases h) hRR)
      have KW4 := Lib.hid (Kept.trans KW3.out k4)
      have HRR := Lib.hid hRR
      have HRS := Lib.hid hRS
      have HRM := Lib.hid hRM
      clear k4 hRR hRS hRM HN HE3
      have hszz : bb + 1 < w1.heap.size := hbs
      obtain ⟨b6, hb6⟩ : ∃ b6 : Nat, b6 = w1.heap.size := ⟨_, rfl⟩
      rw [← hb6] at hn4 HNR hszz ⊢
      have hwb6 : w.heap.size ≤ b6 := by omega
      clear hb6 hbs
      have x5 := cell_of_block (i := 5) hn4 rfl
      have fx5 := frozen_of_block (i := 5) hn4
      have hn5 := cells6_set5 hn4 (.slice AR mR cR)
      have x4 := cell_of_block (i := 4) hn5 rfl
      have fx4 := frozen_of_block (i := 4) hn5
      simp only [List.getElem_toArray, List.getElem_cons_zero, List.getElem_cons_succ] at x4 x5
      have hn6 := cells6_set4 hn5 (.bool false)
      have hE5 := setCell_other (i := 5) (v := .slice AR mR cR) hE4 (show b6 ≠ bb + 1 by omega)
      have hE6 := setCell_other (i := 4) (v := .bool false) hE5 (show b6 ≠ bb + 1 by omega)
      have hF := cells6_set hE6 (Value.slice none 0 0) (Value.slice none 0 0) (Value.slice none 0 0) (.int .i64 1) (.bool false) (Value.slice AR mR cR)
      have r0 := cell_of_block (i := 0) hF rfl
      have r1 := cell_of_block (i := 1) hF rfl
      have r2 := cell_of_block (i := 2) hF rfl
      have r3 := cell_of_block (i := 3) hF rfl
      have r4 := cell_of_block (i := 4) hF rfl
      have r5 := cell_of_block (i := 5) hF rfl
      simp only [List.getElem_toArray, List.getElem_cons_zero, List.getElem_cons_succ] at r0 r1 r2 r3 r4 r5
      have HR := Lib.hid (And.intro r0 (And.intro r1 (And.intro r2 (And.intro r3 (And.intro r4 r5)))))
      clear hF r0 r1 r2 r3 r4 r5
      have u0 := cell_of_block (i := 0) hn6 rfl
      have u1 := cell_of_block (i := 1) hn6 rfl
      have u2 := cell_of_block (i := 2) hn6 rfl
      have u3 := cell_of_block (i := 3) hn6 rfl
      have u4 := cell_of_block (i := 4) hn6 rfl
      have u5 := cell_of_block (i := 5) hn6 rfl
      have d0 := cell_of_block (i := 0) hE6 rfl
      have d1 := cell_of_block (i := 1) hE6 rfl
      have d2 := cell_of_block (i := 2) hE6 rfl
      have d3 := cell_of_block (i := 3) hE6 rfl
      have d4 := cell_of_block (i := 4) hE6 rfl
      have d5 := cell_of_block (i := 5) hE6 rfl
      have e0 := frozen_of_block (i := 0) hE6
      have e1 := frozen_of_block (i := 1) hE6
      have e2 := frozen_of_block (i := 2) hE6
      have e3 := frozen_of_block (i := 3) hE6
      have e4 := frozen_of_block (i := 4) hE6
      have e5 := frozen_of_block (i := 5) hE6
      simp only [List.getElem_toArray, List.getElem_cons_zero, List.getElem_cons_succ] at u0 d0 u1 d1 u2 d2 u3 d3 u4 d4 u5 d5
      clear hn4 hn5 hn6 hE4 hE5 hE6
      go_wp2_with fail
      clear u0 d0 e0 u1 d1 e1 u2 d2 e2 u3 d3 e3 u4 d4 e4 u5 d5 e5 x4 fx4 x5 fx5
      obtain ⟨r0, r1, r2, r3, r4, r5⟩ := HR.out
      refine bodyPost_ret (v := .tuple #[.agg #[Value.slice none 0 0, Value.slice none 0 0, Value.slice none 0 0, .int .i64 1, .bool false, .slice AR mR cR], .bool true]) (by simp [results, Tryz.results47, go_sem, r0, r1, r2, r3, r4, r5]) rfl ?_
      unfold RetChk
      rw [if_neg (by omega), HSS.out]
      have hk9 := Kept.setCell (Kept.setCell (Kept.setCell (Kept.setCell (Kept.setCell (Kept.setCell (Kept.setCell (Kept.setCell KW4.out (p := ⟨b6, 5, none⟩) hwb6 (.slice AR mR cR)) (p := ⟨b6, 4, none⟩) hwb6 (.bool false)) (p := ⟨bb + 1, 0, none⟩) (Nat.le_succ_of_le hwb) (Value.slice none 0 0)) (p := ⟨bb + 1, 1, none⟩) (Nat.le_succ_of_le hwb) (Value.slice none 0 0)) (p := ⟨bb + 1, 2, none⟩) (Nat.le_succ_of_le hwb) (Value.slice none 0 0)) (p := ⟨bb + 1, 3, none⟩) (Nat.le_succ_of_le hwb) (.int .i64 1)) (p := ⟨bb + 1, 4, none⟩) (Nat.le_succ_of_le hwb) (.bool false)) (p := ⟨bb + 1, 5, none⟩) (Nat.le_succ_of_le hwb) (Value.slice AR mR cR)
      exact ⟨R, AR, mR, cR, rfl, leR, hmR, Rngs.sets (Rngs.sets (Rngs.sets (Rngs.sets (Rngs.sets (Rngs.sets (Rngs.sets (Rngs.sets (HRR.out) HNR.out 5 _) HNR.out 4 _) HER.out 0 _) HER.out 1 _) HER.out 2 _) HER.out 3 _) HER.out 4 _) HER.out 5 _, HRS.out, HRM.out, hk9⟩
  · subst h
    by_cases h0 : decCheck n = 0
    · have hb0 : (decCheck n != 0) = false := by simp [h0]
      have hss : usableS s n = s := if_pos h0
      rw [hss] at HS2
      have HSS := Lib.hid hss
      clear h0 hss
      unfold Sls.val at *
      go_enter Tryz.func47, Tryz.ntmps47
      go_wp2_with fail
      refine HC.out.mono ?_
      rintro e w1 ⟨rfl, hk3⟩
      have e1 := (hk3.block _ (block_lt HX.out)).trans HX.out
      have e2 := (hk3.block _ (block_lt HY.out)).trans HY.out
      have HE1 := Lib.hid e1
      have HE2 := Lib.hid e2
      clear e1 e2
      have HKA := Lib.hid (Kept.trans HK2.out hk3)
      obtain ⟨bb, hbb⟩ : ∃ bb : Nat, bb = w.heap.size := ⟨_, rfl⟩
      have HBB := Lib.hid hbb
      rw [← hbb] at HE1 HE2 ⊢
      have hbs : bb + 1 < w1.heap.size := block_lt HE2.out
      clear hbb hk3
      have a0 := cell_of_block (i := 0) HE1.out rfl
      have a1 := cell_of_block (i := 1) HE1.out rfl
      have a2 := cell_of_block (i := 2) HE1.out rfl
      simp only [List.getElem_toArray, List.getElem_cons_zero, List.getElem_cons_succ] at a0 a1 a2
      have hE := HE2.out
      have hc := HE1.out
      have KW1 := HKA
      have hn : (w1.alloc (Obj.cells #[Value.slice s.Ac s.nc s.cc, Value.slice s.Am s.nm s.cm, Value.slice s.Ae s.ne s.ce, Value.int IntKind.i64 2, Value.bool false, Value.slice none 0 0] 69)).heap[w1.heap.size]? = _ := alloc_at (by simp)
      have hE3 := alloc_lift (o := (Obj.cells #[Value.slice s.Ac s.nc s.cc, Value.slice s.Am s.nm s.cm, Value.slice s.Ae s.ne s.ce, Value.int IntKind.i64 2, Value.bool false, Value.slice none 0 0] 69)) hE
      have hwb : w.heap.size ≤ bb := by rw [HBB.out]; exact Nat.le_refl _
      have KW3 := Lib.hid (Kept.alloc KW1.out (Obj.cells #[Value.slice s.Ac s.nc s.cc, Value.slice s.Am s.nm s.cm, Value.slice s.Ae s.ne s.ce, Value.int IntKind.i64 2, Value.bool false, Value.slice none 0 0] 69))
      have HN := Lib.hid hn
      have HE3 := Lib.hid hE3
      clear hc hE hn hE3
      go_upto_region 11 with fail
      clear a0 a1 a2
      generalize (w1.alloc (Obj.cells #[Value.slice s.Ac s.nc s.cc, Value.slice s.Am s.nm s.cm, Value.slice s.Ae s.ne s.ce, Value.int IntKind.i64 2, Value.bool false, Value.slice none 0 0] 69)) = w4 at *
      have hn4 := HN.out
      have hE4 := HE3.out
      have KW4 := KW3
      clear HN HE3
      have hszz : bb + 1 < w1.heap.size := hbs
      obtain ⟨b6, hb6⟩ : ∃ b6 : Nat, b6 = w1.heap.size := ⟨_, rfl⟩
      rw [← hb6] at hn4 hszz ⊢
      have hwb6 : w.heap.size ≤ b6 := by omega
      clear hb6 hbs
      have x4 := cell_of_block (i := 4) hn4 rfl
      have fx4 := frozen_of_block (i := 4) hn4
      simp only [List.getElem_toArray, List.getElem_cons_zero, List.getElem_cons_succ] at x4
      have hn6 := cells6_set4 hn4 (.bool false)
      have hE6 := setCell_other (i := 4) (v := .bool false) hE4 (show b6 ≠ bb + 1 by omega)
      have hF := cells6_set hE6 (Value.slice s.Ac s.nc s.cc) (Value.slice s.Am s.nm s.cm) (Value.slice s.Ae s.ne s.ce) (.int .i64 2) (.bool false) (Value.slice none 0 0)
      have r0 := cell_of_block (i := 0) hF rfl
      have r1 := cell_of_block (i := 1) hF rfl
      have r2 := cell_of_block (i := 2) hF rfl
      have r3 := cell_of_block (i := 3) hF rfl
      have r4 := cell_of_block (i := 4) hF rfl
      have r5 := cell_of_block (i := 5) hF rfl
      simp only [List.getElem_toArray, List.getElem_cons_zero, List.getElem_cons_succ] at r0 r1 r2 r3 r4 r5
      have HR := Lib.hid (And.intro r0 (And.intro r1 (And.intro r2 (And.intro r3 (And.intro r4 r5)))))
      clear hF r0 r1 r2 r3 r4 r5
      have u0 := cell_of_block (i := 0) hn6 rfl
      have u1 := cell_of_block (i := 1) hn6 rfl
      have u2 := cell_of_block (i := 2) hn6 rfl
      have u3 := cell_of_block (i := 3) hn6 rfl
      have u4 := cell_of_block (i := 4) hn6 rfl
      have u5 := cell_of_block (i := 5) hn6 rfl
      have d0 := cell_of_block (i := 0) hE6 rfl
      have d1 := cell_of_block (i := 1) hE6 rfl
      have d2 := cell_of_block (i := 2) hE6 rfl
      have d3 := cell_of_block (i := 3) hE6 rfl
      have d4 := cell_of_block (i := 4) hE6 rfl
      have d5 := cell_of_block (i := 5) hE6 rfl
      have e0 := frozen_of_block (i := 0) hE6
      have e1 := frozen_of_block (i := 1) hE6
      have e2 := frozen_of_block (i := 2) hE6
      have e3 := frozen_of_block (i := 3) hE6
      have e4 := frozen_of_block (i := 4) hE6
      have e5 := frozen_of_block (i := 5) hE6
      simp only [List.getElem_toArray, List.getElem_cons_zero, List.getElem_cons_succ] at u0 d0 u1 d1 u2 d2 u3 d3 u4 d4 u5 d5
      clear hn4 hn6 hE4 hE6
      go_wp2_with fail
      clear u0 d0 e0 u1 d1 e1 u2 d2 e2 u3 d3 e3 u4 d4 e4 u5 d5 e5 x4 fx4
      obtain ⟨r0, r1, r2, r3, r4, r5⟩ := HR.out
      refine bodyPost_ret (v := .tuple #[.agg #[Value.slice s.Ac s.nc s.cc, Value.slice s.Am s.nm s.cm, Value.slice s.Ae s.ne s.ce, .int .i64 2, .bool false, .slice none 0 0], .bool true]) (by simp [results, Tryz.results47, go_sem, r0, r1, r2, r3, r4, r5]) rfl ?_
      unfold RetChk
      rw [if_neg (by omega), HSS.out]
      have hk9 := Kept.setCell (Kept.setCell (Kept.setCell (Kept.setCell (Kept.setCell (Kept.setCell (Kept.setCell KW4.out (p := ⟨b6, 4, none⟩) hwb6 (.bool false)) (p := ⟨bb + 1, 0, none⟩) (Nat.le_succ_of_le hwb) (Value.slice s.Ac s.nc s.cc)) (p := ⟨bb + 1, 1, none⟩) (Nat.le_succ_of_le hwb) (Value.slice s.Am s.nm s.cm)) (p := ⟨bb + 1, 2, none⟩) (Nat.le_succ_of_le hwb) (Value.slice s.Ae s.ne s.ce)) (p := ⟨bb + 1, 3, none⟩) (Nat.le_succ_of_le hwb) (.int .i64 2)) (p := ⟨bb + 1, 4, none⟩) (Nat.le_succ_of_le hwb) (.bool false)) (p := ⟨bb + 1, 5, none⟩) (Nat.le_succ_of_le hwb) (Value.slice none 0 0)
      exact ⟨[], none, 0, 0, rfl, Nat.le_refl _, by omega, Sl.nil, fun x => rfl, makeR_nil, hk9⟩
    · have hb0 : (decCheck n != 0) = true := by simp [h0]
      have hss : usableS s n = emptyS := if_neg h0
      rw [hss] at HS2
      have HSS := Lib.hid hss
      clear h0 hss
      unfold Sls.val at *
      go_enter Tryz.func47, Tryz.ntmps47
      go_wp2_with fail
      refine HC.out.mono ?_
      rintro e w1 ⟨rfl, hk3⟩
      have e1 := (hk3.block _ (block_lt HX.out)).trans HX.out
      have e2 := (hk3.block _ (block_lt HY.out)).trans HY.out
      have HE1 := Lib.hid e1
      have HE2 := Lib.hid e2
      clear e1 e2
      have HKA := Lib.hid (Kept.trans HK2.out hk3)
      obtain ⟨bb, hbb⟩ : ∃ bb : Nat, bb = w.heap.size := ⟨_, rfl⟩
      have HBB := Lib.hid hbb
      rw [← hbb] at HE1 HE2 ⊢
      have hbs : bb + 1 < w1.heap.size := block_lt HE2.out
      clear hbb hk3
      have a0 := cell_of_block (i := 0) HE1.out rfl
      have a1 := cell_of_block (i := 1) HE1.out rfl
      have a2 := cell_of_block (i := 2) HE1.out rfl
      simp only [List.getElem_toArray, List.getElem_cons_zero, List.getElem_cons_succ] at a0 a1 a2
      have f0 := frozen_of_block (i := 0) HE1.out
      have f1 := frozen_of_block (i := 1) HE1.out
      have f2 := frozen_of_block (i := 2) HE1.out
      have hc := cells3_set (v0 := .slice none 0 0) (v1 := .slice none 0 0) (v2 := .slice none 0 0) HE1.out
      have hE := setCell_other (i := 2) (v := .slice none 0 0) (setCell_other (i := 1) (v := .slice none 0 0) (setCell_other (i := 0) (v := .slice none 0 0) HE2.out (show bb ≠ bb + 1 by omega)) (show bb ≠ bb + 1 by omega)) (show bb ≠ bb + 1 by omega)
      have g0 := cell_of_block (i := 0) hc rfl
      have g1 := cell_of_block (i := 1) hc rfl
      have g2 := cell_of_block (i := 2) hc rfl
      simp only [List.getElem_toArray, List.getElem_cons_zero, List.getElem_cons_succ] at g0 g1 g2
      have KW1 := Lib.hid (Kept.setCell (Kept.setCell (Kept.setCell HKA.out (p := ⟨bb, 0, none⟩) (by rw [HBB.out]; exact Nat.le_refl _) (.slice none 0 0)) (p := ⟨bb, 1, none⟩) (by rw [HBB.out]; exact Nat.le_refl _) (.slice none 0 0)) (p := ⟨bb, 2, none⟩) (by rw [HBB.out]; exact Nat.le_refl _) (.slice none 0 0))
      have hn : ((((w1.setCell ⟨bb, 0, none⟩ (.slice none 0 0)).setCell ⟨bb, 1, none⟩ (.slice none 0 0)).setCell ⟨bb, 2, none⟩ (.slice none 0 0)).alloc (Obj.cells #[Value.slice none 0 0, Value.slice none 0 0, Value.slice none 0 0, Value.int IntKind.i64 2, Value.bool false, Value.slice none 0 0] 69)).heap[w1.heap.size]? = _ := alloc_at (by simp)
      have hE3 := alloc_lift (o := (Obj.cells #[Value.slice none 0 0, Value.slice none 0 0, Value.slice none 0 0, Value.int IntKind.i64 2, Value.bool false, Value.slice none 0 0] 69)) hE
      have hwb : w.heap.size ≤ bb := by rw [HBB.out]; exact Nat.le_refl _
      have KW3 := Lib.hid (Kept.alloc KW1.out (Obj.cells #[Value.slice none 0 0, Value.slice none 0 0, Value.slice none 0 0, Value.int IntKind.i64 2, Value.bool false, Value.slice none 0 0] 69))
      have HN := Lib.hid hn
      have HE3 := Lib.hid hE3
      clear hc hE hn hE3
      go_upto_region 11 with fail
      clear a0 a1 a2 f0 f1 f2 g0 g1 g2
      generalize ((((w1.setCell ⟨bb, 0, none⟩ (.slice none 0 0)).setCell ⟨bb, 1, none⟩ (.slice none 0 0)).setCell ⟨bb, 2, none⟩ (.slice none 0 0)).alloc (Obj.cells #[Value.slice none 0 0, Value.slice none 0 0, Value.slice none 0 0, Value.int IntKind.i64 2, Value.bool false, Value.slice none 0 0] 69)) = w4 at *
      have hn4 := HN.out
      have hE4 := HE3.out
      have KW4 := KW3
      clear HN HE3
      have hszz : bb + 1 < w1.heap.size := hbs
      obtain ⟨b6, hb6⟩ : ∃ b6 : Nat, b6 = w1.heap.size := ⟨_, rfl⟩
      rw [← hb6] at hn4 hszz ⊢
      have hwb6 : w.heap.size ≤ b6 := by omega
      clear hb6 hbs
      have x4 := cell_of_block (i := 4) hn4 rfl
      have fx4 := frozen_of_block (i := 4) hn4
      simp only [List.getElem_toArray, List.getElem_cons_zero, List.getElem_cons_succ] at x4
      have hn6 := cells6_set4 hn4 (.bool false)
      have hE6 := setCell_other (i := 4) (v := .bool false) hE4 (show b6 ≠ bb + 1 by omega)
      have hF := cells6_set hE6 (Value.slice none 0 0) (Value.slice none 0 0) (Value.slice none 0 0) (.int .i64 2) (.bool false) (Value.slice none 0 0)
      have r0 := cell_of_block (i := 0) hF rfl
      have r1 := cell_of_block (i := 1) hF rfl
      have r2 := cell_of_block (i := 2) hF rfl
      have r3 := cell_of_block (i := 3) hF rfl
      have r4 := cell_of_block (i := 4) hF rfl
      have r5 := cell_of_block (i := 5) hF rfl
      simp only [List.getElem_toArray, List.getElem_cons_zero, List.getElem_cons_succ] at r0 r1 r2 r3 r4 r5
      have HR := Lib.hid (And.intro r0 (And.intro r1 (And.intro r2 (And.intro r3 (And.intro r4 r5)))))
      clear hF r0 r1 r2 r3 r4 r5
      have u0 := cell_of_block (i := 0) hn6 rfl
      have u1 := cell_of_block (i := 1) hn6 rfl
      have u2 := cell_of_block (i := 2) hn6 rfl
      have u3 := cell_of_block (i := 3) hn6 rfl
      have u4 := cell_of_block (i := 4) hn6 rfl
      have u5 := cell_of_block (i := 5) hn6 rfl
      have d0 := cell_of_block (i := 0) hE6 rfl
      have d1 := cell_of_block (i := 1) hE6 rfl
      have d2 := cell_of_block (i := 2) hE6 rfl
      have d3 := cell_of_block (i := 3) hE6 rfl
      have d4 := cell_of_block (i := 4) hE6 rfl
      have d5 := cell_of_block (i := 5) hE6 rfl
      have e0 := frozen_of_block (i := 0) hE6
      have e1 := frozen_of_block (i := 1) hE6
      have e2 := frozen_of_block (i := 2) hE6
      have e3 := frozen_of_block (i := 3) hE6
      have e4 := frozen_of_block (i := 4) hE6
      have e5 := frozen_of_block (i := 5) hE6
      simp only [List.getElem_toArray, List.getElem_cons_zero, List.getElem_cons_succ] at u0 d0 u1 d1 u2 d2 u3 d3 u4 d4 u5 d5
      clear hn4 hn6 hE4 hE6
      go_wp2_with fail
      clear u0 d0 e0 u1 d1 e1 u2 d2 e2 u3 d3 e3 u4 d4 e4 u5 d5 e5 x4 fx4
      obtain ⟨r0, r1, r2, r3, r4, r5⟩ := HR.out
      refine bodyPost_ret (v := .tuple #[.agg #[Value.slice none 0 0, Value.slice none 0 0, Value.slice none 0 0, .int .i64 2, .bool false, .slice none 0 0], .bool true]) (by simp [results, Tryz.results47, go_sem, r0, r1, r2, r3, r4, r5]) rfl ?_
      unfold RetChk
      rw [if_neg (by omega), HSS.out]
      have hk9 := Kept.setCell (Kept.setCell (Kept.setCell (Kept.setCell (Kept.setCell (Kept.setCell (Kept.setCell KW4.out (p := ⟨b6, 4, none⟩) hwb6 (.bool false)) (p := ⟨bb + 1, 0, none⟩) (Nat.le_succ_of_le hwb) (Value.slice none 0 0)) (p := ⟨bb + 1, 1, none⟩) (Nat.le_succ_of_le hwb) (Value.slice none 0 0)) (p := ⟨bb + 1, 2, none⟩) (Nat.le_succ_of_le hwb) (Value.slice none 0 0)) (p := ⟨bb + 1, 3, none⟩) (Nat.le_succ_of_le hwb) (.int .i64 2)) (p := ⟨bb + 1, 4, none⟩) (Nat.le_succ_of_le hwb) (.bool false)) (p := ⟨bb + 1, 5, none⟩) (Nat.le_succ_of_le hwb) (Value.slice none 0 0)
      exact ⟨[], none, 0, 0, rfl, Nat.le_refl _, by omega, Sl.nil, fun x => rfl, makeR_nil, hk9⟩
  · subst h
    by_cases h0 : decCheck n = 0
    · have hb0 : (decCheck n != 0) = false := by simp [h0]
      have hss : usableS s n = s := if_pos h0
      rw [hss] at HS2
      have HSS := Lib.hid hss
      clear h0 hss
      unfold Sls.val at *
      go_enter Tryz.func47, Tryz.ntmps47
      go_wp2_with fail
      refine HC.out.mono ?_
      rintro e w1 ⟨rfl, hk3⟩
      have e1 := (hk3.block _ (block_lt HX.out)).trans HX.out
      have e2 := (hk3.block _ (block_lt HY.out)).trans HY.out
      have HE1 := Lib.hid e1
      have HE2 := Lib.hid e2
      clear e1 e2
      have HKA := Lib.hid (Kept.trans HK2.out hk3)
      obtain ⟨bb, hbb⟩ : ∃ bb : Nat, bb = w.heap.size := ⟨_, rfl⟩
      have HBB := Lib.hid hbb
      rw [← hbb] at HE1 HE2 ⊢
      have hbs : bb + 1 < w1.heap.size := block_lt HE2.out
      clear hbb hk3
      have a0 := cell_of_block (i := 0) HE1.out rfl
      have a1 := cell_of_block (i := 1) HE1.out rfl
      have a2 := cell_of_block (i := 2) HE1.out rfl
      simp only [List.getElem_toArray, List.getElem_cons_zero, List.getElem_cons_succ] at a0 a1 a2
      have hE := HE2.out
      have hc := HE1.out
      have KW1 := HKA
      have hn : (w1.alloc (Obj.cells #[Value.slice s.Ac s.nc s.cc, Value.slice s.Am s.nm s.cm, Value.slice s.Ae s.ne s.ce, Value.int IntKind.i64 3, Value.bool false, Value.slice none 0 0] 69)).heap[w1.heap.size]? = _ := alloc_at (by simp)
      have hE3 := alloc_lift (o := (Obj.cells #[Value.slice s.Ac s.nc s.cc, Value.slice s.Am s.nm s.cm, Value.slice s.Ae s.ne s.ce, Value.int IntKind.i64 3, Value.bool false, Value.slice none 0 0] 69)) hE
      have hwb : w.heap.size ≤ bb := by rw [HBB.out]; exact Nat.le_refl _
      have b0 := cell_of_block (i := 0) (alloc_lift (o := (Obj.cells #[Value.slice s.Ac s.nc s.cc, Value.slice s.Am s.nm s.cm, Value.slice s.Ae s.ne s.ce, Value.int IntKind.i64 3, Value.bool false, Value.slice none 0 0] 69)) hc) rfl
      have b1 := cell_of_block (i := 1) (alloc_lift (o := (Obj.cells #[Value.slice s.Ac s.nc s.cc, Value.slice s.Am s.nm s.cm, Value.slice s.Ae s.ne s.ce, Value.int IntKind.i64 3, Value.bool false, Value.slice none 0 0] 69)) hc) rfl
      have b2 := cell_of_block (i := 2) (alloc_lift (o := (Obj.cells #[Value.slice s.Ac s.nc s.cc, Value.slice s.Am s.nm s.cm, Value.slice s.Ae s.ne s.ce, Value.int IntKind.i64 3, Value.bool false, Value.slice none 0 0] 69)) hc) rfl
      simp only [List.getElem_toArray, List.getElem_cons_zero, List.getElem_cons_succ] at b0 b1 b2
      have KW3 := Lib.hid (Kept.alloc KW1.out (Obj.cells #[Value.slice s.Ac s.nc s.cc, Value.slice s.Am s.nm s.cm, Value.slice s.Ae s.ne s.ce, Value.int IntKind.i64 3, Value.bool false, Value.slice none 0 0] 69))
      have HN := Lib.hid hn
      have HE3 := Lib.hid hE3
      clear hc hE hn hE3
      go_wp2_with fail
      clear a0 a1 a2 b0 b1 b2
      refine (HS2.out _ KW3.out).mono ?_
      rintro e w4 ⟨R, AR, mR, cR, rfl, leR, hmR, hRR, hRS, hRM, k4⟩
      simp only [usableN_twice] at hRS
      have hn4 := (k4.block _ (block_lt HN.out)).trans HN.out
      have hE4 := (k4.block _ (block_lt HE3.out)).trans HE3.out
      have HNR := Lib.hid (chk_noRng hn4 (by intro z h; cases h) (by intro z h; cases h) (by intro z h; cases h) (by intro z h; cases h) hRR)
      have HER := Lib.hid (chk_noRng hE4 (by intro z h; cases h) (by intro z h; cases h) (by intro z h; cases h) (by intro z h; cases h) hRR)
      have KW4 := Lib.hid (Kept.trans KW3.out k4)
      have HRR := Lib.hid hRR
      have HRS := Lib.hid hRS
      have HRM := Lib.hid hRM
      clear k4 hRR hRS hRM HN HE3
      have hszz : bb + 1 < w1.heap.size := hbs
      obtain ⟨b6, hb6⟩ : ∃ b6 : Nat, b6 = w1.heap.size := ⟨_, rfl⟩
      rw [← hb6] at hn4 HNR hszz ⊢
      have hwb6 : w.heap.size ≤ b6 := by omega
      clear hb6 hbs
      have x5 := cell_of_block (i := 5) hn4 rfl
      have fx5 := frozen_of_block (i := 5) hn4
      have hn5 := cells6_set5 hn4 (.slice AR mR cR)
      have x4 := cell_of_block (i := 4) hn5 rfl
      have fx4 := frozen_of_block (i := 4) hn5
      simp only [List.getElem_toArray, List.getElem_cons_zero, List.getElem_cons_succ] at x4 x5
      have hn6 := cells6_set4 hn5 (.bool true)
      have hE5 := setCell_other (i := 5) (v := .slice AR mR cR) hE4 (show b6 ≠ bb + 1 by omega)
      have hE6 := setCell_other (i := 4) (v := .bool true) hE5 (show b6 ≠ bb + 1 by omega)
      have hF := cells6_set hE6 (Value.slice s.Ac s.nc s.cc) (Value.slice s.Am s.nm s.cm) (Value.slice s.Ae s.ne s.ce) (.int .i64 3) (.bool true) (Value.slice AR mR cR)
      have r0 := cell_of_block (i := 0) hF rfl
      have r1 := cell_of_block (i := 1) hF rfl
      have r2 := cell_of_block (i := 2) hF rfl
      have r3 := cell_of_block (i := 3) hF rfl
      have r4 := cell_of_block (i := 4) hF rfl
      have r5 := cell_of_block (i := 5) hF rfl
      simp only [List.getElem_toArray, List.getElem_cons_zero, List.getElem_cons_succ] at r0 r1 r2 r3 r4 r5
      have HR := Lib.hid (And.intro r0 (And.intro r1 (And.intro r2 (And.intro r3 (And.intro r4 r5)))))
      clear hF r0 r1 r2 r3 r4 r5
      have u0 := cell_of_block (i := 0) hn6 rfl
      have u1 := cell_of_block (i := 1) hn6 rfl
      have u2 := cell_of_block (i := 2) hn6 rfl
      have u3 := cell_of_block (i := 3) hn6 rfl
      have u4 := cell_of_block (i := 4) hn6 rfl
      have u5 := cell_of_block (i := 5) hn6 rfl
      have d0 := cell_of_block (i := 0) hE6 rfl
      have d1 := cell_of_block (i := 1) hE6 rfl
      have d2 := cell_of_block (i := 2) hE6 rfl
      have d3 := cell_of_block (i := 3) hE6 rfl
      have d4 := cell_of_block (i := 4) hE6 rfl
      have d5 := cell_of_block (i := 5) hE6 rfl
      have e0 := frozen_of_block (i := 0) hE6
      have e1 := frozen_of_block (i := 1) hE6
      have e2 := frozen_of_block (i := 2) hE6
      have e3 := frozen_of_block (i := 3) hE6
      have e4 := frozen_of_block (i := 4) hE6
      have e5 := frozen_of_block (i := 5) hE6
      simp only [List.getElem_toArray, List.getElem_cons_zero, List.getElem_cons_succ] at u0 d0 u1 d1 u2 d2 u3 d3 u4 d4 u5 d5
      clear hn4 hn5 hn6 hE4 hE5 hE6
      go_wp2_with fail
      clear u0 d0 e0 u1 d1 e1 u2 d2 e2 u3 d3 e3 u4 d4 e4 u5 d5 e5 x4 fx4 x5 fx5
      obtain ⟨r0, r1, r2, r3, r4, r5⟩ := HR.out
      refine bodyPost_ret (v := .tuple #[.agg #[Value.slice s.Ac s.nc s.cc, Value.slice s.Am s.nm s.cm, Value.slice s.Ae s.ne s.ce, .int .i64 3, .bool true, .slice AR mR cR], .bool true]) (by simp [results, Tryz.results47, go_sem, r0, r1, r2, r3, r4, r5]) rfl ?_
      unfold RetChk
      rw [if_neg (by omega), HSS.out]
      have hk9 := Kept.setCell (Kept.setCell (Kept.setCell (Kept.setCell (Kept.setCell (Kept.setCell (Kept.setCell (Kept.setCell KW4.out (p := ⟨b6, 5, none⟩) hwb6 (.slice AR mR cR)) (p := ⟨b6, 4, none⟩) hwb6 (.bool true)) (p := ⟨bb + 1, 0, none⟩) (Nat.le_succ_of_le hwb) (Value.slice s.Ac s.nc s.cc)) (p := ⟨bb + 1, 1, none⟩) (Nat.le_succ_of_le hwb) (Value.slice s.Am s.nm s.cm)) (p := ⟨bb + 1, 2, none⟩) (Nat.le_succ_of_le hwb) (Value.slice s.Ae s.ne s.ce)) (p := ⟨bb + 1, 3, none⟩) (Nat.le_succ_of_le hwb) (.int .i64 3)) (p := ⟨bb + 1, 4, none⟩) (Nat.le_succ_of_le hwb) (.bool true)) (p := ⟨bb + 1, 5, none⟩) (Nat.le_succ_of_le hwb) (Value.slice AR mR cR)
      exact ⟨R, AR, mR, cR, rfl, leR, hmR, Rngs.sets (Rngs.sets (Rngs.sets (Rngs.sets (Rngs.sets (Rngs.sets (Rngs.sets (Rngs.sets (HRR.out) HNR.out 5 _) HNR.out 4 _) HER.out 0 _) HER.out 1 _) HER.out 2 _) HER.out 3 _) HER.out 4 _) HER.out 5 _, HRS.out, HRM.out, hk9⟩
    · have hb0 : (decCheck n != 0) = true := by simp [h0]
      have hss : usableS s n = emptyS := if_neg h0
      rw [hss] at HS2
      have HSS := Lib.hid hss
      clear h0 hss
      unfold Sls.val at *
      go_enter Tryz.func47, Tryz.ntmps47
      go_wp2_with fail
      refine HC.out.mono ?_
      rintro e w1 ⟨rfl, hk3⟩
      have e1 := (hk3.block _ (block_lt HX.out)).trans HX.out
      have e2 := (hk3.block _ (block_lt HY.out)).trans HY.out
      have HE1 := Lib.hid e1
      have HE2 := Lib.hid e2
      clear e1 e2
      have HKA := Lib.hid (Kept.trans HK2.out hk3)
      obtain ⟨bb, hbb⟩ : ∃ bb : Nat, bb = w.heap.size := ⟨_, rfl⟩
      have HBB := Lib.hid hbb
      rw [← hbb] at HE1 HE2 ⊢
      have hbs : bb + 1 < w1.heap.size := block_lt HE2.out
      clear hbb hk3
      have a0 := cell_of_block (i := 0) HE1.out rfl
      have a1 := cell_of_block (i := 1) HE1.out rfl
      have a2 := cell_of_block (i := 2) HE1.out rfl
      simp only [List.getElem_toArray, List.getElem_cons_zero, List.getElem_cons_succ] at a0 a1 a2
      have f0 := frozen_of_block (i := 0) HE1.out
      have f1 := frozen_of_block (i := 1) HE1.out
      have f2 := frozen_of_block (i := 2) HE1.out
      have hc := cells3_set (v0 := .slice none 0 0) (v1 := .slice none 0 0) (v2 := .slice none 0 0) HE1.out
      have hE := setCell_other (i := 2) (v := .slice none 0 0) (setCell_other (i := 1) (v := .slice none 0 0) (setCell_other (i := 0) (v := .slice none 0 0) HE2.out (show bb ≠ bb + 1 by omega)) (show bb ≠ bb + 1 by omega)) (show bb ≠ bb + 1 by omega)
      have g0 := cell_of_block (i := 0) hc rfl
      have g1 := cell_of_block (i := 1) hc rfl
      have g2 := cell_of_block (i := 2) hc rfl
      simp only [List.getElem_toArray, List.getElem_cons_zero, List.getElem_cons_succ] at g0 g1 g2
      have KW1 := Lib.hid (Kept.setCell (Kept.setCell (Kept.setCell HKA.out (p := ⟨bb, 0, none⟩) (by rw [HBB.out]; exact Nat.le_refl _) (.slice none 0 0)) (p := ⟨bb, 1, none⟩) (by rw [HBB.out]; exact Nat.le_refl _) (.slice none 0 0)) (p := ⟨bb, 2, none⟩) (by rw [HBB.out]; exact Nat.le_refl _) (.slice none 0 0))
      have hn : ((((w1.setCell ⟨bb, 0, none⟩ (.slice none 0 0)).setCell ⟨bb, 1, none⟩ (.slice none 0 0)).setCell ⟨bb, 2, none⟩ (.slice none 0 0)).alloc (Obj.cells #[Value.slice none 0 0, Value.slice none 0 0, Value.slice none 0 0, Value.int IntKind.i64 3, Value.bool false, Value.slice none 0 0] 69)).heap[w1.heap.size]? = _ := alloc_at (by simp)
      have hE3 := alloc_lift (o := (Obj.cells #[Value.slice none 0 0, Value.slice none 0 0, Value.slice none 0 0, Value.int IntKind.i64 3, Value.bool false, Value.slice none 0 0] 69)) hE
      have hwb : w.heap.size ≤ bb := by rw [HBB.out]; exact Nat.le_refl _
      have b0 := cell_of_block (i := 0) (alloc_lift (o := (Obj.cells #[Value.slice none 0 0, Value.slice none 0 0, Value.slice none 0 0, Value.int IntKind.i64 3, Value.bool false, Value.slice none 0 0] 69)) hc) rfl
      have b1 := cell_of_block (i := 1) (alloc_lift (o := (Obj.cells #[Value.slice none 0 0, Value.slice none 0 0, Value.slice none 0 0, Value.int IntKind.i64 3, Value.bool false, Value.slice none 0 0] 69)) hc) rfl
      have b2 := cell_of_block (i := 2) (alloc_lift (o := (Obj.cells #[Value.slice none 0 0, Value.slice none 0 0, Value.slice none 0 0, Value.int IntKind.i64 3, Value.bool false, Value.slice none 0 0] 69)) hc) rfl
      simp only [List.getElem_toArray, List.getElem_cons_zero, List.getElem_cons_succ] at b0 b1 b2
      have KW3 := Lib.hid (Kept.alloc KW1.out (Obj.cells #[Value.slice none 0 0, Value.slice none 0 0, Value.slice none 0 0, Value.int IntKind.i64 3, Value.bool false, Value.slice none 0 0] 69))
      have HN := Lib.hid hn
      have HE3 := Lib.hid hE3
      clear hc hE hn hE3
      go_wp2_with fail
      clear a0 a1 a2 b0 b1 b2 f0 f1 f2 g0 g1 g2
      refine (HS2.out _ KW3.out).mono ?_
      rintro e w4 ⟨R, AR, mR, cR, rfl, leR, hmR, hRR, hRS, hRM, k4⟩
      simp only [usableN_twice] at hRS
      have hn4 := (k4.block _ (block_lt HN.out)).trans HN.out
      have hE4 := (k4.block _ (block_lt HE3.out)).trans HE3.out
      have HNR := Lib.hid (chk_noRng hn4 (by intro z h; cases h) (by intro z h; cases h) (by intro z h; cases h) (by intro z h; cases h) hRR)
      have HER := Lib.hid (chk_noRng hE4 (by intro z h; cases h) (by intro z h; cases h) (by intro z h; cases h) (by intro z h; cases h) hRR)
      have KW4 := Lib.hid (Kept.trans KW3.out k4)
      have HRR := Lib.hid hRR
      have HRS := Lib.hid hRS
      have HRM := Lib.hid hRM
      clear k4 hRR hRS hRM HN HE3
      have hszz : bb + 1 < w1.heap.size := hbs
      obtain ⟨b6, hb6⟩ : ∃ b6 : Nat, b6 = w1.heap.size := ⟨_, rfl⟩
      rw [← hb6] at hn4 HNR hszz ⊢
      have hwb6 : w.heap.size ≤ b6 := by omega
      clear hb6 hbs
      have x5 := cell_of_block (i := 5) hn4 rfl
      have fx5 := frozen_of_block (i := 5) hn4
      have hn5 := cells6_set5 hn4 (.slice AR mR cR)
      have x4 := cell_of_block (i := 4) hn5 rfl
      have fx4 := frozen_of_block (i := 4) hn5
      simp only [List.getElem_toArray, List.getElem_cons_zero, List.getElem_cons_succ] at x4 x5
      have hn6 := cells6_set4 hn5 (.bool true)
      have hE5 := setCell_other (i := 5) (v := .slice AR mR cR) hE4 (show b6 ≠ bb + 1 by omega)
      have hE6 := setCell_other (i := 4) (v := .bool true) hE5 (show b6 ≠ bb + 1 by omega)
      have hF := cells6_set hE6 (Value.slice none 0 0) (Value.slice none 0 0) (Value.slice none 0 0) (.int .i64 3) (.bool true) (Value.slice AR mR cR)
      have r0 := cell_of_block (i := 0) hF rfl
      have r1 := cell_of_block (i := 1) hF rfl
      have r2 := cell_of_block (i := 2) hF rfl
      have r3 := cell_of_block (i := 3) hF rfl
      have r4 := cell_of_block (i := 4) hF rfl
      have r5 := cell_of_block (i := 5) hF rfl
      simp only [List.getElem_toArray, List.getElem_cons_zero, List.getElem_cons_succ] at r0 r1 r2 r3 r4 r5
      have HR := Lib.hid (And.intro r0 (And.intro r1 (And.intro r2 (And.intro r3 (And.intro r4 r5)))))
      clear hF r0 r1 r2 r3 r4 r5
      have u0 := cell_of_block (i := 0) hn6 rfl
      have u1 := cell_of_block (i := 1) hn6 rfl
      have u2 := cell_of_block (i := 2) hn6 rfl
      have u3 := cell_of_block (i := 3) hn6 rfl
      have u4 := cell_of_block (i := 4) hn6 rfl
      have u5 := cell_of_block (i := 5) hn6 rfl
      have d0 := cell_of_block (i := 0) hE6 rfl
      have d1 := cell_of_block (i := 1) hE6 rfl
      have d2 := cell_of_block (i := 2) hE6 rfl
      have d3 := cell_of_block (i := 3) hE6 rfl
      have d4 := cell_of_block (i := 4) hE6 rfl
      have d5 := cell_of_block (i := 5) hE6 rfl
      have e0 := frozen_of_block (i := 0) hE6
      have e1 := frozen_of_block (i := 1) hE6
      have e2 := frozen_of_block (i := 2) hE6
      have e3 := frozen_of_block (i := 3) hE6
      have e4 := frozen_of_block (i := 4) hE6
      have e5 := frozen_of_block (i := 5) hE6
      simp only [List.getElem_toArray, List.getElem_cons_zero, List.getElem_cons_succ] at u0 d0 u1 d1 u2 d2 u3 d3 u4 d4 u5 d5
      clear hn4 hn5 hn6 hE4 hE5 hE6
      go_wp2_with fail
      clear u0 d0 e0 u1 d1 e1 u2 d2 e2 u3 d3 e3 u4 d4 e4 u5 d5 e5 x4 fx4 x5 fx5
      obtain ⟨r0, r1, r2, r3, r4, r5⟩ := HR.out
      refine bodyPost_ret (v := .tuple #[.agg #[Value.slice none 0 0, Value.slice none 0 0, Value.slice none 0 0, .int .i64 3, .bool true, .slice AR mR cR], .bool true]) (by simp [results, Tryz.results47, go_sem, r0, r1, r2, r3, r4, r5]) rfl ?_
      unfold RetChk
      rw [if_neg (by omega), HSS.out]
      have hk9 := Kept.setCell (Kept.setCell (Kept.setCell (Kept.setCell (Kept.setCell (Kept.setCell (Kept.setCell (Kept.setCell KW4.out (p := ⟨b6, 5, none⟩) hwb6 (.slice AR mR cR)) (p := ⟨b6, 4, none⟩) hwb6 (.bool true)) (p := ⟨bb + 1, 0, none⟩) (Nat.le_succ_of_le hwb) (Value.slice none 0 0)) (p := ⟨bb + 1, 1, none⟩) (Nat.le_succ_of_le hwb) (Value.slice none 0 0)) (p := ⟨bb + 1, 2, none⟩) (Nat.le_succ_of_le hwb) (Value.slice none 0 0)) (p := ⟨bb + 1, 3, none⟩) (Nat.le_succ_of_le hwb) (.int .i64 3)) (p := ⟨bb + 1, 4, none⟩) (Nat.le_succ_of_le hwb) (.bool true)) (p := ⟨bb + 1, 5, none⟩) (Nat.le_succ_of_le hwb) (Value.slice AR mR cR)
      exact ⟨R, AR, mR, cR, rfl, leR, hmR, Rngs.sets (Rngs.sets (Rngs.sets (Rngs.sets (Rngs.sets (Rngs.sets (Rngs.sets (Rngs.sets (HRR.out) HNR.out 5 _) HNR.out 4 _) HER.out 0 _) HER.out 1 _) HER.out 2 _) HER.out 3 _) HER.out 4 _) HER.out 5 _, HRS.out, HRM.out, hk9⟩
  · subst h
    by_cases h0 : decCheck n = 0
    · have hb0 : (decCheck n != 0) = false := by simp [h0]
      have hss : usableS s n = s := if_pos h0
      rw [hss] at HS2
      have HSS := Lib.hid hss
      clear h0 hss
      unfold Sls.val at *
      go_enter Tryz.func47, Tryz.ntmps47
      go_wp2_with fail
      refine HC.out.mono ?_
      rintro e w1 ⟨rfl, hk3⟩
      have e1 := (hk3.block _ (block_lt HX.out)).trans HX.out
      have e2 := (hk3.block _ (block_lt HY.out)).trans HY.out
      have HE1 := Lib.hid e1
      have HE2 := Lib.hid e2
      clear e1 e2
      have HKA := Lib.hid (Kept.trans HK2.out hk3)
      obtain ⟨bb, hbb⟩ : ∃ bb : Nat, bb = w.heap.size := ⟨_, rfl⟩
      have HBB := Lib.hid hbb
      rw [← hbb] at HE1 HE2 ⊢
      have hbs : bb + 1 < w1.heap.size := block_lt HE2.out
      clear hbb hk3
      have a0 := cell_of_block (i := 0) HE1.out rfl
      have a1 := cell_of_block (i := 1) HE1.out rfl
      have a2 := cell_of_block (i := 2) HE1.out rfl
      simp only [List.getElem_toArray, List.getElem_cons_zero, List.getElem_cons_succ] at a0 a1 a2
      have hE := HE2.out
      have hc := HE1.out
      have KW1 := HKA
      have hn : (w1.alloc (Obj.cells #[Value.slice s.Ac s.nc s.cc, Value.slice s.Am s.nm s.cm, Value.slice s.Ae s.ne s.ce, Value.int IntKind.i64 4, Value.bool false, Value.slice none 0 0] 69)).heap[w1.heap.size]? = _ := alloc_at (by simp)
      have hE3 := alloc_lift (o := (Obj.cells #[Value.slice s.Ac s.nc s.cc, Value.slice s.Am s.nm s.cm, Value.slice s.Ae s.ne s.ce, Value.int IntKind.i64 4, Value.bool false, Value.slice none 0 0] 69)) hE
      have hwb : w.heap.size ≤ bb := by rw [HBB.out]; exact Nat.le_refl _
      have KW3 := Lib.hid (Kept.alloc KW1.out (Obj.cells #[Value.slice s.Ac s.nc s.cc, Value.slice s.Am s.nm s.cm, Value.slice s.Ae s.ne s.ce, Value.int IntKind.i64 4, Value.bool false, Value.slice none 0 0] 69))
      have HN := Lib.hid hn
      have HE3 := Lib.hid hE3
      clear hc hE hn hE3
      go_upto_region 11 with fail
      clear a0 a1 a2
      generalize (w1.alloc (Obj.cells #[Value.slice s.Ac s.nc s.cc, Value.slice s.Am s.nm s.cm, Value.slice s.Ae s.ne s.ce, Value.int IntKind.i64 4, Value.bool false, Value.slice none 0 0] 69)) = w4 at *
      have hn4 := HN.out
      have hE4 := HE3.out
      have KW4 := KW3
      clear HN HE3
      have hszz : bb + 1 < w1.heap.size := hbs
      obtain ⟨b6, hb6⟩ : ∃ b6 : Nat, b6 = w1.heap.size := ⟨_, rfl⟩
      rw [← hb6] at hn4 hszz ⊢
      have hwb6 : w.heap.size ≤ b6 := by omega
      clear hb6 hbs
      have x4 := cell_of_block (i := 4) hn4 rfl
      have fx4 := frozen_of_block (i := 4) hn4
      simp only [List.getElem_toArray, List.getElem_cons_zero, List.getElem_cons_succ] at x4
      have hn6 := cells6_set4 hn4 (.bool true)
      have hE6 := setCell_other (i := 4) (v := .bool true) hE4 (show b6 ≠ bb + 1 by omega)
      have hF := cells6_set hE6 (Value.slice s.Ac s.nc s.cc) (Value.slice s.Am s.nm s.cm) (Value.slice s.Ae s.ne s.ce) (.int .i64 4) (.bool true) (Value.slice none 0 0)
      have r0 := cell_of_block (i := 0) hF rfl
      have r1 := cell_of_block (i := 1) hF rfl
      have r2 := cell_of_block (i := 2) hF rfl
      have r3 := cell_of_block (i := 3) hF rfl
      have r4 := cell_of_block (i := 4) hF rfl
      have r5 := cell_of_block (i := 5) hF rfl
      simp only [List.getElem_toArray, List.getElem_cons_zero, List.getElem_cons_succ] at r0 r1 r2 r3 r4 r5
      have HR := Lib.hid (And.intro r0 (And.intro r1 (And.intro r2 (And.intro r3 (And.intro r4 r5)))))
      clear hF r0 r1 r2 r3 r4 r5
      have u0 := cell_of_block (i := 0) hn6 rfl
      have u1 := cell_of_block (i := 1) hn6 rfl
      have u2 := cell_of_block (i := 2) hn6 rfl
      have u3 := cell_of_block (i := 3) hn6 rfl
      have u4 := cell_of_block (i := 4) hn6 rfl
      have u5 := cell_of_block (i := 5) hn6 rfl
      have d0 := cell_of_block (i := 0) hE6 rfl
      have d1 := cell_of_block (i := 1) hE6 rfl
      have d2 := cell_of_block (i := 2) hE6 rfl
      have d3 := cell_of_block (i := 3) hE6 rfl
      have d4 := cell_of_block (i := 4) hE6 rfl
      have d5 := cell_of_block (i := 5) hE6 rfl
      have e0 := frozen_of_block (i := 0) hE6
      have e1 := frozen_of_block (i := 1) hE6
      have e2 := frozen_of_block (i := 2) hE6
      have e3 := frozen_of_block (i := 3) hE6
      have e4 := frozen_of_block (i := 4) hE6
      have e5 := frozen_of_block (i := 5) hE6
      simp only [List.getElem_toArray, List.getElem_cons_zero, List.getElem_cons_succ] at u0 d0 u1 d1 u2 d2 u3 d3 u4 d4 u5 d5
      clear hn4 hn6 hE4 hE6
      go_wp2_with fail
      clear u0 d0 e0 u1 d1 e1 u2 d2 e2 u3 d3 e3 u4 d4 e4 u5 d5 e5 x4 fx4
      obtain ⟨r0, r1, r2, r3, r4, r5⟩ := HR.out
      refine bodyPost_ret (v := .tuple #[.agg #[Value.slice s.Ac s.nc s.cc, Value.slice s.Am s.nm s.cm, Value.slice s.Ae s.ne s.ce, .int .i64 4, .bool true, .slice none 0 0], .bool true]) (by simp [results, Tryz.results47, go_sem, r0, r1, r2, r3, r4, r5]) rfl ?_
      unfold RetChk
      rw [if_neg (by omega), HSS.out]
      have hk9 := Kept.setCell (Kept.setCell (Kept.setCell (Kept.setCell (Kept.setCell (Kept.setCell (Kept.setCell KW4.out (p := ⟨b6, 4, none⟩) hwb6 (.bool true)) (p := ⟨bb + 1, 0, none⟩) (Nat.le_succ_of_le hwb) (Value.slice s.Ac s.nc s.cc)) (p := ⟨bb + 1, 1, none⟩) (Nat.le_succ_of_le hwb) (Value.slice s.Am s.nm s.cm)) (p := ⟨bb + 1, 2, none⟩) (Nat.le_succ_of_le hwb) (Value.slice s.Ae s.ne s.ce)) (p := ⟨bb + 1, 3, none⟩) (Nat.le_succ_of_le hwb) (.int .i64 4)) (p := ⟨bb + 1, 4, none⟩) (Nat.le_succ_of_le hwb) (.bool true)) (p := ⟨bb + 1, 5, none⟩) (Nat.le_succ_of_le hwb) (Value.slice none 0 0)
      exact ⟨[], none, 0, 0, rfl, Nat.le_refl _, by omega, Sl.nil, fun x => rfl, makeR_nil, hk9⟩
    · have hb0 : (decCheck n != 0) = true := by simp [h0]
      have hss : usableS s n = emptyS := if_neg h0
      rw [hss] at HS2
      have HSS := Lib.hid hss
      clear h0 hss
      unfold Sls.val at *
      go_enter Tryz.func47, Tryz.ntmps47
      go_wp2_with fail
      refine HC.out.mono ?_
      rintro e w1 ⟨rfl, hk3⟩
      have e1 := (hk3.block _ (block_lt HX.out)).trans HX.out
      have e2 := (hk3.block _ (block_lt HY.out)).trans HY.out
      have HE1 := Lib.hid e1
      have HE2 := Lib.hid e2
      clear e1 e2
      have HKA := Lib.hid (Kept.trans HK2.out hk3)
      obtain ⟨bb, hbb⟩ : ∃ bb : Nat, bb = w.heap.size := ⟨_, rfl⟩
      have HBB := Lib.hid hbb
      rw [← hbb] at HE1 HE2 ⊢
      have hbs : bb + 1 < w1.heap.size := block_lt HE2.out
      clear hbb hk3
      have a0 := cell_of_block (i := 0) HE1.out rfl
      have a1 := cell_of_block (i := 1) HE1.out rfl
      have a2 := cell_of_block (i := 2) HE1.out rfl
      simp only [List.getElem_toArray, List.getElem_cons_zero, List.getElem_cons_succ] at a0 a1 a2
      have f0 := frozen_of_block (i := 0) HE1.out
      have f1 := frozen_of_block (i := 1) HE1.out
      have f2 := frozen_of_block (i := 2) HE1.out
      have hc := cells3_set (v0 := .slice none 0 0) (v1 := .slice none 0 0) (v2 := .slice none 0 0) HE1.out
      have hE := setCell_other (i := 2) (v := .slice none 0 0) (setCell_other (i := 1) (v := .slice none 0 0) (setCell_other (i := 0) (v := .slice none 0 0) HE2.out (show bb ≠ bb + 1 by omega)) (show bb ≠ bb + 1 by omega)) (show bb ≠ bb + 1 by omega)
      have g0 := cell_of_block (i := 0) hc rfl
      have g1 := cell_of_block (i := 1) hc rfl
      have g2 := cell_of_block (i := 2) hc rfl
      simp only [List.getElem_toArray, List.getElem_cons_zero, List.getElem_cons_succ] at g0 g1 g2
      have KW1 := Lib.hid (Kept.setCell (Kept.setCell (Kept.setCell HKA.out (p := ⟨bb, 0, none⟩) (by rw [HBB.out]; exact Nat.le_refl _) (.slice none 0 0)) (p := ⟨bb, 1, none⟩) (by rw [HBB.out]; exact Nat.le_refl _) (.slice none 0 0)) (p := ⟨bb, 2, none⟩) (by rw [HBB.out]; exact Nat.le_refl _) (.slice none 0 0))
      have hn : ((((w1.setCell ⟨bb, 0, none⟩ (.slice none 0 0)).setCell ⟨bb, 1, none⟩ (.slice none 0 0)).setCell ⟨bb, 2, none⟩ (.slice none 0 0)).alloc (Obj.cells #[Value.slice none 0 0, Value.slice none 0 0, Value.slice none 0 0, Value.int IntKind.i64 4, Value.bool false, Value.slice none 0 0] 69)).heap[w1.heap.size]? = _ := alloc_at (by simp)
      have hE3 := alloc_lift (o := (Obj.cells #[Value.slice none 0 0, Value.slice none 0 0, Value.slice none 0 0, Value.int IntKind.i64 4, Value.bool false, Value.slice none 0 0] 69)) hE
      have hwb : w.heap.size ≤ bb := by rw [HBB.out]; exact Nat.le_refl _
      have KW3 := Lib.hid (Kept.alloc KW1.out (Obj.cells #[Value.slice none 0 0, Value.slice none 0 0, Value.slice none 0 0, Value.int IntKind.i64 4, Value.bool false, Value.slice none 0 0] 69))
      have HN := Lib.hid hn
      have HE3 := Lib.hid hE3
      clear hc hE hn hE3
      go_upto_region 11 with fail
      clear a0 a1 a2 f0 f1 f2 g0 g1 g2
      generalize ((((w1.setCell ⟨bb, 0, none⟩ (.slice none 0 0)).setCell ⟨bb, 1, none⟩ (.slice none 0 0)).setCell ⟨bb, 2, none⟩ (.slice none 0 0)).alloc (Obj.cells #[Value.slice none 0 0, Value.slice none 0 0, Value.slice none 0 0, Value.int IntKind.i64 4, Value.bool false, Value.slice none 0 0] 69)) = w4 at *
      have hn4 := HN.out
      have hE4 := HE3.out
      have KW4 := KW3
      clear HN HE3
      have hszz : bb + 1 < w1.heap.size := hbs
      obtain ⟨b6, hb6⟩ : ∃ b6 : Nat, b6 = w1.heap.size := ⟨_, rfl⟩
      rw [← hb6] at hn4 hszz ⊢
      have hwb6 : w.heap.size ≤ b6 := by omega
      clear hb6 hbs
      have x4 := cell_of_block (i := 4) hn4 rfl
      have fx4 := frozen_of_block (i := 4) hn4
      simp only [List.getElem_toArray, List.getElem_cons_zero, List.getElem_cons_succ] at x4
      have hn6 := cells6_set4 hn4 (.bool true)
      have hE6 := setCell_other (i := 4) (v := .bool true) hE4 (show b6 ≠ bb + 1 by omega)
      have hF := cells6_set hE6 (Value.slice none 0 0) (Value.slice none 0 0) (Value.slice none 0 0) (.int .i64 4) (.bool true) (Value.slice none 0 0)
      have r0 := cell_of_block (i := 0) hF rfl
      have r1 := cell_of_block (i := 1) hF rfl
      have r2 := cell_of_block (i := 2) hF rfl
      have r3 := cell_of_block (i := 3) hF rfl
      have r4 := cell_of_block (i := 4) hF rfl
      have r5 := cell_of_block (i := 5) hF rfl
      simp only [List.getElem_toArray, List.getElem_cons_zero, List.getElem_cons_succ] at r0 r1 r2 r3 r4 r5
      have HR := Lib.hid (And.intro r0 (And.intro r1 (And.intro r2 (And.intro r3 (And.intro r4 r5)))))
      clear hF r0 r1 r2 r3 r4 r5
      have u0 := cell_of_block (i := 0) hn6 rfl
      have u1 := cell_of_block (i := 1) hn6 rfl
      have u2 := cell_of_block (i := 2) hn6 rfl
      have u3 := cell_of_block (i := 3) hn6 rfl
      have u4 := cell_of_block (i := 4) hn6 rfl
      have u5 := cell_of_block (i := 5) hn6 rfl
      have d0 := cell_of_block (i := 0) hE6 rfl
      have d1 := cell_of_block (i := 1) hE6 rfl
      have d2 := cell_of_block (i := 2) hE6 rfl
      have d3 := cell_of_block (i := 3) hE6 rfl
      have d4 := cell_of_block (i := 4) hE6 rfl
      have d5 := cell_of_block (i := 5) hE6 rfl
      have e0 := frozen_of_block (i := 0) hE6
      have e1 := frozen_of_block (i := 1) hE6
      have e2 := frozen_of_block (i := 2) hE6
      have e3 := frozen_of_block (i := 3) hE6
      have e4 := frozen_of_block (i := 4) hE6
      have e5 := frozen_of_block (i := 5) hE6
      simp only [List.getElem_toArray, List.getElem_cons_zero, List.getElem_cons_succ] at u0 d0 u1 d1 u2 d2 u3 d3 u4 d4 u5 d5
      clear hn4 hn6 hE4 hE6
      go_wp2_with fail
      clear u0 d0 e0 u1 d1 e1 u2 d2 e2 u3 d3 e3 u4 d4 e4 u5 d5 e5 x4 fx4
      obtain ⟨r0, r1, r2, r3, r4, r5⟩ := HR.out
      refine bodyPost_ret (v := .tuple #[.agg #[Value.slice none 0 0, Value.slice none 0 0, Value.slice none 0 0, .int .i64 4, .bool true, .slice none 0 0], .bool true]) (by simp [results, Tryz.results47, go_sem, r0, r1, r2, r3, r4, r5]) rfl ?_
      unfold RetChk
      rw [if_neg (by omega), HSS.out]
      have hk9 := Kept.setCell (Kept.setCell (Kept.setCell (Kept.setCell (Kept.setCell (Kept.setCell (Kept.setCell KW4.out (p := ⟨b6, 4, none⟩) hwb6 (.bool true)) (p := ⟨bb + 1, 0, none⟩) (Nat.le_succ_of_le hwb) (Value.slice none 0 0)) (p := ⟨bb + 1, 1, none⟩) (Nat.le_succ_of_le hwb) (Value.slice none 0 0)) (p := ⟨bb + 1, 2, none⟩) (Nat.le_succ_of_le hwb) (Value.slice none 0 0)) (p := ⟨bb + 1, 3, none⟩) (Nat.le_succ_of_le hwb) (.int .i64 4)) (p := ⟨bb + 1, 4, none⟩) (Nat.le_succ_of_le hwb) (.bool true)) (p := ⟨bb + 1, 5, none⟩) (Nat.le_succ_of_le hwb) (Value.slice none 0 0)
      exact ⟨[], none, 0, 0, rfl, Nat.le_refl _, by omega, Sl.nil, fun x => rfl, makeR_nil, hk9⟩
  · have h1 : (form == 1) = false := by simp; omega
    have h2 : (form == 2) = false := by simp; omega
    have h3 : (form == 3) = false := by simp; omega
    have h4 : (form == 4) = false := by simp; omega
    by_cases h0 : decCheck n = 0
    · have hb0 : (decCheck n != 0) = false := by simp [h0]
      clear h0
      have HFF := Lib.hid h
      clear h
      unfold Sls.val at *
      go_enter Tryz.func47, Tryz.ntmps47
      go_wp2_with fail
      refine HC.out.mono ?_
      rintro e w1 ⟨rfl, hk3⟩
      have e1 := (hk3.block _ (block_lt HX.out)).trans HX.out
      have e2 := (hk3.block _ (block_lt HY.out)).trans HY.out
      have HE1 := Lib.hid e1
      have HE2 := Lib.hid e2
      clear e1 e2
      have HKA := Lib.hid (Kept.trans HK2.out hk3)
      obtain ⟨bb, hbb⟩ : ∃ bb : Nat, bb = w.heap.size := ⟨_, rfl⟩
      have HBB := Lib.hid hbb
      rw [← hbb] at HE1 HE2 ⊢
      have hbs : bb + 1 < w1.heap.size := block_lt HE2.out
      clear hbb hk3
      have a0 := cell_of_block (i := 0) HE1.out rfl
      have a1 := cell_of_block (i := 1) HE1.out rfl
      have a2 := cell_of_block (i := 2) HE1.out rfl
      simp only [List.getElem_toArray, List.getElem_cons_zero, List.getElem_cons_succ] at a0 a1 a2
      have hE := HE2.out
      have hc := HE1.out
      have KW1 := HKA
      have hwb : w.heap.size ≤ bb := by rw [HBB.out]; exact Nat.le_refl _
      have HE3 := Lib.hid (alloc_lift (o := (Obj.cells #[Value.slice s.Ac s.nc s.cc, Value.slice s.Am s.nm s.cm, Value.slice s.Ae s.ne s.ce, Value.int IntKind.i64 form, Value.bool false, Value.slice none 0 0] 69)) hE)
      have KW3 := Lib.hid (Kept.alloc KW1.out (Obj.cells #[Value.slice s.Ac s.nc s.cc, Value.slice s.Am s.nm s.cm, Value.slice s.Ae s.ne s.ce, Value.int IntKind.i64 form, Value.bool false, Value.slice none 0 0] 69))
      clear hc hE
      go_upto_region 5 with fail
      clear a0 a1 a2
      generalize (w1.alloc (Obj.cells #[Value.slice s.Ac s.nc s.cc, Value.slice s.Am s.nm s.cm, Value.slice s.Ae s.ne s.ce, Value.int IntKind.i64 form, Value.bool false, Value.slice none 0 0] 69)) = w4 at *
      have hE3 := HE3.out
      clear HE3
      have hF := cells6_set hE3 (.slice none 0 0) (.slice none 0 0) (.slice none 0 0) (.int .i64 0) (.bool false) (.slice none 0 0)
      have r0 := cell_of_block (i := 0) hF rfl
      have r1 := cell_of_block (i := 1) hF rfl
      have r2 := cell_of_block (i := 2) hF rfl
      have r3 := cell_of_block (i := 3) hF rfl
      have r4 := cell_of_block (i := 4) hF rfl
      have r5 := cell_of_block (i := 5) hF rfl
      simp only [List.getElem_toArray, List.getElem_cons_zero, List.getElem_cons_succ] at r0 r1 r2 r3 r4 r5
      have HR := Lib.hid (And.intro r0 (And.intro r1 (And.intro r2 (And.intro r3 (And.intro r4 r5)))))
      clear hF r0 r1 r2 r3 r4 r5
      have d0 := cell_of_block (i := 0) hE3 rfl
      have d1 := cell_of_block (i := 1) hE3 rfl
      have d2 := cell_of_block (i := 2) hE3 rfl
      have d3 := cell_of_block (i := 3) hE3 rfl
      have d4 := cell_of_block (i := 4) hE3 rfl
      have d5 := cell_of_block (i := 5) hE3 rfl
      have e0 := frozen_of_block (i := 0) hE3
      have e1 := frozen_of_block (i := 1) hE3
      have e2 := frozen_of_block (i := 2) hE3
      have e3 := frozen_of_block (i := 3) hE3
      have e4 := frozen_of_block (i := 4) hE3
      have e5 := frozen_of_block (i := 5) hE3
      simp only [List.getElem_toArray, List.getElem_cons_zero, List.getElem_cons_succ] at d0 d1 d2 d3 d4 d5
      have hk9 := Lib.hid (Kept.setCell (Kept.setCell (Kept.setCell (Kept.setCell (Kept.setCell (Kept.setCell (KW3.out) (p := ⟨bb + 1, 0, none⟩) (Nat.le_succ_of_le hwb) (.slice none 0 0)) (p := ⟨bb + 1, 1, none⟩) (Nat.le_succ_of_le hwb) (.slice none 0 0)) (p := ⟨bb + 1, 2, none⟩) (Nat.le_succ_of_le hwb) (.slice none 0 0)) (p := ⟨bb + 1, 3, none⟩) (Nat.le_succ_of_le hwb) (.int .i64 0)) (p := ⟨bb + 1, 4, none⟩) (Nat.le_succ_of_le hwb) (.bool false)) (p := ⟨bb + 1, 5, none⟩) (Nat.le_succ_of_le hwb) (.slice none 0 0))
      clear hE3
      go_wp2_with fail
      clear d0 e0 d1 e1 d2 e2 d3 e3 d4 e4 d5 e5
      obtain ⟨r0, r1, r2, r3, r4, r5⟩ := HR.out
      refine bodyPost_ret (v := .tuple #[.agg #[.slice none 0 0, .slice none 0 0, .slice none 0 0, .int .i64 0, .bool false, .slice none 0 0], .bool false]) (by simp [results, Tryz.results47, go_sem, r0, r1, r2, r3, r4, r5]) rfl ?_
      unfold RetChk
      rw [if_pos HFF.out]
      exact ⟨rfl, hk9.out⟩
    · have hb0 : (decCheck n != 0) = true := by simp [h0]
      clear h0
      have HFF := Lib.hid h
      clear h
      unfold Sls.val at *
      go_enter Tryz.func47, Tryz.ntmps47
      go_wp2_with fail
      refine HC.out.mono ?_
      rintro e w1 ⟨rfl, hk3⟩
      have e1 := (hk3.block _ (block_lt HX.out)).trans HX.out
      have e2 := (hk3.block _ (block_lt HY.out)).trans HY.out
      have HE1 := Lib.hid e1
      have HE2 := Lib.hid e2
      clear e1 e2
      have HKA := Lib.hid (Kept.trans HK2.out hk3)
      obtain ⟨bb, hbb⟩ : ∃ bb : Nat, bb = w.heap.size := ⟨_, rfl⟩
      have HBB := Lib.hid hbb
      rw [← hbb] at HE1 HE2 ⊢
      have hbs : bb + 1 < w1.heap.size := block_lt HE2.out
      clear hbb hk3
      have a0 := cell_of_block (i := 0) HE1.out rfl
      have a1 := cell_of_block (i := 1) HE1.out rfl
      have a2 := cell_of_block (i := 2) HE1.out rfl
      simp only [List.getElem_toArray, List.getElem_cons_zero, List.getElem_cons_succ] at a0 a1 a2
      have f0 := frozen_of_block (i := 0) HE1.out
      have f1 := frozen_of_block (i := 1) HE1.out
      have f2 := frozen_of_block (i := 2) HE1.out
      have hc := cells3_set (v0 := .slice none 0 0) (v1 := .slice none 0 0) (v2 := .slice none 0 0) HE1.out
      have hE := setCell_other (i := 2) (v := .slice none 0 0) (setCell_other (i := 1) (v := .slice none 0 0) (setCell_other (i := 0) (v := .slice none 0 0) HE2.out (show bb ≠ bb + 1 by omega)) (show bb ≠ bb + 1 by omega)) (show bb ≠ bb + 1 by omega)
      have g0 := cell_of_block (i := 0) hc rfl
      have g1 := cell_of_block (i := 1) hc rfl
      have g2 := cell_of_block (i := 2) hc rfl
      simp only [List.getElem_toArray, List.getElem_cons_zero, List.getElem_cons_succ] at g0 g1 g2
      have KW1 := Lib.hid (Kept.setCell (Kept.setCell (Kept.setCell HKA.out (p := ⟨bb, 0, none⟩) (by rw [HBB.out]; exact Nat.le_refl _) (.slice none 0 0)) (p := ⟨bb, 1, none⟩) (by rw [HBB.out]; exact Nat.le_refl _) (.slice none 0 0)) (p := ⟨bb, 2, none⟩) (by rw [HBB.out]; exact Nat.le_refl _) (.slice none 0 0))
      have hwb : w.heap.size ≤ bb := by rw [HBB.out]; exact Nat.le_refl _
      have HE3 := Lib.hid (alloc_lift (o := (Obj.cells #[Value.slice none 0 0, Value.slice none 0 0, Value.slice none 0 0, Value.int IntKind.i64 form, Value.bool false, Value.slice none 0 0] 69)) hE)
      have KW3 := Lib.hid (Kept.alloc KW1.out (Obj.cells #[Value.slice none 0 0, Value.slice none 0 0, Value.slice none 0 0, Value.int IntKind.i64 form, Value.bool false, Value.slice none 0 0] 69))
      clear hc hE
      go_upto_region 5 with fail
      clear a0 a1 a2 f0 f1 f2 g0 g1 g2
      generalize ((((w1.setCell ⟨bb, 0, none⟩ (.slice none 0 0)).setCell ⟨bb, 1, none⟩ (.slice none 0 0)).setCell ⟨bb, 2, none⟩ (.slice none 0 0)).alloc (Obj.cells #[Value.slice none 0 0, Value.slice none 0 0, Value.slice none 0 0, Value.int IntKind.i64 form, Value.bool false, Value.slice none 0 0] 69)) = w4 at *
      have hE3 := HE3.out
      clear HE3
      have hF := cells6_set hE3 (.slice none 0 0) (.slice none 0 0) (.slice none 0 0) (.int .i64 0) (.bool false) (.slice none 0 0)
      have r0 := cell_of_block (i := 0) hF rfl
      have r1 := cell_of_block (i := 1) hF rfl
      have r2 := cell_of_block (i := 2) hF rfl
      have r3 := cell_of_block (i := 3) hF rfl
      have r4 := cell_of_block (i := 4) hF rfl
      have r5 := cell_of_block (i := 5) hF rfl
      simp only [List.getElem_toArray, List.getElem_cons_zero, List.getElem_cons_succ] at r0 r1 r2 r3 r4 r5
      have HR := Lib.hid (And.intro r0 (And.intro r1 (And.intro r2 (And.intro r3 (And.intro r4 r5)))))
      clear hF r0 r1 r2 r3 r4 r5
      have d0 := cell_of_block (i := 0) hE3 rfl
      have d1 := cell_of_block (i := 1) hE3 rfl
      have d2 := cell_of_block (i := 2) hE3 rfl
      have d3 := cell_of_block (i := 3) hE3 rfl
      have d4 := cell_of_block (i := 4) hE3 rfl
      have d5 := cell_of_block (i := 5) hE3 rfl
      have e0 := frozen_of_block (i := 0) hE3
      have e1 := frozen_of_block (i := 1) hE3
      have e2 := frozen_of_block (i := 2) hE3
      have e3 := frozen_of_block (i := 3) hE3
      have e4 := frozen_of_block (i := 4) hE3
      have e5 := frozen_of_block (i := 5) hE3
      simp only [List.getElem_toArray, List.getElem_cons_zero, List.getElem_cons_succ] at d0 d1 d2 d3 d4 d5
      have hk9 := Lib.hid (Kept.setCell (Kept.setCell (Kept.setCell (Kept.setCell (Kept.setCell (Kept.setCell (KW3.out) (p := ⟨bb + 1, 0, none⟩) (Nat.le_succ_of_le hwb) (.slice none 0 0)) (p := ⟨bb + 1, 1, none⟩) (Nat.le_succ_of_le hwb) (.slice none 0 0)) (p := ⟨bb + 1, 2, none⟩) (Nat.le_succ_of_le hwb) (.slice none 0 0)) (p := ⟨bb + 1, 3, none⟩) (Nat.le_succ_of_le hwb) (.int .i64 0)) (p := ⟨bb + 1, 4, none⟩) (Nat.le_succ_of_le hwb) (.bool false)) (p := ⟨bb + 1, 5, none⟩) (Nat.le_succ_of_le hwb) (.slice none 0 0))
      clear hE3
      go_wp2_with fail
      clear d0 e0 d1 e1 d2 e2 d3 e3 d4 e4 d5 e5
      obtain ⟨r0, r1, r2, r3, r4, r5⟩ := HR.out
      refine bodyPost_ret (v := .tuple #[.agg #[.slice none 0 0, .slice none 0 0, .slice none 0 0, .int .i64 0, .bool false, .slice none 0 0], .bool false]) (by simp [results, Tryz.results47, go_sem, r0, r1, r2, r3, r4, r5]) rfl ?_
      unfold RetChk
      rw [if_pos HFF.out]
      exact ⟨rfl, hk9.out⟩
end Go.Proofs.YtbhglkofaendjaaGreatDoor
namespace Go.Proofs.YtbhglkofaendjaaGreatDoor
open Go Go.RowKit

/-- The indices of the boundaries of a text. -/
noncomputable def bndI (n : Nrm) (form : Int) (t : List Int) : List Int := (bnds (boundB n form) 0 t).map (fun k : Nat => (k : Int))
noncomputable def insM (n : Nrm) (form : Int) (l : List Int) : List (Int × Value) := l.map fun c => (c, .bool (insideB n form c))
theorem setKV_new {c : Int} {v : Value} : ∀ {M : List (Int × Value)}, c ∉ M.map (·.1) → setKV M c v = M ++ [(c, v)]
  | [], _ => rfl
  | p :: M, h => by
    have h1 : p.1 ≠ c := fun e => h (by rw [← e]; exact List.mem_cons_self ..)
    rw [setKV, if_neg h1, setKV_new (M := M) (fun hm => h (List.mem_cons_of_mem _ hm))]
    rfl
theorem insM_step {n : Nrm} {form : Int} {l : List Int} {k : Nat} {c : Int} (hnd : l.Nodup) (hc : l[k]? = some c) {v : Bool} (hv : v = insideB n form c) : setKV (insM n form (l.take k)) c (.bool v) = insM n form (l.take (k + 1)) := by
  have hni : c ∉ l.take k := by
    intro hm
    obtain ⟨i, hi, e⟩ := List.getElem_of_mem hm
    rw [List.length_take] at hi
    rw [List.getElem_take] at e
    have hk := lt_of_getElem?_some hc
    have h2 : l[k] = c := by rw [List.getElem?_eq_getElem hk] at hc; exact Option.some.inj hc
    exact List.pairwise_iff_getElem.1 hnd i k (by omega) hk (by omega) (e.trans h2.symm)
  rw [setKV_new (by rw [show (insM n form (l.take k)).map (·.1) = l.take k by simp [insM, Function.comp_def]]; exact hni), take_succ_some hc, hv]
  simp [insM]
theorem insM_get {n : Nrm} {form : Int} (x : Int) : ∀ l : List Int, (getKV (insM n form l) x).getD (.bool false) = .bool (decide (x ∈ l) && insideB n form x)
  | [] => by simp [insM, getKV]
  | a :: l => by
    have ih := insM_get (n := n) (form := form) x l
    unfold insM at *
    rw [List.map_cons, getKV]
    by_cases h : a = x
    · subst h; simp
    · simp only [h, if_false]
      rw [ih]
      have : (x ∈ a :: l) ↔ x ∈ l := by simp [List.mem_cons, Ne.symm h]
      simp only [this]
theorem textOf_usable (n : Nrm) (cp : Bool) (t : List Int) : textOf (usableN n) cp t = textOf n cp t := by rw [textOf_eq, textOf_eq, usableN_twice]
theorem map_noCell {α : Type} {w : World} {b : Nat} {enc : α → Value} {M : List (α × Value)} (h : MapIs w b enc M) (off : Nat) (v : Value) : w.cell? ⟨b, off, none⟩ ≠ some v := by
  obtain ⟨es, cl, h1, _⟩ := h
  unfold World.cell?
  simp [h1]
theorem Ints.maps {α : Type} {w w' : World} {A : Option Addr} {m bm : Nat} {xs : List Int} {enc : α → Value} {M : List (α × Value)} (h : Ints w A m xs) (hM : MapIs w bm enc M) (hk : KeptBut [bm] w w') : Ints w' A m xs :=
  h.keptBut hk (fun b hb off x => by rw [List.mem_singleton.1 hb]; exact map_noCell hM off _)
theorem cell_maps {α : Type} {w w' : World} {bm b i : Nat} {v : Value} {enc : α → Value} {M : List (α × Value)} (h : w.cell? ⟨b, i, none⟩ = some v) (hM : MapIs w bm enc M) (hk : KeptBut [bm] w w') : w'.cell? ⟨b, i, none⟩ = some v :=
  hk.cell h (fun hb => by
    have e := List.mem_singleton.1 hb
    simp only at e
    subst e
    exact map_noCell hM _ _ h)
theorem Tab.maps {α : Type} {w w' : World} {B : Option Addr} {m bm : Nat} {T : List (List Int)} {enc : α → Value} {M : List (α × Value)} (h : Tab w B m T) (hM : MapIs w bm enc M) (hk : KeptBut [bm] w w') : Tab w' B m T := by
  refine ⟨h.1, fun h0 => ?_⟩
  obtain ⟨b, off, e, hc⟩ := h.2 h0
  refine ⟨b, off, e, fun i xs hx => ?_⟩
  obtain ⟨A, k, c, c1, hle, hI⟩ := hc i xs hx
  exact ⟨A, k, c, cell_maps c1 hM hk, hle, Ints.maps hI hM hk⟩
theorem KeptBut.of_kept {S : List Nat} {w w' : World} (h : Kept w w') : KeptBut S w w' := h.but S
theorem inside_nil {n : Nrm} {form c : Int} (h : textOf n (cpOf form) [c] = []) : insideB n form c = true := by unfold insideB; rw [h]
theorem inside_non {n : Nrm} {form c x : Int} {t : List Int} (h : textOf n (cpOf form) [c] = x :: t) (h0 : (classOf (usableN n).classes x == 0) = false) : insideB n form c = true := by
  unfold insideB; rw [h]
  have : decide (classOf (usableN n).classes x = 0) = false := decide_eq_false (by simpa using h0)
  simp [this]
theorem inside_start {n : Nrm} {form c x : Int} {t : List Int} (h : textOf n (cpOf form) [c] = x :: t) (h0 : (classOf (usableN n).classes x == 0) = true) : insideB n form c = (comps form && secondB (usableN n) x) := by
  unfold insideB; rw [h]
  have : decide (classOf (usableN n).classes x = 0) = true := decide_eq_true (by simpa using h0)
  simp [this]
theorem bndI_step {n : Nrm} {form : Int} {t : List Int} {k : Nat} {x : Int} (h : t[k]? = some x) : bndI n form (t.take (k + 1)) = bndI n form (t.take k) ++ if boundB n form x = true then [(k : Int)] else [] := by
  have hk := lt_of_getElem?_some h
  unfold bndI
  rw [take_succ_some h, bnds_snoc, List.map_append]
  congr 1
  rw [List.length_take, Nat.min_eq_left (Nat.le_of_lt hk), Nat.zero_add]
  split <;> simp
theorem bndI_le (n : Nrm) (form : Int) (t : List Int) : (bndI n form t).length ≤ t.length := by
  unfold bndI
  rw [List.length_map]
  exact bnds_length _ _ _

set_option maxRecDepth 100000 in
set_option maxHeartbeats 8000000 in
theorem bounds_any (s : Sls) (n : Nrm) (form : Int) (A : Option Addr) (nt ct : Nat) (text : List Int) (w : World) (hN : NormAt w s n) (hG : Glob w) (hnt : nt ≤ 100000) (hT : Ints w A nt text) :
    Calls Tryz.prog 31 #[s.val, .int .i64 form, .slice A nt ct] w (RetInts w (bndI n form text)) := by
  have hk1 := Kept.alloc (Kept.refl w) (Obj.cells #[Value.slice s.Ac s.nc s.cc, Value.slice s.Am s.nm s.cm, Value.slice s.Ae s.ne s.ce] 28)
  have hbx := box_cell w #[Value.slice s.Ac s.nc s.cc, Value.slice s.Am s.nm s.cm, Value.slice s.Ae s.ne s.ce] 28
  have HX0 := Lib.hid (hbx 0)
  have HX1 := Lib.hid (hbx 1)
  have HX2 := Lib.hid (hbx 2)
  have HP := Lib.hid (prepare_any s n form _ (hN.kept hk1) (hG.kept hk1))
  have HK1 := Lib.hid hk1
  have HT := Lib.hid hT
  have HTN := Lib.hid hT.1
  have HG := Lib.hid hG
  have HNU := Lib.hid (usableS_at hN)
  have hmm := @run_makeMap Tryz.prog
  unfold RetChk at HP
  generalize usableS s n = s1 at *
  clear hN hG hT hk1 hbx
  by_cases hf : form < 1 ∨ 4 < form
  · simp only [if_pos hf] at HP
    have HB := Lib.hid (show ∀ x, boundB n form x = true from fun x => by unfold boundB; rw [if_pos hf])
    clear hf
    unfold Sls.val at *
    go_enter Tryz.func31, Tryz.ntmps31
    go_wp2_with fail
    refine HP.out.mono ?_
    rintro e w1 ⟨rfl, k1⟩
    have hka := Kept.alloc (Kept.alloc (Kept.refl w1) (Obj.cells #[Value.slice none 0 0, Value.slice none 0 0, Value.slice none 0 0, Value.int IntKind.i64 0, Value.bool false, Value.slice none 0 0] 69)) (Obj.map #[] 0)
    have KW6 := Lib.hid (Kept.trans HK1.out (Kept.trans k1 hka))
    have HM6 := Lib.hid (MapIs.made (w1.alloc (Obj.cells #[Value.slice none 0 0, Value.slice none 0 0, Value.slice none 0 0, Value.int IntKind.i64 0, Value.bool false, Value.slice none 0 0] 69)) (fun k : Int => Value.int .i64 k) 0)
    rw [World.size_alloc] at HM6
    have HMB := Lib.hid (show ∀ x ∈ text, (getKV ([] : List (Int × Value)) x).getD (.bool false) = .bool (!boundB n form x) from fun x _ => by rw [HB.out x]; rfl)
    clear hka
    go_wp2_with fail
    clear hmm
    generalize ((w1.alloc (Obj.cells #[Value.slice none 0 0, Value.slice none 0 0, Value.slice none 0 0, Value.int IntKind.i64 0, Value.bool false, Value.slice none 0 0] 69)).alloc (Obj.map #[] 0)) = w6 at *
    obtain ⟨base, hbase⟩ : ∃ base : Nat, base = w6.heap.size := ⟨_, rfl⟩
    have hb6 : base ≤ w6.heap.size := by omega
    have hb7 : w6.heap.size ≤ base := by omega
    clear hbase
    go_loopw [13, 65] (fun p i wr => ∃ k : Nat, k ≤ nt ∧ i = .int .i64 k ∧ OwnI wr base p (bndI n form (text.take k)) ∧ Kept w6 wr) (fun _ i _ => nt - (intOf i).toNat)
    case atStart => exact ⟨0, Nat.zero_le _, rfl, (by rw [List.take_zero]; exact (World.ownsRow_nil _ _ _ _ : OwnI w6 base (.slice none 0 0) [])), Kept.refl _⟩
    case round =>
      obtain ⟨k, hk, rfl, hown, hkw⟩ := hrel
      have HO := Lib.hid hown
      have HKW := Lib.hid hkw
      have HKR := Lib.hid (Kept.trans KW6.out hkw)
      have hsz := hkw.size
      clear hown hkw
      by_cases hlt : k < nt
      · obtain ⟨b, off, x, hA, hx, c0⟩ := int_at (HT.out.kept HKR.out) hlt
        have hlk := run_lookup_plain (T := 72) (E := 4) (keyOk_int (P := Tryz.prog) (K := 3) (by kernel_rfl)) (by kernel_rfl) (HM6.out.kept HKW.out) (.bool false) (fun w => by kernel_rfl) x
        rw [HMB.out x (mem_of_getElem?_some hx)] at hlk
        have HST := Lib.hid (bndI_step (n := n) (form := form) hx)
        have hbl : (bndI n form (text.take k)).length ≤ 100000 := by
          have h1 := bndI_le n form (text.take k)
          have h2 : (text.take k).length ≤ k := List.length_take_le _ _
          omega
        subst hA
        clear hx
        cases hb : boundB n form x
        · rw [hb] at hlk HST
          simp only [Bool.not_false, Bool.false_eq_true, if_false, List.append_nil] at hlk HST
          clear hb
          go_wp2_with fail
          go_roundw
          case rel => exact ⟨k + 1, by omega, by go_num, by rw [HST.out]; exact HO.out, HKW.out⟩
          case measure => simp [intOf]; omega
        · rw [hb] at hlk HST
          simp only [Bool.not_true, if_true] at hlk HST
          have hka := Kept.alloc (Kept.refl wr) (Obj.cells #[Value.int IntKind.i64 (k : Int)] 3)
          have HKA := Lib.hid hka
          clear hb hka
          go_wp2_with (at_builtin; refine app_ints rfl _ _ rfl base _ _ rfl (by exact World.ownsRow.alloc HO.out _) _ _ _ [(k : Int)] rfl (by exact Ints.alloc_ (xs := [(k : Int)]) rfl rfl) (by simp; omega) (by simp; omega) ?_; intro v7 w7 hown7 hgrow7 hat7)
          have HO7 := Lib.hid hown7
          have hk7 : Kept w6 w7 := (Kept.trans HKW.out HKA.out).grown hgrow7 (by simp; omega) (fun q e => by have := (World.ownsRow.lt HO.out q e).1; omega)
          clear hown7 hgrow7 hat7
          go_roundw
          case rel => exact ⟨k + 1, by omega, by go_num, by rw [HST.out]; exact HO7.out, hk7⟩
          case measure => simp [intOf]; omega
      · have hkn : k = nt := by omega
        have hown3 := HO.out
        rw [List.take_of_length_le (by have := HTN.out; omega)] at hown3
        obtain ⟨A3, c3, rfl, hle, hI⟩ := OwnI.sl hown3
        have HI := Lib.hid hI
        have HLE := Lib.hid hle
        obtain ⟨m1, hm1⟩ : ∃ m1 : Nat, m1 = (bndI n form text).length := ⟨_, rfl⟩
        rw [← hm1] at HI HLE ⊢
        clear hown3 hI hle hm1 HO
        subst hkn
        go_wp2_with fail
        go_ret
        exact ⟨A3, m1, c3, rfl, HLE.out, HI.out, HKR.out⟩
  · simp only [if_neg hf] at HP
    have HF := Lib.hid hf
    clear hf
    unfold Sls.val at *
    go_enter Tryz.func31, Tryz.ntmps31
    go_wp2_with fail
    refine HP.out.mono ?_
    rintro e w1 ⟨R, AR, mR, cR, rfl, leR, hmR, hR, hRS, _, k1⟩
    unfold Sls.chk
    have hka := Kept.alloc (Kept.alloc (Kept.refl w1) (Obj.cells #[Value.slice s1.Ac s1.nc s1.cc, Value.slice s1.Am s1.nm s1.cm, Value.slice s1.Ae s1.ne s1.ce, Value.int IntKind.i64 form, Value.bool (cpOf form), Value.slice AR mR cR] 69)) (Obj.map #[] 0)
    have HKA := Lib.hid hka
    have hsw1 : w.heap.size ≤ w1.heap.size := (Kept.trans HK1.out k1).size
    have KW3 := Lib.hid (Kept.trans HK1.out (Kept.trans k1 hka))
    have HB7 := Lib.hid (alloc_lift (o := Obj.map #[] 0) (box_block w1 (Obj.cells #[Value.slice s1.Ac s1.nc s1.cc, Value.slice s1.Am s1.nm s1.cm, Value.slice s1.Ae s1.ne s1.ce, Value.int IntKind.i64 form, Value.bool (cpOf form), Value.slice AR mR cR] 69)))
    have HM3 := Lib.hid (MapIs.made (w1.alloc (Obj.cells #[Value.slice s1.Ac s1.nc s1.cc, Value.slice s1.Am s1.nm s1.cm, Value.slice s1.Ae s1.ne s1.ce, Value.int IntKind.i64 form, Value.bool (cpOf form), Value.slice AR mR cR] 69)) (fun k : Int => Value.int .i64 k) 0)
    rw [World.size_alloc] at HM3
    have HR1 := Lib.hid hR
    have HRS := Lib.hid hRS
    have hs3 : w1.heap.size + 1 < ((w1.alloc (Obj.cells #[Value.slice s1.Ac s1.nc s1.cc, Value.slice s1.Am s1.nm s1.cm, Value.slice s1.Ae s1.ne s1.ce, Value.int IntKind.i64 form, Value.bool (cpOf form), Value.slice AR mR cR] 69)).alloc (Obj.map #[] 0)).heap.size := by simp
    clear hR hRS hka
    go_wp2_with fail
    clear hmm
    obtain ⟨b7, hb7⟩ : ∃ b7 : Nat, b7 = w1.heap.size := ⟨_, rfl⟩
    have HBE := Lib.hid hb7
    rw [← hb7] at HB7 HM3 hs3 ⊢
    clear hb7
    generalize ((w1.alloc (Obj.cells #[Value.slice s1.Ac s1.nc s1.cc, Value.slice s1.Am s1.nm s1.cm, Value.slice s1.Ae s1.ne s1.ce, Value.int IntKind.i64 form, Value.bool (cpOf form), Value.slice AR mR cR] 69)).alloc (Obj.map #[] 0)) = w3 at *
    obtain ⟨w4, HD, hk4, HCO⟩ := codes_any A nt ct w3 text (by omega) (HT.out.kept KW3.out)
    have HDS := Lib.hid (distL_spec text)
    have HDL := Lib.hid (distL_length text)
    have HD := Lib.hid HD
    have HCO := Lib.hid HCO
    generalize distL text = codes at *
    refine HD.out.mono ?_
    rintro e w4' ⟨rfl, rfl⟩
    go_wp2_with fail
    refine HCO.out.mono ?_
    rintro e w5 ⟨AC, mC, cC, rfl, leC, iC, k5⟩
    have hk35 := Kept.trans hk4 k5
    have hmC : mC ≤ 100000 := by rw [iC.1]; have := HDL.out; have := HTN.out; omega
    have HPA := Lib.hid (parts_any s1 (usableN n) form (cpOf form) (.slice AR mR cR) AC mC cC codes w5 (HNU.out.kept (Kept.trans KW3.out hk35)) (HG.out.kept (Kept.trans KW3.out hk35)) hmC iC (fun c hc => ((valid_iff c).1 ((HDS.out.1 c).1 hc).2).1))
    simp only [textOf_usable] at HPA
    have IC := Lib.hid iC
    have HB5 := Lib.hid ((hk35.block _ (block_lt HB7.out)).trans HB7.out)
    have p0 := cell_of_block (i := 0) HB5.out rfl
    have p1 := cell_of_block (i := 1) HB5.out rfl
    have p2 := cell_of_block (i := 2) HB5.out rfl
    have p3 := cell_of_block (i := 3) HB5.out rfl
    have p4 := cell_of_block (i := 4) HB5.out rfl
    have p5 := cell_of_block (i := 5) HB5.out rfl
    simp only [List.getElem_toArray, List.getElem_cons_zero, List.getElem_cons_succ] at p0 p1 p2 p3 p4 p5
    have KW5 := Lib.hid (Kept.trans KW3.out hk35)
    have K35 := Lib.hid hk35
    unfold Sls.chk at HPA
    clear iC k5 hk4 hk35 HD HCO
    go_wp2_with fail
    clear p0 p1 p2 p3 p4 p5
    refine HPA.out.mono ?_
    rintro e w6 ⟨BT, mT, cT, rfl, leT, iT, k6⟩
    have hmT : mT ≤ 100000 := by rw [iT.1, List.length_map, ← IC.out.1]; exact hmC
    have hmm2 : mT = mC := by rw [iT.1, List.length_map, ← IC.out.1]
    subst hmm2
    have HIT := Lib.hid iT
    have IC0 := Lib.hid IC.out.1
    have HIC := Lib.hid (IC.out.kept k6)
    have HB6 := Lib.hid ((k6.block _ (block_lt HB5.out)).trans HB5.out)
    have K36 := Lib.hid (Kept.trans K35.out k6)
    have HM60 := Lib.hid (HM3.out.kept K36.out)
    have HR6 := Lib.hid (HR1.out.kept (Kept.trans HKA.out K36.out))
    have KW60 := Lib.hid (Kept.trans KW3.out K36.out)
    have hs6 := K36.out.size
    clear iT k6 HPA IC HB5 KW5 HM3 HB7
    go_wp2_with fail
    go_loopw [31] (fun i wr => ∃ k : Nat, k ≤ mT ∧ i = .int .i64 k ∧ MapIs wr (b7 + 1) (fun k : Int => Value.int .i64 k) (insM n form (codes.take k)) ∧ KeptBut [b7 + 1] w6 wr) (fun i _ => mT - (intOf i).toNat)
    case atStart => exact ⟨0, Nat.zero_le _, rfl, HM60.out, KeptBut.refl _ _⟩
    case round =>
      obtain ⟨k, hk, rfl, hM, hkb⟩ := hrel
      have HM := Lib.hid hM
      have HKB := Lib.hid hkb
      have K1R := Lib.hid (show Kept w1 wr from Below.trans (Kept.trans HKA.out K36.out) (KeptBut.below hkb (by have := HBE.out; simp; omega) (Kept.trans HKA.out K36.out).size))
      have KWR := Lib.hid (Kept.trans (Kept.trans HK1.out k1) K1R.out)
      have hbk : wr.heap[b7]? = some (.cells #[Value.slice s1.Ac s1.nc s1.cc, Value.slice s1.Am s1.nm s1.cm, Value.slice s1.Ae s1.ne s1.ce, Value.int IntKind.i64 form, Value.bool (cpOf form), Value.slice AR mR cR] 69 (0, 0)) := (hkb.block b7 (block_lt HB6.out) (by simp)).trans HB6.out
      clear hM hkb
      by_cases hlt : k < mT
      · obtain ⟨bc, oc, x, hAC, hx, c0⟩ := int_at (Ints.maps HIC.out HM60.out HKB.out) hlt
        obtain ⟨bt, ot, A9, n9, c9, X, hBT, hX, c1, le9, i9⟩ := tab_at (Tab.maps HIT.out HM60.out HKB.out) hlt
        have HXE := Lib.hid (show textOf n (cpOf form) [x] = X by rw [List.getElem?_map, hx] at hX; exact Option.some.inj hX)
        have HSM := Lib.hid (fun v (hv : v = insideB n form x) => insM_step HDS.out.2 hx hv)
        have d0 := cell_of_block (i := 0) hbk rfl
        have d5 := cell_of_block (i := 5) hbk rfl
        simp only [List.getElem_toArray, List.getElem_cons_zero, List.getElem_cons_succ] at d0 d5
        subst hAC
        subst hBT
        have I9 := Lib.hid i9
        have D0 := Lib.hid d0
        have D5 := Lib.hid d5
        have C0 := Lib.hid c0
        clear hbk hX hx i9
        cases n9 with
        | zero =>
          have HIN := Lib.hid (inside_nil (n := n) (form := form) (c := x) (HXE.out.trans (List.eq_nil_of_length_eq_zero I9.out.1.symm)))
          go_wp2_with fail
          refine wp_region_held_drew (S := (fun w' => w'.cell? ⟨b7, 0, none⟩ = some (.slice s1.Ac s1.nc s1.cc) ∧ w'.cell? ⟨b7, 5, none⟩ = some (.slice AR mR cR) ∧ w'.cell? ⟨bc, oc + k, none⟩ = some (.int .i64 x))) (by kernel_rfl) ⟨Kept.cell (Kept.drew (Kept.refl wr)) D0.out, Kept.cell (Kept.drew (Kept.refl wr)) D5.out, Kept.cell (Kept.drew (Kept.refl wr)) C0.out⟩ (fun hHeld => ?_)
          refine wpAnyH_take (i := 0) (v := ?_) rfl (by kernel_rfl) (by kernel_rfl) (by kernel_rfl) (fun _ _ _ h => h) (Or.inl ⟨by rfl, ?_⟩) (by assumption) ?_
          rotate_left
          · (intro w hSw; (try dsimp only at hSw); go_simp; (try with_reducible rfl))
          simp only [Act.put, List.setIfInBounds_toArray, List.set_cons_zero, List.set_cons_succ, List.getElem_toArray, List.getElem_cons_zero]
          refine wpAnyH_take (i := 1) (v := ?_) rfl (by kernel_rfl) (by kernel_rfl) (by kernel_rfl) (fun _ _ _ h => h) (Or.inl ⟨by rfl, ?_⟩) (by assumption) ?_
          rotate_left
          · (intro w hSw; (try dsimp only at hSw); go_simp; (try with_reducible rfl))
          simp only [Act.put, List.setIfInBounds_toArray, List.set_cons_zero, List.set_cons_succ, List.getElem_toArray, List.getElem_cons_zero, List.getElem_cons_succ]
          refine wpAnyH_take (i := 2) (v := ?_) rfl (by kernel_rfl) (by kernel_rfl) (by kernel_rfl) (fun _ _ _ h => h) (Or.inl ⟨by rfl, ?_⟩) (by assumption) ?_
          rotate_left
          · (intro w hSw; (try dsimp only at hSw); go_simp; (try with_reducible rfl))
          simp only [Act.put, List.setIfInBounds_toArray, List.set_cons_zero, List.set_cons_succ, List.getElem_toArray, List.getElem_cons_zero, List.getElem_cons_succ]
          refine wpAnyH_take (i := 3) (v := ?_) rfl (by kernel_rfl) (by kernel_rfl) (by kernel_rfl) (fun _ _ _ h => h) (Or.inl ⟨by rfl, ?_⟩) (by assumption) ?_
          rotate_left
          · (intro w hSw; (try dsimp only at hSw); go_simp; (try with_reducible rfl))
          simp only [Act.put, List.setIfInBounds_toArray, List.set_cons_zero, List.set_cons_succ, List.getElem_toArray, List.getElem_cons_zero, List.getElem_cons_succ]
          refine wpAnyH_take (i := 4) (v := ?_) rfl (by kernel_rfl) (by kernel_rfl) (by kernel_rfl) (fun _ _ _ h => h) (Or.inl ⟨by rfl, ?_⟩) (by assumption) ?_
          rotate_left
          · (intro w hSw; (try dsimp only at hSw); go_simp; (try with_reducible rfl))
          simp only [Act.put, List.setIfInBounds_toArray, List.set_cons_zero, List.set_cons_succ, List.getElem_toArray, List.getElem_cons_zero, List.getElem_cons_succ]
          refine wpAnyH_take (i := 5) (v := ?_) rfl (by kernel_rfl) (by kernel_rfl) (by kernel_rfl) (fun _ _ _ h => h) (Or.inl ⟨by rfl, ?_⟩) (by assumption) ?_
          rotate_left
          · (intro w hSw; (try dsimp only at hSw); go_simp; (try with_reducible rfl))
          simp only [Act.put, List.setIfInBounds_toArray, List.set_cons_zero, List.set_cons_succ, List.getElem_toArray, List.getElem_cons_zero, List.getElem_cons_succ]
          refine wpAnyH_take (i := 6) (v := ?_) rfl (by kernel_rfl) (by kernel_rfl) (by kernel_rfl) (fun _ _ _ h => h) (Or.inl ⟨by rfl, ?_⟩) (by assumption) ?_
          rotate_left
          · (intro w hSw; (try dsimp only at hSw); go_simp; (try with_reducible rfl))
          simp only [Act.put, List.setIfInBounds_toArray, List.set_cons_zero, List.set_cons_succ, List.getElem_toArray, List.getElem_cons_zero, List.getElem_cons_succ]
          refine wpAnyH_take (i := 7) (v := ?_) rfl (by kernel_rfl) (by kernel_rfl) (by kernel_rfl) (fun _ _ _ h => h) (Or.inl ⟨by rfl, ?_⟩) (by assumption) ?_
          rotate_left
          · (intro w hSw; (try dsimp only at hSw); go_simp; (try with_reducible rfl))
          simp only [Act.put, List.setIfInBounds_toArray, List.set_cons_zero, List.set_cons_succ, List.getElem_toArray, List.getElem_cons_zero, List.getElem_cons_succ]
          refine wpAnyH_take (i := 8) (v := ?_) rfl (by kernel_rfl) (by kernel_rfl) (by kernel_rfl) (fun _ _ _ h => h) (Or.inl ⟨by rfl, ?_⟩) (by assumption) ?_
          rotate_left
          · (intro w hSw; (try dsimp only at hSw); go_simp; (try with_reducible rfl))
          simp only [Act.put, List.setIfInBounds_toArray, List.set_cons_zero, List.set_cons_succ, List.getElem_toArray, List.getElem_cons_zero, List.getElem_cons_succ]
          refine wpAnyH_take (i := 9) (v := undef) rfl (by kernel_rfl) (by kernel_rfl) (by kernel_rfl) (fun _ _ _ h => h) (Or.inr ⟨by rfl, rfl⟩) (by assumption) ?_
          simp only [Act.put, List.setIfInBounds_toArray, List.set_cons_zero, List.set_cons_succ, List.getElem_toArray, List.getElem_cons_zero, List.getElem_cons_succ]
          refine wpAnyH_take (i := 10) (v := undef) rfl (by kernel_rfl) (by kernel_rfl) (by kernel_rfl) (fun _ _ _ h => h) (Or.inr ⟨by rfl, rfl⟩) (by assumption) ?_
          simp only [Act.put, List.setIfInBounds_toArray, List.set_cons_zero, List.set_cons_succ, List.getElem_toArray, List.getElem_cons_zero, List.getElem_cons_succ]
          refine wpAnyH_take (i := 11) (v := undef) rfl (by kernel_rfl) (by kernel_rfl) (by kernel_rfl) (fun _ _ _ h => h) (Or.inr ⟨by rfl, rfl⟩) (by assumption) ?_
          simp only [Act.put, List.setIfInBounds_toArray, List.set_cons_zero, List.set_cons_succ, List.getElem_toArray, List.getElem_cons_zero, List.getElem_cons_succ]
          refine wpAnyH_take (i := 12) (v := undef) rfl (by kernel_rfl) (by kernel_rfl) (by kernel_rfl) (fun _ _ _ h => h) (Or.inr ⟨by rfl, rfl⟩) (by assumption) ?_
          simp only [Act.put, List.setIfInBounds_toArray, List.set_cons_zero, List.set_cons_succ, List.getElem_toArray, List.getElem_cons_zero, List.getElem_cons_succ]
          refine wpAnyH_take (i := 13) (v := undef) rfl (by kernel_rfl) (by kernel_rfl) (by kernel_rfl) (fun _ _ _ h => h) (Or.inr ⟨by rfl, rfl⟩) (by assumption) ?_
          simp only [Act.put, List.setIfInBounds_toArray, List.set_cons_zero, List.set_cons_succ, List.getElem_toArray, List.getElem_cons_zero, List.getElem_cons_succ]
          refine wpAnyH_take (i := 14) (v := undef) rfl (by kernel_rfl) (by kernel_rfl) (by kernel_rfl) (fun _ _ _ h => h) (Or.inr ⟨by rfl, rfl⟩) (by assumption) ?_
          simp only [Act.put, List.setIfInBounds_toArray, List.set_cons_zero, List.set_cons_succ, List.getElem_toArray, List.getElem_cons_zero, List.getElem_cons_succ]
          refine wpAnyH_take (i := 15) (v := undef) rfl (by kernel_rfl) (by kernel_rfl) (by kernel_rfl) (fun _ _ _ h => h) (Or.inr ⟨by rfl, rfl⟩) (by assumption) ?_
          simp only [Act.put, List.setIfInBounds_toArray, List.set_cons_zero, List.set_cons_succ, List.getElem_toArray, List.getElem_cons_zero, List.getElem_cons_succ]
          refine wpAnyH_take (i := 16) (v := undef) rfl (by kernel_rfl) (by kernel_rfl) (by kernel_rfl) (fun _ _ _ h => h) (Or.inr ⟨by rfl, rfl⟩) (by assumption) ?_
          simp only [Act.put, List.setIfInBounds_toArray, List.set_cons_zero, List.set_cons_succ, List.getElem_toArray, List.getElem_cons_zero, List.getElem_cons_succ]
          refine wpAnyH_take (i := 17) (v := ?_) rfl (by kernel_rfl) (by kernel_rfl) (by kernel_rfl) (fun _ _ _ h => h) (Or.inl ⟨by rfl, ?_⟩) (by assumption) ?_
          rotate_left
          · (intro w hSw; (try dsimp only at hSw); go_simp; (try with_reducible rfl))
          simp only [Act.put, List.setIfInBounds_toArray, List.set_cons_zero, List.set_cons_succ, List.getElem_toArray, List.getElem_cons_zero, List.getElem_cons_succ]
          refine wpAnyH_take (i := 18) (v := ?_) rfl (by kernel_rfl) (by kernel_rfl) (by kernel_rfl) (fun _ _ _ h => h) (Or.inl ⟨by rfl, ?_⟩) (by assumption) ?_
          rotate_left
          · (intro w hSw; (try dsimp only at hSw); go_simp; (try with_reducible rfl))
          simp only [Act.put, List.setIfInBounds_toArray, List.set_cons_zero, List.set_cons_succ, List.getElem_toArray, List.getElem_cons_zero, List.getElem_cons_succ]
          refine wpAnyH_take (i := 19) (v := undef) rfl (by kernel_rfl) (by kernel_rfl) (by kernel_rfl) (fun _ _ _ h => h) (Or.inr ⟨by rfl, rfl⟩) (by assumption) ?_
          simp only [Act.put, List.setIfInBounds_toArray, List.set_cons_zero, List.set_cons_succ, List.getElem_toArray, List.getElem_cons_zero, List.getElem_cons_succ]
          refine wpAnyH_take (i := 20) (v := undef) rfl (by kernel_rfl) (by kernel_rfl) (by kernel_rfl) (fun _ _ _ h => h) (Or.inr ⟨by rfl, rfl⟩) (by assumption) ?_
          simp only [Act.put, List.setIfInBounds_toArray, List.set_cons_zero, List.set_cons_succ, List.getElem_toArray, List.getElem_cons_zero, List.getElem_cons_succ]
          refine wpAnyH_take (i := 21) (v := undef) rfl (by kernel_rfl) (by kernel_rfl) (by kernel_rfl) (fun _ _ _ h => h) (Or.inr ⟨by rfl, rfl⟩) (by assumption) ?_
          simp only [Act.put, List.setIfInBounds_toArray, List.set_cons_zero, List.set_cons_succ, List.getElem_toArray, List.getElem_cons_zero, List.getElem_cons_succ]
          refine wpAnyH_take (i := 22) (v := undef) rfl (by kernel_rfl) (by kernel_rfl) (by kernel_rfl) (fun _ _ _ h => h) (Or.inr ⟨by rfl, rfl⟩) (by assumption) ?_
          simp only [Act.put, List.setIfInBounds_toArray, List.set_cons_zero, List.set_cons_succ, List.getElem_toArray, List.getElem_cons_zero, List.getElem_cons_succ]
          refine wpAnyH_take (i := 23) (v := undef) rfl (by kernel_rfl) (by kernel_rfl) (by kernel_rfl) (fun _ _ _ h => h) (Or.inr ⟨by rfl, rfl⟩) (by assumption) ?_
          simp only [Act.put, List.setIfInBounds_toArray, List.set_cons_zero, List.set_cons_succ, List.getElem_toArray, List.getElem_cons_zero, List.getElem_cons_succ]
          refine wpAnyH_take (i := 24) (v := undef) rfl (by kernel_rfl) (by kernel_rfl) (by kernel_rfl) (fun _ _ _ h => h) (Or.inr ⟨by rfl, rfl⟩) (by assumption) ?_
          simp only [Act.put, List.setIfInBounds_toArray, List.set_cons_zero, List.set_cons_succ, List.getElem_toArray, List.getElem_cons_zero, List.getElem_cons_succ]
          refine wpAnyH_take (i := 25) (v := ?_) rfl (by kernel_rfl) (by kernel_rfl) (by kernel_rfl) (fun _ _ _ h => h) (Or.inl ⟨by rfl, ?_⟩) (by assumption) ?_
          rotate_left
          · (intro w hSw; (try dsimp only at hSw); go_simp; (try with_reducible rfl))
          simp only [Act.put, List.setIfInBounds_toArray, List.set_cons_zero, List.set_cons_succ, List.getElem_toArray, List.getElem_cons_zero, List.getElem_cons_succ]
          refine wpAnyH_ready (rs := [26]) (by kernel_rfl) (by simp) ?_
          refine AllReadyH.cons rfl (fun K hK => ?_) AllReadyH.nil
          obtain ⟨wm, hup, hmu, hgm⟩ := run_update (T := 72) (E := 4) (keyOk_int (P := Tryz.prog) (K := 3) (by kernel_rfl)) (by kernel_rfl) (HM.out.kept (Kept.drew (Kept.refl wr))) x (.bool true)
          have HMU := Lib.hid hmu
          have HGM := Lib.hid (KeptBut.of_grown (S := [b7 + 1]) hgm (List.mem_singleton.2 rfl))
          have HMK := Lib.hid (HM.out.kept (Kept.drew (Kept.refl wr)))
          clear hmu hgm
          go_simp
          refine hK.out _ _ ⟨cell_maps (Kept.cell (Kept.drew (Kept.refl wr)) D0.out) HMK.out HGM.out, cell_maps (Kept.cell (Kept.drew (Kept.refl wr)) D5.out) HMK.out HGM.out, cell_maps (Kept.cell (Kept.drew (Kept.refl wr)) C0.out) HMK.out HGM.out⟩ (fun hHeld => ?_)
          clear hK K
          (try simp only [Act.put, List.setIfInBounds_toArray, List.set_cons_zero, List.set_cons_succ, List.getElem_toArray, List.getElem_cons_zero, List.getElem_cons_succ])
          refine wpAnyH_done (by kernel_rfl) ?_ _
          clear hup
          go_wp2_with fail
          go_roundw
          case rel => exact ⟨k + 1, by omega, by go_num, by rw [← HSM.out true HIN.out.symm]; exact HMU.out, HKB.out.trans ((Kept.but (Kept.drew (Kept.refl wr)) _).trans HGM.out)⟩
          case measure => simp [intOf]; omega
        | succ q =>
          obtain ⟨b9, o9, h, rfl, hh, c2⟩ := int_at I9.out (i := 0) (by omega)
          simp only [Nat.add_zero] at c2
          have hq0 : ((q : Int) + 1 == 0) = false := by simp; omega
          have C2 := Lib.hid c2
          have HXX := Lib.hid (show textOf n (cpOf form) [x] = h :: X.tail by
            rw [HXE.out]
            cases X with
            | nil => simp at hh
            | cons a t => simp at hh; rw [hh]; rfl)
          have HST := Lib.hid (ordStarter s1.Ac s1.nc s1.cc (usableN n).classes h wr.drew HNU.out.bc HNU.out.hc (HNU.out.kept (Kept.drew KWR.out)).cls (HG.out.kept (Kept.drew KWR.out)))
          rw [usableN_spans] at HST
          clear hh
          cases hcl : (classOf (usableN n).classes h == 0)
          · rw [hcl] at HST
            have HIN := Lib.hid (inside_non HXX.out hcl)
            clear hcl
            go_wp2_with fail
            refine wp_region_held_drew (S := (fun w' => w'.cell? ⟨b7, 0, none⟩ = some (.slice s1.Ac s1.nc s1.cc) ∧ w'.cell? ⟨b7, 5, none⟩ = some (.slice AR mR cR) ∧ w'.cell? ⟨bc, oc + k, none⟩ = some (.int .i64 x) ∧ w'.cell? ⟨b9, o9, none⟩ = some (.int .i64 h))) (by kernel_rfl) ⟨Kept.cell (Kept.drew (Kept.refl wr)) D0.out, Kept.cell (Kept.drew (Kept.refl wr)) D5.out, Kept.cell (Kept.drew (Kept.refl wr)) C0.out, Kept.cell (Kept.drew (Kept.refl wr)) C2.out⟩ (fun hHeld => ?_)
            refine wpAnyH_take (i := 0) (v := ?_) rfl (by kernel_rfl) (by kernel_rfl) (by kernel_rfl) (fun _ _ _ h => h) (Or.inl ⟨by rfl, ?_⟩) (by assumption) ?_
            rotate_left
            · (intro w hSw; (try dsimp only at hSw); go_simp; (try with_reducible rfl))
            simp only [Act.put, List.setIfInBounds_toArray, List.set_cons_zero, List.set_cons_succ, List.getElem_toArray, List.getElem_cons_zero]
            refine wpAnyH_take (i := 1) (v := ?_) rfl (by kernel_rfl) (by kernel_rfl) (by kernel_rfl) (fun _ _ _ h => h) (Or.inl ⟨by rfl, ?_⟩) (by assumption) ?_
            rotate_left
            · (intro w hSw; (try dsimp only at hSw); go_simp; (try with_reducible rfl))
            simp only [Act.put, List.setIfInBounds_toArray, List.set_cons_zero, List.set_cons_succ, List.getElem_toArray, List.getElem_cons_zero, List.getElem_cons_succ]
            refine wpAnyH_take (i := 2) (v := ?_) rfl (by kernel_rfl) (by kernel_rfl) (by kernel_rfl) (fun _ _ _ h => h) (Or.inl ⟨by rfl, ?_⟩) (by assumption) ?_
            rotate_left
            · (intro w hSw; (try dsimp only at hSw); go_simp; (try with_reducible rfl))
            simp only [Act.put, List.setIfInBounds_toArray, List.set_cons_zero, List.set_cons_succ, List.getElem_toArray, List.getElem_cons_zero, List.getElem_cons_succ]
            refine wpAnyH_take (i := 3) (v := ?_) rfl (by kernel_rfl) (by kernel_rfl) (by kernel_rfl) (fun _ _ _ h => h) (Or.inl ⟨by rfl, ?_⟩) (by assumption) ?_
            rotate_left
            · (intro w hSw; (try dsimp only at hSw); go_simp; (try with_reducible rfl))
            simp only [Act.put, List.setIfInBounds_toArray, List.set_cons_zero, List.set_cons_succ, List.getElem_toArray, List.getElem_cons_zero, List.getElem_cons_succ]
            refine wpAnyH_take (i := 4) (v := ?_) rfl (by kernel_rfl) (by kernel_rfl) (by kernel_rfl) (fun _ _ _ h => h) (Or.inl ⟨by rfl, ?_⟩) (by assumption) ?_
            rotate_left
            · (intro w hSw; (try dsimp only at hSw); go_simp; (try with_reducible rfl))
            simp only [Act.put, List.setIfInBounds_toArray, List.set_cons_zero, List.set_cons_succ, List.getElem_toArray, List.getElem_cons_zero, List.getElem_cons_succ]
            refine wpAnyH_take (i := 5) (v := ?_) rfl (by kernel_rfl) (by kernel_rfl) (by kernel_rfl) (fun _ _ _ h => h) (Or.inl ⟨by rfl, ?_⟩) (by assumption) ?_
            rotate_left
            · (intro w hSw; (try dsimp only at hSw); go_simp; (try with_reducible rfl))
            simp only [Act.put, List.setIfInBounds_toArray, List.set_cons_zero, List.set_cons_succ, List.getElem_toArray, List.getElem_cons_zero, List.getElem_cons_succ]
            refine wpAnyH_take (i := 6) (v := ?_) rfl (by kernel_rfl) (by kernel_rfl) (by kernel_rfl) (fun _ _ _ h => h) (Or.inl ⟨by rfl, ?_⟩) (by assumption) ?_
            rotate_left
            · (intro w hSw; (try dsimp only at hSw); go_simp; (try with_reducible rfl))
            simp only [Act.put, List.setIfInBounds_toArray, List.set_cons_zero, List.set_cons_succ, List.getElem_toArray, List.getElem_cons_zero, List.getElem_cons_succ]
            refine wpAnyH_take (i := 7) (v := ?_) rfl (by kernel_rfl) (by kernel_rfl) (by kernel_rfl) (fun _ _ _ h => h) (Or.inl ⟨by rfl, ?_⟩) (by assumption) ?_
            rotate_left
            · (intro w hSw; (try dsimp only at hSw); go_simp; (try with_reducible rfl))
            simp only [Act.put, List.setIfInBounds_toArray, List.set_cons_zero, List.set_cons_succ, List.getElem_toArray, List.getElem_cons_zero, List.getElem_cons_succ]
            refine wpAnyH_take (i := 8) (v := ?_) rfl (by kernel_rfl) (by kernel_rfl) (by kernel_rfl) (fun _ _ _ h => h) (Or.inl ⟨by rfl, ?_⟩) (by assumption) ?_
            rotate_left
            · (intro w hSw; (try dsimp only at hSw); go_simp; (try with_reducible rfl))
            simp only [Act.put, List.setIfInBounds_toArray, List.set_cons_zero, List.set_cons_succ, List.getElem_toArray, List.getElem_cons_zero, List.getElem_cons_succ]
            refine wpAnyH_take (i := 9) (v := ?_) rfl (by kernel_rfl) (by kernel_rfl) (by kernel_rfl) (fun _ _ _ h => h) (Or.inl ⟨by rfl, ?_⟩) (by assumption) ?_
            rotate_left
            · (intro w hSw; (try dsimp only at hSw); go_simp; (try with_reducible rfl))
            simp only [Act.put, List.setIfInBounds_toArray, List.set_cons_zero, List.set_cons_succ, List.getElem_toArray, List.getElem_cons_zero, List.getElem_cons_succ]
            refine wpAnyH_take (i := 10) (v := ?_) rfl (by kernel_rfl) (by kernel_rfl) (by kernel_rfl) (fun _ _ _ h => h) (Or.inl ⟨by rfl, ?_⟩) (by assumption) ?_
            rotate_left
            · (intro w hSw; (try dsimp only at hSw); go_simp; (try with_reducible rfl))
            simp only [Act.put, List.setIfInBounds_toArray, List.set_cons_zero, List.set_cons_succ, List.getElem_toArray, List.getElem_cons_zero, List.getElem_cons_succ]
            refine wpAnyH_take (i := 11) (v := ?_) rfl (by kernel_rfl) (by kernel_rfl) (by kernel_rfl) (fun _ _ _ h => h) (Or.inl ⟨by rfl, ?_⟩) (by assumption) ?_
            rotate_left
            · (intro w hSw; (try dsimp only at hSw); go_simp; (try with_reducible rfl))
            simp only [Act.put, List.setIfInBounds_toArray, List.set_cons_zero, List.set_cons_succ, List.getElem_toArray, List.getElem_cons_zero, List.getElem_cons_succ]
            refine wpAnyH_take (i := 12) (v := ?_) rfl (by kernel_rfl) (by kernel_rfl) (by kernel_rfl) (fun _ _ _ h => h) (Or.inl ⟨by rfl, ?_⟩) (by assumption) ?_
            rotate_left
            · (intro w hSw; (try dsimp only at hSw); go_simp; (try with_reducible rfl))
            simp only [Act.put, List.setIfInBounds_toArray, List.set_cons_zero, List.set_cons_succ, List.getElem_toArray, List.getElem_cons_zero, List.getElem_cons_succ]
            refine wpAnyH_take (i := 13) (v := ?_) rfl (by kernel_rfl) (by kernel_rfl) (by kernel_rfl) (fun _ _ _ h => h) (Or.inl ⟨by rfl, ?_⟩) (by assumption) ?_
            rotate_left
            · (intro w hSw; (try dsimp only at hSw); go_simp; (try with_reducible rfl))
            simp only [Act.put, List.setIfInBounds_toArray, List.set_cons_zero, List.set_cons_succ, List.getElem_toArray, List.getElem_cons_zero, List.getElem_cons_succ]
            refine wpAnyH_take (i := 14) (v := ?_) rfl (by kernel_rfl) (by kernel_rfl) (by kernel_rfl) (fun _ _ _ h => h) (Or.inl ⟨by rfl, ?_⟩) (by assumption) ?_
            rotate_left
            · (intro w hSw; (try dsimp only at hSw); go_simp; (try with_reducible rfl))
            simp only [Act.put, List.setIfInBounds_toArray, List.set_cons_zero, List.set_cons_succ, List.getElem_toArray, List.getElem_cons_zero, List.getElem_cons_succ]
            refine wpAnyH_ready (rs := [15]) (by kernel_rfl) (by simp) ?_
            refine AllReadyH.cons rfl (fun K hK => ?_) AllReadyH.nil
            go_simp
            (refine HST.out.mono ?_; rintro e w7 ⟨rfl, k7⟩; have K7 := Lib.hid (Kept.trans (Kept.drew (Kept.refl wr)) k7); clear k7)
            go_wp2_with fail
            refine hK.out _ _ ⟨Kept.cell K7.out D0.out, Kept.cell K7.out D5.out, Kept.cell K7.out C0.out, Kept.cell K7.out C2.out⟩ (fun hHeld => ?_)
            clear hK K
            (try simp only [Act.put, List.setIfInBounds_toArray, List.set_cons_zero, List.set_cons_succ, List.getElem_toArray, List.getElem_cons_zero, List.getElem_cons_succ])
            refine wpAnyH_take (i := 16) (v := ?_) rfl (by kernel_rfl) (by kernel_rfl) (by kernel_rfl) (fun _ _ _ h => h) (Or.inl ⟨by rfl, ?_⟩) (by assumption) ?_
            rotate_left
            · (intro w hSw; (try dsimp only at hSw); go_simp; (try with_reducible rfl))
            simp only [Act.put, List.setIfInBounds_toArray, List.set_cons_zero, List.set_cons_succ, List.getElem_toArray, List.getElem_cons_zero, List.getElem_cons_succ]
            refine wpAnyH_take (i := 17) (v := ?_) rfl (by kernel_rfl) (by kernel_rfl) (by kernel_rfl) (fun _ _ _ h => h) (Or.inl ⟨by rfl, ?_⟩) (by assumption) ?_
            rotate_left
            · (intro w hSw; (try dsimp only at hSw); go_simp; (try with_reducible rfl))
            simp only [Act.put, List.setIfInBounds_toArray, List.set_cons_zero, List.set_cons_succ, List.getElem_toArray, List.getElem_cons_zero, List.getElem_cons_succ]
            refine wpAnyH_take (i := 18) (v := ?_) rfl (by kernel_rfl) (by kernel_rfl) (by kernel_rfl) (fun _ _ _ h => h) (Or.inl ⟨by rfl, ?_⟩) (by assumption) ?_
            rotate_left
            · (intro w hSw; (try dsimp only at hSw); go_simp; (try with_reducible rfl))
            simp only [Act.put, List.setIfInBounds_toArray, List.set_cons_zero, List.set_cons_succ, List.getElem_toArray, List.getElem_cons_zero, List.getElem_cons_succ]
            refine wpAnyH_take (i := 19) (v := undef) rfl (by kernel_rfl) (by kernel_rfl) (by kernel_rfl) (fun _ _ _ h => h) (Or.inr ⟨by rfl, rfl⟩) (by assumption) ?_
            simp only [Act.put, List.setIfInBounds_toArray, List.set_cons_zero, List.set_cons_succ, List.getElem_toArray, List.getElem_cons_zero, List.getElem_cons_succ]
            refine wpAnyH_take (i := 20) (v := undef) rfl (by kernel_rfl) (by kernel_rfl) (by kernel_rfl) (fun _ _ _ h => h) (Or.inr ⟨by rfl, rfl⟩) (by assumption) ?_
            simp only [Act.put, List.setIfInBounds_toArray, List.set_cons_zero, List.set_cons_succ, List.getElem_toArray, List.getElem_cons_zero, List.getElem_cons_succ]
            refine wpAnyH_take (i := 21) (v := undef) rfl (by kernel_rfl) (by kernel_rfl) (by kernel_rfl) (fun _ _ _ h => h) (Or.inr ⟨by rfl, rfl⟩) (by assumption) ?_
            simp only [Act.put, List.setIfInBounds_toArray, List.set_cons_zero, List.set_cons_succ, List.getElem_toArray, List.getElem_cons_zero, List.getElem_cons_succ]
            refine wpAnyH_take (i := 22) (v := undef) rfl (by kernel_rfl) (by kernel_rfl) (by kernel_rfl) (fun _ _ _ h => h) (Or.inr ⟨by rfl, rfl⟩) (by assumption) ?_
            simp only [Act.put, List.setIfInBounds_toArray, List.set_cons_zero, List.set_cons_succ, List.getElem_toArray, List.getElem_cons_zero, List.getElem_cons_succ]
            refine wpAnyH_take (i := 23) (v := undef) rfl (by kernel_rfl) (by kernel_rfl) (by kernel_rfl) (fun _ _ _ h => h) (Or.inr ⟨by rfl, rfl⟩) (by assumption) ?_
            simp only [Act.put, List.setIfInBounds_toArray, List.set_cons_zero, List.set_cons_succ, List.getElem_toArray, List.getElem_cons_zero, List.getElem_cons_succ]
            refine wpAnyH_take (i := 24) (v := undef) rfl (by kernel_rfl) (by kernel_rfl) (by kernel_rfl) (fun _ _ _ h => h) (Or.inr ⟨by rfl, rfl⟩) (by assumption) ?_
            simp only [Act.put, List.setIfInBounds_toArray, List.set_cons_zero, List.set_cons_succ, List.getElem_toArray, List.getElem_cons_zero, List.getElem_cons_succ]
            refine wpAnyH_take (i := 25) (v := ?_) rfl (by kernel_rfl) (by kernel_rfl) (by kernel_rfl) (fun _ _ _ h => h) (Or.inl ⟨by rfl, ?_⟩) (by assumption) ?_
            rotate_left
            · (intro w hSw; (try dsimp only at hSw); go_simp; (try with_reducible rfl))
            simp only [Act.put, List.setIfInBounds_toArray, List.set_cons_zero, List.set_cons_succ, List.getElem_toArray, List.getElem_cons_zero, List.getElem_cons_succ]
            refine wpAnyH_ready (rs := [26]) (by kernel_rfl) (by simp) ?_
            refine AllReadyH.cons rfl (fun K hK => ?_) AllReadyH.nil
            obtain ⟨wm, hup, hmu, hgm⟩ := run_update (T := 72) (E := 4) (keyOk_int (P := Tryz.prog) (K := 3) (by kernel_rfl)) (by kernel_rfl) (HM.out.kept K7.out) x (.bool true)
            have HMU := Lib.hid hmu
            have HGM := Lib.hid (KeptBut.of_grown (S := [b7 + 1]) hgm (List.mem_singleton.2 rfl))
            have HMK := Lib.hid (HM.out.kept K7.out)
            clear hmu hgm
            go_simp
            refine hK.out _ _ ⟨cell_maps (Kept.cell K7.out D0.out) HMK.out HGM.out, cell_maps (Kept.cell K7.out D5.out) HMK.out HGM.out, cell_maps (Kept.cell K7.out C0.out) HMK.out HGM.out, cell_maps (Kept.cell K7.out C2.out) HMK.out HGM.out⟩ (fun hHeld => ?_)
            clear hK K
            (try simp only [Act.put, List.setIfInBounds_toArray, List.set_cons_zero, List.set_cons_succ, List.getElem_toArray, List.getElem_cons_zero, List.getElem_cons_succ])
            refine wpAnyH_done (by kernel_rfl) ?_ _
            clear hup
            go_wp2_with fail
            go_roundw
            case rel => exact ⟨k + 1, by omega, by go_num, by rw [← HSM.out true HIN.out.symm]; exact HMU.out, HKB.out.trans ((Kept.but K7.out _).trans HGM.out)⟩
            case measure => simp [intOf]; omega
          · rw [hcl] at HST
            have HIN := Lib.hid (inside_start HXX.out hcl)
            have HHA := Lib.hid (fun w' (hk : Kept w1 w') => setHas AR mR cR R h w' (by omega) (HR1.out.kept hk))
            rw [HRS.out h] at HHA
            clear hcl
            generalize (comps form && secondB (usableN n) h) = bv at *
            go_wp2_with fail
            refine wp_region_held_drew (S := (fun w' => w'.cell? ⟨b7, 0, none⟩ = some (.slice s1.Ac s1.nc s1.cc) ∧ w'.cell? ⟨b7, 5, none⟩ = some (.slice AR mR cR) ∧ w'.cell? ⟨bc, oc + k, none⟩ = some (.int .i64 x) ∧ w'.cell? ⟨b9, o9, none⟩ = some (.int .i64 h))) (by kernel_rfl) ⟨Kept.cell (Kept.drew (Kept.refl wr)) D0.out, Kept.cell (Kept.drew (Kept.refl wr)) D5.out, Kept.cell (Kept.drew (Kept.refl wr)) C0.out, Kept.cell (Kept.drew (Kept.refl wr)) C2.out⟩ (fun hHeld => ?_)
            refine wpAnyH_take (i := 0) (v := ?_) rfl (by kernel_rfl) (by kernel_rfl) (by kernel_rfl) (fun _ _ _ h => h) (Or.inl ⟨by rfl, ?_⟩) (by assumption) ?_
            rotate_left
            · (intro w hSw; (try dsimp only at hSw); go_simp; (try with_reducible rfl))
            simp only [Act.put, List.setIfInBounds_toArray, List.set_cons_zero, List.set_cons_succ, List.getElem_toArray, List.getElem_cons_zero]
            refine wpAnyH_take (i := 1) (v := ?_) rfl (by kernel_rfl) (by kernel_rfl) (by kernel_rfl) (fun _ _ _ h => h) (Or.inl ⟨by rfl, ?_⟩) (by assumption) ?_
            rotate_left
            · (intro w hSw; (try dsimp only at hSw); go_simp; (try with_reducible rfl))
            simp only [Act.put, List.setIfInBounds_toArray, List.set_cons_zero, List.set_cons_succ, List.getElem_toArray, List.getElem_cons_zero, List.getElem_cons_succ]
            refine wpAnyH_take (i := 2) (v := ?_) rfl (by kernel_rfl) (by kernel_rfl) (by kernel_rfl) (fun _ _ _ h => h) (Or.inl ⟨by rfl, ?_⟩) (by assumption) ?_
            rotate_left
            · (intro w hSw; (try dsimp only at hSw); go_simp; (try with_reducible rfl))
            simp only [Act.put, List.setIfInBounds_toArray, List.set_cons_zero, List.set_cons_succ, List.getElem_toArray, List.getElem_cons_zero, List.getElem_cons_succ]
            refine wpAnyH_take (i := 3) (v := ?_) rfl (by kernel_rfl) (by kernel_rfl) (by kernel_rfl) (fun _ _ _ h => h) (Or.inl ⟨by rfl, ?_⟩) (by assumption) ?_
            rotate_left
            · (intro w hSw; (try dsimp only at hSw); go_simp; (try with_reducible rfl))
            simp only [Act.put, List.setIfInBounds_toArray, List.set_cons_zero, List.set_cons_succ, List.getElem_toArray, List.getElem_cons_zero, List.getElem_cons_succ]
            refine wpAnyH_take (i := 4) (v := ?_) rfl (by kernel_rfl) (by kernel_rfl) (by kernel_rfl) (fun _ _ _ h => h) (Or.inl ⟨by rfl, ?_⟩) (by assumption) ?_
            rotate_left
            · (intro w hSw; (try dsimp only at hSw); go_simp; (try with_reducible rfl))
            simp only [Act.put, List.setIfInBounds_toArray, List.set_cons_zero, List.set_cons_succ, List.getElem_toArray, List.getElem_cons_zero, List.getElem_cons_succ]
            refine wpAnyH_take (i := 5) (v := ?_) rfl (by kernel_rfl) (by kernel_rfl) (by kernel_rfl) (fun _ _ _ h => h) (Or.inl ⟨by rfl, ?_⟩) (by assumption) ?_
            rotate_left
            · (intro w hSw; (try dsimp only at hSw); go_simp; (try with_reducible rfl))
            simp only [Act.put, List.setIfInBounds_toArray, List.set_cons_zero, List.set_cons_succ, List.getElem_toArray, List.getElem_cons_zero, List.getElem_cons_succ]
            refine wpAnyH_take (i := 6) (v := ?_) rfl (by kernel_rfl) (by kernel_rfl) (by kernel_rfl) (fun _ _ _ h => h) (Or.inl ⟨by rfl, ?_⟩) (by assumption) ?_
            rotate_left
            · (intro w hSw; (try dsimp only at hSw); go_simp; (try with_reducible rfl))
            simp only [Act.put, List.setIfInBounds_toArray, List.set_cons_zero, List.set_cons_succ, List.getElem_toArray, List.getElem_cons_zero, List.getElem_cons_succ]
            refine wpAnyH_take (i := 7) (v := ?_) rfl (by kernel_rfl) (by kernel_rfl) (by kernel_rfl) (fun _ _ _ h => h) (Or.inl ⟨by rfl, ?_⟩) (by assumption) ?_
            rotate_left
            · (intro w hSw; (try dsimp only at hSw); go_simp; (try with_reducible rfl))
            simp only [Act.put, List.setIfInBounds_toArray, List.set_cons_zero, List.set_cons_succ, List.getElem_toArray, List.getElem_cons_zero, List.getElem_cons_succ]
            refine wpAnyH_take (i := 8) (v := ?_) rfl (by kernel_rfl) (by kernel_rfl) (by kernel_rfl) (fun _ _ _ h => h) (Or.inl ⟨by rfl, ?_⟩) (by assumption) ?_
            rotate_left
            · (intro w hSw; (try dsimp only at hSw); go_simp; (try with_reducible rfl))
            simp only [Act.put, List.setIfInBounds_toArray, List.set_cons_zero, List.set_cons_succ, List.getElem_toArray, List.getElem_cons_zero, List.getElem_cons_succ]
            refine wpAnyH_take (i := 9) (v := ?_) rfl (by kernel_rfl) (by kernel_rfl) (by kernel_rfl) (fun _ _ _ h => h) (Or.inl ⟨by rfl, ?_⟩) (by assumption) ?_
            rotate_left
            · (intro w hSw; (try dsimp only at hSw); go_simp; (try with_reducible rfl))
            simp only [Act.put, List.setIfInBounds_toArray, List.set_cons_zero, List.set_cons_succ, List.getElem_toArray, List.getElem_cons_zero, List.getElem_cons_succ]
            refine wpAnyH_take (i := 10) (v := ?_) rfl (by kernel_rfl) (by kernel_rfl) (by kernel_rfl) (fun _ _ _ h => h) (Or.inl ⟨by rfl, ?_⟩) (by assumption) ?_
            rotate_left
            · (intro w hSw; (try dsimp only at hSw); go_simp; (try with_reducible rfl))
            simp only [Act.put, List.setIfInBounds_toArray, List.set_cons_zero, List.set_cons_succ, List.getElem_toArray, List.getElem_cons_zero, List.getElem_cons_succ]
            refine wpAnyH_take (i := 11) (v := ?_) rfl (by kernel_rfl) (by kernel_rfl) (by kernel_rfl) (fun _ _ _ h => h) (Or.inl ⟨by rfl, ?_⟩) (by assumption) ?_
            rotate_left
            · (intro w hSw; (try dsimp only at hSw); go_simp; (try with_reducible rfl))
            simp only [Act.put, List.setIfInBounds_toArray, List.set_cons_zero, List.set_cons_succ, List.getElem_toArray, List.getElem_cons_zero, List.getElem_cons_succ]
            refine wpAnyH_take (i := 12) (v := ?_) rfl (by kernel_rfl) (by kernel_rfl) (by kernel_rfl) (fun _ _ _ h => h) (Or.inl ⟨by rfl, ?_⟩) (by assumption) ?_
            rotate_left
            · (intro w hSw; (try dsimp only at hSw); go_simp; (try with_reducible rfl))
            simp only [Act.put, List.setIfInBounds_toArray, List.set_cons_zero, List.set_cons_succ, List.getElem_toArray, List.getElem_cons_zero, List.getElem_cons_succ]
            refine wpAnyH_take (i := 13) (v := ?_) rfl (by kernel_rfl) (by kernel_rfl) (by kernel_rfl) (fun _ _ _ h => h) (Or.inl ⟨by rfl, ?_⟩) (by assumption) ?_
            rotate_left
            · (intro w hSw; (try dsimp only at hSw); go_simp; (try with_reducible rfl))
            simp only [Act.put, List.setIfInBounds_toArray, List.set_cons_zero, List.set_cons_succ, List.getElem_toArray, List.getElem_cons_zero, List.getElem_cons_succ]
            refine wpAnyH_take (i := 14) (v := ?_) rfl (by kernel_rfl) (by kernel_rfl) (by kernel_rfl) (fun _ _ _ h => h) (Or.inl ⟨by rfl, ?_⟩) (by assumption) ?_
            rotate_left
            · (intro w hSw; (try dsimp only at hSw); go_simp; (try with_reducible rfl))
            simp only [Act.put, List.setIfInBounds_toArray, List.set_cons_zero, List.set_cons_succ, List.getElem_toArray, List.getElem_cons_zero, List.getElem_cons_succ]
            refine wpAnyH_ready (rs := [15]) (by kernel_rfl) (by simp) ?_
            refine AllReadyH.cons rfl (fun K hK => ?_) AllReadyH.nil
            go_simp
            (refine HST.out.mono ?_; rintro e w7 ⟨rfl, k7⟩; have K7 := Lib.hid (Kept.trans (Kept.drew (Kept.refl wr)) k7); clear k7)
            go_wp2_with fail
            refine hK.out _ _ ⟨Kept.cell K7.out D0.out, Kept.cell K7.out D5.out, Kept.cell K7.out C0.out, Kept.cell K7.out C2.out⟩ (fun hHeld => ?_)
            clear hK K
            (try simp only [Act.put, List.setIfInBounds_toArray, List.set_cons_zero, List.set_cons_succ, List.getElem_toArray, List.getElem_cons_zero, List.getElem_cons_succ])
            refine wpAnyH_take (i := 16) (v := ?_) rfl (by kernel_rfl) (by kernel_rfl) (by kernel_rfl) (fun _ _ _ h => h) (Or.inl ⟨by rfl, ?_⟩) (by assumption) ?_
            rotate_left
            · (intro w hSw; (try dsimp only at hSw); go_simp; (try with_reducible rfl))
            simp only [Act.put, List.setIfInBounds_toArray, List.set_cons_zero, List.set_cons_succ, List.getElem_toArray, List.getElem_cons_zero, List.getElem_cons_succ]
            refine wpAnyH_take (i := 17) (v := ?_) rfl (by kernel_rfl) (by kernel_rfl) (by kernel_rfl) (fun _ _ _ h => h) (Or.inl ⟨by rfl, ?_⟩) (by assumption) ?_
            rotate_left
            · (intro w hSw; (try dsimp only at hSw); go_simp; (try with_reducible rfl))
            simp only [Act.put, List.setIfInBounds_toArray, List.set_cons_zero, List.set_cons_succ, List.getElem_toArray, List.getElem_cons_zero, List.getElem_cons_succ]
            refine wpAnyH_take (i := 18) (v := ?_) rfl (by kernel_rfl) (by kernel_rfl) (by kernel_rfl) (fun _ _ _ h => h) (Or.inl ⟨by rfl, ?_⟩) (by assumption) ?_
            rotate_left
            · (intro w hSw; (try dsimp only at hSw); go_simp; (try with_reducible rfl))
            simp only [Act.put, List.setIfInBounds_toArray, List.set_cons_zero, List.set_cons_succ, List.getElem_toArray, List.getElem_cons_zero, List.getElem_cons_succ]
            refine wpAnyH_take (i := 19) (v := ?_) rfl (by kernel_rfl) (by kernel_rfl) (by kernel_rfl) (fun _ _ _ h => h) (Or.inl ⟨by rfl, ?_⟩) (by assumption) ?_
            rotate_left
            · (intro w hSw; (try dsimp only at hSw); go_simp; (try with_reducible rfl))
            simp only [Act.put, List.setIfInBounds_toArray, List.set_cons_zero, List.set_cons_succ, List.getElem_toArray, List.getElem_cons_zero, List.getElem_cons_succ]
            refine wpAnyH_take (i := 20) (v := ?_) rfl (by kernel_rfl) (by kernel_rfl) (by kernel_rfl) (fun _ _ _ h => h) (Or.inl ⟨by rfl, ?_⟩) (by assumption) ?_
            rotate_left
            · (intro w hSw; (try dsimp only at hSw); go_simp; (try with_reducible rfl))
            simp only [Act.put, List.setIfInBounds_toArray, List.set_cons_zero, List.set_cons_succ, List.getElem_toArray, List.getElem_cons_zero, List.getElem_cons_succ]
            refine wpAnyH_take (i := 21) (v := ?_) rfl (by kernel_rfl) (by kernel_rfl) (by kernel_rfl) (fun _ _ _ h => h) (Or.inl ⟨by rfl, ?_⟩) (by assumption) ?_
            rotate_left
            · (intro w hSw; (try dsimp only at hSw); go_simp; (try with_reducible rfl))
            simp only [Act.put, List.setIfInBounds_toArray, List.set_cons_zero, List.set_cons_succ, List.getElem_toArray, List.getElem_cons_zero, List.getElem_cons_succ]
            refine wpAnyH_take (i := 22) (v := ?_) rfl (by kernel_rfl) (by kernel_rfl) (by kernel_rfl) (fun _ _ _ h => h) (Or.inl ⟨by rfl, ?_⟩) (by assumption) ?_
            rotate_left
            · (intro w hSw; (try dsimp only at hSw); go_simp; (try with_reducible rfl))
            simp only [Act.put, List.setIfInBounds_toArray, List.set_cons_zero, List.set_cons_succ, List.getElem_toArray, List.getElem_cons_zero, List.getElem_cons_succ]
            refine wpAnyH_take (i := 23) (v := ?_) rfl (by kernel_rfl) (by kernel_rfl) (by kernel_rfl) (fun _ _ _ h => h) (Or.inl ⟨by rfl, ?_⟩) (by assumption) ?_
            rotate_left
            · (intro w hSw; (try dsimp only at hSw); go_simp; (try with_reducible rfl))
            simp only [Act.put, List.setIfInBounds_toArray, List.set_cons_zero, List.set_cons_succ, List.getElem_toArray, List.getElem_cons_zero, List.getElem_cons_succ]
            refine wpAnyH_ready (rs := [24]) (by kernel_rfl) (by simp) ?_
            refine AllReadyH.cons rfl (fun K hK => ?_) AllReadyH.nil
            go_simp
            (refine (HHA.out _ (Kept.trans K1R.out K7.out)).mono ?_; rintro e w8 ⟨rfl, k8⟩; have K8 := Lib.hid (Kept.trans K7.out k8); clear k8)
            go_wp2_with fail
            refine hK.out _ _ ⟨Kept.cell K8.out D0.out, Kept.cell K8.out D5.out, Kept.cell K8.out C0.out, Kept.cell K8.out C2.out⟩ (fun hHeld => ?_)
            clear hK K
            (try simp only [Act.put, List.setIfInBounds_toArray, List.set_cons_zero, List.set_cons_succ, List.getElem_toArray, List.getElem_cons_zero, List.getElem_cons_succ])
            refine wpAnyH_take (i := 25) (v := ?_) rfl (by kernel_rfl) (by kernel_rfl) (by kernel_rfl) (fun _ _ _ h => h) (Or.inl ⟨by rfl, ?_⟩) (by assumption) ?_
            rotate_left
            · (intro w hSw; (try dsimp only at hSw); go_simp; (try with_reducible rfl))
            simp only [Act.put, List.setIfInBounds_toArray, List.set_cons_zero, List.set_cons_succ, List.getElem_toArray, List.getElem_cons_zero, List.getElem_cons_succ]
            refine wpAnyH_ready (rs := [26]) (by kernel_rfl) (by simp) ?_
            refine AllReadyH.cons rfl (fun K hK => ?_) AllReadyH.nil
            obtain ⟨wm, hup, hmu, hgm⟩ := run_update (T := 72) (E := 4) (keyOk_int (P := Tryz.prog) (K := 3) (by kernel_rfl)) (by kernel_rfl) (HM.out.kept K8.out) x (.bool bv)
            have HMU := Lib.hid hmu
            have HGM := Lib.hid (KeptBut.of_grown (S := [b7 + 1]) hgm (List.mem_singleton.2 rfl))
            have HMK := Lib.hid (HM.out.kept K8.out)
            clear hmu hgm
            go_simp
            refine hK.out _ _ ⟨cell_maps (Kept.cell K8.out D0.out) HMK.out HGM.out, cell_maps (Kept.cell K8.out D5.out) HMK.out HGM.out, cell_maps (Kept.cell K8.out C0.out) HMK.out HGM.out, cell_maps (Kept.cell K8.out C2.out) HMK.out HGM.out⟩ (fun hHeld => ?_)
            clear hK K
            (try simp only [Act.put, List.setIfInBounds_toArray, List.set_cons_zero, List.set_cons_succ, List.getElem_toArray, List.getElem_cons_zero, List.getElem_cons_succ])
            refine wpAnyH_done (by kernel_rfl) ?_ _
            clear hup
            go_wp2_with fail
            go_roundw
            case rel => exact ⟨k + 1, by omega, by go_num, by rw [← HSM.out bv HIN.out.symm]; exact HMU.out, HKB.out.trans ((Kept.but K8.out _).trans HGM.out)⟩
            case measure => simp [intOf]; omega
      · have hkm : k = mT := by omega
        have HM6 := Lib.hid (show MapIs wr (b7 + 1) (fun k : Int => Value.int .i64 k) (insM n form codes) by
          have := HM.out
          rwa [List.take_of_length_le (by have := IC0.out; omega)] at this)
        have HMB := Lib.hid (show ∀ x ∈ text, (getKV (insM n form codes) x).getD (.bool false) = .bool (!boundB n form x) from fun x hx => by
          rw [insM_get]
          cases hv : validB x
          · rw [bound_invalid n form hv]
            have : ¬ x ∈ codes := fun hm => by have := ((HDS.out.1 x).1 hm).2; rw [hv] at this; cases this
            simp [this]
          · have : x ∈ codes := (HDS.out.1 x).2 ⟨hx, hv⟩
            rw [bound_inside n HF.out]
            simp [this])
        have KW6 := Lib.hid KWR.out
        subst hkm
        clear HM HKB K1R KWR hbk
        go_wp2_with fail
        generalize insM n form codes = M at *
        generalize wr = w9 at *
        obtain ⟨base, hbase⟩ : ∃ base : Nat, base = w9.heap.size := ⟨_, rfl⟩
        have hb6 : base ≤ w9.heap.size := by omega
        have hb7 : w9.heap.size ≤ base := by omega
        clear hbase
        go_loopw [13, 65] (fun p i wr => ∃ k : Nat, k ≤ nt ∧ i = .int .i64 k ∧ OwnI wr base p (bndI n form (text.take k)) ∧ Kept w9 wr) (fun _ i _ => nt - (intOf i).toNat)
        case atStart => exact ⟨0, Nat.zero_le _, rfl, (by rw [List.take_zero]; exact (World.ownsRow_nil _ _ _ _ : OwnI w9 base (.slice none 0 0) [])), Kept.refl _⟩
        case round =>
          obtain ⟨k, hk, rfl, hown, hkw⟩ := hrel
          have HO := Lib.hid hown
          have HKW := Lib.hid hkw
          have HKR := Lib.hid (Kept.trans KW6.out hkw)
          have hsz := hkw.size
          clear hown hkw
          by_cases hlt : k < nt
          · obtain ⟨b, off, x, hA, hx, c0⟩ := int_at (HT.out.kept HKR.out) hlt
            have hlk := run_lookup_plain (T := 72) (E := 4) (keyOk_int (P := Tryz.prog) (K := 3) (by kernel_rfl)) (by kernel_rfl) (HM6.out.kept HKW.out) (.bool false) (fun w => by kernel_rfl) x
            rw [HMB.out x (mem_of_getElem?_some hx)] at hlk
            have HST := Lib.hid (bndI_step (n := n) (form := form) hx)
            have hbl : (bndI n form (text.take k)).length ≤ 100000 := by
              have h1 := bndI_le n form (text.take k)
              have h2 : (text.take k).length ≤ k := List.length_take_le _ _
              omega
            subst hA
            clear hx
            cases hb : boundB n form x
            · rw [hb] at hlk HST
              simp only [Bool.not_false, Bool.false_eq_true, if_false, List.append_nil] at hlk HST
              clear hb
              go_wp2_with fail
              go_roundw
              case rel => exact ⟨k + 1, by omega, by go_num, by rw [HST.out]; exact HO.out, HKW.out⟩
              case measure => simp [intOf]; omega
            · rw [hb] at hlk HST
              simp only [Bool.not_true, if_true] at hlk HST
              have hka := Kept.alloc (Kept.refl wr) (Obj.cells #[Value.int IntKind.i64 (k : Int)] 3)
              have HKA := Lib.hid hka
              clear hb hka
              go_wp2_with (at_builtin; refine app_ints rfl _ _ rfl base _ _ rfl (by exact World.ownsRow.alloc HO.out _) _ _ _ [(k : Int)] rfl (by exact Ints.alloc_ (xs := [(k : Int)]) rfl rfl) (by simp; omega) (by simp; omega) ?_; intro v7 w7 hown7 hgrow7 hat7)
              have HO7 := Lib.hid hown7
              have hk7 : Kept w9 w7 := (Kept.trans HKW.out HKA.out).grown hgrow7 (by simp; omega) (fun q e => by have := (World.ownsRow.lt HO.out q e).1; omega)
              clear hown7 hgrow7 hat7
              go_roundw
              case rel => exact ⟨k + 1, by omega, by go_num, by rw [HST.out]; exact HO7.out, hk7⟩
              case measure => simp [intOf]; omega
          · have hkn : k = nt := by omega
            have hown3 := HO.out
            rw [List.take_of_length_le (by have := HTN.out; omega)] at hown3
            obtain ⟨A3, c3, rfl, hle, hI⟩ := OwnI.sl hown3
            have HI := Lib.hid hI
            have HLE := Lib.hid hle
            obtain ⟨m1, hm1⟩ : ∃ m1 : Nat, m1 = (bndI n form text).length := ⟨_, rfl⟩
            rw [← hm1] at HI HLE ⊢
            clear hown3 hI hle hm1 HO
            subst hkn
            go_wp2_with fail
            go_ret
            exact ⟨A3, m1, c3, rfl, HLE.out, HI.out, HKR.out⟩
end Go.Proofs.YtbhglkofaendjaaGreatDoor
