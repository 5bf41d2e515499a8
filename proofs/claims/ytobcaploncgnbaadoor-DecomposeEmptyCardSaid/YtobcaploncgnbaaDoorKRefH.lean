/- References: Make and Valid of layer 2. -/
import Derived.Test.YtobcaploncgnbaaDoorKRefG
namespace Go.Proofs.YtobcaploncgnbaaDoor
open Go Go.RowKit

theorem r02Make (A : Option Addr) (n c : Nat) (l : List Rng) (w : World) (hn : n ≤ 4000) (hl : Rngs w A n l) : Calls Tryd.prog 25 #[.slice A n c] w (RetSet w (refMake l)) := by
  have HL := Lib.hid hl
  clear hl
  go_enter Tryd.func25, Tryd.ntmps25
  have hk1 := Kept.alloc (Kept.refl w) (Obj.cells #[Value.slice none 0 0] 26)
  have HC := Lib.hid (r02combine 1 (fun x y => x || y) r02keepsOr A n c l none 0 0 [] (w.alloc (Obj.cells #[Value.slice none 0 0] 26)) hn (by omega) (HL.out.kept hk1) Sl.nil)
  have x2 : (w.alloc (Obj.cells #[Value.slice none 0 0] 26)).heap[w.heap.size]? = some (Obj.cells #[Value.slice none 0 0] 26 (0, 0)) := alloc_at rfl
  have HX2 := Lib.hid x2
  have hk2 : Below w.heap.size w (w.alloc (Obj.cells #[Value.slice none 0 0] 26)) := hk1
  clear x2 hk1
  go_wp2_with fail
  generalize w.alloc (Obj.cells #[Value.slice none 0 0] 26) = W1 at *
  obtain ⟨b2, hb2⟩ : ∃ b2 : Nat, b2 = w.heap.size := ⟨_, rfl⟩
  have HB2 := Lib.hid hb2
  rw [← hb2] at HX2 ⊢
  clear hb2
  refine HC.out.mono ?_
  rintro e w3 ⟨A4, n4, c4, rfl, hle4, hS4, hk4⟩
  have e1 : w3.heap[b2]? = some (.cells #[.slice none 0 0] 26 (0, 0)) := (hk4.block b2 (block_lt HX2.out)).trans HX2.out
  have e2 := cell_of_block (i := 0) e1 rfl
  have e3 := frozen_of_block (i := 0) e1
  have HS4 := Lib.hid hS4
  have HE1 := Lib.hid e1
  simp only [List.getElem_toArray, List.getElem_cons_zero] at e2
  clear hS4 e1
  go_wp2_with fail
  have e4 : (w3.setCell ⟨b2, 0, none⟩ (.slice A4 n4 c4)).cell? ⟨b2, 0, none⟩ = some (.slice A4 n4 c4) := cell_of_block (i := 0) (heap_setCell_one HE1.out) rfl
  clear e2 e3
  refine bodyPost_ret (v := .agg #[.slice A4 n4 c4]) (by simp [results, Tryd.results25, go_sem, e4]) rfl ⟨A4, _, c4, rfl, hle4, ?_, ?_⟩
  · exact rngs_setSet HS4.out HE1.out
  · exact Kept.setCell (Kept.trans hk2 hk4) (by rw [HB2.out]; exact Nat.le_refl _) _

set_option maxRecDepth 100000 in
theorem r02Valid (A : Option Addr) (n c : Nat) (l : List Rng) (w : World) (hn : n ≤ 4000) (hl : Rngs w A n l) (hlen : (refMake l).length ≤ 100000) : Calls Tryd.prog 17 #[.agg #[.slice A n c]] w (RetB w (decide (l = refMake l))) := by
  have HL := Lib.hid hl
  clear hl
  go_enter Tryd.func17, Tryd.ntmps17
  have HK0 := Lib.hid (Kept.drew (Kept.alloc (Kept.refl w) (Obj.cells #[Value.slice A n c] 26)))
  have x0 : (w.alloc (Obj.cells #[Value.slice A n c] 26)).cell? ⟨w.heap.size, 0, none⟩ = some (.slice A n c) := box_cell _ _ _ _
  have HX0 := Lib.hid x0
  have HC := Lib.hid (r02Make A n c l (w.alloc (Obj.cells #[Value.slice A n c] 26)).drew hn (HL.out.kept HK0.out))
  go_wp2_with fail
  go_region_held3 (fun w' => w'.cell? ⟨w.heap.size, 0, none⟩ = some (.slice A n c)) (first | exact t0 | exact HX0.out)
    (first
      | (go_at_call 18; refine (r02Same A A1 n n1 c c1 l (refMake l) w1 (by omega) ?_ ?_ ?_).mono ?_; (have := HS1.out.1; omega); (exact HL.out.kept (Kept.trans HK0.out hk1)); (exact HS1.out); rintro e w2 ⟨rfl, hk2⟩; have t0 := Kept.cell hk2 (Kept.cell hk1 HX0.out))
      | (go_at_call 25; refine HC.out.mono ?_; rintro e w1 ⟨A1, n1, c1, rfl, hle1, hS1, hk1⟩; have HS1 := Lib.hid hS1; clear hS1; have t0 := Kept.cell hk1 HX0.out))
  go_wp2_with fail
  go_ret
  exact ⟨rfl, Kept.trans (Kept.trans HK0.out hk1) hk2⟩
end Go.Proofs.YtobcaploncgnbaaDoor
