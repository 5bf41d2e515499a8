/- Leaf functions: kinds of Hangul, code points, cmp. -/
import Derived.Test.YtjfhcmkcmdnhoaaGreatDoorKBase
import Derived.Test.YtjfhcmkcmdnhoaaGreatDoorKPl
namespace Go.Proofs.YtjfhcmkcmdnhoaaGreatDoor
open Go Go.RowKit
theorem valid_any (c : Int) (w : World) : Calls Tryz.prog 87 #[.int .i64 c] w fun e w' => e = .returned (.bool (validB c)) ∧ w = w' := by
  go_enter Tryz.func87, Tryz.ntmps87
  go_wp2
  all_goals (go_ret; exact ⟨ret_bool (by simp [validB, *] <;> omega), rfl⟩)
theorem kind_any (c : Int) (w : World) :
    Calls Tryz.prog 104 #[.int .i64 c] w fun e w' => e = .returned (.int .i64 (kind c)) ∧ w = w' := by
  go_enter Tryz.func104, Tryz.ntmps104
  go_wp2
  all_goals (go_ret; refine ⟨ret_int ?_, rfl⟩; unfold kind; simp_all <;> omega)
theorem isNaN_any (c : Int) (w : World) : Calls Tryz.prog 134 #[.int .i64 c] w fun e w' => e = .returned (.bool false) ∧ w = w' := by
  go_enter Tryz.func134, Tryz.ntmps134
  go_wp2
  all_goals (go_ret; exact ⟨ret_bool (by simp), rfl⟩)
theorem cmp_any (a b : Int) (w : World) : Calls Tryz.prog 100 #[.int .i64 a, .int .i64 b] w fun e w' => e = .returned (.int .i64 (cmpI a b)) ∧ w = w' := by
  go_enter Tryz.func100, Tryz.ntmps100
  go_wp2_with (go_at_call 134; refine (isNaN_any _ _).mono ?_; rintro e w' ⟨rfl, rfl⟩)
  all_goals (go_ret; exact ⟨ret_int (by unfold cmpI; first | (rw [if_pos (by assumption)]) | (rw [if_neg (by omega), if_pos (by omega)]) | (rw [if_neg (by omega), if_neg (by omega)])), rfl⟩)
theorem or_two (b off c : Nat) (x y : Int) (w : World) (h0 : w.cell? ⟨b, off, none⟩ = some (.int .i64 x)) (h1 : w.cell? ⟨b, off + 1, none⟩ = some (.int .i64 y)) :
    Calls Tryz.prog 142 #[.slice (some ⟨b, off, none⟩) 2 c] w fun e w' => e = .returned (.int .i64 (orI x y)) ∧ w = w' := by
  by_cases hx : x = 0
  · subst hx
    by_cases hy : y = 0
    · subst hy
      go_enter Tryz.func142, Tryz.ntmps142
      go_wp2
      refine wp_loop_rounds 3 ?_
      rw [rounds_succ]
      go_wp2
      rw [rounds_succ]
      go_wp2
      rw [rounds_succ]
      go_wp2
      go_ret
      exact ⟨rfl, rfl⟩
    · have hb : (y != 0) = true := by simpa using hy
      go_enter Tryz.func142, Tryz.ntmps142
      go_wp2
      refine wp_loop_rounds 3 ?_
      rw [rounds_succ]
      go_wp2
      rw [rounds_succ]
      go_wp2
      go_ret
      exact ⟨rfl, rfl⟩
  · have hb : (x != 0) = true := by simpa using hx
    have ho : orI x y = x := if_neg hx
    have HO := Lib.hid ho
    clear ho
    go_enter Tryz.func142, Tryz.ntmps142
    go_wp2
    refine wp_loop_rounds 3 ?_
    rw [rounds_succ]
    go_wp2
    go_ret
    exact ⟨ret_int HO.out.symm, rfl⟩
end Go.Proofs.YtjfhcmkcmdnhoaaGreatDoor
