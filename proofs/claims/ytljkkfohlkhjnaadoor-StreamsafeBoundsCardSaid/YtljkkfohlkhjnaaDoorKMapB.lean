/- mapping: compare, isName, parts, keyOf. -/
import Derived.StillTailTactics
import Derived.Deep.RegionWith
import Derived.Laws.ResultCell
import Derived.Test.YtljkkfohlkhjnaaDoorKMapA
namespace Go.Proofs.YtljkkfohlkhjnaaDoor
open Go Go.RowKit

set_option maxHeartbeats 1000000 in
set_option maxRecDepth 100000 in
theorem compare_any (x y : Int) (v1 v2 : Value) (s t : ByteArray) (w : World) : Calls Tryd.prog 45 #[.agg #[.int .i64 x, v1, .string s], .agg #[.int .i64 y, v2, .string t]] w (RetI w (orI (cmpI x y) (cmpS s t))) := by
  go_enter Tryd.func45, Tryd.ntmps45
  go_wp2
  refine region_still_tail 10 (by kernel_rfl) (by kernel_rfl) ?_
  simp only [List.take_succ_cons, List.take_zero, List.drop_succ_cons, List.drop_zero]
  still_step
  still_step
  still_step
  still_step
  still_call (flip_ (cmp_any _ _ _))
  still_step
  still_step
  still_step
  still_step
  still_call (flip_ (cmps_any _ _ _))
  refine wpStill_nil ?_
  go_wp2_with (go_at_call 61; refine (or_two _ _ _ (cmpI x y) (cmpS s t) _ (by go_simp) (by go_simp)).mono ?_; rintro e w' ⟨rfl, rfl⟩)
  go_ret
  exact ⟨rfl, by repeat (first | exact Kept.refl _ | refine Kept.drew ?_ | refine Kept.alloc ?_ _)⟩
end Go.Proofs.YtljkkfohlkhjnaaDoor
