/- quickcheck.Boundary. -/
import Derived.Test.YtjfhcmkcmdnhoaaGreatDoorKQcf
namespace Go.Proofs.YtjfhcmkcmdnhoaaGreatDoor
open Go Go.RowKit
theorem bndI_one (n : Nrm) (form c : Int) : bndI n form [c] = if boundB n form c = true then [0] else [] := by
  unfold bndI
  simp only [bnds]
  split <;> rfl
set_option maxRecDepth 100000 in
set_option maxHeartbeats 2000000 in
theorem bound_any (s : Sls) (n : Nrm) (form c : Int) (w : World) (hN : NormAt w s n) (hG : Glob w) :
    Calls Tryz.prog 26 #[s.val, .int .i64 form, .int .i64 c] w (RetB w (boundB n form c)) := by
  have hk1 := Kept.alloc (Kept.refl w) (Obj.cells #[Value.slice s.Ac s.nc s.cc, Value.slice s.Am s.nm s.cm, Value.slice s.Ae s.ne s.ce] 28)
  have hk2 := Kept.alloc hk1 (Obj.cells #[Value.int IntKind.i64 c] 3)
  have HB := Lib.hid (bounds_any s n form (some ⟨w.heap.size + 1, 0, none⟩) 1 1 [c] _ (hN.kept hk2) (hG.kept hk2) (by omega) (Ints.alloc_ (xs := [c]) (by simp) rfl))
  have HK2 := Lib.hid hk2
  rw [bndI_one] at HB
  clear hN hG hk1 hk2
  cases hb : boundB n form c
  all_goals
    rw [hb] at HB
    simp only [Bool.false_eq_true, if_false, if_true] at HB
    clear hb
    unfold Sls.val at *
    go_enter Tryz.func26, Tryz.ntmps26
    go_wp2_with fail
    refine HB.out.mono ?_
    rintro e w1 ⟨A1, n1, c1, rfl, le1, i1, k1⟩
    have hn1 := i1.1
    simp only [List.length_cons, List.length_nil] at hn1
    subst hn1
    have K1 := Lib.hid (Kept.trans HK2.out k1)
    clear i1 k1
    go_wp2_with fail
    go_ret
    exact ⟨rfl, K1.out⟩
end Go.Proofs.YtjfhcmkcmdnhoaaGreatDoor
