/- joining.Join: the result lies in a block of the call's own. -/
import Derived.Test.YtckgmkjoblneeaaGreatDoorKJo
import Derived.Test.YtckgmkjoblneeaaGreatDoorKRfb
namespace Go.Proofs.YtckgmkjoblneeaaGreatDoor
open Go Go.RowKit
set_option maxRecDepth 100000 in
set_option maxHeartbeats 2000000 in
theorem joinP_far (s : Sls) (n : Nrm) (form : Int) (A : Option Addr) (na ca : Nat) (a : List Int) (B : Option Addr) (nb cb : Nat) (b : List Int) (w : World) (hN : NormAt w s n) (hG : Glob w)
    (hna : na ≤ 100000) (hnb : nb ≤ 100000) (lea : na ≤ ca) (leb : nb ≤ cb) (hA : Ints w A na a) (hB : Ints w B nb b) :
    Calls Tryz.prog 8 #[s.val, .int .i64 form, .slice A na ca, .slice B nb cb] w (RetFar w (joinM n form a [] b)) := by
  have hk1 := Kept.alloc (Kept.refl w) (Obj.cells #[Value.slice s.Ac s.nc s.cc, Value.slice s.Am s.nm s.cm, Value.slice s.Ae s.ne s.ce] 28)
  have HJ := Lib.hid (join_all s n form A na ca a none 0 0 [] B nb cb b _ (hN.kept hk1) (hG.kept hk1) hna (Nat.zero_le _) hnb lea (Nat.le_refl _) leb (hA.kept hk1) Sl.nil (hB.kept hk1))
  have HK1 := Lib.hid hk1
  unfold RetJoin at HJ
  clear hN hG hA hB hk1
  generalize joinM n form a [] b = J at *
  generalize jFrom n form a + (jMid n form a [] b).length = hi at *
  generalize jFrom n form a = lo at *
  unfold Sls.val at *
  go_enter Tryz.func8, Tryz.ntmps8
  go_wp2_with fail
  refine HJ.out.mono ?_
  rintro e w1 ⟨Q, k, c, rfl, le1, i1, fr1, k1⟩
  have I1 := Lib.hid (i1.kept (Kept.alloc (Kept.refl w1) (Obj.cells #[Value.int IntKind.i64 (lo : Int), Value.int IntKind.i64 (hi : Int)] 48)))
  have K1 := Lib.hid (Kept.trans HK1.out (Kept.alloc k1 (Obj.cells #[Value.int IntKind.i64 (lo : Int), Value.int IntKind.i64 (hi : Int)] 48)))
  have FR1 := Lib.hid fr1
  clear i1 k1 fr1
  go_wp2_with fail
  go_ret
  exact ⟨Q, k, c, rfl, le1, I1.out, fun x hx => by have := FR1.out x hx; simp at this; omega, K1.out⟩
end Go.Proofs.YtckgmkjoblneeaaGreatDoor
