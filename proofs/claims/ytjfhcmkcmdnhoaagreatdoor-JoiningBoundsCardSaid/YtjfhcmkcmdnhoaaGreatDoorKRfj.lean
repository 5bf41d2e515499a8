/- References: Decompose of layer 19, Small of layer 21. References: ends of layer 21. And more of that kind. -/
import Derived.Test.YtjfhcmkcmdnhoaaGreatDoorKRfx
import Derived.Test.YtjfhcmkcmdnhoaaGreatDoorKRefA
import Derived.Test.YtjfhcmkcmdnhoaaGreatDoorKHan
import Derived.Test.YtjfhcmkcmdnhoaaGreatDoorKDca
import Derived.Test.YtjfhcmkcmdnhoaaGreatDoorKPl
import Derived.Test.YtjfhcmkcmdnhoaaGreatDoorKOwn
import Derived.Test.YtjfhcmkcmdnhoaaGreatDoorKApp
import Derived.Test.YtjfhcmkcmdnhoaaGreatDoorKSet
import Derived.Test.YtjfhcmkcmdnhoaaGreatDoorKPq
import Derived.Test.YtjfhcmkcmdnhoaaGreatDoorKExpC
namespace Go.Proofs.YtjfhcmkcmdnhoaaGreatDoor
open Go Go.RowKit
structure NormIn (w : World) (s : Sls) (n : Nrm) : Prop where
  hc : s.nc ≤ s.cc
  hm : s.nm ≤ s.cm
  he : s.ne ≤ s.ce
  bm : s.nm ≤ 9223372036854775807
  cls : Spans w s.Ac s.nc n.classes
  dec : Mps w s.Am s.nm n.decomp
  exc : Rngs w s.Ae s.ne n.excl
  to : ∀ m ∈ n.decomp, m.to.length ≤ 9223372036854775807
theorem NormIn.kept {w w' : World} {s : Sls} {n : Nrm} (h : NormIn w s n) (hk : Kept w w') : NormIn w' s n :=
  ⟨h.hc, h.hm, h.he, h.bm, h.cls.kept hk, h.dec.kept hk, h.exc.kept hk, h.to⟩
theorem NormIn.small {w : World} {s : Sls} {n : Nrm} (h : NormIn w s n) (hs : smallB n = true) : NormAt w s n := by
  obtain ⟨h1, h2, h3, h4⟩ := smallB_parts hs
  have e1 := h.cls.1
  have e2 := h.dec.1
  have e3 := h.exc.1
  exact ⟨h.hc, h.hm, h.he, by omega, by omega, by omega, h.cls, h.dec, h.exc, fun m hm => by have := (h4 m hm).1; omega⟩
set_option maxHeartbeats 1000000 in
theorem r21small (s : Sls) (n : Nrm) (w : World) (h : NormIn w s n) : Calls Tryz.prog 29 #[s.val] w (RetB w (smallB n)) := by
  have HN := Lib.hid h
  have HE1 := Lib.hid h.cls.1
  have HE3 := Lib.hid h.exc.1
  have HK1 := Lib.hid (Kept.alloc (Kept.refl w) (Obj.cells #[Value.slice s.Ac s.nc s.cc, Value.slice s.Am s.nm s.cm, Value.slice s.Ae s.ne s.ce] 28))
  have HS11 := Lib.hid (r11Small s.Am s.nm s.cm n.decomp (w.alloc (Obj.cells #[Value.slice s.Ac s.nc s.cc, Value.slice s.Am s.nm s.cm, Value.slice s.Ae s.ne s.ce] 28)) h.bm (h.dec.kept HK1.out) h.to)
  clear h
  have hsb : smallB n = (decide (s.nc ≤ 16) && smallMaps n.decomp && decide (s.ne ≤ 12)) := by unfold smallB; rw [HE1.out, HE3.out]
  have HSB := Lib.hid hsb
  clear hsb
  unfold Sls.val
  cases h1 : decide (s.nc ≤ 16)
  · have HR := Lib.hid (show smallB n = false by rw [HSB.out, h1]; rfl)
    have HS20 := Lib.hid (r20Small s.Ac s.nc s.cc)
    rw [h1] at HS20
    go_enter Tryz.func29, Tryz.ntmps29
    go_wp2_with (go_at_call 51; refine (HS20.out _).mono ?_; rintro e w' ⟨rfl, rfl⟩)
    go_ret
    exact ⟨ret_bool HR.out.symm, HK1.out⟩
  · have HS20 := Lib.hid (r20Small s.Ac s.nc s.cc)
    rw [h1] at HS20
    cases h2 : smallMaps n.decomp
    · have HR := Lib.hid (show smallB n = false by rw [HSB.out, h2]; simp)
      rw [h2] at HS11
      clear h1 h2
      go_enter Tryz.func29, Tryz.ntmps29
      go_wp2_with (first
        | (go_at_call 51; refine (HS20.out _).mono ?_; rintro e w' ⟨rfl, rfl⟩)
        | (go_at_call 52; refine HS11.out.mono ?_; rintro e w' ⟨rfl, rfl⟩))
      go_ret
      exact ⟨ret_bool HR.out.symm, HK1.out⟩
    · have HR := Lib.hid (show smallB n = decide (s.ne ≤ 12) by rw [HSB.out, h1, h2]; simp)
      rw [h2] at HS11
      clear h1 h2
      go_enter Tryz.func29, Tryz.ntmps29
      go_wp2_with (first
        | (go_at_call 51; refine (HS20.out _).mono ?_; rintro e w' ⟨rfl, rfl⟩)
        | (go_at_call 52; refine HS11.out.mono ?_; rintro e w' ⟨rfl, rfl⟩)
        | (go_at_call 53; refine (r02Small _ _ _ _).mono ?_; rintro e w2 ⟨rfl, hk2⟩))
      go_ret
      exact ⟨ret_bool HR.out.symm, Kept.trans HK1.out hk2⟩
end Go.Proofs.YtjfhcmkcmdnhoaaGreatDoor
namespace Go.Proofs.YtjfhcmkcmdnhoaaGreatDoor
open Go Go.RowKit
end Go.Proofs.YtjfhcmkcmdnhoaaGreatDoor
namespace Go.Proofs.YtjfhcmkcmdnhoaaGreatDoor
open Go Go.RowKit
theorem own_kept {w w' : World} {base : Nat} {e : TypeId} {size : Nat} {v : Value} {n : Nat} {xs : List Value} (h : w.ownsRow base e size v n xs) (hk : Kept w w') : w'.ownsRow base e size v n xs := by
  refine ⟨h.1, ?_⟩
  rcases h.2 with h0 | ⟨g, cap, cur, rfl, hg, hgg, rest⟩
  · exact .inl h0
  · exact .inr ⟨g, cap, cur, rfl, hg, (hk.block g (block_lt hgg)).trans hgg, rest⟩
end Go.Proofs.YtjfhcmkcmdnhoaaGreatDoor
namespace Go.Proofs.YtjfhcmkcmdnhoaaGreatDoor
open Go Go.RowKit
end Go.Proofs.YtjfhcmkcmdnhoaaGreatDoor
namespace Go.Proofs.YtjfhcmkcmdnhoaaGreatDoor
open Go Go.RowKit
end Go.Proofs.YtjfhcmkcmdnhoaaGreatDoor
namespace Go.Proofs.YtjfhcmkcmdnhoaaGreatDoor
open Go Go.RowKit
end Go.Proofs.YtjfhcmkcmdnhoaaGreatDoor
