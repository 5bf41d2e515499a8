/- law21.DecomposeChecks returns true. -/
import Derived.Test.YtobcaploncgnbaaDoorKAlive21
namespace Go.Proofs.YtobcaploncgnbaaDoor
open Go Go.RowKit

theorem norm_tag {w : World} {s : Sls} {n : Nrm} (_h : NormIn w s n) (hs : smallB n = true) : ∀ m ∈ n.decomp, m.tag.size ≤ 1000 := fun m hm => by
  have := ((smallB_parts hs).2.2.2 m hm).2
  omega

set_option maxRecDepth 100000 in
set_option maxHeartbeats 2000000 in
theorem law_checks21 (s : Sls) (n : Nrm) (w : World) (hN : NormIn w s n) (hG : Glob w) : Calls Tryd.prog 3 #[s.val] w (RetB w true) := by
  have HG := Lib.hid hG
  have hk1 := Kept.alloc (Kept.refl w) (Obj.cells #[Value.slice s.Ac s.nc s.cc, Value.slice s.Am s.nm s.cm, Value.slice s.Ae s.ne s.ce] 28)
  have HK1 := Lib.hid (Kept.drew hk1)
  have HS := Lib.hid (r21small s n (w.alloc (Obj.cells #[Value.slice s.Ac s.nc s.cc, Value.slice s.Am s.nm s.cm, Value.slice s.Ae s.ne s.ce] 28)).drew (hN.kept (Kept.drew hk1)))
  have hbx := box_cell w #[Value.slice s.Ac s.nc s.cc, Value.slice s.Am s.nm s.cm, Value.slice s.Ae s.ne s.ce] 28
  have x0 : (w.alloc (Obj.cells #[Value.slice s.Ac s.nc s.cc, Value.slice s.Am s.nm s.cm, Value.slice s.Ae s.ne s.ce] 28)).cell? ⟨w.heap.size, 0, none⟩ = some (.slice s.Ac s.nc s.cc) := hbx 0
  have x1 : (w.alloc (Obj.cells #[Value.slice s.Ac s.nc s.cc, Value.slice s.Am s.nm s.cm, Value.slice s.Ae s.ne s.ce] 28)).cell? ⟨w.heap.size, 1, none⟩ = some (.slice s.Am s.nm s.cm) := hbx 1
  have x2 : (w.alloc (Obj.cells #[Value.slice s.Ac s.nc s.cc, Value.slice s.Am s.nm s.cm, Value.slice s.Ae s.ne s.ce] 28)).cell? ⟨w.heap.size, 2, none⟩ = some (.slice s.Ae s.ne s.ce) := hbx 2
  have HX0 := Lib.hid x0
  have HX1 := Lib.hid x1
  have HX2 := Lib.hid x2
  have HN := Lib.hid hN
  clear hN hG hk1 hbx x0 x1 x2
  cases hsm : smallB n
  · rw [hsm] at HS
    clear hsm
    unfold Sls.val at *
    go_enter Tryd.func3, Tryd.ntmps3
    go_wp2_with fail
    have x0 := HX0.out
    have x1 := HX1.out
    have x2 := HX2.out
    go_region_with (first
        | (go_at_call 12; refine (alive21 _ (HG.out.kept (Kept.trans HK1.out k1))).mono ?_; rintro e w2 ⟨rfl, k2⟩)
        | (go_at_call 9; refine HS.out.mono ?_; rintro e w1 ⟨rfl, k1⟩))
    all_goals
      go_wp2_with fail
      go_ret
      exact ⟨rfl, Kept.trans HK1.out (Kept.trans k1 k2)⟩
  · rw [hsm] at HS
    have HNA := Lib.hid (HN.out.small hsm)
    have HT := Lib.hid (norm_tag HN.out hsm)
    have hself : (decCheck n == decCheck n) = true := by simp
    have HRC := Lib.hid (fun w' (hk : Kept w w') => r21check s n w' (HNA.out.kept hk) HT.out)
    rw [refCheck_eq] at HRC
    clear hsm
    unfold Sls.val at *
    go_enter Tryd.func3, Tryd.ntmps3
    go_wp2_with fail
    go_region_held3 (fun w' => w'.cell? ⟨w.heap.size, 0, none⟩ = some (.slice s.Ac s.nc s.cc) ∧ w'.cell? ⟨w.heap.size, 1, none⟩ = some (.slice s.Am s.nm s.cm) ∧ w'.cell? ⟨w.heap.size, 2, none⟩ = some (.slice s.Ae s.ne s.ce)) (first | exact ⟨o0, o1, o2⟩ | exact ⟨r0, r1, r2⟩ | exact ⟨q0, q1, q2⟩ | exact ⟨p0, p1, p2⟩ | exact ⟨HX0.out, HX1.out, HX2.out⟩)
      (first
        | (go_at_call 12; refine (alive21 _ (HG.out.kept (Kept.trans HK1.out (Kept.trans k1 (Kept.trans k2 k3))))).mono ?_; rintro e w4 ⟨rfl, k4⟩; have o0 := Kept.cell k4 r0; have o1 := Kept.cell k4 r1; have o2 := Kept.cell k4 r2)
        | (go_at_call 11; refine (HRC.out _ (Kept.trans HK1.out (Kept.trans k1 k2))).mono ?_; rintro e w3 ⟨rfl, k3⟩; have r0 := Kept.cell k3 q0; have r1 := Kept.cell k3 q1; have r2 := Kept.cell k3 q2)
        | (go_at_call 10; refine (decCheck_any s n _ (HNA.out.kept (Kept.trans HK1.out k1)) (HG.out.kept (Kept.trans HK1.out k1))).mono ?_; rintro e w2 ⟨rfl, k2⟩; have q0 := Kept.cell k2 p0; have q1 := Kept.cell k2 p1; have q2 := Kept.cell k2 p2)
        | (go_at_call 9; refine HS.out.mono ?_; rintro e w1 ⟨rfl, k1⟩; have p0 := Kept.cell k1 HX0.out; have p1 := Kept.cell k1 HX1.out; have p2 := Kept.cell k1 HX2.out))
    go_wp2_with fail
    go_ret
    exact ⟨rfl, Kept.trans HK1.out (Kept.trans k1 (Kept.trans k2 (Kept.trans k3 k4)))⟩
end Go.Proofs.YtobcaploncgnbaaDoor
