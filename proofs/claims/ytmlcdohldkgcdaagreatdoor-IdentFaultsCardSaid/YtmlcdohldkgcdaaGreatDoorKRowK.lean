/- Arguments of the statements on preparing: data of normalization and of case mapping, sets, a text, two flags. The reference's case folding: Data, Fold. -/
import Derived.Test.YtmlcdohldkgcdaaGreatDoorKPl58
import Derived.Test.YtmlcdohldkgcdaaGreatDoorKCasS
import Derived.Test.YtmlcdohldkgcdaaGreatDoorKRfj
import Derived.Test.YtmlcdohldkgcdaaGreatDoorKSq
import Derived.Test.YtmlcdohldkgcdaaGreatDoorKRefAM
namespace Go.Proofs.YtmlcdohldkgcdaaGreatDoor
open Go Go.RowKit Go.ChangeShapes Go.WideShapes Go.Deep Go.Joins
section
variable {H : Type} {enc : TypeId × Value → H}
set_option maxRecDepth 100000 in
theorem norm_cells {W : World} {fuel : Nat} {c0 c1 c2 : Value} {x : DataW H × List MemPlace} (h : DataW.trod enc Tryz.prog W 0 (fun _ => true) true fuel 28 [c0, c1, c2] = some x) : ∃ s n, c0 = .slice (Sls.Ac s) s.nc s.cc ∧ c1 = .slice s.Am s.nm s.cm ∧ c2 = .slice s.Ae s.ne s.ce ∧ NormIn W s n := by
  obtain ⟨ys, m, _, _, _, hyl, hg⟩ := DataW.trod_struct Tryz.underlying28 h
  have hy3 : ys.length = 3 := hyl
  have h0 := hg 0 _ rfl
  have h1 := hg 1 _ rfl
  have h2 := hg 2 _ rfl
  rw [List.getElem?_eq_getElem (show 0 < ys.length by omega)] at h0
  rw [List.getElem?_eq_getElem (show 1 < ys.length by omega)] at h1
  rw [List.getElem?_eq_getElem (show 2 < ys.length by omega)] at h2
  have h0' : DataW.trod enc Tryz.prog W 0 (fun _ => true) true m 22 [c0] = some ys[0] := by
    have e : ([c0, c1, c2].drop 0).take (Tryz.prog.cellsOf 22) = [c0] := by rw [show Tryz.prog.cellsOf 22 = 1 by kernel_rfl]; rfl
    rw [← e]; exact h0
  have h1' : DataW.trod enc Tryz.prog W 0 (fun _ => true) true m 23 [c1] = some ys[1] := by
    have e : ([c0, c1, c2].drop 1).take (Tryz.prog.cellsOf 23) = [c1] := by rw [show Tryz.prog.cellsOf 23 = 1 by kernel_rfl]; rfl
    rw [← e]; exact h1
  have h2' : DataW.trod enc Tryz.prog W 0 (fun _ => true) true m 26 [c2] = some ys[2] := by
    have e : ([c0, c1, c2].drop 2).take (Tryz.prog.cellsOf 26) = [c2] := by rw [show Tryz.prog.cellsOf 26 = 1 by kernel_rfl]; rfl
    rw [← e]; exact h2
  obtain ⟨Ac, nc, cc, rfl, hc, _, cl, hcl⟩ := open_sl (k := 3) (encA := encS) Tryz.underlying22 (by kernel_rfl) (by decide) (fun _ _ _ h => span_cells h) h0'
  obtain ⟨Am, nm, cm, rfl, hm, hmb, ml, hml, hto⟩ := open_mps h1'
  obtain ⟨Ae, ne, ce, rfl, he, _, el, hel⟩ := set_cell h2'
  exact ⟨⟨Ac, nc, cc, Am, nm, cm, Ae, ne, ce⟩, ⟨cl, ml, el⟩, rfl, rfl, rfl, hc, hm, he, by show nm ≤ _; omega, hcl, hml, hel, hto⟩
set_option maxRecDepth 100000 in
theorem case_cells {W : World} {fuel : Nat} {c0 c1 c2 c3 c4 c5 : Value} {x : DataW H × List MemPlace} (h : DataW.trod enc Tryz.prog W 0 (fun _ => true) true fuel 60 [c0, c1, c2, c3, c4, c5] = some x) :
    ∃ k r, c0 = .slice (Cas.A1 k) k.n1 k.c1 ∧ c1 = .slice k.A2 k.n2 k.c2 ∧ c2 = .slice k.A3 k.n3 k.c3 ∧ c3 = .slice k.A4 k.n4 k.c4 ∧ c4 = .slice k.A5 k.n5 k.c5 ∧ c5 = .slice k.A6 k.n6 k.c6 ∧ CasIn W k r := by
  obtain ⟨ys, m, _, _, _, hyl, hg⟩ := DataW.trod_struct Tryz.underlying60 h
  have hy6 : ys.length = 6 := hyl
  have h0 := hg 0 _ rfl
  have h1 := hg 1 _ rfl
  have h2 := hg 2 _ rfl
  have h3 := hg 3 _ rfl
  have h4 := hg 4 _ rfl
  have h5 := hg 5 _ rfl
  rw [List.getElem?_eq_getElem (show 0 < ys.length by omega)] at h0
  rw [List.getElem?_eq_getElem (show 1 < ys.length by omega)] at h1
  rw [List.getElem?_eq_getElem (show 2 < ys.length by omega)] at h2
  rw [List.getElem?_eq_getElem (show 3 < ys.length by omega)] at h3
  rw [List.getElem?_eq_getElem (show 4 < ys.length by omega)] at h4
  rw [List.getElem?_eq_getElem (show 5 < ys.length by omega)] at h5
  have cm : Tryz.prog.cellsOf 23 = 1 := by kernel_rfl
  have cs : Tryz.prog.cellsOf 26 = 1 := by kernel_rfl
  have h0' : DataW.trod enc Tryz.prog W 0 (fun _ => true) true m 23 [c0] = some ys[0] := by
    have e : ([c0, c1, c2, c3, c4, c5].drop 0).take (Tryz.prog.cellsOf 23) = [c0] := by rw [cm]; rfl
    rw [← e]; exact h0
  have h1' : DataW.trod enc Tryz.prog W 0 (fun _ => true) true m 23 [c1] = some ys[1] := by
    have e : ([c0, c1, c2, c3, c4, c5].drop 1).take (Tryz.prog.cellsOf 23) = [c1] := by rw [cm]; rfl
    rw [← e]; exact h1
  have h2' : DataW.trod enc Tryz.prog W 0 (fun _ => true) true m 23 [c2] = some ys[2] := by
    have e : ([c0, c1, c2, c3, c4, c5].drop 2).take (Tryz.prog.cellsOf 23) = [c2] := by rw [cm]; rfl
    rw [← e]; exact h2
  have h3' : DataW.trod enc Tryz.prog W 0 (fun _ => true) true m 23 [c3] = some ys[3] := by
    have e : ([c0, c1, c2, c3, c4, c5].drop 3).take (Tryz.prog.cellsOf 23) = [c3] := by rw [cm]; rfl
    rw [← e]; exact h3
  have h4' : DataW.trod enc Tryz.prog W 0 (fun _ => true) true m 26 [c4] = some ys[4] := by
    have e : ([c0, c1, c2, c3, c4, c5].drop 4).take (Tryz.prog.cellsOf 26) = [c4] := by rw [cs]; rfl
    rw [← e]; exact h4
  have h5' : DataW.trod enc Tryz.prog W 0 (fun _ => true) true m 26 [c5] = some ys[5] := by
    have e : ([c0, c1, c2, c3, c4, c5].drop 5).take (Tryz.prog.cellsOf 26) = [c5] := by rw [cs]; rfl
    rw [← e]; exact h5
  obtain ⟨A1, n1, d1, rfl, a1, b1, l1, i1, t1⟩ := open_mps h0'
  obtain ⟨A2, n2, d2, rfl, a2, b2, l2, i2, t2⟩ := open_mps h1'
  obtain ⟨A3, n3, d3, rfl, a3, b3, l3, i3, t3⟩ := open_mps h2'
  obtain ⟨A4, n4, d4, rfl, a4, b4, l4, i4, t4⟩ := open_mps h3'
  obtain ⟨A5, n5, d5, rfl, a5, _, l5, i5⟩ := set_cell h4'
  obtain ⟨A6, n6, d6, rfl, a6, _, l6, i6⟩ := set_cell h5'
  exact ⟨⟨A1, n1, d1, A2, n2, d2, A3, n3, d3, A4, n4, d4, A5, n5, d5, A6, n6, d6⟩, ⟨l1, l2, l3, l4, l5, l6⟩, rfl, rfl, rfl, rfl, rfl, rfl, ⟨⟨a1, b1, i1, t1⟩, ⟨a2, b2, i2, t2⟩, ⟨a3, b3, i3, t3⟩, ⟨a4, b4, i4, t4⟩, a5, a6, i5, i6⟩⟩
set_option maxRecDepth 100000 in
theorem ident_cells {W : World} {fuel : Nat} {c0 c1 c2 : Value} {x : DataW H × List MemPlace} (h : DataW.trod enc Tryz.prog W 0 (fun _ => true) true fuel 54 [c0, c1, c2] = some x) : ∃ i r, c0 = .slice (Ids.As i) i.ns i.cs ∧ c1 = .slice i.Ac i.nc i.cc ∧ c2 = .slice i.Am i.nm i.cm ∧ IdIn W i r := by
  obtain ⟨ys, m, _, _, _, hyl, hg⟩ := DataW.trod_struct Tryz.underlying54 h
  have hy3 : ys.length = 3 := hyl
  have h0 := hg 0 _ rfl
  have h1 := hg 1 _ rfl
  have h2 := hg 2 _ rfl
  rw [List.getElem?_eq_getElem (show 0 < ys.length by omega)] at h0
  rw [List.getElem?_eq_getElem (show 1 < ys.length by omega)] at h1
  rw [List.getElem?_eq_getElem (show 2 < ys.length by omega)] at h2
  have cs : Tryz.prog.cellsOf 26 = 1 := by kernel_rfl
  have h0' : DataW.trod enc Tryz.prog W 0 (fun _ => true) true m 26 [c0] = some ys[0] := by
    have e : ([c0, c1, c2].drop 0).take (Tryz.prog.cellsOf 26) = [c0] := by rw [cs]; rfl
    rw [← e]; exact h0
  have h1' : DataW.trod enc Tryz.prog W 0 (fun _ => true) true m 26 [c1] = some ys[1] := by
    have e : ([c0, c1, c2].drop 1).take (Tryz.prog.cellsOf 26) = [c1] := by rw [cs]; rfl
    rw [← e]; exact h1
  have h2' : DataW.trod enc Tryz.prog W 0 (fun _ => true) true m 26 [c2] = some ys[2] := by
    have e : ([c0, c1, c2].drop 2).take (Tryz.prog.cellsOf 26) = [c2] := by rw [cs]; rfl
    rw [← e]; exact h2
  obtain ⟨As, ns, d1, rfl, hs, bs, ls, es⟩ := set_cell h0'
  obtain ⟨Ac, nc, d2, rfl, hc, bc, lc, ec⟩ := set_cell h1'
  obtain ⟨Am, nm, d3, rfl, hm, bm, lm, em⟩ := set_cell h2'
  exact ⟨⟨As, ns, d1, Ac, nc, d2, Am, nm, d3⟩, ⟨ls, lc, lm⟩, rfl, rfl, rfl, hs, hc, hm, bs, bc, bm, es, ec, em⟩
end
theorem list15 {α : Type} {cs : Array α} (h : cs.size = 15) : ∃ a0 a1 a2 a3 a4 a5 a6 a7 a8 a9 a10 a11 a12 a13 a14, cs = #[a0, a1, a2, a3, a4, a5, a6, a7, a8, a9, a10, a11, a12, a13, a14] := by
  obtain ⟨l⟩ := cs
  match l, h with
  | [a0, a1, a2, a3, a4, a5, a6, a7, a8, a9, a10, a11, a12, a13, a14], _ => exact ⟨a0, a1, a2, a3, a4, a5, a6, a7, a8, a9, a10, a11, a12, a13, a14, rfl⟩
set_option maxRecDepth 100000 in
theorem open_ask {H : Type} {enc : TypeId × Value → H} {W : World} {base : Nat} {v : Value} {d : DataW H} {p : List MemPlace} (hv : Value.okWide Tryz.prog W .any base 62 v) (h : DataW.Trod enc Tryz.prog W 0 (fun _ => true) true 62 v d p) :
    ∃ (s : Sls) (n : Nrm) (k : Cas) (r : CasR) (i : Ids) (ir : IdR) (A : Option Addr) (l c : Nat) (xs : List Int) (cp fo : Bool), v = .agg #[.slice s.Ac s.nc s.cc, .slice s.Am s.nm s.cm, .slice s.Ae s.ne s.ce, .slice k.A1 k.n1 k.c1, .slice k.A2 k.n2 k.c2, .slice k.A3 k.n3 k.c3, .slice k.A4 k.n4 k.c4, .slice k.A5 k.n5 k.c5, .slice k.A6 k.n6 k.c6, .slice i.As i.ns i.cs, .slice i.Ac i.nc i.cc, .slice i.Am i.nm i.cm, .slice A l c, .bool cp, .bool fo] ∧
      NormIn W s n ∧ CasIn W k r ∧ IdIn W i ir ∧ (l ≤ c ∧ c ≤ 9223372036854775807 ∧ Ints W A l xs) := by
  obtain ⟨cs, rfl, hsz⟩ := okWide_struct Tryz.underlying62 hv
  obtain ⟨a0, a1, a2, a3, a4, a5, a6, a7, a8, a9, a10, a11, a12, a13, a14, rfl⟩ := list15 (hsz.trans (by kernel_rfl))
  obtain ⟨fuel, hf⟩ := h
  obtain ⟨xs, m, _, _, _, hxl, hfs⟩ := DataW.trod_struct Tryz.underlying62 hf
  have hx6 : xs.length = 6 := hxl
  have h0 := hfs 0 _ rfl
  have h1 := hfs 1 _ rfl
  have h2 := hfs 2 _ rfl
  have h3 := hfs 3 _ rfl
  have h4 := hfs 4 _ rfl
  have h5 := hfs 5 _ rfl
  rw [List.getElem?_eq_getElem (show 0 < xs.length by omega)] at h0
  rw [List.getElem?_eq_getElem (show 1 < xs.length by omega)] at h1
  rw [List.getElem?_eq_getElem (show 2 < xs.length by omega)] at h2
  rw [List.getElem?_eq_getElem (show 3 < xs.length by omega)] at h3
  rw [List.getElem?_eq_getElem (show 4 < xs.length by omega)] at h4
  rw [List.getElem?_eq_getElem (show 5 < xs.length by omega)] at h5
  have h0' : DataW.trod enc Tryz.prog W 0 (fun _ => true) true m 28 [a0, a1, a2] = some xs[0] := by
    have e : ([a0, a1, a2, a3, a4, a5, a6, a7, a8, a9, a10, a11, a12, a13, a14].drop 0).take (Tryz.prog.cellsOf 28) = [a0, a1, a2] := by rw [show Tryz.prog.cellsOf 28 = 3 by kernel_rfl]; rfl
    rw [← e]; exact h0
  have h1' : DataW.trod enc Tryz.prog W 0 (fun _ => true) true m 60 [a3, a4, a5, a6, a7, a8] = some xs[1] := by
    have e : ([a0, a1, a2, a3, a4, a5, a6, a7, a8, a9, a10, a11, a12, a13, a14].drop 3).take (Tryz.prog.cellsOf 60) = [a3, a4, a5, a6, a7, a8] := by rw [show Tryz.prog.cellsOf 60 = 6 by kernel_rfl]; rfl
    rw [← e]; exact h1
  have h2' : DataW.trod enc Tryz.prog W 0 (fun _ => true) true m 54 [a9, a10, a11] = some xs[2] := by
    have e : ([a0, a1, a2, a3, a4, a5, a6, a7, a8, a9, a10, a11, a12, a13, a14].drop 9).take (Tryz.prog.cellsOf 54) = [a9, a10, a11] := by rw [show Tryz.prog.cellsOf 54 = 3 by kernel_rfl]; rfl
    rw [← e]; exact h2
  have h3' : DataW.trod enc Tryz.prog W 0 (fun _ => true) true m 32 [a12] = some xs[3] := by
    have e : ([a0, a1, a2, a3, a4, a5, a6, a7, a8, a9, a10, a11, a12, a13, a14].drop 12).take (Tryz.prog.cellsOf 32) = [a12] := by rw [show Tryz.prog.cellsOf 32 = 1 by kernel_rfl]; rfl
    rw [← e]; exact h3
  have h4' : DataW.trod enc Tryz.prog W 0 (fun _ => true) true m 4 [a13] = some xs[4] := by
    have e : ([a0, a1, a2, a3, a4, a5, a6, a7, a8, a9, a10, a11, a12, a13, a14].drop 13).take (Tryz.prog.cellsOf 4) = [a13] := by rw [show Tryz.prog.cellsOf 4 = 1 by kernel_rfl]; rfl
    rw [← e]; exact h4
  have h5' : DataW.trod enc Tryz.prog W 0 (fun _ => true) true m 4 [a14] = some xs[5] := by
    have e : ([a0, a1, a2, a3, a4, a5, a6, a7, a8, a9, a10, a11, a12, a13, a14].drop 14).take (Tryz.prog.cellsOf 4) = [a14] := by rw [show Tryz.prog.cellsOf 4 = 1 by kernel_rfl]; rfl
    rw [← e]; exact h5
  obtain ⟨s, n, rfl, rfl, rfl, hN⟩ := norm_cells h0'
  obtain ⟨k, r, rfl, rfl, rfl, rfl, rfl, rfl, hC⟩ := case_cells h1'
  obtain ⟨i, ir, rfl, rfl, rfl, hI⟩ := ident_cells h2'
  obtain ⟨A, l, c, rfl, hle, hbg, zs, hZ⟩ := open_intsl h3'
  obtain ⟨cp, e4, _⟩ := DataW.trod_bool Tryz.underlying4 h4'
  obtain ⟨fo, e5, _⟩ := DataW.trod_bool Tryz.underlying4 h5'
  simp only [List.cons.injEq, and_true] at e4 e5
  subst e4 e5
  exact ⟨s, n, k, r, i, ir, A, l, c, zs, cp, fo, rfl, hN, hC, hI, hle, hbg, hZ⟩
end Go.Proofs.YtmlcdohldkgcdaaGreatDoor
namespace Go.Proofs.YtmlcdohldkgcdaaGreatDoor
open Go Go.RowKit
def dataC (r : CasR) : List Mp := if checkC r = 0 then r.fo else []
def foldR (r : CasR) (text : List Int) : List Int := applyR (dataC r) text
theorem dataC_mem {r : CasR} {m : Mp} (h : m ∈ dataC r) : m ∈ r.fo := by
  unfold dataC at h
  split at h
  · exact h
  · cases h
theorem dataC_small {r : CasR} (hs : smallC r = true) : (∀ m ∈ dataC r, m.to.length ≤ 1000) ∧ ∀ m ∈ dataC r, m.tag.size ≤ 1000 :=
  ⟨fun m hm => Nat.le_trans ((smallMaps_parts (smallC_parts hs).s4).2.1 m (dataC_mem hm)) (by decide), fun m hm => Nat.le_trans ((smallMaps_parts (smallC_parts hs).s4).2.2 m (dataC_mem hm)) (by decide)⟩
set_option maxRecDepth 100000 in
set_option maxHeartbeats 2000000 in
theorem r38Data (k : Cas) (r : CasR) (w : World) (hC : CasIn w k r) (hs : smallC r = true) : Calls Tryz.prog 134 #[k.val] w (fun e w' => ∃ Q q d, e = .returned (.slice Q q d) ∧ q ≤ d ∧ q ≤ 1000 ∧ Mps w' Q q (dataC r) ∧ Kept w w') := by
  have hk0_ := Kept.alloc (Kept.refl w) (Obj.cells #[Value.slice k.A1 k.n1 k.c1, Value.slice k.A2 k.n2 k.c2, Value.slice k.A3 k.n3 k.c3, Value.slice k.A4 k.n4 k.c4, Value.slice k.A5 k.n5 k.c5, Value.slice k.A6 k.n6 k.c6] 60)
  have HK1 := Lib.hid hk0_
  have hb0_ := (box_block w (Obj.cells #[Value.slice k.A1 k.n1 k.c1, Value.slice k.A2 k.n2 k.c2, Value.slice k.A3 k.n3 k.c3, Value.slice k.A4 k.n4 k.c4, Value.slice k.A5 k.n5 k.c5, Value.slice k.A6 k.n6 k.c6] 60))
  have x0_ := cell_of_block (i := 0) hb0_ rfl
  have x1_ := cell_of_block (i := 1) hb0_ rfl
  have x2_ := cell_of_block (i := 2) hb0_ rfl
  have x3_ := cell_of_block (i := 3) hb0_ rfl
  have x4_ := cell_of_block (i := 4) hb0_ rfl
  have x5_ := cell_of_block (i := 5) hb0_ rfl
  simp only [s4_, s5_, s6_] at x0_ x1_ x2_ x3_ x4_ x5_
  have HX0 := Lib.hid x0_
  have HX1 := Lib.hid x1_
  have HX2 := Lib.hid x2_
  have HX3 := Lib.hid x3_
  have HX4 := Lib.hid x4_
  have HX5 := Lib.hid x5_
  have HB0 := Lib.hid hb0_
  clear x0_ x1_ x2_ x3_ x4_ x5_ hb0_
  have HC := Lib.hid (r37Check k r _ (hC.kept HK1.out) hs)
  have HF4 := Lib.hid hC.m4
  have hn4 : k.n4 ≤ 1000 := by have h := (smallMaps_parts (smallC_parts hs).s4).1; have h2 := hC.m4.at_.1; omega
  clear hC hs hk0_
  unfold Cas.val at *
  by_cases hz : checkC r = 0
  · have hb : (checkC r != 0) = false := by simp [hz]
    have HZ := Lib.hid hz
    clear hz
    have p0 := HX0.out
    have p1 := HX1.out
    have p2 := HX2.out
    have p3 := HX3.out
    have p4 := HX4.out
    have p5 := HX5.out
    go_enter Tryz.func134, Tryz.ntmps134
    go_wp2_with fail
    refine HC.out.mono ?_
    rintro e w1 ⟨rfl, k1⟩
    have q3 := Kept.cell k1 p3
    go_wp2_with fail
    go_ret
    exact ⟨k.A4, k.n4, k.c4, rfl, HF4.out.le, hn4, by unfold dataC; rw [if_pos HZ.out]; exact HF4.out.at_.kept (Kept.trans HK1.out k1), Kept.trans HK1.out k1⟩
  · have hb : (checkC r != 0) = true := by simp [hz]
    have HZ := Lib.hid hz
    clear hz
    have p0 := HX0.out
    have p1 := HX1.out
    have p2 := HX2.out
    have p3 := HX3.out
    have p4 := HX4.out
    have p5 := HX5.out
    go_enter Tryz.func134, Tryz.ntmps134
    go_wp2_with fail
    refine HC.out.mono ?_
    rintro e w1 ⟨rfl, k1⟩
    go_wp2_with fail
    go_ret
    exact ⟨none, 0, 0, rfl, Nat.le_refl _, Nat.zero_le _, by unfold dataC; rw [if_neg HZ.out]; exact ⟨rfl, fun h => absurd h (by decide)⟩, Kept.trans HK1.out k1⟩
set_option maxRecDepth 100000 in
set_option maxHeartbeats 2000000 in
theorem r38Fold (k : Cas) (r : CasR) (B : Option Addr) (m d : Nat) (text : List Int) (w : World) (hC : CasIn w k r) (hs : smallC r = true) (hm : m ≤ 100000) (hI : Ints w B m text) : Calls Tryz.prog 105 #[k.val, .slice B m d] w (RetInts w (foldR r text)) := by
  have hk0_ := Kept.alloc (Kept.refl w) (Obj.cells #[Value.slice k.A1 k.n1 k.c1, Value.slice k.A2 k.n2 k.c2, Value.slice k.A3 k.n3 k.c3, Value.slice k.A4 k.n4 k.c4, Value.slice k.A5 k.n5 k.c5, Value.slice k.A6 k.n6 k.c6] 60)
  have HK1 := Lib.hid hk0_
  have hb0_ := (box_block w (Obj.cells #[Value.slice k.A1 k.n1 k.c1, Value.slice k.A2 k.n2 k.c2, Value.slice k.A3 k.n3 k.c3, Value.slice k.A4 k.n4 k.c4, Value.slice k.A5 k.n5 k.c5, Value.slice k.A6 k.n6 k.c6] 60))
  have x0_ := cell_of_block (i := 0) hb0_ rfl
  have x1_ := cell_of_block (i := 1) hb0_ rfl
  have x2_ := cell_of_block (i := 2) hb0_ rfl
  have x3_ := cell_of_block (i := 3) hb0_ rfl
  have x4_ := cell_of_block (i := 4) hb0_ rfl
  have x5_ := cell_of_block (i := 5) hb0_ rfl
  simp only [s4_, s5_, s6_] at x0_ x1_ x2_ x3_ x4_ x5_
  have HX0 := Lib.hid x0_
  have HX1 := Lib.hid x1_
  have HX2 := Lib.hid x2_
  have HX3 := Lib.hid x3_
  have HX4 := Lib.hid x4_
  have HX5 := Lib.hid x5_
  have HB0 := Lib.hid hb0_
  clear x0_ x1_ x2_ x3_ x4_ x5_ hb0_
  have HD := Lib.hid (r38Data k r _ (hC.kept HK1.out) hs)
  have HI := Lib.hid (hI.kept HK1.out)
  have HSM := Lib.hid (dataC_small hs)
  clear hC hs hk0_ hI
  unfold Cas.val at *
  have p0 := HX0.out
  have p1 := HX1.out
  have p2 := HX2.out
  have p3 := HX3.out
  have p4 := HX4.out
  have p5 := HX5.out
  go_enter Tryz.func105, Tryz.ntmps105
  go_wp2_with fail
  refine HD.out.mono ?_
  rintro e w1 ⟨Q, q, dq, rfl, hqd, hq, hM, k1⟩
  have HA := Lib.hid (r11Apply Q q dq (dataC r) B m d text w1 hq hqd hM HSM.out.1 HSM.out.2 hm (HI.out.kept k1))
  have K1 := Lib.hid (Kept.trans HK1.out k1)
  clear hM k1 p0 p1 p2 p3 p4 p5
  go_wp2_with fail
  refine HA.out.mono ?_
  rintro e w2 ⟨A2, n2, c2, rfl, le2, i2, k2⟩
  have I2 := Lib.hid i2
  clear i2
  go_wp2_with fail
  go_ret
  exact ⟨A2, n2, c2, rfl, le2, I2.out, Kept.trans K1.out k2⟩
end Go.Proofs.YtmlcdohldkgcdaaGreatDoor
