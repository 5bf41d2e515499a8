/- Arguments that hold the data of normalization among other things. -/
import Derived.Test.YtjfhcmkcmdnhoaaGreatDoorKRow
namespace Go.Proofs.YtjfhcmkcmdnhoaaGreatDoor
open Go Go.RowKit Go.ChangeShapes Go.WideShapes Go.Deep Go.Joins
set_option maxRecDepth 100000 in
theorem norm_cells {H : Type} {enc : TypeId × Value → H} {W : World} {fuel : Nat} {c0 c1 c2 : Value} {x : DataW H × List MemPlace} (h : DataW.trod enc Tryz.prog W 0 (fun _ => true) true fuel 28 [c0, c1, c2] = some x) :
    ∃ s n, c0 = .slice s.Ac s.nc s.cc ∧ c1 = .slice s.Am s.nm s.cm ∧ c2 = .slice s.Ae s.ne s.ce ∧ NormIn W s n := by
  obtain ⟨xs, m, _, _, _, hxl, hf⟩ := DataW.trod_struct Tryz.underlying28 h
  have hx3 : xs.length = 3 := hxl
  have h0 := hf 0 _ rfl
  have h1 := hf 1 _ rfl
  have h2 := hf 2 _ rfl
  rw [List.getElem?_eq_getElem (show 0 < xs.length by omega)] at h0
  rw [List.getElem?_eq_getElem (show 1 < xs.length by omega)] at h1
  rw [List.getElem?_eq_getElem (show 2 < xs.length by omega)] at h2
  have h0' : DataW.trod enc Tryz.prog W 0 (fun _ => true) true m 22 [c0] = some xs[0] := by
    have e : ([c0, c1, c2].drop 0).take (Tryz.prog.cellsOf 22) = [c0] := by rw [show Tryz.prog.cellsOf 22 = 1 by kernel_rfl]; rfl
    rw [← e]; exact h0
  have h1' : DataW.trod enc Tryz.prog W 0 (fun _ => true) true m 23 [c1] = some xs[1] := by
    have e : ([c0, c1, c2].drop 1).take (Tryz.prog.cellsOf 23) = [c1] := by rw [show Tryz.prog.cellsOf 23 = 1 by kernel_rfl]; rfl
    rw [← e]; exact h1
  have h2' : DataW.trod enc Tryz.prog W 0 (fun _ => true) true m 26 [c2] = some xs[2] := by
    have e : ([c0, c1, c2].drop 2).take (Tryz.prog.cellsOf 26) = [c2] := by rw [show Tryz.prog.cellsOf 26 = 1 by kernel_rfl]; rfl
    rw [← e]; exact h2
  obtain ⟨Ac, nc, cc, rfl, hc, _, cl, hcl⟩ := open_sl (k := 3) (encA := encS) Tryz.underlying22 (by kernel_rfl) (by decide) (fun _ _ _ h => span_cells h) h0'
  obtain ⟨Am, nm, cm, rfl, hm, hmb, ml, hml, hto⟩ := open_mps h1'
  obtain ⟨ys, m2, _, _, _, hyl, hf2⟩ := DataW.trod_struct Tryz.underlying26 h2'
  have h3 := hf2 0 _ rfl
  have hy1 : ys.length = 1 := hyl
  rw [List.getElem?_eq_getElem (show 0 < ys.length by omega)] at h3
  have h3' : DataW.trod enc Tryz.prog W 0 (fun _ => true) true m2 24 (([c2].drop 0).take (Tryz.prog.cellsOf 24)) = some ys[0] := h3
  rw [cells_ranges] at h3'
  simp only [List.drop_zero, List.take_succ_cons, List.take_zero] at h3'
  obtain ⟨Ae, ne, ce, rfl, he, _, el, hel⟩ := open_sl (k := 2) (encA := encR) Tryz.underlying24 (by kernel_rfl) (by decide) (fun _ _ _ h => rng_cells h) h3'
  exact ⟨⟨Ac, nc, cc, Am, nm, cm, Ae, ne, ce⟩, ⟨cl, ml, el⟩, rfl, rfl, rfl, hc, hm, he, by show nm ≤ _; omega, hcl, hml, hel, hto⟩
theorem list5 {α : Type} {cs : Array α} (h : cs.size = 5) : ∃ a b c d e, cs = #[a, b, c, d, e] := by
  obtain ⟨l⟩ := cs
  match l, h with
  | [a, b, c, d, e], _ => exact ⟨a, b, c, d, e, rfl⟩
set_option maxRecDepth 100000 in
theorem open_case {H : Type} {enc : TypeId × Value → H} {W : World} {base : Nat} {v : Value} {d : DataW H} {p : List MemPlace} (hv : Value.okWide Tryz.prog W .any base 54 v) (h : DataW.Trod enc Tryz.prog W 0 (fun _ => true) true 54 v d p) :
    ∃ s n form A l c xs, v = .agg #[.slice s.Ac s.nc s.cc, .slice s.Am s.nm s.cm, .slice s.Ae s.ne s.ce, .int .i64 form, .slice A l c] ∧ NormIn W s n ∧ I64 form ∧ (l ≤ c ∧ c ≤ 9223372036854775807 ∧ Ints W A l xs) := by
  obtain ⟨cs, rfl, hsz⟩ := okWide_struct Tryz.underlying54 hv
  obtain ⟨c0, c1, c2, c3, c4, rfl⟩ := list5 (hsz.trans (by kernel_rfl))
  obtain ⟨fuel, hf⟩ := h
  obtain ⟨xs, m, _, _, _, hxl, hfs⟩ := DataW.trod_struct Tryz.underlying54 hf
  have hx3 : xs.length = 3 := hxl
  have h0 := hfs 0 _ rfl
  have h1 := hfs 1 _ rfl
  have h2 := hfs 2 _ rfl
  rw [List.getElem?_eq_getElem (show 0 < xs.length by omega)] at h0
  rw [List.getElem?_eq_getElem (show 1 < xs.length by omega)] at h1
  rw [List.getElem?_eq_getElem (show 2 < xs.length by omega)] at h2
  have h0' : DataW.trod enc Tryz.prog W 0 (fun _ => true) true m 28 [c0, c1, c2] = some xs[0] := by
    have e : ([c0, c1, c2, c3, c4].drop 0).take (Tryz.prog.cellsOf 28) = [c0, c1, c2] := by rw [show Tryz.prog.cellsOf 28 = 3 by kernel_rfl]; rfl
    rw [← e]; exact h0
  have h1' : DataW.trod enc Tryz.prog W 0 (fun _ => true) true m 3 [c3] = some xs[1] := by
    have e : ([c0, c1, c2, c3, c4].drop 3).take (Tryz.prog.cellsOf 3) = [c3] := by rw [cells_int]; rfl
    rw [← e]; exact h1
  have h2' : DataW.trod enc Tryz.prog W 0 (fun _ => true) true m 29 [c4] = some xs[2] := by
    have e : ([c0, c1, c2, c3, c4].drop 4).take (Tryz.prog.cellsOf 29) = [c4] := by rw [show Tryz.prog.cellsOf 29 = 1 by kernel_rfl]; rfl
    rw [← e]; exact h2
  obtain ⟨s, n, rfl, rfl, rfl, hN⟩ := norm_cells h0'
  obtain ⟨f, ef, _, wf⟩ := DataW.trod_int Tryz.underlying3 h1'
  obtain ⟨A, l, c, rfl, h3, h4, xs, h5⟩ := open_intsl h2'
  simp only [List.cons.injEq, and_true] at ef
  exact ⟨s, n, f, A, l, c, xs, by rw [ef], hN, wf_i64 wf, h3, h4, h5⟩
end Go.Proofs.YtjfhcmkcmdnhoaaGreatDoor
