/- Edits in memory. An argument that is a text and edits of it. -/
import Derived.Test.YtckgmkjoblneeaaGreatDoorKBase
import Derived.Test.YtckgmkjoblneeaaGreatDoorKRow
namespace Go.Proofs.YtckgmkjoblneeaaGreatDoor
open Go Go.RowKit
structure Ed where
  pos : Int
  del : Int
  ins : List Int
def Eds (w : World) (A : Option Addr) (n : Nat) (l : List Ed) : Prop :=
  n = l.length ∧ (0 < n → ∃ b off, A = some ⟨b, off, none⟩ ∧ ∀ i m, l[i]? = some m → ∃ A' n' c', n' ≤ c' ∧ Ints w A' n' m.ins ∧
    w.cell? ⟨b, off + i * 3, none⟩ = some (.int .i64 m.pos) ∧ w.cell? ⟨b, off + i * 3 + 1, none⟩ = some (.int .i64 m.del) ∧ w.cell? ⟨b, off + i * 3 + 2, none⟩ = some (.slice A' n' c'))
theorem Eds.kept {w w' : World} {A : Option Addr} {n : Nat} {l : List Ed} (h : Eds w A n l) (hk : Kept w w') : Eds w' A n l :=
  ⟨h.1, fun hn => by
    obtain ⟨b, off, e, hc⟩ := h.2 hn
    refine ⟨b, off, e, fun i m hm => ?_⟩
    obtain ⟨A', n', c', hle, hI, h0, h1, h2⟩ := hc i m hm
    exact ⟨A', n', c', hle, hI.kept hk, hk.cell h0, hk.cell h1, hk.cell h2⟩⟩
theorem ed_at {w : World} {A : Option Addr} {n : Nat} {l : List Ed} (h : Eds w A n l) {i : Nat} (hi : i < n) :
    ∃ b off m A' n' c', A = some ⟨b, off, none⟩ ∧ l[i]? = some m ∧ n' ≤ c' ∧ Ints w A' n' m.ins ∧
    w.cell? ⟨b, off + i * 3, none⟩ = some (.int .i64 m.pos) ∧ w.cell? ⟨b, off + i * 3 + 1, none⟩ = some (.int .i64 m.del) ∧ w.cell? ⟨b, off + i * 3 + 2, none⟩ = some (.slice A' n' c') := by
  obtain ⟨b, off, e, hc⟩ := h.2 (by omega)
  obtain ⟨m, hm⟩ := getElem?_some_of_lt (l := l) (k := i) (by rw [← h.1]; exact hi)
  obtain ⟨A', n', c', hle, hI, h0, h1, h2⟩ := hc i m hm
  exact ⟨b, off, m, A', n', c', e, hm, hle, hI, h0, h1, h2⟩
end Go.Proofs.YtckgmkjoblneeaaGreatDoor
namespace Go.Proofs.YtckgmkjoblneeaaGreatDoor
open Go Go.RowKit Go.ChangeShapes Go.WideShapes Go.Deep Go.Joins
section
variable {H : Type} {enc : TypeId × Value → H}
structure EdAt (W : World) (m : Ed) (cs : List Value) : Prop where
  ex : ∃ A n c, n ≤ c ∧ Ints W A n m.ins ∧ cs = [.int .i64 m.pos, .int .i64 m.del, .slice A n c] ∧ c ≤ 9223372036854775807 ∧ I64 m.pos ∧ I64 m.del
set_option maxRecDepth 100000 in
theorem ed_cells {W : World} {n : Nat} {cs : List Value} {y : DataW H × List MemPlace} (h : DataW.trod enc Tryz.prog W 0 (fun _ => true) true n 42 cs = some y) : ∃ m : Ed, EdAt W m cs := by
  obtain ⟨xs, m, _, _, hlen, hxl, hf⟩ := DataW.trod_struct Tryz.underlying42 h
  have hc : cs.length = 3 := hlen.trans (by kernel_rfl)
  have hx3 : xs.length = 3 := hxl
  have h0 := hf 0 _ rfl
  have h1 := hf 1 _ rfl
  have h2 := hf 2 _ rfl
  rw [List.getElem?_eq_getElem (show 0 < xs.length by omega)] at h0
  rw [List.getElem?_eq_getElem (show 1 < xs.length by omega)] at h1
  rw [List.getElem?_eq_getElem (show 2 < xs.length by omega)] at h2
  have e0 : (cs.drop 0).take (Tryz.prog.cellsOf 3) = [cs[0]] := by
    rw [cells_int]; exact one_cell cs 0 _ (List.getElem?_eq_getElem (by omega))
  have e1 : (cs.drop 1).take (Tryz.prog.cellsOf 3) = [cs[1]] := by
    rw [cells_int]; exact one_cell cs 1 _ (List.getElem?_eq_getElem (by omega))
  have e2 : (cs.drop 2).take (Tryz.prog.cellsOf 32) = [cs[2]] := by
    rw [show Tryz.prog.cellsOf 32 = 1 by kernel_rfl]
    exact one_cell cs 2 _ (List.getElem?_eq_getElem (by omega))
  have h0' : DataW.trod enc Tryz.prog W 0 (fun _ => true) true m 3 [cs[0]] = some xs[0] := by rw [← e0]; exact h0
  have h1' : DataW.trod enc Tryz.prog W 0 (fun _ => true) true m 3 [cs[1]] = some xs[1] := by rw [← e1]; exact h1
  have h2' : DataW.trod enc Tryz.prog W 0 (fun _ => true) true m 32 [cs[2]] = some xs[2] := by rw [← e2]; exact h2
  obtain ⟨a, ea, _, wa⟩ := DataW.trod_int Tryz.underlying3 h0'
  obtain ⟨b, eb, _, wb⟩ := DataW.trod_int Tryz.underlying3 h1'
  obtain ⟨A, nn, c, hv, hle, hbig, l, hI⟩ := open_intsl h2'
  simp only [List.cons.injEq, and_true] at ea eb
  exact ⟨⟨a, b, l⟩, ⟨A, nn, c, hle, hI, list3 hc (by rw [List.getElem?_eq_getElem (by omega), ea]) (by rw [List.getElem?_eq_getElem (by omega), eb]) (by rw [List.getElem?_eq_getElem (by omega), hv]), hbig, wf_i64 wa, wf_i64 wb⟩⟩
theorem open_eds {W : World} {fuel : Nat} {v : Value} {x : DataW H × List MemPlace} (h : DataW.trod enc Tryz.prog W 0 (fun _ => true) true fuel 38 [v] = some x) :
    ∃ A n c, v = .slice A n c ∧ n ≤ c ∧ c ≤ 9223372036854775807 ∧ ∃ l : List Ed, Eds W A n l ∧ ∀ m ∈ l, m.ins.length ≤ 9223372036854775807 ∧ I64 m.pos ∧ I64 m.del := by
  rcases open_slice Tryz.underlying38 h with ⟨h0, _⟩ | ⟨a, len, cap, m, n, D, Pl, hcs, _, hl, hm, hmm, _, hi⟩
  · simp only [List.cons.injEq, and_true] at h0
    exact ⟨none, 0, 0, h0, Nat.le_refl _, by omega, [], ⟨rfl, fun h => absurd h (by decide)⟩, by simp⟩
  · simp only [List.cons.injEq, and_true] at hcs
    refine ⟨some a, len, cap, hcs, hl, by unfold maxLen at hm; omega, ?_⟩
    simp only [if_true] at hmm
    rw [show Tryz.prog.cellsOf 42 = 3 by kernel_rfl] at hi
    obtain ⟨l, h1, h2⟩ := list_of (α := Ed) (p := fun i x => ∃ cs, EdAt W x cs ∧ ∀ j u, cs[j]? = some u → W.cell? ((a.add (i * 3)).add j) = some u) len (fun i hi' => by
      obtain ⟨cs', hc, htr⟩ := hi i (by omega)
      obtain ⟨x, hx⟩ := ed_cells htr
      obtain ⟨c1, c2⟩ := cells_at hc
      exact ⟨x, cs', hx, fun j u hu => by rw [c2 j (by have := lt_of_getElem?_some hu; omega), hu]⟩)
    refine ⟨l, ⟨h1.symm, fun hn => ?_⟩, fun x hx => ?_⟩
    · obtain ⟨cs', hc, _⟩ := hi 0 (by omega)
      obtain ⟨c1, c2⟩ := cells_at hc
      obtain ⟨b, off, spot⟩ := a
      have hcell := c2 0 (by decide)
      rw [List.getElem?_eq_getElem (by omega)] at hcell
      have hspot : spot = none := by simpa [Addr.add] using World.cell?_spot hcell
      subst hspot
      refine ⟨b, off, rfl, fun i x hx => ?_⟩
      obtain ⟨cs, ⟨A', n', c', hle, hI, hcs, _⟩, hcl⟩ := h2 i x hx
      have hadd : ∀ j, ((⟨b, off, none⟩ : Addr).add (i * 3)).add j = ⟨b, off + i * 3 + j, none⟩ := fun j => by
        rw [Go.Deep.add_add]
        unfold Addr.add
        split <;> simp <;> omega
      subst hcs
      exact ⟨A', n', c', hle, hI, by rw [← hcl 0 _ rfl, hadd]; rfl, by rw [← hcl 1 _ rfl, hadd], by rw [← hcl 2 _ rfl, hadd]⟩
    · obtain ⟨i, hi', e⟩ := List.getElem_of_mem hx
      obtain ⟨cs, ⟨A', n', c', hle, hI, _, hbig, w1, w2⟩, _⟩ := h2 i x (by rw [List.getElem?_eq_getElem hi', e])
      have := hI.1
      exact ⟨by omega, w1, w2⟩
end
theorem list2a {α : Type} {cs : Array α} (h : cs.size = 2) : ∃ a b, cs = #[a, b] := by
  obtain ⟨l⟩ := cs
  match l, h with
  | [a, b], _ => exact ⟨a, b, rfl⟩
set_option maxRecDepth 100000 in
theorem open_work {H : Type} {enc : TypeId × Value → H} {W : World} {base : Nat} {v : Value} {d : DataW H} {p : List MemPlace} (hv : Value.okWide Tryz.prog W .any base 40 v) (h : DataW.Trod enc Tryz.prog W 0 (fun _ => true) true 40 v d p) :
    ∃ A l c xs B m e L, v = .agg #[.slice A l c, .slice B m e] ∧ (l ≤ c ∧ c ≤ 9223372036854775807 ∧ Ints W A l xs) ∧ (m ≤ e ∧ e ≤ 9223372036854775807 ∧ Eds W B m L ∧ ∀ x ∈ L, x.ins.length ≤ 9223372036854775807 ∧ I64 x.pos ∧ I64 x.del) := by
  obtain ⟨cs, rfl, hsz⟩ := okWide_struct Tryz.underlying40 hv
  obtain ⟨c0, c1, rfl⟩ := list2a (hsz.trans (by kernel_rfl))
  obtain ⟨fuel, hf⟩ := h
  obtain ⟨xs, m, _, _, _, hxl, hfs⟩ := DataW.trod_struct Tryz.underlying40 hf
  have hx2 : xs.length = 2 := hxl
  have h0 := hfs 0 _ rfl
  have h1 := hfs 1 _ rfl
  rw [List.getElem?_eq_getElem (show 0 < xs.length by omega)] at h0
  rw [List.getElem?_eq_getElem (show 1 < xs.length by omega)] at h1
  have h0' : DataW.trod enc Tryz.prog W 0 (fun _ => true) true m 32 [c0] = some xs[0] := by
    have e : ([c0, c1].drop 0).take (Tryz.prog.cellsOf 32) = [c0] := by rw [show Tryz.prog.cellsOf 32 = 1 by kernel_rfl]; rfl
    rw [← e]; exact h0
  have h1' : DataW.trod enc Tryz.prog W 0 (fun _ => true) true m 38 [c1] = some xs[1] := by
    have e : ([c0, c1].drop 1).take (Tryz.prog.cellsOf 38) = [c1] := by rw [show Tryz.prog.cellsOf 38 = 1 by kernel_rfl]; rfl
    rw [← e]; exact h1
  obtain ⟨A, l, c, rfl, h3, h4, xs, h5⟩ := open_intsl h0'
  obtain ⟨B, mm, e, rfl, h6, h7, L, h8, h9⟩ := open_eds h1'
  exact ⟨A, l, c, xs, B, mm, e, L, rfl, ⟨h3, h4, h5⟩, ⟨h6, h7, h8, h9⟩⟩
end Go.Proofs.YtckgmkjoblneeaaGreatDoor
