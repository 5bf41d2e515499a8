/- An argument that is a slice of slices of numbers; an argument of two bytes. -/
import Derived.Test.YtckgmkjoblneeaaGreatDoorKRow
import Derived.Test.YtckgmkjoblneeaaGreatDoorKRgx
namespace Go.Proofs.YtckgmkjoblneeaaGreatDoor
open Go Go.RowKit Go.ChangeShapes Go.WideShapes Go.Deep Go.Joins
set_option maxRecDepth 100000 in
theorem open_tab {H : Type} {enc : TypeId × Value → H} {W : World} {base : Nat} {v : Value} {d : DataW H} {p : List MemPlace} (hv : Value.okWide Tryz.prog W .any base 29 v) (h : DataW.Trod enc Tryz.prog W 0 (fun _ => true) true 29 v d p) :
    ∃ B m e, v = .slice B m e ∧ m ≤ e ∧ e ≤ 9223372036854775807 ∧ ∃ T : List (List Int), Tab W B m T ∧ ∀ xs ∈ T, xs.length ≤ 9223372036854775807 := by
  obtain ⟨a0, len0, cap0, rfl⟩ := okWide_slice Tryz.underlying29 hv
  obtain ⟨fuel, hf⟩ := h
  rcases open_slice Tryz.underlying29 hf with ⟨h0, _⟩ | ⟨a, len, cap, m, n, D, Pl, hcs, _, hl, hm, hmm, _, hi⟩
  · injection h0 with h0 _
    injection h0 with e1 e2 e3
    subst e1 e2 e3
    exact ⟨none, 0, 0, rfl, Nat.le_refl _, by omega, [], ⟨rfl, fun h => absurd h (by decide)⟩, by simp⟩
  · injection hcs with hcs _
    refine ⟨some a, len, cap, hcs, hl, by unfold maxLen at hm; omega, ?_⟩
    simp only [if_true] at hmm
    rw [show Tryz.prog.cellsOf 32 = 1 by kernel_rfl] at hi
    obtain ⟨l, h1, h2⟩ := list_of (α := List Int) (p := fun i x => ∃ A k c, k ≤ c ∧ c ≤ 9223372036854775807 ∧ Ints W A k x ∧ W.cell? (a.add i) = some (.slice A k c)) len (fun i hi' => by
      obtain ⟨cs', hc, htr⟩ := hi i (by omega)
      obtain ⟨c1, c2⟩ := cells_at hc
      obtain ⟨v0, rfl⟩ := List.length_eq_one_iff.1 c1
      obtain ⟨A, k, c, rfl, hle, hbig, x, hI⟩ := open_intsl htr
      refine ⟨x, A, k, c, hle, hbig, hI, ?_⟩
      have := c2 0 (by decide)
      rw [Go.Deep.add_add] at this
      simpa using this)
    refine ⟨l, ⟨h1.symm, fun hn => ?_⟩, fun xs hx => ?_⟩
    · obtain ⟨b, off, spot⟩ := a
      obtain ⟨x0, hx0⟩ := getElem?_some_of_lt (l := l) (k := 0) (by omega)
      obtain ⟨A, k, c, _, _, _, hcell⟩ := h2 0 x0 hx0
      have hspot : spot = none := by simpa [Addr.add] using World.cell?_spot hcell
      subst hspot
      refine ⟨b, off, rfl, fun i x hx => ?_⟩
      obtain ⟨A, k, c, hle, _, hI, hcell⟩ := h2 i x hx
      refine ⟨A, k, c, ?_, hle, hI⟩
      rw [← hcell]
      congr 1
      unfold Addr.add
      split <;> simp <;> omega
    · obtain ⟨i, hi', e⟩ := List.getElem_of_mem hx
      obtain ⟨A, k, c, hle, hbig, hI, _⟩ := h2 i xs (by rw [List.getElem?_eq_getElem hi', e])
      have := hI.1
      omega
end Go.Proofs.YtckgmkjoblneeaaGreatDoor
