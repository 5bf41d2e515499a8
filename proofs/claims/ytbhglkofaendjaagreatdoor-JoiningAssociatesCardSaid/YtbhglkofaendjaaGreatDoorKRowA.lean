/- An argument that is an array of three slices of numbers. -/
import Derived.Laws.IdiomArrays
import Derived.Test.YtbhglkofaendjaaGreatDoorKRow
namespace Go.Proofs.YtbhglkofaendjaaGreatDoor
open Go Go.RowKit Go.ChangeShapes

theorem arr3_list {cs : Array Value} (h : cs.size = 3) : ∃ a b c, cs = #[a, b, c] := by
  obtain ⟨l⟩ := cs
  match l, h with
  | [a, b, c], _ => exact ⟨a, b, c, rfl⟩
set_option maxRecDepth 100000 in
theorem open_texts {H : Type} {enc : TypeId × Value → H} {W : World} {base : Nat} {v : Value} {d : DataW H} {p : List MemPlace} (hv : Value.okWide Tryz.prog W .any base 45 v) (h : DataW.Trod enc Tryz.prog W 0 (fun _ => true) true 45 v d p) :
    ∃ A0 l0 c0 xs0 A1 l1 c1 xs1 A2 l2 c2 xs2, v = .agg #[.slice A0 l0 c0, .slice A1 l1 c1, .slice A2 l2 c2] ∧ (l0 ≤ c0 ∧ c0 ≤ 9223372036854775807 ∧ Ints W A0 l0 xs0) ∧ (l1 ≤ c1 ∧ c1 ≤ 9223372036854775807 ∧ Ints W A1 l1 xs1) ∧ (l2 ≤ c2 ∧ c2 ≤ 9223372036854775807 ∧ Ints W A2 l2 xs2) := by
  simp only [Value.okWide, Tryz.underlying45] at hv
  obtain ⟨cs, rfl, hsz, _⟩ := hv
  obtain ⟨v0, v1, v2, rfl⟩ := arr3_list (hsz.trans (by kernel_rfl))
  obtain ⟨fuel, hf⟩ := h
  obtain ⟨y0, y1, y2, m, _, h0, h1, h2⟩ := trod_array3 Tryz.underlying45 (by kernel_rfl) hf
  obtain ⟨A0, l0, c0, rfl, a1, a2, xs0, a3⟩ := open_intsl h0
  obtain ⟨A1, l1, c1, rfl, b1, b2, xs1, b3⟩ := open_intsl h1
  obtain ⟨A2, l2, c2, rfl, d1, d2, xs2, d3⟩ := open_intsl h2
  exact ⟨A0, l0, c0, xs0, A1, l1, c1, xs1, A2, l2, c2, xs2, rfl, ⟨a1, a2, a3⟩, ⟨b1, b2, b3⟩, ⟨d1, d2, d3⟩⟩
end Go.Proofs.YtbhglkofaendjaaGreatDoor
