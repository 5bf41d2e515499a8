/- An argument that is an edit. -/
import Derived.Test.YtjfhcmkcmdnhoaaGreatDoorKRow
namespace Go.Proofs.YtjfhcmkcmdnhoaaGreatDoor
open Go Go.RowKit Go.ChangeShapes Go.WideShapes Go.Deep Go.Joins
set_option maxRecDepth 100000 in
theorem open_edit {H : Type} {enc : TypeId × Value → H} {W : World} {base : Nat} {v : Value} {d : DataW H} {p : List MemPlace} (hv : Value.okWide Tryz.prog W .any base 38 v) (h : DataW.Trod enc Tryz.prog W 0 (fun _ => true) true 38 v d p) :
    ∃ ea ed A l c xs, v = .agg #[.int .i64 ea, .int .i64 ed, .slice A l c] ∧ I64 ea ∧ I64 ed ∧ (l ≤ c ∧ c ≤ 9223372036854775807 ∧ Ints W A l xs) := by
  obtain ⟨v0, v1, v2, y0, y1, y2, m, rfl, _, _, h0, h1, h2⟩ := open_agg3 Tryz.underlying38 (by kernel_rfl) (by kernel_rfl) hv h
  obtain ⟨a, ea, _, wa⟩ := DataW.trod_int Tryz.underlying3 h0
  obtain ⟨b, eb, _, wb⟩ := DataW.trod_int Tryz.underlying3 h1
  obtain ⟨A, l, c, rfl, h3, h4, xs, h5⟩ := open_intsl h2
  simp only [List.cons.injEq, and_true] at ea eb
  exact ⟨a, b, A, l, c, xs, by rw [ea, eb], wf_i64 wa, wf_i64 wb, h3, h4, h5⟩
end Go.Proofs.YtjfhcmkcmdnhoaaGreatDoor
