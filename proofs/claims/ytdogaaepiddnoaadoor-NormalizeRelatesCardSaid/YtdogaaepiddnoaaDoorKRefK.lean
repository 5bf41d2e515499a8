/- References: lengths of layer 21. -/
import Derived.Test.YtdogaaepiddnoaaDoorKOwn
namespace Go.Proofs.YtdogaaepiddnoaaDoor
open Go Go.RowKit

theorem own_kept {w w' : World} {base : Nat} {e : TypeId} {size : Nat} {v : Value} {n : Nat} {xs : List Value} (h : w.ownsRow base e size v n xs) (hk : Kept w w') : w'.ownsRow base e size v n xs := by
  refine ⟨h.1, ?_⟩
  rcases h.2 with h0 | ⟨g, cap, cur, rfl, hg, hgg, rest⟩
  · exact .inl h0
  · exact .inr ⟨g, cap, cur, rfl, hg, (hk.block g (block_lt hgg)).trans hgg, rest⟩
end Go.Proofs.YtdogaaepiddnoaaDoor
