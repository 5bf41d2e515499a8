/- References: Has, place, Cuts, keeps of layer 2. References: Cuts and Same of layer 2. And more of that kind. -/
import Derived.Deep.RegionHeld3
import Derived.Deep.RegionLaw
import Derived.Test.YtjfhcmkcmdnhoaaGreatDoorKRefA
import Derived.Test.YtjfhcmkcmdnhoaaGreatDoorKSet
import Derived.Test.YtjfhcmkcmdnhoaaGreatDoorKPl
import Derived.Test.YtjfhcmkcmdnhoaaGreatDoorKMpx
namespace Go.Proofs.YtjfhcmkcmdnhoaaGreatDoor
open Go Go.RowKit
end Go.Proofs.YtjfhcmkcmdnhoaaGreatDoor
namespace Go.Proofs.YtjfhcmkcmdnhoaaGreatDoor
open Go Go.RowKit
end Go.Proofs.YtjfhcmkcmdnhoaaGreatDoor
namespace Go.Proofs.YtjfhcmkcmdnhoaaGreatDoor
open Go Go.RowKit
theorem OwnR.kept {w w' : World} {base : Nat} {v : Value} {xs : List Rng} (h : OwnR w base v xs) (hk : Kept w w') : OwnR w' base v xs := by
  refine ⟨h.1, ?_⟩
  rcases h.2 with h0 | ⟨g, cap, cur, rfl, hg, hgg, rest⟩
  · exact .inl h0
  · exact .inr ⟨g, cap, cur, rfl, hg, (hk.block g (block_lt hgg)).trans hgg, rest⟩
end Go.Proofs.YtjfhcmkcmdnhoaaGreatDoor
namespace Go.Proofs.YtjfhcmkcmdnhoaaGreatDoor
open Go Go.RowKit
end Go.Proofs.YtjfhcmkcmdnhoaaGreatDoor
namespace Go.Proofs.YtjfhcmkcmdnhoaaGreatDoor
open Go Go.RowKit
end Go.Proofs.YtjfhcmkcmdnhoaaGreatDoor
namespace Go.Proofs.YtjfhcmkcmdnhoaaGreatDoor
open Go Go.RowKit
end Go.Proofs.YtjfhcmkcmdnhoaaGreatDoor
namespace Go.Proofs.YtjfhcmkcmdnhoaaGreatDoor
open Go Go.RowKit
end Go.Proofs.YtjfhcmkcmdnhoaaGreatDoor
