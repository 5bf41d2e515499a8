/- References: replaced, table, full, Char and Text of layer 21. References: table, full, Char and Text of layer 21. -/
import Derived.Test.YtckgmkjoblneeaaGreatDoorKRfb
import Derived.Test.YtckgmkjoblneeaaGreatDoorKFew
import Derived.Test.YtckgmkjoblneeaaGreatDoorKPq
namespace Go.Proofs.YtckgmkjoblneeaaGreatDoor
open Go Go.RowKit
def Tab (w : World) (B : Option Addr) (m : Nat) (T : List (List Int)) : Prop := m = T.length ∧ (0 < m → ∃ b off, B = some ⟨b, off, none⟩ ∧ ∀ (i : Nat) (xs : List Int), T[i]? = some xs → ∃ A k c, w.cell? ⟨b, off + i, none⟩ = some (.slice A k c) ∧ k ≤ c ∧ Ints w A k xs)
theorem Tab.kept {w w' : World} {B : Option Addr} {m : Nat} {T : List (List Int)} (h : Tab w B m T) (hk : Kept w w') : Tab w' B m T := by
  refine ⟨h.1, fun h0 => ?_⟩
  obtain ⟨b, off, e, hc⟩ := h.2 h0
  refine ⟨b, off, e, fun i xs hx => ?_⟩
  obtain ⟨A, k, c, c1, hle, hI⟩ := hc i xs hx
  exact ⟨A, k, c, Kept.cell hk c1, hle, hI.kept hk⟩
theorem tab_at {w : World} {B : Option Addr} {m : Nat} {T : List (List Int)} (h : Tab w B m T) {i : Nat} (hi : i < m) : ∃ b off A k c xs, B = some ⟨b, off, none⟩ ∧ T[i]? = some xs ∧ w.cell? ⟨b, off + i, none⟩ = some (.slice A k c) ∧ k ≤ c ∧ Ints w A k xs := by
  obtain ⟨b, off, e, hc⟩ := h.2 (by omega)
  obtain ⟨xs, hx⟩ := getElem?_some_of_lt (l := T) (k := i) (by have := h.1; omega)
  obtain ⟨A, k, c, c1, hle, hI⟩ := hc i xs hx
  exact ⟨b, off, A, k, c, xs, e, hx, c1, hle, hI⟩
end Go.Proofs.YtckgmkjoblneeaaGreatDoor
namespace Go.Proofs.YtckgmkjoblneeaaGreatDoor
open Go Go.RowKit
theorem info_ints : (Tryz.prog.info? 32).map (fun i => (i.zero, i.size, i.bytes)) = some (some (.slice none 0 0), 1, 24) := by kernel_rfl
def ValsOk (w : World) (vals : List Value) (T : List (List Int)) : Prop := vals.length = T.length ∧ ∀ (i : Nat) (v : Value) (xs : List Int), vals[i]? = some v → T[i]? = some xs → ∃ A k c, v = .slice A k c ∧ k ≤ c ∧ Ints w A k xs
theorem ValsOk.kept {w w' : World} {vals : List Value} {T : List (List Int)} (h : ValsOk w vals T) (hk : Kept w w') : ValsOk w' vals T := by
  refine ⟨h.1, fun i v xs hv hx => ?_⟩
  obtain ⟨A, k, c, e, hle, hI⟩ := h.2 i v xs hv hx
  exact ⟨A, k, c, e, hle, hI.kept hk⟩
theorem ValsOk.start (w : World) (n : Nat) : ValsOk w (List.replicate n (.slice none 0 0)) (List.replicate n []) := by
  refine ⟨by simp, fun i v xs hv hx => ?_⟩
  have h1 := List.eq_of_mem_replicate (List.mem_of_getElem? hv)
  have h2 := List.eq_of_mem_replicate (List.mem_of_getElem? hx)
  subst h1 h2
  exact ⟨none, 0, 0, rfl, Nat.le_refl _, Sl.nil⟩
theorem ValsOk.tab {w : World} {g n : Nat} {vals : List Value} {T : List (List Int)} (h : ValsOk w vals T) (hn : n = T.length) (hown : w.ownsRow g 32 1 (.slice (some ⟨g, 0, none⟩) n n) n vals) : Tab w (some ⟨g, 0, none⟩) n T := by
  refine ⟨hn, fun h0 => ⟨g, 0, rfl, fun i xs hx => ?_⟩⟩
  have hi := lt_of_getElem?_some hx
  obtain ⟨v, hv⟩ := getElem?_some_of_lt (l := vals) (k := i) (by rw [h.1]; exact hi)
  obtain ⟨A, k, c, e, hle, hI⟩ := h.2 i v xs hv hx
  refine ⟨A, k, c, ?_, hle, hI⟩
  rw [Nat.zero_add, hown.cellAt i (by omega), hv, e]
theorem ValsOk.set {w' : World} {vals : List Value} {T : List (List Int)} (h : ValsOk w' vals T) (i : Nat) {v : Value} {xs : List Int} (hv : ∃ A k c, v = .slice A k c ∧ k ≤ c ∧ Ints w' A k xs) : ValsOk w' (vals.set i v) (T.set i xs) := by
  refine ⟨by simp [h.1], fun j v' xs' h1 h2 => ?_⟩
  by_cases e : i = j
  · subst e
    rw [List.getElem?_set] at h1 h2
    simp only [if_true] at h1 h2
    split at h1
    · split at h2
      · injection h1 with h1; injection h2 with h2; rw [← h1, ← h2]; exact hv
      · cases h2
    · cases h1
  · rw [List.getElem?_set_ne e] at h1 h2
    exact h.2 j v' xs' h1 h2
theorem ValsOk.noInt {w : World} {g n : Nat} {vals : List Value} {T : List (List Int)} (h : ValsOk w vals T) (hown : w.ownsRow g 32 1 (.slice (some ⟨g, 0, none⟩) n n) n vals) (hn : n = T.length) : ∀ b ∈ [g], ∀ off x, w.cell? ⟨b, off, none⟩ ≠ some (.int .i64 x) := by
  intro b hb off x hc
  simp only [List.mem_cons, List.not_mem_nil, or_false] at hb
  subst hb
  by_cases hlt : off < n
  · rw [hown.cellAt off (by omega)] at hc
    obtain ⟨xs, hx⟩ := getElem?_some_of_lt (l := T) (k := off) (by omega)
    obtain ⟨A, k, c, e, _, _⟩ := h.2 off _ xs hc hx
    cases e
  · rcases hown.2 with ⟨e, _⟩ | ⟨g', cap, cur, e, h1, h2, h3, h4, h5, h6⟩
    · cases e
    · injection e with e1 e2 e3
      injection e1 with e1
      injection e1 with e1
      subst e1
      unfold World.cell? at hc
      rw [h2] at hc
      have : off < cur.size := by
        have := (Array.getElem?_eq_some_iff.1 (show cur[off]? = some (.int .i64 x) by simpa using hc)).1
        exact this
      omega
theorem ValsOk.setCell {w : World} {g n k : Nat} {vals : List Value} {T : List (List Int)} (h : ValsOk w vals T) (hown : w.ownsRow g 32 1 (.slice (some ⟨g, 0, none⟩) n n) n vals) (hn : n = T.length) (v : Value) : ValsOk (w.setCell ⟨g, k, none⟩ v) vals T := by
  refine ⟨h.1, fun i u xs hu hx => ?_⟩
  obtain ⟨A, m, c, e, hle, hI⟩ := h.2 i u xs hu hx
  exact ⟨A, m, c, e, hle, hI.keptBut (KeptBut.setCell (S := [g]) w (p := ⟨g, k, none⟩) (by simp) v) (h.noInt hown hn)⟩
def RetTab (w : World) (T : List (List Int)) (e : Ending) (w' : World) : Prop := ∃ B m c, e = .returned (.slice B m c) ∧ m ≤ c ∧ Tab w' B m T ∧ Kept w w'
end Go.Proofs.YtckgmkjoblneeaaGreatDoor
