/- slices.Clone of numbers; ordering.Sort's comparing function. -/
import Derived.Lib.SliceRun
import Derived.Test.YtdogaaepiddnoaaDoorKSrtG
import Derived.Test.YtdogaaepiddnoaaDoorKSqx
import Derived.Test.YtdogaaepiddnoaaDoorKApp
import Derived.Test.YtdogaaepiddnoaaDoorKPq
namespace Go.Proofs.YtdogaaepiddnoaaDoor
open Go Go.RowKit

/-- A slice of the call's own is returned. -/
def RetOwn (w : World) (xs : List Int) (e : Ending) (w' : World) : Prop := ∃ v, e = .returned v ∧ OwnI w' w.heap.size v xs ∧ Kept w w'
theorem RetOwn.ints {w : World} {xs : List Int} {e : Ending} {w' : World} (h : RetOwn w xs e w') : RetInts w xs e w' := by
  obtain ⟨v, rfl, ho, hk⟩ := h
  obtain ⟨A, c, rfl, hle, hI⟩ := OwnI.sl ho
  exact ⟨A, _, c, rfl, hle, hI, hk⟩
set_option maxRecDepth 100000 in
theorem clone_any (A : Option Addr) (n c : Nat) (xs : List Int) (w : World) (hn : n ≤ 1000000) (hI : Ints w A n xs) : Calls Tryd.prog 21 #[.slice A n c] w (RetOwn w xs) := by
  have HI := Lib.hid hI
  have HN := Lib.hid hI.1
  have hlen : xs.length ≤ 1000000 := by rw [← hI.1]; exact hn
  have qnil : ∀ (w : World) (a : Option Addr) (n c n' c' : Nat), (binOp .eql 29 (.slice a n c) (.slice none n' c')).run Tryd.prog w = .ok (.bool a.isNone) w := fun w a n c n' c' => Lib.run_eql_slice_nil w _ _ a n c n' c' Tryd.underlying29
  cases A with
  | none =>
    have hn0 : n = 0 := by
      rcases Nat.eq_zero_or_pos n with h0 | h0
      · exact h0
      · obtain ⟨b, off, e, _⟩ := hI.2 h0; cases e
    subst hn0
    have hx : xs = [] := List.length_eq_zero_iff.1 hI.1.symm
    subst hx
    clear hI
    go_enter Tryd.func21, Tryd.ntmps21
    go_wp2
    go_ret
    exact ⟨_, rfl, World.ownsRow_nil _ _ _ _, Kept.refl w⟩
  | some p =>
    clear hI
    have hk := Kept.alloc (Kept.refl w) (Obj.cells #[] 3)
    have HK := Lib.hid hk
    clear hk
    go_enter Tryd.func21, Tryd.ntmps21
    go_wp2_with (at_builtin; refine app_ints rfl _ _ rfl w.heap.size _ [] rfl (by exact World.ownsRow_lit w #[] 0 (Nat.le_refl _) (by unfold maxLen; omega) rfl) _ _ _ xs rfl (HI.out.kept HK.out) (by simp; omega) (by simp) ?_; intro v' w1 hown' hgrow hat)
    go_ret
    refine ⟨_, rfl, by simpa using hown', ?_⟩
    exact Below.grown HK.out hgrow (by simp) (fun q e => by
      change (Value.slice (some ⟨w.heap.size, 0, none⟩) 0 0).ownBlock = some q at e
      simp only [Value.ownBlock, Option.some.injEq] at e
      omega)

set_option maxHeartbeats 1000000 in
theorem sort1_any (a b : Int) (bl : Nat) (Ac : Option Addr) (nc cc : Nat) (cl : List Span) (w : World) (hnc : nc ≤ 1000) (hs : SpanSorted cl) (hb : w.cell? ⟨bl, 0, none⟩ = some (.slice Ac nc cc)) (hc : Spans w Ac nc cl) :
    Calls Tryd.prog 48 #[.int .i64 a, .int .i64 b, .pointer (some ⟨bl, 0, none⟩)] w (RetI w (cmpI (classOf cl a) (classOf cl b))) := by
  have HC := Lib.hid hc
  have HS := Lib.hid hs
  have HB := Lib.hid hb
  clear hc hs
  go_enter Tryd.func48, Tryd.ntmps48
  go_wp2_with fail
  go_region_held3 (fun w' => w'.cell? ⟨bl, 0, none⟩ = some (.slice Ac nc cc)) (first | exact q2 | exact q1 | exact HB.out)
    (first
      | (go_at_call 37; refine (cmp_any _ _ _).mono ?_; rintro e w' ⟨rfl, rfl⟩)
      | (go_at_call 42; refine (class_any _ _ _ cl b _ (by omega) (HC.out.kept (Kept.trans (Kept.drew (Kept.refl w)) hk1)) HS.out).mono ?_; rintro e w2 ⟨rfl, hk2⟩; have q2 := Kept.cell hk2 q1)
      | (go_at_call 42; refine (class_any _ _ _ cl a _ (by omega) (HC.out.kept (Kept.drew (Kept.refl w))) HS.out).mono ?_; rintro e w1 ⟨rfl, hk1⟩; have q1 := Kept.cell hk1 HB.out))
  go_wp2_with fail
  go_ret
  exact ⟨rfl, Kept.trans (Kept.trans (Kept.drew (Kept.refl w)) hk1) hk2⟩
end Go.Proofs.YtdogaaepiddnoaaDoor
