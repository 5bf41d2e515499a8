/- ordering.class: the class of a number in valid classes, found by a binary search. -/
import Derived.Test.YtobcaploncgnbaaDoorKOrdA
import Derived.Test.YtobcaploncgnbaaDoorKSimA
namespace Go.Proofs.YtobcaploncgnbaaDoor
open Go Go.RowKit

def spanCmp (s : Span) (c : Int) : Int := if s.hi < c then -1 else if c < s.lo then 1 else 0
theorem class1_any (s : Span) (c : Int) (w : World) : Calls Tryd.prog 88 #[.agg #[.int .i64 s.lo, .int .i64 s.hi, .int .i64 s.val], .int .i64 c] w (RetI w (spanCmp s c)) := by
  go_enter Tryd.func88, Tryd.ntmps88
  go_wp2
  all_goals (go_ret; exact ⟨ret_int (by unfold spanCmp; first | rw [if_pos (by omega)] | rw [if_neg (by omega), if_pos (by omega)] | rw [if_neg (by omega), if_neg (by omega)]), Kept.alloc (Kept.refl _) _⟩)

def BsSpan (w : World) (l : List Span) (c : Int) (e : Ending) (w' : World) : Prop :=
  ∃ (i : Nat) (ok : Bool), e = .returned (.tuple #[.int .i64 (i : Int), .bool ok]) ∧ Kept w w' ∧ i ≤ l.length ∧
    (ok = true → ∃ s, l[i]? = some s ∧ s.lo ≤ c ∧ c ≤ s.hi) ∧ (ok = false → ∀ s ∈ l, ¬ (s.lo ≤ c ∧ c ≤ s.hi))

set_option maxRecDepth 100000 in
set_option maxHeartbeats 1000000 in
theorem bs_span (A : Option Addr) (n cp : Nat) (l : List Span) (c : Int) (w : World) (hn : n ≤ 100000) (hl : Spans w A n l) (hs : SpanSorted l) :
    Calls Tryd.prog 87 #[.slice A n cp, .int .i64 c, .func (.func 88) #[] #[]] w (BsSpan w l c) := by
  have HL := Lib.hid hl
  have HN := Lib.hid hl.1
  have HO := Lib.hid hs
  clear hl hs
  go_enter Tryd.func87, Tryd.ntmps87
  go_wp2
  go_loopw [9, 10] (fun a b wr => ∃ i j : Nat, i ≤ j ∧ j ≤ n ∧ a = .int .i64 i ∧ b = .int .i64 j ∧ (∀ k s, k < i → l[k]? = some s → s.hi < c) ∧ (∀ k s, j ≤ k → l[k]? = some s → c ≤ s.hi) ∧ Below w.heap.size w wr) (fun a b _ => (intOf b).toNat - (intOf a).toNat)
  case atStart => exact ⟨0, n, Nat.zero_le _, Nat.le_refl _, rfl, rfl, fun k s h => by omega, fun k s h1 h2 => by have := lt_of_getElem?_some h2; have := HN.out; omega, Below.refl _ _⟩
  case round =>
    obtain ⟨i, j, hij, hjn, rfl, rfl, hlo, hhi, hB⟩ := hrel
    have HLO := Lib.hid hlo
    have HHI := Lib.hid hhi
    clear hlo hhi
    by_cases hlt : i < j
    · obtain ⟨b, off, s, rfl, hs, c0, c1, c2⟩ := span_at (i := (i + j) / 2) (HL.out.kept hB) (by omega)
      have HS := Lib.hid hs
      clear hs
      by_cases hcmp : s.hi < c
      · have hz : spanCmp s c < 0 := by unfold spanCmp; rw [if_pos hcmp]; decide
        go_wp2_with (go_at_call 88; refine (class1_any _ _ _).mono ?_; rintro e w' ⟨rfl, hk2⟩)
        go_roundw
        case rel =>
          refine ⟨(i + j) / 2 + 1, j, by omega, hjn, by go_num, rfl, fun k t hk ht => ?_, HHI.out, Kept.trans hB hk2⟩
          rcases Nat.lt_or_ge k ((i + j) / 2) with h | h
          · have h1 := HO.out.1 k _ t s h ht HS.out
            have h2 := HO.out.2 s (mem_of_getElem?_some HS.out)
            omega
          · obtain rfl : k = (i + j) / 2 := by omega
            have := HS.out
            rw [ht] at this
            injection this with this
            subst this
            exact hcmp
        case measure => simp [intOf]; omega
      · have hz : ¬ spanCmp s c < 0 := by unfold spanCmp; rw [if_neg hcmp]; split <;> decide
        go_wp2_with (go_at_call 88; refine (class1_any _ _ _).mono ?_; rintro e w' ⟨rfl, hk2⟩)
        go_roundw
        case rel =>
          refine ⟨i, (i + j) / 2, by omega, by omega, rfl, by go_num, HLO.out, fun k t hk ht => ?_, Kept.trans hB hk2⟩
          rcases Nat.lt_or_ge ((i + j) / 2) k with h | h
          · have h1 := HO.out.1 _ k s t h HS.out ht
            have h2 := HO.out.2 t (mem_of_getElem?_some ht)
            omega
          · obtain rfl : k = (i + j) / 2 := by omega
            have := HS.out
            rw [ht] at this
            injection this with this
            subst this
            omega
        case measure => simp [intOf]; omega
    · obtain rfl : i = j := by omega
      by_cases hin : i < n
      · obtain ⟨b, off, s, rfl, hs, c0, c1, c2⟩ := span_at (i := i) (HL.out.kept hB) (by omega)
        have HS := Lib.hid hs
        clear hs
        have hnot : ∀ (k : Nat) (t : Span), l[k]? = some t → k ≠ i → ¬ (t.lo ≤ c ∧ c ≤ t.hi) := fun k t ht hki => by
          rcases Nat.lt_or_gt_of_ne hki with h | h
          · have := HLO.out k t h ht; omega
          · have h0 := HO.out.1 i k s t h HS.out ht
            have h1 := HHI.out i s (Nat.le_refl _) HS.out
            omega
        have HNOT := Lib.hid hnot
        clear hnot
        by_cases hz : spanCmp s c = 0
        · have hz' : (spanCmp s c == 0) = true := by simpa using hz
          have HZ := Lib.hid hz
          clear hz
          go_wp2_with (go_at_call 88; refine (class1_any _ _ _).mono ?_; rintro e w' ⟨rfl, hk2⟩)
          go_ret2
          refine ⟨i, true, rfl, Kept.trans hB hk2, by have := HN.out; omega, fun _ => ⟨s, HS.out, ?_⟩, fun h => by cases h⟩
          have := HZ.out
          unfold spanCmp at this
          by_cases h1 : s.hi < c
          · rw [if_pos h1] at this; omega
          · by_cases h2 : c < s.lo
            · rw [if_neg h1, if_pos h2] at this; omega
            · omega
        · have hz' : (spanCmp s c == 0) = false := by simpa using hz
          have HZ := Lib.hid hz
          clear hz
          go_wp2_with (go_at_call 88; refine (class1_any _ _ _).mono ?_; rintro e w' ⟨rfl, hk2⟩)
          go_ret2
          refine ⟨i, false, rfl, Kept.trans hB hk2, by have := HN.out; omega, (fun h => by cases h), fun _ t ht => ?_⟩
          obtain ⟨k, hk, e⟩ := List.getElem_of_mem ht
          have ht' : l[k]? = some t := by rw [List.getElem?_eq_getElem hk, e]
          by_cases hki : k = i
          · subst hki
            have := HS.out
            rw [ht'] at this
            injection this with this
            subst this
            intro hc
            exact HZ.out (by unfold spanCmp; rw [if_neg (by omega), if_neg (by omega)])
          · exact HNOT.out k t ht' hki
      · go_wp2_with fail
        go_ret2
        refine ⟨i, false, rfl, hB, by have := HN.out; omega, (fun h => by cases h), fun _ t ht => ?_⟩
        obtain ⟨k, hk, e⟩ := List.getElem_of_mem ht
        have ht' : l[k]? = some t := by rw [List.getElem?_eq_getElem hk, e]
        have := HLO.out k t (by have := HN.out; omega) ht'
        omega

theorem class_any (A : Option Addr) (n cp : Nat) (l : List Span) (c : Int) (w : World) (hn : n ≤ 100000) (hl : Spans w A n l) (hs : SpanSorted l) :
    Calls Tryd.prog 71 #[.slice A n cp, .int .i64 c] w (RetI w (classOf l c)) := by
  have HL := Lib.hid hl
  have HS := Lib.hid hs
  have HN := Lib.hid hl.1
  have HC := Lib.hid (bs_span A n cp l c w hn hl hs)
  clear hl hs
  go_enter Tryd.func71, Tryd.ntmps71
  go_wp2_with fail
  refine HC.out.mono ?_
  rintro e w1 ⟨i, ok, rfl, hB, hi, hyes, hno⟩
  cases ok
  · have HNO := Lib.hid (hno rfl)
    clear hno hyes
    go_wp2_with fail
    go_ret
    exact ⟨ret_int (classOf_none HNO.out).symm, hB⟩
  · obtain ⟨s, hs, h1, h2⟩ := hyes rfl
    have hin : i < n := by have := lt_of_getElem?_some hs; have := HN.out; omega
    obtain ⟨b, off, s', rfl, hs', c0, c1, c2⟩ := span_at (i := i) (HL.out.kept hB) hin
    have e : s' = s := by rw [hs] at hs'; injection hs' with h; exact h.symm
    subst e
    have HSS := Lib.hid hs
    clear hno hyes hs hs'
    go_wp2_with fail
    go_ret
    exact ⟨ret_int (classOf_some HS.out HSS.out h1 h2).symm, hB⟩
end Go.Proofs.YtobcaploncgnbaaDoor
