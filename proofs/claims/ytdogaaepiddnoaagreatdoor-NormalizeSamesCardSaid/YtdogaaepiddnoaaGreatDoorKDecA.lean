/- decompose.once: the mapping of a number, found by a binary search. -/
import Derived.Test.YtdogaaepiddnoaaGreatDoorKHan
import Derived.Test.YtdogaaepiddnoaaGreatDoorKPl
namespace Go.Proofs.YtdogaaepiddnoaaGreatDoor
open Go Go.RowKit

theorem once1_any (s : Mp) (v1 v2 : Value) (c : Int) (w : World) : Calls Tryz.prog 89 #[.agg #[.int .i64 s.src, v1, v2], .int .i64 c] w (RetI w (cmpI s.src c)) := by
  go_enter Tryz.func89, Tryz.ntmps89
  go_wp2_with (go_at_call 90; refine (cmp_any _ _ _).mono ?_; rintro e w' ⟨rfl, rfl⟩)
  go_ret
  exact ⟨rfl, Kept.alloc (Kept.refl _) _⟩

def BsMp (w : World) (l : List Mp) (c : Int) (e : Ending) (w' : World) : Prop :=
  ∃ (i : Nat) (ok : Bool), e = .returned (.tuple #[.int .i64 (i : Int), .bool ok]) ∧ Kept w w' ∧ i ≤ l.length ∧
    (ok = true → ∃ s, l[i]? = some s ∧ s.src = c) ∧ (ok = false → ∀ s ∈ l, ¬ s.src = c)

set_option maxRecDepth 100000 in
set_option maxHeartbeats 1000000 in
theorem bs_mp (A : Option Addr) (n cp : Nat) (l : List Mp) (c : Int) (w : World) (hn : n ≤ 100000) (hl : Mps w A n l) (hs : MpSorted l) :
    Calls Tryz.prog 88 #[.slice A n cp, .int .i64 c, .func (.func 89) #[] #[]] w (BsMp w l c) := by
  have HL := Lib.hid hl
  have HN := Lib.hid hl.1
  have HO := Lib.hid hs
  clear hl hs
  go_enter Tryz.func88, Tryz.ntmps88
  go_wp2
  go_loopw [9, 10] (fun a b wr => ∃ i j : Nat, i ≤ j ∧ j ≤ n ∧ a = .int .i64 i ∧ b = .int .i64 j ∧ (∀ k s, k < i → l[k]? = some s → s.src < c) ∧ (∀ k s, j ≤ k → l[k]? = some s → c ≤ s.src) ∧ Below w.heap.size w wr) (fun a b _ => (intOf b).toNat - (intOf a).toNat)
  case atStart => exact ⟨0, n, Nat.zero_le _, Nat.le_refl _, rfl, rfl, fun k s h => by omega, fun k s h1 h2 => by have := lt_of_getElem?_some h2; have := HN.out; omega, Below.refl _ _⟩
  case round =>
    obtain ⟨i, j, hij, hjn, rfl, rfl, hlo, hhi, hB⟩ := hrel
    have HLO := Lib.hid hlo
    have HHI := Lib.hid hhi
    clear hlo hhi
    by_cases hlt : i < j
    · obtain ⟨b, off, s, A', n', c', rfl, hs, _, _, c0, c1, c2⟩ := mp_at (i := (i + j) / 2) (HL.out.kept hB) (by omega)
      have HS := Lib.hid hs
      clear hs
      by_cases hcmp : s.src < c
      · have hz : cmpI s.src c < 0 := by unfold cmpI; rw [if_pos hcmp]; decide
        go_wp2_with (go_at_call 89; refine (once1_any _ _ _ _ _).mono ?_; rintro e w' ⟨rfl, hk2⟩)
        go_roundw
        case rel =>
          refine ⟨(i + j) / 2 + 1, j, by omega, hjn, by go_num, rfl, fun k t hk ht => ?_, HHI.out, Kept.trans hB hk2⟩
          rcases Nat.lt_or_ge k ((i + j) / 2) with h | h
          · have h1 := HO.out k _ t s h ht HS.out
            omega
          · obtain rfl : k = (i + j) / 2 := by omega
            have := HS.out
            rw [ht] at this
            injection this with this
            subst this
            exact hcmp
        case measure => simp [intOf]; omega
      · have hz : ¬ cmpI s.src c < 0 := by unfold cmpI; rw [if_neg hcmp]; split <;> decide
        go_wp2_with (go_at_call 89; refine (once1_any _ _ _ _ _).mono ?_; rintro e w' ⟨rfl, hk2⟩)
        go_roundw
        case rel =>
          refine ⟨i, (i + j) / 2, by omega, by omega, rfl, by go_num, HLO.out, fun k t hk ht => ?_, Kept.trans hB hk2⟩
          rcases Nat.lt_or_ge ((i + j) / 2) k with h | h
          · have h1 := HO.out _ k s t h HS.out ht
            omega
          · obtain rfl : k = (i + j) / 2 := by omega
            have := HS.out
            rw [ht] at this
            injection this with this
            subst this
            omega
        case measure => simp [intOf]; omega
    · obtain rfl : i = j := by omega
      by_cases hin : i < n
      · obtain ⟨b, off, s, A', n', c', rfl, hs, _, _, c0, c1, c2⟩ := mp_at (i := i) (HL.out.kept hB) (by omega)
        have HS := Lib.hid hs
        clear hs
        have hnot : ∀ (k : Nat) (t : Mp), l[k]? = some t → k ≠ i → ¬ t.src = c := fun k t ht hki => by
          rcases Nat.lt_or_gt_of_ne hki with h | h
          · have := HLO.out k t h ht; omega
          · have h0 := HO.out i k s t h HS.out ht
            have h1 := HHI.out i s (Nat.le_refl _) HS.out
            omega
        have HNOT := Lib.hid hnot
        clear hnot
        by_cases hz : cmpI s.src c = 0
        · have hz' : (cmpI s.src c == 0) = true := by simpa using hz
          have HZ := Lib.hid hz
          clear hz
          go_wp2_with (go_at_call 89; refine (once1_any _ _ _ _ _).mono ?_; rintro e w' ⟨rfl, hk2⟩)
          go_ret2
          refine ⟨i, true, rfl, Kept.trans hB hk2, by have := HN.out; omega, fun _ => ⟨s, HS.out, ?_⟩, fun h => by cases h⟩
          have := HZ.out
          unfold cmpI at this
          by_cases h1 : s.src < c
          · rw [if_pos h1] at this; omega
          · by_cases h2 : c < s.src
            · rw [if_neg h1, if_pos h2] at this; omega
            · omega
        · have hz' : (cmpI s.src c == 0) = false := by simpa using hz
          have HZ := Lib.hid hz
          clear hz
          go_wp2_with (go_at_call 89; refine (once1_any _ _ _ _ _).mono ?_; rintro e w' ⟨rfl, hk2⟩)
          go_ret2
          refine ⟨i, false, rfl, Kept.trans hB hk2, by have := HN.out; omega, (fun h => by cases h), fun _ t ht => ?_⟩
          obtain ⟨k, hk, e⟩ := List.getElem_of_mem ht
          have ht' : l[k]? = some t := by rw [List.getElem?_eq_getElem hk, e]
          by_cases hki : k = i
          · subst hki
            have := HS.out
            rw [ht'] at this
            injection this with this
            subst this
            intro hc
            exact HZ.out (by unfold cmpI; rw [if_neg (by omega), if_neg (by omega)])
          · exact HNOT.out k t ht' hki
      · go_wp2_with fail
        go_ret2
        refine ⟨i, false, rfl, hB, by have := HN.out; omega, (fun h => by cases h), fun _ t ht => ?_⟩
        obtain ⟨k, hk, e⟩ := List.getElem_of_mem ht
        have ht' : l[k]? = some t := by rw [List.getElem?_eq_getElem hk, e]
        have := HLO.out k t (by have := HN.out; omega) ht'
        omega

end Go.Proofs.YtdogaaepiddnoaaGreatDoor
