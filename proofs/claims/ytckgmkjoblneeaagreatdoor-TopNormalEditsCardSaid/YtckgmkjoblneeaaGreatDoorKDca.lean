/- decompose.once: the mapping of a number, found by a binary search. The data of normalization in memory; decompose.once. -/
import Derived.Test.YtckgmkjoblneeaaGreatDoorKOwn
import Derived.Test.YtckgmkjoblneeaaGreatDoorKPl
namespace Go.Proofs.YtckgmkjoblneeaaGreatDoor
open Go Go.RowKit
theorem once1_any (s : Mp) (v1 v2 : Value) (c : Int) (w : World) : Calls Tryz.prog 90 #[.agg #[.int .i64 s.src, v1, v2], .int .i64 c] w (RetI w (cmpI s.src c)) := by
  go_enter Tryz.func90, Tryz.ntmps90
  go_wp2_with (go_at_call 39; refine (cmp_any _ _ _).mono ?_; rintro e w' ⟨rfl, rfl⟩)
  go_ret
  exact ⟨rfl, Kept.alloc (Kept.refl _) _⟩
def BsMp (w : World) (l : List Mp) (c : Int) (e : Ending) (w' : World) : Prop :=
  ∃ (i : Nat) (ok : Bool), e = .returned (.tuple #[.int .i64 (i : Int), .bool ok]) ∧ Kept w w' ∧ i ≤ l.length ∧
    (ok = true → ∃ s, l[i]? = some s ∧ s.src = c) ∧ (ok = false → ∀ s ∈ l, ¬ s.src = c)
set_option maxRecDepth 100000 in
set_option maxHeartbeats 1000000 in
theorem bs_mp (A : Option Addr) (n cp : Nat) (l : List Mp) (c : Int) (w : World) (hn : n ≤ 100000) (hl : Mps w A n l) (hs : MpSorted l) :
    Calls Tryz.prog 89 #[.slice A n cp, .int .i64 c, .func (.func 90) #[] #[]] w (BsMp w l c) := by
  have HL := Lib.hid hl
  have HN := Lib.hid hl.1
  have HO := Lib.hid hs
  clear hl hs
  go_enter Tryz.func89, Tryz.ntmps89
  go_wp2
  go_loopw [9, 10] (fun a b wr => ∃ i j : Nat, i ≤ j ∧ j ≤ n ∧ a = .int .i64 i ∧ b = .int .i64 j ∧ (∀ k s, k < i → l[k]? = some s → s.src < c) ∧ (∀ k s, j ≤ k → l[k]? = some s → c ≤ s.src) ∧ Below w.heap.size w wr) (fun a b _ => (intOf b).toNat - (intOf a).toNat)
  case atStart => exact ⟨0, n, Nat.zero_le _, Nat.le_refl _, rfl, rfl, fun k s h => by omega, fun k s h1 h2 => by have := lt_of_getElem?_some h2; have := HN.out; omega, Below.refl _ _⟩
  case round =>
    obtain ⟨i, j, hij, hjn, rfl, rfl, hlo, hhi, hB⟩ := hrel
    have HLO := Lib.hid hlo
    have HHI := Lib.hid hhi
    clear hlo hhi
    by_cases hlt : i < j
    · obtain ⟨b, off, s, A', n', c', rfl, hs, _, _, c0, c1, c2⟩ := mp_at (i := (i + j) / 2) (HL.out.kept hB) (by omega)
      have HS := Lib.hid hs
      clear hs
      by_cases hcmp : s.src < c
      · have hz : cmpI s.src c < 0 := by unfold cmpI; rw [if_pos hcmp]; decide
        go_wp2_with (go_at_call 90; refine (once1_any _ _ _ _ _).mono ?_; rintro e w' ⟨rfl, hk2⟩)
        go_roundw
        case rel =>
          refine ⟨(i + j) / 2 + 1, j, by omega, hjn, by go_num, rfl, fun k t hk ht => ?_, HHI.out, Kept.trans hB hk2⟩
          rcases Nat.lt_or_ge k ((i + j) / 2) with h | h
          · have h1 := HO.out k _ t s h ht HS.out
            omega
          · obtain rfl : k = (i + j) / 2 := by omega
            have := HS.out
            rw [ht] at this
            injection this with this
            subst this
            exact hcmp
        case measure => simp [intOf]; omega
      · have hz : ¬ cmpI s.src c < 0 := by unfold cmpI; rw [if_neg hcmp]; split <;> decide
        go_wp2_with (go_at_call 90; refine (once1_any _ _ _ _ _).mono ?_; rintro e w' ⟨rfl, hk2⟩)
        go_roundw
        case rel =>
          refine ⟨i, (i + j) / 2, by omega, by omega, rfl, by go_num, HLO.out, fun k t hk ht => ?_, Kept.trans hB hk2⟩
          rcases Nat.lt_or_ge ((i + j) / 2) k with h | h
          · have h1 := HO.out _ k s t h HS.out ht
            omega
          · obtain rfl : k = (i + j) / 2 := by omega
            have := HS.out
            rw [ht] at this
            injection this with this
            subst this
            omega
        case measure => simp [intOf]; omega
    · obtain rfl : i = j := by omega
      by_cases hin : i < n
      · obtain ⟨b, off, s, A', n', c', rfl, hs, _, _, c0, c1, c2⟩ := mp_at (i := i) (HL.out.kept hB) (by omega)
        have HS := Lib.hid hs
        clear hs
        have hnot : ∀ (k : Nat) (t : Mp), l[k]? = some t → k ≠ i → ¬ t.src = c := fun k t ht hki => by
          rcases Nat.lt_or_gt_of_ne hki with h | h
          · have := HLO.out k t h ht; omega
          · have h0 := HO.out i k s t h HS.out ht
            have h1 := HHI.out i s (Nat.le_refl _) HS.out
            omega
        have HNOT := Lib.hid hnot
        clear hnot
        by_cases hz : cmpI s.src c = 0
        · have hz' : (cmpI s.src c == 0) = true := by simpa using hz
          have HZ := Lib.hid hz
          clear hz
          go_wp2_with (go_at_call 90; refine (once1_any _ _ _ _ _).mono ?_; rintro e w' ⟨rfl, hk2⟩)
          go_ret2
          refine ⟨i, true, rfl, Kept.trans hB hk2, by have := HN.out; omega, fun _ => ⟨s, HS.out, ?_⟩, fun h => by cases h⟩
          have := HZ.out
          unfold cmpI at this
          by_cases h1 : s.src < c
          · rw [if_pos h1] at this; omega
          · by_cases h2 : c < s.src
            · rw [if_neg h1, if_pos h2] at this; omega
            · omega
        · have hz' : (cmpI s.src c == 0) = false := by simpa using hz
          have HZ := Lib.hid hz
          clear hz
          go_wp2_with (go_at_call 90; refine (once1_any _ _ _ _ _).mono ?_; rintro e w' ⟨rfl, hk2⟩)
          go_ret2
          refine ⟨i, false, rfl, Kept.trans hB hk2, by have := HN.out; omega, (fun h => by cases h), fun _ t ht => ?_⟩
          obtain ⟨k, hk, e⟩ := List.getElem_of_mem ht
          have ht' : l[k]? = some t := by rw [List.getElem?_eq_getElem hk, e]
          by_cases hki : k = i
          · subst hki
            have := HS.out
            rw [ht'] at this
            injection this with this
            subst this
            intro hc
            exact HZ.out (by unfold cmpI; rw [if_neg (by omega), if_neg (by omega)])
          · exact HNOT.out k t ht' hki
      · go_wp2_with fail
        go_ret2
        refine ⟨i, false, rfl, hB, by have := HN.out; omega, (fun h => by cases h), fun _ t ht => ?_⟩
        obtain ⟨k, hk, e⟩ := List.getElem_of_mem ht
        have ht' : l[k]? = some t := by rw [List.getElem?_eq_getElem hk, e]
        have := HLO.out k t (by have := HN.out; omega) ht'
        omega
end Go.Proofs.YtckgmkjoblneeaaGreatDoor
namespace Go.Proofs.YtckgmkjoblneeaaGreatDoor
open Go Go.RowKit
structure Sls where
  Ac : Option Addr
  nc : Nat
  cc : Nat
  Am : Option Addr
  nm : Nat
  cm : Nat
  Ae : Option Addr
  ne : Nat
  ce : Nat
def Sls.val (s : Sls) : Value := .agg #[.slice s.Ac s.nc s.cc, .slice s.Am s.nm s.cm, .slice s.Ae s.ne s.ce]
structure NormAt (w : World) (s : Sls) (n : Nrm) : Prop where
  hc : s.nc ≤ s.cc
  hm : s.nm ≤ s.cm
  he : s.ne ≤ s.ce
  bc : s.nc ≤ 1000
  bm : s.nm ≤ 1000
  be : s.ne ≤ 1000
  cls : Spans w s.Ac s.nc n.classes
  dec : Mps w s.Am s.nm n.decomp
  exc : Rngs w s.Ae s.ne n.excl
  to : ∀ m ∈ n.decomp, m.to.length ≤ 1000
theorem NormAt.kept {w w' : World} {s : Sls} {n : Nrm} (h : NormAt w s n) (hk : Kept w w') : NormAt w' s n :=
  ⟨h.hc, h.hm, h.he, h.bc, h.bm, h.be, h.cls.kept hk, h.dec.kept hk, h.exc.kept hk, h.to⟩
def RetOnce (w : World) (r : Option (List Int)) (e : Ending) (w' : World) : Prop := Kept w w' ∧ match r with
  | none => e = .returned (.tuple #[.slice none 0 0, .bool false])
  | some xs => ∃ A n c, e = .returned (.tuple #[.slice A n c, .bool true]) ∧ n ≤ c ∧ Ints w' A n xs
set_option maxHeartbeats 1000000 in
theorem once_any (s : Sls) (n : Nrm) (c : Int) (compat : Bool) (w : World) (hN : NormAt w s n) (hs : MpSorted n.decomp) :
    Calls Tryz.prog 63 #[s.val, .int .i64 c, .bool compat] w (RetOnce w (onceOf n.decomp c compat)) := by
  unfold Sls.val
  have HS := Lib.hid hs
  have HN := Lib.hid hN
  have hbm := hN.bm
  clear hN hs
  by_cases hk : 4 ≤ kind c
  · have HO := Lib.hid (show onceOf n.decomp c compat = some (decompH c) from if_pos hk)
    go_enter Tryz.func63, Tryz.ntmps63
    go_wp2_with (first
      | (go_at_call 82; refine (kind_any _ _).mono ?_; rintro e w' ⟨rfl, rfl⟩)
      | (go_at_call 88; refine (hdecomp_any _ _).mono ?_; rintro e w' ⟨A, nn, cc, rfl, hle, hI, hk2⟩))
    go_ret2
    rw [HO.out]
    exact ⟨Kept.trans (Kept.alloc (Kept.refl _) _) hk2, A, nn, cc, rfl, hle, hI⟩
  · have hO : onceOf n.decomp c compat = mapOf n.decomp c compat := if_neg hk
    have HO := Lib.hid hO
    clear hO
    go_enter Tryz.func63, Tryz.ntmps63
    go_wp2_with (go_at_call 82; refine (kind_any _ _).mono ?_; rintro e w' ⟨rfl, rfl⟩)
    refine (bs_mp _ _ _ n.decomp _ _ (by omega) (HN.out.dec.kept (Kept.alloc (Kept.refl _) _)) HS.out).mono ?_
    rintro e w1 ⟨i, ok, rfl, hk1, hi, hyes, hno⟩
    have hbx := box_cell w #[Value.slice s.Ac s.nc s.cc, Value.slice s.Am s.nm s.cm, Value.slice s.Ae s.ne s.ce] 28
    have e1 := hk1.cell (hbx 1)
    clear hbx
    have hkw := Kept.trans (Kept.alloc (Kept.refl _) _) hk1
    cases ok
    · have HNO := Lib.hid (hno rfl)
      clear hno hyes
      go_wp2_with fail
      go_ret2
      rw [HO.out, mapOf_none HNO.out]
      exact ⟨hkw, rfl⟩
    · obtain ⟨m, hm, hc⟩ := hyes rfl
      have hin : i < s.nm := by have h1 := lt_of_getElem?_some hm; have h2 := HN.out.dec.1; omega
      obtain ⟨b, off, m', A', n', c', hA, hm', hle, hI, c0, c1, c2⟩ := mp_at (i := i) (HN.out.dec.kept hkw) hin
      have em : m' = m := by rw [hm] at hm'; injection hm' with h; exact h.symm
      subst em
      rw [hA] at e1 ⊢
      have HI := Lib.hid hI
      have HM := Lib.hid (mapOf_some (compat := compat) HS.out hm hc)
      clear hno hyes hm hm' hI hA hc
      cases ht : m'.tag.toList.isEmpty
      · have hte : ¬ m'.tag.toList = [] := by simpa using ht
        cases compat
        · go_wp2_with fail
          go_ret2
          rw [HO.out, HM.out, if_neg (by simp [plainTag, ht])]
          exact ⟨hkw, rfl⟩
        · go_wp2_with fail
          go_ret2
          rw [HO.out, HM.out, if_pos (by simp)]
          exact ⟨hkw, A', n', c', rfl, hle, HI.out⟩
      · have hte : m'.tag.toList = [] := by simpa using ht
        go_wp2_with fail
        go_ret2
        rw [HO.out, HM.out, if_pos (by simp [plainTag, ht])]
        exact ⟨hkw, A', n', c', rfl, hle, HI.out⟩
end Go.Proofs.YtckgmkjoblneeaaGreatDoor
