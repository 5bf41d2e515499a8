/- The data of normalization in memory; decompose.once. -/
import Derived.Test.YtdogaaepiddnoaaGreatDoorKDecA
namespace Go.Proofs.YtdogaaepiddnoaaGreatDoor
open Go Go.RowKit

/-- The three slices of the data. -/
structure Sls where
  Ac : Option Addr
  nc : Nat
  cc : Nat
  Am : Option Addr
  nm : Nat
  cm : Nat
  Ae : Option Addr
  ne : Nat
  ce : Nat
def Sls.val (s : Sls) : Value := .agg #[.slice s.Ac s.nc s.cc, .slice s.Am s.nm s.cm, .slice s.Ae s.ne s.ce]
structure NormAt (w : World) (s : Sls) (n : Nrm) : Prop where
  hc : s.nc ≤ s.cc
  hm : s.nm ≤ s.cm
  he : s.ne ≤ s.ce
  bc : s.nc ≤ 1000
  bm : s.nm ≤ 1000
  be : s.ne ≤ 1000
  cls : Spans w s.Ac s.nc n.classes
  dec : Mps w s.Am s.nm n.decomp
  exc : Rngs w s.Ae s.ne n.excl
  to : ∀ m ∈ n.decomp, m.to.length ≤ 1000
theorem NormAt.kept {w w' : World} {s : Sls} {n : Nrm} (h : NormAt w s n) (hk : Kept w w') : NormAt w' s n :=
  ⟨h.hc, h.hm, h.he, h.bc, h.bm, h.be, h.cls.kept hk, h.dec.kept hk, h.exc.kept hk, h.to⟩

def RetOnce (w : World) (r : Option (List Int)) (e : Ending) (w' : World) : Prop := Kept w w' ∧ match r with
  | none => e = .returned (.tuple #[.slice none 0 0, .bool false])
  | some xs => ∃ A n c, e = .returned (.tuple #[.slice A n c, .bool true]) ∧ n ≤ c ∧ Ints w' A n xs

set_option maxHeartbeats 1000000 in
theorem once_any (s : Sls) (n : Nrm) (c : Int) (compat : Bool) (w : World) (hN : NormAt w s n) (hs : MpSorted n.decomp) :
    Calls Tryz.prog 55 #[s.val, .int .i64 c, .bool compat] w (RetOnce w (onceOf n.decomp c compat)) := by
  unfold Sls.val
  have HS := Lib.hid hs
  have HN := Lib.hid hN
  have hbm := hN.bm
  clear hN hs
  by_cases hk : 4 ≤ kind c
  · have HO := Lib.hid (show onceOf n.decomp c compat = some (decompH c) from if_pos hk)
    go_enter Tryz.func55, Tryz.ntmps55
    go_wp2_with (first
      | (go_at_call 53; refine (kind_any _ _).mono ?_; rintro e w' ⟨rfl, rfl⟩)
      | (go_at_call 87; refine (hdecomp_any _ _).mono ?_; rintro e w' ⟨A, nn, cc, rfl, hle, hI, hk2⟩))
    go_ret2
    rw [HO.out]
    exact ⟨Kept.trans (Kept.alloc (Kept.refl _) _) hk2, A, nn, cc, rfl, hle, hI⟩
  · have hO : onceOf n.decomp c compat = mapOf n.decomp c compat := if_neg hk
    have HO := Lib.hid hO
    clear hO
    go_enter Tryz.func55, Tryz.ntmps55
    go_wp2_with (go_at_call 53; refine (kind_any _ _).mono ?_; rintro e w' ⟨rfl, rfl⟩)
    refine (bs_mp _ _ _ n.decomp _ _ (by omega) (HN.out.dec.kept (Kept.alloc (Kept.refl _) _)) HS.out).mono ?_
    rintro e w1 ⟨i, ok, rfl, hk1, hi, hyes, hno⟩
    have hbx := box_cell w #[Value.slice s.Ac s.nc s.cc, Value.slice s.Am s.nm s.cm, Value.slice s.Ae s.ne s.ce] 28
    have e1 := hk1.cell (hbx 1)
    clear hbx
    have hkw := Kept.trans (Kept.alloc (Kept.refl _) _) hk1
    cases ok
    · have HNO := Lib.hid (hno rfl)
      clear hno hyes
      go_wp2_with fail
      go_ret2
      rw [HO.out, mapOf_none HNO.out]
      exact ⟨hkw, rfl⟩
    · obtain ⟨m, hm, hc⟩ := hyes rfl
      have hin : i < s.nm := by have h1 := lt_of_getElem?_some hm; have h2 := HN.out.dec.1; omega
      obtain ⟨b, off, m', A', n', c', hA, hm', hle, hI, c0, c1, c2⟩ := mp_at (i := i) (HN.out.dec.kept hkw) hin
      have em : m' = m := by rw [hm] at hm'; injection hm' with h; exact h.symm
      subst em
      rw [hA] at e1 ⊢
      have HI := Lib.hid hI
      have HM := Lib.hid (mapOf_some (compat := compat) HS.out hm hc)
      clear hno hyes hm hm' hI hA hc
      cases ht : m'.tag.toList.isEmpty
      · have hte : ¬ m'.tag.toList = [] := by simpa using ht
        cases compat
        · go_wp2_with fail
          go_ret2
          rw [HO.out, HM.out, if_neg (by simp [plainTag, ht])]
          exact ⟨hkw, rfl⟩
        · go_wp2_with fail
          go_ret2
          rw [HO.out, HM.out, if_pos (by simp)]
          exact ⟨hkw, A', n', c', rfl, hle, HI.out⟩
      · have hte : m'.tag.toList = [] := by simpa using ht
        go_wp2_with fail
        go_ret2
        rw [HO.out, HM.out, if_pos (by simp [plainTag, ht])]
        exact ⟨hkw, A', n', c', rfl, hle, HI.out⟩
end Go.Proofs.YtdogaaepiddnoaaGreatDoor
