/- slices.stableCmpFunc and SortStableFunc at numbers. -/
import Derived.Test.YtdogaaepiddnoaaDoorKSrtF
import Derived.Test.YtdogaaepiddnoaaDoorKSta
namespace Go.Proofs.YtdogaaepiddnoaaDoor
open Go Go.RowKit

/-- Sorted blocks of k elements. -/
def Blocks (cls : Int → Int) (k : Nat) (Ls : List (List Int)) : Prop := ∀ L ∈ Ls, L.length = k ∧ Srt cls L
theorem Blocks.length {cls : Int → Int} {k : Nat} : ∀ {Ls : List (List Int)}, Blocks cls k Ls → Ls.flatten.length = Ls.length * k
  | [], _ => by simp
  | L :: Ls, h => by
    have h1 := (h L (List.mem_cons_self ..)).1
    have h2 := Blocks.length (Ls := Ls) (fun x hx => h x (List.mem_cons_of_mem _ hx))
    rw [List.flatten_cons, List.length_append, h1, h2, List.length_cons, Nat.add_mul]; omega
theorem Blocks.snoc {cls : Int → Int} {k : Nat} {Ls : List (List Int)} {S : List Int} (h : Blocks cls k Ls) (h1 : S.length = k) (h2 : Srt cls S) : Blocks cls k (Ls ++ [S]) := fun L hL => by
  rcases List.mem_append.1 hL with hL | hL
  · exact h L hL
  · rw [List.mem_singleton.1 hL]; exact ⟨h1, h2⟩

set_option maxRecDepth 100000 in
set_option maxHeartbeats 4000000 in
theorem stable_any (g off cp n : Nat) (pre post : List Value) (xs : List Int) (bl B0 : Nat) (cls : Int → Int) (w : World) (hn : n = xs.length) (hn2 : n ≤ 1000000)
    (hseg : Seg w g off pre post xs) (hc : CmpOk bl B0 w cls) (hB : B0 ≤ g) (hBw : B0 ≤ w.heap.size) :
    Calls Tryd.prog 63 #[.slice (some ⟨g, off, none⟩) n cp, .int .i64 n, .func (.func 48) #[] #[.pointer (some ⟨bl, 0, none⟩)]] w
      (SegPost g off pre post w fun ys => ys = stab cls xs) := by
  have HN := Lib.hid hn
  have HSEG := Lib.hid hseg
  have HC := Lib.hid hc
  clear hn hseg hc
  go_enter Tryd.func63, Tryd.ntmps63
  go_wp2
  go_loopw [7, 8] (fun va vb wr => ∃ (a : Nat) (Ls : List (List Int)) (E : List Int), va = .int .i64 a ∧ vb = .int .i64 (a + 20) ∧ Ls.flatten.length = a ∧ Blocks cls 20 Ls ∧ Keep cls xs (Ls.flatten ++ E) ∧ a + E.length = n ∧ Seg wr g off pre post (Ls.flatten ++ E) ∧ KeptOut g w wr) (fun va _ _ => n - (intOf va).toNat)
  case atStart => exact ⟨0, [], xs, rfl, rfl, rfl, fun L hL => by simp at hL, Keep.refl _, by have := HN.out; omega, HSEG.out, KeptBut.refl _ _⟩
  case round =>
    obtain ⟨a, Ls, E, rfl, rfl, ha, hbl, hkp, hle, hsg, hko⟩ := hrel
    have HA := Lib.hid ha
    have HBL := Lib.hid hbl
    have HKP := Lib.hid hkp
    have HLE := Lib.hid hle
    have HSG := Lib.hid hsg
    have HCW := Lib.hid (HC.out.later (KeptOut.below hko hB hBw))
    have hBr : B0 ≤ wr.heap.size := Nat.le_trans hBw hko.size
    have han : a ≤ n := by omega
    clear ha hbl hkp hle hsg
    by_cases hlt : a + 20 ≤ n
    · obtain ⟨S, E1, hE, hS⟩ := split_at (xs := E) (i := 20) (by have := HLE.out; omega)
      have HE := Lib.hid hE
      have HS := Lib.hid hS
      have HINS := Lib.hid (insertion_any g off cp n a (a + 20) pre post Ls.flatten S E1 bl B0 cls wr (by have h1 := HLE.out; rw [hE, List.length_append] at h1; rw [List.length_append, List.length_append]; have := HA.out; omega) hn2 HA.out.symm (by rw [hS]; have := HA.out; omega) (by have := HSG.out; rw [hE] at this; simpa using this) HCW.out hB hBr)
      rw [show ((a + 20 : Nat) : Int) = (a : Int) + 20 by omega] at HINS
      have hcond : (a : Int) + 20 ≤ (n : Int) := by omega
      clear hE hS
      go_wp2_with fail
      refine HINS.out.mono ?_
      rintro e w2 ⟨rfl, hk2, ys, hs2, S2, hy, hl2, hkp2, hst2⟩
      have HS2 := Lib.hid hs2
      have HY := Lib.hid hy
      have HL2 := Lib.hid hl2
      have HKP2 := Lib.hid hkp2
      have HST2 := Lib.hid hst2
      clear hs2 hy hl2 hkp2 hst2 hcond
      go_wp2_with fail
      go_roundw
      case rel =>
        refine ⟨a + 20, Ls ++ [S2], E1, by go_num, by go_num, ?_, HBL.out.snoc (by rw [HL2.out]; exact HS.out) HST2.out, ?_, ?_, ?_, hko.trans hk2⟩
        · rw [List.flatten_append, List.length_append, HA.out]; simp [HL2.out, HS.out]
        · refine HKP.out.trans ?_
          rw [HE.out]
          have := Keep.append (Keep.refl (cls := cls) Ls.flatten) (Keep.append HKP2.out (Keep.refl E1))
          simpa using this
        · have h1 := HLE.out; rw [HE.out, List.length_append, HS.out] at h1; omega
        · have := HS2.out; rw [HY.out] at this; simpa using this
      case measure => simp [intOf]; omega
    · have HINS := Lib.hid (insertion_any g off cp n a n pre post Ls.flatten E [] bl B0 cls wr (by rw [List.length_append, List.length_append, List.length_nil]; have := HA.out; have := HLE.out; omega) hn2 HA.out.symm (by have := HA.out; have := HLE.out; omega) (by have := HSG.out; simpa using this) HCW.out hB hBr)
      have hcond : ¬ (a : Int) + 20 ≤ (n : Int) := by omega
      go_wp2_with fail
      refine HINS.out.mono ?_
      rintro e w2 ⟨rfl, hk2, ys, hs2, E2, hy, hl2, hkp2, hst2⟩
      have HS2 := Lib.hid (show Seg w2 g off pre post (Ls.flatten ++ E2) by rw [hy] at hs2; simpa using hs2)
      have HL2 := Lib.hid (show Ls.flatten.length + E2.length = n ∧ E2.length < 20 by rw [hl2]; have := HA.out; have := HLE.out; omega)
      have HKP2 := Lib.hid (show Keep cls xs (Ls.flatten ++ E2) from HKP.out.trans (Keep.append (Keep.refl _) hkp2))
      have HST2 := Lib.hid hst2
      have hko2 := hko.trans hk2
      clear hs2 hy hl2 hkp2 hst2 hcond hlt
      go_wp2_with fail
      obtain ⟨w1, rfl⟩ : ∃ w1 : World, w1 = w2 := ⟨_, rfl⟩
      go_loopw [6] (fun vk wr => ∃ (k : Nat) (Ls : List (List Int)) (E : List Int), vk = .int .i64 k ∧ 20 ≤ k ∧ k ≤ 2000000 ∧ Blocks cls k Ls ∧ Keep cls xs (Ls.flatten ++ E) ∧ Ls.flatten.length + E.length = n ∧ E.length < k ∧ Srt cls E ∧ Seg wr g off pre post (Ls.flatten ++ E) ∧ KeptOut g w wr) (fun vk _ => n - (intOf vk).toNat)
      case atStart => exact ⟨20, Ls, E2, rfl, Nat.le_refl _, by omega, HBL.out, HKP2.out, HL2.out.1, HL2.out.2, HST2.out, HS2.out, hko2⟩
      case round =>
        obtain ⟨k, Ls, E, rfl, hk1, hk2b, hbl, hkp, hle, hek, hsE, hsg, hko⟩ := hrel
        have HBL := Lib.hid hbl
        have HKP := Lib.hid hkp
        have HLE := Lib.hid hle
        have HSE := Lib.hid hsE
        have HSG := Lib.hid hsg
        have HBLL := Lib.hid hbl.length
        clear hbl hkp hle hsE hsg
        by_cases hlt : k < n
        · go_wp2_with fail
          obtain ⟨w3, rfl⟩ : ∃ w3 : World, w3 = wr := ⟨_, rfl⟩
          go_loopw [7, 8] (fun va vb wr => ∃ (a : Nat) (Ds Ls : List (List Int)), va = .int .i64 a ∧ vb = .int .i64 ((a : Int) + 2 * (k : Int)) ∧ Ds.flatten.length = a ∧ Blocks cls (2 * k) Ds ∧ Blocks cls k Ls ∧ Keep cls xs (Ds.flatten ++ (Ls.flatten ++ E)) ∧ a + Ls.flatten.length + E.length = n ∧ Seg wr g off pre post (Ds.flatten ++ (Ls.flatten ++ E)) ∧ KeptOut g w wr) (fun va _ _ => n - (intOf va).toNat)
          case atStart => exact ⟨0, [], Ls, rfl, by simp, rfl, fun L hL => by simp at hL, HBL.out, HKP.out, by have := HLE.out; omega, HSG.out, hko⟩
          case round =>
            obtain ⟨a, Ds, Ls, rfl, rfl, ha, hds, hbl, hkp, hle, hsg, hko⟩ := hrel
            have HA := Lib.hid ha
            have HDS := Lib.hid hds
            have HBL := Lib.hid hbl
            have HKP := Lib.hid hkp
            have HLE := Lib.hid hle
            have HSG := Lib.hid hsg
            have HBLL := Lib.hid hbl.length
            have HCW := Lib.hid (HC.out.later (KeptOut.below hko hB hBw))
            have hBr : B0 ≤ wr.heap.size := Nat.le_trans hBw hko.size
            have han : a ≤ n := by omega
            clear ha hds hbl hkp hle hsg
            by_cases hlt2 : a + 2 * k ≤ n
            · have hlt2z : (a : Int) + 2 * (k : Int) ≤ (n : Int) := by omega
              obtain ⟨L1, L2, Ls2, hLs⟩ : ∃ L1 L2 Ls2, Ls = L1 :: L2 :: Ls2 := by
                cases Ls with
                | nil => have := HLE.out; rw [List.flatten_nil, List.length_nil] at this; omega
                | cons L1 Ls1 =>
                  cases Ls1 with
                  | nil => have h1 := HLE.out; have h2 := (HBL.out L1 (by simp)).1; rw [List.flatten_cons, List.length_append, List.flatten_nil, List.length_nil] at h1; omega
                  | cons L2 Ls2 => exact ⟨L1, L2, Ls2, rfl⟩
              subst hLs
              have h1 := HBL.out L1 (by simp)
              have h2 := HBL.out L2 (by simp)
              have hlen : a + k + k + Ls2.flatten.length + E.length = n := by have := HLE.out; rw [List.flatten_cons, List.flatten_cons, List.length_append, List.length_append, h1.1, h2.1] at this; omega
              have HM := Lib.hid (symMerge_any g off cp n pre post bl B0 cls hn2 hB (k + k) Ds.flatten L1 L2 (Ls2.flatten ++ E) a ((a : Int) + (k : Int)) ((a : Int) + 2 * (k : Int)) wr (by rw [h1.1, h2.1]; exact Nat.le_refl _) (by rw [List.length_append, List.length_append, List.length_append, List.length_append, h1.1, h2.1, HA.out]; omega) (by rw [h1.1]; omega) (by rw [h2.1]; omega) (by rw [HA.out]) (by rw [List.length_append, HA.out, h1.1]; omega) (by rw [List.length_append, List.length_append, HA.out, h1.1, h2.1]; omega) h1.2 h2.2 (by have := HSG.out; simpa using this) HCW.out hBr)
              have HL12 := Lib.hid (show L1.length = k ∧ L2.length = k from ⟨h1.1, h2.1⟩)
              have HLEN := Lib.hid hlen
              clear h1 h2 hlen
              go_wp2_with fail
              refine HM.out.mono ?_
              rintro e w4 ⟨rfl, hk4, ys, hs4, S1, hy, hl1, hkp1, hst1⟩
              have HS4 := Lib.hid hs4
              have HY4 := Lib.hid hy
              have HL4 := Lib.hid hl1
              have HKP1 := Lib.hid hkp1
              have HST := Lib.hid hst1
              clear hs4 hy hl1 hkp1 hst1
              go_wp2_with fail
              go_roundw
              case rel =>
                have hS1 : S1.length = 2 * k := by rw [HL4.out, HL12.out.1, HL12.out.2]; omega
                refine ⟨a + 2 * k, Ds ++ [S1], Ls2, by congr 1 <;> omega, by congr 1 <;> omega, ?_, HDS.out.snoc hS1 HST.out, fun L hL => HBL.out L (by simp [hL]), ?_, ?_, ?_, hko.trans hk4⟩
                · rw [List.flatten_append, List.length_append, HA.out]; simp [hS1]
                · refine HKP.out.trans ?_
                  have := Keep.append (Keep.refl (cls := cls) Ds.flatten) (Keep.append HKP1.out (Keep.refl (Ls2.flatten ++ E)))
                  simpa using this
                · have := HLEN.out; omega
                · have := HS4.out; rw [HY4.out] at this; simpa using this
              case measure => simp [intOf]; omega
            · have hlt2z : ¬ (a : Int) + 2 * (k : Int) ≤ (n : Int) := by omega
              by_cases hm : a + k < n
              · obtain ⟨L1, hLs⟩ : ∃ L1, Ls = [L1] := by
                  cases Ls with
                  | nil => have := HLE.out; rw [List.flatten_nil, List.length_nil] at this; omega
                  | cons L1 Ls1 =>
                    cases Ls1 with
                    | nil => exact ⟨L1, rfl⟩
                    | cons L2 Ls2 => have h1 := HLE.out; have h2 := (HBL.out L1 (by simp)).1; have h3 := (HBL.out L2 (by simp)).1; rw [List.flatten_cons, List.flatten_cons, List.length_append, List.length_append] at h1; omega
                subst hLs
                have h1 := HBL.out L1 (by simp)
                have hlen : a + k + E.length = n := by have := HLE.out; rw [List.flatten_cons, List.length_append, h1.1, List.flatten_nil, List.length_nil] at this; omega
                have HM := Lib.hid (symMerge_any g off cp n pre post bl B0 cls hn2 hB (k + E.length) Ds.flatten L1 E [] a ((a : Int) + (k : Int)) n wr (by rw [h1.1]; exact Nat.le_refl _) (by rw [List.length_append, List.length_append, List.length_append, h1.1, HA.out]; simp; omega) (by rw [h1.1]; omega) (by omega) (by rw [HA.out]) (by rw [List.length_append, HA.out, h1.1]; omega) (by rw [List.length_append, List.length_append, HA.out, h1.1]; omega) h1.2 HSE.out (by have := HSG.out; simpa using this) HCW.out hBr)
                have HL1 := Lib.hid h1.1
                have HLEN := Lib.hid hlen
                have hmz : (a : Int) + (k : Int) < (n : Int) := by omega
                clear h1 hlen
                go_wp2_with fail
                refine HM.out.mono ?_
                rintro e w4 ⟨rfl, hk4, ys, hs4, S1, hy, hl1, hkp1, hst1⟩
                have HS4 := Lib.hid hs4
                have HY4 := Lib.hid hy
                have HL4 := Lib.hid hl1
                have HKP1 := Lib.hid hkp1
                have HST := Lib.hid hst1
                clear hs4 hy hl1 hkp1 hst1 hmz
                go_wp2_with fail
                go_roundw
                case rel =>
                  refine ⟨2 * k, Ds, S1, by congr 1; omega, by omega, by omega, HDS.out, ?_, ?_, ?_, HST.out, ?_, hko.trans hk4⟩
                  · refine HKP.out.trans ?_
                    have := Keep.append (Keep.refl (cls := cls) Ds.flatten) HKP1.out
                    simpa using this
                  · rw [HL4.out, HA.out, HL1.out]; have := HLEN.out; omega
                  · rw [HL4.out, HL1.out]; omega
                  · have := HS4.out; rw [HY4.out] at this; simpa using this
                case measure => simp [intOf]; omega
              · have hmz : ¬ (a : Int) + (k : Int) < (n : Int) := by omega
                have HE := Lib.hid (show Srt cls (Ls.flatten ++ E) ∧ (Ls.flatten ++ E).length < 2 * k by
                  cases Ls with
                  | nil => exact ⟨by simpa using HSE.out, by simp; omega⟩
                  | cons L1 Ls1 =>
                    have h2 := HBL.out L1 (by simp)
                    have hE : Ls1.flatten ++ E = [] := List.length_eq_zero_iff.1 (by have h1 := HLE.out; rw [List.flatten_cons, List.length_append, h2.1] at h1; rw [List.length_append]; omega)
                    rw [List.flatten_cons, List.append_assoc, hE, List.append_nil]
                    exact ⟨h2.2, by rw [h2.1]; omega⟩)
                go_wp2_with fail
                go_roundw
                case rel => exact ⟨2 * k, Ds, Ls.flatten ++ E, by congr 1; omega, by omega, by omega, HDS.out, HKP.out, by rw [List.length_append, HA.out]; have := HLE.out; omega, HE.out.2, HE.out.1, HSG.out, hko⟩
                case measure => simp [intOf]; omega
        · have HE := Lib.hid (show Srt cls (Ls.flatten ++ E) by
            cases Ls with
            | nil => simpa using HSE.out
            | cons L1 Ls1 =>
              have h2 := HBL.out L1 (by simp)
              have hE : Ls1.flatten ++ E = [] := List.length_eq_zero_iff.1 (by have h1 := HLE.out; rw [List.flatten_cons, List.length_append, h2.1] at h1; rw [List.length_append]; omega)
              rw [List.flatten_cons, List.append_assoc, hE, List.append_nil]
              exact h2.2)
          go_wp2_with fail
          go_end0
          exact ⟨rfl, hko, _, HSG.out, stab_eq HE.out HKP.out⟩

theorem sortStable_any (g off cp n : Nat) (pre post : List Value) (xs : List Int) (bl B0 : Nat) (cls : Int → Int) (w : World) (hn : n = xs.length) (hn2 : n ≤ 1000000)
    (hseg : Seg w g off pre post xs) (hc : CmpOk bl B0 w cls) (hB : B0 ≤ g) (hBw : B0 ≤ w.heap.size) :
    Calls Tryd.prog 47 #[.slice (some ⟨g, off, none⟩) n cp, .func (.func 48) #[] #[.pointer (some ⟨bl, 0, none⟩)]] w
      (SegPost g off pre post w fun ys => ys = stab cls xs) := by
  have HC := Lib.hid (stable_any g off cp n pre post xs bl B0 cls w hn hn2 hseg hc hB hBw)
  clear hn hseg hc
  go_enter Tryd.func47, Tryd.ntmps47
  go_wp2_with fail
  refine HC.out.mono ?_
  rintro e w2 ⟨rfl, hk2, ys, hs2, hy⟩
  have HS2 := Lib.hid hs2
  have HY := Lib.hid hy
  clear hs2 hy
  go_wp2_with fail
  go_end0
  exact ⟨rfl, hk2, ys, HS2.out, HY.out⟩
end Go.Proofs.YtdogaaepiddnoaaDoor
