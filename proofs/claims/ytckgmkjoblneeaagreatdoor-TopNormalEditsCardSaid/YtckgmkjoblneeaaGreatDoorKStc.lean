/- slices.stableCmpFunc and SortStableFunc at numbers. slices.Clone of numbers; ordering.Sort's comparing function. ordering.Sort. -/
import Derived.Lib.SliceRun
import Derived.Test.YtckgmkjoblneeaaGreatDoorKSrtF
import Derived.Test.YtckgmkjoblneeaaGreatDoorKSta
import Derived.Test.YtckgmkjoblneeaaGreatDoorKSqx
import Derived.Test.YtckgmkjoblneeaaGreatDoorKApp
import Derived.Test.YtckgmkjoblneeaaGreatDoorKPq
import Derived.Test.YtckgmkjoblneeaaGreatDoorKSq
namespace Go.Proofs.YtckgmkjoblneeaaGreatDoor
open Go Go.RowKit
def Blocks (cls : Int → Int) (k : Nat) (Ls : List (List Int)) : Prop := ∀ L ∈ Ls, L.length = k ∧ Srt cls L
theorem Blocks.length {cls : Int → Int} {k : Nat} : ∀ {Ls : List (List Int)}, Blocks cls k Ls → Ls.flatten.length = Ls.length * k
  | [], _ => by simp
  | L :: Ls, h => by
    have h1 := (h L (List.mem_cons_self ..)).1
    have h2 := Blocks.length (Ls := Ls) (fun x hx => h x (List.mem_cons_of_mem _ hx))
    rw [List.flatten_cons, List.length_append, h1, h2, List.length_cons, Nat.add_mul]; omega
theorem Blocks.snoc {cls : Int → Int} {k : Nat} {Ls : List (List Int)} {S : List Int} (h : Blocks cls k Ls) (h1 : S.length = k) (h2 : Srt cls S) : Blocks cls k (Ls ++ [S]) := fun L hL => by
  rcases List.mem_append.1 hL with hL | hL
  · exact h L hL
  · rw [List.mem_singleton.1 hL]; exact ⟨h1, h2⟩
set_option maxRecDepth 100000 in
set_option maxHeartbeats 4000000 in
theorem stable_any (g off cp n : Nat) (pre post : List Value) (xs : List Int) (bl B0 : Nat) (cls : Int → Int) (w : World) (hn : n = xs.length) (hn2 : n ≤ 100000000)
    (hseg : Seg w g off pre post xs) (hc : CmpOk bl B0 w cls) (hB : B0 ≤ g) (hBw : B0 ≤ w.heap.size) :
    Calls Tryz.prog 92 #[.slice (some ⟨g, off, none⟩) n cp, .int .i64 n, .func (.func 67) #[] #[.pointer (some ⟨bl, 0, none⟩)]] w
      (SegPost g off pre post w fun ys => ys = stab cls xs) := by
  have HN := Lib.hid hn
  have HSEG := Lib.hid hseg
  have HC := Lib.hid hc
  clear hn hseg hc
  go_enter Tryz.func92, Tryz.ntmps92
  go_wp2
  go_loopw [7, 8] (fun va vb wr => ∃ (a : Nat) (Ls : List (List Int)) (E : List Int), va = .int .i64 a ∧ vb = .int .i64 (a + 20) ∧ Ls.flatten.length = a ∧ Blocks cls 20 Ls ∧ Keep cls xs (Ls.flatten ++ E) ∧ a + E.length = n ∧ Seg wr g off pre post (Ls.flatten ++ E) ∧ KeptOut g w wr) (fun va _ _ => n - (intOf va).toNat)
  case atStart => exact ⟨0, [], xs, rfl, rfl, rfl, fun L hL => by simp at hL, Keep.refl _, by have := HN.out; omega, HSEG.out, KeptBut.refl _ _⟩
  case round =>
    obtain ⟨a, Ls, E, rfl, rfl, ha, hbl, hkp, hle, hsg, hko⟩ := hrel
    have HA := Lib.hid ha
    have HBL := Lib.hid hbl
    have HKP := Lib.hid hkp
    have HLE := Lib.hid hle
    have HSG := Lib.hid hsg
    have HCW := Lib.hid (HC.out.later (KeptOut.below hko hB hBw))
    have hBr : B0 ≤ wr.heap.size := Nat.le_trans hBw hko.size
    have han : a ≤ n := by omega
    clear ha hbl hkp hle hsg
    by_cases hlt : a + 20 ≤ n
    · obtain ⟨S, E1, hE, hS⟩ := split_at (xs := E) (i := 20) (by have := HLE.out; omega)
      have HE := Lib.hid hE
      have HS := Lib.hid hS
      have HINS := Lib.hid (insertion_any g off cp n a (a + 20) pre post Ls.flatten S E1 bl B0 cls wr (by have h1 := HLE.out; rw [hE, List.length_append] at h1; rw [List.length_append, List.length_append]; have := HA.out; omega) hn2 HA.out.symm (by rw [hS]; have := HA.out; omega) (by have := HSG.out; rw [hE] at this; simpa using this) HCW.out hB hBr)
      rw [show ((a + 20 : Nat) : Int) = (a : Int) + 20 by omega] at HINS
      have hcond : (a : Int) + 20 ≤ (n : Int) := by omega
      clear hE hS
      go_wp2_with fail
      refine HINS.out.mono ?_
      rintro e w2 ⟨rfl, hk2, ys, hs2, S2, hy, hl2, hkp2, hst2⟩
      have HS2 := Lib.hid hs2
      have HY := Lib.hid hy
      have HL2 := Lib.hid hl2
      have HKP2 := Lib.hid hkp2
      have HST2 := Lib.hid hst2
      clear hs2 hy hl2 hkp2 hst2 hcond
      go_wp2_with fail
      go_roundw
      case rel =>
        refine ⟨a + 20, Ls ++ [S2], E1, by go_num, by go_num, ?_, HBL.out.snoc (by rw [HL2.out]; exact HS.out) HST2.out, ?_, ?_, ?_, hko.trans hk2⟩
        · rw [List.flatten_append, List.length_append, HA.out]; simp [HL2.out, HS.out]
        · refine HKP.out.trans ?_
          rw [HE.out]
          have := Keep.append (Keep.refl (cls := cls) Ls.flatten) (Keep.append HKP2.out (Keep.refl E1))
          simpa using this
        · have h1 := HLE.out; rw [HE.out, List.length_append, HS.out] at h1; omega
        · have := HS2.out; rw [HY.out] at this; simpa using this
      case measure => simp [intOf]; omega
    · have HINS := Lib.hid (insertion_any g off cp n a n pre post Ls.flatten E [] bl B0 cls wr (by rw [List.length_append, List.length_append, List.length_nil]; have := HA.out; have := HLE.out; omega) hn2 HA.out.symm (by have := HA.out; have := HLE.out; omega) (by have := HSG.out; simpa using this) HCW.out hB hBr)
      have hcond : ¬ (a : Int) + 20 ≤ (n : Int) := by omega
      go_wp2_with fail
      refine HINS.out.mono ?_
      rintro e w2 ⟨rfl, hk2, ys, hs2, E2, hy, hl2, hkp2, hst2⟩
      have HS2 := Lib.hid (show Seg w2 g off pre post (Ls.flatten ++ E2) by rw [hy] at hs2; simpa using hs2)
      have HL2 := Lib.hid (show Ls.flatten.length + E2.length = n ∧ E2.length < 20 by rw [hl2]; have := HA.out; have := HLE.out; omega)
      have HKP2 := Lib.hid (show Keep cls xs (Ls.flatten ++ E2) from HKP.out.trans (Keep.append (Keep.refl _) hkp2))
      have HST2 := Lib.hid hst2
      have hko2 := hko.trans hk2
      clear hs2 hy hl2 hkp2 hst2 hcond hlt
      go_wp2_with fail
      obtain ⟨w1, rfl⟩ : ∃ w1 : World, w1 = w2 := ⟨_, rfl⟩
      go_loopw [6] (fun vk wr => ∃ (k : Nat) (Ls : List (List Int)) (E : List Int), vk = .int .i64 k ∧ 20 ≤ k ∧ k ≤ 200000000 ∧ Blocks cls k Ls ∧ Keep cls xs (Ls.flatten ++ E) ∧ Ls.flatten.length + E.length = n ∧ E.length < k ∧ Srt cls E ∧ Seg wr g off pre post (Ls.flatten ++ E) ∧ KeptOut g w wr) (fun vk _ => n - (intOf vk).toNat)
      case atStart => exact ⟨20, Ls, E2, rfl, Nat.le_refl _, by omega, HBL.out, HKP2.out, HL2.out.1, HL2.out.2, HST2.out, HS2.out, hko2⟩
      case round =>
        obtain ⟨k, Ls, E, rfl, hk1, hk2b, hbl, hkp, hle, hek, hsE, hsg, hko⟩ := hrel
        have HBL := Lib.hid hbl
        have HKP := Lib.hid hkp
        have HLE := Lib.hid hle
        have HSE := Lib.hid hsE
        have HSG := Lib.hid hsg
        have HBLL := Lib.hid hbl.length
        clear hbl hkp hle hsE hsg
        by_cases hlt : k < n
        · go_wp2_with fail
          obtain ⟨w3, rfl⟩ : ∃ w3 : World, w3 = wr := ⟨_, rfl⟩
          go_loopw [7, 8] (fun va vb wr => ∃ (a : Nat) (Ds Ls : List (List Int)), va = .int .i64 a ∧ vb = .int .i64 ((a : Int) + 2 * (k : Int)) ∧ Ds.flatten.length = a ∧ Blocks cls (2 * k) Ds ∧ Blocks cls k Ls ∧ Keep cls xs (Ds.flatten ++ (Ls.flatten ++ E)) ∧ a + Ls.flatten.length + E.length = n ∧ Seg wr g off pre post (Ds.flatten ++ (Ls.flatten ++ E)) ∧ KeptOut g w wr) (fun va _ _ => n - (intOf va).toNat)
          case atStart => exact ⟨0, [], Ls, rfl, by simp, rfl, fun L hL => by simp at hL, HBL.out, HKP.out, by have := HLE.out; omega, HSG.out, hko⟩
          case round =>
            obtain ⟨a, Ds, Ls, rfl, rfl, ha, hds, hbl, hkp, hle, hsg, hko⟩ := hrel
            have HA := Lib.hid ha
            have HDS := Lib.hid hds
            have HBL := Lib.hid hbl
            have HKP := Lib.hid hkp
            have HLE := Lib.hid hle
            have HSG := Lib.hid hsg
            have HBLL := Lib.hid hbl.length
            have HCW := Lib.hid (HC.out.later (KeptOut.below hko hB hBw))
            have hBr : B0 ≤ wr.heap.size := Nat.le_trans hBw hko.size
            have han : a ≤ n := by omega
            clear ha hds hbl hkp hle hsg
            by_cases hlt2 : a + 2 * k ≤ n
            · have hlt2z : (a : Int) + 2 * (k : Int) ≤ (n : Int) := by omega
              obtain ⟨L1, L2, Ls2, hLs⟩ : ∃ L1 L2 Ls2, Ls = L1 :: L2 :: Ls2 := by
                cases Ls with
                | nil => have := HLE.out; rw [List.flatten_nil, List.length_nil] at this; omega
                | cons L1 Ls1 =>
                  cases Ls1 with
                  | nil => have h1 := HLE.out; have h2 := (HBL.out L1 (by simp)).1; rw [List.flatten_cons, List.length_append, List.flatten_nil, List.length_nil] at h1; omega
                  | cons L2 Ls2 => exact ⟨L1, L2, Ls2, rfl⟩
              subst hLs
              have h1 := HBL.out L1 (by simp)
              have h2 := HBL.out L2 (by simp)
              have hlen : a + k + k + Ls2.flatten.length + E.length = n := by have := HLE.out; rw [List.flatten_cons, List.flatten_cons, List.length_append, List.length_append, h1.1, h2.1] at this; omega
              have HM := Lib.hid (symMerge_any g off cp n pre post bl B0 cls hn2 hB (k + k) Ds.flatten L1 L2 (Ls2.flatten ++ E) a ((a : Int) + (k : Int)) ((a : Int) + 2 * (k : Int)) wr (by rw [h1.1, h2.1]; exact Nat.le_refl _) (by rw [List.length_append, List.length_append, List.length_append, List.length_append, h1.1, h2.1, HA.out]; omega) (by rw [h1.1]; omega) (by rw [h2.1]; omega) (by rw [HA.out]) (by rw [List.length_append, HA.out, h1.1]; omega) (by rw [List.length_append, List.length_append, HA.out, h1.1, h2.1]; omega) h1.2 h2.2 (by have := HSG.out; simpa using this) HCW.out hBr)
              have HL12 := Lib.hid (show L1.length = k ∧ L2.length = k from ⟨h1.1, h2.1⟩)
              have HLEN := Lib.hid hlen
              clear h1 h2 hlen
              go_wp2_with fail
              refine HM.out.mono ?_
              rintro e w4 ⟨rfl, hk4, ys, hs4, S1, hy, hl1, hkp1, hst1⟩
              have HS4 := Lib.hid hs4
              have HY4 := Lib.hid hy
              have HL4 := Lib.hid hl1
              have HKP1 := Lib.hid hkp1
              have HST := Lib.hid hst1
              clear hs4 hy hl1 hkp1 hst1
              go_wp2_with fail
              go_roundw
              case rel =>
                have hS1 : S1.length = 2 * k := by rw [HL4.out, HL12.out.1, HL12.out.2]; omega
                refine ⟨a + 2 * k, Ds ++ [S1], Ls2, by congr 1 <;> omega, by congr 1 <;> omega, ?_, HDS.out.snoc hS1 HST.out, fun L hL => HBL.out L (by simp [hL]), ?_, ?_, ?_, hko.trans hk4⟩
                · rw [List.flatten_append, List.length_append, HA.out]; simp [hS1]
                · refine HKP.out.trans ?_
                  have := Keep.append (Keep.refl (cls := cls) Ds.flatten) (Keep.append HKP1.out (Keep.refl (Ls2.flatten ++ E)))
                  simpa using this
                · have := HLEN.out; omega
                · have := HS4.out; rw [HY4.out] at this; simpa using this
              case measure => simp [intOf]; omega
            · have hlt2z : ¬ (a : Int) + 2 * (k : Int) ≤ (n : Int) := by omega
              by_cases hm : a + k < n
              · obtain ⟨L1, hLs⟩ : ∃ L1, Ls = [L1] := by
                  cases Ls with
                  | nil => have := HLE.out; rw [List.flatten_nil, List.length_nil] at this; omega
                  | cons L1 Ls1 =>
                    cases Ls1 with
                    | nil => exact ⟨L1, rfl⟩
                    | cons L2 Ls2 => have h1 := HLE.out; have h2 := (HBL.out L1 (by simp)).1; have h3 := (HBL.out L2 (by simp)).1; rw [List.flatten_cons, List.flatten_cons, List.length_append, List.length_append] at h1; omega
                subst hLs
                have h1 := HBL.out L1 (by simp)
                have hlen : a + k + E.length = n := by have := HLE.out; rw [List.flatten_cons, List.length_append, h1.1, List.flatten_nil, List.length_nil] at this; omega
                have HM := Lib.hid (symMerge_any g off cp n pre post bl B0 cls hn2 hB (k + E.length) Ds.flatten L1 E [] a ((a : Int) + (k : Int)) n wr (by rw [h1.1]; exact Nat.le_refl _) (by rw [List.length_append, List.length_append, List.length_append, h1.1, HA.out]; simp; omega) (by rw [h1.1]; omega) (by omega) (by rw [HA.out]) (by rw [List.length_append, HA.out, h1.1]; omega) (by rw [List.length_append, List.length_append, HA.out, h1.1]; omega) h1.2 HSE.out (by have := HSG.out; simpa using this) HCW.out hBr)
                have HL1 := Lib.hid h1.1
                have HLEN := Lib.hid hlen
                have hmz : (a : Int) + (k : Int) < (n : Int) := by omega
                clear h1 hlen
                go_wp2_with fail
                refine HM.out.mono ?_
                rintro e w4 ⟨rfl, hk4, ys, hs4, S1, hy, hl1, hkp1, hst1⟩
                have HS4 := Lib.hid hs4
                have HY4 := Lib.hid hy
                have HL4 := Lib.hid hl1
                have HKP1 := Lib.hid hkp1
                have HST := Lib.hid hst1
                clear hs4 hy hl1 hkp1 hst1 hmz
                go_wp2_with fail
                go_roundw
                case rel =>
                  refine ⟨2 * k, Ds, S1, by congr 1; omega, by omega, by omega, HDS.out, ?_, ?_, ?_, HST.out, ?_, hko.trans hk4⟩
                  · refine HKP.out.trans ?_
                    have := Keep.append (Keep.refl (cls := cls) Ds.flatten) HKP1.out
                    simpa using this
                  · rw [HL4.out, HA.out, HL1.out]; have := HLEN.out; omega
                  · rw [HL4.out, HL1.out]; omega
                  · have := HS4.out; rw [HY4.out] at this; simpa using this
                case measure => simp [intOf]; omega
              · have hmz : ¬ (a : Int) + (k : Int) < (n : Int) := by omega
                have HE := Lib.hid (show Srt cls (Ls.flatten ++ E) ∧ (Ls.flatten ++ E).length < 2 * k by
                  cases Ls with
                  | nil => exact ⟨by simpa using HSE.out, by simp; omega⟩
                  | cons L1 Ls1 =>
                    have h2 := HBL.out L1 (by simp)
                    have hE : Ls1.flatten ++ E = [] := List.length_eq_zero_iff.1 (by have h1 := HLE.out; rw [List.flatten_cons, List.length_append, h2.1] at h1; rw [List.length_append]; omega)
                    rw [List.flatten_cons, List.append_assoc, hE, List.append_nil]
                    exact ⟨h2.2, by rw [h2.1]; omega⟩)
                go_wp2_with fail
                go_roundw
                case rel => exact ⟨2 * k, Ds, Ls.flatten ++ E, by congr 1; omega, by omega, by omega, HDS.out, HKP.out, by rw [List.length_append, HA.out]; have := HLE.out; omega, HE.out.2, HE.out.1, HSG.out, hko⟩
                case measure => simp [intOf]; omega
        · have HE := Lib.hid (show Srt cls (Ls.flatten ++ E) by
            cases Ls with
            | nil => simpa using HSE.out
            | cons L1 Ls1 =>
              have h2 := HBL.out L1 (by simp)
              have hE : Ls1.flatten ++ E = [] := List.length_eq_zero_iff.1 (by have h1 := HLE.out; rw [List.flatten_cons, List.length_append, h2.1] at h1; rw [List.length_append]; omega)
              rw [List.flatten_cons, List.append_assoc, hE, List.append_nil]
              exact h2.2)
          go_wp2_with fail
          go_end0
          exact ⟨rfl, hko, _, HSG.out, stab_eq HE.out HKP.out⟩
theorem sortStable_any (g off cp n : Nat) (pre post : List Value) (xs : List Int) (bl B0 : Nat) (cls : Int → Int) (w : World) (hn : n = xs.length) (hn2 : n ≤ 100000000)
    (hseg : Seg w g off pre post xs) (hc : CmpOk bl B0 w cls) (hB : B0 ≤ g) (hBw : B0 ≤ w.heap.size) :
    Calls Tryz.prog 66 #[.slice (some ⟨g, off, none⟩) n cp, .func (.func 67) #[] #[.pointer (some ⟨bl, 0, none⟩)]] w
      (SegPost g off pre post w fun ys => ys = stab cls xs) := by
  have HC := Lib.hid (stable_any g off cp n pre post xs bl B0 cls w hn hn2 hseg hc hB hBw)
  clear hn hseg hc
  go_enter Tryz.func66, Tryz.ntmps66
  go_wp2_with fail
  refine HC.out.mono ?_
  rintro e w2 ⟨rfl, hk2, ys, hs2, hy⟩
  have HS2 := Lib.hid hs2
  have HY := Lib.hid hy
  clear hs2 hy
  go_wp2_with fail
  go_end0
  exact ⟨rfl, hk2, ys, HS2.out, HY.out⟩
end Go.Proofs.YtckgmkjoblneeaaGreatDoor
namespace Go.Proofs.YtckgmkjoblneeaaGreatDoor
open Go Go.RowKit
def RetOwn (w : World) (xs : List Int) (e : Ending) (w' : World) : Prop := ∃ v, e = .returned v ∧ OwnI w' w.heap.size v xs ∧ Kept w w'
theorem RetOwn.ints {w : World} {xs : List Int} {e : Ending} {w' : World} (h : RetOwn w xs e w') : RetInts w xs e w' := by
  obtain ⟨v, rfl, ho, hk⟩ := h
  obtain ⟨A, c, rfl, hle, hI⟩ := OwnI.sl ho
  exact ⟨A, _, c, rfl, hle, hI, hk⟩
def RetFr (w : World) (xs : List Int) (e : Ending) (w' : World) : Prop := ∃ A n c, e = .returned (.slice A n c) ∧ n ≤ c ∧ Ints w' A n xs ∧ (∀ a, A = some a → w.heap.size ≤ a.block) ∧ Kept w w'
theorem RetFr.ints {w : World} {xs : List Int} {e : Ending} {w' : World} (h : RetFr w xs e w') : RetInts w xs e w' := by
  obtain ⟨A, n, c, rfl, hle, hI, _, hk⟩ := h
  exact ⟨A, n, c, rfl, hle, hI, hk⟩
theorem OwnI.far {w : World} {base n c : Nat} {A : Option Addr} {xs : List Int} (h : OwnI w base (.slice A n c) xs) : ∀ a, A = some a → base ≤ a.block := by
  intro a ha
  rcases h.2 with ⟨e, _⟩ | ⟨g, cap, cur, e, hb, _⟩
  · injection e with e1; rw [e1] at ha; cases ha
  · injection e with e1; rw [e1] at ha; injection ha with ha; rw [← ha]; exact hb
set_option maxRecDepth 100000 in
theorem clone_any (A : Option Addr) (n c : Nat) (xs : List Int) (w : World) (hn : n ≤ 100000000) (hI : Ints w A n xs) : Calls Tryz.prog 25 #[.slice A n c] w (RetOwn w xs) := by
  have HI := Lib.hid hI
  have HN := Lib.hid hI.1
  have hlen : xs.length ≤ 100000000 := by rw [← hI.1]; exact hn
  have qnil : ∀ (w : World) (a : Option Addr) (n c n' c' : Nat), (binOp .eql 32 (.slice a n c) (.slice none n' c')).run Tryz.prog w = .ok (.bool a.isNone) w := fun w a n c n' c' => Lib.run_eql_slice_nil w _ _ a n c n' c' Tryz.underlying32
  cases A with
  | none =>
    have hn0 : n = 0 := by
      rcases Nat.eq_zero_or_pos n with h0 | h0
      · exact h0
      · obtain ⟨b, off, e, _⟩ := hI.2 h0; cases e
    subst hn0
    have hx : xs = [] := List.length_eq_zero_iff.1 hI.1.symm
    subst hx
    clear hI
    go_enter Tryz.func25, Tryz.ntmps25
    go_wp2
    go_ret
    exact ⟨_, rfl, World.ownsRow_nil _ _ _ _, Kept.refl w⟩
  | some p =>
    clear hI
    have hk := Kept.alloc (Kept.refl w) (Obj.cells #[] 3)
    have HK := Lib.hid hk
    clear hk
    go_enter Tryz.func25, Tryz.ntmps25
    go_wp2_with (at_builtin; refine app_ints rfl _ _ rfl w.heap.size _ [] rfl (by exact World.ownsRow_lit w #[] 0 (Nat.le_refl _) (by unfold maxLen; omega) rfl) _ _ _ xs rfl (HI.out.kept HK.out) (by simp; omega) (by simp) ?_; intro v' w1 hown' hgrow hat)
    go_ret
    refine ⟨_, rfl, by simpa using hown', ?_⟩
    exact Below.grown HK.out hgrow (by simp) (fun q e => by
      change (Value.slice (some ⟨w.heap.size, 0, none⟩) 0 0).ownBlock = some q at e
      simp only [Value.ownBlock, Option.some.injEq] at e
      omega)
set_option maxHeartbeats 1000000 in
theorem sort1_any (a b : Int) (bl : Nat) (Ac : Option Addr) (nc cc : Nat) (cl : List Span) (w : World) (hnc : nc ≤ 1000) (hs : SpanSorted cl) (hb : w.cell? ⟨bl, 0, none⟩ = some (.slice Ac nc cc)) (hc : Spans w Ac nc cl) :
    Calls Tryz.prog 67 #[.int .i64 a, .int .i64 b, .pointer (some ⟨bl, 0, none⟩)] w (RetI w (cmpI (classOf cl a) (classOf cl b))) := by
  have HC := Lib.hid hc
  have HS := Lib.hid hs
  have HB := Lib.hid hb
  clear hc hs
  go_enter Tryz.func67, Tryz.ntmps67
  go_wp2_with fail
  go_region_held3 (fun w' => w'.cell? ⟨bl, 0, none⟩ = some (.slice Ac nc cc)) (first | exact q2 | exact q1 | exact HB.out)
    (first
      | (go_at_call 39; refine (cmp_any _ _ _).mono ?_; rintro e w' ⟨rfl, rfl⟩)
      | (go_at_call 68; refine (class_any _ _ _ cl b _ (by omega) (HC.out.kept (Kept.trans (Kept.drew (Kept.refl w)) hk1)) HS.out).mono ?_; rintro e w2 ⟨rfl, hk2⟩; have q2 := Kept.cell hk2 q1)
      | (go_at_call 68; refine (class_any _ _ _ cl a _ (by omega) (HC.out.kept (Kept.drew (Kept.refl w))) HS.out).mono ?_; rintro e w1 ⟨rfl, hk1⟩; have q1 := Kept.cell hk1 HB.out))
  go_wp2_with fail
  go_ret
  exact ⟨rfl, Kept.trans (Kept.trans (Kept.drew (Kept.refl w)) hk1) hk2⟩
end Go.Proofs.YtckgmkjoblneeaaGreatDoor
namespace Go.Proofs.YtckgmkjoblneeaaGreatDoor
open Go Go.RowKit Go.Shelf
attribute [local go_sem] Oper.semAt_some
theorem Sl.setBox {α : Type} {k : Nat} {enc : α → List Value} {w : World} {A : Option Addr} {n b : Nat} {xs : List α} {s v : Value} {t : TypeId} (h : Sl k enc w A n xs) (hb : w.heap[b]? = some (.cells #[s] t (0, 0))) (hs : ∀ (i : IntKind) (x : Int), s ≠ Value.int i x) (he : ∀ (x : α) (j : Nat) (u : Value), (enc x)[j]? = some u → ∃ (i : IntKind) (z : Int), u = Value.int i z) : Sl k enc (w.setCell ⟨b, 0, none⟩ v) A n xs :=
  ⟨h.1, fun hn => by
    obtain ⟨b', off, e, hc⟩ := h.2 hn
    refine ⟨b', off, e, fun i x hx j u hu => ?_⟩
    have h1 := hc i x hx j u hu
    refine (World.cell?_of_block (Below.heap_setCell w ⟨b, 0, none⟩ v _ (fun e' => ?_))).trans h1
    obtain ⟨ik, z, rfl⟩ := he x j u hu
    simp only at e'
    subst e'
    unfold World.cell? at h1
    simp only [hb, Option.isSome_none, Bool.false_eq_true, if_false] at h1
    rcases Nat.eq_zero_or_pos (off + i * k + j) with h0 | h0
    · rw [h0] at h1; simp at h1; exact hs _ _ h1
    · rw [Array.getElem?_eq_none (by simp; omega)] at h1; cases h1⟩
theorem encS_int (x : Span) (j : Nat) (u : Value) (h : (encS x)[j]? = some u) : ∃ (i : IntKind) (z : Int), u = Value.int i z := by
  match j, h with
  | 0, h => simp [encS] at h; exact ⟨_, _, h.symm⟩
  | 1, h => simp [encS] at h; exact ⟨_, _, h.symm⟩
  | 2, h => simp [encS] at h; exact ⟨_, _, h.symm⟩
  | j + 3, h => simp [encS] at h
structure RunP (n : Nat) where
  lo : Nat
  hi : Nat
  h1 : lo < hi
  h2 : hi ≤ n
def RunP.rng {n : Nat} (x : RunP n) : Rng := ⟨x.lo, x.hi⟩
def RunP.pair {n : Nat} (x : RunP n) : Nat × Nat := (x.lo, x.hi)
def encsP {n : Nat} (x : RunP n) : Array Value := #[.agg #[.int .i64 x.lo, .int .i64 x.hi]]
def KpS (n₀ g : Nat) (A B : World) : Prop := n₀ ≤ A.heap.size → B.os = A.os ∧ B.tape = A.tape ∧ B.output = A.output ∧ A.heap.size ≤ B.heap.size ∧ ∀ i, i < n₀ → i ≠ g → B.heap[i]? = A.heap[i]?
theorem KpS.refl (n₀ g : Nat) (A : World) : KpS n₀ g A A := fun _ => ⟨rfl, rfl, rfl, Nat.le_refl _, fun _ _ _ => rfl⟩
theorem KpS.trans {n₀ g : Nat} {A B C : World} (h : KpS n₀ g A B) (k : KpS n₀ g B C) : KpS n₀ g A C := fun hs => by
  obtain ⟨a1, a2, a3, a4, a5⟩ := h hs
  obtain ⟨b1, b2, b3, b4, b5⟩ := k (Nat.le_trans hs a4)
  exact ⟨b1.trans a1, b2.trans a2, b3.trans a3, Nat.le_trans a4 b4, fun i hi hg => (b5 i hi hg).trans (a5 i hi hg)⟩
theorem KpS.of_kept {n₀ g : Nat} {A B : World} (h : Kept A B) : KpS n₀ g A B := fun hs => ⟨h.os, h.tape, h.output, h.size, fun i hi _ => h.block i (by omega)⟩
theorem KpS.of_out {n₀ g : Nat} {A B : World} (h : KeptOut g A B) : KpS n₀ g A B := fun hs => ⟨h.os, h.tape, h.output, h.size, fun i hi hg => h.block i (by omega) (by simpa using hg)⟩
theorem KpS.putObj {n₀ g : Nat} {W : World} {l : Nat} (hn : n₀ ≤ l) (o : Obj) : KpS n₀ g W (W.putObj l o) := fun _ => by
  have h := grownBy_putObj' W l o
  exact ⟨h.os, h.tape, h.output, h.size, fun i hi _ => h.block i (by omega) (fun e => by injection e; omega)⟩
theorem runs_seq (nt : Nat) (text : List Int) (cl : List Span) (At Ac : Option Addr) (ct nc cc Bt Bc n₀ g : Nat) (W0 : World) (hnt : nt ≤ 100000000) (hnl : nt = text.length) (hnc : nc ≤ 1000) (hs : SpanSorted cl)
    (hst : ∀ W W', Below W0.heap.size W0 W → KpS n₀ g W W' → W'.cell? ⟨Bt, 0, none⟩ = some (.slice At nt ct) ∧ W'.cell? ⟨Bc, 0, none⟩ = some (.slice Ac nc cc) ∧ Ints W' At nt text ∧ Spans W' Ac nc cl) (n : Nat) (hn : 1 ≤ n) :
    SeqStopsK Fence.wide n Tryz.prog 91 #[.pointer (some ⟨Bt, 0, none⟩), .pointer (some ⟨Bc, 0, none⟩)] (encsP (n := nt)) (KpS n₀ g) (fun ys => ys.map RunP.rng = runsOf cl text) (fun _ => True) (runsOf cl text).length W0 := by
  intro l J Jx W hW hJ hJx hY h0
  have hcall := runs1_in n hn (KpS n₀ g) (KpS.refl n₀ g) KpS.trans KpS.of_kept l Bt Bc At Ac nt ct nc cc text cl hnt hnc hs (fun pre W => ∃ pre' : List (RunP nt), pre'.map RunP.rng = pre ∧ J pre' W) (fun pre W => ∃ pre' : List (RunP nt), pre'.map RunP.rng = pre ∧ Jx pre' W) W.heap.size
    (fun s A B row ⟨p', e, h⟩ hg hr => ⟨p', e, hJ p' A B row h hg hr⟩)
    (fun pre x W1 ⟨p', e, h⟩ ⟨t, ht⟩ => by
      obtain ⟨lo, hi, e1, e2, e3, e4⟩ := runsFrom_valid (classOf cl) text 0 none (fun s hs => by cases hs) x (by
        show x ∈ runsOf cl text
        rw [ht]; simp)
      have hx : RunP.rng (n := nt) ⟨lo, hi, e3, by omega⟩ = x := by
        unfold RunP.rng; rw [← e1, ← e2]
      have hy := hY p' ⟨lo, hi, e3, by omega⟩ W1 h (by rw [← List.length_map (f := RunP.rng), e, ht]; simp)
      have he : encsP (n := nt) ⟨lo, hi, e3, by omega⟩ = encsR x := by
        unfold encsP encsR; rw [e1, e2]
      rw [he] at hy
      obtain ⟨fn, tmps, assign, body, hrun, hround⟩ := hy
      refine ⟨fn, tmps, assign, body, hrun, hround.mono fun en W' h => ?_⟩
      rcases h with ⟨h1, h2, h3⟩ | ⟨h1, h2⟩
      · exact .inl ⟨h1, ⟨p' ++ [⟨lo, hi, e3, by omega⟩], by rw [List.map_append, e, List.map_singleton, hx], h2⟩, h3⟩
      · exact .inr ⟨h1, ⟨p' ++ [⟨lo, hi, e3, by omega⟩], by rw [List.map_append, e, List.map_singleton, hx], h2⟩⟩)
    W (fun W' hW' => hst W W' hW hW') ⟨[], rfl, h0⟩
  refine hcall.mono fun en W' h => ?_
  obtain ⟨hv, h⟩ := h
  refine ⟨hv, ?_⟩
  rcases h with ⟨ys, rfl, p', e, h⟩ | ⟨pre, _, p', e, h⟩
  · exact .inl ⟨p', e, h⟩
  · exact .inr ⟨p', trivial, h⟩
theorem own_seg {W : World} {base g no co lo hi : Nat} {L : List Int} (h : OwnI W base (.slice (some ⟨g, 0, none⟩) no co) L) (hl : L.length = no) (h1 : lo ≤ hi) (h2 : hi ≤ no) : ∃ rest : List Value, Seg W g lo ((L.take lo).map (Value.int .i64)) ((L.drop hi).map (Value.int .i64) ++ rest) ((L.drop lo).take (hi - lo)) ∧ (∀ (W' : World) (S' : List Int), S'.length = hi - lo → Seg W' g lo ((L.take lo).map (Value.int .i64)) ((L.drop hi).map (Value.int .i64) ++ rest) S' → OwnI W' base (.slice (some ⟨g, 0, none⟩) no co) (L.take lo ++ S' ++ L.drop hi)) := by
  rcases h.2 with ⟨e, _⟩ | ⟨g', cap, cur, e, hb, hg, hle, hcm, hsz, htk⟩
  · cases e
  · injection e with e1 e2 e3
    injection e1 with e4
    injection e4 with e5
    subst e5
    subst e3
    have eL : L = L.take lo ++ (L.drop lo).take (hi - lo) ++ L.drop hi := by
      have e1 : L.drop hi = (L.drop lo).drop (hi - lo) := by rw [List.drop_drop, show lo + (hi - lo) = hi by omega]
      rw [e1, List.append_assoc, List.take_append_drop, List.take_append_drop]
    obtain ⟨rest, hrest⟩ : ∃ rest : List Value, rest = cur.toList.drop (L.length * 1) := ⟨_, rfl⟩
    have ecur : cur.toList = L.map (Value.int .i64) ++ rest := by rw [← htk, hrest, List.take_append_drop]
    have ecur2 : cur = (L.map (Value.int .i64) ++ rest).toArray := by rw [← ecur]
    have emap : L.map (Value.int .i64) = (L.take lo).map (Value.int .i64) ++ ((L.drop lo).take (hi - lo)).map (Value.int .i64) ++ (L.drop hi).map (Value.int .i64) := by
      rw [← List.map_append, ← List.map_append, ← eL]
    have hrl : L.length + rest.length = co := by
      have h3 := congrArg List.length ecur
      rw [List.length_append, List.length_map] at h3
      have : cur.toList.length = cur.size := by simp
      omega
    refine ⟨rest, ⟨by simp; omega, ?_⟩, fun W' S' hS' hseg => ?_⟩
    · rw [hg, ecur2, emap]; simp
    · have hlen : (L.take lo ++ S' ++ L.drop hi).length = no := by simp; omega
      refine ⟨by simp, .inr ⟨g, co, ((L.take lo ++ S' ++ L.drop hi).map (Value.int .i64) ++ rest).toArray, by rw [hlen], hb, ?_, by rw [hlen]; omega, hcm, ?_, ?_⟩⟩
      · rw [hseg.2]; simp
      · rw [List.size_toArray, List.length_append, List.length_map, hlen]; omega
      · rw [List.toList_toArray, List.take_left' (by rw [List.length_map, Nat.mul_one])]
set_option maxRecDepth 100000 in
set_option maxHeartbeats 2000000 in
theorem ordSortN (Ac At : Option Addr) (nc cc nt ct : Nat) (w : World) (text : List Int) (l : List Span) (hnt : nt ≤ 100000000) (hnc : nc ≤ 1000) (hcc : nc ≤ cc) (ht : Ints w At nt text) (hl : Spans w Ac nc l) (hG : Glob w) :
    Calls Tryz.prog 48 #[.slice Ac nc cc, .slice At nt ct] w (RetFr w (sortRuns (classOf (usableSpans l)) text)) := by
  have HT := Lib.hid ht
  have HTN := Lib.hid ht.1
  have hkb := Kept.alloc (Kept.refl w) (Obj.cells #[Value.slice Ac nc cc] 22)
  have HU := Lib.hid (ordUsable Ac nc cc l (w.alloc (Obj.cells #[Value.slice Ac nc cc] 22)) hnc hcc (hl.kept hkb) (hG.kept hkb))
  have HB0 := Lib.hid (box_cell w #[Value.slice Ac nc cc] 22 0)
  have hbl : (w.alloc (Obj.cells #[Value.slice Ac nc cc] 22)).heap[w.heap.size]? = some (Obj.cells #[Value.slice Ac nc cc] 22 (0, 0)) := heap_alloc_new _ _
  have HBL := Lib.hid hbl
  have HKB := Lib.hid hkb
  clear ht hl hG hkb hbl
  refine (callsIn_wide (n := 5)).1 ?_
  refine callsIn_of_wp_marks Tryz.func48 rfl trivial ?_ rfl
  simp only [Tryz.ntmps48, List.size_toArray, List.length_cons, List.length_nil, Nat.reduceAdd, Nat.reduceSub, Array.replicate_succ, Array.replicate_zero, List.push_toArray, List.append_toArray, List.nil_append, List.cons_append]
  gi_wp2_with (refine ⟨trivial, ?_⟩; gi_at_call 64; refine (callsIn_wide.2 HU.out).mono ?_; rintro e w1 ⟨A1, n1, c1, rfl, hle1, hn1, hS1, hk1⟩; have HS1 := Lib.hid hS1; have hbl1 := (hk1.block _ (block_lt HBL.out)).trans HBL.out; have HBL1 := Lib.hid hbl1; have b0 := cell_of_block (i := 0) hbl1 rfl; have f0 := frozen_of_block (i := 0) hbl1; simp only [s4_, s5_] at b0; clear hS1 hbl1)
  have hbl2 : (w1.setCell ⟨w.heap.size, 0, none⟩ (.slice A1 n1 c1)).heap[w.heap.size]? = some (Obj.cells #[Value.slice A1 n1 c1] 22 (0, 0)) := heap_setCell_same HBL1.out
  have hS2 : Spans (w1.setCell ⟨w.heap.size, 0, none⟩ (.slice A1 n1 c1)) A1 n1 (usableSpans l) := Sl.setBox HS1.out HBL1.out (fun i x h => by cases h) encS_int
  have hk2 : Kept w (w1.setCell ⟨w.heap.size, 0, none⟩ (.slice A1 n1 c1)) := Kept.setCell (Kept.trans HKB.out hk1) (Nat.le_refl _) _
  have hn2 : n1 ≤ 1000 := by omega
  generalize w1.setCell ⟨w.heap.size, 0, none⟩ (.slice A1 n1 c1) = W2 at *
  obtain ⟨bl, hbl⟩ : ∃ bl : Nat, bl = w.heap.size := ⟨_, rfl⟩
  have HBLE := Lib.hid hbl
  rw [← hbl] at hbl2 ⊢
  have HBL0 := Lib.hid hbl2
  have HSP := Lib.hid hS2
  clear b0 f0 HBL1 HS1 HBL HB0 HU
  clear hbl
  have HCL := Lib.hid (clone_any At nt ct text W2 (by omega) (HT.out.kept hk2))
  refine ⟨trivial, (callsIn_wide.2 HCL.out).mono ?_⟩
  rintro e w3 ⟨v, rfl, hown, hk3⟩
  obtain ⟨Ao, co, rfl, hlo, _⟩ := OwnI.sl hown
  obtain ⟨no, hno⟩ : ∃ no : Nat, no = text.length := ⟨_, rfl⟩
  rw [← hno] at hown hlo ⊢
  have HNO := Lib.hid hno
  clear hno
  have hS4 := (hS2.kept hk3).kept (Kept.alloc (Kept.refl w3) (Obj.cells #[Value.slice Ao no co] 32))
  have hT4 := ((HT.out.kept hk2).kept hk3).kept (Kept.alloc (Kept.refl w3) (Obj.cells #[Value.slice Ao no co] 32))
  have hl3 := (hk3.block _ (block_lt hbl2)).trans hbl2
  have HL3 := Lib.hid hl3
  have hl4 := alloc_lift (o := Obj.cells #[Value.slice Ao no co] 32) hl3
  have c4 := cell_of_block (i := 0) hl4 rfl
  have v5 : (w3.alloc (Obj.cells #[Value.slice Ao no co] 32)).heap[w3.heap.size]? = some (Obj.cells #[Value.slice Ao no co] 32 (0, 0)) := heap_alloc_new _ _
  have HV5 := Lib.hid v5
  have hown4 := World.ownsRow.alloc hown (Obj.cells #[Value.slice Ao no co] 32)
  have HOW := Lib.hid hown4
  have HS4 := Lib.hid hS4
  have HT4 := Lib.hid hT4
  have HL4 := Lib.hid hl4
  have hsz4 : (w3.alloc (Obj.cells #[Value.slice Ao no co] 32)).heap.size = w3.heap.size + 1 := by simp
  simp only [s4_, s5_] at c4
  clear hS2 hbl2 hS4 hT4 hl3 hl4 v5 hown4
  gi_wp2_with (refine ⟨trivial, ?_⟩; gi_at_call 65; refine (callsIn_wide.2 (runs_any _ _ _ _ _ _ _)).mono ?_; rintro e w' ⟨rfl, rfl⟩)
  clear c4
  obtain ⟨B5, hB5⟩ : ∃ B5 : Nat, B5 = w3.heap.size := ⟨_, rfl⟩
  obtain ⟨g, hgA, hgB, hg0, hg1, hg2⟩ : ∃ g : Nat, (∀ p, Ao = some p → p = ⟨g, 0, none⟩) ∧ W2.heap.size ≤ g ∧ g ≠ B5 ∧ g ≠ B5 + 1 ∧ g ≠ B5 + 1 + 1 := by
    rcases hown.2 with ⟨e, _⟩ | ⟨g, cap, cur, e, hb, hgg, _⟩
    · injection e with e1
      exact ⟨B5 + 3, (fun p hp => by rw [e1] at hp; cases hp), by have := hk3.size; omega, by omega, by omega, by omega⟩
    · injection e with e1
      have := block_lt hgg
      exact ⟨g, (fun p hp => by rw [e1] at hp; injection hp with hp; exact hp.symm), hb, by omega, by omega, by omega⟩
  have hk5 : Kept w3 (((w3.alloc (Obj.cells #[Value.slice Ao no co] 32)).alloc (Obj.cells #[Value.slice A1 n1 c1] 22)).alloc (Obj.cells #[Value.slice At nt ct] 32)) := Kept.alloc (Kept.alloc (Kept.alloc (Kept.refl w3) _) _) _
  have x5 : (((w3.alloc (Obj.cells #[Value.slice Ao no co] 32)).alloc (Obj.cells #[Value.slice A1 n1 c1] 22)).alloc (Obj.cells #[Value.slice At nt ct] 32)).heap[B5]? = some (Obj.cells #[Value.slice Ao no co] 32 (0, 0)) := alloc_lift (alloc_lift (alloc_at hB5))
  have x6 : (((w3.alloc (Obj.cells #[Value.slice Ao no co] 32)).alloc (Obj.cells #[Value.slice A1 n1 c1] 22)).alloc (Obj.cells #[Value.slice At nt ct] 32)).heap[B5 + 1]? = some (Obj.cells #[Value.slice A1 n1 c1] 22 (0, 0)) := alloc_lift (alloc_at (by simp [hB5]))
  have x7 : (((w3.alloc (Obj.cells #[Value.slice Ao no co] 32)).alloc (Obj.cells #[Value.slice A1 n1 c1] 22)).alloc (Obj.cells #[Value.slice At nt ct] 32)).heap[B5 + 1 + 1]? = some (Obj.cells #[Value.slice At nt ct] 32 (0, 0)) := alloc_at (by simp [hB5])
  have hsz5 : (((w3.alloc (Obj.cells #[Value.slice Ao no co] 32)).alloc (Obj.cells #[Value.slice A1 n1 c1] 22)).alloc (Obj.cells #[Value.slice At nt ct] 32)).heap.size = B5 + 3 := by simp [hB5]
  have HOW5 := Lib.hid (World.ownsRow.alloc (World.ownsRow.alloc HOW.out (Obj.cells #[Value.slice A1 n1 c1] 22)) (Obj.cells #[Value.slice At nt ct] 32))
  rw [← hB5]
  generalize (((w3.alloc (Obj.cells #[Value.slice Ao no co] 32)).alloc (Obj.cells #[Value.slice A1 n1 c1] 22)).alloc (Obj.cells #[Value.slice At nt ct] 32)) = W5 at *
  have hk25 : Kept W2 W5 := Kept.trans hk3 hk5
  have hbs : W2.heap.size ≤ B5 := by rw [hB5]; exact hk3.size
  have hblt : bl < W2.heap.size := by
    have h1 := block_lt HBL0.out
    have h2 := HBLE.out
    omega
  have HS2' := Lib.hid HSP.out
  have HT2 := Lib.hid (HT.out.kept hk2)
  have hss := usableSpans_sorted l
  have HST := Lib.hid (show ∀ W W', Below W5.heap.size W5 W → KpS (B5 + 3) g W W' → Below W2.heap.size W2 W' ∧ W'.cell? ⟨B5 + 1 + 1, 0, none⟩ = some (.slice At nt ct) ∧ W'.cell? ⟨B5 + 1, 0, none⟩ = some (.slice A1 n1 c1) from fun W W' hW hW' => by
    have hs : B5 + 3 ≤ W.heap.size := by have := hW.size; omega
    obtain ⟨a1, a2, a3, a4, a5⟩ := hW' hs
    have hbel : Below W2.heap.size W2 W := Below.trans hk25 (hW.mono (by omega))
    refine ⟨⟨a1.trans hbel.os, a2.trans hbel.tape, a3.trans hbel.output, Nat.le_trans hbel.size a4, fun i hi => (a5 i (by omega) (by omega)).trans (hbel.block i hi)⟩, ?_, ?_⟩
    · exact cell_of_block (i := 0) ((a5 _ (by omega) (by omega)).trans ((hW.block _ (by omega)).trans x7)) rfl
    · exact cell_of_block (i := 0) ((a5 _ (by omega) (by omega)).trans ((hW.block _ (by omega)).trans x6)) rfl)
  clear hB5
  have hI5 : W5.heap[B5]? = some (Obj.cells #[Value.slice Ao no co] 32 (0, 0)) := x5
  have hseq := runs_seq nt text (usableSpans l) At A1 ct n1 c1 (B5 + 1 + 1) (B5 + 1) (B5 + 3) g W5 hnt HTN.out hn2 hss (fun W W' hW hW' => by
    obtain ⟨h1, h2, h3⟩ := HST.out W W' hW hW'
    exact ⟨h2, h3, HT2.out.kept h1, HS2'.out.kept h1⟩) (5 - 1) (by omega)
  refine wpIn_rangeFunc_ownH rfl (by omega) (gf := 91) (lb := #[.pointer (some ⟨B5 + 1 + 1, 0, none⟩), .pointer (some ⟨B5 + 1, 0, none⟩)]) rfl trivial (enters_of Tryz.func91 (by kernel_rfl) rfl) hseq KpS.trans (fun W l o o' hl _ _ _ => KpS.putObj (by omega) o') (Below.refl _ _) (fun _ => rfl)
    (fun pre W => (W.heap[B5]? = some (Obj.cells #[Value.slice Ao no co] 32 (0, 0)) ∧ OwnI W W2.heap.size (.slice Ao no co) (sortParts (classOf (usableSpans l)) text (pre.map RunP.pair))) ∧ Below W2.heap.size W2 W)
    (fun _ _ _ => False)
    ?hI (fun _ _ _ _ _ hs _ _ => hs)
    ⟨⟨hI5, HOW5.out⟩, hk25⟩
    (fun x a' W => ∃ Bx, B5 < Bx ∧ W.heap[Bx]? = some (.cells #[.int .i64 x.lo, .int .i64 x.hi] 48 (0, 0)) ∧ a' = { tmps := #[.slice Ac nc cc, .slice At nt ct, .pointer (some ⟨bl, 0, none⟩), undef, .slice none 0 0, .pointer (some ⟨B5, 0, none⟩), .pointer (some ⟨Bx, 0, none⟩), .slice Ac nc cc, .slice A1 n1 c1, .slice At nt ct, .slice Ao no co, .slice A1 n1 c1, .slice At nt ct, .func (.func 91) #[] #[.pointer (some ⟨B5 + 1 + 1, 0, none⟩), .pointer (some ⟨B5 + 1, 0, none⟩)], .agg #[.int .i64 x.lo, .int .i64 x.hi], undef, undef, undef, undef, undef, undef, undef, undef, undef], defers := [] })
    ?hAx ?assign ?body ?done ?stop
  case hI =>
    rintro s W W' row ⟨⟨h1, h2⟩, h3⟩ hg hr
    have hne : ∀ {b : Nat} {cs : Array Value} {t : TypeId}, W.heap[b]? = some (.cells cs t (0, 0)) → some b ≠ row := fun hb e => by
      obtain ⟨_, o, ho, hc⟩ := hr _ e.symm
      rw [hb] at ho; cases ho; cases hc
    refine ⟨⟨(hg.block _ (block_lt h1) (hne h1)).trans h1, ?_⟩, Below.grown h3 hg h3.size (fun k e => by have := (hr k e).1; omega)⟩
    refine ⟨h2.1, ?_⟩
    rcases h2.2 with hn | ⟨g', cap, cur, e, hb, hgg, rest⟩
    · exact .inl hn
    · exact .inr ⟨g', cap, cur, e, hb, (hg.block g' (block_lt hgg) (hne hgg)).trans hgg, rest⟩
  case hAx =>
    rintro x a' _ X Y row ⟨Bx, h1, h2, h3⟩ hg hr
    refine ⟨Bx, h1, (hg.block Bx (Array.getElem?_eq_some_iff.1 h2).1 (fun e => ?_)).trans h2, h3⟩
    obtain ⟨_, o, ho, hc⟩ := hr Bx e.symm
    rw [h2] at ho; cases ho; cases hc
  case assign =>
    rintro l pre x W K ⟨⟨h1, h2⟩, h3⟩ hK
    dsimp only [encsP]
    gi_wp2
    refine hK _ _ ((KeepsOthers.alloc _ _).from _) (KpS.of_kept (Kept.alloc (Kept.refl W) _)) ⟨⟨alloc_lift h1, World.ownsRow.alloc h2 _⟩, h3.alloc h3.size _⟩ ⟨W.heap.size, block_lt h1, heap_alloc_new W _, rfl⟩
  case body =>
    rintro l' pre x a' W hl _ ⟨⟨h1, h2⟩, h3⟩ ⟨Bx, hBx, hX, rfl⟩ hlt
    have hlen : (sortParts (classOf (usableSpans l)) text (pre.map RunP.pair)).length = no := by
      rw [sortParts_length (fun p hp => by
        obtain ⟨y, _, rfl⟩ := List.mem_map.1 hp
        exact ⟨y.h1, by have := y.h2; have := HTN.out; simp only [RunP.pair]; omega⟩)]
      exact HNO.out.symm
    have hx1 := x.h1
    have hx2 : x.hi ≤ no := by have := x.h2; have := HTN.out; have := HNO.out; omega
    have hAo : ∃ p, Ao = some p := by
      rcases h2.2 with ⟨e, h0⟩ | ⟨g', cap, cur, e, _⟩
      · rw [hlen] at h0; omega
      · injection e with e1; exact ⟨_, e1⟩
    obtain ⟨p, hp⟩ := hAo
    have hpg := hgA p hp
    subst hp
    subst hpg
    obtain ⟨rest, hsg, hback⟩ := own_seg (lo := x.lo) (hi := x.hi) h2 hlen (by omega) hx2
    have hcmp : CmpOk bl W2.heap.size W (classOf (usableSpans l)) := fun a b w' hw' => by
      have hbw : Below W2.heap.size W2 w' := h3.trans hw'
      exact sort1_any a b bl A1 n1 c1 (usableSpans l) w' hn2 hss (cell_of_block (i := 0) ((hbw.block bl hblt).trans HBL0.out) rfl) (HS2'.out.kept hbw)
    have hlen2 : ((List.drop x.lo (sortParts (classOf (usableSpans l)) text (pre.map RunP.pair))).take (x.hi - x.lo)).length = x.hi - x.lo := by simp; omega
    have HSRT := Lib.hid (sortStable_any g x.lo (co - x.lo) (x.hi - x.lo) _ _ _ bl W2.heap.size (classOf (usableSpans l)) W hlen2.symm (by have := HNO.out; have := HTN.out; omega) hsg hcmp hgB h3.size)
    have hc := cell_of_block (i := 0) h1 rfl
    have y0 := cell_of_block (i := 0) hX rfl
    have y1 := cell_of_block (i := 1) hX rfl
    simp only [s4_, s5_, s6_] at hc y0 y1
    have HBACK := Lib.hid hback
    have HL2 := Lib.hid hlen2
    have H1 := Lib.hid h1
    have HSN := Lib.hid (sortParts_snoc (classOf (usableSpans l)) text (pre.map RunP.pair) x.pair)
    have hz1 : (x.lo : Int) ≤ (x.hi : Int) := by omega
    have hz2 : (x.hi : Int) ≤ (co : Int) := by omega
    have hz3 : ¬ co = x.lo := by omega
    have HG0 := Lib.hid (show ∃ (cs : Array Value) (t0 : TypeId), W.heap[g]? = some (.cells cs t0 (0, 0)) from ⟨_, _, hsg.2⟩)
    clear hcmp hsg hback hlen2 h1 h2 hX hgA
    gi_wp2
    refine ⟨trivial, (CallsIn.inRound l' (callsIn_wide.2 HSRT.out)).mono ?_⟩
    rintro e W' ⟨rfl, hko, ys, hs', rfl⟩
    have hown' := HBACK.out W' _ (by rw [stab_length]; exact HL2.out) hs'
    have HOWN := Lib.hid hown'
    clear hown' hs'
    gi_wp2
    refine ⟨?_, KpS.of_out hko, ⟨⟨(hko.block B5 (block_lt H1.out) (by simp; omega)).trans H1.out, ?_⟩, h3.trans (KeptOut.below hko hgB h3.size)⟩⟩
    · refine KeepsOthers.from ⟨hko.size, fun k o hk ho => ?_⟩ _
      have hkg : k ≠ g := fun e => by
        subst e
        rcases HOWN.out.2 with ⟨e, _⟩ | ⟨g', cap, cur, e, _, hgg, _⟩
        · cases e
        · rcases HG0.out with ⟨cs, t0, hcs⟩
          rw [hcs] at hk
          cases hk
          cases ho
      exact (hko.block k (block_lt hk) (by simpa using hkg)).trans hk
    · rw [List.map_append, List.map_singleton, HSN.out]
      exact HOWN.out
  case done =>
    rintro D ys W hD hys ⟨⟨h1, h2⟩, h3⟩ hK
    have hc := cell_of_block (i := 0) h1 rfl
    simp only [s4_, s5_] at hc
    have e : sortParts (classOf (usableSpans l)) text (ys.map RunP.pair) = sortRuns (classOf (usableSpans l)) text := by
      unfold sortRuns
      rw [show runsFrom (classOf (usableSpans l)) 0 none text = runsOf (usableSpans l) text from rfl, ← hys, List.map_map]
      congr 1
    rw [e] at h2
    have H2 := Lib.hid h2
    clear h2 hys e
    gi_wp2
    refine ⟨by simp, .inl ⟨_, _, rfl, run_takeDeferred hK, ?_⟩⟩
    obtain ⟨A, c, hv, hle, hsl⟩ := OwnI.sl (ownsRow_putObj H2.out (.deferred none) hK rfl)
    refine ⟨_, results_tmp rfl _ _ _, A, _, c, by rw [← hv]; rfl, hle, hsl, fun a ha => ?_, Kept.trans hk2 (h3.trans (belowK_b (w := W2) (Nat.le_refl _) W D _ _ (by omega) hK rfl rfl))⟩
    have hv1 : Ao = A := by injection hv
    rw [← hv1] at ha
    exact Nat.le_trans hk2.size (H2.out.far a ha)
  case stop =>
    rintro D c pre W _ _ h _
    exact h.elim
end Go.Proofs.YtckgmkjoblneeaaGreatDoor
