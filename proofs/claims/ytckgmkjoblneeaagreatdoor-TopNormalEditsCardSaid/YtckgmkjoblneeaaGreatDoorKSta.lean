/- A part of a block of numbers, as a list; exchanging elements. slices.insertionSortCmpFunc at numbers: a part is sorted stably. -/
import Derived.Deep.RegionHeld3
import Derived.Test.YtckgmkjoblneeaaGreatDoorKMeas
import Derived.Test.YtckgmkjoblneeaaGreatDoorKPq
namespace Go.Proofs.YtckgmkjoblneeaaGreatDoor
open Go Go.RowKit
def Seg (w : World) (g off : Nat) (pre post : List Value) (xs : List Int) : Prop :=
  pre.length = off ∧ w.heap[g]? = some (.cells (pre ++ xs.map (Value.int .i64) ++ post).toArray 3 (0, 0))
section
variable {w w' : World} {g off : Nat} {pre post : List Value} {xs : List Int}
theorem Seg.lt (h : Seg w g off pre post xs) : g < w.heap.size := block_lt h.2
theorem Seg.cell (h : Seg w g off pre post xs) {i : Nat} {x : Int} (hx : xs[i]? = some x) : w.cell? ⟨g, off + i, none⟩ = some (.int .i64 x) := by
  refine cell_of_block h.2 ?_
  have hi := lt_of_getElem?_some hx
  rw [List.getElem?_toArray, ← h.1, List.append_assoc, List.getElem?_append_right (by omega), List.getElem?_append_left (by simp; omega)]
  simp [hx]
theorem Seg.frozen (h : Seg w g off pre post xs) (i : Nat) : w.frozen? ⟨g, i, none⟩ = false := frozen_of_block h.2
theorem Seg.kept (h : Seg w g off pre post xs) (hk : Kept w w') : Seg w' g off pre post xs := ⟨h.1, (hk.block g h.lt).trans h.2⟩
theorem Seg.drew (h : Seg w g off pre post xs) : Seg w.drew g off pre post xs := h
theorem Seg.drewN (h : Seg w g off pre post xs) (n : Nat) : Seg (w.drewN n) g off pre post xs := h
theorem Seg.set (h : Seg w g off pre post xs) {i : Nat} (hi : i < xs.length) (v : Int) : Seg (w.setCell ⟨g, off + i, none⟩ (.int .i64 v)) g off pre post (xs.set i v) := by
  refine ⟨h.1, ?_⟩
  have e : (pre ++ (xs.set i v).map (Value.int .i64) ++ post) = (pre ++ xs.map (Value.int .i64) ++ post).set (off + i) (.int .i64 v) := by
    rw [← h.1, List.append_assoc, List.append_assoc, List.set_append_right _ _ (by omega)]
    congr 1
    rw [List.set_append_left _ _ (by simp; omega), List.map_set]
    congr 2
    omega
  rw [e]
  simp [World.setCell, Array.getElem?_modify, h.2]
end
abbrev KeptOut (g : Nat) (w w' : World) : Prop := KeptBut [g] w w'
theorem KeptOut.set {g : Nat} {w w' : World} (h : KeptOut g w w') (i : Nat) (v : Value) : KeptOut g w (w'.setCell ⟨g, i, none⟩ v) := h.trans (KeptBut.setCell w' (by simp) v)
theorem KeptOut.drew {g : Nat} {w w' : World} (h : KeptOut g w w') : KeptOut g w w'.drew := ⟨h.os, h.tape, h.output, h.size, h.block⟩
theorem KeptOut.drewN {g : Nat} {w w' : World} (h : KeptOut g w w') (n : Nat) : KeptOut g w (w'.drewN n) := ⟨h.os, h.tape, h.output, h.size, h.block⟩
theorem KeptOut.kept {g : Nat} {w w' w'' : World} (h : KeptOut g w w') (k : Kept w' w'') : KeptOut g w w'' := h.trans (k.but _)
theorem KeptOut.below {g B : Nat} {w w' : World} (h : KeptOut g w w') (hB : B ≤ g) (hs : B ≤ w.heap.size) : Below B w w' := KeptBut.below h (by simpa using hB) hs
def CmpOk (bl B0 : Nat) (w0 : World) (cls : Int → Int) : Prop := ∀ (a b : Int) (w : World), Below B0 w0 w → Calls Tryz.prog 67 #[.int .i64 a, .int .i64 b, .pointer (some ⟨bl, 0, none⟩)] w (RetI w (cmpI (cls a) (cls b)))
theorem CmpOk.later {bl B0 : Nat} {w0 w1 : World} {cls : Int → Int} (h : CmpOk bl B0 w0 cls) (hb : Below B0 w0 w1) : CmpOk bl B0 w1 cls := fun a b w hw => h a b w (hb.trans hw)
theorem cmpI_neg {a b : Int} : cmpI a b < 0 ↔ a < b := by
  unfold cmpI
  by_cases h1 : a < b
  · simp [h1]
  · by_cases h2 : b < a <;> simp [h1, h2]
def SegPost (g off : Nat) (pre post : List Value) (w : World) (P : List Int → Prop) (e : Ending) (w' : World) : Prop := e = .returned (.tuple #[]) ∧ KeptOut g w w' ∧ ∃ ys, Seg w' g off pre post ys ∧ P ys
end Go.Proofs.YtckgmkjoblneeaaGreatDoor
namespace Go.Proofs.YtckgmkjoblneeaaGreatDoor
open Go Go.RowKit
set_option maxRecDepth 100000 in
set_option maxHeartbeats 4000000 in
theorem insertion_any (g off cp n a b : Nat) (pre post : List Value) (P S R : List Int) (bl B0 : Nat) (cls : Int → Int) (w : World) (hn : n = (P ++ S ++ R).length) (hn2 : n ≤ 100000000) (ha : a = P.length) (hb : b = P.length + S.length)
    (hseg : Seg w g off pre post (P ++ S ++ R)) (hc : CmpOk bl B0 w cls) (hB : B0 ≤ g) (hBw : B0 ≤ w.heap.size) :
    Calls Tryz.prog 108 #[.slice (some ⟨g, off, none⟩) n cp, .int .i64 a, .int .i64 b, .func (.func 67) #[] #[.pointer (some ⟨bl, 0, none⟩)]] w
      (SegPost g off pre post w fun ys => ∃ S', ys = P ++ S' ++ R ∧ S'.length = S.length ∧ Keep cls S S' ∧ Srt cls S') := by
  have HSEG := Lib.hid hseg
  have HC := Lib.hid hc
  have HN := Lib.hid (show n = P.length + S.length + R.length by rw [hn]; simp; omega)
  have HA := Lib.hid ha
  have HB := Lib.hid hb
  have hab : a ≤ b := by omega
  have hbn : b ≤ n := by have := HN.out; omega
  clear hseg hc hn ha hb
  go_enter Tryz.func108, Tryz.ntmps108
  go_wp2
  go_loopw [8] (fun vi wr => ∃ (i : Nat) (S1 : List Int), vi = .int .i64 i ∧ a + 1 ≤ i ∧ i ≤ b + 1 ∧ S1.length = S.length ∧ Keep cls S S1 ∧ Srt cls (S1.take (i - a)) ∧ Seg wr g off pre post (P ++ S1 ++ R) ∧ KeptOut g w wr) (fun vi _ => b + 1 - (intOf vi).toNat)
  case atStart =>
    refine ⟨a + 1, S, by go_num, Nat.le_refl _, by omega, rfl, Keep.refl _, ?_, HSEG.out, KeptBut.refl _ _⟩
    rw [show a + 1 - a = 1 by omega]
    cases S with
    | nil => exact .nil
    | cons x S => exact Srt.one x
  case round =>
    obtain ⟨i, S1, rfl, hi1, hi2, hlen, hkeep, hsrt, hsg, hko⟩ := hrel
    have HK := Lib.hid hkeep
    have HS := Lib.hid hsrt
    have HG := Lib.hid hsg
    have HL := Lib.hid hlen
    clear hkeep hsrt hsg hlen
    by_cases hlt : i < b
    · obtain ⟨U0, T0, hS1, hU0⟩ := split_at (xs := S1) (i := i - a) (by have := HL.out; have := HB.out; have := HA.out; omega)
      obtain ⟨x, T, hT⟩ := split_first (xs := T0) (by
        have h1 := congrArg List.length hS1
        rw [List.length_append] at h1
        have := HL.out; have := HB.out; have := HA.out
        omega)
      subst hT
      have HS1 := Lib.hid hS1
      have HU0 := Lib.hid hU0
      have HSU := Lib.hid (show Srt cls (U0 ++ []) by
        have := HS.out
        rw [hS1, List.take_left' hU0] at this
        simpa using this)
      clear hS1 hU0
      go_wp2
      obtain ⟨w1, rfl⟩ : ∃ w1 : World, w1 = wr := ⟨_, rfl⟩
      go_loopw [9] (fun vj wr => ∃ (j : Nat) (U V : List Int), vj = .int .i64 j ∧ j = a + U.length ∧ U.length + V.length = i - a ∧ Keep cls S (U ++ x :: (V ++ T)) ∧ Srt cls (U ++ V) ∧ (∀ y ∈ V, cls x < cls y) ∧ Seg wr g off pre post (P ++ (U ++ x :: (V ++ T)) ++ R) ∧ KeptOut g w wr) (fun vj _ => (intOf vj).toNat)
      case atStart =>
        refine ⟨i, U0, [], rfl, by have := HU0.out; omega, by have := HU0.out; simp; omega, ?_, HSU.out, by simp, ?_, hko⟩
        · rw [List.nil_append, ← HS1.out]; exact HK.out
        · rw [List.nil_append, ← HS1.out]; exact HG.out
      case round =>
        obtain ⟨j, U, V, rfl, hj, hUV, hkp, hst, hV, hsg, hko⟩ := hrel
        have HKP := Lib.hid hkp
        have HST := Lib.hid hst
        have HV := Lib.hid hV
        have HSG := Lib.hid hsg
        have HJ := Lib.hid hj
        have HUV := Lib.hid hUV
        have HLEN := Lib.hid (show (U ++ x :: (V ++ T)).length = S.length by
          have h1 := congrArg List.length HS1.out
          have h2 := HL.out
          have h3 := HU0.out
          simp at h1 ⊢
          omega)
        -- out of the inner loop
        have HOUT := Lib.hid (show (∀ y ∈ U, cls y ≤ cls x) → ∀ wq : World, Seg wq g off pre post (P ++ (U ++ x :: (V ++ T)) ++ R) → KeptOut g w wq → ∃ (i' : Nat) (S1 : List Int), Value.int .i64 ((i : Int) + 1) = .int .i64 i' ∧ a + 1 ≤ i' ∧ i' ≤ b + 1 ∧ S1.length = S.length ∧ Keep cls S S1 ∧ Srt cls (S1.take (i' - a)) ∧ Seg wq g off pre post (P ++ S1 ++ R) ∧ KeptOut g w wq from fun hU wq h1 h2 => by
          refine ⟨i + 1, U ++ x :: (V ++ T), by go_num, by omega, by omega, HLEN.out, HKP.out, ?_, h1, h2⟩
          have e : (U ++ x :: (V ++ T)).take (i + 1 - a) = U ++ x :: V := by
            have e1 : U ++ x :: (V ++ T) = (U ++ x :: V) ++ T := by simp
            rw [e1, List.take_left' (by simp; omega)]
          rw [e]
          refine Srt.append HST.out.left ?_ (fun y hy z hz => ?_)
          · exact List.pairwise_cons.2 ⟨fun y hy => by have := HV.out y hy; omega, HST.out.right⟩
          · rcases List.mem_cons.1 hz with rfl | hz
            · exact hU y hy
            · exact HST.out.cross y hy z hz)
        clear hkp hst hV hsg hUV
        by_cases hja : a < j
        · obtain ⟨U1, u, hU⟩ := split_last (xs := U) (by omega)
          subst hU
          obtain ⟨jp, rfl⟩ : ∃ jp, j = jp + 1 := ⟨j - 1, by omega⟩
          have hjp : jp = a + U1.length := by simp at hj; omega
          have hpl : (P ++ U1).length = jp := by have := HA.out; simp; omega
          have eL : P ++ (U1 ++ [u] ++ x :: (V ++ T)) ++ R = (P ++ U1) ++ u :: x :: (V ++ T ++ R) := by simp
          have cu : wr.cell? ⟨g, off + jp, none⟩ = some (.int .i64 u) := HSG.out.cell (i := jp) (by rw [eL, ← hpl]; exact getElem?_mid _ _ _)
          have cx : wr.cell? ⟨g, off + (jp + 1), none⟩ = some (.int .i64 x) := HSG.out.cell (i := jp + 1) (by
            have e2 : (P ++ U1) ++ u :: x :: (V ++ T ++ R) = (P ++ U1 ++ [u]) ++ x :: (V ++ T ++ R) := by simp
            have e3 : jp + 1 = (P ++ U1 ++ [u]).length := by rw [List.length_append, hpl]; rfl
            rw [eL, e2, e3]; exact getElem?_mid _ _ _)
          have HCU := Lib.hid cu
          have HCX := Lib.hid cx
          have HPL := Lib.hid hpl
          have HEL := Lib.hid eL
          have hjn : jp + 1 < n := by have h1 := HLEN.out; have h2 := HN.out; have h3 := HA.out; simp at h1; omega
          have HCMP := Lib.hid (HC.out x u wr.drew (KeptOut.below (KeptOut.drew hko) hB hBw))
          clear hj eL hpl hjp
          have hwp : IntKind.i64.wrap (jp : Int) = (jp : Int) := IntWalk.i64_in _ (by omega)
          have jz : (jp : Int) + 1 < (n : Int) := by omega
          have jz1 : (jp : Int) < (n : Int) := by omega
          have hjaz : (a : Int) < (jp : Int) + 1 := by omega
          have p0 : (0 : Int) ≤ (jp : Int) + 1 := by omega
          have e0 : ((jp : Int) + 1).toNat = jp + 1 := by omega
          by_cases hlv : cls x < cls u
          · have hcv : cmpI (cls x) (cls u) < 0 := cmpI_neg.2 hlv
            go_wp2_with fail
            go_region_held3 (fun w' => w'.cell? ⟨g, off + jp, none⟩ = some (.int .i64 u) ∧ w'.cell? ⟨g, off + (jp + 1), none⟩ = some (.int .i64 x)) (first | exact ⟨q0, q1⟩ | exact ⟨HCU.out, HCX.out⟩)
              (first | (go_at_call 67; refine HCMP.out.mono ?_; rintro e w2 ⟨rfl, hk2⟩; have q0 := Kept.cell hk2 HCU.out; have q1 := Kept.cell hk2 HCX.out))
            have hsg2 : Seg w2 g off pre post (P ++ (U1 ++ [u] ++ x :: (V ++ T)) ++ R) := (HSG.out.drew).kept hk2
            have HSG2 := Lib.hid hsg2
            have f0 := hsg2.frozen (off + jp)
            have f1 := hsg2.frozen (off + (jp + 1))
            clear cu cx hsg2
            go_wp2_with fail
            go_region
            clear hwp jz jz1 hjaz p0 e0
            all_goals go_wp2_with fail
            go_roundw
            case rel =>
              refine ⟨jp, U1, u :: V, by go_num, by have := HJ.out; simp at this; omega, by have := HUV.out; simp at this ⊢; omega, ?_, ?_, ?_, ?_, KeptOut.drew (KeptOut.set (KeptOut.set ((KeptOut.drew hko).kept hk2) _ _) _ _)⟩
              · refine HKP.out.trans ?_
                have := Keep.pair (cls := cls) (a := U1) (b := V ++ T) (u := u) (x := x) (by omega)
                simpa using this
              · have := HST.out
                simpa using this
              · intro y hy
                rcases List.mem_cons.1 hy with rfl | hy
                · exact hlv
                · exact HV.out y hy
              · have h1 := (HSG2.out.set (i := jp + 1) (by have := HLEN.out; simp at this ⊢; have := HPL.out; simp at this; omega) u)
                have h2 := h1.set (i := jp) (by rw [List.length_set]; have := HPL.out; simp at this ⊢; omega) x
                have e := swap_adj HEL.out
                rw [HPL.out] at e
                rw [e] at h2
                have e4 : P ++ U1 ++ x :: u :: (V ++ T ++ R) = P ++ (U1 ++ x :: (u :: V ++ T)) ++ R := by simp
                rw [e4] at h2
                exact h2
            case measure => simp [intOf]
          · have hcv : ¬ cmpI (cls x) (cls u) < 0 := fun h => hlv (cmpI_neg.1 h)
            go_wp2_with fail
            go_region_held3 (fun w' => w'.cell? ⟨g, off + jp, none⟩ = some (.int .i64 u) ∧ w'.cell? ⟨g, off + (jp + 1), none⟩ = some (.int .i64 x)) (first | exact ⟨q0, q1⟩ | exact ⟨HCU.out, HCX.out⟩)
              (first | (go_at_call 67; refine HCMP.out.mono ?_; rintro e w2 ⟨rfl, hk2⟩; have q0 := Kept.cell hk2 HCU.out; have q1 := Kept.cell hk2 HCX.out))
            clear hwp jz jz1 hjaz p0 e0
            go_wp2_with fail
            go_roundw
            case rel =>
              refine HOUT.out (fun y hy => ?_) _ ((HSG.out.drew).kept hk2) ((KeptOut.drew hko).kept hk2)
              rcases List.mem_append.1 hy with hy | hy
              · have := HST.out.left.cross y hy u (by simp)
                omega
              · rw [List.mem_singleton.1 hy]; omega
            case measure => simp [intOf]; omega
        · have hU : U = [] := List.length_eq_zero_iff.1 (by omega)
          subst hU
          have hdec : decide ((a : Int) < (j : Int)) = false := by simp; omega
          clear hj
          go_wp2_with fail
          go_quiet (fail)
          go_wp2_with fail
          go_roundw
          case rel => exact HOUT.out (fun y hy => by simp at hy) _ (HSG.out.drewN _) (KeptOut.drewN hko _)
          case measure => simp [intOf]; omega
    · go_wp2
      go_end0
      refine ⟨rfl, hko, _, HG.out, S1, rfl, HL.out, HK.out, ?_⟩
      have := HS.out
      rwa [List.take_of_length_le (by have := HL.out; have := HB.out; have := HA.out; omega)] at this
end Go.Proofs.YtckgmkjoblneeaaGreatDoor
