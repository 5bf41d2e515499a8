/- slices.symMergeCmpFunc at numbers, where the second part has one element. -/
import Derived.Test.YtobcaploncgnbaaGreatDoorKStb
namespace Go.Proofs.YtobcaploncgnbaaGreatDoor
open Go Go.RowKit

set_option maxRecDepth 100000 in
set_option maxHeartbeats 4000000 in
theorem symMerge_right (g off cp n : Nat) (pre post : List Value) (P U R : List Int) (y : Int) (bl B0 : Nat) (cls : Int → Int) (ai mi bi : Int) (w : World) (hn : n = (P ++ U ++ [y] ++ R).length) (hn2 : n ≤ 1000000) (hU : 1 < U.length) (ha : ai = (P.length : Nat)) (hm : mi = ((P ++ U).length : Nat)) (hb : bi = ((P ++ U ++ [y]).length : Nat))
    (hsU : Srt cls U) (hseg : Seg w g off pre post (P ++ U ++ [y] ++ R)) (hc : CmpOk bl B0 w cls) (_hB : B0 ≤ g) (hBw : B0 ≤ w.heap.size) :
    Calls Tryz.prog 76 #[.slice (some ⟨g, off, none⟩) n cp, .int .i64 ai, .int .i64 mi, .int .i64 bi, .func (.func 35) #[] #[.pointer (some ⟨bl, 0, none⟩)]] w
      (MergePost g off pre post w cls P U [y] R) := by
  obtain ⟨a, rfl⟩ : ∃ a : Nat, ai = a := ⟨_, ha⟩
  obtain ⟨m, rfl⟩ : ∃ m : Nat, mi = m := ⟨_, hm⟩
  have hmb : bi = (m : Int) + 1 := by rw [hb, hm]; simp; omega
  subst hmb
  have HA := Lib.hid (show a = P.length by omega)
  have HM := Lib.hid (show m = P.length + U.length by simp at hm; omega)
  have HN := Lib.hid (show n = P.length + U.length + 1 + R.length by rw [hn]; simp; omega)
  have HSEG := Lib.hid hseg
  have HC := Lib.hid hc
  have HSU := Lib.hid hsU
  have hb1 : a + 1 < m := by have := HA.out; have := HM.out; omega
  have hb2 : m < n := by have := HM.out; have := HN.out; omega
  have hya : (P ++ U ++ [y] ++ R)[m]? = some y := by
    have e : P ++ U ++ [y] ++ R = (P ++ U) ++ y :: R := by simp
    have e1 : m = (P ++ U).length := by rw [List.length_append]; exact HM.out
    rw [e, e1]; exact getElem?_mid _ _ _
  have HYA := Lib.hid hya
  have hone : ((m : Int) - (a : Int) == 1) = false := by simp; omega
  have hone2 : ((m : Int) + 1 - (m : Int) == 1) = true := by simp; omega
  clear hn ha hm hb hseg hc hsU hya
  go_enter Tryz.func76, Tryz.ntmps76
  go_wp2
  clear hone hone2
  go_loopw [14, 15] (fun vi vj wr => ∃ i j : Nat, vi = .int .i64 i ∧ vj = .int .i64 j ∧ a ≤ i ∧ i ≤ j ∧ j ≤ m ∧ (∀ (k : Nat) u, a + k < i → U[k]? = some u → cls u ≤ cls y) ∧ (∀ (k : Nat) u, j ≤ a + k → U[k]? = some u → cls y < cls u) ∧ Below w.heap.size w wr) (fun vi vj _ => (intOf vj).toNat - (intOf vi).toNat)
  case atStart => exact ⟨a, m, rfl, rfl, Nat.le_refl _, by omega, Nat.le_refl _, fun k u h => by omega, fun k u h1 h2 => by have := lt_of_getElem?_some h2; have := HM.out; have := HA.out; omega, Below.refl _ _⟩
  case round =>
    obtain ⟨i, j, rfl, rfl, hi, hij, hjb, hlo, hhi, hBl⟩ := hrel
    have HLO := Lib.hid hlo
    have HHI := Lib.hid hhi
    clear hlo hhi
    by_cases hlt : i < j
    · obtain ⟨h, hh⟩ : ∃ h : Nat, h = (i + j) / 2 := ⟨_, rfl⟩
      have hh1 : i ≤ h ∧ h < j := by omega
      obtain ⟨u, hu⟩ := getElem?_some_of_lt (l := U) (k := h - a) (by have := HM.out; have := HA.out; omega)
      have huL : (P ++ U ++ [y] ++ R)[h]? = some u := by
        have e1 : P ++ U ++ [y] ++ R = P ++ (U ++ ([y] ++ R)) := by simp
        rw [e1, List.getElem?_append_right (by have := HA.out; omega), List.getElem?_append_left (by have := HA.out; have := HM.out; omega)]
        rw [← hu]
        congr 1
        have := HA.out
        omega
      have cu := (HSEG.out.kept hBl).cell huL
      have cy := (HSEG.out.kept hBl).cell HYA.out
      have HCU := Lib.hid cu
      have HCY := Lib.hid cy
      have HUU := Lib.hid hu
      have HCMP := Lib.hid (HC.out y u wr.drew (Kept.drew hBl |>.mono hBw))
      obtain ⟨hh2, hh3⟩ := hh1
      have hmid : ((i : Int) + (j : Int)) / 2 = (h : Int) := by omega
      have ln : (h : Int) < (n : Int) := by omega
      have ln2 : (m : Int) < (n : Int) := by omega
      clear hh hu huL
      by_cases hlv : cls y < cls u
      · have hcv : cmpI (cls y) (cls u) < 0 := cmpI_neg.2 hlv
        go_wp2_with fail
        go_region_held3 (fun w' => w'.cell? ⟨g, off + m, none⟩ = some (.int .i64 y) ∧ w'.cell? ⟨g, off + h, none⟩ = some (.int .i64 u)) (first | exact ⟨q0, q1⟩ | exact ⟨HCY.out, HCU.out⟩)
          (first | (go_at_call 35; refine HCMP.out.mono ?_; rintro e w2 ⟨rfl, hk2⟩; have q0 := Kept.cell hk2 HCY.out; have q1 := Kept.cell hk2 HCU.out))
        clear hmid ln ln2
        go_wp2_with fail
        go_roundw
        case rel =>
          refine ⟨i, h, rfl, rfl, hi, by omega, by omega, HLO.out, fun k z hk hz => ?_, Kept.trans hBl (Kept.trans (Kept.drew (Kept.refl _)) hk2)⟩
          have := srt_get HSU.out (i := h - a) (j := k) (by omega) HUU.out hz
          omega
        case measure => simp [intOf]; omega
      · have hcv : ¬ cmpI (cls y) (cls u) < 0 := fun h => hlv (cmpI_neg.1 h)
        have hcd : decide (cmpI (cls y) (cls u) < 0) = false := decide_eq_false hcv
        go_wp2_with fail
        go_region_held3 (fun w' => w'.cell? ⟨g, off + m, none⟩ = some (.int .i64 y) ∧ w'.cell? ⟨g, off + h, none⟩ = some (.int .i64 u)) (first | exact ⟨q0, q1⟩ | exact ⟨HCY.out, HCU.out⟩)
          (first | (go_at_call 35; refine HCMP.out.mono ?_; rintro e w2 ⟨rfl, hk2⟩; have q0 := Kept.cell hk2 HCY.out; have q1 := Kept.cell hk2 HCU.out))
        clear hmid ln ln2
        go_wp2_with fail
        go_roundw
        case rel =>
          refine ⟨h + 1, j, by go_num, rfl, by omega, by omega, hjb, fun k z hk hz => ?_, HHI.out, Kept.trans hBl (Kept.trans (Kept.drew (Kept.refl _)) hk2)⟩
          have := srt_get HSU.out (i := k) (j := h - a) (by omega) hz HUU.out
          omega
        case measure => simp [intOf]; omega
    · obtain rfl : i = j := by omega
      obtain ⟨U1, U2, hU12, hU1⟩ := split_at (xs := U) (i := i - a) (by have := HM.out; have := HA.out; omega)
      have hle1 : ∀ v ∈ U1, cls v ≤ cls y := fun v hv => by
        rw [show U1 = U.take (i - a) by rw [hU12, List.take_left' hU1]] at hv
        obtain ⟨k, hk, hkv⟩ := mem_take_get hv
        exact HLO.out k v (by omega) hkv
      have hgt2 : ∀ v ∈ U2, cls y < cls v := fun v hv => by
        rw [show U2 = U.drop (i - a) by rw [hU12, List.drop_left' hU1]] at hv
        obtain ⟨k, hk, hkv⟩ := mem_drop_get hv
        exact HHI.out k v (by omega) hkv
      have HU12 := Lib.hid hU12
      have HU1 := Lib.hid hU1
      have HL1 := Lib.hid hle1
      have HG2 := Lib.hid hgt2
      have hsg := HSEG.out.kept hBl
      have HSG := Lib.hid hsg
      clear hU12 hU1 hle1 hgt2 hsg
      go_wp2_with fail
      obtain ⟨w1, rfl⟩ : ∃ w1 : World, w1 = wr := ⟨_, rfl⟩
      go_loopw [17] (fun vk wr => ∃ (k : Nat) (A1 A2 : List Int), vk = .int .i64 k ∧ U2 = A1 ++ A2 ∧ k = i + A1.length ∧ Seg wr g off pre post (P ++ U1 ++ A1 ++ y :: (A2 ++ R)) ∧ KeptOut g w wr) (fun vk _ => (intOf vk).toNat)
      case atStart =>
        refine ⟨m, U2, [], rfl, by simp, ?_, ?_, Kept.but hBl _⟩
        · have h1 := congrArg List.length HU12.out
          rw [List.length_append] at h1
          have := HU1.out; have := HM.out; have := HA.out
          omega
        · have := HSG.out
          rw [HU12.out] at this
          simpa using this
      case round =>
        obtain ⟨k, A1, A2, rfl, hA12, hk, hsg, hko⟩ := hrel
        have HA12 := Lib.hid hA12
        have HK := Lib.hid hk
        have HSG1 := Lib.hid hsg
        have hkm : k ≤ m := by
          have h1 := congrArg List.length hA12
          have h2 := congrArg List.length HU12.out
          rw [List.length_append] at h1 h2
          have := HU1.out; have := HM.out; have := HA.out
          omega
        clear hA12 hsg
        by_cases hlt2 : i < k
        · obtain ⟨A3, u, hA3⟩ := split_last (xs := A1) (by omega)
          subst hA3
          obtain ⟨kp, rfl⟩ : ∃ kp, k = kp + 1 := ⟨k - 1, by omega⟩
          have hpl : (P ++ U1 ++ A3).length = kp := by have := HA.out; have := HU1.out; simp at hk ⊢; omega
          have eL : P ++ U1 ++ (A3 ++ [u]) ++ y :: (A2 ++ R) = (P ++ U1 ++ A3) ++ u :: y :: (A2 ++ R) := by simp
          have cu : wr.cell? ⟨g, off + kp, none⟩ = some (.int .i64 u) := HSG1.out.cell (by rw [eL, ← hpl]; exact getElem?_mid _ _ _)
          have cy : wr.cell? ⟨g, off + (kp + 1), none⟩ = some (.int .i64 y) := HSG1.out.cell (by
            have e2 : (P ++ U1 ++ A3) ++ u :: y :: (A2 ++ R) = (P ++ U1 ++ A3 ++ [u]) ++ y :: (A2 ++ R) := by simp
            have e3 : kp + 1 = (P ++ U1 ++ A3 ++ [u]).length := by rw [List.length_append, hpl]; rfl
            rw [eL, e2, e3]; exact getElem?_mid _ _ _)
          have f0 := HSG1.out.frozen (off + kp)
          have f1 := HSG1.out.frozen (off + (kp + 1))
          have HPL := Lib.hid hpl
          have HEL := Lib.hid eL
          clear hk hpl eL
          have hwp : IntKind.i64.wrap (kp : Int) = (kp : Int) := IntWalk.i64_in _ (by omega)
          have jz : (kp : Int) + 1 < (n : Int) := by omega
          have jz1 : (kp : Int) < (n : Int) := by omega
          have p0 : (0 : Int) ≤ (kp : Int) + 1 := by omega
          have e0 : ((kp : Int) + 1).toNat = kp + 1 := by omega
          have ct : (i : Int) < (kp : Int) + 1 := by omega
          go_wp2_with fail
          go_region
          clear hwp jz jz1 p0 e0 ct
          all_goals go_wp2_with fail
          go_roundw
          case rel =>
            refine ⟨kp, A3, u :: A2, by go_num, by rw [HA12.out]; simp, by have := HK.out; simp at this; omega, ?_, KeptOut.drew (KeptOut.set (KeptOut.set hko _ _) _ _)⟩
            have hl : (P ++ U1 ++ (A3 ++ [u]) ++ y :: (A2 ++ R)).length = n := by
              have h1 := congrArg List.length HA12.out
              have h2 := congrArg List.length HU12.out
              have h3 := HN.out
              simp at h1 h2 ⊢
              omega
            have h1 := HSG1.out.set (i := kp + 1) (by rw [hl]; omega) u
            have h2 := h1.set (i := kp) (by rw [List.length_set, hl]; omega) y
            have e := swap_adj HEL.out
            rw [HPL.out] at e
            rw [e] at h2
            have e4 : P ++ U1 ++ A3 ++ y :: u :: (A2 ++ R) = P ++ U1 ++ A3 ++ y :: (u :: A2 ++ R) := by simp
            rw [e4] at h2
            exact h2
          case measure => simp [intOf]
        · have hA1 : A1 = [] := List.length_eq_zero_iff.1 (by omega)
          subst hA1
          clear hk
          go_wp2_with fail
          refine bodyPost_ret (results_none rfl _ _ _) rfl ?_
          obtain ⟨m1, m2⟩ := merge_right (cls := cls) (y := y) (U1 := U1) (U2 := U2) (by rw [← HU12.out]; exact HSU.out) HL1.out HG2.out
          refine ⟨rfl, hko, _, HSG1.out, U1 ++ y :: U2, ?_, ?_, ?_, m2⟩
          · rw [HA12.out]; simp
          · rw [HU12.out]; simp; omega
          · rw [HU12.out]; exact m1
end Go.Proofs.YtobcaploncgnbaaGreatDoor
