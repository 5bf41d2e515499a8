/- slices.swapRangeCmpFunc and rotateCmpFunc at numbers: two parts change places. slices.symMergeCmpFunc at numbers, where one of the parts has one element. -/
import Derived.Test.YtobcaploncgnbaaGreatDoorKSta
namespace Go.Proofs.YtobcaploncgnbaaGreatDoor
open Go Go.RowKit

set_option maxRecDepth 100000 in
set_option maxHeartbeats 4000000 in
theorem swapRange_any (g off cp n : Nat) (pre post : List Value) (P U M V R : List Int) (fn : Value) (ai bi ki : Int) (w : World) (hn : n = (P ++ U ++ M ++ V ++ R).length) (hn2 : n ≤ 1000000) (hUV : U.length = V.length) (ha : ai = (P.length : Nat)) (hb : bi = ((P ++ U ++ M).length : Nat)) (hk : ki = (U.length : Nat))
    (hseg : Seg w g off pre post (P ++ U ++ M ++ V ++ R)) :
    Calls Tryz.prog 98 #[.slice (some ⟨g, off, none⟩) n cp, .int .i64 ai, .int .i64 bi, .int .i64 ki, fn] w
      (SegPost g off pre post w fun ys => ys = P ++ V ++ M ++ U ++ R) := by
  obtain ⟨a, rfl⟩ : ∃ a : Nat, ai = a := ⟨_, ha⟩
  obtain ⟨b, rfl⟩ : ∃ b : Nat, bi = b := ⟨_, hb⟩
  obtain ⟨k, rfl⟩ : ∃ k : Nat, ki = k := ⟨_, hk⟩
  have HA := Lib.hid (show a = P.length by omega)
  have HB := Lib.hid (show b = P.length + U.length + M.length by simp at hb; omega)
  have HK := Lib.hid (show k = U.length by omega)
  have HUV := Lib.hid hUV
  have HN := Lib.hid (show n = P.length + U.length + M.length + V.length + R.length by rw [hn]; simp; omega)
  have HSEG := Lib.hid hseg
  have hb1 : a + k ≤ b := by have := HA.out; have := HB.out; have := HK.out; omega
  have hb2 : b + k ≤ n := by have := HB.out; have := HK.out; have := HN.out; have := HUV.out; omega
  clear hn hUV ha hb hk hseg
  go_enter Tryz.func98, Tryz.ntmps98
  go_wp2
  go_loopw [10] (fun vi wr => ∃ (i : Nat) (U1 U2 V1 V2 : List Int), vi = .int .i64 i ∧ i ≤ k ∧ U = U1 ++ U2 ∧ V = V1 ++ V2 ∧ U1.length = i ∧ V1.length = i ∧ Seg wr g off pre post (P ++ V1 ++ U2 ++ M ++ U1 ++ V2 ++ R) ∧ KeptOut g w wr) (fun vi _ => k - (intOf vi).toNat)
  case atStart => exact ⟨0, [], U, [], V, rfl, Nat.zero_le _, rfl, rfl, rfl, rfl, by simpa using HSEG.out, KeptBut.refl _ _⟩
  case round =>
    obtain ⟨i, U1, U2, V1, V2, rfl, hik, hU, hV, hU1, hV1, hsg, hko⟩ := hrel
    have HU := Lib.hid hU
    have HV := Lib.hid hV
    have HU1 := Lib.hid hU1
    have HV1 := Lib.hid hV1
    have HSG := Lib.hid hsg
    clear hU hV hU1 hV1 hsg
    by_cases hlt : i < k
    · obtain ⟨u, U3, hU3⟩ := split_first (xs := U2) (by have h1 := congrArg List.length HU.out; rw [List.length_append] at h1; have := HU1.out; have := HK.out; omega)
      obtain ⟨v, V3, hV3⟩ := split_first (xs := V2) (by have h1 := congrArg List.length HV.out; rw [List.length_append] at h1; have := HV1.out; have := HK.out; have := HUV.out; omega)
      subst hU3
      subst hV3
      have hp1 : (P ++ V1).length = a + i := by rw [List.length_append, HV1.out, HA.out]
      have hp2 : a + i + 1 + (U3 ++ M ++ U1).length = b + i := by
        have h1 := congrArg List.length HU.out
        have h2 := HB.out
        have h3 := HA.out
        have h4 := HU1.out
        simp at h1 ⊢
        omega
      have eL : P ++ V1 ++ u :: U3 ++ M ++ U1 ++ v :: V3 ++ R = (P ++ V1) ++ u :: ((U3 ++ M ++ U1) ++ v :: (V3 ++ R)) := by simp
      have cu : wr.cell? ⟨g, off + (a + i), none⟩ = some (.int .i64 u) := HSG.out.cell (by rw [eL, ← hp1]; exact getElem?_mid _ _ _)
      have cv : wr.cell? ⟨g, off + (b + i), none⟩ = some (.int .i64 v) := HSG.out.cell (by
        have e2 : (P ++ V1) ++ u :: ((U3 ++ M ++ U1) ++ v :: (V3 ++ R)) = ((P ++ V1) ++ u :: (U3 ++ M ++ U1)) ++ v :: (V3 ++ R) := by simp
        have e3 : b + i = ((P ++ V1) ++ u :: (U3 ++ M ++ U1)).length := by rw [List.length_append, hp1, List.length_cons]; omega
        rw [eL, e2, e3]; exact getElem?_mid _ _ _)
      have f0 := HSG.out.frozen (off + (a + i))
      have f1 := HSG.out.frozen (off + (b + i))
      have HP1 := Lib.hid hp1
      have HP2 := Lib.hid hp2
      have HEL := Lib.hid eL
      clear hp1 hp2 eL
      have wa : IntKind.i64.wrap ((a : Int) + (i : Int)) = (a : Int) + (i : Int) := IntWalk.i64_in _ (by omega)
      have wb : IntKind.i64.wrap ((b : Int) + (i : Int)) = (b : Int) + (i : Int) := IntWalk.i64_in _ (by omega)
      have za : (0 : Int) ≤ (a : Int) + (i : Int) := by omega
      have zb : (0 : Int) ≤ (b : Int) + (i : Int) := by omega
      have la : (a : Int) + (i : Int) < (n : Int) := by omega
      have lb : (b : Int) + (i : Int) < (n : Int) := by omega
      have ta : ((a : Int) + (i : Int)).toNat = a + i := by omega
      have tb : ((b : Int) + (i : Int)).toNat = b + i := by omega
      have hne : ¬ a + i = b + i := by omega
      have hne' : ¬ b + i = a + i := by omega
      have hne2 : ¬ a = b := by omega
      have hne3 : ¬ b = a := by omega
      go_wp2_with fail
      go_region
      clear wa wb za zb la lb ta tb hne hne' hne2 hne3
      all_goals go_wp2_with fail
      go_roundw
      case rel =>
        refine ⟨i + 1, U1 ++ [u], U3, V1 ++ [v], V3, by go_num, by omega, by rw [HU.out]; simp, by rw [HV.out]; simp, by simp [HU1.out], by simp [HV1.out], ?_, KeptOut.drew (KeptOut.set (KeptOut.set hko _ _) _ _)⟩
        have hl : (P ++ V1 ++ u :: U3 ++ M ++ U1 ++ v :: V3 ++ R).length = n := by
          have h1 := congrArg List.length HU.out
          have h2 := congrArg List.length HV.out
          have h3 := HN.out
          simp at h1 h2 ⊢
          omega
        have h1 := HSG.out.set (i := a + i) (by rw [hl]; omega) v
        have h2 := h1.set (i := b + i) (by rw [List.length_set, hl]; omega) u
        have e := swap_far HEL.out
        rw [HP1.out, HP2.out] at e
        rw [e] at h2
        have e4 : P ++ V1 ++ v :: (U3 ++ M ++ U1 ++ u :: (V3 ++ R)) = P ++ (V1 ++ [v]) ++ U3 ++ M ++ (U1 ++ [u]) ++ V3 ++ R := by simp
        rw [e4] at h2
        exact h2
      case measure => simp [intOf]; omega
    · go_wp2
      go_end0
      refine ⟨rfl, hko, _, HSG.out, ?_⟩
      have hU2 : U2 = [] := List.length_eq_zero_iff.1 (by have h1 := congrArg List.length HU.out; rw [List.length_append] at h1; have := HU1.out; have := HK.out; omega)
      have hV2 : V2 = [] := List.length_eq_zero_iff.1 (by have h1 := congrArg List.length HV.out; rw [List.length_append] at h1; have := HV1.out; have := HK.out; have := HUV.out; omega)
      rw [HU.out, HV.out, hU2, hV2]
      simp

set_option maxRecDepth 100000 in
set_option maxHeartbeats 4000000 in
theorem rotate_any (g off cp n : Nat) (pre post : List Value) (P U V R : List Int) (fn : Value) (ai mi bi : Int) (w : World) (hn : n = (P ++ U ++ V ++ R).length) (hn2 : n ≤ 1000000) (hU : 0 < U.length) (hV : 0 < V.length) (ha : ai = (P.length : Nat)) (hm : mi = ((P ++ U).length : Nat)) (hb : bi = ((P ++ U ++ V).length : Nat))
    (hseg : Seg w g off pre post (P ++ U ++ V ++ R)) :
    Calls Tryz.prog 84 #[.slice (some ⟨g, off, none⟩) n cp, .int .i64 ai, .int .i64 mi, .int .i64 bi, fn] w
      (SegPost g off pre post w fun ys => ys = P ++ V ++ U ++ R) := by
  obtain ⟨a, rfl⟩ : ∃ a : Nat, ai = a := ⟨_, ha⟩
  obtain ⟨m, rfl⟩ : ∃ m : Nat, mi = m := ⟨_, hm⟩
  obtain ⟨b, rfl⟩ : ∃ b : Nat, bi = b := ⟨_, hb⟩
  have HA := Lib.hid (show a = P.length by omega)
  have HM := Lib.hid (show m = P.length + U.length by simp at hm; omega)
  have HB := Lib.hid (show b = P.length + U.length + V.length by simp at hb; omega)
  have HN := Lib.hid (show n = P.length + U.length + V.length + R.length by rw [hn]; simp; omega)
  have HSEG := Lib.hid hseg
  have h1 : a < m := by have := HA.out; have := HM.out; omega
  have h2 : m < b := by have := HB.out; have := HM.out; omega
  have h3 : b ≤ n := by have := HB.out; have := HN.out; omega
  clear hn ha hm hb hseg
  go_enter Tryz.func84, Tryz.ntmps84
  go_wp2
  go_loopw [10, 11] (fun vi vj wr => ∃ (i j : Nat) (P1 U1 V1 R1 : List Int), vi = .int .i64 i ∧ vj = .int .i64 j ∧ U1.length = i ∧ V1.length = j ∧ 0 < i ∧ 0 < j ∧ P1.length + i = m ∧ m + j ≤ n ∧ P1.length + i + j + R1.length = n ∧ P1 ++ V1 ++ U1 ++ R1 = P ++ V ++ U ++ R ∧ Seg wr g off pre post (P1 ++ U1 ++ V1 ++ R1) ∧ KeptOut g w wr) (fun vi vj _ => (intOf vi).toNat + (intOf vj).toNat)
  case atStart =>
    refine ⟨m - a, b - m, P, U, V, R, ?_, ?_, by have := HA.out; have := HM.out; omega, by have := HB.out; have := HM.out; omega, by omega, by omega, by have := HA.out; have := HM.out; omega, by omega, by have := HA.out; have := HM.out; have := HB.out; have := HN.out; omega, rfl, HSEG.out, KeptBut.refl _ _⟩
    · congr 1; omega
    · congr 1; omega
  case round =>
    obtain ⟨i, j, P1, U1, V1, R1, rfl, rfl, hU1, hV1, hi, hj, hP1, hmj, hln, htg, hsg, hko⟩ := hrel
    have HU1 := Lib.hid hU1
    have HV1 := Lib.hid hV1
    have HP1 := Lib.hid hP1
    have HLN := Lib.hid hln
    have HTG := Lib.hid htg
    have HSG := Lib.hid hsg
    have him : i ≤ m := by omega
    clear hU1 hV1 hP1 hln htg hsg
    by_cases hij : i = j
    · have hbne : ((i : Int) != (j : Int)) = false := by simp [hij]
      have HIJ := Lib.hid hij
      have HSW := Lib.hid (swapRange_any g off cp n pre post P1 U1 [] V1 R1 fn ((m : Int) - (i : Int)) m i wr (by simp; have := HLN.out; have := HU1.out; have := HV1.out; omega) hn2 (by rw [HU1.out, HV1.out]; exact hij) (by have := HP1.out; omega) (by have := HP1.out; have := HU1.out; simp; omega) (by rw [HU1.out]) (by simpa using HSG.out))
      clear hij
      go_wp2_with fail
      refine HSW.out.mono ?_
      rintro e w2 ⟨rfl, hk2, ys, hs2, hy⟩
      have HS2 := Lib.hid hs2
      have HY := Lib.hid hy
      clear hs2 hy
      go_wp2_with fail
      go_end0
      refine ⟨rfl, hko.trans hk2, _, HS2.out, ?_⟩
      rw [HY.out, ← HTG.out]; simp
    · have hbne : ((i : Int) != (j : Int)) = true := by rw [bne_iff_ne]; omega
      have hij' : i < j ∨ j < i := by omega
      by_cases hgt : j < i
      · obtain ⟨A1, B1, hAB, hA1⟩ := split_at (xs := U1) (i := j) (by rw [HU1.out]; omega)
        have HAB := Lib.hid hAB
        have HA1 := Lib.hid hA1
        have HB1 := Lib.hid (show B1.length + j = i by have h := congrArg List.length hAB; rw [List.length_append] at h; have := HU1.out; omega)
        have HSW := Lib.hid (swapRange_any g off cp n pre post P1 A1 B1 V1 R1 fn ((m : Int) - (i : Int)) m j wr (by simp; have := HLN.out; have := HA1.out; have := HB1.out; have := HV1.out; omega) hn2 (by rw [HA1.out, HV1.out]) (by have := HP1.out; omega) (by have := HP1.out; have := HA1.out; have := HB1.out; simp; omega) (by rw [HA1.out]) (by have := HSG.out; rw [hAB] at this; simpa using this))
        clear hij hAB hA1
        go_wp2_with fail
        refine HSW.out.mono ?_
        rintro e w2 ⟨rfl, hk2, ys, hs2, hy⟩
        have HS2 := Lib.hid hs2
        have HY := Lib.hid hy
        clear hs2 hy
        go_wp2_with fail
        go_roundw
        case rel =>
          refine ⟨i - j, j, P1 ++ V1, B1, A1, R1, by congr 1; omega, rfl, by have := HB1.out; omega, HA1.out, by omega, hj, by rw [List.length_append, HV1.out]; have := HP1.out; omega, hmj, by rw [List.length_append, HV1.out]; have := HLN.out; omega, ?_, ?_, hko.trans hk2⟩
          · rw [← HTG.out, HAB.out]; simp
          · have := HS2.out; rw [HY.out] at this; simpa using this
        case measure => simp [intOf]; omega
      · obtain ⟨A1, B1, hAB, hA1⟩ := split_at (xs := V1) (i := j - i) (by rw [HV1.out]; omega)
        have HAB := Lib.hid hAB
        have HA1 := Lib.hid hA1
        have HB1 := Lib.hid (show B1.length = i by have h := congrArg List.length hAB; rw [List.length_append] at h; have := HV1.out; omega)
        have HSW := Lib.hid (swapRange_any g off cp n pre post P1 U1 A1 B1 R1 fn ((m : Int) - (i : Int)) ((m : Int) + (j : Int) - (i : Int)) i wr (by simp; have := HLN.out; have := HA1.out; have := HB1.out; have := HU1.out; omega) hn2 (by rw [HU1.out, HB1.out]) (by have := HP1.out; omega) (by have := HP1.out; have := HA1.out; have := HU1.out; simp; omega) (by rw [HU1.out]) (by have := HSG.out; rw [hAB] at this; simpa using this))
        clear hij hAB hA1
        go_wp2_with fail
        refine HSW.out.mono ?_
        rintro e w2 ⟨rfl, hk2, ys, hs2, hy⟩
        have HS2 := Lib.hid hs2
        have HY := Lib.hid hy
        clear hs2 hy
        go_wp2_with fail
        go_roundw
        case rel =>
          refine ⟨i, j - i, P1, B1, A1, U1 ++ R1, rfl, by congr 1; omega, HB1.out, HA1.out, hi, by omega, HP1.out, by omega, by rw [List.length_append, HU1.out]; have := HLN.out; omega, ?_, ?_, hko.trans hk2⟩
          · rw [← HTG.out, HAB.out]; simp
          · have := HS2.out; rw [HY.out] at this; simpa using this
        case measure => simp [intOf]; omega
end Go.Proofs.YtobcaploncgnbaaGreatDoor
namespace Go.Proofs.YtobcaploncgnbaaGreatDoor
open Go Go.RowKit

def MergePost (g off : Nat) (pre post : List Value) (w : World) (cls : Int → Int) (P U V R : List Int) (e : Ending) (w' : World) : Prop :=
  SegPost g off pre post w (fun ys => ∃ S', ys = P ++ S' ++ R ∧ S'.length = U.length + V.length ∧ Keep cls (U ++ V) S' ∧ Srt cls S') e w'

set_option maxRecDepth 100000 in
set_option maxHeartbeats 4000000 in
theorem symMerge_left (g off cp n : Nat) (pre post : List Value) (P V R : List Int) (x : Int) (bl B0 : Nat) (cls : Int → Int) (ai mi bi : Int) (w : World) (hn : n = (P ++ [x] ++ V ++ R).length) (hn2 : n ≤ 1000000) (hV : 0 < V.length) (ha : ai = (P.length : Nat)) (hm : mi = ((P ++ [x]).length : Nat)) (hb : bi = ((P ++ [x] ++ V).length : Nat))
    (hsV : Srt cls V) (hseg : Seg w g off pre post (P ++ [x] ++ V ++ R)) (hc : CmpOk bl B0 w cls) (_hB : B0 ≤ g) (hBw : B0 ≤ w.heap.size) :
    Calls Tryz.prog 76 #[.slice (some ⟨g, off, none⟩) n cp, .int .i64 ai, .int .i64 mi, .int .i64 bi, .func (.func 35) #[] #[.pointer (some ⟨bl, 0, none⟩)]] w
      (MergePost g off pre post w cls P [x] V R) := by
  obtain ⟨a, rfl⟩ : ∃ a : Nat, ai = a := ⟨_, ha⟩
  have hma : mi = (a : Int) + 1 := by rw [hm, ha]; simp
  subst hma
  obtain ⟨b, rfl⟩ : ∃ b : Nat, bi = b := ⟨_, hb⟩
  have HA := Lib.hid (show a = P.length by omega)
  have HB := Lib.hid (show b = P.length + 1 + V.length by simp at hb; omega)
  have HN := Lib.hid (show n = P.length + 1 + V.length + R.length by rw [hn]; simp; omega)
  have HSEG := Lib.hid hseg
  have HC := Lib.hid hc
  have HSV := Lib.hid hsV
  have hb1 : a + 1 < b := by have := HA.out; have := HB.out; omega
  have hb2 : b ≤ n := by have := HB.out; have := HN.out; omega
  have hxa : (P ++ [x] ++ V ++ R)[a]? = some x := by
    have e : P ++ [x] ++ V ++ R = P ++ x :: (V ++ R) := by simp
    rw [e, HA.out]; exact getElem?_mid _ _ _
  have HXA := Lib.hid hxa
  have hone : ((a : Int) + 1 - (a : Int) == 1) = true := by simp; omega
  clear hn ha hm hb hseg hc hsV hxa
  go_enter Tryz.func76, Tryz.ntmps76
  go_wp2
  clear hone
  go_loopw [10, 11] (fun vi vj wr => ∃ i j : Nat, vi = .int .i64 i ∧ vj = .int .i64 j ∧ a + 1 ≤ i ∧ i ≤ j ∧ j ≤ b ∧ (∀ (k : Nat) y, a + 1 + k < i → V[k]? = some y → cls y < cls x) ∧ (∀ (k : Nat) y, j ≤ a + 1 + k → V[k]? = some y → cls x ≤ cls y) ∧ Below w.heap.size w wr) (fun vi vj _ => (intOf vj).toNat - (intOf vi).toNat)
  case atStart => exact ⟨a + 1, b, by go_num, rfl, Nat.le_refl _, by omega, Nat.le_refl _, fun k y h => by omega, fun k y h1 h2 => by have := lt_of_getElem?_some h2; have := HB.out; have := HA.out; omega, Below.refl _ _⟩
  case round =>
    obtain ⟨i, j, rfl, rfl, hi, hij, hjb, hlo, hhi, hBl⟩ := hrel
    have HLO := Lib.hid hlo
    have HHI := Lib.hid hhi
    clear hlo hhi
    by_cases hlt : i < j
    · obtain ⟨h, hh⟩ : ∃ h : Nat, h = (i + j) / 2 := ⟨_, rfl⟩
      have hh1 : i ≤ h ∧ h < j := by omega
      obtain ⟨y, hy⟩ := getElem?_some_of_lt (l := V) (k := h - (a + 1)) (by have := HB.out; have := HA.out; omega)
      have hyL : (P ++ [x] ++ V ++ R)[h]? = some y := by
        have e1 : P ++ [x] ++ V ++ R = (P ++ [x]) ++ (V ++ R) := by simp
        rw [e1, List.getElem?_append_right (by simp; have := HA.out; omega), List.getElem?_append_left (by simp; have := HA.out; have := HB.out; omega)]
        rw [← hy]
        congr 1
        simp
        have := HA.out
        omega
      have cy := (HSEG.out.kept hBl).cell hyL
      have cx := (HSEG.out.kept hBl).cell HXA.out
      have HCY := Lib.hid cy
      have HCX := Lib.hid cx
      have HY := Lib.hid hy
      have HCMP := Lib.hid (HC.out y x wr.drew (Kept.drew hBl |>.mono hBw))
      have HH := Lib.hid hh
      obtain ⟨hh2, hh3⟩ := hh1
      have hmid : ((i : Int) + (j : Int)) / 2 = (h : Int) := by omega
      have ln : (h : Int) < (n : Int) := by omega
      have ln2 : (a : Int) < (n : Int) := by omega
      clear hh hy hyL
      by_cases hlv : cls y < cls x
      · have hcv : cmpI (cls y) (cls x) < 0 := cmpI_neg.2 hlv
        go_wp2_with fail
        go_region_held3 (fun w' => w'.cell? ⟨g, off + h, none⟩ = some (.int .i64 y) ∧ w'.cell? ⟨g, off + a, none⟩ = some (.int .i64 x)) (first | exact ⟨q0, q1⟩ | exact ⟨HCY.out, HCX.out⟩)
          (first | (go_at_call 35; refine HCMP.out.mono ?_; rintro e w2 ⟨rfl, hk2⟩; have q0 := Kept.cell hk2 HCY.out; have q1 := Kept.cell hk2 HCX.out))
        clear hmid ln ln2
        go_wp2_with fail
        go_roundw
        case rel =>
          refine ⟨h + 1, j, by go_num, rfl, by omega, by omega, hjb, fun k z hk hz => ?_, HHI.out, Kept.trans hBl (Kept.trans (Kept.drew (Kept.refl _)) hk2)⟩
          have := srt_get HSV.out (i := k) (j := h - (a + 1)) (by omega) hz HY.out
          omega
        case measure => simp [intOf]; omega
      · have hcv : ¬ cmpI (cls y) (cls x) < 0 := fun h => hlv (cmpI_neg.1 h)
        go_wp2_with fail
        go_region_held3 (fun w' => w'.cell? ⟨g, off + h, none⟩ = some (.int .i64 y) ∧ w'.cell? ⟨g, off + a, none⟩ = some (.int .i64 x)) (first | exact ⟨q0, q1⟩ | exact ⟨HCY.out, HCX.out⟩)
          (first | (go_at_call 35; refine HCMP.out.mono ?_; rintro e w2 ⟨rfl, hk2⟩; have q0 := Kept.cell hk2 HCY.out; have q1 := Kept.cell hk2 HCX.out))
        clear hmid ln ln2
        go_wp2_with fail
        go_roundw
        case rel =>
          refine ⟨i, h, rfl, rfl, hi, by omega, by omega, HLO.out, fun k z hk hz => ?_, Kept.trans hBl (Kept.trans (Kept.drew (Kept.refl _)) hk2)⟩
          have := srt_get HSV.out (i := h - (a + 1)) (j := k) (by omega) HY.out hz
          omega
        case measure => simp [intOf]; omega
    · obtain rfl : i = j := by omega
      obtain ⟨V1, V2, hV12, hV1⟩ := split_at (xs := V) (i := i - (a + 1)) (by have := HB.out; have := HA.out; omega)
      have hlt1 : ∀ v ∈ V1, cls v < cls x := fun v hv => by
        rw [show V1 = V.take (i - (a + 1)) by rw [hV12, List.take_left' hV1]] at hv
        obtain ⟨k, hk, hkv⟩ := mem_take_get hv
        exact HLO.out k v (by omega) hkv
      have hge2 : ∀ v ∈ V2, cls x ≤ cls v := fun v hv => by
        rw [show V2 = V.drop (i - (a + 1)) by rw [hV12, List.drop_left' hV1]] at hv
        obtain ⟨k, hk, hkv⟩ := mem_drop_get hv
        exact HHI.out k v (by omega) hkv
      have HV12 := Lib.hid hV12
      have HV1 := Lib.hid hV1
      have HL1 := Lib.hid hlt1
      have HG2 := Lib.hid hge2
      have hsg := HSEG.out.kept hBl
      have HSG := Lib.hid hsg
      clear hV12 hV1 hlt1 hge2 hsg
      go_wp2_with fail
      obtain ⟨w1, rfl⟩ : ∃ w1 : World, w1 = wr := ⟨_, rfl⟩
      go_loopw [13] (fun vk wr => ∃ (k : Nat) (A1 A2 : List Int), vk = .int .i64 k ∧ V1 = A1 ++ A2 ∧ k = a + A1.length ∧ Seg wr g off pre post (P ++ A1 ++ x :: (A2 ++ V2 ++ R)) ∧ KeptOut g w wr) (fun vk _ => i - (intOf vk).toNat)
      case atStart => exact ⟨a, [], V1, rfl, rfl, rfl, by have := HSG.out; rw [HV12.out] at this; simpa using this, Kept.but hBl _⟩
      case round =>
        obtain ⟨k, A1, A2, rfl, hA12, hk, hsg, hko⟩ := hrel
        have HA12 := Lib.hid hA12
        have HK := Lib.hid hk
        have HSG1 := Lib.hid hsg
        have hl12 : A1.length + A2.length + (a + 1) = i := by have h1 := congrArg List.length hA12; rw [List.length_append] at h1; have := HV1.out; omega
        have hki : k < i := by omega
        clear hA12 hsg
        by_cases hlt2 : k + 1 < i
        · obtain ⟨y, A3, hA3⟩ := split_first (xs := A2) (by omega)
          subst hA3
          have hpl : (P ++ A1).length = k := by have := HA.out; simp; omega
          have eL : P ++ A1 ++ x :: (y :: A3 ++ V2 ++ R) = (P ++ A1) ++ x :: y :: (A3 ++ V2 ++ R) := by simp
          have cx : wr.cell? ⟨g, off + k, none⟩ = some (.int .i64 x) := HSG1.out.cell (by rw [eL, ← hpl]; exact getElem?_mid _ _ _)
          have cy : wr.cell? ⟨g, off + (k + 1), none⟩ = some (.int .i64 y) := HSG1.out.cell (by
            have e2 : (P ++ A1) ++ x :: y :: (A3 ++ V2 ++ R) = (P ++ A1 ++ [x]) ++ y :: (A3 ++ V2 ++ R) := by simp
            have e3 : k + 1 = (P ++ A1 ++ [x]).length := by rw [List.length_append, hpl]; rfl
            rw [eL, e2, e3]; exact getElem?_mid _ _ _)
          have f0 := HSG1.out.frozen (off + k)
          have f1 := HSG1.out.frozen (off + (k + 1))
          have HPL := Lib.hid hpl
          have HEL := Lib.hid eL
          clear hk hpl eL hl12
          have hwp : IntKind.i64.wrap ((k : Int) + 1) = (k : Int) + 1 := IntWalk.i64_in _ (by omega)
          have jz : (k : Int) + 1 < (n : Int) := by omega
          have jz1 : (k : Int) < (n : Int) := by omega
          have p0 : (0 : Int) ≤ (k : Int) + 1 := by omega
          have e0 : ((k : Int) + 1).toNat = k + 1 := by omega
          have ct : (k : Int) < (i : Int) - 1 := by omega
          go_wp2_with fail
          go_region
          clear hwp jz jz1 p0 e0 ct
          all_goals go_wp2_with fail
          go_roundw
          case rel =>
            refine ⟨k + 1, A1 ++ [y], A3, by go_num, by rw [HA12.out]; simp, by have := HK.out; simp; omega, ?_, KeptOut.drew (KeptOut.set (KeptOut.set hko _ _) _ _)⟩
            have hl : (P ++ A1 ++ x :: (y :: A3 ++ V2 ++ R)).length = n := by
              have h1 := congrArg List.length HA12.out
              have h2 := congrArg List.length HV12.out
              have h3 := HN.out
              simp at h1 h2 ⊢
              omega
            have h1 := HSG1.out.set (i := k) (by rw [hl]; omega) y
            have h2 := h1.set (i := k + 1) (by rw [List.length_set, hl]; omega) x
            have e := swap_adj' HEL.out
            rw [HPL.out] at e
            rw [e] at h2
            have e4 : P ++ A1 ++ y :: x :: (A3 ++ V2 ++ R) = P ++ (A1 ++ [y]) ++ x :: (A3 ++ V2 ++ R) := by simp
            rw [e4] at h2
            exact h2
          case measure => simp [intOf]; omega
        · have hA2 : A2 = [] := List.length_eq_zero_iff.1 (by omega)
          subst hA2
          have ct : ¬ (k : Int) < (i : Int) - 1 := by omega
          clear hk hl12
          go_wp2_with fail
          refine bodyPost_ret (results_none rfl _ _ _) rfl ?_
          obtain ⟨m1, m2⟩ := merge_left (cls := cls) (x := x) (V1 := V1) (V2 := V2) (by rw [← HV12.out]; exact HSV.out) HL1.out HG2.out
          refine ⟨rfl, hko, _, HSG1.out, V1 ++ x :: V2, ?_, ?_, ?_, m2⟩
          · rw [HA12.out]; simp
          · rw [HV12.out]; simp; omega
          · rw [HV12.out]; exact m1
end Go.Proofs.YtobcaploncgnbaaGreatDoor
