/- slices.symMergeCmpFunc at numbers: two sorted parts are merged stably. -/
import Derived.Deep.DeepCutAuto
import Derived.Test.YtckgmkjoblneeaaGreatDoorKSrtE
namespace Go.Proofs.YtckgmkjoblneeaaGreatDoor
open Go Go.RowKit
set_option maxRecDepth 100000 in
set_option maxHeartbeats 8000000 in
theorem symMerge_any (g off cp n : Nat) (pre post : List Value) (bl B0 : Nat) (cls : Int → Int) (hn2 : n ≤ 100000000) (hB : B0 ≤ g) : ∀ (N : Nat) (P U V R : List Int) (ai mi bi : Int) (w : World), U.length + V.length ≤ N → n = (P ++ U ++ V ++ R).length → 0 < U.length → 0 < V.length → ai = (P.length : Nat) → mi = ((P ++ U).length : Nat) → bi = ((P ++ U ++ V).length : Nat) →
    Srt cls U → Srt cls V → Seg w g off pre post (P ++ U ++ V ++ R) → CmpOk bl B0 w cls → B0 ≤ w.heap.size →
    Calls Tryz.prog 109 #[.slice (some ⟨g, off, none⟩) n cp, .int .i64 ai, .int .i64 mi, .int .i64 bi, .func (.func 67) #[] #[.pointer (some ⟨bl, 0, none⟩)]] w
      (MergePost g off pre post w cls P U V R) := by
  intro N
  induction N with
  | zero => intro P U V R ai mi bi w h; omega
  | succ N ih =>
  intro P U V R ai mi bi w hN hn hU hV ha hm hb hsU hsV hseg hc hBw
  by_cases hU1 : U.length = 1
  · obtain ⟨x, rfl⟩ := List.length_eq_one_iff.1 hU1
    exact symMerge_left g off cp n pre post P V R x bl B0 cls ai mi bi w hn hn2 hV ha hm hb hsV hseg hc hB hBw
  by_cases hV1 : V.length = 1
  · obtain ⟨y, rfl⟩ := List.length_eq_one_iff.1 hV1
    exact symMerge_right g off cp n pre post P U R y bl B0 cls ai mi bi w hn hn2 (by omega) ha hm hb hsU hseg hc hB hBw
  obtain ⟨a, rfl⟩ : ∃ a : Nat, ai = a := ⟨_, ha⟩
  obtain ⟨m, rfl⟩ : ∃ m : Nat, mi = m := ⟨_, hm⟩
  obtain ⟨b, rfl⟩ : ∃ b : Nat, bi = b := ⟨_, hb⟩
  have IH := Lib.hid ih
  have HA := Lib.hid (show a = P.length by omega)
  have HM := Lib.hid (show m = P.length + U.length by simp at hm; omega)
  have HB := Lib.hid (show b = P.length + U.length + V.length by simp at hb; omega)
  have HN := Lib.hid (show n = P.length + U.length + V.length + R.length by rw [hn]; simp; omega)
  have HSEG := Lib.hid hseg
  have HC := Lib.hid hc
  have HSU := Lib.hid hsU
  have HSV := Lib.hid hsV
  have HSZ := Lib.hid hN
  have h1 : a + 1 < m := by have := HA.out; have := HM.out; omega
  have h2 : m + 1 < b := by have := HB.out; have := HM.out; omega
  have h3 : b ≤ n := by have := HB.out; have := HN.out; omega
  clear ih hN hn hU hV ha hm hb hsU hsV hseg hc hU1 hV1
  obtain ⟨md, hmd⟩ : ∃ md : Nat, md = (a + b) / 2 := ⟨_, rfl⟩
  have hmid : ((a : Int) + (b : Int)) / 2 = (md : Int) := by omega
  have hone : ((m : Int) - (a : Int) == 1) = false := by simp; omega
  have hone2 : ((b : Int) - (m : Int) == 1) = false := by simp; omega
  obtain ⟨s0, r0, hx⟩ : ∃ s0 r0 : Nat, (if md < m then s0 = md + m - b ∧ r0 = md else s0 = a ∧ r0 = m) := by
    by_cases h : md < m
    · exact ⟨_, _, by rw [if_pos h]; exact ⟨rfl, rfl⟩⟩
    · exact ⟨_, _, by rw [if_neg h]; exact ⟨rfl, rfl⟩⟩
  have hf : a ≤ s0 ∧ s0 ≤ r0 ∧ r0 ≤ m ∧ r0 ≤ md ∧ md + m ≤ b + s0 ∧ (s0 = a ∨ md + m = b + s0) ∧ (r0 = m ∨ r0 = md) ∧ a < md ∧ md < b := by
    split at hx <;> omega
  obtain ⟨f1, f2, f3, f4, f5, f6, f7, f8, f9⟩ := hf
  have HF6 := Lib.hid f6
  have HF7 := Lib.hid f7
  have hmd2 : md ≤ 100000000 := by omega
  clear hmd f6 f7
  have HX := Lib.hid hx
  clear hx
  go_enter Tryz.func109, Tryz.ntmps109
  go_upto_if 140 with fail
  go_cut [20, 21] (fun v20 v21 wx => v20 = .int .i64 s0 ∧ v21 = .int .i64 r0 ∧ w = wx)
  case first =>
    by_cases hgt : md < m
    · have hx := HX.out
      rw [if_pos hgt] at hx
      obtain ⟨hx1, hx2⟩ := hx
      have hs0 : (md : Int) + (m : Int) - (b : Int) = (s0 : Int) := by omega
      have HX2 := Lib.hid hx2
      clear hx1 hx2
      go_wp2_with fail
      go_meet
      exact ⟨rfl, by rw [HX2.out], rfl⟩
    · have hx := HX.out
      rw [if_neg hgt] at hx
      obtain ⟨hx1, hx2⟩ := hx
      have HX1 := Lib.hid hx1
      have HX2 := Lib.hid hx2
      clear hx1 hx2
      go_wp2_with fail
      go_meet
      exact ⟨by rw [HX1.out], by rw [HX2.out], rfl⟩
  case rest =>
  obtain ⟨rfl, rfl, rfl⟩ := hcut
  clear HX hmid hone hone2
  go_wp2_with fail
  go_loopw [20, 21] (fun vi vj wr => ∃ st r : Nat, vi = .int .i64 st ∧ vj = .int .i64 r ∧ s0 ≤ st ∧ st ≤ r ∧ r ≤ r0 ∧ (∀ (c : Nat) (x y : Int), s0 ≤ c → c < st → U[c - a]? = some x → V[md - 1 - c]? = some y → cls x ≤ cls y) ∧ (∀ (c : Nat) (x y : Int), r ≤ c → c < r0 → U[c - a]? = some x → V[md - 1 - c]? = some y → cls y < cls x) ∧ Below w.heap.size w wr) (fun vi vj _ => (intOf vj).toNat - (intOf vi).toNat)
  case atStart => exact ⟨s0, r0, rfl, rfl, Nat.le_refl _, f2, Nat.le_refl _, fun c x y hc1 hc2 => by omega, fun c x y hc1 hc2 => by omega, Below.refl _ _⟩
  case round =>
    obtain ⟨st, r, rfl, rfl, hst, hsr, hrr, hlo, hhi, hBl⟩ := hrel
    have HLO := Lib.hid hlo
    have HHI := Lib.hid hhi
    clear hlo hhi
    by_cases hlt : st < r
    · as_aux_lemma =>
        obtain ⟨h, hh⟩ : ∃ h : Nat, h = (st + r) / 2 := ⟨_, rfl⟩
        have hh1 : st ≤ h ∧ h < r := by omega
        obtain ⟨x, hx⟩ := getElem?_some_of_lt (l := U) (k := h - a) (by have := HM.out; have := HA.out; omega)
        obtain ⟨y, hy⟩ := getElem?_some_of_lt (l := V) (k := md - 1 - h) (by have := HM.out; have := HB.out; omega)
        obtain ⟨q, hq⟩ : ∃ q : Nat, q = m + (md - 1 - h) := ⟨_, rfl⟩
        have hxL : (P ++ U ++ V ++ R)[h]? = some x := by
          have e1 : P ++ U ++ V ++ R = P ++ (U ++ (V ++ R)) := by simp
          rw [e1, List.getElem?_append_right (by have := HA.out; omega), List.getElem?_append_left (by have := HA.out; have := HM.out; omega), ← hx]
          congr 1
          have := HA.out
          omega
        have hyL : (P ++ U ++ V ++ R)[q]? = some y := by
          have e1 : P ++ U ++ V ++ R = (P ++ U) ++ (V ++ R) := by simp
          have e2 : (P ++ U).length = m := by rw [List.length_append]; exact HM.out.symm
          rw [e1, List.getElem?_append_right (by omega), List.getElem?_append_left (by have := HB.out; have := HM.out; omega), ← hy]
          congr 1
          omega
        have cx := (HSEG.out.kept hBl).cell hxL
        have cy := (HSEG.out.kept hBl).cell hyL
        have HCX := Lib.hid cx
        have HCY := Lib.hid cy
        have HXX := Lib.hid hx
        have HYY := Lib.hid hy
        have HCMP := Lib.hid (HC.out y x wr.drew (Kept.drew hBl |>.mono hBw))
        obtain ⟨hh2, hh3⟩ := hh1
        have hq2 : q < n := by omega
        have hmid2 : ((st : Int) + (r : Int)) / 2 = (h : Int) := by omega
        have ln : (h : Int) < (n : Int) := by omega
        have lq : (q : Int) < (n : Int) := by omega
        have hwq : IntKind.i64.wrap ((md : Int) + (m : Int) - 1 - (h : Int)) = (q : Int) := by
          rw [IntWalk.i64_in _ (by omega)]; omega
        clear hh hx hy hxL hyL hq
        by_cases hlv : cls y < cls x
        · have hcv : cmpI (cls y) (cls x) < 0 := cmpI_neg.2 hlv
          have hcd : decide (cmpI (cls y) (cls x) < 0) = true := decide_eq_true hcv
          go_wp2_with fail
          go_region_held3 (fun w' => w'.cell? ⟨g, off + q, none⟩ = some (.int .i64 y) ∧ w'.cell? ⟨g, off + h, none⟩ = some (.int .i64 x)) (first | exact ⟨q0, q1⟩ | exact ⟨HCY.out, HCX.out⟩)
            (first | (go_at_call 67; refine HCMP.out.mono ?_; rintro e w2 ⟨rfl, hk2⟩; have q0 := Kept.cell hk2 HCY.out; have q1 := Kept.cell hk2 HCX.out))
          clear hmid2 ln lq hwq
          go_wp2_with fail
          go_roundw
          case rel =>
            refine ⟨st, h, rfl, rfl, hst, by omega, by omega, HLO.out, fun c x' y' hc1 hc2 hx' hy' => ?_, Kept.trans hBl (Kept.trans (Kept.drew (Kept.refl _)) hk2)⟩
            have e1 := srt_get HSU.out (i := h - a) (j := c - a) (by omega) HXX.out hx'
            have e2 := srt_get HSV.out (i := md - 1 - c) (j := md - 1 - h) (by omega) hy' HYY.out
            omega
          case measure => simp [intOf]; omega
        · have hcv : ¬ cmpI (cls y) (cls x) < 0 := fun h => hlv (cmpI_neg.1 h)
          have hcd : decide (cmpI (cls y) (cls x) < 0) = false := decide_eq_false hcv
          go_wp2_with fail
          go_region_held3 (fun w' => w'.cell? ⟨g, off + q, none⟩ = some (.int .i64 y) ∧ w'.cell? ⟨g, off + h, none⟩ = some (.int .i64 x)) (first | exact ⟨q0, q1⟩ | exact ⟨HCY.out, HCX.out⟩)
            (first | (go_at_call 67; refine HCMP.out.mono ?_; rintro e w2 ⟨rfl, hk2⟩; have q0 := Kept.cell hk2 HCY.out; have q1 := Kept.cell hk2 HCX.out))
          clear hmid2 ln lq hwq
          go_wp2_with fail
          go_roundw
          case rel =>
            refine ⟨h + 1, r, by go_num, rfl, by omega, by omega, hrr, fun c x' y' hc1 hc2 hx' hy' => ?_, HHI.out, Kept.trans hBl (Kept.trans (Kept.drew (Kept.refl _)) hk2)⟩
            have e1 := srt_get HSU.out (i := c - a) (j := h - a) (by omega) hx' HXX.out
            have e2 := srt_get HSV.out (i := md - 1 - h) (j := md - 1 - c) (by omega) HYY.out hy'
            omega
          case measure => simp [intOf]; omega
    · obtain rfl : st = r := by omega
      obtain ⟨en, hen0⟩ : ∃ en : Nat, en = md + m - st := ⟨_, rfl⟩
      have hen1 : m ≤ en ∧ en ≤ b := by omega
      obtain ⟨g1, g2⟩ := hen1
      obtain ⟨U1, U2, hU12, hU1⟩ := split_at (xs := U) (i := st - a) (by have := HM.out; have := HA.out; omega)
      obtain ⟨V1, V2, hV12, hV1⟩ := split_at (xs := V) (i := en - m) (by have := HM.out; have := HB.out; omega)
      have hU2 : U2.length = m - st := by have h := congrArg List.length hU12; rw [List.length_append] at h; have := HM.out; have := HA.out; omega
      have hV2 : V2.length = b - en := by have h := congrArg List.length hV12; rw [List.length_append] at h; have := HM.out; have := HB.out; omega
      have hlt1 : ∀ v ∈ V1, ∀ u ∈ U2, cls v < cls u := by
        have sU : Srt cls (U1 ++ U2) := by rw [← hU12]; exact HSU.out
        have sV : Srt cls (V1 ++ V2) := by rw [← hV12]; exact HSV.out
        refine cross_lt sV.left sU.right (fun v u hv hu => ?_)
        have hu0 := lt_of_getElem?_some hu
        have hv0 : 0 < V1.length := by cases V1 with
          | nil => simp at hv
          | cons z V1 => simp
        have hlt2 : st < r0 := by rcases HF7.out with h | h <;> omega
        refine HHI.out st u v (Nat.le_refl _) hlt2 ?_ ?_
        · rw [hU12, List.getElem?_append_right (by omega), ← hu]; congr 1; omega
        · rw [hV12, List.getElem?_append_left (by omega), ← hv, List.getLast?_eq_getElem?]; congr 1; omega
      have hle2 : ∀ u ∈ U1, ∀ v ∈ V2, cls u ≤ cls v := by
        have sU : Srt cls (U1 ++ U2) := by rw [← hU12]; exact HSU.out
        have sV : Srt cls (V1 ++ V2) := by rw [← hV12]; exact HSV.out
        refine cross_le sU.left sV.right (fun u v hu hv => ?_)
        have hv0 := lt_of_getElem?_some hv
        have hu0 : 0 < U1.length := by cases U1 with
          | nil => simp at hu
          | cons z U1 => simp
        have hlt2 : s0 < st := by rcases HF6.out with h | h <;> omega
        refine HLO.out (st - 1) u v (by omega) (by omega) ?_ ?_
        · rw [hU12, List.getElem?_append_left (by omega), ← hu, List.getLast?_eq_getElem?]; congr 1; omega
        · rw [hV12, List.getElem?_append_right (by omega), ← hv]; congr 1; omega
      have HU12 := Lib.hid hU12
      have HV12 := Lib.hid hV12
      have HU1 := Lib.hid hU1
      have HV1 := Lib.hid hV1
      have HU2 := Lib.hid hU2
      have HV2 := Lib.hid hV2
      have HL1 := Lib.hid hlt1
      have HL2 := Lib.hid hle2
      have HEN := Lib.hid hen0
      have hsg := HSEG.out.kept hBl
      have HSG := Lib.hid hsg
      have hkw : KeptOut g w wr := Kept.but hBl _
      have hBwr : B0 ≤ wr.heap.size := Nat.le_trans hBw hBl.size
      have HCW := Lib.hid (HC.out.later (hBl.mono hBw))
      have hen : (md : Int) + (m : Int) - (st : Int) = (en : Int) := by omega
      clear hU12 hV12 hU1 hV1 hU2 hV2 hlt1 hle2 hen0 hsg HLO HHI HF6 HF7
      have HFIN := Lib.hid (show ∀ (S1 S2 : List Int) (wq : World), KeptOut g w wq → Seg wq g off pre post (P ++ S1 ++ S2 ++ R) → S1.length = U1.length + V1.length → S2.length = U2.length + V2.length → Keep cls (U1 ++ V1) S1 → Srt cls S1 → Keep cls (U2 ++ V2) S2 → Srt cls S2 → MergePost g off pre post w cls P U V R (.returned (.tuple #[])) wq from fun S1 S2 wq k1 k2 k3 k4 k5 k6 k7 k8 => by
        obtain ⟨m1, m2⟩ := merge_halves (cls := cls) (by rw [← HU12.out]; exact HSU.out) (by rw [← HV12.out]; exact HSV.out) HL1.out HL2.out k5 k6 k7 k8
        refine ⟨rfl, k1, _, k2, S1 ++ S2, by simp, ?_, by rw [HU12.out, HV12.out]; exact m1, m2⟩
        rw [List.length_append, k3, k4, HU12.out, HV12.out]; simp; omega)
      have HROT := Lib.hid (show st < m → m < en → Calls Tryz.prog 116 #[.slice (some ⟨g, off, none⟩) n cp, .int .i64 st, .int .i64 m, .int .i64 en, .func (.func 67) #[] #[.pointer (some ⟨bl, 0, none⟩)]] wr (SegPost g off pre post wr fun ys => ys = (P ++ U1) ++ V1 ++ U2 ++ (V2 ++ R)) from fun p1 p2 => by
        refine rotate_any g off cp n pre post (P ++ U1) U2 V1 (V2 ++ R) _ st m en wr
            (by have := HN.out; have := HU1.out; have := HU2.out; have := HV1.out; have := HV2.out; have := HM.out; have := HA.out; have := HB.out; simp; omega) hn2 (by rw [HU2.out]; omega) (by rw [HV1.out]; omega)
            (by have := HA.out; have := HU1.out; simp; omega) (by have := HA.out; have := HU1.out; have := HU2.out; simp; omega) (by have := HA.out; have := HU1.out; have := HU2.out; have := HV1.out; simp; omega) ?_
        have := HSG.out
        rw [HU12.out, HV12.out] at this
        simpa using this)
      have HM1 := Lib.hid (show ∀ w3 : World, a < st → st < md → KeptOut g w w3 → Seg w3 g off pre post (P ++ U1 ++ V1 ++ (U2 ++ V2 ++ R)) → Calls Tryz.prog 109 #[.slice (some ⟨g, off, none⟩) n cp, .int .i64 a, .int .i64 st, .int .i64 md, .func (.func 67) #[] #[.pointer (some ⟨bl, 0, none⟩)]] w3 (MergePost g off pre post w3 cls P U1 V1 (U2 ++ V2 ++ R)) from fun w3 p1 p2 k1 k2 => by
        have sU : Srt cls (U1 ++ U2) := by rw [← HU12.out]; exact HSU.out
        have sV : Srt cls (V1 ++ V2) := by rw [← HV12.out]; exact HSV.out
        exact IH.out P U1 V1 (U2 ++ V2 ++ R) a st md w3
            (by have := HSZ.out; have h1 := congrArg List.length HU12.out; have h2 := congrArg List.length HV12.out; rw [List.length_append] at h1 h2; have := HU2.out; have := HV2.out; have := HEN.out; have := HM.out; have := HA.out; have := HB.out; omega)
            (by have := HN.out; have := HU1.out; have := HU2.out; have := HV1.out; have := HV2.out; have := HM.out; have := HA.out; have := HB.out; simp; omega)
            (by rw [HU1.out]; omega) (by rw [HV1.out, HEN.out]; omega) (by rw [HA.out]) (by have := HA.out; have := HU1.out; simp; omega) (by have := HA.out; have := HU1.out; have := HV1.out; have := HEN.out; simp; omega) sU.left sV.left k2 (HC.out.later (KeptOut.below k1 hB hBw)) (Nat.le_trans hBw k1.size))
      have HM2 := Lib.hid (show ∀ (S1 : List Int) (w3 : World), md < en → en < b → S1.length = U1.length + V1.length → KeptOut g w w3 → Seg w3 g off pre post (P ++ S1 ++ U2 ++ V2 ++ R) → Calls Tryz.prog 109 #[.slice (some ⟨g, off, none⟩) n cp, .int .i64 md, .int .i64 en, .int .i64 b, .func (.func 67) #[] #[.pointer (some ⟨bl, 0, none⟩)]] w3 (MergePost g off pre post w3 cls (P ++ S1) U2 V2 R) from fun S1 w3 p1 p2 k0 k1 k2 => by
        have sU : Srt cls (U1 ++ U2) := by rw [← HU12.out]; exact HSU.out
        have sV : Srt cls (V1 ++ V2) := by rw [← HV12.out]; exact HSV.out
        have hPS : (P ++ S1).length = md := by rw [List.length_append, k0, HU1.out, HV1.out]; have := HA.out; have := HEN.out; omega
        exact IH.out (P ++ S1) U2 V2 R md en b w3
          (by have := HSZ.out; have h1 := congrArg List.length HU12.out; have h2 := congrArg List.length HV12.out; rw [List.length_append] at h1 h2; have := HU1.out; have := HV1.out; have := HEN.out; have := HM.out; have := HA.out; have := HB.out; omega)
          (by have := HN.out; have := HU2.out; have := HV2.out; have := HEN.out; have := HM.out; have := HB.out; rw [List.length_append, List.length_append, List.length_append, hPS]; omega)
          (by rw [HU2.out]; have := HEN.out; omega) (by rw [HV2.out]; omega) (by rw [hPS]) (by rw [List.length_append, hPS, HU2.out]; have := HEN.out; omega) (by rw [List.length_append, List.length_append, hPS, HU2.out, HV2.out]; have := HEN.out; omega) sU.right sV.right k2 (HC.out.later (KeptOut.below k1 hB hBw)) (Nat.le_trans hBw k1.size))
      have hx1 := HEN.out
      have hSU1 : Srt cls U1 := by have h := HSU.out; rw [HU12.out] at h; exact h.left
      have hSU2 : Srt cls U2 := by have h := HSU.out; rw [HU12.out] at h; exact h.right
      have hSV1 : Srt cls V1 := by have h := HSV.out; rw [HV12.out] at h; exact h.left
      have hSV2 : Srt cls V2 := by have h := HSV.out; rw [HV12.out] at h; exact h.right
      have HSU1 := Lib.hid hSU1
      have HSU2 := Lib.hid hSU2
      have HSV1 := Lib.hid hSV1
      have HSV2 := Lib.hid hSV2
      have hsgT : Seg wr g off pre post (P ++ (U1 ++ U2) ++ (V1 ++ V2) ++ R) := by have := HSG.out; rwa [HU12.out, HV12.out] at this
      have HSGT := Lib.hid hsgT
      clear hSU1 hSU2 hSV1 hSV2 hsgT
      by_cases q1 : st < m
      · by_cases q2 : m < en
        · have q3 : md < en := by omega
          have q3' : st < md := by omega
          have HR2 := Lib.hid (HROT.out q1 q2)
          have HX1 := Lib.hid hx1
          clear hx1 HROT
          by_cases q4 : a < st
          · by_cases q5 : en < b
            · go_wp2_with fail
              refine HR2.out.mono ?_
              rintro e w3 ⟨rfl, hk3, ys, hs3, hy⟩
              subst hy
              have HS3 := Lib.hid hs3
              have HC1 := Lib.hid (HM1.out w3 q4 q3' (hkw.trans hk3) (by have := hs3; simpa using this))
              clear hs3
              go_wp2_with fail
              refine HC1.out.mono ?_
              rintro e w4 ⟨rfl, hk4, ys, hs4, S1, hy, hl1, hkp, hst1⟩
              subst hy
              have HC2 := Lib.hid (HM2.out S1 w4 q3 q5 hl1 ((hkw.trans hk3).trans hk4) (by have := hs4; simpa using this))
              have HL4 := Lib.hid hl1
              have HKP := Lib.hid hkp
              have HST := Lib.hid hst1
              clear hs4 hl1 hkp hst1
              go_wp2_with fail
              refine HC2.out.mono ?_
              rintro e w5 ⟨rfl, hk5, ys, hs5, S2, hy, hl2, hkp2, hst2⟩
              have HF := Lib.hid (HFIN.out S1 S2 w5 (((hkw.trans hk3).trans hk4).trans hk5) (by rw [hy] at hs5; exact hs5) HL4.out hl2 HKP.out HST.out hkp2 hst2)
              clear hs5 hy hl2 hkp2 hst2
              go_wp2_with fail
              go_end0
              exact HF.out
            · have hV2 : V2 = [] := List.length_eq_zero_iff.1 (by rw [HV2.out]; omega)
              have HVE := Lib.hid hV2
              clear hV2
              go_wp2_with fail
              refine HR2.out.mono ?_
              rintro e w3 ⟨rfl, hk3, ys, hs3, hy⟩
              subst hy
              have HC1 := Lib.hid (HM1.out w3 q4 q3' (hkw.trans hk3) (by have := hs3; simpa using this))
              clear hs3
              go_wp2_with fail
              refine HC1.out.mono ?_
              rintro e w4 ⟨rfl, hk4, ys, hs4, S1, hy, hl1, hkp, hst1⟩
              have HF := Lib.hid (HFIN.out S1 (U2 ++ V2) w4 ((hkw.trans hk3).trans hk4) (by rw [hy] at hs4; simpa using hs4) hl1 (by simp) hkp hst1 (Keep.refl _) (by rw [HVE.out, List.append_nil]; exact HSU2.out))
              clear hs4 hy hl1 hkp hst1
              go_wp2_with fail
              go_end0
              exact HF.out
          · have hU1 : U1 = [] := List.length_eq_zero_iff.1 (by rw [HU1.out]; omega)
            have HUE := Lib.hid hU1
            clear hU1
            by_cases q5 : en < b
            · go_wp2_with fail
              refine HR2.out.mono ?_
              rintro e w3 ⟨rfl, hk3, ys, hs3, hy⟩
              subst hy
              have HC2 := Lib.hid (HM2.out (U1 ++ V1) w3 q3 q5 (by simp) (hkw.trans hk3) (by have := hs3; simpa using this))
              clear hs3
              go_wp2_with fail
              refine HC2.out.mono ?_
              rintro e w5 ⟨rfl, hk5, ys, hs5, S2, hy, hl2, hkp2, hst2⟩
              have HF := Lib.hid (HFIN.out (U1 ++ V1) S2 w5 ((hkw.trans hk3).trans hk5) (by rw [hy] at hs5; exact hs5) (by simp) hl2 (Keep.refl _) (by rw [HUE.out, List.nil_append]; exact HSV1.out) hkp2 hst2)
              clear hs5 hy hl2 hkp2 hst2
              go_wp2_with fail
              go_end0
              exact HF.out
            · have hV2 : V2 = [] := List.length_eq_zero_iff.1 (by rw [HV2.out]; omega)
              have HVE := Lib.hid hV2
              clear hV2
              go_wp2_with fail
              refine HR2.out.mono ?_
              rintro e w3 ⟨rfl, hk3, ys, hs3, hy⟩
              have HF := Lib.hid (HFIN.out (U1 ++ V1) (U2 ++ V2) w3 (hkw.trans hk3) (by rw [hy] at hs3; simpa using hs3) (by simp) (by simp) (Keep.refl _) (by rw [HUE.out, List.nil_append]; exact HSV1.out) (Keep.refl _) (by rw [HVE.out, List.append_nil]; exact HSU2.out))
              clear hs3 hy
              go_wp2_with fail
              go_end0
              exact HF.out
        · have q3 : md < en := by omega
          have q3' : ¬ st < md := by omega
          have q4 : a < st := by omega
          have q5 : en < b := by omega
          have hV1 : V1 = [] := List.length_eq_zero_iff.1 (by rw [HV1.out]; omega)
          have HVE := Lib.hid hV1
          have HC2 := Lib.hid (HM2.out (U1 ++ V1) wr q3 q5 (by simp) hkw (by have := HSGT.out; rw [hV1] at this ⊢; simpa using this))
          clear hV1 hx1 HROT
          go_wp2_with fail
          refine HC2.out.mono ?_
          rintro e w5 ⟨rfl, hk5, ys, hs5, S2, hy, hl2, hkp2, hst2⟩
          have HF := Lib.hid (HFIN.out (U1 ++ V1) S2 w5 (hkw.trans hk5) (by rw [hy] at hs5; exact hs5) (by simp) hl2 (Keep.refl _) (by rw [HVE.out, List.append_nil]; exact HSU1.out) hkp2 hst2)
          clear hs5 hy hl2 hkp2 hst2
          go_wp2_with fail
          go_end0
          exact HF.out
      · have q3 : ¬ md < en := by omega
        have q4 : a < st := by omega
        have hU2 : U2 = [] := List.length_eq_zero_iff.1 (by rw [HU2.out]; omega)
        have HUE := Lib.hid hU2
        clear hU2 HROT hx1
        by_cases q5 : st < md
        · have HC1 := Lib.hid (HM1.out wr q4 q5 hkw (by have := HSGT.out; rw [HUE.out] at this ⊢; simpa using this))
          go_wp2_with fail
          refine HC1.out.mono ?_
          rintro e w4 ⟨rfl, hk4, ys, hs4, S1, hy, hl1, hkp, hst1⟩
          have HF := Lib.hid (HFIN.out S1 (U2 ++ V2) w4 (hkw.trans hk4) (by rw [hy] at hs4; simpa using hs4) hl1 (by simp) hkp hst1 (Keep.refl _) (by rw [HUE.out, List.nil_append]; exact HSV2.out))
          clear hs4 hy hl1 hkp hst1
          go_wp2_with fail
          go_end0
          exact HF.out
        · have hV1 : V1 = [] := List.length_eq_zero_iff.1 (by rw [HV1.out]; have := HEN.out; omega)
          have HF := Lib.hid (HFIN.out (U1 ++ V1) (U2 ++ V2) wr hkw (by have := HSGT.out; rw [HUE.out, hV1] at this ⊢; simpa using this) (by simp) (by simp) (Keep.refl _) (by rw [hV1, List.append_nil]; exact HSU1.out) (Keep.refl _) (by rw [HUE.out, List.nil_append]; exact HSV2.out))
          clear hV1
          go_wp2_with fail
          go_end0
          exact HF.out
end Go.Proofs.YtckgmkjoblneeaaGreatDoor
