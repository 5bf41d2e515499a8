/- Stream-safe texts of data. No program. -/
import Derived.Test.YtdogaaepiddnoaaGreatDoorKExpC
import Derived.Test.YtdogaaepiddnoaaGreatDoorKDecD
import Derived.Test.YtdogaaepiddnoaaGreatDoorKFew
import Derived.Test.YtdogaaepiddnoaaGreatDoorKPq
namespace Go.Proofs.YtdogaaepiddnoaaGreatDoor

/-- The first error of the arguments. -/
def ssCheck (n : Nrm) (most : Int) : Int :=
  if most < 1 ∨ 64 < most then 1 else if decCheck n ≠ 0 then decCheck n else if (onceOf n.decomp 847 true).isSome = true ∨ classOf n.classes 847 ≠ 0 then 11 else 0
noncomputable def edgN (n : Nrm) (c : Int) : Edg := edgOf (classOf n.classes) (fullOf n.decomp true c)
/-- The stream-safe text. -/
noncomputable def ssText (n : Nrm) (most : Int) (text : List Int) : List Int := if ssCheck n most ≠ 0 then text else ssFrom (edgN n) most 0 text
/-- The longest run of the decomposed text. -/
noncomputable def ssLong (n : Nrm) (text : List Int) : Nat := if decCheck n ≠ 0 then 0 else mrun (classOf n.classes) 0 (textOf n true text)

theorem ssCheck_zero {n : Nrm} {most : Int} (h : ssCheck n most = 0) : 1 ≤ most ∧ most ≤ 64 ∧ decCheck n = 0 ∧ onceOf n.decomp 847 true = none ∧ classOf n.classes 847 = 0 := by
  unfold ssCheck at h
  split at h
  · omega
  · split at h
    · next hd => exact absurd h hd
    · split at h
      · omega
      · next h1 h2 h3 =>
        have h4 : ¬ (onceOf n.decomp 847 true).isSome = true := fun e => h3 (.inl e)
        refine ⟨by omega, by omega, by omega, ?_, ?_⟩
        · cases ho : onceOf n.decomp 847 true
          · rfl
          · rw [ho] at h4; simp at h4
        · exact Decidable.byContradiction fun e => h3 (.inr e)
theorem usable_ok {n : Nrm} (h : decCheck n = 0) : usableN n = n := if_pos h
theorem full_ok {n : Nrm} (h : decCheck n = 0) (cp : Bool) : FullEq n.decomp cp (fullOf n.decomp cp) := by
  have := usableN_full n cp
  rwa [usable_ok h] at this
theorem full_joiner {n : Nrm} {most : Int} (h : ssCheck n most = 0) : fullOf n.decomp true 847 = [847] := by
  obtain ⟨_, _, hd, ho, _⟩ := ssCheck_zero h
  exact full_fix (full_ok hd true) ho
theorem edgN_joiner {n : Nrm} {most : Int} (h : ssCheck n most = 0) : edgN n 847 = ⟨0, 0, false⟩ := by
  obtain ⟨_, _, _, _, hc⟩ := ssCheck_zero h
  unfold edgN edgOf
  rw [full_joiner h]
  simp [leadN, trailN, hc]
theorem ssText_bad {n : Nrm} {most : Int} (h : ssCheck n most ≠ 0) (text : List Int) : ssText n most text = text := if_pos h
theorem ssText_ok {n : Nrm} {most : Int} (h : ssCheck n most = 0) (text : List Int) : ssText n most text = ssFrom (edgN n) most 0 text := if_neg (by simp [h])
theorem ssText_twice (n : Nrm) (most : Int) (text : List Int) : ssText n most (ssText n most text) = ssText n most text := by
  by_cases h : ssCheck n most = 0
  · rw [ssText_ok h, ssText_ok h, ss_twice (edgN_joiner h)]
  · rw [ssText_bad h]
theorem ssText_keeps (n : Nrm) (most : Int) (text : List Int) : (ssText n most text).filter (fun c => c != 847) = text.filter (fun c => c != 847) := by
  by_cases h : ssCheck n most = 0
  · rw [ssText_ok h, ss_keeps]
  · rw [ssText_bad h]
theorem ssText_len (n : Nrm) (most : Int) (text : List Int) : text.length ≤ (ssText n most text).length ∧ ((ssText n most text).length < 2 * text.length ∨ (ssText n most text).length = 0) := by
  by_cases h : ssCheck n most = 0
  · rw [ssText_ok h]
    refine ⟨(ss_len text 0).1, ?_⟩
    cases text with
    | nil => right; rfl
    | cons c t => left; exact ss_short c t
  · rw [ssText_bad h]
    omega
theorem ssText_joins {n : Nrm} (_hd : decCheck n = 0) (most : Int) (a : List Int) {b : Int} (t : List Int) (h0 : (edgN n b).lead = 0) (h1 : (edgN n b).op = false) : ssText n most (a ++ b :: t) = ssText n most a ++ ssText n most (b :: t) := by
  by_cases h : ssCheck n most = 0
  · rw [ssText_ok h, ssText_ok h, ssText_ok h, ss_joins h0 h1]
  · rw [ssText_bad h, ssText_bad h, ssText_bad h]
theorem ssLong_eq {n : Nrm} (hd : decCheck n = 0) (text : List Int) : ssLong n text = mrun (classOf n.classes) 0 (text.flatMap (fullOf n.decomp true)) := by
  unfold ssLong
  rw [if_neg (by simp [hd]), textOf_eq, usable_ok hd, textE_eq, mrun_sort]
theorem ssText_bounds {n : Nrm} {most : Int} (h : ssCheck n most = 0) {B : Nat} (hm : most ≤ B) (text : List Int) (ht : ∀ c ∈ text, ssLong n [c] ≤ B) : ssLong n (ssText n most text) ≤ B := by
  obtain ⟨_, _, hd, _, hc⟩ := ssCheck_zero h
  rw [ssLong_eq hd, ssText_ok h]
  exact ss_bound (full_joiner h) hc hm text 0 (Nat.zero_le _) (fun c hct => by
    have := ht c hct
    rw [ssLong_eq hd] at this
    simpa using this)

/-- The chapter's example. -/
def aliveS : Nrm := ⟨[⟨768, 768, 230⟩], [], []⟩
theorem aliveS_check : decCheck aliveS = 0 := by decide +kernel
theorem aliveS_full (c : Int) (h : onceOf aliveS.decomp c true = none) : fullOf aliveS.decomp true c = [c] := full_fix (full_ok aliveS_check true) h
theorem aliveS_ss : ssCheck aliveS 2 = 0 := by decide +kernel
theorem aliveS_edg : edgN aliveS 97 = ⟨0, 0, false⟩ ∧ edgN aliveS 768 = ⟨1, 1, true⟩ := by
  unfold edgN
  rw [aliveS_full 97 (by decide +kernel), aliveS_full 768 (by decide +kernel)]
  constructor <;> (simp only [edgOf, Edg.mk.injEq]; decide +kernel)
theorem aliveS_text : ssText aliveS 2 [97, 768, 768, 768, 768] = [97, 768, 768, 847, 768, 768] := by
  rw [ssText_ok aliveS_ss]
  obtain ⟨h1, h2⟩ := aliveS_edg
  simp [ssFrom, h1, h2, fitsE, nxtE]
theorem aliveS_long : ssLong aliveS [97, 768, 768, 847, 768, 768] = 2 := by
  rw [ssLong_eq aliveS_check]
  simp only [List.flatMap_cons, List.flatMap_nil, List.append_nil]
  rw [aliveS_full 97 (by decide +kernel), aliveS_full 768 (by decide +kernel), aliveS_full 847 (by decide +kernel)]
  decide +kernel
end Go.Proofs.YtdogaaepiddnoaaGreatDoor
