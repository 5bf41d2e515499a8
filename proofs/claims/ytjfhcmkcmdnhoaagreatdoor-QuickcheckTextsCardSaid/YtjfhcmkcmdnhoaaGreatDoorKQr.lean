/- The results of the quick check. No walk. The example of the chapter on the quick check. No walk. -/
import Derived.Test.YtjfhcmkcmdnhoaaGreatDoorKQp
import Derived.Test.YtjfhcmkcmdnhoaaGreatDoorKAlive21
namespace Go.Proofs.YtjfhcmkcmdnhoaaGreatDoor
noncomputable def charQ (n : Nrm) (form c : Int) : Int :=
  if form < 1 ∨ 4 < form then 1 else if formOf n form [c] = [c] then (if (comps form && secondB (usableN n) ((textOf n (cpOf form) [c]).headD 0)) = true then 3 else 1) else 2
def combQ (a b : Int) : Int := if a = 2 ∨ b = 2 then 2 else if a = 3 ∨ b = 3 then 3 else 1
open Classical in
noncomputable def allQ (f : Int → Int) (l : List Int) : Int := if ∃ c ∈ l, f c = 2 then 2 else if ∃ c ∈ l, f c = 3 then 3 else 1
open Classical in
noncomputable def textQ (n : Nrm) (form : Int) (text : List Int) : Int :=
  if form < 1 ∨ 4 < form then 1 else combQ (if sortT (classOf (usableN n).classes) text = text then 1 else 2) (allQ (charQ n form) text)
theorem charQ_cases (n : Nrm) (form c : Int) : charQ n form c = 1 ∨ charQ n form c = 2 ∨ charQ n form c = 3 := by
  unfold charQ
  split
  · exact .inl rfl
  · split
    · split
      · exact .inr (.inr rfl)
      · exact .inl rfl
    · exact .inr (.inl rfl)
theorem charQ_no (n : Nrm) {form : Int} (h : ¬ (form < 1 ∨ 4 < form)) (c : Int) : charQ n form c = 2 ↔ formOf n form [c] ≠ [c] := by
  unfold charQ
  rw [if_neg h]
  by_cases hf : formOf n form [c] = [c]
  · rw [if_pos hf]
    constructor
    · intro h1; split at h1 <;> omega
    · intro h1; exact absurd hf h1
  · rw [if_neg hf]
    exact ⟨fun _ => hf, fun _ => rfl⟩
theorem charQ_yes (n : Nrm) {form : Int} (h : ¬ (form < 1 ∨ 4 < form)) {c : Int} (hc : charQ n form c = 1) : formOf n form [c] = [c] ∧ (comps form = true → ∀ s t, textOf n (cpOf form) [c] = s :: t → secondB (usableN n) s = false) := by
  unfold charQ at hc
  rw [if_neg h] at hc
  by_cases hf : formOf n form [c] = [c]
  · rw [if_pos hf] at hc
    refine ⟨hf, fun h1 s t h2 => ?_⟩
    rw [h1, h2, Bool.true_and, List.headD_cons] at hc
    cases hs : secondB (usableN n) s with
    | false => rfl
    | true => rw [hs] at hc; simp at hc
  · rw [if_neg hf] at hc; omega
theorem charQ_maybe (n : Nrm) {form c : Int} (hc : charQ n form c = 3) : comps form = true := by
  unfold charQ at hc
  split at hc
  · omega
  · split at hc
    · split at hc
      · rename_i h1; simp only [Bool.and_eq_true] at h1; exact h1.1
      · omega
    · omega
theorem form_invalid (n : Nrm) (form : Int) {c : Int} (h : validB c = false) : formOf n form [c] = [c] := by
  by_cases hf : form < 1 ∨ 4 < form
  · exact formOf_0 n hf _
  · have ht : textOf n (cpOf form) [c] = [c] := by rw [textOf_one, full_invalid n _ h]; exact sort_one _ c
    rw [formOf_known n hf, ht]
    split <;> rfl
theorem charQ_invalid (n : Nrm) (form : Int) {c : Int} (h : validB c = false) : charQ n form c = 1 := by
  unfold charQ
  split
  · rfl
  · have ht : textOf n (cpOf form) [c] = [c] := by rw [textOf_one, full_invalid n _ h]; exact sort_one _ c
    have h2 : secondB (usableN n) c = false := by
      cases hs : secondB (usableN n) c with
      | false => rfl
      | true => rw [second_valid (usableN_good n) hs] at h; cases h
    rw [if_pos (form_invalid n form h), ht, List.headD_cons, h2]
    simp
theorem allQ_congr {f : Int → Int} {l m : List Int} (h : ∀ c, f c ≠ 1 → (c ∈ l ↔ c ∈ m)) : allQ f l = allQ f m := by
  have h2 : (∃ c ∈ l, f c = 2) ↔ ∃ c ∈ m, f c = 2 := ⟨fun ⟨c, h1, h3⟩ => ⟨c, (h c (by omega)).1 h1, h3⟩, fun ⟨c, h1, h3⟩ => ⟨c, (h c (by omega)).2 h1, h3⟩⟩
  have h3 : (∃ c ∈ l, f c = 3) ↔ ∃ c ∈ m, f c = 3 := ⟨fun ⟨c, h1, h3⟩ => ⟨c, (h c (by omega)).1 h1, h3⟩, fun ⟨c, h1, h3⟩ => ⟨c, (h c (by omega)).2 h1, h3⟩⟩
  unfold allQ
  simp only [h2, h3]
theorem allQ_dist (n : Nrm) (form : Int) (text : List Int) : allQ (charQ n form) (distL text) = allQ (charQ n form) text :=
  allQ_congr (fun c hc => by
    rw [(distL_spec text).1 c]
    refine ⟨fun h => h.1, fun h => ⟨h, ?_⟩⟩
    cases hv : validB c with
    | true => rfl
    | false => exact absurd (charQ_invalid n form hv) hc)
theorem allQ_one {f : Int → Int} (hf : ∀ c, f c = 1 ∨ f c = 2 ∨ f c = 3) {l : List Int} (h : allQ f l = 1) : ∀ c ∈ l, f c = 1 := by
  intro c hc
  unfold allQ at h
  split at h
  · omega
  · rename_i h2
    split at h
    · omega
    · rename_i h3
      rcases hf c with h4 | h4 | h4
      · exact h4
      · exact absurd ⟨c, hc, h4⟩ h2
      · exact absurd ⟨c, hc, h4⟩ h3
theorem allQ_two {f : Int → Int} {l : List Int} (h : allQ f l = 2) : ∃ c ∈ l, f c = 2 := by
  unfold allQ at h
  split at h
  · assumption
  · split at h <;> omega
theorem allQ_three {f : Int → Int} {l : List Int} (h : allQ f l = 3) : ∃ c ∈ l, f c = 3 := by
  unfold allQ at h
  split at h
  · omega
  · split at h
    · assumption
    · omega
theorem combQ_one {a b : Int} (h : combQ a b = 1) : (a ≠ 2 ∧ b ≠ 2) ∧ a ≠ 3 ∧ b ≠ 3 := by
  unfold combQ at h
  split at h
  · omega
  · split at h <;> omega
theorem combQ_cases (a b : Int) : combQ a b = 1 ∨ combQ a b = 2 ∨ combQ a b = 3 := by
  unfold combQ
  split
  · exact .inr (.inl rfl)
  · split
    · exact .inr (.inr rfl)
    · exact .inl rfl
theorem allQ_cases (f : Int → Int) (l : List Int) : allQ f l = 1 ∨ allQ f l = 2 ∨ allQ f l = 3 := by
  unfold allQ
  split
  · exact .inr (.inl rfl)
  · split
    · exact .inr (.inr rfl)
    · exact .inl rfl
theorem quick_decides (n : Nrm) (form : Int) (text : List Int) : (textQ n form text = 1 → formOf n form text = text) ∧ (textQ n form text = 2 → formOf n form text ≠ text) ∧ (textQ n form text = 1 ∨ textQ n form text = 2 ∨ textQ n form text = 3) := by
  by_cases hf : form < 1 ∨ 4 < form
  · have : textQ n form text = 1 := if_pos hf
    exact ⟨fun _ => formOf_0 n hf _, fun h => by omega, .inl this⟩
  · have e : textQ n form text = combQ (if sortT (classOf (usableN n).classes) text = text then 1 else 2) (allQ (charQ n form) text) := by unfold textQ; rw [if_neg hf]
    rw [e]
    refine ⟨fun h => ?_, fun h hn => ?_, ?_⟩
    · obtain ⟨⟨h1, h2⟩, h3, h4⟩ := combQ_one h
      have hs : sortT (classOf (usableN n).classes) text = text := by
        by_cases hs : sortT (classOf (usableN n).classes) text = text
        · exact hs
        · rw [if_neg hs] at h1; omega
      have ha : allQ (charQ n form) text = 1 := by rcases allQ_cases (charQ n form) text with h5 | h5 | h5 <;> omega
      exact form_yes n hf hs (fun c hc => charQ_yes n hf (allQ_one (charQ_cases n form) ha c hc))
    · obtain ⟨q1, q2⟩ := form_quick n hf text
      rw [hn] at q1 q2
      rw [if_pos q2] at h
      have ha : allQ (charQ n form) text = 2 := by
        unfold combQ at h
        split at h
        · rename_i h1; omega
        · split at h <;> omega
      obtain ⟨c, hc, h2⟩ := allQ_two ha
      exact (charQ_no n hf c).1 h2 (q1 c hc)
    · exact combQ_cases _ _
theorem quick_forms (n : Nrm) (form : Int) (text : List Int) : textQ n form (formOf n form text) = 1 ∨ (textQ n form (formOf n form text) = 3 ∧ (form = 1 ∨ form = 3)) := by
  obtain ⟨_, h2, h3⟩ := quick_decides n form (formOf n form text)
  rcases h3 with h | h | h
  · exact .inl h
  · exact absurd (form_again n form text) (h2 h)
  · right
    refine ⟨h, ?_⟩
    by_cases hf : form < 1 ∨ 4 < form
    · have : textQ n form (formOf n form text) = 1 := if_pos hf
      omega
    · have e : textQ n form (formOf n form text) = combQ (if sortT (classOf (usableN n).classes) (formOf n form text) = formOf n form text then 1 else 2) (allQ (charQ n form) (formOf n form text)) := by unfold textQ; rw [if_neg hf]
      rw [e, if_pos (form_quick n hf text).2] at h
      have ha : allQ (charQ n form) (formOf n form text) = 3 := by
        unfold combQ at h
        split at h
        · omega
        · split at h
          · rename_i h1; omega
          · omega
      obtain ⟨c, _, hc⟩ := allQ_three ha
      have := charQ_maybe n hc
      simpa [comps] using this
end Go.Proofs.YtjfhcmkcmdnhoaaGreatDoor
namespace Go.Proofs.YtjfhcmkcmdnhoaaGreatDoor
theorem emptyQ_usable : usableN emptyN = emptyN := if_pos emptyN_check
theorem emptyQ_class (c : Int) : classOf (usableN emptyN).classes c = 0 := by rw [emptyQ_usable]; rfl
theorem emptyQ_full (cp : Bool) : fullOf (usableN emptyN).decomp cp 4449 = [4449] := full_alone (usableN_full emptyN cp) (by rw [show (usableN emptyN).decomp = [] by rw [emptyQ_usable]; rfl]; cases cp <;> decide +kernel)
theorem emptyQ_text (cp : Bool) : textOf emptyN cp [4449] = [4449] := by rw [textOf_one, emptyQ_full]; exact sort_one _ _
theorem emptyQ_second : secondB (usableN emptyN) 4449 = true := secondB_iff.2 ⟨4352, pairOf_comp (comp_v (by omega) (by omega))⟩
theorem emptyQ_f1 : formOf emptyN 1 [4449] = [4449] := by rw [formOf_1, emptyQ_text]; rfl
theorem emptyQ_f2 : formOf emptyN 2 [4449] = [4449] := by rw [formOf_2, emptyQ_text]
theorem emptyQ_1 : charQ emptyN 1 4449 = 3 := by
  unfold charQ
  rw [if_neg (by omega), if_pos emptyQ_f1, emptyQ_text, List.headD_cons, emptyQ_second]
  rfl
theorem emptyQ_2 : charQ emptyN 2 4449 = 1 := by
  unfold charQ
  rw [if_neg (by omega), if_pos emptyQ_f2]
  rfl
theorem emptyQ_b1 : boundB emptyN 1 4449 = false := by
  unfold boundB
  rw [if_neg (by omega), emptyQ_full]
  simp [emptyQ_second, show comps 1 = true by decide]
theorem emptyQ_b2 : boundB emptyN 2 4449 = true := by
  unfold boundB
  rw [if_neg (by omega), emptyQ_full]
  simp [emptyQ_class, show comps 2 = false by decide]
theorem emptyQ_3 : charQ emptyN 2 44032 = 2 := by
  refine (charQ_no emptyN (by omega) 44032).2 (fun h => ?_)
  have hl := congrArg List.length h
  rw [formOf_2, textOf_len] at hl
  have hd : (usableN emptyN).decomp = [] := by rw [emptyQ_usable]; rfl
  have hF := usableN_full emptyN false
  have e1 : fullOf (usableN emptyN).decomp false 4352 = [4352] := full_alone hF (by rw [hd]; decide +kernel)
  have e2 : fullOf (usableN emptyN).decomp false 4449 = [4449] := full_alone hF (by rw [hd]; decide +kernel)
  have e3 : fullOf (usableN emptyN).decomp false 44032 = [4352, 4449] := by
    rw [@full_to _ _ _ hF 44032 [4352, 4449] (by rw [hd]; decide +kernel)]
    simp only [List.flatMap_cons, List.flatMap_nil, e1, e2]
    rfl
  simp only [List.flatMap_cons, List.flatMap_nil, e3, List.append_nil] at hl
  simp at hl
end Go.Proofs.YtjfhcmkcmdnhoaaGreatDoor
