/- Boundaries at the ends of a text, found step by step; the quick check of a text, element by element. No walk. -/
import Derived.Test.YtjfhcmkcmdnhoaaGreatDoorKQr
namespace Go.Proofs.YtjfhcmkcmdnhoaaGreatDoor
section
variable {p : Int → Bool} {t : List Int}
end
theorem allQ_nilR (f : Int → Int) : allQ f [] = 1 := by
  unfold allQ
  rw [if_neg (by simp), if_neg (by simp)]
theorem allQ_snocR {f : Int → Int} {l : List Int} {x : Int} (hl : allQ f l ≠ 2) (hx : f x ≠ 2) : allQ f (l ++ [x]) = if f x = 3 then 3 else allQ f l := by
  have h2 : ¬ ∃ c ∈ l, f c = 2 := fun h => hl (by unfold allQ; rw [if_pos h])
  have h2' : ¬ ∃ c ∈ l ++ [x], f c = 2 := by
    rintro ⟨c, hc, h⟩
    rcases List.mem_append.1 hc with h1 | h1
    · exact h2 ⟨c, h1, h⟩
    · rw [List.mem_singleton] at h1; subst h1; exact hx h
  unfold allQ
  rw [if_neg h2, if_neg h2']
  by_cases h3 : f x = 3
  · rw [if_pos h3, if_pos ⟨x, by simp, h3⟩]
  · rw [if_neg h3]
    by_cases h4 : ∃ c ∈ l, f c = 3
    · obtain ⟨c, hc, h⟩ := h4
      rw [if_pos ⟨c, List.mem_append_left _ hc, h⟩, if_pos ⟨c, hc, h⟩]
    · rw [if_neg h4, if_neg]
      rintro ⟨c, hc, h⟩
      rcases List.mem_append.1 hc with h1 | h1
      · exact h4 ⟨c, h1, h⟩
      · rw [List.mem_singleton] at h1; subst h1; exact h3 h
theorem textQ_two (n : Nrm) {form c : Int} {text : List Int} (h : ¬ (form < 1 ∨ 4 < form)) (hc : c ∈ text) (hq : charQ n form c = 2) : textQ n form text = 2 := by
  unfold textQ
  rw [if_neg h]
  have : allQ (charQ n form) text = 2 := by unfold allQ; rw [if_pos ⟨c, hc, hq⟩]
  rw [this]
  unfold combQ
  rw [if_pos (.inr rfl)]
theorem textQ_end (n : Nrm) {form : Int} {text : List Int} (h : ¬ (form < 1 ∨ 4 < form)) (h2 : allQ (charQ n form) text ≠ 2) :
    textQ n form text = if sortT (classOf (usableN n).classes) text = text then allQ (charQ n form) text else 2 := by
  unfold textQ
  rw [if_neg h]
  by_cases hs : sortT (classOf (usableN n).classes) text = text
  · rw [if_pos hs, if_pos hs]
    unfold combQ
    rcases allQ_cases (charQ n form) text with e | e | e
    · rw [e]; simp
    · exact absurd e h2
    · rw [e]; simp
  · rw [if_neg hs, if_neg hs]
    unfold combQ
    rw [if_pos (.inl rfl)]
theorem textQ_unknown (n : Nrm) {form : Int} (text : List Int) (h : form < 1 ∨ 4 < form) : textQ n form text = 1 := by
  unfold textQ
  rw [if_pos h]
end Go.Proofs.YtjfhcmkcmdnhoaaGreatDoor
