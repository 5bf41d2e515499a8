/- Texts split into identifiers. No program. Where a text stops to be the beginning of an identifier. No program. -/
import Derived.Test.YtmlcdohldkgcdaaGreatDoorKBase
namespace Go.Proofs.YtmlcdohldkgcdaaGreatDoor
section
variable (b p c : Int → Bool)
def splitF : Nat → Nat → List Int → List Rng
  | 0, _, _ => []
  | _ + 1, _, [] => []
  | f + 1, lo, x :: t => if (idScan b p c (x :: t)).1 = 0 then splitF f (lo + 1) t else ⟨lo, ((lo + (idScan b p c (x :: t)).1 : Nat) : Int)⟩ :: splitF f (lo + (idScan b p c (x :: t)).1) ((x :: t).drop (idScan b p c (x :: t)).1)
def splitL (text : List Int) : List Rng := splitF b p c text.length 0 text
end
section
variable {b p c : Int → Bool}
theorem splitF_more : ∀ (f g lo : Nat) (t : List Int), t.length ≤ f → t.length ≤ g → splitF b p c f lo t = splitF b p c g lo t
  | 0, g, lo, t, hf, _ => by
    have : t = [] := List.eq_nil_of_length_eq_zero (by omega)
    subst this
    cases g <;> rfl
  | f + 1, 0, lo, t, _, hg => by
    have : t = [] := List.eq_nil_of_length_eq_zero (by omega)
    subst this
    rfl
  | f + 1, g + 1, lo, [], _, _ => rfl
  | f + 1, g + 1, lo, x :: t, hf, hg => by
    simp only [List.length_cons] at hf hg
    rw [splitF, splitF]
    split
    · exact splitF_more f g _ t (by omega) (by omega)
    · rename_i h0
      rw [splitF_more f g _ _ (by rw [List.length_drop, List.length_cons]; omega) (by rw [List.length_drop, List.length_cons]; omega)]
theorem split_step {text : List Int} {lo : Nat} {x : Int} {t : List Int} (h : text.drop lo = x :: t) :
    splitF b p c text.length lo (text.drop lo) = if (idScan b p c (text.drop lo)).1 = 0 then splitF b p c text.length (lo + 1) (text.drop (lo + 1)) else ⟨lo, ((lo + (idScan b p c (text.drop lo)).1 : Nat) : Int)⟩ :: splitF b p c text.length (lo + (idScan b p c (text.drop lo)).1) (text.drop (lo + (idScan b p c (text.drop lo)).1)) := by
  have hl : (text.drop lo).length = text.length - lo := List.length_drop
  have hlt : lo < text.length := by rw [h] at hl; simp at hl; omega
  obtain ⟨f, hf⟩ : ∃ f, text.length = f + 1 := ⟨text.length - 1, by omega⟩
  have ht : text.drop (lo + 1) = t := by rw [← List.drop_drop, h]; rfl
  have htl : t.length ≤ f := by rw [h] at hl; simp at hl; omega
  rw [hf, h, splitF]
  split
  · rw [ht]; exact splitF_more _ _ _ _ htl (by omega)
  · rename_i h0
    congr 1
    have e : text.drop (lo + (idScan b p c (x :: t)).1) = (x :: t).drop (idScan b p c (x :: t)).1 := by rw [← h, List.drop_drop]
    rw [e]
    exact splitF_more _ _ _ _ (by rw [List.length_drop, List.length_cons]; omega) (by rw [List.length_drop, List.length_cons]; omega)
theorem split_end {text : List Int} {lo : Nat} (h : text.length ≤ lo) : splitF b p c text.length lo (text.drop lo) = [] := by
  rw [List.drop_eq_nil_of_le h]
  cases text.length <;> rfl
theorem scan_le (hb : ∀ x, b x = true → p x = true) (text : List Int) : (idScan b p c text).1 ≤ text.length := by
  obtain ⟨h1, h2, _, _⟩ := scan_spec (c := c) hb text
  omega
theorem splitF_good (hb : ∀ x, b x = true → p x = true) (text : List Int) : ∀ (m lo : Nat), text.length - lo ≤ m → ∀ r ∈ splitF b p c text.length lo (text.drop lo), ∃ i e : Nat, r.lo = i ∧ r.hi = ((i + e : Nat) : Int) ∧ lo ≤ i ∧ 0 < e ∧ i + e ≤ text.length ∧ e = (idScan b p c (text.drop i)).1 := by
  intro m
  induction m with
  | zero =>
    intro lo hm r hr
    rw [split_end (by omega)] at hr
    simp at hr
  | succ m ih =>
    intro lo hm r hr
    rcases Nat.lt_or_ge lo text.length with hlt | hge
    · obtain ⟨x, t, h⟩ : ∃ x t, text.drop lo = x :: t := by
        cases hd : text.drop lo with
        | nil => have := congrArg List.length hd; rw [List.length_drop] at this; simp at this; omega
        | cons x t => exact ⟨x, t, rfl⟩
      rw [split_step h] at hr
      have hle := scan_le (c := c) hb (text.drop lo)
      rw [List.length_drop] at hle
      split at hr
      · obtain ⟨i, e, h1, h2, h3, h4⟩ := ih (lo + 1) (by omega) r hr
        exact ⟨i, e, h1, h2, by omega, h4⟩
      · rename_i h0
        rcases List.mem_cons.1 hr with e1 | e1
        · rw [e1]
          exact ⟨lo, _, rfl, rfl, Nat.le_refl _, by omega, by omega, rfl⟩
        · obtain ⟨i, e, h1, h2, h3, h4⟩ := ih _ (by omega) r e1
          exact ⟨i, e, h1, h2, by omega, h4⟩
    · rw [split_end hge] at hr
      simp at hr
end
end Go.Proofs.YtmlcdohldkgcdaaGreatDoor
namespace Go.Proofs.YtmlcdohldkgcdaaGreatDoor
section
variable {b p c : Int → Bool}
theorem scan_whole (hb : ∀ x, b x = true → p x = true) (text : List Int) : idValid b p c text = (decide (0 < (idScan b p c text).1) && decide ((idScan b p c text).1 = text.length)) := by
  obtain ⟨h1, h2, h3, h4⟩ := scan_spec (c := c) hb text
  rcases Nat.eq_zero_or_pos (idScan b p c text).1 with h0 | h0
  · rw [h0]
    simp only [Nat.lt_irrefl, decide_false, Bool.false_and]
    cases text with
    | nil => rfl
    | cons x t =>
      have := h4 (x :: t).length (by rw [h0]; simp) (Nat.le_refl _)
      rwa [List.take_length] at this
  · by_cases he : (idScan b p c text).1 = text.length
    · have := h3 h0
      rw [he, List.take_length] at this
      rw [this]
      simp [he]
      omega
    · have := h4 text.length (by omega) (Nat.le_refl _)
      rw [List.take_length] at this
      rw [this]
      simp [he]
theorem split_whole (hb : ∀ x, b x = true → p x = true) (text : List Int) : idValid b p c text = true ↔ splitL b p c text = [⟨0, (text.length : Int)⟩] := by
  rw [scan_whole hb]
  cases text with
  | nil => simp [splitL, splitF, idScan]
  | cons x t =>
    have hst := split_step (b := b) (p := p) (c := c) (text := x :: t) (lo := 0) rfl
    rw [List.drop_zero] at hst
    unfold splitL
    rw [hst]
    simp only [Nat.zero_add, Bool.and_eq_true, decide_eq_true_eq]
    constructor
    · rintro ⟨h1, h2⟩
      rw [if_neg (by omega), h2, split_end (Nat.le_refl _)]
      rfl
    · intro h
      by_cases h0 : (idScan b p c (x :: t)).1 = 0
      · rw [if_pos h0] at h
        exfalso
        have hm : (⟨0, ((x :: t).length : Int)⟩ : Rng) ∈ splitF b p c (x :: t).length 1 ((x :: t).drop 1) := by rw [h]; simp
        obtain ⟨i, e, h1, _, h3, _⟩ := splitF_good hb (x :: t) (x :: t).length 1 (by omega) _ hm
        simp only at h1
        omega
      · rw [if_neg h0] at h
        simp only [List.cons.injEq, Rng.mk.injEq] at h
        have := h.1.2
        exact ⟨by omega, by omega⟩
theorem scan_none (hb : ∀ x, b x = true → p x = true) {x : Int} {t : List Int} (h : (idScan b p c (x :: t)).1 = 0) : b x = false := by
  cases hx : b x with
  | false => rfl
  | true =>
    exfalso
    rw [show idScan b p c (x :: t) = if b x = true then idGo p c t 1 1 else (0, 0) from rfl, if_pos hx] at h
    have hmx : medB p c x = false := by simp [medB, hb x hx]
    obtain ⟨_, h2⟩ := idGo_spec (p := p) (c := c) t x 1 1 (by simp [hmx])
    rw [h] at h2
    split at h2
    · rename_i hm
      have h0 : idRun p c x t = 0 := by omega
      rw [h0] at hm
      simp [hmx] at hm
    · omega
theorem splitF_out (hb : ∀ x, b x = true → p x = true) (text : List Int) : ∀ (m lo : Nat), text.length - lo ≤ m → ∀ i x, lo ≤ i → text[i]? = some x → (∀ r ∈ splitF b p c text.length lo (text.drop lo), ¬ (r.lo ≤ (i : Int) ∧ (i : Int) < r.hi)) → b x = false := by
  intro m
  induction m with
  | zero =>
    intro lo hm i x hi hx _
    have := lt_of_getElem?_some hx
    omega
  | succ m ih =>
    intro lo hm i x hi hx hout
    have hil := lt_of_getElem?_some hx
    have hlt : lo < text.length := by omega
    obtain ⟨y, t, h⟩ : ∃ y t, text.drop lo = y :: t := by
      cases hd : text.drop lo with
      | nil => have := congrArg List.length hd; rw [List.length_drop] at this; simp at this; omega
      | cons x t => exact ⟨x, t, rfl⟩
    have hst := split_step (b := b) (p := p) (c := c) h
    rw [hst] at hout
    by_cases h0 : (idScan b p c (text.drop lo)).1 = 0
    · rw [if_pos h0] at hout
      rcases Nat.eq_or_lt_of_le hi with e | e
      · subst e
        have hy : x = y := by
          have := congrArg (·[0]?) h
          simp only [List.getElem?_drop, Nat.add_zero, List.getElem?_cons_zero] at this
          rw [hx] at this
          injection this
        rw [hy]
        rw [h] at h0
        exact scan_none hb h0
      · exact ih (lo + 1) (by omega) i x (by omega) hx hout
    · rw [if_neg h0] at hout
      have h1 := hout _ (List.mem_cons_self ..)
      simp only at h1
      exact ih _ (by omega) i x (by omega) hx (fun r hr => hout r (List.mem_cons_of_mem _ hr))
end
end Go.Proofs.YtmlcdohldkgcdaaGreatDoor
