/- Identifiers: the first range of a split, and what lies before it. No program. -/
import Derived.Test.YtmlcdohldkgcdaaGreatDoorKPl44
namespace Go.Proofs.YtmlcdohldkgcdaaGreatDoor
section
variable {b p c : Int → Bool}
theorem split_head (hb : ∀ x, b x = true → p x = true) (text : List Int) : ∀ (m q : Nat), text.length - q ≤ m → ∀ (r : Rng) (rest : List Rng), splitF b p c text.length q (text.drop q) = r :: rest →
    ∃ i e : Nat, r.lo = i ∧ r.hi = (i : Int) + (e : Int) ∧ q ≤ i ∧ 0 < e ∧ i + e ≤ text.length ∧ e = (idScan b p c (text.drop i)).1 ∧ rest = splitF b p c text.length (i + e) (text.drop (i + e)) ∧ ∀ j x, q ≤ j → j < i → text[j]? = some x → b x = false := by
  intro m
  induction m with
  | zero =>
    intro q hm r rest h
    rw [split_end (by omega)] at h
    cases h
  | succ m ih =>
    intro q hm r rest h
    rcases Nat.lt_or_ge q text.length with hq | hq
    · obtain ⟨x, hx⟩ := getElem?_some_of_lt (l := text) (k := q) hq
      have hd := drop_some hx
      have hle := scan_le (c := c) hb (text.drop q)
      rw [List.length_drop] at hle
      rw [split_step hd] at h
      by_cases h0 : (idScan b p c (text.drop q)).1 = 0
      · rw [if_pos h0] at h
        obtain ⟨i, e, h1, h2, h3, h4, h5, h6, h7, h8⟩ := ih (q + 1) (by omega) r rest h
        refine ⟨i, e, h1, h2, by omega, h4, h5, h6, h7, fun j y hj hji hy => ?_⟩
        rcases Nat.eq_or_lt_of_le hj with h9 | h9
        · subst h9
          rw [hx] at hy
          injection hy with hy
          subst hy
          rw [hd] at h0
          exact scan_none hb h0
        · exact h8 j y h9 hji hy
      · rw [if_neg h0] at h
        injection h with h1 h2
        exact ⟨q, (idScan b p c (text.drop q)).1, by rw [← h1], by rw [← h1]; exact Int.natCast_add _ _, Nat.le_refl _, by omega, by omega, rfl, h2.symm, fun j y hj hji => by omega⟩
    · rw [split_end hq] at h
      cases h
theorem split_none (hb : ∀ x, b x = true → p x = true) (text : List Int) {q : Nat} (h : splitF b p c text.length q (text.drop q) = []) : ∀ j x, q ≤ j → text[j]? = some x → b x = false := fun j x hj hx =>
  splitF_out (c := c) hb text text.length q (by omega) j x hj hx (by rw [h]; simp)
theorem split_part (hb : ∀ x, b x = true → p x = true) (text : List Int) {r : Rng} (hr : r ∈ splitL b p c text) : ∃ i e : Nat, r.lo = i ∧ r.hi = (i : Int) + (e : Int) ∧ 0 < e ∧ i + e ≤ text.length ∧ idValid b p c ((text.drop i).take e) = true ∧ ∀ k, e < k → i + k ≤ text.length → idValid b p c ((text.drop i).take k) = false := by
  obtain ⟨i, e, h1, h2, _, h4, h5, h6⟩ := splitF_good (c := c) hb text text.length 0 (by omega) r hr
  obtain ⟨s1, s2, s3, s4⟩ := scan_spec (c := c) hb (text.drop i)
  rw [← h6] at s3 s4
  exact ⟨i, e, h1, by rw [h2]; exact Int.natCast_add _ _, h4, h5, s3 h4, fun k h7 h8 => s4 k h7 (by rw [List.length_drop]; omega)⟩
end
end Go.Proofs.YtmlcdohldkgcdaaGreatDoor
