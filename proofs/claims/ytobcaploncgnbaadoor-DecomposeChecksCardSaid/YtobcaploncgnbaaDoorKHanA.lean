/- hangul.parts and Decompose, and the reference's. -/
import Derived.Laws.StructEq
import Derived.Test.YtobcaploncgnbaaDoorKSimA
import Derived.Test.YtobcaploncgnbaaDoorKOwn
import Derived.Test.YtobcaploncgnbaaDoorKPl
namespace Go.Proofs.YtobcaploncgnbaaDoor
open Go Go.RowKit

theorem kind_ge {c : Int} (h : 4 ≤ kind c) : 44032 ≤ c ∧ c < 55204 := by
  unfold kind at h
  by_cases h1 : 4352 ≤ c ∧ c < 4371
  · rw [if_pos h1] at h; omega
  · by_cases h2 : 4449 ≤ c ∧ c < 4470
    · rw [if_neg h1, if_pos h2] at h; omega
    · by_cases h3 : 4520 ≤ c ∧ c < 4547
      · rw [if_neg h1, if_neg h2, if_pos h3] at h; omega
      · by_cases h4 : c < 44032 ∨ 55204 ≤ c
        · rw [if_neg h1, if_neg h2, if_neg h3, if_pos h4] at h; omega
        · omega

theorem hparts_any (c : Int) (w : World) : Calls Tryd.prog 82 #[.int .i64 c] w fun e w' =>
    e = .returned (.agg (if kind c < 4 then #[.int .i64 0, .int .i64 0, .int .i64 0] else #[.int .i64 (hL c), .int .i64 (hV c), .int .i64 (hT c)])) ∧ Kept w w' := by
  by_cases hk : kind c < 4
  · rw [if_pos hk]
    go_enter Tryd.func82, Tryd.ntmps82
    go_wp2_with (go_at_call 32; refine (kind_any _ _).mono ?_; rintro e w' ⟨rfl, rfl⟩)
    exact bodyPost_ret (v := .agg #[.int .i64 0, .int .i64 0, .int .i64 0]) (by simp [results, Tryd.results82, go_sem]) rfl ⟨rfl, by repeat (first | exact Kept.refl _ | refine Kept.drew ?_ | refine Kept.alloc ?_ _)⟩
  · rw [if_neg hk]
    have hr := kind_ge (c := c) (by omega)
    obtain ⟨hr1, hr2⟩ := hr
    by_cases ht : (c - 44032) % 28 = 0
    · have e3 : hT c = 0 := if_pos ht
      have HT3 := Lib.hid e3
      have ht' : ¬ 0 < (c - 44032) % 28 := by omega
      clear e3
      go_enter Tryd.func82, Tryd.ntmps82
      go_wp2_with (go_at_call 32; refine (kind_any _ _).mono ?_; rintro e w' ⟨rfl, rfl⟩)
      rw [HT3.out]
      exact bodyPost_ret (v := .agg #[.int .i64 (hL c), .int .i64 (hV c), .int .i64 0]) (by simp [results, Tryd.results82, go_sem, hL, hV]) rfl ⟨rfl, by repeat (first | exact Kept.refl _ | refine Kept.drew ?_ | refine Kept.alloc ?_ _)⟩
    · have e3 : hT c = 4520 + (c - 44032) % 28 - 1 := if_neg ht
      have HT3 := Lib.hid e3
      have ht' : 0 < (c - 44032) % 28 := by omega
      clear e3 ht
      go_enter Tryd.func82, Tryd.ntmps82
      go_wp2_with (go_at_call 32; refine (kind_any _ _).mono ?_; rintro e w' ⟨rfl, rfl⟩)
      rw [HT3.out]
      exact bodyPost_ret (v := .agg #[.int .i64 (hL c), .int .i64 (hV c), .int .i64 (4520 + (c - 44032) % 28 - 1)]) (by simp [results, Tryd.results82, go_sem, hL, hV]) rfl ⟨rfl, by repeat (first | exact Kept.refl _ | refine Kept.drew ?_ | refine Kept.alloc ?_ _ | refine Kept.setCell ?_ (by simp) _)⟩
end Go.Proofs.YtobcaploncgnbaaDoor
