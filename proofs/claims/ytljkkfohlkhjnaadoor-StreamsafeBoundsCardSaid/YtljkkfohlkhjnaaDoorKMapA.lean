/- mapping: compare, isName, parts, keyOf. -/
import Derived.Test.YtljkkfohlkhjnaaDoorKSimA
namespace Go.Proofs.YtljkkfohlkhjnaaDoor
open Go Go.RowKit

theorem isNaNs_any (s : ByteArray) (w : World) : Calls Tryd.prog 70 #[.string s] w fun e w' => e = .returned (.bool false) ∧ w = w' := by
  go_enter Tryd.func70, Tryd.ntmps70
  go_wp2
  all_goals (go_ret; exact ⟨ret_bool (by simp), rfl⟩)
theorem cmps_any (a b : ByteArray) (w : World) : Calls Tryd.prog 62 #[.string a, .string b] w fun e w' => e = .returned (.int .i64 (cmpS a b)) ∧ w = w' := by
  go_enter Tryd.func62, Tryd.ntmps62
  go_wp2_with (go_at_call 70; refine (isNaNs_any _ _).mono ?_; rintro e w' ⟨rfl, rfl⟩)
  all_goals (go_ret; refine ⟨ret_int ?_, rfl⟩; unfold cmpS; simp only [*]; rfl)
theorem isName_any (s : ByteArray) (w : World) : Calls Tryd.prog 60 #[.string s] w fun e w' => e = .returned (.bool (isNameB s)) ∧ w = w' := by
  by_cases hs : s.toList = []
  · have hf : isNameB s = false := by simp [isNameB, hs]
    have HF := Lib.hid hf
    clear hf
    go_enter Tryd.func60, Tryd.ntmps60
    go_wp2
    go_ret
    exact ⟨ret_bool HF.out.symm, rfl⟩
  · have hs' : s.toList.isEmpty = false := by simpa using hs
    have HS := Lib.hid hs
    clear hs
    by_cases hsz : s.size ≤ 32
    · have hd : decide (32 < (s.size : Int)) = false := by simp; omega
      go_enter Tryd.func60, Tryd.ntmps60
      go_wp2
      go_loop [15] (fun i => ∃ k : Nat, k ≤ s.size ∧ i = .int .i64 k ∧ (s.data.toList.take k).all nameByte = true) (fun i => s.size - (intOf i).toNat)
      case atStart => exact ⟨0, Nat.zero_le _, rfl, by simp⟩
      case round =>
        obtain ⟨k, hk, rfl, hall⟩ := hrel
        have HA := Lib.hid hall
        clear hall
        by_cases hlt : k < s.size
        · have hb := UInt8.toNat_lt s[k]
          go_wp2
          all_goals first
            | (go_ret
               refine ⟨ret_bool (isNameB_false hlt (nameByte_false ?_)).symm, rfl⟩
               go_light
               simp at *
               omega)
            | (go_round
               case rel =>
                 refine ⟨k + 1, by omega, by go_num, ?_⟩
                 rw [take_succ_some (bytes_take hlt), List.all_append, HA.out, Bool.true_and, List.all_cons, List.all_nil, Bool.and_true]
                 refine nameByte_true ?_
                 go_light
                 simp at *
                 omega
               case measure => simp [intOf]; omega)
        · go_wp2
          go_ret
          refine ⟨ret_bool ?_, rfl⟩
          have h := HA.out
          rw [List.take_of_length_le (by simp; omega)] at h
          unfold isNameB
          rw [h]
          simp [HS.out, hsz]
    · have hf : isNameB s = false := by simp [isNameB, hsz]
      have HF := Lib.hid hf
      clear hf
      go_enter Tryd.func60, Tryd.ntmps60
      go_wp2
      all_goals first
        | (exfalso; omega)
        | (go_ret
           exact ⟨ret_bool HF.out.symm, rfl⟩)
theorem keyOf_any (x : Int) (v1 : Value) (s : ByteArray) (w : World) : Calls Tryd.prog 46 #[.agg #[.int .i64 x, v1, .string s]] w fun e w' => e = .returned (.agg #[.int .i64 x, .string s]) ∧ Kept w w' := by
  go_enter Tryd.func46, Tryd.ntmps46
  go_wp2
  exact bodyPost_ret (v := .agg #[.int .i64 x, .string s]) (by simp [results, Tryd.results46, go_sem]) rfl ⟨rfl, by repeat (first | exact Kept.refl _ | refine Kept.drew ?_ | refine Kept.alloc ?_ _)⟩
end Go.Proofs.YtljkkfohlkhjnaaDoor
