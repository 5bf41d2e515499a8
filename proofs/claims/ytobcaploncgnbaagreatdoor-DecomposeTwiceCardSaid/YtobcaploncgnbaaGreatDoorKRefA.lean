/- References: Small of layers 2, 11, 20, 21; Compare and Equal of layer 1. -/
import Derived.Test.YtobcaploncgnbaaGreatDoorKDecB
import Derived.Test.YtobcaploncgnbaaGreatDoorKPl
namespace Go.Proofs.YtobcaploncgnbaaGreatDoor
open Go Go.RowKit

theorem r20Small (A : Option Addr) (n c : Nat) (w : World) : Calls Tryz.prog 22 #[.slice A n c] w fun e w' => e = .returned (.bool (decide (n ≤ 16))) ∧ w = w' := by
  go_enter Tryz.func22, Tryz.ntmps22
  go_wp2
  go_ret
  exact ⟨ret_bool (by rw [decide_eq_decide]; omega), rfl⟩
theorem r02Small (A : Option Addr) (n c : Nat) (w : World) : Calls Tryz.prog 24 #[.agg #[.slice A n c]] w (RetB w (decide (n ≤ 12))) := by
  go_enter Tryz.func24, Tryz.ntmps24
  go_wp2
  go_ret
  exact ⟨ret_bool (by rw [decide_eq_decide]; omega), Kept.alloc (Kept.refl _) _⟩

set_option maxHeartbeats 1000000 in
theorem r11Small (A : Option Addr) (n c : Nat) (l : List Mp) (w : World) (hn : n ≤ 9223372036854775807) (hl : Mps w A n l) (hto : ∀ m ∈ l, m.to.length ≤ 9223372036854775807) :
    Calls Tryz.prog 23 #[.slice A n c] w fun e w' => e = .returned (.bool (smallMaps l)) ∧ w = w' := by
  have HL := Lib.hid hl
  have HN := Lib.hid hl.1
  have HTO := Lib.hid hto
  clear hl hto
  go_enter Tryz.func23, Tryz.ntmps23
  go_wp2
  go_loop [3] (fun i => ∃ k : Nat, k ≤ n ∧ k ≤ 30 ∧ i = .int .i64 k ∧ (l.take k).any mpBig = false) (fun i => 30 - (intOf i).toNat)
  case atStart => exact ⟨0, Nat.zero_le _, by omega, rfl, by simp⟩
  case round =>
    obtain ⟨k, hk, hk3, rfl, hno⟩ := hrel
    have HNO := Lib.hid hno
    clear hno
    by_cases hlt : k < n
    · by_cases h30 : k < 30
      · obtain ⟨b, off, m, A', n', c', rfl, hm, hle, hI, c0, c1, c2⟩ := mp_at HL.out hlt
        have HM := Lib.hid hm
        have HI := Lib.hid hI.1
        have hn' : n' ≤ 9223372036854775807 := by rw [hI.1]; exact HTO.out m (mem_of_getElem?_some hm)
        have hbig : mpBig m = true → smallMaps l = false := fun h => by
          unfold smallMaps
          have : (l.take 30).any mpBig = true := List.any_eq_true.2 ⟨m, by
            have := HM.out
            exact List.mem_of_getElem? (i := k) (by rw [List.getElem?_take, if_pos h30]; exact this), h⟩
          rw [this]; rfl
        have HBG := Lib.hid hbig
        clear hm hI hbig
        go_wp2
        all_goals first
          | (go_ret
             exact ⟨ret_bool (HBG.out (by have := HI.out; simp [mpBig]; omega)).symm, rfl⟩)
          | (go_round
             case rel => exact ⟨k + 1, by omega, by omega, by go_num, by rw [any_take_snoc _ HM.out, HNO.out]; have := HI.out; simp [mpBig]; omega⟩
             case measure => simp [intOf]; omega)
      · obtain rfl : k = 30 := by omega
        go_wp2
        go_ret
        refine ⟨ret_bool ?_, rfl⟩
        unfold smallMaps
        rw [HNO.out, ← HN.out]
        simp; omega
    · have hkn : k = n := by omega
      go_wp2
      all_goals
        go_ret
        refine ⟨ret_bool ?_, rfl⟩
        unfold smallMaps
        have e1 : l.take 30 = l.take k := by rw [List.take_of_length_le (by have := HN.out; omega), List.take_of_length_le (by have := HN.out; omega)]
        rw [e1, HNO.out, ← HN.out]
        simp only [Bool.not_false, Bool.true_and, decide_eq_decide]; omega

set_option maxHeartbeats 1000000 in
theorem r01Compare (A B : Option Addr) (n m c d : Nat) (xs ys : List Int) (w : World) (hn : n ≤ 1000000) (_hm : m ≤ 1000000) (hx : Ints w A n xs) (hy : Ints w B m ys) :
    Calls Tryz.prog 19 #[.slice A n c, .slice B m d] w (RetI w (cmpL xs ys)) := by
  have HX := Lib.hid hx
  have HY := Lib.hid hy
  have HXN := Lib.hid hx.1
  have HYN := Lib.hid hy.1
  clear hx hy
  go_enter Tryz.func19, Tryz.ntmps19
  go_wp2
  go_loopw [5] (fun i wr => ∃ k : Nat, k ≤ n ∧ k ≤ m ∧ i = .int .i64 k ∧ cmpL xs ys = cmpL (xs.drop k) (ys.drop k) ∧ Below w.heap.size w wr) (fun i _ => n - (intOf i).toNat)
  case atStart => exact ⟨0, Nat.zero_le _, Nat.zero_le _, rfl, rfl, Below.refl _ _⟩
  case round =>
    obtain ⟨k, hk, hk2, rfl, hc, hB⟩ := hrel
    have HC := Lib.hid hc
    clear hc
    by_cases h1 : k < n
    · by_cases h2 : k < m
      · obtain ⟨b, off, x, rfl, hx, c0⟩ := int_at (HX.out.kept hB) h1
        obtain ⟨b2, off2, y, rfl, hy, c1⟩ := int_at (HY.out.kept hB) h2
        have hcc : cmpL (xs.drop k) (ys.drop k) = if x < y then -1 else if y < x then 1 else cmpL (xs.drop (k + 1)) (ys.drop (k + 1)) := by
          rw [drop_some hx, drop_some hy, cmpL]
        have HCC := Lib.hid (HC.out.trans hcc)
        clear hx hy hcc
        have g1 : (k : Int) < (n : Int) := by omega
        have g2 : (k : Int) < (m : Int) := by omega
        by_cases h3 : x < y
        · go_wp2
          go_quiet (fail)
          go_wp2
          go_ret
          exact ⟨ret_int (by rw [HCC.out, if_pos h3]), Kept.drewN hB _⟩
        · by_cases h4 : y < x
          · have h4' : x > y := h4
            go_wp2
            go_quiet (fail)
            go_wp2
            go_quiet (fail)
            go_wp2
            go_ret
            exact ⟨ret_int (by rw [HCC.out, if_neg (show ¬ x < y by omega), if_pos h4]), by repeat (first | exact hB | refine Kept.drewN ?_ _)⟩
          · go_wp2
            go_quiet (fail)
            go_wp2
            go_quiet (fail)
            go_wp2
            go_roundw
            case rel => exact ⟨k + 1, by omega, by omega, by go_num, by rw [HCC.out, if_neg (show ¬ x < y by omega), if_neg (show ¬ y < x by omega)], by repeat (first | exact hB | refine Kept.drewN ?_ _)⟩
            case measure => simp [intOf]; omega
      · have hkm : k = m := by omega
        have hres : cmpL xs ys = 1 := by
          rw [HC.out, List.drop_of_length_le (l := ys) (by have := HYN.out; omega)]
          obtain ⟨x, hx⟩ := getElem?_some_of_lt (l := xs) (k := k) (by have := HXN.out; omega)
          rw [drop_some hx, cmpL]
        have HR := Lib.hid hres
        clear hres
        go_wp2
        go_ret
        exact ⟨ret_int HR.out.symm, hB⟩
    · have hkn : k = n := by omega
      by_cases h2 : k < m
      · have hres : cmpL xs ys = -1 := by
          rw [HC.out, List.drop_of_length_le (l := xs) (by have := HXN.out; omega)]
          obtain ⟨x, hx⟩ := getElem?_some_of_lt (l := ys) (k := k) (by have := HYN.out; omega)
          rw [drop_some hx, cmpL]
        have HR := Lib.hid hres
        clear hres
        go_wp2
        go_ret
        exact ⟨ret_int HR.out.symm, hB⟩
      · have hres : cmpL xs ys = 0 := by
          rw [HC.out, List.drop_of_length_le (l := xs) (by have := HXN.out; omega), List.drop_of_length_le (l := ys) (by have := HYN.out; omega), cmpL]
        have HR := Lib.hid hres
        clear hres
        go_wp2
        go_ret
        exact ⟨ret_int HR.out.symm, hB⟩
theorem r01Equal (A B : Option Addr) (n m c d : Nat) (xs ys : List Int) (w : World) (hn : n ≤ 1000000) (hm : m ≤ 1000000) (hx : Ints w A n xs) (hy : Ints w B m ys) :
    Calls Tryz.prog 8 #[.slice A n c, .slice B m d] w (RetB w (decide (xs = ys))) := by
  have HC := Lib.hid (r01Compare A B n m c d xs ys w hn hm hx hy)
  clear hx hy
  go_enter Tryz.func8, Tryz.ntmps8
  go_wp2_with (go_at_call 19; refine HC.out.mono ?_; rintro e w' ⟨rfl, hk⟩)
  go_ret
  exact ⟨ret_bool (cmpL_zero xs ys), hk⟩
end Go.Proofs.YtobcaploncgnbaaGreatDoor
