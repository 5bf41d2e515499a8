/- normalize.Form. codepoint.Compare and Equal. normalize.Is, Same and First. -/
import Derived.Deep.RegionHeld3
import Derived.Test.YtjfhcmkcmdnhoaaGreatDoorKCmc
import Derived.Test.YtjfhcmkcmdnhoaaGreatDoorKDecD
import Derived.Test.YtjfhcmkcmdnhoaaGreatDoorKRefA
namespace Go.Proofs.YtjfhcmkcmdnhoaaGreatDoor
open Go Go.RowKit
set_option maxHeartbeats 1000000 in
theorem stepD_any (s : Sls) (n : Nrm) (A : Option Addr) (nt ct : Nat) (text : List Int) (w : World) (hN : NormAt w s n) (hG : Glob w) (hnt : nt ≤ 500000) (hT : Ints w A nt text) :
    Calls Tryz.prog 47 #[s.val, .slice A nt ct] w (RetInts w (textOf n false text)) := by
  have hk1 := Kept.alloc (Kept.refl w) (Obj.cells #[Value.slice s.Ac s.nc s.cc, Value.slice s.Am s.nm s.cm, Value.slice s.Ae s.ne s.ce] 64)
  have HT := Lib.hid (text_any s n A nt ct text false _ (hN.kept hk1) (hG.kept hk1) hnt (hT.kept hk1))
  have HK1 := Lib.hid hk1
  clear hN hG hT hk1
  generalize textOf n false text = X at *
  unfold Sls.val at *
  go_enter Tryz.func47, Tryz.ntmps47
  go_wp2_with fail
  refine HT.out.mono ?_
  rintro e w1 ⟨A1, n1, c1, rfl, le1, i1, k1⟩
  have I1 := Lib.hid i1
  clear i1
  go_wp2_with fail
  go_ret
  exact ⟨A1, n1, c1, rfl, le1, I1.out, Kept.trans HK1.out k1⟩
set_option maxHeartbeats 1000000 in
theorem stepK_any (s : Sls) (n : Nrm) (A : Option Addr) (nt ct : Nat) (text : List Int) (w : World) (hN : NormAt w s n) (hG : Glob w) (hnt : nt ≤ 500000) (hT : Ints w A nt text) :
    Calls Tryz.prog 48 #[s.val, .slice A nt ct] w (RetInts w (textOf n true text)) := by
  have hk1 := Kept.alloc (Kept.refl w) (Obj.cells #[Value.slice s.Ac s.nc s.cc, Value.slice s.Am s.nm s.cm, Value.slice s.Ae s.ne s.ce] 64)
  have HT := Lib.hid (text_any s n A nt ct text true _ (hN.kept hk1) (hG.kept hk1) hnt (hT.kept hk1))
  have HK1 := Lib.hid hk1
  clear hN hG hT hk1
  generalize textOf n true text = X at *
  unfold Sls.val at *
  go_enter Tryz.func48, Tryz.ntmps48
  go_wp2_with fail
  refine HT.out.mono ?_
  rintro e w1 ⟨A1, n1, c1, rfl, le1, i1, k1⟩
  have I1 := Lib.hid i1
  clear i1
  go_wp2_with fail
  go_ret
  exact ⟨A1, n1, c1, rfl, le1, I1.out, Kept.trans HK1.out k1⟩
set_option maxHeartbeats 1000000 in
theorem stepC_any (s : Sls) (n : Nrm) (A : Option Addr) (nt ct : Nat) (text : List Int) (w : World) (hN : NormAt w s n) (hG : Glob w) (hnt : nt ≤ 100000000) (hT : Ints w A nt text) :
    Calls Tryz.prog 46 #[s.val, .slice A nt ct] w (RetInts w (compN n text)) := by
  have hk1 := Kept.alloc (Kept.refl w) (Obj.cells #[Value.slice s.Ac s.nc s.cc, Value.slice s.Am s.nm s.cm, Value.slice s.Ae s.ne s.ce] 64)
  have HT := Lib.hid (ctext_any s n A nt ct text _ (hN.kept hk1) (hG.kept hk1) hnt (hT.kept hk1))
  have HK1 := Lib.hid hk1
  clear hN hG hT hk1
  generalize compN n text = X at *
  unfold Sls.val at *
  go_enter Tryz.func46, Tryz.ntmps46
  go_wp2_with fail
  refine HT.out.mono ?_
  rintro e w1 ⟨A1, n1, c1, rfl, le1, i1, k1⟩
  have I1 := Lib.hid i1
  clear i1
  go_wp2_with fail
  go_ret
  exact ⟨A1, n1, c1, rfl, le1, I1.out, Kept.trans HK1.out k1⟩
theorem fn_some (fn : Fn) (a b : Array Value) (w : World) : (binOp .neq 65 (.func fn a b) .nilFunc).run Tryz.prog w = .ok (.bool true) w := by kernel_rfl
theorem fn_none (w : World) : (binOp .neq 65 .nilFunc .nilFunc).run Tryz.prog w = .ok (.bool false) w := by kernel_rfl
set_option maxRecDepth 100000 in
set_option maxHeartbeats 4000000 in
theorem form_any (s : Sls) (n : Nrm) (form : Int) (A : Option Addr) (nt ct : Nat) (text : List Int) (w : World) (hN : NormAt w s n) (hG : Glob w) (hnt : nt ≤ 500000) (hT : Ints w A nt text) :
    Calls Tryz.prog 24 #[s.val, .int .i64 form, .slice A nt ct] w (RetInts w (formOf n form text)) := by
  have hk1 := Kept.alloc (Kept.refl w) (Obj.cells #[Value.slice s.Ac s.nc s.cc, Value.slice s.Am s.nm s.cm, Value.slice s.Ae s.ne s.ce] 28)
  have hk2 := Kept.alloc hk1 (Obj.cells #[Value.slice s.Ac s.nc s.cc, Value.slice s.Am s.nm s.cm, Value.slice s.Ae s.ne s.ce] 64)
  have HK2 := Lib.hid hk2
  have HN := Lib.hid hN
  have HG := Lib.hid hG
  have HT := Lib.hid hT
  have HTN := Lib.hid hT.1
  clear hN hG hT hk1 hk2
  rcases form_cases form with h | h | h | h | h
  · subst h
    have HR := Lib.hid (formOf_1 n text)
    have H1 := Lib.hid (stepD_any s n A nt ct text _ (HN.out.kept HK2.out) (HG.out.kept HK2.out) hnt (HT.out.kept HK2.out))
    have HL := Lib.hid (show (textOf n false text).length ≤ 100000000 by have := textOf_length n false text; have := HTN.out; omega)
    have H2 := Lib.hid (fun A1 n1 c1 w' (hk : Kept w w') (h1 : n1 ≤ 100000000) (hI : Ints w' A1 n1 (textOf n false text)) => stepC_any s n A1 n1 c1 _ w' (HN.out.kept hk) (HG.out.kept hk) h1 hI)
    generalize textOf n false text = X at *
    generalize compN n X = Y at *
    have hf1 := fn_some
    have hf2 := fn_none
    unfold Sls.val at *
    go_enter Tryz.func24, Tryz.ntmps24
    go_wp2_with fail
    refine H1.out.mono ?_
    rintro e w1 ⟨A1, n1, c1, rfl, le1, i1, k1⟩
    have hn1 : n1 ≤ 100000000 := by rw [i1.1]; exact HL.out
    have K1 := Lib.hid (Kept.trans HK2.out k1)
    have H3 := Lib.hid (H2.out A1 n1 c1 w1 K1.out hn1 i1)
    clear i1
    go_wp2_with fail
    refine H3.out.mono ?_
    rintro e w2 ⟨A2, n2, c2, rfl, le2, i2, k2⟩
    have I2 := Lib.hid i2
    clear i2
    go_wp2_with fail
    go_ret
    rw [HR.out]
    exact ⟨A2, n2, c2, rfl, le2, I2.out, Kept.trans K1.out k2⟩
  · subst h
    have HR := Lib.hid (formOf_2 n text)
    have H1 := Lib.hid (stepD_any s n A nt ct text _ (HN.out.kept HK2.out) (HG.out.kept HK2.out) hnt (HT.out.kept HK2.out))
    generalize textOf n false text = X at *
    have hf1 := fn_some
    have hf2 := fn_none
    unfold Sls.val at *
    go_enter Tryz.func24, Tryz.ntmps24
    go_wp2_with fail
    refine H1.out.mono ?_
    rintro e w1 ⟨A1, n1, c1, rfl, le1, i1, k1⟩
    have I1 := Lib.hid i1
    clear i1
    go_wp2_with fail
    go_ret
    rw [HR.out]
    exact ⟨A1, n1, c1, rfl, le1, I1.out, Kept.trans HK2.out k1⟩
  · subst h
    have HR := Lib.hid (formOf_3 n text)
    have H1 := Lib.hid (stepK_any s n A nt ct text _ (HN.out.kept HK2.out) (HG.out.kept HK2.out) hnt (HT.out.kept HK2.out))
    have HL := Lib.hid (show (textOf n true text).length ≤ 100000000 by have := textOf_length n true text; have := HTN.out; omega)
    have H2 := Lib.hid (fun A1 n1 c1 w' (hk : Kept w w') (h1 : n1 ≤ 100000000) (hI : Ints w' A1 n1 (textOf n true text)) => stepC_any s n A1 n1 c1 _ w' (HN.out.kept hk) (HG.out.kept hk) h1 hI)
    generalize textOf n true text = X at *
    generalize compN n X = Y at *
    have hf1 := fn_some
    have hf2 := fn_none
    unfold Sls.val at *
    go_enter Tryz.func24, Tryz.ntmps24
    go_wp2_with fail
    refine H1.out.mono ?_
    rintro e w1 ⟨A1, n1, c1, rfl, le1, i1, k1⟩
    have hn1 : n1 ≤ 100000000 := by rw [i1.1]; exact HL.out
    have K1 := Lib.hid (Kept.trans HK2.out k1)
    have H3 := Lib.hid (H2.out A1 n1 c1 w1 K1.out hn1 i1)
    clear i1
    go_wp2_with fail
    refine H3.out.mono ?_
    rintro e w2 ⟨A2, n2, c2, rfl, le2, i2, k2⟩
    have I2 := Lib.hid i2
    clear i2
    go_wp2_with fail
    go_ret
    rw [HR.out]
    exact ⟨A2, n2, c2, rfl, le2, I2.out, Kept.trans K1.out k2⟩
  · subst h
    have HR := Lib.hid (formOf_4 n text)
    have H1 := Lib.hid (stepK_any s n A nt ct text _ (HN.out.kept HK2.out) (HG.out.kept HK2.out) hnt (HT.out.kept HK2.out))
    generalize textOf n true text = X at *
    have hf1 := fn_some
    have hf2 := fn_none
    unfold Sls.val at *
    go_enter Tryz.func24, Tryz.ntmps24
    go_wp2_with fail
    refine H1.out.mono ?_
    rintro e w1 ⟨A1, n1, c1, rfl, le1, i1, k1⟩
    have I1 := Lib.hid i1
    clear i1
    go_wp2_with fail
    go_ret
    rw [HR.out]
    exact ⟨A1, n1, c1, rfl, le1, I1.out, Kept.trans HK2.out k1⟩
  · have HR := Lib.hid (formOf_0 n h text)
    have h1 : (form == 1) = false := by simp; omega
    have h2 : (form == 2) = false := by simp; omega
    have h3 : (form == 3) = false := by simp; omega
    have h4 : (form == 4) = false := by simp; omega
    have HCL := Lib.hid (clone_any A nt ct text _ (by omega) (HT.out.kept HK2.out))
    clear h
    have hf1 := fn_some
    have hf2 := fn_none
    unfold Sls.val at *
    go_enter Tryz.func24, Tryz.ntmps24
    go_wp2_with fail
    refine HCL.out.mono ?_
    rintro e w3 ⟨v, rfl, hown, hk4⟩
    obtain ⟨A3, cc, rfl, hle, hI⟩ := OwnI.sl hown
    have HI := Lib.hid hI
    clear hown hI
    go_wp2_with fail
    go_ret
    rw [HR.out]
    exact ⟨A3, _, cc, rfl, hle, HI.out, Kept.trans HK2.out hk4⟩
end Go.Proofs.YtjfhcmkcmdnhoaaGreatDoor
namespace Go.Proofs.YtjfhcmkcmdnhoaaGreatDoor
open Go Go.RowKit
theorem cmpL_at {xs ys : List Int} {k : Nat} {x y : Int} (hx : xs[k]? = some x) (hy : ys[k]? = some y) : cmpL (xs.drop k) (ys.drop k) = if x < y then -1 else if y < x then 1 else cmpL (xs.drop (k + 1)) (ys.drop (k + 1)) := by
  rw [drop_some hx, drop_some hy, cmpL]
theorem cmpL_ends : ∀ {xs ys : List Int}, (xs = [] ∨ ys = []) → cmpL xs ys = cmpI (xs.length : Int) (ys.length : Int)
  | [], [], _ => by simp [cmpL, cmpI]
  | [], y :: b, _ => by
    have h1 : (([] : List Int).length : Int) < ((y :: b).length : Int) := by simp
    rw [cmpI, if_pos h1, cmpL]
  | x :: a, [], _ => by
    have h1 : ¬ ((x :: a).length : Int) < (([] : List Int).length : Int) := by simp; omega
    have h2 : (([] : List Int).length : Int) < ((x :: a).length : Int) := by simp
    rw [cmpI, if_neg h1, if_pos h2, cmpL]
  | x :: a, y :: b, h => by rcases h with h | h <;> cases h
theorem cmpI_shift (a b c : Int) : cmpI (a - c) (b - c) = cmpI a b := by
  unfold cmpI
  by_cases h : a < b
  · rw [if_pos h, if_pos (by omega)]
  · rw [if_neg h, if_neg (by omega)]
    by_cases h2 : b < a
    · rw [if_pos h2, if_pos (by omega)]
    · rw [if_neg h2, if_neg (by omega)]
set_option maxHeartbeats 1000000 in
theorem cpCompare (A B : Option Addr) (n m c d : Nat) (xs ys : List Int) (w : World) (hn : n ≤ 100000000) (hm : m ≤ 100000000) (hx : Ints w A n xs) (hy : Ints w B m ys) :
    Calls Tryz.prog 74 #[.slice A n c, .slice B m d] w (RetI w (cmpL xs ys)) := by
  have HX := Lib.hid hx
  have HY := Lib.hid hy
  have HXN := Lib.hid hx.1
  have HYN := Lib.hid hy.1
  clear hx hy
  rcases Nat.lt_or_ge m n with hnm | hnm
  all_goals
    go_enter Tryz.func74, Tryz.ntmps74
    go_wp2
    go_loopw [11] (fun i wr => ∃ k : Nat, k ≤ n ∧ k ≤ m ∧ i = .int .i64 k ∧ cmpL xs ys = cmpL (xs.drop k) (ys.drop k) ∧ Below w.heap.size w wr) (fun i _ => n - (intOf i).toNat)
    case atStart => exact ⟨0, Nat.zero_le _, Nat.zero_le _, rfl, rfl, Below.refl _ _⟩
    case round =>
      obtain ⟨k, hk, hk2, rfl, hc, hB⟩ := hrel
      have HC := Lib.hid hc
      clear hc
      by_cases h12 : k < n ∧ k < m
      · obtain ⟨h1, h2⟩ := h12
        obtain ⟨b, off, x, rfl, hx, c0⟩ := int_at (HX.out.kept hB) h1
        obtain ⟨b2, off2, y, rfl, hy, c1⟩ := int_at (HY.out.kept hB) h2
        have HCC := Lib.hid (HC.out.trans (cmpL_at hx hy))
        clear hx hy
        have g1 : (k : Int) < (n : Int) := by omega
        have g2 : (k : Int) < (m : Int) := by omega
        have g3 : (k : Int) < min (n : Int) (m : Int) := by omega
        by_cases h3 : x = y
        · subst h3
          go_wp2
          go_quiet (fail)
          go_wp2
          go_roundw
          case rel => exact ⟨k + 1, by omega, by omega, by go_num, by rw [HCC.out, if_neg (by omega), if_neg (by omega)], by repeat (first | exact hB | refine Kept.drewN ?_ _)⟩
          case measure => simp [intOf]; omega
        · have h3b : (x != y) = true := by simp [h3]
          have HRES := Lib.hid (show cmpL xs ys = cmpI x y by
            rw [HCC.out]
            unfold cmpI
            by_cases h : x < y
            · rw [if_pos h, if_pos h]
            · rw [if_neg h, if_neg h, if_pos (by omega), if_pos (by omega)])
          clear h3
          go_wp2
          go_quiet (fail)
          have hkd := Kept.drewN hB nq
          have e0 := Kept.cell (Kept.drewN (Kept.refl wr) nq) c0
          have e1 := Kept.cell (Kept.drewN (Kept.refl wr) nq) c1
          have HKD := Lib.hid hkd
          clear c0 c1 hkd
          generalize wr.drewN nq = W at *
          go_wp2
          go_quiet ((go_at_call 100; exact Calls.quiet_of_same (flip_ (cmp_any _ _ _))))
          go_wp2
          go_ret
          exact ⟨ret_int HRES.out.symm, Kept.drewN HKD.out _⟩
      · have g3 : ¬ (k : Int) < min (n : Int) (m : Int) := by omega
        have HRES := Lib.hid (show cmpL xs ys = cmpI (n : Int) (m : Int) by
          rw [HC.out, cmpL_ends, List.length_drop, List.length_drop, ← HXN.out, ← HYN.out]
          · rw [Int.ofNat_sub hk, Int.ofNat_sub hk2, cmpI_shift]
          · by_cases h : k < n
            · exact .inr (List.drop_of_length_le (by have := HYN.out; omega))
            · exact .inl (List.drop_of_length_le (by have := HXN.out; omega)))
        clear h12
        go_wp2_with (go_at_call 100; refine (cmp_any _ _ _).mono ?_; rintro e w' ⟨rfl, rfl⟩)
        go_ret
        exact ⟨ret_int HRES.out.symm, hB⟩
theorem cpEqual (A B : Option Addr) (n m c d : Nat) (xs ys : List Int) (w : World) (hn : n ≤ 100000000) (hm : m ≤ 100000000) (hx : Ints w A n xs) (hy : Ints w B m ys) :
    Calls Tryz.prog 50 #[.slice A n c, .slice B m d] w (RetB w (decide (xs = ys))) := by
  have HC := Lib.hid (cpCompare A B n m c d xs ys w hn hm hx hy)
  clear hx hy
  go_enter Tryz.func50, Tryz.ntmps50
  go_wp2_with (go_at_call 74; refine HC.out.mono ?_; rintro e w' ⟨rfl, hk⟩)
  go_ret
  exact ⟨ret_bool (cmpL_zero xs ys), hk⟩
end Go.Proofs.YtjfhcmkcmdnhoaaGreatDoor
namespace Go.Proofs.YtjfhcmkcmdnhoaaGreatDoor
open Go Go.RowKit
set_option maxRecDepth 100000 in
set_option maxHeartbeats 1000000 in
theorem nis_any (s : Sls) (n : Nrm) (form : Int) (A : Option Addr) (nt ct : Nat) (text : List Int) (w : World) (hN : NormAt w s n) (hG : Glob w) (hnt : nt ≤ 500000) (hT : Ints w A nt text) :
    Calls Tryz.prog 28 #[s.val, .int .i64 form, .slice A nt ct] w (RetB w (decide (formOf n form text = text))) := by
  have hk1 := Kept.alloc (Kept.refl w) (Obj.cells #[Value.slice s.Ac s.nc s.cc, Value.slice s.Am s.nm s.cm, Value.slice s.Ae s.ne s.ce] 28)
  have HT := Lib.hid (form_any s n form A nt ct text _ (hN.kept hk1) (hG.kept hk1) hnt (hT.kept hk1))
  have HTT := Lib.hid hT
  have HL := Lib.hid (show (formOf n form text).length ≤ 100000000 by have := formOf_length n form text; have := hT.1; omega)
  have HK1 := Lib.hid hk1
  clear hN hG hT hk1
  generalize formOf n form text = X at *
  unfold Sls.val at *
  go_enter Tryz.func28, Tryz.ntmps28
  go_wp2_with fail
  refine HT.out.mono ?_
  rintro e w1 ⟨A1, n1, c1, rfl, le1, i1, k1⟩
  have HEQ := Lib.hid (cpEqual A1 A n1 nt c1 ct X text w1 (by rw [i1.1]; exact HL.out) (by omega) i1 (HTT.out.kept (Kept.trans HK1.out k1)))
  clear i1
  go_wp2_with fail
  refine HEQ.out.mono ?_
  rintro e w2 ⟨rfl, k2⟩
  go_wp2_with fail
  go_ret
  exact ⟨rfl, Kept.trans HK1.out (Kept.trans k1 k2)⟩
end Go.Proofs.YtjfhcmkcmdnhoaaGreatDoor
