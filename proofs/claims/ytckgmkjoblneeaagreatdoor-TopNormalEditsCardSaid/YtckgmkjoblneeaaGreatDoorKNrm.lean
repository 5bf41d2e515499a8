/- codepoint.Compare and Equal. normalize.Form. normalize.Is, Same and First. -/
import Derived.Deep.RegionHeld3
import Derived.Test.YtckgmkjoblneeaaGreatDoorKRefA
import Derived.Test.YtckgmkjoblneeaaGreatDoorKCmc
import Derived.Test.YtckgmkjoblneeaaGreatDoorKDecD
namespace Go.Proofs.YtckgmkjoblneeaaGreatDoor
open Go Go.RowKit
theorem cmpL_at {xs ys : List Int} {k : Nat} {x y : Int} (hx : xs[k]? = some x) (hy : ys[k]? = some y) : cmpL (xs.drop k) (ys.drop k) = if x < y then -1 else if y < x then 1 else cmpL (xs.drop (k + 1)) (ys.drop (k + 1)) := by
  rw [drop_some hx, drop_some hy, cmpL]
theorem cmpL_ends : ∀ {xs ys : List Int}, (xs = [] ∨ ys = []) → cmpL xs ys = cmpI (xs.length : Int) (ys.length : Int)
  | [], [], _ => by simp [cmpL, cmpI]
  | [], y :: b, _ => by
    have h1 : (([] : List Int).length : Int) < ((y :: b).length : Int) := by simp
    rw [cmpI, if_pos h1, cmpL]
  | x :: a, [], _ => by
    have h1 : ¬ ((x :: a).length : Int) < (([] : List Int).length : Int) := by simp; omega
    have h2 : (([] : List Int).length : Int) < ((x :: a).length : Int) := by simp
    rw [cmpI, if_neg h1, if_pos h2, cmpL]
  | x :: a, y :: b, h => by rcases h with h | h <;> cases h
theorem cmpI_shift (a b c : Int) : cmpI (a - c) (b - c) = cmpI a b := by
  unfold cmpI
  by_cases h : a < b
  · rw [if_pos h, if_pos (by omega)]
  · rw [if_neg h, if_neg (by omega)]
    by_cases h2 : b < a
    · rw [if_pos h2, if_pos (by omega)]
    · rw [if_neg h2, if_neg (by omega)]
set_option maxHeartbeats 1000000 in
theorem cpCompare (A B : Option Addr) (n m c d : Nat) (xs ys : List Int) (w : World) (hn : n ≤ 100000000) (hm : m ≤ 100000000) (hx : Ints w A n xs) (hy : Ints w B m ys) :
    Calls Tryz.prog 30 #[.slice A n c, .slice B m d] w (RetI w (cmpL xs ys)) := by
  have HX := Lib.hid hx
  have HY := Lib.hid hy
  have HXN := Lib.hid hx.1
  have HYN := Lib.hid hy.1
  clear hx hy
  rcases Nat.lt_or_ge m n with hnm | hnm
  all_goals
    go_enter Tryz.func30, Tryz.ntmps30
    go_wp2
    go_loopw [11] (fun i wr => ∃ k : Nat, k ≤ n ∧ k ≤ m ∧ i = .int .i64 k ∧ cmpL xs ys = cmpL (xs.drop k) (ys.drop k) ∧ Below w.heap.size w wr) (fun i _ => n - (intOf i).toNat)
    case atStart => exact ⟨0, Nat.zero_le _, Nat.zero_le _, rfl, rfl, Below.refl _ _⟩
    case round =>
      obtain ⟨k, hk, hk2, rfl, hc, hB⟩ := hrel
      have HC := Lib.hid hc
      clear hc
      by_cases h12 : k < n ∧ k < m
      · obtain ⟨h1, h2⟩ := h12
        obtain ⟨b, off, x, rfl, hx, c0⟩ := int_at (HX.out.kept hB) h1
        obtain ⟨b2, off2, y, rfl, hy, c1⟩ := int_at (HY.out.kept hB) h2
        have HCC := Lib.hid (HC.out.trans (cmpL_at hx hy))
        clear hx hy
        have g1 : (k : Int) < (n : Int) := by omega
        have g2 : (k : Int) < (m : Int) := by omega
        have g3 : (k : Int) < min (n : Int) (m : Int) := by omega
        by_cases h3 : x = y
        · subst h3
          go_wp2
          go_quiet (fail)
          go_wp2
          go_roundw
          case rel => exact ⟨k + 1, by omega, by omega, by go_num, by rw [HCC.out, if_neg (by omega), if_neg (by omega)], by repeat (first | exact hB | refine Kept.drewN ?_ _)⟩
          case measure => simp [intOf]; omega
        · have h3b : (x != y) = true := by simp [h3]
          have HRES := Lib.hid (show cmpL xs ys = cmpI x y by
            rw [HCC.out]
            unfold cmpI
            by_cases h : x < y
            · rw [if_pos h, if_pos h]
            · rw [if_neg h, if_neg h, if_pos (by omega), if_pos (by omega)])
          clear h3
          go_wp2
          go_quiet (fail)
          have hkd := Kept.drewN hB nq
          have e0 := Kept.cell (Kept.drewN (Kept.refl wr) nq) c0
          have e1 := Kept.cell (Kept.drewN (Kept.refl wr) nq) c1
          have HKD := Lib.hid hkd
          clear c0 c1 hkd
          generalize wr.drewN nq = W at *
          go_wp2
          go_quiet ((go_at_call 39; exact Calls.quiet_of_same (flip_ (cmp_any _ _ _))))
          go_wp2
          go_ret
          exact ⟨ret_int HRES.out.symm, Kept.drewN HKD.out _⟩
      · have g3 : ¬ (k : Int) < min (n : Int) (m : Int) := by omega
        have HRES := Lib.hid (show cmpL xs ys = cmpI (n : Int) (m : Int) by
          rw [HC.out, cmpL_ends, List.length_drop, List.length_drop, ← HXN.out, ← HYN.out]
          · rw [Int.ofNat_sub hk, Int.ofNat_sub hk2, cmpI_shift]
          · by_cases h : k < n
            · exact .inr (List.drop_of_length_le (by have := HYN.out; omega))
            · exact .inl (List.drop_of_length_le (by have := HXN.out; omega)))
        clear h12
        go_wp2_with (go_at_call 39; refine (cmp_any _ _ _).mono ?_; rintro e w' ⟨rfl, rfl⟩)
        go_ret
        exact ⟨ret_int HRES.out.symm, hB⟩
theorem cpEqual (A B : Option Addr) (n m c d : Nat) (xs ys : List Int) (w : World) (hn : n ≤ 100000000) (hm : m ≤ 100000000) (hx : Ints w A n xs) (hy : Ints w B m ys) :
    Calls Tryz.prog 29 #[.slice A n c, .slice B m d] w (RetB w (decide (xs = ys))) := by
  have HC := Lib.hid (cpCompare A B n m c d xs ys w hn hm hx hy)
  clear hx hy
  go_enter Tryz.func29, Tryz.ntmps29
  go_wp2_with (go_at_call 30; refine HC.out.mono ?_; rintro e w' ⟨rfl, hk⟩)
  go_ret
  exact ⟨ret_bool (cmpL_zero xs ys), hk⟩
end Go.Proofs.YtckgmkjoblneeaaGreatDoor
namespace Go.Proofs.YtckgmkjoblneeaaGreatDoor
open Go Go.RowKit
set_option maxHeartbeats 1000000 in
theorem stepD_any (s : Sls) (n : Nrm) (A : Option Addr) (nt ct : Nat) (text : List Int) (w : World) (hN : NormAt w s n) (hG : Glob w) (hnt : nt ≤ 500000) (hT : Ints w A nt text) :
    Calls Tryz.prog 23 #[s.val, .slice A nt ct] w (RetFr w (textOf n false text)) := by
  have hk1 := Kept.alloc (Kept.refl w) (Obj.cells #[Value.slice s.Ac s.nc s.cc, Value.slice s.Am s.nm s.cm, Value.slice s.Ae s.ne s.ce] 70)
  have HT := Lib.hid (text_new s n A nt ct text false _ (hN.kept hk1) (hG.kept hk1) hnt (hT.kept hk1))
  have HK1 := Lib.hid hk1
  clear hN hG hT hk1
  generalize textOf n false text = X at *
  unfold Sls.val at *
  go_enter Tryz.func23, Tryz.ntmps23
  go_wp2_with fail
  refine HT.out.mono ?_
  rintro e w1 ⟨A1, n1, c1, rfl, le1, i1, fr1, k1⟩
  have I1 := Lib.hid i1
  have FR1 := Lib.hid fr1
  clear i1 fr1
  go_wp2_with fail
  go_ret
  exact ⟨A1, n1, c1, rfl, le1, I1.out, fun a ha => Nat.le_trans HK1.out.size (FR1.out a ha), Kept.trans HK1.out k1⟩
set_option maxHeartbeats 1000000 in
theorem stepK_any (s : Sls) (n : Nrm) (A : Option Addr) (nt ct : Nat) (text : List Int) (w : World) (hN : NormAt w s n) (hG : Glob w) (hnt : nt ≤ 500000) (hT : Ints w A nt text) :
    Calls Tryz.prog 24 #[s.val, .slice A nt ct] w (RetFr w (textOf n true text)) := by
  have hk1 := Kept.alloc (Kept.refl w) (Obj.cells #[Value.slice s.Ac s.nc s.cc, Value.slice s.Am s.nm s.cm, Value.slice s.Ae s.ne s.ce] 70)
  have HT := Lib.hid (text_new s n A nt ct text true _ (hN.kept hk1) (hG.kept hk1) hnt (hT.kept hk1))
  have HK1 := Lib.hid hk1
  clear hN hG hT hk1
  generalize textOf n true text = X at *
  unfold Sls.val at *
  go_enter Tryz.func24, Tryz.ntmps24
  go_wp2_with fail
  refine HT.out.mono ?_
  rintro e w1 ⟨A1, n1, c1, rfl, le1, i1, fr1, k1⟩
  have I1 := Lib.hid i1
  have FR1 := Lib.hid fr1
  clear i1 fr1
  go_wp2_with fail
  go_ret
  exact ⟨A1, n1, c1, rfl, le1, I1.out, fun a ha => Nat.le_trans HK1.out.size (FR1.out a ha), Kept.trans HK1.out k1⟩
set_option maxHeartbeats 1000000 in
theorem stepC_any (s : Sls) (n : Nrm) (A : Option Addr) (nt ct : Nat) (text : List Int) (w : World) (hN : NormAt w s n) (hG : Glob w) (hnt : nt ≤ 100000000) (hT : Ints w A nt text) :
    Calls Tryz.prog 22 #[s.val, .slice A nt ct] w (RetFr w (compN n text)) := by
  have hk1 := Kept.alloc (Kept.refl w) (Obj.cells #[Value.slice s.Ac s.nc s.cc, Value.slice s.Am s.nm s.cm, Value.slice s.Ae s.ne s.ce] 70)
  have HT := Lib.hid (ctext_new s n A nt ct text _ (hN.kept hk1) (hG.kept hk1) hnt (hT.kept hk1))
  have HK1 := Lib.hid hk1
  clear hN hG hT hk1
  generalize compN n text = X at *
  unfold Sls.val at *
  go_enter Tryz.func22, Tryz.ntmps22
  go_wp2_with fail
  refine HT.out.mono ?_
  rintro e w1 ⟨A1, n1, c1, rfl, le1, i1, fr1, k1⟩
  have I1 := Lib.hid i1
  have FR1 := Lib.hid fr1
  clear i1 fr1
  go_wp2_with fail
  go_ret
  exact ⟨A1, n1, c1, rfl, le1, I1.out, fun a ha => Nat.le_trans HK1.out.size (FR1.out a ha), Kept.trans HK1.out k1⟩
theorem fn_some (fn : Fn) (a b : Array Value) (w : World) : (binOp .neq 71 (.func fn a b) .nilFunc).run Tryz.prog w = .ok (.bool true) w := by kernel_rfl
theorem fn_none (w : World) : (binOp .neq 71 .nilFunc .nilFunc).run Tryz.prog w = .ok (.bool false) w := by kernel_rfl
set_option maxRecDepth 100000 in
set_option maxHeartbeats 4000000 in
theorem form_new (s : Sls) (n : Nrm) (form : Int) (A : Option Addr) (nt ct : Nat) (text : List Int) (w : World) (hN : NormAt w s n) (hG : Glob w) (hnt : nt ≤ 500000) (hT : Ints w A nt text) :
    Calls Tryz.prog 9 #[s.val, .int .i64 form, .slice A nt ct] w (RetFr w (formOf n form text)) := by
  have hk1 := Kept.alloc (Kept.refl w) (Obj.cells #[Value.slice s.Ac s.nc s.cc, Value.slice s.Am s.nm s.cm, Value.slice s.Ae s.ne s.ce] 28)
  have hk2 := Kept.alloc hk1 (Obj.cells #[Value.slice s.Ac s.nc s.cc, Value.slice s.Am s.nm s.cm, Value.slice s.Ae s.ne s.ce] 70)
  have HK2 := Lib.hid hk2
  have HN := Lib.hid hN
  have HG := Lib.hid hG
  have HT := Lib.hid hT
  have HTN := Lib.hid hT.1
  clear hN hG hT hk1 hk2
  rcases form_cases form with h | h | h | h | h
  · subst h
    have HR := Lib.hid (formOf_1 n text)
    have H1 := Lib.hid (stepD_any s n A nt ct text _ (HN.out.kept HK2.out) (HG.out.kept HK2.out) hnt (HT.out.kept HK2.out))
    have HL := Lib.hid (show (textOf n false text).length ≤ 100000000 by have := textOf_length n false text; have := HTN.out; omega)
    have H2 := Lib.hid (fun A1 n1 c1 w' (hk : Kept w w') (h1 : n1 ≤ 100000000) (hI : Ints w' A1 n1 (textOf n false text)) => stepC_any s n A1 n1 c1 _ w' (HN.out.kept hk) (HG.out.kept hk) h1 hI)
    generalize textOf n false text = X at *
    generalize compN n X = Y at *
    have hf1 := fn_some
    have hf2 := fn_none
    unfold Sls.val at *
    go_enter Tryz.func9, Tryz.ntmps9
    go_wp2_with fail
    refine H1.out.mono ?_
    rintro e w1 ⟨A1, n1, c1, rfl, le1, i1, fr1, k1⟩
    have hn1 : n1 ≤ 100000000 := by rw [i1.1]; exact HL.out
    have K1 := Lib.hid (Kept.trans HK2.out k1)
    have H3 := Lib.hid (H2.out A1 n1 c1 w1 K1.out hn1 i1)
    clear i1 fr1
    go_wp2_with fail
    refine H3.out.mono ?_
    rintro e w2 ⟨A2, n2, c2, rfl, le2, i2, fr2, k2⟩
    have I2 := Lib.hid i2
    have FR2 := Lib.hid fr2
    clear i2 fr2
    go_wp2_with fail
    go_ret
    rw [HR.out]
    exact ⟨A2, n2, c2, rfl, le2, I2.out, fun a ha => Nat.le_trans K1.out.size (FR2.out a ha), Kept.trans K1.out k2⟩
  · subst h
    have HR := Lib.hid (formOf_2 n text)
    have H1 := Lib.hid (stepD_any s n A nt ct text _ (HN.out.kept HK2.out) (HG.out.kept HK2.out) hnt (HT.out.kept HK2.out))
    generalize textOf n false text = X at *
    have hf1 := fn_some
    have hf2 := fn_none
    unfold Sls.val at *
    go_enter Tryz.func9, Tryz.ntmps9
    go_wp2_with fail
    refine H1.out.mono ?_
    rintro e w1 ⟨A1, n1, c1, rfl, le1, i1, fr1, k1⟩
    have I1 := Lib.hid i1
    have FR1 := Lib.hid fr1
    clear i1 fr1
    go_wp2_with fail
    go_ret
    rw [HR.out]
    exact ⟨A1, n1, c1, rfl, le1, I1.out, fun a ha => Nat.le_trans HK2.out.size (FR1.out a ha), Kept.trans HK2.out k1⟩
  · subst h
    have HR := Lib.hid (formOf_3 n text)
    have H1 := Lib.hid (stepK_any s n A nt ct text _ (HN.out.kept HK2.out) (HG.out.kept HK2.out) hnt (HT.out.kept HK2.out))
    have HL := Lib.hid (show (textOf n true text).length ≤ 100000000 by have := textOf_length n true text; have := HTN.out; omega)
    have H2 := Lib.hid (fun A1 n1 c1 w' (hk : Kept w w') (h1 : n1 ≤ 100000000) (hI : Ints w' A1 n1 (textOf n true text)) => stepC_any s n A1 n1 c1 _ w' (HN.out.kept hk) (HG.out.kept hk) h1 hI)
    generalize textOf n true text = X at *
    generalize compN n X = Y at *
    have hf1 := fn_some
    have hf2 := fn_none
    unfold Sls.val at *
    go_enter Tryz.func9, Tryz.ntmps9
    go_wp2_with fail
    refine H1.out.mono ?_
    rintro e w1 ⟨A1, n1, c1, rfl, le1, i1, fr1, k1⟩
    have hn1 : n1 ≤ 100000000 := by rw [i1.1]; exact HL.out
    have K1 := Lib.hid (Kept.trans HK2.out k1)
    have H3 := Lib.hid (H2.out A1 n1 c1 w1 K1.out hn1 i1)
    clear i1 fr1
    go_wp2_with fail
    refine H3.out.mono ?_
    rintro e w2 ⟨A2, n2, c2, rfl, le2, i2, fr2, k2⟩
    have I2 := Lib.hid i2
    have FR2 := Lib.hid fr2
    clear i2 fr2
    go_wp2_with fail
    go_ret
    rw [HR.out]
    exact ⟨A2, n2, c2, rfl, le2, I2.out, fun a ha => Nat.le_trans K1.out.size (FR2.out a ha), Kept.trans K1.out k2⟩
  · subst h
    have HR := Lib.hid (formOf_4 n text)
    have H1 := Lib.hid (stepK_any s n A nt ct text _ (HN.out.kept HK2.out) (HG.out.kept HK2.out) hnt (HT.out.kept HK2.out))
    generalize textOf n true text = X at *
    have hf1 := fn_some
    have hf2 := fn_none
    unfold Sls.val at *
    go_enter Tryz.func9, Tryz.ntmps9
    go_wp2_with fail
    refine H1.out.mono ?_
    rintro e w1 ⟨A1, n1, c1, rfl, le1, i1, fr1, k1⟩
    have I1 := Lib.hid i1
    have FR1 := Lib.hid fr1
    clear i1 fr1
    go_wp2_with fail
    go_ret
    rw [HR.out]
    exact ⟨A1, n1, c1, rfl, le1, I1.out, fun a ha => Nat.le_trans HK2.out.size (FR1.out a ha), Kept.trans HK2.out k1⟩
  · have HR := Lib.hid (formOf_0 n h text)
    have h1 : (form == 1) = false := by simp; omega
    have h2 : (form == 2) = false := by simp; omega
    have h3 : (form == 3) = false := by simp; omega
    have h4 : (form == 4) = false := by simp; omega
    have HCL := Lib.hid (clone_any A nt ct text _ (by omega) (HT.out.kept HK2.out))
    clear h
    have hf1 := fn_some
    have hf2 := fn_none
    unfold Sls.val at *
    go_enter Tryz.func9, Tryz.ntmps9
    go_wp2_with fail
    refine HCL.out.mono ?_
    rintro e w3 ⟨v, rfl, hown, hk4⟩
    obtain ⟨A3, cc, rfl, hle, hI⟩ := OwnI.sl hown
    have HI := Lib.hid hI
    have HFR := Lib.hid hown.far
    clear hown hI
    go_wp2_with fail
    go_ret
    rw [HR.out]
    exact ⟨A3, _, cc, rfl, hle, HI.out, fun a ha => Nat.le_trans HK2.out.size (HFR.out a ha), Kept.trans HK2.out hk4⟩
theorem form_any (s : Sls) (n : Nrm) (form : Int) (A : Option Addr) (nt ct : Nat) (text : List Int) (w : World) (hN : NormAt w s n) (hG : Glob w) (hnt : nt ≤ 500000) (hT : Ints w A nt text) :
    Calls Tryz.prog 9 #[s.val, .int .i64 form, .slice A nt ct] w (RetInts w (formOf n form text)) := (form_new s n form A nt ct text w hN hG hnt hT).mono fun _ _ h => h.ints
end Go.Proofs.YtckgmkjoblneeaaGreatDoor
namespace Go.Proofs.YtckgmkjoblneeaaGreatDoor
open Go Go.RowKit
set_option maxRecDepth 100000 in
set_option maxHeartbeats 1000000 in
theorem nis_any (s : Sls) (n : Nrm) (form : Int) (A : Option Addr) (nt ct : Nat) (text : List Int) (w : World) (hN : NormAt w s n) (hG : Glob w) (hnt : nt ≤ 500000) (hT : Ints w A nt text) :
    Calls Tryz.prog 14 #[s.val, .int .i64 form, .slice A nt ct] w (RetB w (decide (formOf n form text = text))) := by
  have hk1 := Kept.alloc (Kept.refl w) (Obj.cells #[Value.slice s.Ac s.nc s.cc, Value.slice s.Am s.nm s.cm, Value.slice s.Ae s.ne s.ce] 28)
  have HT := Lib.hid (form_any s n form A nt ct text _ (hN.kept hk1) (hG.kept hk1) hnt (hT.kept hk1))
  have HTT := Lib.hid hT
  have HL := Lib.hid (show (formOf n form text).length ≤ 100000000 by have := formOf_length n form text; have := hT.1; omega)
  have HK1 := Lib.hid hk1
  clear hN hG hT hk1
  generalize formOf n form text = X at *
  unfold Sls.val at *
  go_enter Tryz.func14, Tryz.ntmps14
  go_wp2_with fail
  refine HT.out.mono ?_
  rintro e w1 ⟨A1, n1, c1, rfl, le1, i1, k1⟩
  have HEQ := Lib.hid (cpEqual A1 A n1 nt c1 ct X text w1 (by rw [i1.1]; exact HL.out) (by omega) i1 (HTT.out.kept (Kept.trans HK1.out k1)))
  clear i1
  go_wp2_with fail
  refine HEQ.out.mono ?_
  rintro e w2 ⟨rfl, k2⟩
  go_wp2_with fail
  go_ret
  exact ⟨rfl, Kept.trans HK1.out (Kept.trans k1 k2)⟩
def sameForm (cp : Bool) : Int := if cp then 4 else 2
set_option maxRecDepth 100000 in
set_option maxHeartbeats 2000000 in
theorem nsame_any (s : Sls) (n : Nrm) (cp : Bool) (A : Option Addr) (na ca : Nat) (a : List Int) (B : Option Addr) (nb cb : Nat) (b : List Int) (w : World) (hN : NormAt w s n) (hG : Glob w) (hna : na ≤ 500000) (hnb : nb ≤ 500000) (hA : Ints w A na a) (hB : Ints w B nb b) :
    Calls Tryz.prog 18 #[s.val, .slice A na ca, .slice B nb cb, .bool cp] w (RetB w (decide (formOf n (sameForm cp) a = formOf n (sameForm cp) b))) := by
  have hk1 := Kept.alloc (Kept.refl w) (Obj.cells #[Value.slice s.Ac s.nc s.cc, Value.slice s.Am s.nm s.cm, Value.slice s.Ae s.ne s.ce] 28)
  have hbx := box_cell w #[Value.slice s.Ac s.nc s.cc, Value.slice s.Am s.nm s.cm, Value.slice s.Ae s.ne s.ce] 28
  have x0 : (w.alloc (Obj.cells #[Value.slice s.Ac s.nc s.cc, Value.slice s.Am s.nm s.cm, Value.slice s.Ae s.ne s.ce] 28)).cell? ⟨w.heap.size, 0, none⟩ = some (.slice s.Ac s.nc s.cc) := hbx 0
  have x1 : (w.alloc (Obj.cells #[Value.slice s.Ac s.nc s.cc, Value.slice s.Am s.nm s.cm, Value.slice s.Ae s.ne s.ce] 28)).cell? ⟨w.heap.size, 1, none⟩ = some (.slice s.Am s.nm s.cm) := hbx 1
  have x2 : (w.alloc (Obj.cells #[Value.slice s.Ac s.nc s.cc, Value.slice s.Am s.nm s.cm, Value.slice s.Ae s.ne s.ce] 28)).cell? ⟨w.heap.size, 2, none⟩ = some (.slice s.Ae s.ne s.ce) := hbx 2
  have HX0 := Lib.hid x0
  have HX1 := Lib.hid x1
  have HX2 := Lib.hid x2
  have KD := Lib.hid (Kept.drew hk1)
  have HF1 := Lib.hid (fun w' (hk : Kept w w') => form_any s n (sameForm cp) A na ca a w' (hN.kept hk) (hG.kept hk) hna (hA.kept hk))
  have HF2 := Lib.hid (fun w' (hk : Kept w w') => form_any s n (sameForm cp) B nb cb b w' (hN.kept hk) (hG.kept hk) hnb (hB.kept hk))
  have HL1 := Lib.hid (show (formOf n (sameForm cp) a).length ≤ 100000000 by have := formOf_length n (sameForm cp) a; have := hA.1; omega)
  have HL2 := Lib.hid (show (formOf n (sameForm cp) b).length ≤ 100000000 by have := formOf_length n (sameForm cp) b; have := hB.1; omega)
  clear hN hG hA hB hk1 hbx x0 x1 x2
  generalize formOf n (sameForm cp) a = X at *
  generalize formOf n (sameForm cp) b = Y at *
  unfold Sls.val at *
  cases cp
  all_goals
    simp only [sameForm, Bool.false_eq_true, if_false, if_true] at HF1 HF2
    go_enter Tryz.func18, Tryz.ntmps18
    go_wp2_with fail
    go_region_held3 (fun w' => w'.cell? ⟨w.heap.size, 0, none⟩ = some (.slice s.Ac s.nc s.cc) ∧ w'.cell? ⟨w.heap.size, 1, none⟩ = some (.slice s.Am s.nm s.cm) ∧ w'.cell? ⟨w.heap.size, 2, none⟩ = some (.slice s.Ae s.ne s.ce)) (first | exact ⟨o0, o1, o2⟩ | exact ⟨r0, r1, r2⟩ | exact ⟨q0, q1, q2⟩ | exact ⟨HX0.out, HX1.out, HX2.out⟩)
      (first
        | (go_at_call 29; refine (cpEqual A2 A3 n2 n3 c2 c3 X Y w3 (by rw [I2.out.1]; exact HL1.out) (by rw [I3.out.1]; exact HL2.out) (I2.out.kept k3) I3.out).mono ?_; rintro e w4 ⟨rfl, k4⟩; have o0 := Kept.cell k4 r0; have o1 := Kept.cell k4 r1; have o2 := Kept.cell k4 r2)
        | (go_at_call 9; refine (HF2.out _ (Kept.trans KD.out k2)).mono ?_; rintro e w3 ⟨A3, n3, c3, rfl, le3, i3, k3⟩; have I3 := Lib.hid i3; clear i3; have r0 := Kept.cell k3 q0; have r1 := Kept.cell k3 q1; have r2 := Kept.cell k3 q2)
        | (go_at_call 9; refine (HF1.out _ KD.out).mono ?_; rintro e w2 ⟨A2, n2, c2, rfl, le2, i2, k2⟩; have I2 := Lib.hid i2; clear i2; have q0 := Kept.cell k2 HX0.out; have q1 := Kept.cell k2 HX1.out; have q2 := Kept.cell k2 HX2.out))
    go_wp2_with fail
    go_ret
    exact ⟨rfl, Kept.trans KD.out (Kept.trans k2 (Kept.trans k3 k4))⟩
end Go.Proofs.YtckgmkjoblneeaaGreatDoor
