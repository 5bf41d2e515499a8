/- normalize.Form. -/
import Derived.Test.YtmlcdohldkgcdaaGreatDoorKCmc
import Derived.Test.YtmlcdohldkgcdaaGreatDoorKDecD
namespace Go.Proofs.YtmlcdohldkgcdaaGreatDoor
open Go Go.RowKit
set_option maxHeartbeats 1000000 in
theorem stepD_any (s : Sls) (n : Nrm) (A : Option Addr) (nt ct : Nat) (text : List Int) (w : World) (hN : NormAt w s n) (hG : Glob w) (hnt : nt ≤ 500000) (hT : Ints w A nt text) :
    Calls Tryz.prog 40 #[s.val, .slice A nt ct] w (RetFr w (textOf n false text)) := by
  have hk1 := Kept.alloc (Kept.refl w) (Obj.cells #[Value.slice s.Ac s.nc s.cc, Value.slice s.Am s.nm s.cm, Value.slice s.Ae s.ne s.ce] 87)
  have HT := Lib.hid (text_new s n A nt ct text false _ (hN.kept hk1) (hG.kept hk1) hnt (hT.kept hk1))
  have HK1 := Lib.hid hk1
  clear hN hG hT hk1
  generalize textOf n false text = X at *
  unfold Sls.val at *
  go_enter Tryz.func40, Tryz.ntmps40
  go_wp2_with fail
  refine HT.out.mono ?_
  rintro e w1 ⟨A1, n1, c1, rfl, le1, i1, fr1, k1⟩
  have I1 := Lib.hid i1
  have FR1 := Lib.hid fr1
  clear i1 fr1
  go_wp2_with fail
  go_ret
  exact ⟨A1, n1, c1, rfl, le1, I1.out, fun a ha => Nat.le_trans HK1.out.size (FR1.out a ha), Kept.trans HK1.out k1⟩
set_option maxHeartbeats 1000000 in
theorem stepK_any (s : Sls) (n : Nrm) (A : Option Addr) (nt ct : Nat) (text : List Int) (w : World) (hN : NormAt w s n) (hG : Glob w) (hnt : nt ≤ 500000) (hT : Ints w A nt text) :
    Calls Tryz.prog 41 #[s.val, .slice A nt ct] w (RetFr w (textOf n true text)) := by
  have hk1 := Kept.alloc (Kept.refl w) (Obj.cells #[Value.slice s.Ac s.nc s.cc, Value.slice s.Am s.nm s.cm, Value.slice s.Ae s.ne s.ce] 87)
  have HT := Lib.hid (text_new s n A nt ct text true _ (hN.kept hk1) (hG.kept hk1) hnt (hT.kept hk1))
  have HK1 := Lib.hid hk1
  clear hN hG hT hk1
  generalize textOf n true text = X at *
  unfold Sls.val at *
  go_enter Tryz.func41, Tryz.ntmps41
  go_wp2_with fail
  refine HT.out.mono ?_
  rintro e w1 ⟨A1, n1, c1, rfl, le1, i1, fr1, k1⟩
  have I1 := Lib.hid i1
  have FR1 := Lib.hid fr1
  clear i1 fr1
  go_wp2_with fail
  go_ret
  exact ⟨A1, n1, c1, rfl, le1, I1.out, fun a ha => Nat.le_trans HK1.out.size (FR1.out a ha), Kept.trans HK1.out k1⟩
set_option maxHeartbeats 1000000 in
theorem stepC_any (s : Sls) (n : Nrm) (A : Option Addr) (nt ct : Nat) (text : List Int) (w : World) (hN : NormAt w s n) (hG : Glob w) (hnt : nt ≤ 100000000) (hT : Ints w A nt text) :
    Calls Tryz.prog 39 #[s.val, .slice A nt ct] w (RetFr w (compN n text)) := by
  have hk1 := Kept.alloc (Kept.refl w) (Obj.cells #[Value.slice s.Ac s.nc s.cc, Value.slice s.Am s.nm s.cm, Value.slice s.Ae s.ne s.ce] 87)
  have HT := Lib.hid (ctext_new s n A nt ct text _ (hN.kept hk1) (hG.kept hk1) hnt (hT.kept hk1))
  have HK1 := Lib.hid hk1
  clear hN hG hT hk1
  generalize compN n text = X at *
  unfold Sls.val at *
  go_enter Tryz.func39, Tryz.ntmps39
  go_wp2_with fail
  refine HT.out.mono ?_
  rintro e w1 ⟨A1, n1, c1, rfl, le1, i1, fr1, k1⟩
  have I1 := Lib.hid i1
  have FR1 := Lib.hid fr1
  clear i1 fr1
  go_wp2_with fail
  go_ret
  exact ⟨A1, n1, c1, rfl, le1, I1.out, fun a ha => Nat.le_trans HK1.out.size (FR1.out a ha), Kept.trans HK1.out k1⟩
theorem fn_some (fn : Fn) (a b : Array Value) (w : World) : (binOp .neq 88 (.func fn a b) .nilFunc).run Tryz.prog w = .ok (.bool true) w := by kernel_rfl
theorem fn_none (w : World) : (binOp .neq 88 .nilFunc .nilFunc).run Tryz.prog w = .ok (.bool false) w := by kernel_rfl
set_option maxRecDepth 100000 in
set_option maxHeartbeats 4000000 in
theorem form_new (s : Sls) (n : Nrm) (form : Int) (A : Option Addr) (nt ct : Nat) (text : List Int) (w : World) (hN : NormAt w s n) (hG : Glob w) (hnt : nt ≤ 500000) (hT : Ints w A nt text) :
    Calls Tryz.prog 15 #[s.val, .int .i64 form, .slice A nt ct] w (RetFr w (formOf n form text)) := by
  have hk1 := Kept.alloc (Kept.refl w) (Obj.cells #[Value.slice s.Ac s.nc s.cc, Value.slice s.Am s.nm s.cm, Value.slice s.Ae s.ne s.ce] 28)
  have hk2 := Kept.alloc hk1 (Obj.cells #[Value.slice s.Ac s.nc s.cc, Value.slice s.Am s.nm s.cm, Value.slice s.Ae s.ne s.ce] 87)
  have HK2 := Lib.hid hk2
  have HN := Lib.hid hN
  have HG := Lib.hid hG
  have HT := Lib.hid hT
  have HTN := Lib.hid hT.1
  clear hN hG hT hk1 hk2
  rcases form_cases form with h | h | h | h | h
  · subst h
    have HR := Lib.hid (formOf_1 n text)
    have H1 := Lib.hid (stepD_any s n A nt ct text _ (HN.out.kept HK2.out) (HG.out.kept HK2.out) hnt (HT.out.kept HK2.out))
    have HL := Lib.hid (show (textOf n false text).length ≤ 100000000 by have := textOf_length n false text; have := HTN.out; omega)
    have H2 := Lib.hid (fun A1 n1 c1 w' (hk : Kept w w') (h1 : n1 ≤ 100000000) (hI : Ints w' A1 n1 (textOf n false text)) => stepC_any s n A1 n1 c1 _ w' (HN.out.kept hk) (HG.out.kept hk) h1 hI)
    generalize textOf n false text = X at *
    generalize compN n X = Y at *
    have hf1 := fn_some
    have hf2 := fn_none
    unfold Sls.val at *
    go_enter Tryz.func15, Tryz.ntmps15
    go_wp2_with fail
    refine H1.out.mono ?_
    rintro e w1 ⟨A1, n1, c1, rfl, le1, i1, fr1, k1⟩
    have hn1 : n1 ≤ 100000000 := by rw [i1.1]; exact HL.out
    have K1 := Lib.hid (Kept.trans HK2.out k1)
    have H3 := Lib.hid (H2.out A1 n1 c1 w1 K1.out hn1 i1)
    clear i1 fr1
    go_wp2_with fail
    refine H3.out.mono ?_
    rintro e w2 ⟨A2, n2, c2, rfl, le2, i2, fr2, k2⟩
    have I2 := Lib.hid i2
    have FR2 := Lib.hid fr2
    clear i2 fr2
    go_wp2_with fail
    go_ret
    rw [HR.out]
    exact ⟨A2, n2, c2, rfl, le2, I2.out, fun a ha => Nat.le_trans K1.out.size (FR2.out a ha), Kept.trans K1.out k2⟩
  · subst h
    have HR := Lib.hid (formOf_2 n text)
    have H1 := Lib.hid (stepD_any s n A nt ct text _ (HN.out.kept HK2.out) (HG.out.kept HK2.out) hnt (HT.out.kept HK2.out))
    generalize textOf n false text = X at *
    have hf1 := fn_some
    have hf2 := fn_none
    unfold Sls.val at *
    go_enter Tryz.func15, Tryz.ntmps15
    go_wp2_with fail
    refine H1.out.mono ?_
    rintro e w1 ⟨A1, n1, c1, rfl, le1, i1, fr1, k1⟩
    have I1 := Lib.hid i1
    have FR1 := Lib.hid fr1
    clear i1 fr1
    go_wp2_with fail
    go_ret
    rw [HR.out]
    exact ⟨A1, n1, c1, rfl, le1, I1.out, fun a ha => Nat.le_trans HK2.out.size (FR1.out a ha), Kept.trans HK2.out k1⟩
  · subst h
    have HR := Lib.hid (formOf_3 n text)
    have H1 := Lib.hid (stepK_any s n A nt ct text _ (HN.out.kept HK2.out) (HG.out.kept HK2.out) hnt (HT.out.kept HK2.out))
    have HL := Lib.hid (show (textOf n true text).length ≤ 100000000 by have := textOf_length n true text; have := HTN.out; omega)
    have H2 := Lib.hid (fun A1 n1 c1 w' (hk : Kept w w') (h1 : n1 ≤ 100000000) (hI : Ints w' A1 n1 (textOf n true text)) => stepC_any s n A1 n1 c1 _ w' (HN.out.kept hk) (HG.out.kept hk) h1 hI)
    generalize textOf n true text = X at *
    generalize compN n X = Y at *
    have hf1 := fn_some
    have hf2 := fn_none
    unfold Sls.val at *
    go_enter Tryz.func15, Tryz.ntmps15
    go_wp2_with fail
    refine H1.out.mono ?_
    rintro e w1 ⟨A1, n1, c1, rfl, le1, i1, fr1, k1⟩
    have hn1 : n1 ≤ 100000000 := by rw [i1.1]; exact HL.out
    have K1 := Lib.hid (Kept.trans HK2.out k1)
    have H3 := Lib.hid (H2.out A1 n1 c1 w1 K1.out hn1 i1)
    clear i1 fr1
    go_wp2_with fail
    refine H3.out.mono ?_
    rintro e w2 ⟨A2, n2, c2, rfl, le2, i2, fr2, k2⟩
    have I2 := Lib.hid i2
    have FR2 := Lib.hid fr2
    clear i2 fr2
    go_wp2_with fail
    go_ret
    rw [HR.out]
    exact ⟨A2, n2, c2, rfl, le2, I2.out, fun a ha => Nat.le_trans K1.out.size (FR2.out a ha), Kept.trans K1.out k2⟩
  · subst h
    have HR := Lib.hid (formOf_4 n text)
    have H1 := Lib.hid (stepK_any s n A nt ct text _ (HN.out.kept HK2.out) (HG.out.kept HK2.out) hnt (HT.out.kept HK2.out))
    generalize textOf n true text = X at *
    have hf1 := fn_some
    have hf2 := fn_none
    unfold Sls.val at *
    go_enter Tryz.func15, Tryz.ntmps15
    go_wp2_with fail
    refine H1.out.mono ?_
    rintro e w1 ⟨A1, n1, c1, rfl, le1, i1, fr1, k1⟩
    have I1 := Lib.hid i1
    have FR1 := Lib.hid fr1
    clear i1 fr1
    go_wp2_with fail
    go_ret
    rw [HR.out]
    exact ⟨A1, n1, c1, rfl, le1, I1.out, fun a ha => Nat.le_trans HK2.out.size (FR1.out a ha), Kept.trans HK2.out k1⟩
  · have HR := Lib.hid (formOf_0 n h text)
    have h1 : (form == 1) = false := by simp; omega
    have h2 : (form == 2) = false := by simp; omega
    have h3 : (form == 3) = false := by simp; omega
    have h4 : (form == 4) = false := by simp; omega
    have HCL := Lib.hid (clone_any A nt ct text _ (by omega) (HT.out.kept HK2.out))
    clear h
    have hf1 := fn_some
    have hf2 := fn_none
    unfold Sls.val at *
    go_enter Tryz.func15, Tryz.ntmps15
    go_wp2_with fail
    refine HCL.out.mono ?_
    rintro e w3 ⟨v, rfl, hown, hk4⟩
    obtain ⟨A3, cc, rfl, hle, hI⟩ := OwnI.sl hown
    have HI := Lib.hid hI
    have HFR := Lib.hid hown.far
    clear hown hI
    go_wp2_with fail
    go_ret
    rw [HR.out]
    exact ⟨A3, _, cc, rfl, hle, HI.out, fun a ha => Nat.le_trans HK2.out.size (HFR.out a ha), Kept.trans HK2.out hk4⟩
end Go.Proofs.YtmlcdohldkgcdaaGreatDoor
