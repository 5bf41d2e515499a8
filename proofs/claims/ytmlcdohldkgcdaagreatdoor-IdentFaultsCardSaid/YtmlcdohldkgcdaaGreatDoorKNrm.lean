/- normalize.Form. codepoint.Compare and Equal. And more of that kind. -/
import Derived.Deep.RegionHeld3
import Derived.Test.YtmlcdohldkgcdaaGreatDoorKCmc
import Derived.Test.YtmlcdohldkgcdaaGreatDoorKExpC
import Derived.Test.YtmlcdohldkgcdaaGreatDoorKRefA
import Derived.Test.YtmlcdohldkgcdaaGreatDoorKPq
import Derived.Test.YtmlcdohldkgcdaaGreatDoorKSta
namespace Go.Proofs.YtmlcdohldkgcdaaGreatDoor
open Go Go.RowKit
set_option maxHeartbeats 1000000 in
theorem stepD_any (s : Sls) (n : Nrm) (A : Option Addr) (nt ct : Nat) (text : List Int) (w : World) (hN : NormAt w s n) (hG : Glob w) (hnt : nt ≤ 500000) (hT : Ints w A nt text) :
    Calls Tryz.prog 40 #[s.val, .slice A nt ct] w (RetFr w (textOf n false text)) := by
  have hk1 := Kept.alloc (Kept.refl w) (Obj.cells #[Value.slice s.Ac s.nc s.cc, Value.slice s.Am s.nm s.cm, Value.slice s.Ae s.ne s.ce] 87)
  have HT := Lib.hid (text_new s n A nt ct text false _ (hN.kept hk1) (hG.kept hk1) hnt (hT.kept hk1))
  have HK1 := Lib.hid hk1
  clear hN hG hT hk1
  generalize textOf n false text = X at *
  unfold Sls.val at *
  go_enter Tryz.func40, Tryz.ntmps40
  go_wp2_with fail
  refine HT.out.mono ?_
  rintro e w1 ⟨A1, n1, c1, rfl, le1, i1, fr1, k1⟩
  have I1 := Lib.hid i1
  have FR1 := Lib.hid fr1
  clear i1 fr1
  go_wp2_with fail
  go_ret
  exact ⟨A1, n1, c1, rfl, le1, I1.out, fun a ha => Nat.le_trans HK1.out.size (FR1.out a ha), Kept.trans HK1.out k1⟩
set_option maxHeartbeats 1000000 in
theorem stepK_any (s : Sls) (n : Nrm) (A : Option Addr) (nt ct : Nat) (text : List Int) (w : World) (hN : NormAt w s n) (hG : Glob w) (hnt : nt ≤ 500000) (hT : Ints w A nt text) :
    Calls Tryz.prog 41 #[s.val, .slice A nt ct] w (RetFr w (textOf n true text)) := by
  have hk1 := Kept.alloc (Kept.refl w) (Obj.cells #[Value.slice s.Ac s.nc s.cc, Value.slice s.Am s.nm s.cm, Value.slice s.Ae s.ne s.ce] 87)
  have HT := Lib.hid (text_new s n A nt ct text true _ (hN.kept hk1) (hG.kept hk1) hnt (hT.kept hk1))
  have HK1 := Lib.hid hk1
  clear hN hG hT hk1
  generalize textOf n true text = X at *
  unfold Sls.val at *
  go_enter Tryz.func41, Tryz.ntmps41
  go_wp2_with fail
  refine HT.out.mono ?_
  rintro e w1 ⟨A1, n1, c1, rfl, le1, i1, fr1, k1⟩
  have I1 := Lib.hid i1
  have FR1 := Lib.hid fr1
  clear i1 fr1
  go_wp2_with fail
  go_ret
  exact ⟨A1, n1, c1, rfl, le1, I1.out, fun a ha => Nat.le_trans HK1.out.size (FR1.out a ha), Kept.trans HK1.out k1⟩
set_option maxHeartbeats 1000000 in
theorem stepC_any (s : Sls) (n : Nrm) (A : Option Addr) (nt ct : Nat) (text : List Int) (w : World) (hN : NormAt w s n) (hG : Glob w) (hnt : nt ≤ 100000000) (hT : Ints w A nt text) :
    Calls Tryz.prog 39 #[s.val, .slice A nt ct] w (RetFr w (compN n text)) := by
  have hk1 := Kept.alloc (Kept.refl w) (Obj.cells #[Value.slice s.Ac s.nc s.cc, Value.slice s.Am s.nm s.cm, Value.slice s.Ae s.ne s.ce] 87)
  have HT := Lib.hid (ctext_new s n A nt ct text _ (hN.kept hk1) (hG.kept hk1) hnt (hT.kept hk1))
  have HK1 := Lib.hid hk1
  clear hN hG hT hk1
  generalize compN n text = X at *
  unfold Sls.val at *
  go_enter Tryz.func39, Tryz.ntmps39
  go_wp2_with fail
  refine HT.out.mono ?_
  rintro e w1 ⟨A1, n1, c1, rfl, le1, i1, fr1, k1⟩
  have I1 := Lib.hid i1
  have FR1 := Lib.hid fr1
  clear i1 fr1
  go_wp2_with fail
  go_ret
  exact ⟨A1, n1, c1, rfl, le1, I1.out, fun a ha => Nat.le_trans HK1.out.size (FR1.out a ha), Kept.trans HK1.out k1⟩
theorem fn_some (fn : Fn) (a b : Array Value) (w : World) : (binOp .neq 88 (.func fn a b) .nilFunc).run Tryz.prog w = .ok (.bool true) w := by kernel_rfl
theorem fn_none (w : World) : (binOp .neq 88 .nilFunc .nilFunc).run Tryz.prog w = .ok (.bool false) w := by kernel_rfl
set_option maxRecDepth 100000 in
set_option maxHeartbeats 4000000 in
theorem form_new (s : Sls) (n : Nrm) (form : Int) (A : Option Addr) (nt ct : Nat) (text : List Int) (w : World) (hN : NormAt w s n) (hG : Glob w) (hnt : nt ≤ 500000) (hT : Ints w A nt text) :
    Calls Tryz.prog 15 #[s.val, .int .i64 form, .slice A nt ct] w (RetFr w (formOf n form text)) := by
  have hk1 := Kept.alloc (Kept.refl w) (Obj.cells #[Value.slice s.Ac s.nc s.cc, Value.slice s.Am s.nm s.cm, Value.slice s.Ae s.ne s.ce] 28)
  have hk2 := Kept.alloc hk1 (Obj.cells #[Value.slice s.Ac s.nc s.cc, Value.slice s.Am s.nm s.cm, Value.slice s.Ae s.ne s.ce] 87)
  have HK2 := Lib.hid hk2
  have HN := Lib.hid hN
  have HG := Lib.hid hG
  have HT := Lib.hid hT
  have HTN := Lib.hid hT.1
  clear hN hG hT hk1 hk2
  rcases form_cases form with h | h | h | h | h
  · subst h
    have HR := Lib.hid (formOf_1 n text)
    have H1 := Lib.hid (stepD_any s n A nt ct text _ (HN.out.kept HK2.out) (HG.out.kept HK2.out) hnt (HT.out.kept HK2.out))
    have HL := Lib.hid (show (textOf n false text).length ≤ 100000000 by have := textOf_length n false text; have := HTN.out; omega)
    have H2 := Lib.hid (fun A1 n1 c1 w' (hk : Kept w w') (h1 : n1 ≤ 100000000) (hI : Ints w' A1 n1 (textOf n false text)) => stepC_any s n A1 n1 c1 _ w' (HN.out.kept hk) (HG.out.kept hk) h1 hI)
    generalize textOf n false text = X at *
    generalize compN n X = Y at *
    have hf1 := fn_some
    have hf2 := fn_none
    unfold Sls.val at *
    go_enter Tryz.func15, Tryz.ntmps15
    go_wp2_with fail
    refine H1.out.mono ?_
    rintro e w1 ⟨A1, n1, c1, rfl, le1, i1, fr1, k1⟩
    have hn1 : n1 ≤ 100000000 := by rw [i1.1]; exact HL.out
    have K1 := Lib.hid (Kept.trans HK2.out k1)
    have H3 := Lib.hid (H2.out A1 n1 c1 w1 K1.out hn1 i1)
    clear i1 fr1
    go_wp2_with fail
    refine H3.out.mono ?_
    rintro e w2 ⟨A2, n2, c2, rfl, le2, i2, fr2, k2⟩
    have I2 := Lib.hid i2
    have FR2 := Lib.hid fr2
    clear i2 fr2
    go_wp2_with fail
    go_ret
    rw [HR.out]
    exact ⟨A2, n2, c2, rfl, le2, I2.out, fun a ha => Nat.le_trans K1.out.size (FR2.out a ha), Kept.trans K1.out k2⟩
  · subst h
    have HR := Lib.hid (formOf_2 n text)
    have H1 := Lib.hid (stepD_any s n A nt ct text _ (HN.out.kept HK2.out) (HG.out.kept HK2.out) hnt (HT.out.kept HK2.out))
    generalize textOf n false text = X at *
    have hf1 := fn_some
    have hf2 := fn_none
    unfold Sls.val at *
    go_enter Tryz.func15, Tryz.ntmps15
    go_wp2_with fail
    refine H1.out.mono ?_
    rintro e w1 ⟨A1, n1, c1, rfl, le1, i1, fr1, k1⟩
    have I1 := Lib.hid i1
    have FR1 := Lib.hid fr1
    clear i1 fr1
    go_wp2_with fail
    go_ret
    rw [HR.out]
    exact ⟨A1, n1, c1, rfl, le1, I1.out, fun a ha => Nat.le_trans HK2.out.size (FR1.out a ha), Kept.trans HK2.out k1⟩
  · subst h
    have HR := Lib.hid (formOf_3 n text)
    have H1 := Lib.hid (stepK_any s n A nt ct text _ (HN.out.kept HK2.out) (HG.out.kept HK2.out) hnt (HT.out.kept HK2.out))
    have HL := Lib.hid (show (textOf n true text).length ≤ 100000000 by have := textOf_length n true text; have := HTN.out; omega)
    have H2 := Lib.hid (fun A1 n1 c1 w' (hk : Kept w w') (h1 : n1 ≤ 100000000) (hI : Ints w' A1 n1 (textOf n true text)) => stepC_any s n A1 n1 c1 _ w' (HN.out.kept hk) (HG.out.kept hk) h1 hI)
    generalize textOf n true text = X at *
    generalize compN n X = Y at *
    have hf1 := fn_some
    have hf2 := fn_none
    unfold Sls.val at *
    go_enter Tryz.func15, Tryz.ntmps15
    go_wp2_with fail
    refine H1.out.mono ?_
    rintro e w1 ⟨A1, n1, c1, rfl, le1, i1, fr1, k1⟩
    have hn1 : n1 ≤ 100000000 := by rw [i1.1]; exact HL.out
    have K1 := Lib.hid (Kept.trans HK2.out k1)
    have H3 := Lib.hid (H2.out A1 n1 c1 w1 K1.out hn1 i1)
    clear i1 fr1
    go_wp2_with fail
    refine H3.out.mono ?_
    rintro e w2 ⟨A2, n2, c2, rfl, le2, i2, fr2, k2⟩
    have I2 := Lib.hid i2
    have FR2 := Lib.hid fr2
    clear i2 fr2
    go_wp2_with fail
    go_ret
    rw [HR.out]
    exact ⟨A2, n2, c2, rfl, le2, I2.out, fun a ha => Nat.le_trans K1.out.size (FR2.out a ha), Kept.trans K1.out k2⟩
  · subst h
    have HR := Lib.hid (formOf_4 n text)
    have H1 := Lib.hid (stepK_any s n A nt ct text _ (HN.out.kept HK2.out) (HG.out.kept HK2.out) hnt (HT.out.kept HK2.out))
    generalize textOf n true text = X at *
    have hf1 := fn_some
    have hf2 := fn_none
    unfold Sls.val at *
    go_enter Tryz.func15, Tryz.ntmps15
    go_wp2_with fail
    refine H1.out.mono ?_
    rintro e w1 ⟨A1, n1, c1, rfl, le1, i1, fr1, k1⟩
    have I1 := Lib.hid i1
    have FR1 := Lib.hid fr1
    clear i1 fr1
    go_wp2_with fail
    go_ret
    rw [HR.out]
    exact ⟨A1, n1, c1, rfl, le1, I1.out, fun a ha => Nat.le_trans HK2.out.size (FR1.out a ha), Kept.trans HK2.out k1⟩
  · have HR := Lib.hid (formOf_0 n h text)
    have h1 : (form == 1) = false := by simp; omega
    have h2 : (form == 2) = false := by simp; omega
    have h3 : (form == 3) = false := by simp; omega
    have h4 : (form == 4) = false := by simp; omega
    have HCL := Lib.hid (clone_any A nt ct text _ (by omega) (HT.out.kept HK2.out))
    clear h
    have hf1 := fn_some
    have hf2 := fn_none
    unfold Sls.val at *
    go_enter Tryz.func15, Tryz.ntmps15
    go_wp2_with fail
    refine HCL.out.mono ?_
    rintro e w3 ⟨v, rfl, hown, hk4⟩
    obtain ⟨A3, cc, rfl, hle, hI⟩ := OwnI.sl hown
    have HI := Lib.hid hI
    have HFR := Lib.hid hown.far
    clear hown hI
    go_wp2_with fail
    go_ret
    rw [HR.out]
    exact ⟨A3, _, cc, rfl, hle, HI.out, fun a ha => Nat.le_trans HK2.out.size (HFR.out a ha), Kept.trans HK2.out hk4⟩
theorem form_any (s : Sls) (n : Nrm) (form : Int) (A : Option Addr) (nt ct : Nat) (text : List Int) (w : World) (hN : NormAt w s n) (hG : Glob w) (hnt : nt ≤ 500000) (hT : Ints w A nt text) :
    Calls Tryz.prog 15 #[s.val, .int .i64 form, .slice A nt ct] w (RetInts w (formOf n form text)) := (form_new s n form A nt ct text w hN hG hnt hT).mono fun _ _ h => h.ints
end Go.Proofs.YtmlcdohldkgcdaaGreatDoor
namespace Go.Proofs.YtmlcdohldkgcdaaGreatDoor
open Go Go.RowKit
end Go.Proofs.YtmlcdohldkgcdaaGreatDoor
namespace Go.Proofs.YtmlcdohldkgcdaaGreatDoor
open Go Go.RowKit
end Go.Proofs.YtmlcdohldkgcdaaGreatDoor
namespace Go.Proofs.YtmlcdohldkgcdaaGreatDoor
section
variable {cls : Int → Int} {pr : Int → Int → Option Int} {F : Int → List Int}
end
end Go.Proofs.YtmlcdohldkgcdaaGreatDoor
namespace Go.Proofs.YtmlcdohldkgcdaaGreatDoor
def cpOf (form : Int) : Bool := decide (form = 3 ∨ form = 4)
def comps (form : Int) : Bool := decide (form = 1 ∨ form = 3)
theorem formOf_known (n : Nrm) {form : Int} (h : ¬ (form < 1 ∨ 4 < form)) (t : List Int) : formOf n form t = if comps form = true then compN n (textOf n (cpOf form) t) else textOf n (cpOf form) t := by
  rcases form_cases form with e | e | e | e | e
  · subst e; rw [formOf_1]; simp [comps, cpOf]
  · subst e; rw [formOf_2]; simp [comps, cpOf]
  · subst e; rw [formOf_3]; simp [comps, cpOf]
  · subst e; rw [formOf_4]; simp [comps, cpOf]
  · exact absurd e h
section
variable {cls : Int → Int} {pr : Int → Int → Option Int}
end
end Go.Proofs.YtmlcdohldkgcdaaGreatDoor
namespace Go.Proofs.YtmlcdohldkgcdaaGreatDoor
section
variable {cls : Int → Int} {pr : Int → Int → Option Int} {F : Int → List Int}
theorem getLastD_snc (l : List Int) (c : Int) : (l ++ [c]).getLastD 0 = c := by simp [List.getLastD_eq_getLast?]
theorem ordd_snoc {l : List Int} {c : Int} (h : Ordd cls l) (hl : ∀ y, l.getLast? = some y → cls c = 0 ∨ cls y ≤ cls c) : Ordd cls (l ++ [c]) := by
  rcases List.eq_nil_or_concat l with e | ⟨u, y, e⟩
  · subst e; trivial
  · rw [List.concat_eq_append] at e
    subst e
    rw [List.append_assoc]
    exact ordd_mid.2 ⟨h, hl y (by simp), trivial⟩
theorem ordd_last {l r : List Int} {c : Int} (h : Ordd cls (l ++ c :: r)) {y : Int} (hy : l.getLast? = some y) : cls c = 0 ∨ cls y ≤ cls c := by
  rcases List.eq_nil_or_concat l with e | ⟨u, y', e⟩
  · subst e; simp at hy
  · rw [List.concat_eq_append] at e
    subst e
    have e2 : y' = y := by simpa using hy
    subst e2
    rw [List.append_assoc] at h
    exact (ordd_mid.1 h).2.1
theorem ordd_replace (hn : ∀ x, 0 ≤ cls x) {s v : Int} (hv : cls v = 0) {tail : List Int} : ∀ {A : List Int}, Ordd cls (A ++ s :: tail) → Ordd cls (A ++ v :: tail)
  | [], h => ordd_start hn hv h.tail
  | [_a], h => ⟨.inl hv, ordd_start hn hv h.2.tail⟩
  | _a :: b :: A, h => ⟨h.1, ordd_replace hn hv (A := b :: A) h.2⟩
structure QInv (cls : Int → Int) (pr : Int → Int → Option Int) (F : Int → List Int) (p : List Int) (st : List Int × Option Nat) : Prop where
  els : ∀ x ∈ st.1, Ordd cls (F x) ∧ compT cls pr (F x) = [x]
  ord : Ordd cls st.1
  lst : ∀ y, st.1.getLast? = some y → cls y = 0 ∨ ∃ z, p.getLast? = some z ∧ cls z ≠ 0 ∧ cls y ≤ cls z
  cur : ∀ k, st.2 = some k → ∃ A s tail, st.1 = A ++ s :: tail ∧ A.length = k ∧ cls s = 0 ∧ compFold cls pr (F s) = ([s], some 0) ∧ (∀ y, (F s).getLast? = some y → cls y = 0 ∨ ∃ z, p.getLast? = some z ∧ cls z ≠ 0 ∧ cls y ≤ cls z)
theorem QInv.nil : QInv cls pr F [] ([], none) := ⟨fun x hx => by simp at hx, trivial, fun y hy => by simp at hy, fun k hk => by cases hk⟩
theorem le_next (hn : ∀ x, 0 ≤ cls x) {p : List Int} {c y : Int} (hadj : ∀ z, p.getLast? = some z → cls c = 0 ∨ cls z ≤ cls c) (h : cls y = 0 ∨ ∃ z, p.getLast? = some z ∧ cls z ≠ 0 ∧ cls y ≤ cls z) : cls c = 0 ∨ cls y ≤ cls c := by
  rcases h with h | ⟨z, hz, _, hyz⟩
  · exact .inr (by rw [h]; exact hn c)
  · rcases hadj z hz with e | e
    · exact .inl e
    · exact .inr (Int.le_trans hyz e)
theorem last_c (p : List Int) (c : Int) : cls c = 0 ∨ ∃ z, (p ++ [c]).getLast? = some z ∧ cls z ≠ 0 ∧ cls c ≤ cls z := by
  by_cases h : cls c = 0
  · exact .inl h
  · exact .inr ⟨c, by simp, h, Int.le_refl _⟩
theorem QInv.push (hn : ∀ x, 0 ≤ cls x) {p : List Int} {st : List Int × Option Nat} (h : QInv cls pr F p st) {c : Int} (hc : F c = [c]) (hadj : ∀ z, p.getLast? = some z → cls c = 0 ∨ cls z ≤ cls c) : QInv cls pr F (p ++ [c]) (cpush cls st c) := by
  obtain ⟨L, la⟩ := st
  have hel := h.els
  have hor := h.ord
  have hls := h.lst
  have hcu := h.cur
  simp only at hel hor hls hcu
  refine ⟨fun x hx => ?_, ?_, fun y hy => ?_, fun k hk => ?_⟩
  · simp only [cpush, List.mem_append, List.mem_singleton] at hx
    rcases hx with hx | hx
    · exact hel x hx
    · rw [hx, hc]; exact ⟨trivial, rfl⟩
  · exact ordd_snoc hor (fun y hy => le_next hn hadj (hls y hy))
  · have e : c = y := by simpa [cpush] using hy
    rw [← e]; exact last_c p c
  · simp only [cpush] at hk ⊢
    by_cases h0 : cls c = 0
    · rw [if_pos h0] at hk
      injection hk with hk
      refine ⟨L, c, [], rfl, hk, h0, ?_, fun y hy => ?_⟩
      · rw [hc]; simp [compFold, cstep, cpush, h0]
      · rw [hc] at hy
        have e : c = y := by simpa using hy
        rw [← e]; exact .inl h0
    · rw [if_neg h0] at hk
      obtain ⟨A, s, tail, e, hA, hs, hf, hl⟩ := hcu k hk
      refine ⟨A, s, tail ++ [c], by rw [e]; simp, hA, hs, hf, fun y hy => ?_⟩
      rcases hl y hy with h1 | ⟨z, hz, hz0, hyz⟩
      · exact .inl h1
      · rcases hadj z hz with e1 | e1
        · exact absurd e1 h0
        · exact .inr ⟨c, by simp, h0, Int.le_trans hyz e1⟩
theorem QInv.step (hn : ∀ x, 0 ≤ cls x) (hp : ∀ a b v, pr a b = some v → F v = F a ++ F b ∧ cls v = 0) {p : List Int} {st : List Int × Option Nat} (h : QInv cls pr F p st) {c : Int} (hc : F c = [c]) (hadj : ∀ z, p.getLast? = some z → cls c = 0 ∨ cls z ≤ cls c) : QInv cls pr F (p ++ [c]) (cstep cls pr st c) := by
  have hpush := h.push hn hc hadj
  obtain ⟨L, la⟩ := st
  cases la with
  | none => exact hpush
  | some k =>
    unfold cstep
    simp only
    split
    · exact hpush
    · rename_i hblk
      cases hpr : pr (L.getD k 0) c with
      | none => exact hpush
      | some v =>
        obtain ⟨A, s, tail, e, hA, hs, hf, hl⟩ := h.cur k rfl
        have hel := h.els
        have hor := h.ord
        have hls := h.lst
        simp only at e hel hor hls
        subst e
        have hgs : (A ++ s :: tail).getD k 0 = s := by
          rw [List.getD_eq_getElem?_getD, List.getElem?_append_right (by omega)]
          simp [← hA]
        rw [hgs] at hpr
        obtain ⟨hFv, hv⟩ := hp s c v hpr
        rw [hc] at hFv
        have hset : (A ++ s :: tail).set k v = A ++ v :: tail := by
          rw [List.set_append_right _ _ (by omega)]
          simp [← hA]
        have hcv : compFold cls pr (F v) = ([v], some 0) := by
          rw [hFv, compFold_snoc, hf]
          simp [cstep, hpr]
        simp only
        rw [hset]
        refine ⟨fun x hx => ?_, ordd_replace hn hv hor, fun y hy => ?_, fun k' hk' => ?_⟩
        · simp only [List.mem_append, List.mem_cons] at hx
          rcases hx with hx | hx | hx
          · exact hel x (by simp [hx])
          · rw [hx]
            refine ⟨?_, by unfold compT; rw [hcv]⟩
            rw [hFv]
            exact ordd_snoc (hel s (by simp)).1 (fun y hy => le_next hn hadj (hl y hy))
          · exact hel x (by simp [hx])
        · rcases List.eq_nil_or_concat tail with et | ⟨u, y', et⟩
          · subst et
            have e2 : v = y := by simpa using hy
            rw [← e2]; exact .inl hv
          · rw [List.concat_eq_append] at et
            subst et
            have e2 : y' = y := by
              rw [show A ++ v :: (u ++ [y']) = (A ++ v :: u) ++ [y'] by simp, List.getLast?_concat] at hy
              injection hy
            subst e2
            have hlt : cls y' < cls c := by
              have h1 : (A ++ s :: (u ++ [y'])).getLastD 0 = y' := by
                rw [← List.cons_append, ← List.append_assoc, getLastD_snc]
              rw [h1] at hblk
              rcases Int.lt_or_le (cls y') (cls c) with h2 | h2
              · exact h2
              · exact absurd ⟨by simp; omega, h2⟩ hblk
            have h0 := hn y'
            exact .inr ⟨c, by simp, by omega, by omega⟩
        · injection hk' with hk'
          refine ⟨A, v, tail, rfl, by omega, hv, hcv, fun y hy => ?_⟩
          rw [hFv] at hy
          have e2 : c = y := by simpa using hy
          rw [← e2]; exact last_c p c
theorem QInv.all (hn : ∀ x, 0 ≤ cls x) (hp : ∀ a b v, pr a b = some v → F v = F a ++ F b ∧ cls v = 0) : ∀ (r p : List Int) (st : List Int × Option Nat), QInv cls pr F p st → (∀ x ∈ r, F x = [x]) → Ordd cls (p ++ r) → QInv cls pr F (p ++ r) (r.foldl (cstep cls pr) st)
  | [], p, st, h, _, _ => by rw [List.append_nil]; exact h
  | c :: r, p, st, h, hf, ho => by
    have h1 := h.step hn hp (hf c (List.mem_cons_self ..)) (fun z hz => ordd_last ho hz)
    have e : p ++ c :: r = (p ++ [c]) ++ r := by simp
    rw [e] at ho ⊢
    exact QInv.all hn hp r (p ++ [c]) _ h1 (fun x hx => hf x (List.mem_cons_of_mem _ hx)) ho
end
end Go.Proofs.YtmlcdohldkgcdaaGreatDoor
namespace Go.Proofs.YtmlcdohldkgcdaaGreatDoor
end Go.Proofs.YtmlcdohldkgcdaaGreatDoor
namespace Go.Proofs.YtmlcdohldkgcdaaGreatDoor
section
variable {α : Type} [DecidableEq α] {β : Type}
end
end Go.Proofs.YtmlcdohldkgcdaaGreatDoor
namespace Go.Proofs.YtmlcdohldkgcdaaGreatDoor
end Go.Proofs.YtmlcdohldkgcdaaGreatDoor
