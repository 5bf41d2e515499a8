/- Normalization forms: the laws. No walk. compose.Text. -/
import Derived.WalkMore
import Derived.Test.YtdogaaepiddnoaaDoorKFew
import Derived.Test.YtdogaaepiddnoaaDoorKPq
import Derived.Test.YtdogaaepiddnoaaDoorKCmb
import Derived.Test.YtdogaaepiddnoaaDoorKSetB
import Derived.Test.YtdogaaepiddnoaaDoorKRefK
namespace Go.Proofs.YtdogaaepiddnoaaDoor

/-- The composed text. -/
def compN (n : Nrm) (t : List Int) : List Int := compT (classOf (usableN n).classes) (pairOf (usableN n)) t
/-- The text in a form. -/
noncomputable def formOf (n : Nrm) (form : Int) (t : List Int) : List Int :=
  if form = 1 then compN n (textOf n false t) else if form = 2 then textOf n false t else if form = 3 then compN n (textOf n true t) else if form = 4 then textOf n true t else t
theorem formOf_1 (n : Nrm) (t : List Int) : formOf n 1 t = compN n (textOf n false t) := by simp [formOf]
theorem formOf_2 (n : Nrm) (t : List Int) : formOf n 2 t = textOf n false t := by simp [formOf]
theorem formOf_3 (n : Nrm) (t : List Int) : formOf n 3 t = compN n (textOf n true t) := by simp [formOf]
theorem formOf_4 (n : Nrm) (t : List Int) : formOf n 4 t = textOf n true t := by simp [formOf]
theorem formOf_0 (n : Nrm) {form : Int} (h : form < 1 ∨ 4 < form) (t : List Int) : formOf n form t = t := by
  unfold formOf
  rw [if_neg (by omega), if_neg (by omega), if_neg (by omega), if_neg (by omega)]
theorem form_cases (form : Int) : form = 1 ∨ form = 2 ∨ form = 3 ∨ form = 4 ∨ (form < 1 ∨ 4 < form) := by omega

theorem d_nonneg (n : Nrm) (x : Int) : 0 ≤ classOf (usableN n).classes x := classOf_nonneg (usableN_good n).ord x
theorem d_twice (n : Nrm) (cp : Bool) (xs : List Int) : textOf n cp (textOf n cp xs) = textOf n cp xs := by
  rw [textOf_eq, textOf_eq]
  exact textE_twice (usableN_good n) (usableN_full n cp) xs
theorem d_kinds (n : Nrm) (xs : List Int) : textOf n true (textOf n false xs) = textOf n true xs := by
  rw [textOf_eq, textOf_eq, textOf_eq]
  exact textE_kinds (usableN_good n) (usableN_full n false) (usableN_full n true) xs
theorem d_none (n : Nrm) (cp : Bool) (xs : List Int) : ∀ e ∈ textOf n cp xs, onceOf (usableN n).decomp e cp = none := by
  rw [textOf_eq]
  exact textE_none (usableN_good n) (usableN_full n cp) xs
theorem d_comp (n : Nrm) (cp : Bool) (xs : List Int) : textOf n cp (compN n (textOf n cp xs)) = textOf n cp xs := by
  rw [textOf_eq n cp (compN n (textOf n cp xs))]
  exact comp_decomp (d_nonneg n) (pair_full (usableN_good n) (usableN_full n cp)) (fun x hx => full_fix (usableN_full n cp) (d_none n cp xs x hx)) (by rw [textOf_eq, textE_eq, sortT_idem])
theorem compN_length (n : Nrm) (t : List Int) : (compN n t).length ≤ t.length := compT_length t
theorem formOf_length (n : Nrm) (form : Int) (t : List Int) : (formOf n form t).length ≤ 64 * t.length := by
  have h0 := textOf_length n false t
  have h1 := textOf_length n true t
  have h2 := compN_length n (textOf n false t)
  have h3 := compN_length n (textOf n true t)
  unfold formOf
  split
  · omega
  · split
    · omega
    · split
      · omega
      · split <;> omega
/-- A form of a form. -/
theorem form_again (n : Nrm) (form : Int) (t : List Int) : formOf n form (formOf n form t) = formOf n form t := by
  rcases form_cases form with h | h | h | h | h
  · subst h; rw [formOf_1, formOf_1, d_comp]
  · subst h; rw [formOf_2, formOf_2, d_twice]
  · subst h; rw [formOf_3, formOf_3, d_comp]
  · subst h; rw [formOf_4, formOf_4, d_twice]
  · rw [formOf_0 n h, formOf_0 n h]
theorem form_d (n : Nrm) {form : Int} (h : form = 1 ∨ form = 2) (t : List Int) : textOf n false (formOf n form t) = textOf n false t := by
  rcases h with h | h
  · subst h; rw [formOf_1, d_comp]
  · subst h; rw [formOf_2, d_twice]
theorem form_kd (n : Nrm) {form : Int} (h1 : 1 ≤ form) (h2 : form ≤ 4) (t : List Int) : textOf n true (formOf n form t) = textOf n true t := by
  rcases form_cases form with h | h | h | h | h
  · rw [← d_kinds, form_d n (.inl h), d_kinds]
  · rw [← d_kinds, form_d n (.inr h), d_kinds]
  · subst h; rw [formOf_3, d_comp]
  · subst h; rw [formOf_4, d_twice]
  · omega
theorem form_kc (n : Nrm) {form : Int} (h1 : 1 ≤ form) (h2 : form ≤ 4) (t : List Int) : formOf n 3 (formOf n form t) = formOf n 3 t := by rw [formOf_3, formOf_3, form_kd n h1 h2]
theorem form_c_d (n : Nrm) (t : List Int) : formOf n 1 (formOf n 2 t) = formOf n 1 t := by rw [formOf_1, form_d n (.inr rfl), ← formOf_1]
theorem form_d_c (n : Nrm) (t : List Int) : formOf n 2 (formOf n 1 t) = formOf n 2 t := by rw [formOf_2, form_d n (.inl rfl), ← formOf_2]
theorem same_cd (n : Nrm) (a b : List Int) : formOf n 1 a = formOf n 1 b ↔ formOf n 2 a = formOf n 2 b := by
  constructor
  · intro h; rw [← form_d_c n a, h, form_d_c]
  · intro h; rw [← form_c_d n a, h, form_c_d]
theorem same_kckd (n : Nrm) (a b : List Int) : formOf n 3 a = formOf n 3 b ↔ formOf n 4 a = formOf n 4 b := by
  constructor
  · intro h
    have e : ∀ t, formOf n 4 (formOf n 3 t) = formOf n 4 t := fun t => by rw [formOf_4, form_kd n (by omega) (by omega), ← formOf_4]
    rw [← e a, h, e]
  · intro h
    have e : ∀ t, formOf n 3 (formOf n 4 t) = formOf n 3 t := fun t => form_kc n (by omega) (by omega) t
    rw [← e a, h, e]
theorem same_dkd (n : Nrm) (a b : List Int) (h : formOf n 2 a = formOf n 2 b) : formOf n 4 a = formOf n 4 b := by
  have e : ∀ t, formOf n 4 (formOf n 2 t) = formOf n 4 t := fun t => by rw [formOf_4, form_kd n (by omega) (by omega), ← formOf_4]
  rw [← e a, h, e]

/-- How many elements two texts have in common at their beginnings. -/
def lcp : List Int → List Int → Nat
  | x :: xs, y :: ys => if x = y then lcp xs ys + 1 else 0
  | _, _ => 0
def firstI (xs ys : List Int) : Int := if xs = ys then -1 else (lcp xs ys : Nat)
theorem lcp_eq : ∀ (xs ys : List Int) (k : Nat), xs.take k = ys.take k → k ≤ xs.length → k ≤ ys.length → (xs[k]? ≠ ys[k]? ∨ k = xs.length ∨ k = ys.length) → lcp xs ys = k
  | [], [], k, _, h1, _, _ => by simp at h1; subst h1; rfl
  | [], _ :: _, k, _, h1, _, _ => by simp at h1; subst h1; rfl
  | _ :: _, [], k, _, _, h2, _ => by simp at h2; subst h2; rfl
  | x :: xs, y :: ys, 0, _, _, _, h => by
    simp only [List.getElem?_cons_zero, ne_eq, Option.some.injEq, List.length_cons] at h
    have hxy : ¬ x = y := by
      rcases h with h | h | h
      · exact h
      · omega
      · omega
    rw [lcp, if_neg hxy]
  | x :: xs, y :: ys, k + 1, h, h1, h2, h3 => by
    simp only [List.take_succ_cons, List.cons.injEq] at h
    rw [lcp, if_pos h.1, lcp_eq xs ys k h.2 (by simpa using h1) (by simpa using h2) (by simpa using h3)]
theorem lcp_le : ∀ (xs ys : List Int), lcp xs ys ≤ xs.length ∧ lcp xs ys ≤ ys.length
  | [], _ => by simp [lcp]
  | _ :: _, [] => by simp [lcp]
  | x :: xs, y :: ys => by
    have := lcp_le xs ys
    rw [lcp]
    split
    · simp; omega
    · simp
theorem lcp_take : ∀ (xs ys : List Int), xs.take (lcp xs ys) = ys.take (lcp xs ys)
  | [], _ => by simp [lcp]
  | _ :: _, [] => by simp [lcp]
  | x :: xs, y :: ys => by
    have := lcp_take xs ys
    rw [lcp]
    split
    · rename_i h; simp [this, h]
    · simp
theorem lcp_diff : ∀ (xs ys : List Int), xs ≠ ys → xs[lcp xs ys]? ≠ ys[lcp xs ys]?
  | [], [], h => absurd rfl h
  | [], _ :: _, _ => by simp [lcp]
  | _ :: _, [], _ => by simp [lcp]
  | x :: xs, y :: ys, h => by
    rw [lcp]
    split
    · rename_i e
      have := lcp_diff xs ys (fun h2 => h (by rw [e, h2]))
      simpa using this
    · rename_i e; simpa using e
theorem firstI_same (xs : List Int) : firstI xs xs = -1 := if_pos rfl
theorem firstI_diff {xs ys : List Int} (h : xs ≠ ys) : firstI xs ys = (lcp xs ys : Nat) := if_neg h
end Go.Proofs.YtdogaaepiddnoaaDoor
namespace Go.Proofs.YtdogaaepiddnoaaDoor
open Go Go.RowKit

theorem lastI_none : lastI none = -1 := rfl
theorem lastI_some (k : Nat) : lastI (some k) = (k : Int) := rfl
theorem cpush_last0 {cls : Int → Int} {L : List Int} {la : Option Nat} {y : Int} (h : cls y = 0) : lastI (cpush cls (L, la) y).2 = (L.length : Int) := by unfold cpush; simp only; rw [if_pos h]; rfl
theorem cpush_last1 {cls : Int → Int} {L : List Int} {la : Option Nat} {y : Int} (h : cls y ≠ 0) : lastI (cpush cls (L, la) y).2 = lastI la := by unfold cpush; simp only; rw [if_neg h]

set_option maxRecDepth 100000 in
set_option maxHeartbeats 4000000 in
theorem ctext_any (s : Sls) (n : Nrm) (A : Option Addr) (nt ct : Nat) (text : List Int) (w : World) (hN : NormAt w s n) (hG : Glob w) (hnt : nt ≤ 1000000) (hT : Ints w A nt text) :
    Calls Tryd.prog 27 #[s.val, .slice A nt ct] w (RetInts w (compN n text)) := by
  have HN0 := Lib.hid hN
  have HG := Lib.hid hG
  have HT := Lib.hid hT
  have HTN := Lib.hid hT.1
  have hkb := Kept.alloc (Kept.refl w) (Obj.cells #[Value.slice s.Ac s.nc s.cc, Value.slice s.Am s.nm s.cm, Value.slice s.Ae s.ne s.ce] 28)
  have HU := Lib.hid (cusable_val s n _ (hN.kept hkb) (hG.kept hkb))
  have hbl := box_block w (Obj.cells #[Value.slice s.Ac s.nc s.cc, Value.slice s.Am s.nm s.cm, Value.slice s.Ae s.ne s.ce] 28)
  have HBL := Lib.hid hbl
  have HKB := Lib.hid hkb
  have HNU := Lib.hid (usableS_at hN)
  have HGOOD := Lib.hid (usableN_good n)
  generalize usableS s n = s1 at *
  clear hN hG hT hkb hbl
  unfold Sls.val at *
  go_enter Tryd.func27, Tryd.ntmps27
  go_wp2_with fail
  refine wp_scope_straight ?_
  go_wp2_with fail
  refine HU.out.mono ?_
  rintro e w1 ⟨rfl, hk1⟩
  have e1 := (hk1.block _ (block_lt HBL.out)).trans HBL.out
  have HE1 := Lib.hid e1
  have a0 := cell_of_block (i := 0) e1 rfl
  have a1 := cell_of_block (i := 1) e1 rfl
  have a2 := cell_of_block (i := 2) e1 rfl
  have f0 := frozen_of_block (i := 0) e1
  have f1 := frozen_of_block (i := 1) e1
  have f2 := frozen_of_block (i := 2) e1
  simp only [List.getElem_toArray, List.getElem_cons_zero, List.getElem_cons_succ] at a0 a1 a2
  obtain ⟨bb, hbb⟩ : ∃ bb : Nat, bb = w.heap.size := ⟨_, rfl⟩
  have HBB := Lib.hid hbb
  rw [← hbb] at a0 a1 a2 f0 f1 f2 HE1 ⊢
  clear e1 hbb
  have hc := cells3_set (v0 := .slice s1.Ac s1.nc s1.cc) (v1 := .slice s1.Am s1.nm s1.cm) (v2 := .slice s1.Ae s1.ne s1.ce) HE1.out
  have hk2 : Kept w (((w1.setCell ⟨bb, 0, none⟩ (.slice s1.Ac s1.nc s1.cc)).setCell ⟨bb, 1, none⟩ (.slice s1.Am s1.nm s1.cm)).setCell ⟨bb, 2, none⟩ (.slice s1.Ae s1.ne s1.ce)) :=
    Kept.setCell (Kept.setCell (Kept.setCell (Kept.trans HKB.out hk1) (p := ⟨bb, 0, none⟩) (by rw [HBB.out]; exact Nat.le_refl _) _) (p := ⟨bb, 1, none⟩) (by rw [HBB.out]; exact Nat.le_refl _) _) (p := ⟨bb, 2, none⟩) (by rw [HBB.out]; exact Nat.le_refl _) _
  have g0 := cell_of_block (i := 0) hc rfl
  have g1 := cell_of_block (i := 1) hc rfl
  have g2 := cell_of_block (i := 2) hc rfl
  simp only [List.getElem_toArray, List.getElem_cons_zero, List.getElem_cons_succ] at g0 g1 g2
  have HC2 := Lib.hid hc
  have HK2 := Lib.hid hk2
  clear hc hk2
  go_wp2_with fail
  clear a0 a1 a2 f0 f1 f2 g0 g1 g2
  generalize ((w1.setCell ⟨bb, 0, none⟩ (.slice s1.Ac s1.nc s1.cc)).setCell ⟨bb, 1, none⟩ (.slice s1.Am s1.nm s1.cm)).setCell ⟨bb, 2, none⟩ (.slice s1.Ae s1.ne s1.ce) = W2 at *
  have HCLS := Lib.hid (fun x w' (hk : Kept w w') => ordClass s1.Ac s1.nc s1.cc (usableN n).classes x w' HNU.out.bc HNU.out.hc (HNU.out.kept hk).cls (HG.out.kept hk))
  rw [usableN_spans] at HCLS
  have HP := Lib.hid (composites_any s1 (usableN n) W2 (HNU.out.kept HK2.out) HGOOD.out (HG.out.kept HK2.out))
  unfold Sls.val at HP
  refine HP.out.mono ?_
  rintro e w3 ⟨bm, M, rfl, hM, hCM, hbm, hk3⟩
  have HJ := Lib.hid (fun a b w' (hk : Kept w3 w') => join_any bm M (usableN n) a b w' (hM.kept hk) hCM)
  have HR := Lib.hid (show compN n text = compT (classOf (usableN n).classes) (pairOf (usableN n)) text from rfl)
  generalize classOf (usableN n).classes = cls at *
  generalize pairOf (usableN n) = pr at *
  have HC3 := Lib.hid ((hk3.block _ (block_lt HC2.out)).trans HC2.out)
  have hkw3 : Kept w w3 := Kept.trans HK2.out hk3
  have KW3 := Lib.hid hkw3
  obtain ⟨base, hbase⟩ : ∃ base : Nat, base = w3.heap.size := ⟨_, rfl⟩
  have HBASE := Lib.hid hbase
  have hb3 : base ≤ w3.heap.size := by omega
  have hb4 : w3.heap.size ≤ base := by omega
  clear hM hCM hk3 hkw3 hbase HP
  go_wp2_with fail
  refine wp_label ?_
  go_wp2_with fail
  go_loopw [6, 7, 8, 21] (fun p la be i wr => ∃ (j : Nat) (bf : Int), j ≤ nt ∧ i = .int .i64 j ∧ la = .int .i64 (lastI (compFold cls pr (text.take j)).2) ∧ be = .int .i64 bf ∧ OwnI wr base p (compFold cls pr (text.take j)).1 ∧ CSt cls (compFold cls pr (text.take j)) bf ∧ Kept w3 wr) (fun _ _ _ i _ => nt - (intOf i).toNat)
  case atStart => exact ⟨0, 0, Nat.zero_le _, rfl, rfl, rfl, (World.ownsRow_nil _ _ _ _ : OwnI w3 base (.slice none 0 0) []), CSt.nil cls, Kept.refl _⟩
  case round =>
    obtain ⟨j, bf, hj, rfl, rfl, rfl, hown, hst, hkj⟩ := hrel
    have hll := compT_length (cls := cls) (pr := pr) (text.take j)
    have hlt0 : (text.take j).length ≤ j := List.length_take_le _ _
    unfold compT at hll
    have HST0 := Lib.hid hst
    have HOW := Lib.hid hown
    have HKJ := Lib.hid hkj
    have KW := Lib.hid (Kept.trans KW3.out hkj)
    have hszj := hkj.size
    clear hown hst hkj
    by_cases hlt : j < nt
    · obtain ⟨b, off, y, hA, hy, cw⟩ := int_at (HT.out.kept KW.out) hlt
      have HFS := Lib.hid (show compFold cls pr (text.take (j + 1)) = cstep cls pr (compFold cls pr (text.take j)) y by rw [take_succ_some hy, compFold_snoc])
      obtain ⟨L, la, hLa⟩ : ∃ L la, compFold cls pr (text.take j) = (L, la) := ⟨_, _, rfl⟩
      rw [hLa] at HFS HST0 HOW hll ⊢
      have HST := HST0
      simp only at hll HOW ⊢
      have hL : L.length ≤ 1000000 := by omega
      have hC := (HKJ.out.block bb (block_lt HC3.out)).trans HC3.out
      have d0 := cell_of_block (i := 0) hC rfl
      simp only [List.getElem_toArray, List.getElem_cons_zero] at d0
      have HCY := Lib.hid (HCLS.out y wr KW.out)
      obtain ⟨cy, hcy⟩ : ∃ cy : Int, cls y = cy := ⟨_, rfl⟩
      rw [hcy] at HCY
      have HCYE := Lib.hid hcy
      obtain ⟨ln, hln⟩ : ∃ ln : Nat, ln = L.length := ⟨_, rfl⟩
      have hln2 : ln ≤ 1000000 := by omega
      rw [hA]
      clear hA hy hLa hC hcy hll HST0
      cases la with
      | none =>
        rw [lastI_none]
        have HSTEP := Lib.hid (cstep_none (cls := cls) (pr := pr) (L := L) y)
        go_wp2_with fail
        refine HCY.out.mono ?_
        rintro e w4 ⟨rfl, k4⟩
        have HO4 := Lib.hid (own_kept HOW.out k4)
        obtain ⟨A6, c6, hu6, hle6, hI6⟩ := OwnI.sl HO4.out
        rw [← hln] at hu6 hle6
        subst hu6
        have HLN := Lib.hid hln
        have K4 := Lib.hid (Kept.trans HKJ.out k4)
        have hsz4 := k4.size
        have hLL : L.length ≤ 1000000 := hL
        clear hI6 hln d0 cw
        by_cases hz : 0 < ln
        · have hz1 : (-1 : Int) < (ln : Int) - 1 := by omega
          by_cases h0 : cy = 0
          · subst h0
            have hka := Kept.alloc (Kept.refl w4) (Obj.cells #[Value.int IntKind.i64 y] 3)
            have HKA := Lib.hid hka
            clear hka
            go_wp2_with (at_builtin; refine app_ints rfl _ _ rfl base _ _ rfl (by exact own_kept HO4.out HKA.out) _ _ _ [y] rfl (by exact Ints.alloc_ (xs := [y]) rfl rfl) (by simp; omega) (by simp; omega) ?_; intro v7 w7 hown7 hgrow7 hat7)
            have K7 : Hid (Kept w3 w7) := Lib.hid ((Kept.trans K4.out HKA.out).grown hgrow7 (by simp; omega) (fun q e => by have := (World.ownsRow.lt HO4.out q e).1; omega))
            have HO7 := Lib.hid hown7
            clear hown7
            go_roundw
            case rel => exact ⟨j + 1, cls y, by omega, by go_num, by rw [HFS.out, HSTEP.out, cpush_last0 HCYE.out, HLN.out], by rw [HCYE.out], by rw [HFS.out, HSTEP.out]; exact HO7.out, by rw [HFS.out, HSTEP.out]; exact HST.out.push y, K7.out⟩
            case measure => simp [intOf]; omega
          · have hb0 : (cy == 0) = false := by simpa using h0
            have HNE := Lib.hid h0
            clear h0
            have hka := Kept.alloc (Kept.refl w4) (Obj.cells #[Value.int IntKind.i64 y] 3)
            have HKA := Lib.hid hka
            clear hka
            go_wp2_with (at_builtin; refine app_ints rfl _ _ rfl base _ _ rfl (by exact own_kept HO4.out HKA.out) _ _ _ [y] rfl (by exact Ints.alloc_ (xs := [y]) rfl rfl) (by simp; omega) (by simp; omega) ?_; intro v7 w7 hown7 hgrow7 hat7)
            have K7 : Hid (Kept w3 w7) := Lib.hid ((Kept.trans K4.out HKA.out).grown hgrow7 (by simp; omega) (fun q e => by have := (World.ownsRow.lt HO4.out q e).1; omega))
            have HO7 := Lib.hid hown7
            clear hown7
            go_roundw
            case rel => exact ⟨j + 1, cls y, by omega, by go_num, by rw [HFS.out, HSTEP.out, cpush_last1 (by rw [HCYE.out]; exact HNE.out)]; rfl, by rw [HCYE.out], by rw [HFS.out, HSTEP.out]; exact HO7.out, by rw [HFS.out, HSTEP.out]; exact HST.out.push y, K7.out⟩
            case measure => simp [intOf]; omega
        · have hz1 : ¬ ((-1 : Int) < (ln : Int) - 1) := by omega
          by_cases h0 : cy = 0
          · subst h0
            have hka := Kept.alloc (Kept.refl w4) (Obj.cells #[Value.int IntKind.i64 y] 3)
            have HKA := Lib.hid hka
            clear hka
            go_wp2_with (at_builtin; refine app_ints rfl _ _ rfl base _ _ rfl (by exact own_kept HO4.out HKA.out) _ _ _ [y] rfl (by exact Ints.alloc_ (xs := [y]) rfl rfl) (by simp; omega) (by simp; omega) ?_; intro v7 w7 hown7 hgrow7 hat7)
            have K7 : Hid (Kept w3 w7) := Lib.hid ((Kept.trans K4.out HKA.out).grown hgrow7 (by simp; omega) (fun q e => by have := (World.ownsRow.lt HO4.out q e).1; omega))
            have HO7 := Lib.hid hown7
            clear hown7
            go_roundw
            case rel => exact ⟨j + 1, cls y, by omega, by go_num, by rw [HFS.out, HSTEP.out, cpush_last0 HCYE.out, HLN.out], by rw [HCYE.out], by rw [HFS.out, HSTEP.out]; exact HO7.out, by rw [HFS.out, HSTEP.out]; exact HST.out.push y, K7.out⟩
            case measure => simp [intOf]; omega
          · have hb0 : (cy == 0) = false := by simpa using h0
            have HNE := Lib.hid h0
            clear h0
            have hka := Kept.alloc (Kept.refl w4) (Obj.cells #[Value.int IntKind.i64 y] 3)
            have HKA := Lib.hid hka
            clear hka
            go_wp2_with (at_builtin; refine app_ints rfl _ _ rfl base _ _ rfl (by exact own_kept HO4.out HKA.out) _ _ _ [y] rfl (by exact Ints.alloc_ (xs := [y]) rfl rfl) (by simp; omega) (by simp; omega) ?_; intro v7 w7 hown7 hgrow7 hat7)
            have K7 : Hid (Kept w3 w7) := Lib.hid ((Kept.trans K4.out HKA.out).grown hgrow7 (by simp; omega) (fun q e => by have := (World.ownsRow.lt HO4.out q e).1; omega))
            have HO7 := Lib.hid hown7
            clear hown7
            go_roundw
            case rel => exact ⟨j + 1, cls y, by omega, by go_num, by rw [HFS.out, HSTEP.out, cpush_last1 (by rw [HCYE.out]; exact HNE.out)]; rfl, by rw [HCYE.out], by rw [HFS.out, HSTEP.out]; exact HO7.out, by rw [HFS.out, HSTEP.out]; exact HST.out.push y, K7.out⟩
            case measure => simp [intOf]; omega
      | some k =>
        rw [lastI_some]
        have hkl : k < L.length := (HST.out k rfl).1
        obtain ⟨q, hq⟩ : ∃ q, L.length = q + 1 := ⟨L.length - 1, by omega⟩
        obtain ⟨x, hx⟩ := getElem?_some_of_lt hkl
        have HX := Lib.hid hx
        go_wp2_with fail
        refine HCY.out.mono ?_
        rintro e w4 ⟨rfl, k4⟩
        have HO4 := Lib.hid (own_kept HOW.out k4)
        have hv2 := HO4.out
        simp only [hq] at hv2
        obtain ⟨g, co, rfl⟩ := ownsRow_succ_ hv2
        have hgb : base ≤ g := (World.ownsRow.lt hv2 g rfl).1
        have cx : w4.cell? ⟨g, k, none⟩ = some (.int .i64 x) := by
          rw [hv2.cellAt _ (by omega)]
          simp [hx]
        have fx := hv2.frozenAt k
        have hqq : q + 1 = ln := by omega
        rw [hqq] at hv2 HO4 HOW ⊢
        have HV2 := Lib.hid hv2
        have HLN := Lib.hid hln
        have K4 := Lib.hid (Kept.trans HKJ.out k4)
        have hsz4 := k4.size
        have hLL : L.length ≤ 1000000 := hL
        have hk1 : (0 : Int) ≤ (k : Int) := by omega
        have hk2 : (k : Int) < (ln : Int) := by omega
        have hk3 : k < ln := by omega
        have HCX := Lib.hid cx
        have HFX := Lib.hid fx
        clear hv2 hln hq hqq hx cw d0 cx fx
        by_cases hb : k + 1 < L.length ∧ cls y ≤ bf
        · have HSTEP := Lib.hid (cstep_blocked (pr := pr) HST.out hb.1 hb.2)
          have hz1 : (k : Int) < (ln : Int) - 1 := by have := HLN.out; omega
          have hz2 : cy ≤ bf := by rw [← HCYE.out]; exact hb.2
          clear hb
          by_cases h0 : cy = 0
          · subst h0
            have hka := Kept.alloc (Kept.refl w4) (Obj.cells #[Value.int IntKind.i64 y] 3)
            have HKA := Lib.hid hka
            clear hka
            go_wp2_with (at_builtin; refine app_ints rfl _ _ rfl base _ _ rfl (by exact own_kept HO4.out HKA.out) _ _ _ [y] rfl (by exact Ints.alloc_ (xs := [y]) rfl rfl) (by simp; omega) (by simp; omega) ?_; intro v7 w7 hown7 hgrow7 hat7)
            have K7 : Hid (Kept w3 w7) := Lib.hid ((Kept.trans K4.out HKA.out).grown hgrow7 (by simp; omega) (fun q e => by have := (World.ownsRow.lt HO4.out q e).1; omega))
            have HO7 := Lib.hid hown7
            clear hown7
            go_roundw
            case rel => exact ⟨j + 1, cls y, by omega, by go_num, by rw [HFS.out, HSTEP.out, cpush_last0 HCYE.out, HLN.out], by rw [HCYE.out], by rw [HFS.out, HSTEP.out]; exact HO7.out, by rw [HFS.out, HSTEP.out]; exact HST.out.push y, K7.out⟩
            case measure => simp [intOf]; omega
          · have hb0 : (cy == 0) = false := by simpa using h0
            have HNE := Lib.hid h0
            clear h0
            have hka := Kept.alloc (Kept.refl w4) (Obj.cells #[Value.int IntKind.i64 y] 3)
            have HKA := Lib.hid hka
            clear hka
            go_wp2_with (at_builtin; refine app_ints rfl _ _ rfl base _ _ rfl (by exact own_kept HO4.out HKA.out) _ _ _ [y] rfl (by exact Ints.alloc_ (xs := [y]) rfl rfl) (by simp; omega) (by simp; omega) ?_; intro v7 w7 hown7 hgrow7 hat7)
            have K7 : Hid (Kept w3 w7) := Lib.hid ((Kept.trans K4.out HKA.out).grown hgrow7 (by simp; omega) (fun q e => by have := (World.ownsRow.lt HO4.out q e).1; omega))
            have HO7 := Lib.hid hown7
            clear hown7
            go_roundw
            case rel => exact ⟨j + 1, cls y, by omega, by go_num, by rw [HFS.out, HSTEP.out, cpush_last1 (by rw [HCYE.out]; exact HNE.out)]; rfl, by rw [HCYE.out], by rw [HFS.out, HSTEP.out]; exact HO7.out, by rw [HFS.out, HSTEP.out]; exact HST.out.push y, K7.out⟩
            case measure => simp [intOf]; omega
        · have HFR := Lib.hid (cstep_free (pr := pr) HST.out hb HX.out)
          have HJX := Lib.hid (HJ.out x y w4 K4.out)
          have hzz : ¬ ((k : Int) < (ln : Int) - 1) ∨ ((k : Int) < (ln : Int) - 1 ∧ decide (cy ≤ bf) = false) := by
            by_cases h1 : (k : Int) < (ln : Int) - 1
            · exact .inr ⟨h1, decide_eq_false (fun h2 => hb ⟨by have := HLN.out; omega, by rw [HCYE.out]; exact h2⟩)⟩
            · exact .inl h1
          clear hb
          have cx := HCX.out
          cases hpr : pr x y with
          | none =>
            rw [hpr] at HFR HJX
            simp only at HFR
            clear hpr
            rcases hzz with hz1 | ⟨hz1, hz2⟩
            all_goals
              go_wp2_with fail
              refine HJX.out.mono ?_
              rintro e w5 ⟨rfl, k5⟩
              have HO5 := Lib.hid (own_kept HO4.out k5)
              have K5 := Lib.hid (Kept.trans K4.out k5)
              have hsz5 := k5.size
              clear cx
              by_cases h0 : cy = 0
              · subst h0
                have hka := Kept.alloc (Kept.refl w5) (Obj.cells #[Value.int IntKind.i64 y] 3)
                have HKA := Lib.hid hka
                clear hka
                go_wp2_with (at_builtin; refine app_ints rfl _ _ rfl base _ _ rfl (by exact own_kept HO5.out HKA.out) _ _ _ [y] rfl (by exact Ints.alloc_ (xs := [y]) rfl rfl) (by simp; omega) (by simp; omega) ?_; intro v7 w7 hown7 hgrow7 hat7)
                have K7 : Hid (Kept w3 w7) := Lib.hid ((Kept.trans K5.out HKA.out).grown hgrow7 (by simp; omega) (fun q e => by have := (World.ownsRow.lt HO5.out q e).1; omega))
                have HO7 := Lib.hid hown7
                clear hown7
                go_roundw
                case rel => exact ⟨j + 1, cls y, by omega, by go_num, by rw [HFS.out, HFR.out, cpush_last0 HCYE.out, HLN.out], by rw [HCYE.out], by rw [HFS.out, HFR.out]; exact HO7.out, by rw [HFS.out, HFR.out]; exact HST.out.push y, K7.out⟩
                case measure => simp [intOf]; omega
              · have hb0 : (cy == 0) = false := by simpa using h0
                have HNE := Lib.hid h0
                clear h0
                have hka := Kept.alloc (Kept.refl w5) (Obj.cells #[Value.int IntKind.i64 y] 3)
                have HKA := Lib.hid hka
                clear hka
                go_wp2_with (at_builtin; refine app_ints rfl _ _ rfl base _ _ rfl (by exact own_kept HO5.out HKA.out) _ _ _ [y] rfl (by exact Ints.alloc_ (xs := [y]) rfl rfl) (by simp; omega) (by simp; omega) ?_; intro v7 w7 hown7 hgrow7 hat7)
                have K7 : Hid (Kept w3 w7) := Lib.hid ((Kept.trans K5.out HKA.out).grown hgrow7 (by simp; omega) (fun q e => by have := (World.ownsRow.lt HO5.out q e).1; omega))
                have HO7 := Lib.hid hown7
                clear hown7
                go_roundw
                case rel => exact ⟨j + 1, cls y, by omega, by go_num, by rw [HFS.out, HFR.out, cpush_last1 (by rw [HCYE.out]; exact HNE.out)]; rfl, by rw [HCYE.out], by rw [HFS.out, HFR.out]; exact HO7.out, by rw [HFS.out, HFR.out]; exact HST.out.push y, K7.out⟩
                case measure => simp [intOf]; omega
          | some v =>
            rw [hpr] at HFR HJX
            simp only at HFR
            clear hpr
            rcases hzz with hz1 | ⟨hz1, hz2⟩
            all_goals
              go_wp2_with fail
              refine HJX.out.mono ?_
              rintro e w5 ⟨rfl, k5⟩
              have K5 := Lib.hid (Kept.trans K4.out k5)
              have hsz5 := k5.size
              have hv5 : w5.ownsRow base 3 1 (.slice (some ⟨g, 0, none⟩) ln co) ln (L.map (Value.int .i64)) := own_kept HV2.out k5
              have f5 := hv5.frozenAt k
              have c5 := Kept.cell k5 cx
              have hst := (hv5.stored k (.int .i64 v)).1
              rw [← List.map_set] at hst
              have HO6 := Lib.hid (show OwnI (w5.setCell ⟨g, k, none⟩ (.int .i64 v)) base (.slice (some ⟨g, 0, none⟩) ln co) (L.set k v) by
                unfold OwnI
                rw [List.length_set, ← HLN.out]
                exact hst)
              have HK6 := Lib.hid (Kept.setCell K5.out (p := ⟨g, k, none⟩) (by simp; omega) (.int .i64 v))
              clear hv5 hst cx
              go_wp2_with fail
              go_roundw
              case rel => exact ⟨j + 1, bf, by omega, by go_num, by rw [HFS.out, HFR.out]; rfl, rfl, by rw [HFS.out, HFR.out]; exact HO6.out, by rw [HFS.out, HFR.out]; exact HST.out.set v, HK6.out⟩
              case measure => simp [intOf]; omega
    · have hfull : text.take j = text := List.take_of_length_le (by have := HTN.out; omega)
      have hown := HOW.out
      rw [hfull] at hown
      obtain ⟨A4, c4, hu, hle4, hI4⟩ := OwnI.sl hown
      have HR2 := Lib.hid (show compN n text = (compFold cls pr text).1 from HR.out)
      generalize (compFold cls pr text).1 = R at *
      clear hown hfull
      subst hu
      go_wp2_with fail
      rw [Exit.noGoto_ret]
      go_ret
      exact ⟨A4, _, c4, rfl, hle4, by rw [HR2.out]; exact hI4, KW.out⟩
end Go.Proofs.YtdogaaepiddnoaaDoor
