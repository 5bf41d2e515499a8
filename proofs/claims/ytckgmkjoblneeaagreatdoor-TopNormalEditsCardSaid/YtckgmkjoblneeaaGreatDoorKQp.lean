/- Composition at starters that compose with nothing before them, and around gaps. No program. Boundaries of forms, and texts joined at boundaries: the laws. No walk. And more of that kind. -/
import Derived.Test.YtckgmkjoblneeaaGreatDoorKPq
import Derived.Test.YtckgmkjoblneeaaGreatDoorKCmc
import Derived.Test.YtckgmkjoblneeaaGreatDoorKCma
namespace Go.Proofs.YtckgmkjoblneeaaGreatDoor
section
variable {cls : Int → Int} {pr : Int → Int → Option Int} {F : Int → List Int}
theorem cstep_shift (L M : List Int) (k : Nat) (c : Int) (hk : k < M.length) :
    ∃ M' k', k' < M'.length ∧ cstep cls pr (M, some k) c = (M', some k') ∧ cstep cls pr (L ++ M, some (L.length + k)) c = (L ++ M', some (L.length + k')) := by
  have e1 : (L ++ M).getLastD 0 = M.getLastD 0 := by
    rw [List.getLastD_eq_getLast?, List.getLastD_eq_getLast?, List.getLast?_append]
    cases h : M.getLast? with
    | none => rw [List.getLast?_eq_none_iff] at h; subst h; simp at hk
    | some x => rfl
  have e2 : (L ++ M).getD (L.length + k) 0 = M.getD k 0 := by
    rw [List.getD_eq_getElem?_getD, List.getD_eq_getElem?_getD, List.getElem?_append_right (by omega)]
    congr 2
    omega
  have e3 : (L.length + k + 1 < (L ++ M).length) ↔ k + 1 < M.length := by rw [List.length_append]; omega
  have hpush : ∃ M' k', k' < M'.length ∧ cpush cls (M, some k) c = (M', some k') ∧ cpush cls (L ++ M, some (L.length + k)) c = (L ++ M', some (L.length + k')) := by
    unfold cpush
    by_cases h0 : cls c = 0
    · exact ⟨M ++ [c], M.length, by simp, by simp [h0], by simp [h0]⟩
    · exact ⟨M ++ [c], k, by simp; omega, by simp [h0], by simp [h0]⟩
  unfold cstep
  simp only
  rw [e1, e2]
  by_cases hb : k + 1 < M.length ∧ cls c ≤ cls (M.getLastD 0)
  · rw [if_pos hb, if_pos ⟨e3.2 hb.1, hb.2⟩]; exact hpush
  · rw [if_neg hb, if_neg (fun h => hb ⟨e3.1 h.1, h.2⟩)]
    cases pr (M.getD k 0) c with
    | none => exact hpush
    | some p =>
      refine ⟨M.set k p, k, by simpa using hk, rfl, ?_⟩
      simp only
      rw [List.set_append_right _ _ (by omega)]
      simp
theorem foldl_shift (L : List Int) : ∀ (b M : List Int) (k : Nat), k < M.length → ∃ M' k', k' < M'.length ∧ b.foldl (cstep cls pr) (M, some k) = (M', some k') ∧ b.foldl (cstep cls pr) (L ++ M, some (L.length + k)) = (L ++ M', some (L.length + k'))
  | [], M, k, hk => ⟨M, k, hk, rfl, rfl⟩
  | c :: b, M, k, hk => by
    obtain ⟨M1, k1, h1, e1, e2⟩ := cstep_shift (cls := cls) (pr := pr) L M k c hk
    simp only [List.foldl_cons, e1, e2]
    exact foldl_shift L b M1 k1 h1
theorem cstep_fresh {st : List Int × Option Nat} {s : Int} (hs : cls s = 0) (hp : ∀ x, pr x s = none) : cstep cls pr st s = (st.1 ++ [s], some st.1.length) := by
  obtain ⟨L, la⟩ := st
  have hpush : ∀ la, cpush cls (L, la) s = (L ++ [s], some L.length) := fun la => by simp [cpush, hs]
  cases la with
  | none => exact hpush _
  | some k =>
    unfold cstep
    simp only [hp]
    split <;> exact hpush _
theorem compT_join (a : List Int) {s : Int} (b : List Int) (hs : cls s = 0) (hp : ∀ x, pr x s = none) : compT cls pr (a ++ s :: b) = compT cls pr a ++ compT cls pr (s :: b) := by
  unfold compT compFold
  rw [List.foldl_append, List.foldl_cons, List.foldl_cons, cstep_fresh hs hp, cstep_fresh hs hp]
  obtain ⟨M', k', _, e1, e2⟩ := foldl_shift (cls := cls) (pr := pr) (a.foldl (cstep cls pr) ([], none)).1 b [s] 0 (by simp)
  rw [Nat.add_zero] at e2
  rw [e2]
  simp only [List.nil_append, List.length_nil]
  rw [e1]
theorem sortT_gaps {g : Int} (hs : cls g = 0) (G : Int → List Int) : ∀ codes : List Int, sortT cls (codes.flatMap fun c => G c ++ [g]) = codes.flatMap fun c => sortT cls (G c) ++ [g]
  | [] => sortT_nil
  | c :: r => by
    rw [List.flatMap_cons, List.flatMap_cons, List.append_assoc, List.singleton_append, sortT_join _ _ hs, sortT_start hs, sortT_gaps hs G r]
    simp
end
end Go.Proofs.YtckgmkjoblneeaaGreatDoor
namespace Go.Proofs.YtckgmkjoblneeaaGreatDoor
def cpOf (form : Int) : Bool := decide (form = 3 ∨ form = 4)
def comps (form : Int) : Bool := decide (form = 1 ∨ form = 3)
theorem formOf_known (n : Nrm) {form : Int} (h : ¬ (form < 1 ∨ 4 < form)) (t : List Int) : formOf n form t = if comps form = true then compN n (textOf n (cpOf form) t) else textOf n (cpOf form) t := by
  rcases form_cases form with e | e | e | e | e
  · subst e; rw [formOf_1]; simp [comps, cpOf]
  · subst e; rw [formOf_2]; simp [comps, cpOf]
  · subst e; rw [formOf_3]; simp [comps, cpOf]
  · subst e; rw [formOf_4]; simp [comps, cpOf]
  · exact absurd e h
theorem form_text (n : Nrm) {form : Int} (h : ¬ (form < 1 ∨ 4 < form)) (t : List Int) : textOf n (cpOf form) (formOf n form t) = textOf n (cpOf form) t := by
  rcases form_cases form with e | e | e | e | e
  · rw [show cpOf form = false by simp [cpOf, e]]; exact form_d n (.inl e) t
  · rw [show cpOf form = false by simp [cpOf, e]]; exact form_d n (.inr e) t
  · rw [show cpOf form = true by simp [cpOf, e]]; exact form_kd n (by omega) (by omega) t
  · rw [show cpOf form = true by simp [cpOf, e]]; exact form_kd n (by omega) (by omega) t
  · exact absurd e h
theorem form_congr (n : Nrm) {form : Int} (h : ¬ (form < 1 ∨ 4 < form)) {a b : List Int} (e : textOf n (cpOf form) a = textOf n (cpOf form) b) : formOf n form a = formOf n form b := by
  rw [formOf_known n h, formOf_known n h, e]
theorem req_of_sort {cls : Int → Int} {xs ys : List Int} (h : sortT cls xs = sortT cls ys) : REq cls xs ys := by
  have h1 := REq.sort (cls := cls) xs
  rw [h] at h1
  exact h1.trans (REq.sort ys).symm
theorem text_append (n : Nrm) (cp : Bool) {a a' b b' : List Int} (ha : textOf n cp a = textOf n cp a') (hb : textOf n cp b = textOf n cp b') : textOf n cp (a ++ b) = textOf n cp (a' ++ b') := by
  simp only [textOf_eq, textE_eq, List.flatMap_append] at ha hb ⊢
  exact sortT_congr (REq.append (req_of_sort ha) (req_of_sort hb))
theorem form_append (n : Nrm) (form : Int) (a b : List Int) : formOf n form (formOf n form a ++ formOf n form b) = formOf n form (a ++ b) := by
  by_cases h : form < 1 ∨ 4 < form
  · rw [formOf_0 n h, formOf_0 n h, formOf_0 n h, formOf_0 n h]
  · exact form_congr n h (text_append n _ (form_text n h a) (form_text n h b))
theorem textOf_nil (n : Nrm) (cp : Bool) : textOf n cp [] = [] := by rw [textOf_eq, textE_eq]; exact sortT_nil
theorem form_nil (n : Nrm) (form : Int) : formOf n form [] = [] := by
  by_cases h : form < 1 ∨ 4 < form
  · rw [formOf_0 n h]
  · rw [formOf_known n h, textOf_nil]; split <;> rfl
open Classical in
noncomputable def secondB (n : Nrm) (x : Int) : Bool := decide (∃ a, (pairOf n a x).isSome = true)
open Classical in
theorem secondB_iff {n : Nrm} {x : Int} : secondB n x = true ↔ ∃ a, (pairOf n a x).isSome = true := by unfold secondB; exact decide_eq_true_iff
open Classical in
theorem secondB_false {n : Nrm} {x : Int} (h : secondB n x = false) (a : Int) : pairOf n a x = none := by
  have h1 := of_decide_eq_false h
  cases hp : pairOf n a x with
  | none => rfl
  | some v => exact absurd ⟨a, by rw [hp]; rfl⟩ h1
noncomputable def boundB (n : Nrm) (form c : Int) : Bool :=
  if form < 1 ∨ 4 < form then true else match fullOf (usableN n).decomp (cpOf form) c with
    | [] => false
    | s :: _ => decide (classOf (usableN n).classes s = 0) && !(comps form && secondB (usableN n) s)
theorem form_join (n : Nrm) {form c : Int} (h : boundB n form c = true) (a r : List Int) : formOf n form (a ++ c :: r) = formOf n form a ++ formOf n form (c :: r) := by
  by_cases hf : form < 1 ∨ 4 < form
  · rw [formOf_0 n hf, formOf_0 n hf, formOf_0 n hf]
  · unfold boundB at h
    rw [if_neg hf] at h
    cases hF : fullOf (usableN n).decomp (cpOf form) c with
    | nil => rw [hF] at h; cases h
    | cons s t =>
      rw [hF] at h
      simp only [Bool.and_eq_true, decide_eq_true_eq] at h
      obtain ⟨hs, hn⟩ := h
      have hj : textOf n (cpOf form) (a ++ c :: r) = textOf n (cpOf form) a ++ textOf n (cpOf form) (c :: r) := by
        rw [textOf_eq, textOf_eq, textOf_eq]; exact textE_joins hF hs
      rw [formOf_known n hf, formOf_known n hf, formOf_known n hf, hj]
      by_cases hc : comps form = true
      · rw [if_pos hc, if_pos hc, if_pos hc]
        have hb : secondB (usableN n) s = false := by simpa [hc] using hn
        obtain ⟨D, hD⟩ : ∃ D, textOf n (cpOf form) (c :: r) = s :: D := ⟨_, by rw [textOf_eq, textE_eq, List.flatMap_cons, hF, List.cons_append, sortT_start hs]⟩
        rw [hD]
        exact compT_join _ _ hs (fun x => secondB_false hb x)
      · rw [if_neg hc, if_neg hc, if_neg hc]
section
variable {cls : Int → Int} {pr : Int → Int → Option Int}
theorem cstep_all {P : Int → Prop} (hp : ∀ a b v, P a → P b → pr a b = some v → P v) {st : List Int × Option Nat} {c : Int} (hst : ∀ x ∈ st.1, P x) (hk : ∀ k, st.2 = some k → k < st.1.length) (hc : P c) : (∀ x ∈ (cstep cls pr st c).1, P x) ∧ ∀ k, (cstep cls pr st c).2 = some k → k < (cstep cls pr st c).1.length := by
  obtain ⟨L, la⟩ := st
  simp only at hst hk
  have hpush : (∀ x ∈ (cpush cls (L, la) c).1, P x) ∧ ∀ k, (cpush cls (L, la) c).2 = some k → k < (cpush cls (L, la) c).1.length := by
    unfold cpush
    simp only [List.mem_append, List.mem_singleton, List.length_append, List.length_singleton]
    refine ⟨fun x hx => ?_, fun k h => ?_⟩
    · rcases hx with hx | hx
      · exact hst x hx
      · rw [hx]; exact hc
    · by_cases h0 : cls c = 0
      · rw [if_pos h0] at h; injection h with h; omega
      · rw [if_neg h0] at h; have := hk k h; omega
  cases la with
  | none => exact hpush
  | some k =>
    unfold cstep
    simp only
    split
    · exact hpush
    · cases hpr : pr (L.getD k 0) c with
      | none => exact hpush
      | some v =>
        have hkl := hk k rfl
        refine ⟨fun x hx => ?_, fun k' h => by simp only [List.length_set]; injection h with h; omega⟩
        rcases List.mem_or_eq_of_mem_set hx with hx | hx
        · exact hst x hx
        · rw [hx]
          refine hp _ _ _ ?_ hc hpr
          rw [List.getD_eq_getElem?_getD, List.getElem?_eq_getElem hkl]
          exact hst _ (List.getElem_mem hkl)
theorem foldl_all {P : Int → Prop} (hp : ∀ a b v, P a → P b → pr a b = some v → P v) : ∀ (b : List Int) (st : List Int × Option Nat), (∀ x ∈ st.1, P x) → (∀ k, st.2 = some k → k < st.1.length) → (∀ x ∈ b, P x) → ∀ x ∈ (b.foldl (cstep cls pr) st).1, P x
  | [], _, h, _, _ => h
  | c :: b, st, h, hk, hb => by
    obtain ⟨h1, h2⟩ := cstep_all hp h hk (hb c (List.mem_cons_self ..))
    exact foldl_all hp b _ h1 h2 (fun x hx => hb x (List.mem_cons_of_mem _ hx))
theorem compT_all {P : Int → Prop} (hp : ∀ a b v, P a → P b → pr a b = some v → P v) {D : List Int} (hD : ∀ x ∈ D, P x) : ∀ x ∈ compT cls pr D, P x :=
  foldl_all hp D ([], none) (fun x hx => by simp at hx) (fun k h => by cases h) hD
end
theorem form_ne (n : Nrm) {form : Int} (h : ¬ (form < 1 ∨ 4 < form)) (t : List Int) : ∀ e ∈ formOf n form t, fullOf (usableN n).decomp (cpOf form) e ≠ [] := by
  have hd : ∀ e ∈ textOf n (cpOf form) t, fullOf (usableN n).decomp (cpOf form) e ≠ [] := fun e he => by
    rw [full_fix (usableN_full n _) (d_none n _ t e he)]; simp
  rw [formOf_known n h]
  split
  · refine compT_all (fun a b v ha hb hv => ?_) hd
    rw [pair_full (usableN_good n) (usableN_full n _) a b v hv]
    simp [ha]
  · exact hd
theorem flat_nil_ {F : Int → List Int} : ∀ {l : List Int}, (∀ e ∈ l, F e ≠ []) → (l.flatMap F).length = 0 → l = []
  | [], _, _ => rfl
  | x :: r, h, h0 => by
    rw [List.flatMap_cons, List.length_append] at h0
    exact absurd (List.eq_nil_of_length_eq_zero (by omega)) (h x (List.mem_cons_self ..))
theorem textOf_len (n : Nrm) (cp : Bool) (t : List Int) : (textOf n cp t).length = (t.flatMap (fullOf (usableN n).decomp cp)).length := by
  rw [textOf_eq]
  unfold textE
  rw [sortRuns_length]
theorem form_parts (n : Nrm) (form : Int) {p q : List Int} (h : formOf n form (p ++ q) = p ++ q) (hj : formOf n form (p ++ q) = formOf n form p ++ formOf n form q) : formOf n form p = p ∧ formOf n form q = q := by
  by_cases hf : form < 1 ∨ 4 < form
  · exact ⟨formOf_0 n hf p, formOf_0 n hf q⟩
  · have hN : ∀ e ∈ p ++ q, fullOf (usableN n).decomp (cpOf form) e ≠ [] := by rw [← h]; exact form_ne n hf _
    have hl : ((formOf n form p).flatMap (fullOf (usableN n).decomp (cpOf form))).length = (p.flatMap (fullOf (usableN n).decomp (cpOf form))).length := by
      rw [← textOf_len, ← textOf_len, form_text n hf]
    have e := hj.symm.trans h
    rcases List.append_eq_append_iff.1 e with ⟨a', h1, h2⟩ | ⟨c', h1, h2⟩
    · have h0 : (a'.flatMap (fullOf (usableN n).decomp (cpOf form))).length = 0 := by
        have h3 := congrArg (fun l => (l.flatMap (fullOf (usableN n).decomp (cpOf form))).length) h1
        simp only [List.flatMap_append, List.length_append] at h3
        omega
      have ha := flat_nil_ (fun e he => hN e (List.mem_append_left _ (by rw [h1]; exact List.mem_append_right _ he))) h0
      subst ha
      exact ⟨by simpa using h1.symm, by simpa using h2⟩
    · have h0 : (c'.flatMap (fullOf (usableN n).decomp (cpOf form))).length = 0 := by
        have h3 := congrArg (fun l => (l.flatMap (fullOf (usableN n).decomp (cpOf form))).length) h1
        simp only [List.flatMap_append, List.length_append] at h3
        omega
      have ha := flat_nil_ (fun e he => hN e (List.mem_append_right _ (by rw [h2]; exact List.mem_append_left _ he))) h0
      subst ha
      exact ⟨by simpa using h1, by simpa using h2.symm⟩
theorem form_front (n : Nrm) (form : Int) {p q text : List Int} (e : text = p ++ q) (hn : formOf n form text = text) (hq : p = [] ∨ q = [] ∨ ∃ c r, q = c :: r ∧ boundB n form c = true) : formOf n form p = p ∧ formOf n form q = q := by
  subst e
  rcases hq with h | h | ⟨c, r, h, hb⟩
  · subst h; exact ⟨form_nil n form, by simpa using hn⟩
  · subst h; exact ⟨by simpa using hn, form_nil n form⟩
  · subst h; exact form_parts n form hn (form_join n hb p r)
theorem form_split (n : Nrm) (form : Int) (p q : List Int) (hq : p = [] ∨ q = [] ∨ ∃ c r, q = c :: r ∧ boundB n form c = true) : formOf n form (p ++ q) = formOf n form p ++ formOf n form q := by
  rcases hq with h | h | ⟨c, r, h, hb⟩
  · subst h; rw [form_nil]; rfl
  · subst h; rw [form_nil, List.append_nil, List.append_nil]
  · subst h; exact form_join n hb p r
def bnds (p : Int → Bool) : Nat → List Int → List Nat
  | _, [] => []
  | i, c :: t => if p c = true then i :: bnds p (i + 1) t else bnds p (i + 1) t
theorem bnds_snoc (p : Int → Bool) (c : Int) : ∀ (t : List Int) (i : Nat), bnds p i (t ++ [c]) = bnds p i t ++ if p c = true then [i + t.length] else []
  | [], i => by simp [bnds]
  | d :: t, i => by
    rw [List.cons_append, bnds, bnds, bnds_snoc p c t, List.length_cons, show i + 1 + t.length = i + (t.length + 1) by omega]
    split <;> simp
theorem bnds_length (p : Int → Bool) : ∀ (t : List Int) (i : Nat), (bnds p i t).length ≤ t.length
  | [], _ => Nat.le_refl _
  | c :: t, i => by
    have := bnds_length p t (i + 1)
    unfold bnds
    split <;> simp <;> omega
def lastBd (p : Int → Bool) (t : List Int) : Nat := (bnds p 0 t).getLastD 0
def firstBd (p : Int → Bool) (t : List Int) : Nat := (bnds p 0 t).headD t.length
theorem lastBd_snoc (p : Int → Bool) (t : List Int) (c : Int) : lastBd p (t ++ [c]) = if p c = true then t.length else lastBd p t := by
  unfold lastBd
  rw [bnds_snoc]
  split
  · simp [List.getLastD_eq_getLast?]
  · simp
theorem lastBd_spec (p : Int → Bool) : ∀ (m : Nat) (t : List Int), t.length = m → lastBd p t ≤ t.length ∧ (lastBd p t < t.length ∨ t.length = 0) ∧ (lastBd p t = 0 ∨ ∃ c r, t.drop (lastBd p t) = c :: r ∧ p c = true) ∧ ∀ i c, lastBd p t < i → t[i]? = some c → p c = false := by
  intro m
  induction m with
  | zero =>
    intro t ht
    have : t = [] := List.eq_nil_of_length_eq_zero ht
    subst this
    exact ⟨by simp [lastBd, bnds], .inr rfl, .inl (by simp [lastBd, bnds]), fun i c _ h => by simp at h⟩
  | succ m ih =>
    intro t ht
    rcases nil_or_snoc t with e | ⟨u, c, e⟩
    · subst e; simp at ht
    · subst e
      have hu : u.length = m := by simpa using ht
      obtain ⟨h1, h2, h3, h4⟩ := ih u hu
      rw [lastBd_snoc]
      by_cases hc : p c = true
      · rw [if_pos hc]
        refine ⟨by simp, .inl (by simp), .inr ⟨c, [], by simp, hc⟩, fun i d hi hd => ?_⟩
        have := lt_of_getElem?_some hd
        simp at this
        omega
      · rw [if_neg hc]
        refine ⟨by simp; omega, .inl (by simp; omega), ?_, fun i d hi hd => ?_⟩
        · rcases h3 with h3 | ⟨c', r, h3, h5⟩
          · exact .inl h3
          · exact .inr ⟨c', r ++ [c], by rw [List.drop_append_of_le_length h1, h3]; rfl, h5⟩
        · rcases Nat.lt_or_ge i u.length with hl | hl
          · rw [List.getElem?_append_left hl] at hd
            exact h4 i d hi hd
          · have := lt_of_getElem?_some hd
            simp at this
            have e : i = u.length := by omega
            subst e
            simp at hd
            subst hd
            simpa using hc
theorem first_spec (p : Int → Bool) : ∀ (t : List Int) (i : Nat), ∃ k, k ≤ t.length ∧ (bnds p i t).headD (i + t.length) = i + k ∧ (∀ j c, j < k → t[j]? = some c → p c = false) ∧ (k = t.length ∨ ∃ c r, t.drop k = c :: r ∧ p c = true)
  | [], i => ⟨0, Nat.le_refl _, by simp [bnds], fun j c h => by omega, .inl rfl⟩
  | d :: t, i => by
    by_cases hd : p d = true
    · exact ⟨0, Nat.zero_le _, by simp [bnds, hd], fun j c h => by omega, .inr ⟨d, t, rfl, hd⟩⟩
    · obtain ⟨k, h1, h2, h3, h4⟩ := first_spec p t (i + 1)
      refine ⟨k + 1, by simp; omega, ?_, fun j c hj hc => ?_, ?_⟩
      · rw [bnds, if_neg hd, List.length_cons, show i + (t.length + 1) = i + 1 + t.length by omega, h2]; omega
      · cases j with
        | zero => simp at hc; subst hc; simpa using hd
        | succ j => exact h3 j c (by omega) (by simpa using hc)
      · rcases h4 with h4 | ⟨c, r, h4, h5⟩
        · exact .inl (by simp; omega)
        · exact .inr ⟨c, r, by simpa using h4, h5⟩
theorem firstBd_spec (p : Int → Bool) (t : List Int) : firstBd p t ≤ t.length ∧ (∀ j c, j < firstBd p t → t[j]? = some c → p c = false) ∧ (firstBd p t = t.length ∨ ∃ c r, t.drop (firstBd p t) = c :: r ∧ p c = true) := by
  obtain ⟨k, h1, h2, h3, h4⟩ := first_spec p t 0
  have e : firstBd p t = k := by unfold firstBd; simpa using h2
  rw [e]
  exact ⟨h1, h3, h4⟩
noncomputable def joinM (n : Nrm) (form : Int) (a m b : List Int) : List Int :=
  a.take (lastBd (boundB n form) a) ++ (formOf n form (a.drop (lastBd (boundB n form) a) ++ m ++ b.take (firstBd (boundB n form) b)) ++ b.drop (firstBd (boundB n form) b))
theorem edge_left (n : Nrm) (form : Int) (a rest : List Int) : a.take (lastBd (boundB n form) a) = [] ∨ a.drop (lastBd (boundB n form) a) ++ rest = [] ∨ ∃ c r, a.drop (lastBd (boundB n form) a) ++ rest = c :: r ∧ boundB n form c = true := by
  obtain ⟨_, _, h, _⟩ := lastBd_spec (boundB n form) a.length a rfl
  rcases h with h | ⟨c, r, h, hb⟩
  · exact .inl (by rw [h]; rfl)
  · exact .inr (.inr ⟨c, r ++ rest, by rw [h]; rfl, hb⟩)
theorem edge_right (n : Nrm) (form : Int) (p b : List Int) : p = [] ∨ b.drop (firstBd (boundB n form) b) = [] ∨ ∃ c r, b.drop (firstBd (boundB n form) b) = c :: r ∧ boundB n form c = true := by
  obtain ⟨_, _, h⟩ := firstBd_spec (boundB n form) b
  rcases h with h | h
  · exact .inr (.inl (by rw [h]; exact List.drop_length))
  · exact .inr (.inr h)
theorem join_split (n : Nrm) (form : Int) (a m b : List Int) : formOf n form (a ++ m ++ b) = formOf n form (a.take (lastBd (boundB n form) a)) ++ (formOf n form (a.drop (lastBd (boundB n form) a) ++ m ++ b.take (firstBd (boundB n form) b)) ++ formOf n form (b.drop (firstBd (boundB n form) b))) := by
  have e : a ++ m ++ b = a.take (lastBd (boundB n form) a) ++ (a.drop (lastBd (boundB n form) a) ++ (m ++ b)) := by rw [← List.append_assoc (a.take _), List.take_append_drop, List.append_assoc]
  have e2 : a.drop (lastBd (boundB n form) a) ++ (m ++ b) = (a.drop (lastBd (boundB n form) a) ++ m ++ b.take (firstBd (boundB n form) b)) ++ b.drop (firstBd (boundB n form) b) := by rw [List.append_assoc _ (b.take _), List.take_append_drop, List.append_assoc]
  rw [e, form_split n form _ _ (edge_left n form a _), e2, form_split n form _ _ (edge_right n form _ b)]
theorem replace_form (n : Nrm) (form : Int) {text : List Int} (hn : formOf n form text = text) (i j : Nat) (ins : List Int) : joinM n form (text.take i) ins (text.drop j) = formOf n form (text.take i ++ ins ++ text.drop j) := by
  rw [join_split]
  have e1 : text = (text.take i).take (lastBd (boundB n form) (text.take i)) ++ ((text.take i).drop (lastBd (boundB n form) (text.take i)) ++ text.drop i) := by rw [← List.append_assoc, List.take_append_drop, List.take_append_drop]
  have e2 : text = (text.take j ++ (text.drop j).take (firstBd (boundB n form) (text.drop j))) ++ (text.drop j).drop (firstBd (boundB n form) (text.drop j)) := by rw [List.append_assoc, List.take_append_drop, List.take_append_drop]
  rw [(form_front n form e1 hn (edge_left n form _ _)).1, (form_front n form e2 hn (edge_right n form _ _)).2]
  rfl
theorem join_form (n : Nrm) (form : Int) {a b : List Int} (ha : formOf n form a = a) (hb : formOf n form b = b) (m : List Int) : joinM n form a m b = formOf n form (a ++ m ++ b) := by
  rw [join_split]
  have e1 : a = a.take (lastBd (boundB n form) a) ++ (a.drop (lastBd (boundB n form) a) ++ []) := by rw [List.append_nil, List.take_append_drop]
  have e2 : b = b.take (firstBd (boundB n form) b) ++ b.drop (firstBd (boundB n form) b) := by rw [List.take_append_drop]
  rw [(form_front n form e1 ha (edge_left n form _ _)).1, (form_front n form e2 hb (edge_right n form _ _)).2]
  rfl
end Go.Proofs.YtckgmkjoblneeaaGreatDoor
namespace Go.Proofs.YtckgmkjoblneeaaGreatDoor
section
variable {cls : Int → Int} {pr : Int → Int → Option Int} {F : Int → List Int}
theorem getLastD_snc (l : List Int) (c : Int) : (l ++ [c]).getLastD 0 = c := by simp [List.getLastD_eq_getLast?]
theorem ordd_snoc {l : List Int} {c : Int} (h : Ordd cls l) (hl : ∀ y, l.getLast? = some y → cls c = 0 ∨ cls y ≤ cls c) : Ordd cls (l ++ [c]) := by
  rcases List.eq_nil_or_concat l with e | ⟨u, y, e⟩
  · subst e; trivial
  · rw [List.concat_eq_append] at e
    subst e
    rw [List.append_assoc]
    exact ordd_mid.2 ⟨h, hl y (by simp), trivial⟩
theorem ordd_last {l r : List Int} {c : Int} (h : Ordd cls (l ++ c :: r)) {y : Int} (hy : l.getLast? = some y) : cls c = 0 ∨ cls y ≤ cls c := by
  rcases List.eq_nil_or_concat l with e | ⟨u, y', e⟩
  · subst e; simp at hy
  · rw [List.concat_eq_append] at e
    subst e
    have e2 : y' = y := by simpa using hy
    subst e2
    rw [List.append_assoc] at h
    exact (ordd_mid.1 h).2.1
theorem ordd_replace (hn : ∀ x, 0 ≤ cls x) {s v : Int} (hv : cls v = 0) {tail : List Int} : ∀ {A : List Int}, Ordd cls (A ++ s :: tail) → Ordd cls (A ++ v :: tail)
  | [], h => ordd_start hn hv h.tail
  | [_a], h => ⟨.inl hv, ordd_start hn hv h.2.tail⟩
  | _a :: b :: A, h => ⟨h.1, ordd_replace hn hv (A := b :: A) h.2⟩
structure QInv (cls : Int → Int) (pr : Int → Int → Option Int) (F : Int → List Int) (p : List Int) (st : List Int × Option Nat) : Prop where
  els : ∀ x ∈ st.1, Ordd cls (F x) ∧ compT cls pr (F x) = [x]
  ord : Ordd cls st.1
  lst : ∀ y, st.1.getLast? = some y → cls y = 0 ∨ ∃ z, p.getLast? = some z ∧ cls z ≠ 0 ∧ cls y ≤ cls z
  cur : ∀ k, st.2 = some k → ∃ A s tail, st.1 = A ++ s :: tail ∧ A.length = k ∧ cls s = 0 ∧ compFold cls pr (F s) = ([s], some 0) ∧ (∀ y, (F s).getLast? = some y → cls y = 0 ∨ ∃ z, p.getLast? = some z ∧ cls z ≠ 0 ∧ cls y ≤ cls z)
theorem QInv.nil : QInv cls pr F [] ([], none) := ⟨fun x hx => by simp at hx, trivial, fun y hy => by simp at hy, fun k hk => by cases hk⟩
theorem le_next (hn : ∀ x, 0 ≤ cls x) {p : List Int} {c y : Int} (hadj : ∀ z, p.getLast? = some z → cls c = 0 ∨ cls z ≤ cls c) (h : cls y = 0 ∨ ∃ z, p.getLast? = some z ∧ cls z ≠ 0 ∧ cls y ≤ cls z) : cls c = 0 ∨ cls y ≤ cls c := by
  rcases h with h | ⟨z, hz, _, hyz⟩
  · exact .inr (by rw [h]; exact hn c)
  · rcases hadj z hz with e | e
    · exact .inl e
    · exact .inr (Int.le_trans hyz e)
theorem last_c (p : List Int) (c : Int) : cls c = 0 ∨ ∃ z, (p ++ [c]).getLast? = some z ∧ cls z ≠ 0 ∧ cls c ≤ cls z := by
  by_cases h : cls c = 0
  · exact .inl h
  · exact .inr ⟨c, by simp, h, Int.le_refl _⟩
theorem QInv.push (hn : ∀ x, 0 ≤ cls x) {p : List Int} {st : List Int × Option Nat} (h : QInv cls pr F p st) {c : Int} (hc : F c = [c]) (hadj : ∀ z, p.getLast? = some z → cls c = 0 ∨ cls z ≤ cls c) : QInv cls pr F (p ++ [c]) (cpush cls st c) := by
  obtain ⟨L, la⟩ := st
  have hel := h.els
  have hor := h.ord
  have hls := h.lst
  have hcu := h.cur
  simp only at hel hor hls hcu
  refine ⟨fun x hx => ?_, ?_, fun y hy => ?_, fun k hk => ?_⟩
  · simp only [cpush, List.mem_append, List.mem_singleton] at hx
    rcases hx with hx | hx
    · exact hel x hx
    · rw [hx, hc]; exact ⟨trivial, rfl⟩
  · exact ordd_snoc hor (fun y hy => le_next hn hadj (hls y hy))
  · have e : c = y := by simpa [cpush] using hy
    rw [← e]; exact last_c p c
  · simp only [cpush] at hk ⊢
    by_cases h0 : cls c = 0
    · rw [if_pos h0] at hk
      injection hk with hk
      refine ⟨L, c, [], rfl, hk, h0, ?_, fun y hy => ?_⟩
      · rw [hc]; simp [compFold, cstep, cpush, h0]
      · rw [hc] at hy
        have e : c = y := by simpa using hy
        rw [← e]; exact .inl h0
    · rw [if_neg h0] at hk
      obtain ⟨A, s, tail, e, hA, hs, hf, hl⟩ := hcu k hk
      refine ⟨A, s, tail ++ [c], by rw [e]; simp, hA, hs, hf, fun y hy => ?_⟩
      rcases hl y hy with h1 | ⟨z, hz, hz0, hyz⟩
      · exact .inl h1
      · rcases hadj z hz with e1 | e1
        · exact absurd e1 h0
        · exact .inr ⟨c, by simp, h0, Int.le_trans hyz e1⟩
theorem QInv.step (hn : ∀ x, 0 ≤ cls x) (hp : ∀ a b v, pr a b = some v → F v = F a ++ F b ∧ cls v = 0) {p : List Int} {st : List Int × Option Nat} (h : QInv cls pr F p st) {c : Int} (hc : F c = [c]) (hadj : ∀ z, p.getLast? = some z → cls c = 0 ∨ cls z ≤ cls c) : QInv cls pr F (p ++ [c]) (cstep cls pr st c) := by
  have hpush := h.push hn hc hadj
  obtain ⟨L, la⟩ := st
  cases la with
  | none => exact hpush
  | some k =>
    unfold cstep
    simp only
    split
    · exact hpush
    · rename_i hblk
      cases hpr : pr (L.getD k 0) c with
      | none => exact hpush
      | some v =>
        obtain ⟨A, s, tail, e, hA, hs, hf, hl⟩ := h.cur k rfl
        have hel := h.els
        have hor := h.ord
        have hls := h.lst
        simp only at e hel hor hls
        subst e
        have hgs : (A ++ s :: tail).getD k 0 = s := by
          rw [List.getD_eq_getElem?_getD, List.getElem?_append_right (by omega)]
          simp [← hA]
        rw [hgs] at hpr
        obtain ⟨hFv, hv⟩ := hp s c v hpr
        rw [hc] at hFv
        have hset : (A ++ s :: tail).set k v = A ++ v :: tail := by
          rw [List.set_append_right _ _ (by omega)]
          simp [← hA]
        have hcv : compFold cls pr (F v) = ([v], some 0) := by
          rw [hFv, compFold_snoc, hf]
          simp [cstep, hpr]
        simp only
        rw [hset]
        refine ⟨fun x hx => ?_, ordd_replace hn hv hor, fun y hy => ?_, fun k' hk' => ?_⟩
        · simp only [List.mem_append, List.mem_cons] at hx
          rcases hx with hx | hx | hx
          · exact hel x (by simp [hx])
          · rw [hx]
            refine ⟨?_, by unfold compT; rw [hcv]⟩
            rw [hFv]
            exact ordd_snoc (hel s (by simp)).1 (fun y hy => le_next hn hadj (hl y hy))
          · exact hel x (by simp [hx])
        · rcases List.eq_nil_or_concat tail with et | ⟨u, y', et⟩
          · subst et
            have e2 : v = y := by simpa using hy
            rw [← e2]; exact .inl hv
          · rw [List.concat_eq_append] at et
            subst et
            have e2 : y' = y := by
              rw [show A ++ v :: (u ++ [y']) = (A ++ v :: u) ++ [y'] by simp, List.getLast?_concat] at hy
              injection hy
            subst e2
            have hlt : cls y' < cls c := by
              have h1 : (A ++ s :: (u ++ [y'])).getLastD 0 = y' := by
                rw [← List.cons_append, ← List.append_assoc, getLastD_snc]
              rw [h1] at hblk
              rcases Int.lt_or_le (cls y') (cls c) with h2 | h2
              · exact h2
              · exact absurd ⟨by simp; omega, h2⟩ hblk
            have h0 := hn y'
            exact .inr ⟨c, by simp, by omega, by omega⟩
        · injection hk' with hk'
          refine ⟨A, v, tail, rfl, by omega, hv, hcv, fun y hy => ?_⟩
          rw [hFv] at hy
          have e2 : c = y := by simpa using hy
          rw [← e2]; exact last_c p c
theorem QInv.all (hn : ∀ x, 0 ≤ cls x) (hp : ∀ a b v, pr a b = some v → F v = F a ++ F b ∧ cls v = 0) : ∀ (r p : List Int) (st : List Int × Option Nat), QInv cls pr F p st → (∀ x ∈ r, F x = [x]) → Ordd cls (p ++ r) → QInv cls pr F (p ++ r) (r.foldl (cstep cls pr) st)
  | [], p, st, h, _, _ => by rw [List.append_nil]; exact h
  | c :: r, p, st, h, hf, ho => by
    have h1 := h.step hn hp (hf c (List.mem_cons_self ..)) (fun z hz => ordd_last ho hz)
    have e : p ++ c :: r = (p ++ [c]) ++ r := by simp
    rw [e] at ho ⊢
    exact QInv.all hn hp r (p ++ [c]) _ h1 (fun x hx => hf x (List.mem_cons_of_mem _ hx)) ho
end
end Go.Proofs.YtckgmkjoblneeaaGreatDoor
namespace Go.Proofs.YtckgmkjoblneeaaGreatDoor
theorem pairM_some {n : Nrm} {a b v : Int} (h : pairM n a b = some v) : ∃ m ∈ n.decomp, candB n m = true ∧ m.to = [a, b] ∧ m.src = v := by
  unfold pairM at h
  cases hf : n.decomp.find? (fun m => candB n m && decide (m.to = [a, b])) with
  | none => rw [hf] at h; cases h
  | some m =>
    rw [hf] at h
    have h1 := List.find?_some hf
    simp only [Bool.and_eq_true, decide_eq_true_eq] at h1
    exact ⟨m, List.mem_of_find?_eq_some hf, h1.1, h1.2, by simpa using h⟩
theorem good_codes {n : Nrm} (g : Good n) {m : Mp} (hm : m ∈ n.decomp) : validB m.src = true ∧ ∀ c ∈ m.to, validB c = true := by
  have h := List.any_eq_false.1 (mapParts_zero (mapCheck_zero g.map).1).1 m hm
  simp only [mpBadCode, Bool.or_eq_true, Bool.not_eq_true', List.any_eq_true, not_or, not_exists, not_and, Bool.not_eq_false] at h
  exact ⟨h.1, fun c hc => h.2 c hc⟩
theorem valid_range {c : Int} (h : validB c = true) : 0 ≤ c ∧ c ≤ 1114111 := by
  simp [validB] at h
  omega
theorem once_valid {n : Nrm} (g : Good n) {c : Int} {cp : Bool} {tt : List Int} (h : onceOf n.decomp c cp = some tt) : ∀ e ∈ tt, 0 ≤ e := by
  unfold onceOf at h
  split at h
  · rename_i hk
    injection h with h
    subst h
    intro e he
    have hc : 44032 ≤ c ∧ c < 55204 := by
      unfold kind at hk
      split at hk
      · omega
      · split at hk
        · omega
        · split at hk
          · omega
          · split at hk
            · omega
            · omega
    unfold decompH at he
    rw [if_neg (by omega)] at he
    split at he
    · simp only [List.mem_cons, List.not_mem_nil, or_false] at he
      rcases he with he | he <;> rw [he] <;> simp only [hL, hV] <;> omega
    · simp only [List.mem_cons, List.not_mem_nil, or_false] at he
      rcases he with he | he | he <;> rw [he] <;> simp only [hL, hV, hT] <;> omega
  · unfold mapOf at h
    cases hf : n.decomp.find? (fun m => decide (m.src = c)) with
    | none => rw [hf] at h; cases h
    | some m =>
      rw [hf] at h
      simp only at h
      split at h
      · injection h with h
        subst h
        exact fun e he => (valid_range ((good_codes g (List.mem_of_find?_eq_some hf)).2 e he)).1
      · cases h
theorem full_nonneg {n : Nrm} (g : Good n) {cp : Bool} {F : Int → List Int} (hF : FullEq n.decomp cp F) (c : Int) (hc : 0 ≤ c) : ∀ e ∈ F c, 0 ≤ e := by
  have hacc := ends_any g.ends cp c
  induction hacc with
  | intro c _ ih =>
    intro e he
    rw [hF c] at he
    cases ho : onceOf n.decomp c cp with
    | none => rw [ho] at he; rw [List.mem_singleton.1 he]; exact hc
    | some tt =>
      rw [ho] at he
      obtain ⟨x, hx, hxe⟩ := List.mem_flatMap.1 he
      exact ih x ⟨tt, ho, hx⟩ (once_valid g ho x hx) e hxe
theorem kind_gap : kind (-1) = 0 := by decide +kernel
theorem once_gap {n : Nrm} (g : Good n) (cp : Bool) : onceOf n.decomp (-1) cp = none := by
  unfold onceOf
  rw [if_neg (by rw [kind_gap]; omega)]
  exact mapOf_none (fun m hm e => by have := valid_range (good_codes g hm).1; omega)
theorem full_gap (n : Nrm) (cp : Bool) : fullOf (usableN n).decomp cp (-1) = [-1] := full_fix (usableN_full n cp) (once_gap (usableN_good n) cp)
theorem class_gap (n : Nrm) : classOf (usableN n).classes (-1) = 0 :=
  classOf_none (fun s hs h => by have := spanBad_false (List.any_eq_false.1 (ordCheck_zero (usableN_good n).ord).1 s hs |> eq_false_of_ne_true); omega)
def gapped (codes : List Int) : List Int := codes.flatMap fun c => [c, -1]
theorem gapped_flat {F : Int → List Int} (h : F (-1) = [-1]) : ∀ codes : List Int, (gapped codes).flatMap F = codes.flatMap fun c => F c ++ [-1]
  | [] => rfl
  | c :: r => by
    have ih := gapped_flat h r
    unfold gapped at ih ⊢
    rw [List.flatMap_cons, List.flatMap_append, ih, List.flatMap_cons]
    simp [h]
theorem text_gapped (n : Nrm) (cp : Bool) (codes : List Int) : textOf n cp (gapped codes) = codes.flatMap fun c => textOf n cp [c] ++ [-1] := by
  rw [textOf_eq, textE_eq, gapped_flat (full_gap n cp), sortT_gaps (class_gap n)]
  congr 1
  funext c
  rw [textOf_eq, textE_eq]
  simp
theorem text_nonneg (n : Nrm) (cp : Bool) {c : Int} (hc : 0 ≤ c) : ∀ e ∈ textOf n cp [c], 0 ≤ e := by
  rw [textOf_eq, textE_eq]
  intro e he
  rw [sortT_mem] at he
  simp only [List.flatMap_cons, List.flatMap_nil, List.append_nil] at he
  exact full_nonneg (usableN_good n) (usableN_full n cp) c hc e he
theorem textOf_one (n : Nrm) (cp : Bool) (c : Int) : textOf n cp [c] = sortT (classOf (usableN n).classes) (fullOf (usableN n).decomp cp c) := by
  rw [textOf_eq, textE_eq]
  simp
end Go.Proofs.YtckgmkjoblneeaaGreatDoor
namespace Go.Proofs.YtckgmkjoblneeaaGreatDoor
section
variable {α : Type} [DecidableEq α] {β : Type}
theorem getKV_mem {k : α} {v : β} : ∀ {M : List (α × β)}, getKV M k = some v → (k, v) ∈ M
  | [], h => by simp [getKV] at h
  | p :: r, h => by
    unfold getKV at h
    by_cases hp : p.1 = k
    · rw [if_pos hp] at h
      injection h with h
      rw [← hp, ← h]
      exact List.mem_cons_self ..
    · rw [if_neg hp] at h
      exact List.mem_cons_of_mem _ (getKV_mem h)
theorem getKV_of_mem {k : α} {v : β} : ∀ {M : List (α × β)}, (k, v) ∈ M → (getKV M k).isSome = true
  | [], h => by simp at h
  | p :: r, h => by
    unfold getKV
    by_cases hp : p.1 = k
    · rw [if_pos hp]; rfl
    · rw [if_neg hp]
      rcases List.mem_cons.1 h with e | e
      · exact absurd (by rw [← e]) hp
      · exact getKV_of_mem e
end
def vtR : List Rng := [⟨4449, 4469⟩, ⟨4520, 4546⟩]
def onesR {β : Type} (D : List ((Int × Int) × β)) : List Rng := D.map fun p => ⟨p.1.2, p.1.2⟩
theorem comp_v {x : Int} (h1 : 4449 ≤ x) (h2 : x ≤ 4469) : (compH 4352 x).isSome = true := by
  have k1 : kind 4352 = 1 := by decide +kernel
  have k2 : kind x = 2 := by unfold kind; rw [if_neg (by omega), if_pos (by omega)]
  unfold compH
  rw [if_pos ⟨k1, k2⟩]; rfl
theorem comp_t {x : Int} (h1 : 4520 ≤ x) (h2 : x ≤ 4546) : (compH 44032 x).isSome = true := by
  have k1 : kind 44032 = 4 := by decide +kernel
  have k2 : kind x = 3 := by unfold kind; rw [if_neg (by omega), if_neg (by omega), if_pos (by omega)]
  unfold compH
  rw [if_neg (by rw [k1]; omega), if_pos ⟨k1, k2⟩]; rfl
theorem comp_vt {a x : Int} (h : (compH a x).isSome = true) : 4449 ≤ x ∧ x ≤ 4469 ∨ 4520 ≤ x ∧ x ≤ 4546 := by
  unfold compH at h
  split at h
  · rename_i hk; have := kind_2 hk.2; omega
  · split at h
    · rename_i hk; have := kind_3 hk.2; omega
    · cases h
theorem pairOf_comp {n : Nrm} {a x : Int} (h : (compH a x).isSome = true) : (pairOf n a x).isSome = true := by
  unfold pairOf
  cases hc : compH a x with
  | none => rw [hc] at h; cases h
  | some c => rfl
theorem has_second {n : Nrm} (g : Good n) {M D : List ((Int × Int) × Value)} (hM : CompMap n n.decomp M) (h1 : ∀ p ∈ D, p ∈ M) (h2 : ∀ p ∈ M, p ∈ D) (x : Int) : hasR (vtR ++ onesR D) x = secondB n x := by
  have hiff : hasR (vtR ++ onesR D) x = true ↔ secondB n x = true := by
    unfold hasR
    rw [List.any_eq_true]
    constructor
    · rintro ⟨r, hr, hin⟩
      simp only [inR, Bool.and_eq_true, decide_eq_true_eq] at hin
      refine secondB_iff.2 ?_
      rcases List.mem_append.1 hr with hr | hr
      · simp only [vtR, List.mem_cons, List.not_mem_nil, or_false] at hr
        rcases hr with rfl | rfl <;> simp only at hin
        · exact ⟨4352, pairOf_comp (comp_v (by omega) (by omega))⟩
        · exact ⟨44032, pairOf_comp (comp_t (by omega) (by omega))⟩
      · obtain ⟨p, hp, rfl⟩ := List.mem_map.1 hr
        obtain ⟨⟨a, b⟩, v⟩ := p
        simp only at hin
        have e : x = b := by omega
        subst e
        refine ⟨a, ?_⟩
        have hg := getKV_of_mem (h1 _ hp)
        rw [hM a x] at hg
        split at hg
        · cases hg
        · rename_i hc
          unfold pairOf pairM
          cases hcc : compH a x with
          | some c => rfl
          | none =>
            simp only [Option.isSome_map] at hg ⊢
            exact hg
    · intro h
      obtain ⟨a, ha⟩ := secondB_iff.1 h
      cases hc : compH a x with
      | some c =>
        have hv := comp_vt (a := a) (x := x) (by rw [hc]; rfl)
        rcases hv with hv | hv
        · exact ⟨⟨4449, 4469⟩, by simp [vtR], by simp [inR, validB]; omega⟩
        · exact ⟨⟨4520, 4546⟩, by simp [vtR], by simp [inR, validB]; omega⟩
      | none =>
        have hp : (pairM n a x).isSome = true := by unfold pairOf at ha; rw [hc] at ha; exact ha
        obtain ⟨v, hv⟩ := Option.isSome_iff_exists.1 hp
        obtain ⟨m, hm, _, hto, _⟩ := pairM_some hv
        have hval := (good_codes g hm).2 x (by rw [hto]; simp)
        have hg : ∃ u, getKV M (a, x) = some u := by
          rw [hM a x, hc]
          unfold pairM at hp
          simp only [Option.isSome_map] at hp
          obtain ⟨m', hm'⟩ := Option.isSome_iff_exists.1 hp
          exact ⟨_, by rw [if_neg (by simp)]; unfold isPair; rw [hm']; rfl⟩
        obtain ⟨u, hu⟩ := hg
        refine ⟨⟨x, x⟩, List.mem_append_right _ (List.mem_map.2 ⟨((a, x), u), h2 _ (getKV_mem hu), rfl⟩), ?_⟩
        simp [inR, hval]
  cases h3 : hasR (vtR ++ onesR D) x <;> cases h4 : secondB n x <;> simp_all
end Go.Proofs.YtckgmkjoblneeaaGreatDoor
namespace Go.Proofs.YtckgmkjoblneeaaGreatDoor
noncomputable def insideB (n : Nrm) (form c : Int) : Bool := match textOf n (cpOf form) [c] with
  | [] => true
  | s :: _ => !decide (classOf (usableN n).classes s = 0) || (comps form && secondB (usableN n) s)
theorem sort_head {cls : Int → Int} {s : Int} {t : List Int} (h : cls s ≠ 0) : ∃ s' t', sortT cls (s :: t) = s' :: t' ∧ cls s' ≠ 0 := by
  have hr : (rs cls (s :: t)).1 ≠ [] := by rw [rs_non h]; simp
  unfold sortT
  cases hs : stab cls (rs cls (s :: t)).1 with
  | nil =>
    have := stab_length (cls := cls) (rs cls (s :: t)).1
    rw [hs] at this
    exact absurd (List.eq_nil_of_length_eq_zero this.symm) hr
  | cons s' t' =>
    refine ⟨s', t' ++ sortL cls (rs cls (s :: t)).2, by rw [List.cons_append], ?_⟩
    have hm : s' ∈ (rs cls (s :: t)).1 := stab_mem.1 (by rw [hs]; exact List.mem_cons_self ..)
    exact (rs_good (cls := cls) (s :: t)).1 s' hm
theorem bound_inside (n : Nrm) {form : Int} (h : ¬ (form < 1 ∨ 4 < form)) (c : Int) : boundB n form c = !insideB n form c := by
  unfold boundB insideB
  rw [if_neg h, textOf_one]
  cases hF : fullOf (usableN n).decomp (cpOf form) c with
  | nil => rw [sortT_nil]; rfl
  | cons s t =>
    by_cases hs : classOf (usableN n).classes s = 0
    · rw [sortT_start hs]
      simp [hs]
    · obtain ⟨s', t', e, h0⟩ := sort_head (cls := classOf (usableN n).classes) (t := t) hs
      rw [e]
      simp [hs, h0]
theorem second_valid {n : Nrm} (g : Good n) {x : Int} (h : secondB n x = true) : validB x = true := by
  obtain ⟨a, ha⟩ := secondB_iff.1 h
  cases hc : compH a x with
  | some c =>
    have := comp_vt (a := a) (x := x) (by rw [hc]; rfl)
    simp [validB]; omega
  | none =>
    have hp : (pairM n a x).isSome = true := by unfold pairOf at ha; rw [hc] at ha; exact ha
    obtain ⟨v, hv⟩ := Option.isSome_iff_exists.1 hp
    obtain ⟨m, hm, _, hto, _⟩ := pairM_some hv
    exact (good_codes g hm).2 x (by rw [hto]; simp)
theorem once_invalid {n : Nrm} (g : Good n) {c : Int} (h : validB c = false) (cp : Bool) : onceOf n.decomp c cp = none := by
  have hv : ¬ (0 ≤ c ∧ c ≤ 1114111) := by simp [validB] at h; omega
  unfold onceOf
  rw [if_neg]
  · exact mapOf_none (fun m hm e => by have := valid_range (good_codes g hm).1; omega)
  · unfold kind
    rw [if_neg (by omega), if_neg (by omega), if_neg (by omega), if_pos (by omega)]
    omega
theorem class_invalid {n : Nrm} (g : Good n) {c : Int} (h : validB c = false) : classOf n.classes c = 0 := by
  have hv : ¬ (0 ≤ c ∧ c ≤ 1114111) := by simp [validB] at h; omega
  exact classOf_none (fun s hs h1 => by have := spanBad_false (List.any_eq_false.1 (ordCheck_zero g.ord).1 s hs |> eq_false_of_ne_true); omega)
theorem full_invalid (n : Nrm) (cp : Bool) {c : Int} (h : validB c = false) : fullOf (usableN n).decomp cp c = [c] := full_fix (usableN_full n cp) (once_invalid (usableN_good n) h cp)
theorem bound_invalid (n : Nrm) (form : Int) {c : Int} (h : validB c = false) : boundB n form c = true := by
  unfold boundB
  split
  · rfl
  · rw [full_invalid n _ h]
    have h2 : secondB (usableN n) c = false := by
      cases hs : secondB (usableN n) c with
      | false => rfl
      | true => rw [second_valid (usableN_good n) hs] at h; cases h
    simp [class_invalid (usableN_good n) h, h2]
def distL (text : List Int) : List Int := text.foldl (fun out c => if validB c = true ∧ c ∉ out then out ++ [c] else out) []
theorem distL_snoc (t : List Int) (c : Int) : distL (t ++ [c]) = if validB c = true ∧ c ∉ distL t then distL t ++ [c] else distL t := by
  unfold distL; rw [List.foldl_append]; rfl
theorem distL_length (t : List Int) : (distL t).length ≤ t.length := by
  have key : ∀ (t out : List Int), (t.foldl (fun out c => if validB c = true ∧ c ∉ out then out ++ [c] else out) out).length ≤ out.length + t.length := by
    intro t
    induction t with
    | nil => intro out; simp
    | cons c t ih =>
      intro out
      rw [List.foldl_cons]
      split
      · have := ih (out ++ [c]); simp at this ⊢; omega
      · have := ih out; simp at this ⊢; omega
  have := key t []
  simpa [distL] using this
theorem distL_spec (t : List Int) : (∀ c, c ∈ distL t ↔ c ∈ t ∧ validB c = true) ∧ (distL t).Nodup := by
  have key : ∀ (t out : List Int), out.Nodup → (∀ c ∈ out, validB c = true) → (∀ c, c ∈ (t.foldl (fun out c => if validB c = true ∧ c ∉ out then out ++ [c] else out) out) ↔ (c ∈ out ∨ (c ∈ t ∧ validB c = true))) ∧ (t.foldl (fun out c => if validB c = true ∧ c ∉ out then out ++ [c] else out) out).Nodup := by
    intro t
    induction t with
    | nil => intro out h _; simp [h]
    | cons d t ih =>
      intro out h hv
      rw [List.foldl_cons]
      by_cases hd : validB d = true ∧ d ∉ out
      · rw [if_pos hd]
        have hn : (out ++ [d]).Nodup := List.nodup_append.2 ⟨h, by simp, fun a ha b hb e => by rw [List.mem_singleton.1 hb] at e; rw [e] at ha; exact hd.2 ha⟩
        obtain ⟨h1, h2⟩ := ih (out ++ [d]) hn (fun c hc => by
          rcases List.mem_append.1 hc with hc | hc
          · exact hv c hc
          · rw [List.mem_singleton.1 hc]; exact hd.1)
        refine ⟨fun c => ?_, h2⟩
        rw [h1 c]
        simp only [List.mem_append, List.mem_cons, List.not_mem_nil, or_false]
        constructor
        · rintro ((h3 | h3) | h3)
          · exact .inl h3
          · rw [h3]; exact .inr ⟨.inl rfl, hd.1⟩
          · exact .inr ⟨.inr h3.1, h3.2⟩
        · rintro (h3 | ⟨h3 | h3, h4⟩)
          · exact .inl (.inl h3)
          · exact .inl (.inr h3)
          · exact .inr ⟨h3, h4⟩
      · rw [if_neg hd]
        obtain ⟨h1, h2⟩ := ih out h hv
        refine ⟨fun c => ?_, h2⟩
        rw [h1 c]
        simp only [List.mem_cons]
        constructor
        · rintro (h3 | h3)
          · exact .inl h3
          · exact .inr ⟨.inr h3.1, h3.2⟩
        · rintro (h3 | ⟨h3 | h3, h4⟩)
          · exact .inl h3
          · left
            rw [h3] at h4 ⊢
            rcases Classical.em (d ∈ out) with h5 | h5
            · exact h5
            · exact absurd ⟨h4, h5⟩ hd
          · exact .inr ⟨h3, h4⟩
  obtain ⟨h1, h2⟩ := key t [] (by simp) (by simp)
  exact ⟨fun c => by simpa [distL] using h1 c, h2⟩
def gapCut : List Int → List Int → List (List Int)
  | [], _ => []
  | c :: t, part => if c = -1 then part :: gapCut t [] else gapCut t (part ++ [c])
theorem gapCut_run (r : List Int) : ∀ (g part : List Int), (∀ e ∈ g, e ≠ -1) → gapCut (g ++ -1 :: r) part = (part ++ g) :: gapCut r []
  | [], part, _ => by simp [gapCut]
  | c :: g, part, h => by
    rw [List.cons_append, gapCut, if_neg (h c (List.mem_cons_self ..)), gapCut_run r g _ (fun e he => h e (List.mem_cons_of_mem _ he))]
    simp
theorem gapCut_all (G : Int → List Int) : ∀ codes : List Int, (∀ c ∈ codes, ∀ e ∈ G c, e ≠ -1) → gapCut (codes.flatMap fun c => G c ++ [-1]) [] = codes.map G
  | [], _ => rfl
  | c :: r, h => by
    rw [List.flatMap_cons, List.append_assoc, List.singleton_append, gapCut_run _ _ _ (h c (List.mem_cons_self ..)), gapCut_all G r (fun d hd => h d (List.mem_cons_of_mem _ hd))]
    simp
end Go.Proofs.YtckgmkjoblneeaaGreatDoor
