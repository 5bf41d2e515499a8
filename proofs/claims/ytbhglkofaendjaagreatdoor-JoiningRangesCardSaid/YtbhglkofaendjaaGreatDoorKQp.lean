/- Composition at starters that compose with nothing before them, and around gaps. No program. Boundaries of forms, and texts joined at boundaries: the laws. No walk. The quick check decides: a composed text is in order and each of its elements is its own form; a text in order, of elements that are their own forms and begin with nothing that composes, is composed. No walk. The quick check of elements and of texts, for data; gaps. No walk. The set of second elements. No walk. What the quick check computes: boundaries by sorted decompositions, distinct code points. No walk. Laws of joining: neutral texts, association, what an edit leaves. No walk. The examples of the chapter on joining. No walk. -/
import Derived.Test.YtbhglkofaendjaaGreatDoorKPq
import Derived.Test.YtbhglkofaendjaaGreatDoorKCmc
import Derived.Test.YtbhglkofaendjaaGreatDoorKCma
import Derived.Test.YtbhglkofaendjaaGreatDoorKAlive21
namespace Go.Proofs.YtbhglkofaendjaaGreatDoor

section
variable {cls : Int → Int} {pr : Int → Int → Option Int} {F : Int → List Int}
theorem cstep_shift (L M : List Int) (k : Nat) (c : Int) (hk : k < M.length) :
    ∃ M' k', k' < M'.length ∧ cstep cls pr (M, some k) c = (M', some k') ∧ cstep cls pr (L ++ M, some (L.length + k)) c = (L ++ M', some (L.length + k')) := by
  have e1 : (L ++ M).getLastD 0 = M.getLastD 0 := by
    rw [List.getLastD_eq_getLast?, List.getLastD_eq_getLast?, List.getLast?_append]
    cases h : M.getLast? with
    | none => rw [List.getLast?_eq_none_iff] at h; subst h; simp at hk
    | some x => rfl
  have e2 : (L ++ M).getD (L.length + k) 0 = M.getD k 0 := by
    rw [List.getD_eq_getElem?_getD, List.getD_eq_getElem?_getD, List.getElem?_append_right (by omega)]
    congr 2
    omega
  have e3 : (L.length + k + 1 < (L ++ M).length) ↔ k + 1 < M.length := by rw [List.length_append]; omega
  have hpush : ∃ M' k', k' < M'.length ∧ cpush cls (M, some k) c = (M', some k') ∧ cpush cls (L ++ M, some (L.length + k)) c = (L ++ M', some (L.length + k')) := by
    unfold cpush
    by_cases h0 : cls c = 0
    · exact ⟨M ++ [c], M.length, by simp, by simp [h0], by simp [h0]⟩
    · exact ⟨M ++ [c], k, by simp; omega, by simp [h0], by simp [h0]⟩
  unfold cstep
  simp only
  rw [e1, e2]
  by_cases hb : k + 1 < M.length ∧ cls c ≤ cls (M.getLastD 0)
  · rw [if_pos hb, if_pos ⟨e3.2 hb.1, hb.2⟩]; exact hpush
  · rw [if_neg hb, if_neg (fun h => hb ⟨e3.1 h.1, h.2⟩)]
    cases pr (M.getD k 0) c with
    | none => exact hpush
    | some p =>
      refine ⟨M.set k p, k, by simpa using hk, rfl, ?_⟩
      simp only
      rw [List.set_append_right _ _ (by omega)]
      simp
theorem foldl_shift (L : List Int) : ∀ (b M : List Int) (k : Nat), k < M.length → ∃ M' k', k' < M'.length ∧ b.foldl (cstep cls pr) (M, some k) = (M', some k') ∧ b.foldl (cstep cls pr) (L ++ M, some (L.length + k)) = (L ++ M', some (L.length + k'))
  | [], M, k, hk => ⟨M, k, hk, rfl, rfl⟩
  | c :: b, M, k, hk => by
    obtain ⟨M1, k1, h1, e1, e2⟩ := cstep_shift (cls := cls) (pr := pr) L M k c hk
    simp only [List.foldl_cons, e1, e2]
    exact foldl_shift L b M1 k1 h1
theorem cstep_fresh {st : List Int × Option Nat} {s : Int} (hs : cls s = 0) (hp : ∀ x, pr x s = none) : cstep cls pr st s = (st.1 ++ [s], some st.1.length) := by
  obtain ⟨L, la⟩ := st
  have hpush : ∀ la, cpush cls (L, la) s = (L ++ [s], some L.length) := fun la => by simp [cpush, hs]
  cases la with
  | none => exact hpush _
  | some k =>
    unfold cstep
    simp only [hp]
    split <;> exact hpush _
/-- A starter that composes with nothing before it parts the work. -/
theorem compT_join (a : List Int) {s : Int} (b : List Int) (hs : cls s = 0) (hp : ∀ x, pr x s = none) : compT cls pr (a ++ s :: b) = compT cls pr a ++ compT cls pr (s :: b) := by
  unfold compT compFold
  rw [List.foldl_append, List.foldl_cons, List.foldl_cons, cstep_fresh hs hp, cstep_fresh hs hp]
  obtain ⟨M', k', _, e1, e2⟩ := foldl_shift (cls := cls) (pr := pr) (a.foldl (cstep cls pr) ([], none)).1 b [s] 0 (by simp)
  rw [Nat.add_zero] at e2
  rw [e2]
  simp only [List.nil_append, List.length_nil]
  rw [e1]
def upN : Option Nat → Option Nat
  | none => some 0
  | some k => some (k + 1)
theorem cstep_gap {g : Int} (hg : ∀ x, pr g x = none) (M : List Int) (la : Option Nat) (c : Int) (hk : ∀ k, la = some k → k < M.length) :
    ∃ M' la', (∀ k, la' = some k → k < M'.length) ∧ cstep cls pr (M, la) c = (M', la') ∧ cstep cls pr (g :: M, upN la) c = (g :: M', upN la') := by
  cases la with
  | none =>
    have hp : cpush cls (g :: M, some 0) c = (g :: (M ++ [c]), upN (if cls c = 0 then some M.length else none)) := by
      unfold cpush
      by_cases h0 : cls c = 0 <;> simp [h0, upN]
    refine ⟨M ++ [c], if cls c = 0 then some M.length else none, fun k hk' => ?_, rfl, ?_⟩
    · by_cases h0 : cls c = 0
      · rw [if_pos h0] at hk'; injection hk' with e; simp; omega
      · rw [if_neg h0] at hk'; cases hk'
    · rw [← hp]
      unfold cstep upN
      simp only [List.getD_cons_zero, hg]
      split <;> rfl
  | some k =>
    obtain ⟨M', k', h1, h2, h3⟩ := cstep_shift (cls := cls) (pr := pr) [g] M k c (hk k rfl)
    refine ⟨M', some k', fun k hk' => by injection hk' with e; omega, h2, ?_⟩
    simp only [List.length_singleton, List.singleton_append] at h3
    rw [Nat.add_comm 1 k, Nat.add_comm 1 k'] at h3
    exact h3
theorem foldl_gap {g : Int} (hg : ∀ x, pr g x = none) : ∀ (b M : List Int) (la : Option Nat), (∀ k, la = some k → k < M.length) → (b.foldl (cstep cls pr) (g :: M, upN la)).1 = g :: (b.foldl (cstep cls pr) (M, la)).1
  | [], M, la, _ => rfl
  | c :: b, M, la, hk => by
    obtain ⟨M1, la1, h1, e1, e2⟩ := cstep_gap (cls := cls) hg M la c hk
    simp only [List.foldl_cons, e1, e2]
    exact foldl_gap hg b M1 la1 h1
/-- A gap parts the work, and stays. -/
theorem compT_gap (a : List Int) {g : Int} (b : List Int) (hs : cls g = 0) (hp : ∀ x, pr x g = none) (hg : ∀ x, pr g x = none) : compT cls pr (a ++ g :: b) = compT cls pr a ++ g :: compT cls pr b := by
  rw [compT_join a b hs hp]
  congr 1
  unfold compT compFold
  rw [List.foldl_cons, cstep_fresh hs hp]
  exact foldl_gap hg b [] none (fun k h => by cases h)
theorem compT_one (c : Int) : compT cls pr [c] = [c] := rfl
theorem compT_nil : compT cls pr [] = [] := rfl
theorem compT_gaps {g : Int} (hs : cls g = 0) (hp : ∀ x, pr x g = none) (hg : ∀ x, pr g x = none) (G : Int → List Int) : ∀ codes : List Int, compT cls pr (codes.flatMap fun c => G c ++ [g]) = codes.flatMap fun c => compT cls pr (G c) ++ [g]
  | [] => rfl
  | c :: r => by
    rw [List.flatMap_cons, List.flatMap_cons, List.append_assoc, List.singleton_append, compT_gap _ _ hs hp hg, compT_gaps hs hp hg G r]
    simp
theorem sortT_gaps {g : Int} (hs : cls g = 0) (G : Int → List Int) : ∀ codes : List Int, sortT cls (codes.flatMap fun c => G c ++ [g]) = codes.flatMap fun c => sortT cls (G c) ++ [g]
  | [] => sortT_nil
  | c :: r => by
    rw [List.flatMap_cons, List.flatMap_cons, List.append_assoc, List.singleton_append, sortT_join _ _ hs, sortT_start hs, sortT_gaps hs G r]
    simp
end
end Go.Proofs.YtbhglkofaendjaaGreatDoor
namespace Go.Proofs.YtbhglkofaendjaaGreatDoor

def cpOf (form : Int) : Bool := decide (form = 3 ∨ form = 4)
def comps (form : Int) : Bool := decide (form = 1 ∨ form = 3)
theorem formOf_known (n : Nrm) {form : Int} (h : ¬ (form < 1 ∨ 4 < form)) (t : List Int) : formOf n form t = if comps form = true then compN n (textOf n (cpOf form) t) else textOf n (cpOf form) t := by
  rcases form_cases form with e | e | e | e | e
  · subst e; rw [formOf_1]; simp [comps, cpOf]
  · subst e; rw [formOf_2]; simp [comps, cpOf]
  · subst e; rw [formOf_3]; simp [comps, cpOf]
  · subst e; rw [formOf_4]; simp [comps, cpOf]
  · exact absurd e h
theorem form_text (n : Nrm) {form : Int} (h : ¬ (form < 1 ∨ 4 < form)) (t : List Int) : textOf n (cpOf form) (formOf n form t) = textOf n (cpOf form) t := by
  rcases form_cases form with e | e | e | e | e
  · rw [show cpOf form = false by simp [cpOf, e]]; exact form_d n (.inl e) t
  · rw [show cpOf form = false by simp [cpOf, e]]; exact form_d n (.inr e) t
  · rw [show cpOf form = true by simp [cpOf, e]]; exact form_kd n (by omega) (by omega) t
  · rw [show cpOf form = true by simp [cpOf, e]]; exact form_kd n (by omega) (by omega) t
  · exact absurd e h
theorem form_congr (n : Nrm) {form : Int} (h : ¬ (form < 1 ∨ 4 < form)) {a b : List Int} (e : textOf n (cpOf form) a = textOf n (cpOf form) b) : formOf n form a = formOf n form b := by
  rw [formOf_known n h, formOf_known n h, e]
theorem req_of_sort {cls : Int → Int} {xs ys : List Int} (h : sortT cls xs = sortT cls ys) : REq cls xs ys := by
  have h1 := REq.sort (cls := cls) xs
  rw [h] at h1
  exact h1.trans (REq.sort ys).symm
theorem text_append (n : Nrm) (cp : Bool) {a a' b b' : List Int} (ha : textOf n cp a = textOf n cp a') (hb : textOf n cp b = textOf n cp b') : textOf n cp (a ++ b) = textOf n cp (a' ++ b') := by
  simp only [textOf_eq, textE_eq, List.flatMap_append] at ha hb ⊢
  exact sortT_congr (REq.append (req_of_sort ha) (req_of_sort hb))
/-- Forms of parts do not change the form of the whole. -/
theorem form_append (n : Nrm) (form : Int) (a b : List Int) : formOf n form (formOf n form a ++ formOf n form b) = formOf n form (a ++ b) := by
  by_cases h : form < 1 ∨ 4 < form
  · rw [formOf_0 n h, formOf_0 n h, formOf_0 n h, formOf_0 n h]
  · exact form_congr n h (text_append n _ (form_text n h a) (form_text n h b))
theorem form_append_left (n : Nrm) (form : Int) (a b : List Int) : formOf n form (formOf n form a ++ b) = formOf n form (a ++ b) := by
  by_cases h : form < 1 ∨ 4 < form
  · rw [formOf_0 n h, formOf_0 n h, formOf_0 n h]
  · exact form_congr n h (text_append n _ (form_text n h a) rfl)
theorem form_append_right (n : Nrm) (form : Int) (a b : List Int) : formOf n form (a ++ formOf n form b) = formOf n form (a ++ b) := by
  by_cases h : form < 1 ∨ 4 < form
  · rw [formOf_0 n h, formOf_0 n h, formOf_0 n h]
  · exact form_congr n h (text_append n _ rfl (form_text n h b))
theorem textOf_nil (n : Nrm) (cp : Bool) : textOf n cp [] = [] := by rw [textOf_eq, textE_eq]; exact sortT_nil
theorem form_nil (n : Nrm) (form : Int) : formOf n form [] = [] := by
  by_cases h : form < 1 ∨ 4 < form
  · rw [formOf_0 n h]
  · rw [formOf_known n h, textOf_nil]; split <;> rfl

open Classical in
/-- Whether a number is the second element of a pair. -/
noncomputable def secondB (n : Nrm) (x : Int) : Bool := decide (∃ a, (pairOf n a x).isSome = true)
open Classical in
theorem secondB_iff {n : Nrm} {x : Int} : secondB n x = true ↔ ∃ a, (pairOf n a x).isSome = true := by unfold secondB; exact decide_eq_true_iff
open Classical in
theorem secondB_false {n : Nrm} {x : Int} (h : secondB n x = false) (a : Int) : pairOf n a x = none := by
  have h1 := of_decide_eq_false h
  cases hp : pairOf n a x with
  | none => rfl
  | some v => exact absurd ⟨a, by rw [hp]; rfl⟩ h1
/-- Whether an element is a boundary of a form. -/
noncomputable def boundB (n : Nrm) (form c : Int) : Bool :=
  if form < 1 ∨ 4 < form then true else match fullOf (usableN n).decomp (cpOf form) c with
    | [] => false
    | s :: _ => decide (classOf (usableN n).classes s = 0) && !(comps form && secondB (usableN n) s)
theorem form_join (n : Nrm) {form c : Int} (h : boundB n form c = true) (a r : List Int) : formOf n form (a ++ c :: r) = formOf n form a ++ formOf n form (c :: r) := by
  by_cases hf : form < 1 ∨ 4 < form
  · rw [formOf_0 n hf, formOf_0 n hf, formOf_0 n hf]
  · unfold boundB at h
    rw [if_neg hf] at h
    cases hF : fullOf (usableN n).decomp (cpOf form) c with
    | nil => rw [hF] at h; cases h
    | cons s t =>
      rw [hF] at h
      simp only [Bool.and_eq_true, decide_eq_true_eq] at h
      obtain ⟨hs, hn⟩ := h
      have hj : textOf n (cpOf form) (a ++ c :: r) = textOf n (cpOf form) a ++ textOf n (cpOf form) (c :: r) := by
        rw [textOf_eq, textOf_eq, textOf_eq]; exact textE_joins hF hs
      rw [formOf_known n hf, formOf_known n hf, formOf_known n hf, hj]
      by_cases hc : comps form = true
      · rw [if_pos hc, if_pos hc, if_pos hc]
        have hb : secondB (usableN n) s = false := by simpa [hc] using hn
        obtain ⟨D, hD⟩ : ∃ D, textOf n (cpOf form) (c :: r) = s :: D := ⟨_, by rw [textOf_eq, textE_eq, List.flatMap_cons, hF, List.cons_append, sortT_start hs]⟩
        rw [hD]
        exact compT_join _ _ hs (fun x => secondB_false hb x)
      · rw [if_neg hc, if_neg hc, if_neg hc]

section
variable {cls : Int → Int} {pr : Int → Int → Option Int}
theorem cstep_all {P : Int → Prop} (hp : ∀ a b v, P a → P b → pr a b = some v → P v) {st : List Int × Option Nat} {c : Int} (hst : ∀ x ∈ st.1, P x) (hk : ∀ k, st.2 = some k → k < st.1.length) (hc : P c) : (∀ x ∈ (cstep cls pr st c).1, P x) ∧ ∀ k, (cstep cls pr st c).2 = some k → k < (cstep cls pr st c).1.length := by
  obtain ⟨L, la⟩ := st
  simp only at hst hk
  have hpush : (∀ x ∈ (cpush cls (L, la) c).1, P x) ∧ ∀ k, (cpush cls (L, la) c).2 = some k → k < (cpush cls (L, la) c).1.length := by
    unfold cpush
    simp only [List.mem_append, List.mem_singleton, List.length_append, List.length_singleton]
    refine ⟨fun x hx => ?_, fun k h => ?_⟩
    · rcases hx with hx | hx
      · exact hst x hx
      · rw [hx]; exact hc
    · by_cases h0 : cls c = 0
      · rw [if_pos h0] at h; injection h with h; omega
      · rw [if_neg h0] at h; have := hk k h; omega
  cases la with
  | none => exact hpush
  | some k =>
    unfold cstep
    simp only
    split
    · exact hpush
    · cases hpr : pr (L.getD k 0) c with
      | none => exact hpush
      | some v =>
        have hkl := hk k rfl
        refine ⟨fun x hx => ?_, fun k' h => by simp only [List.length_set]; injection h with h; omega⟩
        rcases List.mem_or_eq_of_mem_set hx with hx | hx
        · exact hst x hx
        · rw [hx]
          refine hp _ _ _ ?_ hc hpr
          rw [List.getD_eq_getElem?_getD, List.getElem?_eq_getElem hkl]
          exact hst _ (List.getElem_mem hkl)
theorem foldl_all {P : Int → Prop} (hp : ∀ a b v, P a → P b → pr a b = some v → P v) : ∀ (b : List Int) (st : List Int × Option Nat), (∀ x ∈ st.1, P x) → (∀ k, st.2 = some k → k < st.1.length) → (∀ x ∈ b, P x) → ∀ x ∈ (b.foldl (cstep cls pr) st).1, P x
  | [], _, h, _, _ => h
  | c :: b, st, h, hk, hb => by
    obtain ⟨h1, h2⟩ := cstep_all hp h hk (hb c (List.mem_cons_self ..))
    exact foldl_all hp b _ h1 h2 (fun x hx => hb x (List.mem_cons_of_mem _ hx))
theorem compT_all {P : Int → Prop} (hp : ∀ a b v, P a → P b → pr a b = some v → P v) {D : List Int} (hD : ∀ x ∈ D, P x) : ∀ x ∈ compT cls pr D, P x :=
  foldl_all hp D ([], none) (fun x hx => by simp at hx) (fun k h => by cases h) hD
end

theorem form_ne (n : Nrm) {form : Int} (h : ¬ (form < 1 ∨ 4 < form)) (t : List Int) : ∀ e ∈ formOf n form t, fullOf (usableN n).decomp (cpOf form) e ≠ [] := by
  have hd : ∀ e ∈ textOf n (cpOf form) t, fullOf (usableN n).decomp (cpOf form) e ≠ [] := fun e he => by
    rw [full_fix (usableN_full n _) (d_none n _ t e he)]; simp
  rw [formOf_known n h]
  split
  · refine compT_all (fun a b v ha hb hv => ?_) hd
    rw [pair_full (usableN_good n) (usableN_full n _) a b v hv]
    simp [ha]
  · exact hd
theorem flat_nil_ {F : Int → List Int} : ∀ {l : List Int}, (∀ e ∈ l, F e ≠ []) → (l.flatMap F).length = 0 → l = []
  | [], _, _ => rfl
  | x :: r, h, h0 => by
    rw [List.flatMap_cons, List.length_append] at h0
    exact absurd (List.eq_nil_of_length_eq_zero (by omega)) (h x (List.mem_cons_self ..))
theorem textOf_len (n : Nrm) (cp : Bool) (t : List Int) : (textOf n cp t).length = (t.flatMap (fullOf (usableN n).decomp cp)).length := by
  rw [textOf_eq]
  unfold textE
  rw [sortRuns_length]
/-- The parts of a normalized text are normalized. -/
theorem form_parts (n : Nrm) (form : Int) {p q : List Int} (h : formOf n form (p ++ q) = p ++ q) (hj : formOf n form (p ++ q) = formOf n form p ++ formOf n form q) : formOf n form p = p ∧ formOf n form q = q := by
  by_cases hf : form < 1 ∨ 4 < form
  · exact ⟨formOf_0 n hf p, formOf_0 n hf q⟩
  · have hN : ∀ e ∈ p ++ q, fullOf (usableN n).decomp (cpOf form) e ≠ [] := by rw [← h]; exact form_ne n hf _
    have hl : ((formOf n form p).flatMap (fullOf (usableN n).decomp (cpOf form))).length = (p.flatMap (fullOf (usableN n).decomp (cpOf form))).length := by
      rw [← textOf_len, ← textOf_len, form_text n hf]
    have e := hj.symm.trans h
    rcases List.append_eq_append_iff.1 e with ⟨a', h1, h2⟩ | ⟨c', h1, h2⟩
    · have h0 : (a'.flatMap (fullOf (usableN n).decomp (cpOf form))).length = 0 := by
        have h3 := congrArg (fun l => (l.flatMap (fullOf (usableN n).decomp (cpOf form))).length) h1
        simp only [List.flatMap_append, List.length_append] at h3
        omega
      have ha := flat_nil_ (fun e he => hN e (List.mem_append_left _ (by rw [h1]; exact List.mem_append_right _ he))) h0
      subst ha
      exact ⟨by simpa using h1.symm, by simpa using h2⟩
    · have h0 : (c'.flatMap (fullOf (usableN n).decomp (cpOf form))).length = 0 := by
        have h3 := congrArg (fun l => (l.flatMap (fullOf (usableN n).decomp (cpOf form))).length) h1
        simp only [List.flatMap_append, List.length_append] at h3
        omega
      have ha := flat_nil_ (fun e he => hN e (List.mem_append_right _ (by rw [h2]; exact List.mem_append_left _ he))) h0
      subst ha
      exact ⟨by simpa using h1, by simpa using h2.symm⟩
theorem form_front (n : Nrm) (form : Int) {p q text : List Int} (e : text = p ++ q) (hn : formOf n form text = text) (hq : p = [] ∨ q = [] ∨ ∃ c r, q = c :: r ∧ boundB n form c = true) : formOf n form p = p ∧ formOf n form q = q := by
  subst e
  rcases hq with h | h | ⟨c, r, h, hb⟩
  · subst h; exact ⟨form_nil n form, by simpa using hn⟩
  · subst h; exact ⟨by simpa using hn, form_nil n form⟩
  · subst h; exact form_parts n form hn (form_join n hb p r)
theorem form_split (n : Nrm) (form : Int) (p q : List Int) (hq : p = [] ∨ q = [] ∨ ∃ c r, q = c :: r ∧ boundB n form c = true) : formOf n form (p ++ q) = formOf n form p ++ formOf n form q := by
  rcases hq with h | h | ⟨c, r, h, hb⟩
  · subst h; rw [form_nil]; rfl
  · subst h; rw [form_nil, List.append_nil, List.append_nil]
  · subst h; exact form_join n hb p r

/-- The indices of elements. -/
def bnds (p : Int → Bool) : Nat → List Int → List Nat
  | _, [] => []
  | i, c :: t => if p c = true then i :: bnds p (i + 1) t else bnds p (i + 1) t
theorem bnds_snoc (p : Int → Bool) (c : Int) : ∀ (t : List Int) (i : Nat), bnds p i (t ++ [c]) = bnds p i t ++ if p c = true then [i + t.length] else []
  | [], i => by simp [bnds]
  | d :: t, i => by
    rw [List.cons_append, bnds, bnds, bnds_snoc p c t, List.length_cons, show i + 1 + t.length = i + (t.length + 1) by omega]
    split <;> simp
theorem bnds_length (p : Int → Bool) : ∀ (t : List Int) (i : Nat), (bnds p i t).length ≤ t.length
  | [], _ => Nat.le_refl _
  | c :: t, i => by
    have := bnds_length p t (i + 1)
    unfold bnds
    split <;> simp <;> omega
def lastBd (p : Int → Bool) (t : List Int) : Nat := (bnds p 0 t).getLastD 0
def firstBd (p : Int → Bool) (t : List Int) : Nat := (bnds p 0 t).headD t.length
theorem lastBd_snoc (p : Int → Bool) (t : List Int) (c : Int) : lastBd p (t ++ [c]) = if p c = true then t.length else lastBd p t := by
  unfold lastBd
  rw [bnds_snoc]
  split
  · simp [List.getLastD_eq_getLast?]
  · simp
theorem lastBd_spec (p : Int → Bool) : ∀ (m : Nat) (t : List Int), t.length = m → lastBd p t ≤ t.length ∧ (lastBd p t < t.length ∨ t.length = 0) ∧ (lastBd p t = 0 ∨ ∃ c r, t.drop (lastBd p t) = c :: r ∧ p c = true) ∧ ∀ i c, lastBd p t < i → t[i]? = some c → p c = false := by
  intro m
  induction m with
  | zero =>
    intro t ht
    have : t = [] := List.eq_nil_of_length_eq_zero ht
    subst this
    exact ⟨by simp [lastBd, bnds], .inr rfl, .inl (by simp [lastBd, bnds]), fun i c _ h => by simp at h⟩
  | succ m ih =>
    intro t ht
    rcases nil_or_snoc t with e | ⟨u, c, e⟩
    · subst e; simp at ht
    · subst e
      have hu : u.length = m := by simpa using ht
      obtain ⟨h1, h2, h3, h4⟩ := ih u hu
      rw [lastBd_snoc]
      by_cases hc : p c = true
      · rw [if_pos hc]
        refine ⟨by simp, .inl (by simp), .inr ⟨c, [], by simp, hc⟩, fun i d hi hd => ?_⟩
        have := lt_of_getElem?_some hd
        simp at this
        omega
      · rw [if_neg hc]
        refine ⟨by simp; omega, .inl (by simp; omega), ?_, fun i d hi hd => ?_⟩
        · rcases h3 with h3 | ⟨c', r, h3, h5⟩
          · exact .inl h3
          · exact .inr ⟨c', r ++ [c], by rw [List.drop_append_of_le_length h1, h3]; rfl, h5⟩
        · rcases Nat.lt_or_ge i u.length with hl | hl
          · rw [List.getElem?_append_left hl] at hd
            exact h4 i d hi hd
          · have := lt_of_getElem?_some hd
            simp at this
            have e : i = u.length := by omega
            subst e
            simp at hd
            subst hd
            simpa using hc
theorem first_spec (p : Int → Bool) : ∀ (t : List Int) (i : Nat), ∃ k, k ≤ t.length ∧ (bnds p i t).headD (i + t.length) = i + k ∧ (∀ j c, j < k → t[j]? = some c → p c = false) ∧ (k = t.length ∨ ∃ c r, t.drop k = c :: r ∧ p c = true)
  | [], i => ⟨0, Nat.le_refl _, by simp [bnds], fun j c h => by omega, .inl rfl⟩
  | d :: t, i => by
    by_cases hd : p d = true
    · exact ⟨0, Nat.zero_le _, by simp [bnds, hd], fun j c h => by omega, .inr ⟨d, t, rfl, hd⟩⟩
    · obtain ⟨k, h1, h2, h3, h4⟩ := first_spec p t (i + 1)
      refine ⟨k + 1, by simp; omega, ?_, fun j c hj hc => ?_, ?_⟩
      · rw [bnds, if_neg hd, List.length_cons, show i + (t.length + 1) = i + 1 + t.length by omega, h2]; omega
      · cases j with
        | zero => simp at hc; subst hc; simpa using hd
        | succ j => exact h3 j c (by omega) (by simpa using hc)
      · rcases h4 with h4 | ⟨c, r, h4, h5⟩
        · exact .inl (by simp; omega)
        · exact .inr ⟨c, r, by simpa using h4, h5⟩
theorem firstBd_spec (p : Int → Bool) (t : List Int) : firstBd p t ≤ t.length ∧ (∀ j c, j < firstBd p t → t[j]? = some c → p c = false) ∧ (firstBd p t = t.length ∨ ∃ c r, t.drop (firstBd p t) = c :: r ∧ p c = true) := by
  obtain ⟨k, h1, h2, h3, h4⟩ := first_spec p t 0
  have e : firstBd p t = k := by unfold firstBd; simpa using h2
  rw [e]
  exact ⟨h1, h3, h4⟩

/-- Texts joined: what lies between the edges is normalized. -/
noncomputable def joinM (n : Nrm) (form : Int) (a m b : List Int) : List Int :=
  a.take (lastBd (boundB n form) a) ++ (formOf n form (a.drop (lastBd (boundB n form) a) ++ m ++ b.take (firstBd (boundB n form) b)) ++ b.drop (firstBd (boundB n form) b))
theorem edge_left (n : Nrm) (form : Int) (a rest : List Int) : a.take (lastBd (boundB n form) a) = [] ∨ a.drop (lastBd (boundB n form) a) ++ rest = [] ∨ ∃ c r, a.drop (lastBd (boundB n form) a) ++ rest = c :: r ∧ boundB n form c = true := by
  obtain ⟨_, _, h, _⟩ := lastBd_spec (boundB n form) a.length a rfl
  rcases h with h | ⟨c, r, h, hb⟩
  · exact .inl (by rw [h]; rfl)
  · exact .inr (.inr ⟨c, r ++ rest, by rw [h]; rfl, hb⟩)
theorem edge_right (n : Nrm) (form : Int) (p b : List Int) : p = [] ∨ b.drop (firstBd (boundB n form) b) = [] ∨ ∃ c r, b.drop (firstBd (boundB n form) b) = c :: r ∧ boundB n form c = true := by
  obtain ⟨_, _, h⟩ := firstBd_spec (boundB n form) b
  rcases h with h | h
  · exact .inr (.inl (by rw [h]; exact List.drop_length))
  · exact .inr (.inr h)
theorem join_split (n : Nrm) (form : Int) (a m b : List Int) : formOf n form (a ++ m ++ b) = formOf n form (a.take (lastBd (boundB n form) a)) ++ (formOf n form (a.drop (lastBd (boundB n form) a) ++ m ++ b.take (firstBd (boundB n form) b)) ++ formOf n form (b.drop (firstBd (boundB n form) b))) := by
  have e : a ++ m ++ b = a.take (lastBd (boundB n form) a) ++ (a.drop (lastBd (boundB n form) a) ++ (m ++ b)) := by rw [← List.append_assoc (a.take _), List.take_append_drop, List.append_assoc]
  have e2 : a.drop (lastBd (boundB n form) a) ++ (m ++ b) = (a.drop (lastBd (boundB n form) a) ++ m ++ b.take (firstBd (boundB n form) b)) ++ b.drop (firstBd (boundB n form) b) := by rw [List.append_assoc _ (b.take _), List.take_append_drop, List.append_assoc]
  rw [e, form_split n form _ _ (edge_left n form a _), e2, form_split n form _ _ (edge_right n form _ b)]
/-- The normalized text, edited, is the form of the edited text. -/
theorem replace_form (n : Nrm) (form : Int) {text : List Int} (hn : formOf n form text = text) (i j : Nat) (ins : List Int) : joinM n form (text.take i) ins (text.drop j) = formOf n form (text.take i ++ ins ++ text.drop j) := by
  rw [join_split]
  have e1 : text = (text.take i).take (lastBd (boundB n form) (text.take i)) ++ ((text.take i).drop (lastBd (boundB n form) (text.take i)) ++ text.drop i) := by rw [← List.append_assoc, List.take_append_drop, List.take_append_drop]
  have e2 : text = (text.take j ++ (text.drop j).take (firstBd (boundB n form) (text.drop j))) ++ (text.drop j).drop (firstBd (boundB n form) (text.drop j)) := by rw [List.append_assoc, List.take_append_drop, List.take_append_drop]
  rw [(form_front n form e1 hn (edge_left n form _ _)).1, (form_front n form e2 hn (edge_right n form _ _)).2]
  rfl
theorem join_form (n : Nrm) (form : Int) {a b : List Int} (ha : formOf n form a = a) (hb : formOf n form b = b) (m : List Int) : joinM n form a m b = formOf n form (a ++ m ++ b) := by
  rw [join_split]
  have e1 : a = a.take (lastBd (boundB n form) a) ++ (a.drop (lastBd (boundB n form) a) ++ []) := by rw [List.append_nil, List.take_append_drop]
  have e2 : b = b.take (firstBd (boundB n form) b) ++ b.drop (firstBd (boundB n form) b) := by rw [List.take_append_drop]
  rw [(form_front n form e1 ha (edge_left n form _ _)).1, (form_front n form e2 hb (edge_right n form _ _)).2]
  rfl
end Go.Proofs.YtbhglkofaendjaaGreatDoor
namespace Go.Proofs.YtbhglkofaendjaaGreatDoor

section
variable {cls : Int → Int} {pr : Int → Int → Option Int} {F : Int → List Int}
theorem getLastD_snc (l : List Int) (c : Int) : (l ++ [c]).getLastD 0 = c := by simp [List.getLastD_eq_getLast?]
theorem ordd_snoc {l : List Int} {c : Int} (h : Ordd cls l) (hl : ∀ y, l.getLast? = some y → cls c = 0 ∨ cls y ≤ cls c) : Ordd cls (l ++ [c]) := by
  rcases List.eq_nil_or_concat l with e | ⟨u, y, e⟩
  · subst e; trivial
  · rw [List.concat_eq_append] at e
    subst e
    rw [List.append_assoc]
    exact ordd_mid.2 ⟨h, hl y (by simp), trivial⟩
theorem ordd_last {l r : List Int} {c : Int} (h : Ordd cls (l ++ c :: r)) {y : Int} (hy : l.getLast? = some y) : cls c = 0 ∨ cls y ≤ cls c := by
  rcases List.eq_nil_or_concat l with e | ⟨u, y', e⟩
  · subst e; simp at hy
  · rw [List.concat_eq_append] at e
    subst e
    have e2 : y' = y := by simpa using hy
    subst e2
    rw [List.append_assoc] at h
    exact (ordd_mid.1 h).2.1
theorem ordd_replace (hn : ∀ x, 0 ≤ cls x) {s v : Int} (hv : cls v = 0) {tail : List Int} : ∀ {A : List Int}, Ordd cls (A ++ s :: tail) → Ordd cls (A ++ v :: tail)
  | [], h => ordd_start hn hv h.tail
  | [_a], h => ⟨.inl hv, ordd_start hn hv h.2.tail⟩
  | _a :: b :: A, h => ⟨h.1, ordd_replace hn hv (A := b :: A) h.2⟩

/-- What holds of the state of composing behind a part of a text in order. -/
structure QInv (cls : Int → Int) (pr : Int → Int → Option Int) (F : Int → List Int) (p : List Int) (st : List Int × Option Nat) : Prop where
  els : ∀ x ∈ st.1, Ordd cls (F x) ∧ compT cls pr (F x) = [x]
  ord : Ordd cls st.1
  lst : ∀ y, st.1.getLast? = some y → cls y = 0 ∨ ∃ z, p.getLast? = some z ∧ cls z ≠ 0 ∧ cls y ≤ cls z
  cur : ∀ k, st.2 = some k → ∃ A s tail, st.1 = A ++ s :: tail ∧ A.length = k ∧ cls s = 0 ∧ compFold cls pr (F s) = ([s], some 0) ∧ (∀ y, (F s).getLast? = some y → cls y = 0 ∨ ∃ z, p.getLast? = some z ∧ cls z ≠ 0 ∧ cls y ≤ cls z)
theorem QInv.nil : QInv cls pr F [] ([], none) := ⟨fun x hx => by simp at hx, trivial, fun y hy => by simp at hy, fun k hk => by cases hk⟩
theorem le_next (hn : ∀ x, 0 ≤ cls x) {p : List Int} {c y : Int} (hadj : ∀ z, p.getLast? = some z → cls c = 0 ∨ cls z ≤ cls c) (h : cls y = 0 ∨ ∃ z, p.getLast? = some z ∧ cls z ≠ 0 ∧ cls y ≤ cls z) : cls c = 0 ∨ cls y ≤ cls c := by
  rcases h with h | ⟨z, hz, _, hyz⟩
  · exact .inr (by rw [h]; exact hn c)
  · rcases hadj z hz with e | e
    · exact .inl e
    · exact .inr (Int.le_trans hyz e)
theorem last_c (p : List Int) (c : Int) : cls c = 0 ∨ ∃ z, (p ++ [c]).getLast? = some z ∧ cls z ≠ 0 ∧ cls c ≤ cls z := by
  by_cases h : cls c = 0
  · exact .inl h
  · exact .inr ⟨c, by simp, h, Int.le_refl _⟩
theorem QInv.push (hn : ∀ x, 0 ≤ cls x) {p : List Int} {st : List Int × Option Nat} (h : QInv cls pr F p st) {c : Int} (hc : F c = [c]) (hadj : ∀ z, p.getLast? = some z → cls c = 0 ∨ cls z ≤ cls c) : QInv cls pr F (p ++ [c]) (cpush cls st c) := by
  obtain ⟨L, la⟩ := st
  have hel := h.els
  have hor := h.ord
  have hls := h.lst
  have hcu := h.cur
  simp only at hel hor hls hcu
  refine ⟨fun x hx => ?_, ?_, fun y hy => ?_, fun k hk => ?_⟩
  · simp only [cpush, List.mem_append, List.mem_singleton] at hx
    rcases hx with hx | hx
    · exact hel x hx
    · rw [hx, hc]; exact ⟨trivial, rfl⟩
  · exact ordd_snoc hor (fun y hy => le_next hn hadj (hls y hy))
  · have e : c = y := by simpa [cpush] using hy
    rw [← e]; exact last_c p c
  · simp only [cpush] at hk ⊢
    by_cases h0 : cls c = 0
    · rw [if_pos h0] at hk
      injection hk with hk
      refine ⟨L, c, [], rfl, hk, h0, ?_, fun y hy => ?_⟩
      · rw [hc]; simp [compFold, cstep, cpush, h0]
      · rw [hc] at hy
        have e : c = y := by simpa using hy
        rw [← e]; exact .inl h0
    · rw [if_neg h0] at hk
      obtain ⟨A, s, tail, e, hA, hs, hf, hl⟩ := hcu k hk
      refine ⟨A, s, tail ++ [c], by rw [e]; simp, hA, hs, hf, fun y hy => ?_⟩
      rcases hl y hy with h1 | ⟨z, hz, hz0, hyz⟩
      · exact .inl h1
      · rcases hadj z hz with e1 | e1
        · exact absurd e1 h0
        · exact .inr ⟨c, by simp, h0, Int.le_trans hyz e1⟩
theorem QInv.step (hn : ∀ x, 0 ≤ cls x) (hp : ∀ a b v, pr a b = some v → F v = F a ++ F b ∧ cls v = 0) {p : List Int} {st : List Int × Option Nat} (h : QInv cls pr F p st) {c : Int} (hc : F c = [c]) (hadj : ∀ z, p.getLast? = some z → cls c = 0 ∨ cls z ≤ cls c) : QInv cls pr F (p ++ [c]) (cstep cls pr st c) := by
  have hpush := h.push hn hc hadj
  obtain ⟨L, la⟩ := st
  cases la with
  | none => exact hpush
  | some k =>
    unfold cstep
    simp only
    split
    · exact hpush
    · rename_i hblk
      cases hpr : pr (L.getD k 0) c with
      | none => exact hpush
      | some v =>
        obtain ⟨A, s, tail, e, hA, hs, hf, hl⟩ := h.cur k rfl
        have hel := h.els
        have hor := h.ord
        have hls := h.lst
        simp only at e hel hor hls
        subst e
        have hgs : (A ++ s :: tail).getD k 0 = s := by
          rw [List.getD_eq_getElem?_getD, List.getElem?_append_right (by omega)]
          simp [← hA]
        rw [hgs] at hpr
        obtain ⟨hFv, hv⟩ := hp s c v hpr
        rw [hc] at hFv
        have hset : (A ++ s :: tail).set k v = A ++ v :: tail := by
          rw [List.set_append_right _ _ (by omega)]
          simp [← hA]
        have hcv : compFold cls pr (F v) = ([v], some 0) := by
          rw [hFv, compFold_snoc, hf]
          simp [cstep, hpr]
        simp only
        rw [hset]
        refine ⟨fun x hx => ?_, ordd_replace hn hv hor, fun y hy => ?_, fun k' hk' => ?_⟩
        · simp only [List.mem_append, List.mem_cons] at hx
          rcases hx with hx | hx | hx
          · exact hel x (by simp [hx])
          · rw [hx]
            refine ⟨?_, by unfold compT; rw [hcv]⟩
            rw [hFv]
            exact ordd_snoc (hel s (by simp)).1 (fun y hy => le_next hn hadj (hl y hy))
          · exact hel x (by simp [hx])
        · rcases List.eq_nil_or_concat tail with et | ⟨u, y', et⟩
          · subst et
            have e2 : v = y := by simpa using hy
            rw [← e2]; exact .inl hv
          · rw [List.concat_eq_append] at et
            subst et
            have e2 : y' = y := by
              rw [show A ++ v :: (u ++ [y']) = (A ++ v :: u) ++ [y'] by simp, List.getLast?_concat] at hy
              injection hy
            subst e2
            have hlt : cls y' < cls c := by
              have h1 : (A ++ s :: (u ++ [y'])).getLastD 0 = y' := by
                rw [← List.cons_append, ← List.append_assoc, getLastD_snc]
              rw [h1] at hblk
              rcases Int.lt_or_le (cls y') (cls c) with h2 | h2
              · exact h2
              · exact absurd ⟨by simp; omega, h2⟩ hblk
            have h0 := hn y'
            exact .inr ⟨c, by simp, by omega, by omega⟩
        · injection hk' with hk'
          refine ⟨A, v, tail, rfl, by omega, hv, hcv, fun y hy => ?_⟩
          rw [hFv] at hy
          have e2 : c = y := by simpa using hy
          rw [← e2]; exact last_c p c
theorem QInv.all (hn : ∀ x, 0 ≤ cls x) (hp : ∀ a b v, pr a b = some v → F v = F a ++ F b ∧ cls v = 0) : ∀ (r p : List Int) (st : List Int × Option Nat), QInv cls pr F p st → (∀ x ∈ r, F x = [x]) → Ordd cls (p ++ r) → QInv cls pr F (p ++ r) (r.foldl (cstep cls pr) st)
  | [], p, st, h, _, _ => by rw [List.append_nil]; exact h
  | c :: r, p, st, h, hf, ho => by
    have h1 := h.step hn hp (hf c (List.mem_cons_self ..)) (fun z hz => ordd_last ho hz)
    have e : p ++ c :: r = (p ++ [c]) ++ r := by simp
    rw [e] at ho ⊢
    exact QInv.all hn hp r (p ++ [c]) _ h1 (fun x hx => hf x (List.mem_cons_of_mem _ hx)) ho
/-- A composed text: each element is its own form, and the text is in order. -/
theorem comp_quick (hn : ∀ x, 0 ≤ cls x) (hp : ∀ a b v, pr a b = some v → F v = F a ++ F b ∧ cls v = 0) {D : List Int} (hD : ∀ x ∈ D, F x = [x]) (ho : Ordd cls D) : (∀ x ∈ compT cls pr D, Ordd cls (F x) ∧ compT cls pr (F x) = [x]) ∧ Ordd cls (compT cls pr D) := by
  have h := QInv.all hn hp D [] ([], none) QInv.nil hD (by simpa using ho)
  exact ⟨h.els, h.ord⟩

-- the other way
theorem cstep_mono (st : List Int × Option Nat) (c : Int) : st.1.length ≤ (cstep cls pr st c).1.length := by
  obtain ⟨L, la⟩ := st
  have hpush : ∀ la, L.length ≤ (cpush cls (L, la) c).1.length := fun la => by simp [cpush]
  cases la with
  | none => exact hpush _
  | some k =>
    unfold cstep
    simp only
    split
    · exact hpush _
    · split
      · simp
      · exact hpush _
theorem foldl_mono : ∀ (b : List Int) (st : List Int × Option Nat), st.1.length ≤ (b.foldl (cstep cls pr) st).1.length
  | [], _ => Nat.le_refl _
  | c :: b, st => Nat.le_trans (cstep_mono st c) (foldl_mono b _)
theorem cstep_one (v c : Int) : cstep cls pr ([v], some 0) c = match pr v c with
    | some v' => ([v'], some 0)
    | none => cpush cls ([v], some 0) c := by
  unfold cstep
  simp
  cases pr v c <;> rfl
theorem fold_head {v e s : Int} {t : List Int} {la : Option Nat} (h : (e :: t).foldl (cstep cls pr) ([v], some 0) = ([s], la)) : ∃ v', pr v e = some v' ∧ t.foldl (cstep cls pr) ([v'], some 0) = ([s], la) := by
  rw [List.foldl_cons, cstep_one] at h
  cases hp : pr v e with
  | some v' => rw [hp] at h; exact ⟨v', rfl, h⟩
  | none =>
    rw [hp] at h
    simp only at h
    have := foldl_mono (cls := cls) (pr := pr) t (cpush cls ([v], some 0) e)
    rw [h] at this
    simp [cpush] at this
theorem fold_chain : ∀ (P Q : List Int) {v s : Int} {la : Option Nat}, (P ++ Q).foldl (cstep cls pr) ([v], some 0) = ([s], la) → ∃ v', P.foldl (cstep cls pr) ([v], some 0) = ([v'], some 0) ∧ Q.foldl (cstep cls pr) ([v'], some 0) = ([s], la)
  | [], _, v, _, _, h => ⟨v, rfl, h⟩
  | e :: P, Q, v, s, la, h => by
    obtain ⟨v1, h1, h2⟩ := fold_head h
    obtain ⟨v2, h3, h4⟩ := fold_chain P Q h2
    refine ⟨v2, ?_, h4⟩
    rw [List.foldl_cons, cstep_one, h1]
    exact h3
theorem fold_class (hp : ∀ a b v, pr a b = some v → cls v = 0) : ∀ (t : List Int) {v s : Int} {la : Option Nat}, cls v = 0 → t.foldl (cstep cls pr) ([v], some 0) = ([s], la) → cls s = 0
  | [], v, s, la, hv, h => by
    have e : v = s := by simpa using congrArg (fun x => x.1) h
    rw [← e]; exact hv
  | e :: t, v, s, la, _, h => by
    obtain ⟨v1, h1, h2⟩ := fold_head h
    exact fold_class hp t (hp _ _ _ h1) h2

/-- Two sorted runs, the first one first where classes are equal. -/
def mrg (cls : Int → Int) : List Int → List Int → List Int
  | [], n => n
  | e :: t, [] => e :: t
  | e :: t, x :: n => if cls e ≤ cls x then e :: mrg cls t (x :: n) else x :: mrg cls (e :: t) n
termination_by a b => a.length + b.length
theorem mrg_mem : ∀ {a b : List Int} {y : Int}, y ∈ mrg cls a b → y ∈ a ∨ y ∈ b
  | [], n, y, h => by rw [mrg] at h; exact .inr h
  | e :: t, [], y, h => by rw [mrg] at h; exact .inl h
  | e :: t, x :: n, y, h => by
    rw [mrg] at h
    split at h
    · rcases List.mem_cons.1 h with h1 | h1
      · exact .inl (by rw [h1]; exact List.mem_cons_self ..)
      · rcases mrg_mem h1 with h2 | h2
        · exact .inl (List.mem_cons_of_mem _ h2)
        · exact .inr h2
    · rcases List.mem_cons.1 h with h1 | h1
      · exact .inr (by rw [h1]; exact List.mem_cons_self ..)
      · rcases mrg_mem h1 with h2 | h2
        · exact .inl h2
        · exact .inr (List.mem_cons_of_mem _ h2)
termination_by a b => a.length + b.length
theorem mrg_srt : ∀ {a b : List Int}, Srt cls a → Srt cls b → Srt cls (mrg cls a b)
  | [], n, _, h => by rw [mrg]; exact h
  | e :: t, [], h, _ => by rw [mrg]; exact h
  | e :: t, x :: n, ha, hb => by
    obtain ⟨a1, a2⟩ := List.pairwise_cons.1 ha
    obtain ⟨b1, b2⟩ := List.pairwise_cons.1 hb
    rw [mrg]
    split
    · rename_i hle
      refine List.pairwise_cons.2 ⟨fun y hy => ?_, mrg_srt a2 hb⟩
      rcases mrg_mem hy with h | h
      · exact a1 y h
      · rcases List.mem_cons.1 h with h | h
        · rw [h]; exact hle
        · exact Int.le_trans hle (b1 y h)
    · rename_i hle
      refine List.pairwise_cons.2 ⟨fun y hy => ?_, mrg_srt ha b2⟩
      rcases mrg_mem hy with h | h
      · rcases List.mem_cons.1 h with h | h
        · rw [h]; omega
        · have := a1 y h; omega
      · exact b1 y h
termination_by a b => a.length + b.length
theorem mrg_keep : ∀ {a b : List Int}, Srt cls a → Srt cls b → Keep cls (a ++ b) (mrg cls a b)
  | [], n, _, h => by rw [mrg]; exact Keep.refl _
  | e :: t, [], h, _ => by rw [mrg, List.append_nil]; exact Keep.refl _
  | e :: t, x :: n, ha, hb => by
    obtain ⟨a1, a2⟩ := List.pairwise_cons.1 ha
    obtain ⟨b1, b2⟩ := List.pairwise_cons.1 hb
    rw [mrg]
    split
    · exact Keep.append (a := [e]) (a' := [e]) (Keep.refl _) (mrg_keep a2 hb)
    · rename_i hle
      have hsw : Keep cls ((e :: t) ++ [x]) ([x] ++ (e :: t)) := Keep.swap (fun u hu v hv => by
        rw [List.mem_singleton.1 hv]
        rcases List.mem_cons.1 hu with h | h
        · rw [h]; omega
        · have := a1 u h; omega)
      have h1 : Keep cls ((e :: t) ++ x :: n) ([x] ++ ((e :: t) ++ n)) := by
        have := Keep.append hsw (Keep.refl n)
        simpa using this
      exact h1.trans (Keep.append (Keep.refl [x]) (mrg_keep ha b2))
termination_by a b => a.length + b.length
theorem step_push {v x : Int} {N : List Int} (h0 : cls x ≠ 0) (hx : pr v x = none) : cstep cls pr (v :: N, some 0) x = (v :: (N ++ [x]), some 0) := by
  have hp : cpush cls (v :: N, some 0) x = (v :: (N ++ [x]), some 0) := by simp [cpush, h0]
  unfold cstep
  simp only [List.getD_cons_zero, hx]
  split <;> exact hp
theorem step_comp {v v' e : Int} {N : List Int} (he : pr v e = some v') (hN : ∀ y, N.getLast? = some y → cls y < cls e) : cstep cls pr (v :: N, some 0) e = (v' :: N, some 0) := by
  unfold cstep
  simp only [List.getD_cons_zero, he]
  rw [if_neg]
  · rfl
  · rintro ⟨h1, h2⟩
    rcases List.eq_nil_or_concat N with e1 | ⟨u, y, e1⟩
    · subst e1; simp at h1
    · rw [List.concat_eq_append] at e1
      subst e1
      rw [← List.cons_append, getLastD_snc] at h2
      have := hN y (by simp)
      omega
theorem foldl_push {v : Int} : ∀ (n N : List Int), (∀ x ∈ n, cls x ≠ 0 ∧ ∀ a, pr a x = none) → n.foldl (cstep cls pr) (v :: N, some 0) = (v :: (N ++ n), some 0)
  | [], N, _ => by simp
  | x :: n, N, h => by
    obtain ⟨h0, h1⟩ := h x (List.mem_cons_self ..)
    rw [List.foldl_cons, step_push h0 (h1 v), foldl_push n (N ++ [x]) (fun y hy => h y (List.mem_cons_of_mem _ hy))]
    simp
theorem seg_merge : ∀ (tail n N : List Int) (v s : Int), tail.foldl (cstep cls pr) ([v], some 0) = ([s], some 0) → Srt cls tail → (∀ x ∈ n, cls x ≠ 0 ∧ ∀ a, pr a x = none) → (∀ e ∈ tail, ∀ y, N.getLast? = some y → cls y < cls e) →
    (mrg cls tail n).foldl (cstep cls pr) (v :: N, some 0) = (s :: (N ++ n), some 0)
  | [], n, N, v, s, hs, _, hn, _ => by
    have e : v = s := by simpa using congrArg (fun x => x.1) hs
    rw [mrg, e]
    exact foldl_push n N hn
  | e :: t, [], N, v, s, hs, ht, hn, hN => by
    obtain ⟨v1, h1, h2⟩ := fold_head hs
    have ih := seg_merge t [] N v1 s h2 (List.pairwise_cons.1 ht).2 hn (fun e' he' => hN e' (List.mem_cons_of_mem _ he'))
    rw [mrg, List.foldl_cons, step_comp h1 (hN e (List.mem_cons_self ..)), ← ih]
    cases t <;> rw [mrg]
  | e :: t, x :: n, N, v, s, hs, ht, hn, hN => by
    rw [mrg]
    split
    · obtain ⟨v1, h1, h2⟩ := fold_head hs
      rw [List.foldl_cons, step_comp h1 (hN e (List.mem_cons_self ..))]
      exact seg_merge t (x :: n) N v1 s h2 (List.pairwise_cons.1 ht).2 hn (fun e' he' => hN e' (List.mem_cons_of_mem _ he'))
    · rename_i hle
      obtain ⟨h0, h1⟩ := hn x (List.mem_cons_self ..)
      rw [List.foldl_cons, step_push h0 (h1 v), seg_merge (e :: t) n (N ++ [x]) v s hs ht (fun y hy => hn y (List.mem_cons_of_mem _ hy)) (fun e' he' y hy => ?_)]
      · simp
      · have e2 : x = y := by simpa using hy
        rw [← e2]
        rcases List.mem_cons.1 he' with h | h
        · rw [h]; omega
        · have := (List.pairwise_cons.1 ht).1 e' h; omega
termination_by tail n => tail.length + n.length
theorem last_starter : ∀ {l : List Int}, (∃ x ∈ l, cls x = 0) → ∃ P u tail, l = P ++ u :: tail ∧ cls u = 0 ∧ ∀ x ∈ tail, cls x ≠ 0
  | [], ⟨x, hx, _⟩ => by simp at hx
  | x :: r, h => by
    by_cases hr : ∃ y ∈ r, cls y = 0
    · obtain ⟨P, u, tail, e, h1, h2⟩ := last_starter hr
      exact ⟨x :: P, u, tail, by rw [e]; rfl, h1, h2⟩
    · obtain ⟨y, hy, h0⟩ := h
      rcases List.mem_cons.1 hy with e | e
      · exact ⟨[], x, r, rfl, by rw [← e]; exact h0, fun z hz h1 => hr ⟨z, hz, h1⟩⟩
      · exact absurd ⟨y, e, h0⟩ hr
theorem sortT_length (xs : List Int) : (sortT cls xs).length = xs.length := by rw [← sortRuns_eq]; exact sortRuns_length cls xs
theorem seg_form {Fs n : List Int} {s : Int} (hc : compT cls pr (sortT cls Fs) = [s]) {h : Int} {t : List Int} (hG : sortT cls Fs = h :: t) (hh : cls h = 0) (hs : Srt cls n) (hn : ∀ x ∈ n, cls x ≠ 0 ∧ ∀ a, pr a x = none) : compT cls pr (sortT cls (Fs ++ n)) = s :: n := by
  have hr : sortT cls (Fs ++ n) = sortT cls (sortT cls Fs ++ n) := sortT_congr (REq.append (REq.sort Fs) (REq.refl n))
  obtain ⟨P, u, tail, hP, hu, htl⟩ := last_starter (cls := cls) (l := sortT cls Fs) ⟨h, by rw [hG]; exact List.mem_cons_self .., hh⟩
  have hsG : sortT cls (P ++ u :: tail) = P ++ u :: tail := by rw [← hP]; exact sortT_idem Fs
  rw [sortT_join _ _ hu, sortT_start hu, sortT_all htl] at hsG
  obtain ⟨e1, e2⟩ := List.append_inj hsG (sortT_length P)
  have e3 : stab cls tail = tail := by injection e2
  have hts : Srt cls tail := by rw [← e3]; exact stab_srt tail
  have hm : sortT cls (Fs ++ n) = P ++ u :: mrg cls tail n := by
    rw [hr, hP, List.append_assoc, List.cons_append, sortT_join _ _ hu, sortT_start hu, e1, sortT_all (fun x hx => ?_), ← stab_eq (mrg_srt hts hs) (mrg_keep hts hs)]
    rcases List.mem_append.1 hx with h1 | h1
    · exact htl x h1
    · exact (hn x h1).1
  have hfold : ∃ la, t.foldl (cstep cls pr) ([h], some 0) = ([s], la) := by
    rw [hG] at hc
    unfold compT compFold at hc
    rw [List.foldl_cons, show cstep cls pr ([], none) h = ([h], some 0) by simp [cstep, cpush, hh]] at hc
    exact ⟨(t.foldl (cstep cls pr) ([h], some 0)).2, by rw [← hc]⟩
  obtain ⟨la, hla⟩ := hfold
  obtain ⟨P', hP', ht⟩ : ∃ P', P ++ [u] = h :: P' ∧ t = P' ++ tail := by
    rw [hG] at hP
    cases P with
    | nil =>
      simp only [List.nil_append, List.cons.injEq] at hP
      exact ⟨[], by rw [hP.1]; rfl, by rw [hP.2]; rfl⟩
    | cons a P =>
      simp only [List.cons_append, List.cons.injEq] at hP
      exact ⟨P ++ [u], by rw [hP.1]; rfl, by rw [hP.2]; simp⟩
  rw [ht] at hla
  obtain ⟨v, f1, f2⟩ := fold_chain P' tail hla
  have hla0 : la = some 0 := by
    obtain ⟨v2, f3, f4⟩ := fold_chain tail [] (by rw [List.append_nil]; exact f2)
    rw [f3] at f2
    injection f2 with _ f5
    exact f5.symm
  subst hla0
  rw [hm]
  have e4 : P ++ u :: mrg cls tail n = h :: (P' ++ mrg cls tail n) := by
    have : P ++ u :: mrg cls tail n = (P ++ [u]) ++ mrg cls tail n := by simp
    rw [this, hP']; rfl
  rw [e4]
  unfold compT compFold
  rw [List.foldl_cons, show cstep cls pr ([], none) h = ([h], some 0) by simp [cstep, cpush, hh], List.foldl_append, f1, seg_merge tail n [] v s f2 hts hn (fun e _ y hy => by simp at hy)]
  rfl
theorem compT_non : ∀ (n N : List Int), (∀ x ∈ n, cls x ≠ 0) → n.foldl (cstep cls pr) (N, none) = (N ++ n, none)
  | [], N, _ => by simp
  | x :: n, N, h => by
    have h0 := h x (List.mem_cons_self ..)
    rw [List.foldl_cons, show cstep cls pr (N, none) x = (N ++ [x], none) by simp [cstep, cpush, h0], compT_non n (N ++ [x]) (fun y hy => h y (List.mem_cons_of_mem _ hy))]
    simp
/-- What an element is that is its own form. -/
theorem own_form (hp : ∀ a b v, pr a b = some v → cls v = 0) {Fc : List Int} {c : Int} (h : compT cls pr (sortT cls Fc) = [c]) : (cls c ≠ 0 → Fc = [c]) ∧ ∃ s t, sortT cls Fc = s :: t ∧ (cls c = 0 → cls s = 0) ∧ (cls c ≠ 0 → s = c) := by
  cases hG : sortT cls Fc with
  | nil => rw [hG] at h; cases h
  | cons s t =>
    rw [hG] at h
    unfold compT compFold at h
    rw [List.foldl_cons] at h
    by_cases hs : cls s = 0
    · rw [show cstep cls pr ([], none) s = ([s], some 0) by simp [cstep, cpush, hs]] at h
      have hc := fold_class (cls := cls) hp t (la := (t.foldl (cstep cls pr) ([s], some 0)).2) hs (by rw [← h])
      exact ⟨fun h0 => absurd hc h0, s, t, rfl, fun _ => hs, fun h0 => absurd hc h0⟩
    · rw [show cstep cls pr ([], none) s = ([s], none) by simp [cstep, cpush, hs]] at h
      have ht : t = [] := by
        cases t with
        | nil => rfl
        | cons x t =>
          have := foldl_mono (cls := cls) (pr := pr) t (cstep cls pr ([s], none) x)
          rw [List.foldl_cons] at h
          rw [h] at this
          simp [cstep, cpush] at this
      subst ht
      have e : s = c := by simpa using h
      subst e
      have hF : Fc = [s] := by
        have hl : Fc.length = 1 := by rw [← sortT_length (cls := cls), hG]; rfl
        match Fc, hl with
        | [y], _ =>
          have : y ∈ sortT cls [y] := sortT_mem.2 (by simp)
          rw [hG] at this
          rw [List.mem_singleton.1 this]
      exact ⟨fun _ => hF, s, [], rfl, fun h0 => absurd h0 hs, fun _ => rfl⟩
theorem comp_part {a X : List Int} {h : Int} {t : List Int} (hX : sortT cls X = h :: t) (hh : cls h = 0) (hp : ∀ x, pr x h = none) : compT cls pr (sortT cls (a ++ X)) = compT cls pr (sortT cls a) ++ compT cls pr (sortT cls X) := by
  have e : sortT cls (a ++ X) = sortT cls (a ++ h :: t) := sortT_congr (REq.append (REq.refl a) (by rw [← hX]; exact REq.sort X))
  have e2 : sortT cls (h :: t) = h :: t := by rw [← hX]; exact sortT_idem X
  rw [e, sortT_join _ _ hh, e2, hX]
  exact compT_join _ _ hh hp
/-- A text in order, of elements that are their own forms and begin with nothing that composes with something before it. -/
theorem quick_yes (hn : ∀ x, 0 ≤ cls x) (hp : ∀ a b v, pr a b = some v → cls v = 0) {text : List Int} (ho : sortT cls text = text) (hc : ∀ c ∈ text, compT cls pr (sortT cls (F c)) = [c] ∧ ∀ h t, sortT cls (F c) = h :: t → ∀ a, pr a h = none) : compT cls pr (sortT cls (text.flatMap F)) = text := by
  have hord : Ordd cls text := by rw [← ho]; exact ordd_sortT hn text
  obtain ⟨s0, s1⟩ := rs_ordd hn hord
  obtain ⟨g0, g1⟩ := rs_good (cls := cls) text
  have hun := unrs (cls := cls) text
  generalize (rs cls text).1 = n0 at *
  generalize (rs cls text).2 = l at *
  have hnon : ∀ x ∈ text, cls x ≠ 0 → F x = [x] ∧ ∀ a, pr a x = none := fun x hx h0 => by
    obtain ⟨h1, h2⟩ := hc x hx
    obtain ⟨h3, s, t, h4, _, h5⟩ := own_form hp h1
    have e := h5 h0
    subst e
    exact ⟨h3 h0, h2 s t h4⟩
  have key : ∀ (l : List (Int × List Int)), (∀ p ∈ l, p.1 ∈ text ∧ cls p.1 = 0 ∧ Srt cls p.2 ∧ ∀ x ∈ p.2, x ∈ text ∧ cls x ≠ 0) → ∀ a, compT cls pr (sortT cls (a ++ (unL l).flatMap F)) = compT cls pr (sortT cls a) ++ unL l := by
    intro l
    induction l with
    | nil => intro _ a; simp [unL]
    | cons p l ih =>
      intro hl a
      obtain ⟨m1, m2, m3, m4⟩ := hl p (List.mem_cons_self ..)
      have e1 : unL (p :: l) = p.1 :: p.2 ++ unL l := by simp [unL]
      have e2 : p.2.flatMap F = p.2 := flatMap_fix (fun x hx => (hnon x (m4 x hx).1 (m4 x hx).2).1)
      obtain ⟨h1, h2⟩ := hc p.1 m1
      obtain ⟨_, s, t, h4, h5, _⟩ := own_form hp h1
      have hs := h5 m2
      have hsF : ∃ t', sortT cls (F p.1 ++ p.2) = s :: t' := ⟨sortT cls (t ++ p.2), (sortT_congr (REq.append (REq.sort (F p.1)) (REq.refl p.2))).trans (by rw [h4, List.cons_append, sortT_start hs])⟩
      obtain ⟨t', ht'⟩ := hsF
      have e3 : a ++ (unL (p :: l)).flatMap F = (a ++ (F p.1 ++ p.2)) ++ (unL l).flatMap F := by
        rw [e1, List.flatMap_append, List.flatMap_cons, e2]; simp
      rw [e3, ih (fun q hq => hl q (List.mem_cons_of_mem _ hq)), comp_part ht' hs (h2 s t h4), seg_form h1 h4 hs m3 (fun x hx => ⟨(m4 x hx).2, (hnon x (m4 x hx).1 (m4 x hx).2).2⟩), e1]
      simp
  have hmem0 : ∀ x ∈ n0, x ∈ text := fun x hx => by rw [← hun]; exact List.mem_append_left _ hx
  have hmem1 : ∀ p ∈ l, p.1 ∈ text ∧ ∀ x ∈ p.2, x ∈ text := fun p hpm => by
    have h1 : ∀ x ∈ p.1 :: p.2, x ∈ text := fun x hx => by
      rw [← hun]
      exact List.mem_append_right _ (List.mem_flatMap.2 ⟨p, hpm, hx⟩)
    exact ⟨h1 _ (List.mem_cons_self ..), fun x hx => h1 x (List.mem_cons_of_mem _ hx)⟩
  have hfin := key l (fun p hpm => ⟨(hmem1 p hpm).1, (g1 p hpm).1, s1 p hpm, fun x hx => ⟨(hmem1 p hpm).2 x hx, (g1 p hpm).2 x hx⟩⟩) n0
  have e0 : n0.flatMap F = n0 := flatMap_fix (fun x hx => (hnon x (hmem0 x hx) (g0 x hx)).1)
  have e4 : text.flatMap F = n0 ++ (unL l).flatMap F := by
    have h5 := congrArg (fun y => y.flatMap F) hun
    simp only [List.flatMap_append] at h5
    rw [← h5, e0]
  rw [e4, hfin, sortT_all g0, stab_of_srt s0]
  unfold compT compFold
  rw [compT_non n0 [] g0]
  simpa using hun
end
end Go.Proofs.YtbhglkofaendjaaGreatDoor
namespace Go.Proofs.YtbhglkofaendjaaGreatDoor

theorem hangul_class {l : List Span} (h : ordCheck l = 0) {v : Int} (h1 : 44032 ≤ v) (h2 : v < 55204) : classOf l v = 0 := by
  refine classOf_none (fun s hs hin => ?_)
  refine List.any_eq_false.1 (ordCheck_zero h).2.2 s hs ?_
  simp only [spanHangul, hangulR, meets, List.any_cons, List.any_nil, Bool.or_false, Bool.or_eq_true, Bool.and_eq_true, decide_eq_true_eq]
  omega
theorem comp_syl {a b v : Int} (h : compH a b = some v) : 44032 ≤ v ∧ v < 55204 := by
  unfold compH at h
  split at h
  · rename_i hk
    have h1 := kind_1 hk.1
    have h2 := kind_2 hk.2
    injection h with h
    omega
  · split at h
    · rename_i hk
      have h1 := kind_4 hk.1
      have h2 := kind_3 hk.2
      injection h with h
      omega
    · cases h
theorem pairM_some {n : Nrm} {a b v : Int} (h : pairM n a b = some v) : ∃ m ∈ n.decomp, candB n m = true ∧ m.to = [a, b] ∧ m.src = v := by
  unfold pairM at h
  cases hf : n.decomp.find? (fun m => candB n m && decide (m.to = [a, b])) with
  | none => rw [hf] at h; cases h
  | some m =>
    rw [hf] at h
    have h1 := List.find?_some hf
    simp only [Bool.and_eq_true, decide_eq_true_eq] at h1
    exact ⟨m, List.mem_of_find?_eq_some hf, h1.1, h1.2, by simpa using h⟩
theorem cand_class {n : Nrm} {m : Mp} (h : candB n m = true) : classOf n.classes m.src = 0 := by
  simp only [candB, Bool.and_eq_true, decide_eq_true_eq] at h
  exact h.1.2
theorem pair_class {n : Nrm} (g : Good n) {a b v : Int} (h : pairOf n a b = some v) : classOf n.classes v = 0 := by
  unfold pairOf at h
  cases hc : compH a b with
  | some c =>
    rw [hc] at h
    injection h with h
    subst h
    obtain ⟨h1, h2⟩ := comp_syl hc
    exact hangul_class g.ord h1 h2
  | none =>
    rw [hc] at h
    obtain ⟨m, _, h1, _, h2⟩ := pairM_some h
    rw [← h2]
    exact cand_class h1
theorem good_codes {n : Nrm} (g : Good n) {m : Mp} (hm : m ∈ n.decomp) : validB m.src = true ∧ ∀ c ∈ m.to, validB c = true := by
  have h := List.any_eq_false.1 (mapParts_zero (mapCheck_zero g.map).1).1 m hm
  simp only [mpBadCode, Bool.or_eq_true, Bool.not_eq_true', List.any_eq_true, not_or, not_exists, not_and, Bool.not_eq_false] at h
  exact ⟨h.1, fun c hc => h.2 c hc⟩
theorem valid_range {c : Int} (h : validB c = true) : 0 ≤ c ∧ c ≤ 1114111 := by
  simp [validB] at h
  omega
theorem once_valid {n : Nrm} (g : Good n) {c : Int} {cp : Bool} {tt : List Int} (h : onceOf n.decomp c cp = some tt) : ∀ e ∈ tt, 0 ≤ e := by
  unfold onceOf at h
  split at h
  · rename_i hk
    injection h with h
    subst h
    intro e he
    have hc : 44032 ≤ c ∧ c < 55204 := by
      unfold kind at hk
      split at hk
      · omega
      · split at hk
        · omega
        · split at hk
          · omega
          · split at hk
            · omega
            · omega
    unfold decompH at he
    rw [if_neg (by omega)] at he
    split at he
    · simp only [List.mem_cons, List.not_mem_nil, or_false] at he
      rcases he with he | he <;> rw [he] <;> simp only [hL, hV] <;> omega
    · simp only [List.mem_cons, List.not_mem_nil, or_false] at he
      rcases he with he | he | he <;> rw [he] <;> simp only [hL, hV, hT] <;> omega
  · unfold mapOf at h
    cases hf : n.decomp.find? (fun m => decide (m.src = c)) with
    | none => rw [hf] at h; cases h
    | some m =>
      rw [hf] at h
      simp only at h
      split at h
      · injection h with h
        subst h
        exact fun e he => (valid_range ((good_codes g (List.mem_of_find?_eq_some hf)).2 e he)).1
      · cases h
theorem full_nonneg {n : Nrm} (g : Good n) {cp : Bool} {F : Int → List Int} (hF : FullEq n.decomp cp F) (c : Int) (hc : 0 ≤ c) : ∀ e ∈ F c, 0 ≤ e := by
  have hacc := ends_any g.ends cp c
  induction hacc with
  | intro c _ ih =>
    intro e he
    rw [hF c] at he
    cases ho : onceOf n.decomp c cp with
    | none => rw [ho] at he; rw [List.mem_singleton.1 he]; exact hc
    | some tt =>
      rw [ho] at he
      obtain ⟨x, hx, hxe⟩ := List.mem_flatMap.1 he
      exact ih x ⟨tt, ho, hx⟩ (once_valid g ho x hx) e hxe
theorem kind_gap : kind (-1) = 0 := by decide +kernel
theorem once_gap {n : Nrm} (g : Good n) (cp : Bool) : onceOf n.decomp (-1) cp = none := by
  unfold onceOf
  rw [if_neg (by rw [kind_gap]; omega)]
  exact mapOf_none (fun m hm e => by have := valid_range (good_codes g hm).1; omega)
theorem full_gap (n : Nrm) (cp : Bool) : fullOf (usableN n).decomp cp (-1) = [-1] := full_fix (usableN_full n cp) (once_gap (usableN_good n) cp)
theorem class_gap (n : Nrm) : classOf (usableN n).classes (-1) = 0 :=
  classOf_none (fun s hs h => by have := spanBad_false (List.any_eq_false.1 (ordCheck_zero (usableN_good n).ord).1 s hs |> eq_false_of_ne_true); omega)
theorem pair_gap_left {n : Nrm} (g : Good n) (x : Int) : pairOf n (-1) x = none := by
  unfold pairOf
  rw [show compH (-1) x = none by unfold compH; rw [if_neg (by rw [kind_gap]; omega), if_neg (by rw [kind_gap]; omega)]]
  cases hp : pairM n (-1) x with
  | none => rfl
  | some v =>
    obtain ⟨m, hm, _, ht, _⟩ := pairM_some hp
    have := valid_range ((good_codes g hm).2 (-1) (by rw [ht]; simp))
    omega
theorem pair_gap_right {n : Nrm} (g : Good n) (x : Int) : pairOf n x (-1) = none := by
  unfold pairOf
  rw [show compH x (-1) = none by unfold compH; rw [if_neg (by rw [kind_gap]; omega), if_neg (by rw [kind_gap]; omega)]]
  cases hp : pairM n x (-1) with
  | none => rfl
  | some v =>
    obtain ⟨m, hm, _, ht, _⟩ := pairM_some hp
    have := valid_range ((good_codes g hm).2 (-1) (by rw [ht]; simp))
    omega
/-- The code points, each with a gap behind it. -/
def gapped (codes : List Int) : List Int := codes.flatMap fun c => [c, -1]
theorem gapped_flat {F : Int → List Int} (h : F (-1) = [-1]) : ∀ codes : List Int, (gapped codes).flatMap F = codes.flatMap fun c => F c ++ [-1]
  | [] => rfl
  | c :: r => by
    have ih := gapped_flat h r
    unfold gapped at ih ⊢
    rw [List.flatMap_cons, List.flatMap_append, ih, List.flatMap_cons]
    simp [h]
theorem text_gapped (n : Nrm) (cp : Bool) (codes : List Int) : textOf n cp (gapped codes) = codes.flatMap fun c => textOf n cp [c] ++ [-1] := by
  rw [textOf_eq, textE_eq, gapped_flat (full_gap n cp), sortT_gaps (class_gap n)]
  congr 1
  funext c
  rw [textOf_eq, textE_eq]
  simp
theorem form_gapped (n : Nrm) (form : Int) (codes : List Int) : formOf n form (gapped codes) = codes.flatMap fun c => formOf n form [c] ++ [-1] := by
  by_cases h : form < 1 ∨ 4 < form
  · rw [formOf_0 n h]
    unfold gapped
    congr 1
    funext c
    rw [formOf_0 n h]
    rfl
  · rw [formOf_known n h, text_gapped]
    by_cases hc : comps form = true
    · rw [if_pos hc]
      unfold compN
      rw [compT_gaps (class_gap n) (pair_gap_right (usableN_good n)) (pair_gap_left (usableN_good n))]
      congr 1
      funext c
      rw [formOf_known n h, if_pos hc]
      rfl
    · rw [if_neg hc]
      congr 1
      funext c
      rw [formOf_known n h, if_neg hc]
theorem text_nonneg (n : Nrm) (cp : Bool) {c : Int} (hc : 0 ≤ c) : ∀ e ∈ textOf n cp [c], 0 ≤ e := by
  rw [textOf_eq, textE_eq]
  intro e he
  rw [sortT_mem] at he
  simp only [List.flatMap_cons, List.flatMap_nil, List.append_nil] at he
  exact full_nonneg (usableN_good n) (usableN_full n cp) c hc e he
theorem pair_nonneg {n : Nrm} (g : Good n) {a b v : Int} (h : pairOf n a b = some v) : 0 ≤ v := by
  unfold pairOf at h
  cases hc : compH a b with
  | some c =>
    rw [hc] at h
    injection h with h
    have := comp_syl hc
    omega
  | none =>
    rw [hc] at h
    obtain ⟨m, hm, _, _, h2⟩ := pairM_some h
    have := valid_range (good_codes g hm).1
    omega
theorem form_nonneg (n : Nrm) (form : Int) {c : Int} (hc : 0 ≤ c) : ∀ e ∈ formOf n form [c], 0 ≤ e := by
  by_cases h : form < 1 ∨ 4 < form
  · rw [formOf_0 n h]; intro e he; rw [List.mem_singleton.1 he]; exact hc
  · rw [formOf_known n h]
    split
    · exact compT_all (fun a b v _ _ hv => pair_nonneg (usableN_good n) hv) (text_nonneg n _ hc)
    · exact text_nonneg n _ hc
theorem pair_both (n : Nrm) (cp : Bool) (a b v : Int) (h : pairOf (usableN n) a b = some v) : fullOf (usableN n).decomp cp v = fullOf (usableN n).decomp cp a ++ fullOf (usableN n).decomp cp b ∧ classOf (usableN n).classes v = 0 :=
  ⟨pair_full (usableN_good n) (usableN_full n cp) a b v h, pair_class (usableN_good n) h⟩
theorem textOf_one (n : Nrm) (cp : Bool) (c : Int) : textOf n cp [c] = sortT (classOf (usableN n).classes) (fullOf (usableN n).decomp cp c) := by
  rw [textOf_eq, textE_eq]
  simp
theorem sort_single {cls : Int → Int} {l : List Int} {c : Int} (h : sortT cls l = [c]) : l = [c] := by
  have hl : l.length = 1 := by rw [← sortT_length (cls := cls), h]; rfl
  match l, hl with
  | [y], _ =>
    have : y ∈ sortT cls [y] := sortT_mem.2 (by simp)
    rw [h] at this
    rw [List.mem_singleton.1 this]
theorem sort_one (cls : Int → Int) (c : Int) : sortT cls [c] = [c] := by
  have hl : (sortT cls [c]).length = 1 := sortT_length [c]
  match hs : sortT cls [c], hl with
  | [y], _ =>
    have : y ∈ sortT cls [c] := by rw [hs]; simp
    rw [sortT_mem] at this
    rw [List.mem_singleton.1 this]
/-- In a normalized text each element is its own form, and the text is in order. -/
theorem form_quick (n : Nrm) {form : Int} (h : ¬ (form < 1 ∨ 4 < form)) (t : List Int) : (∀ c ∈ formOf n form t, formOf n form [c] = [c]) ∧ sortT (classOf (usableN n).classes) (formOf n form t) = formOf n form t := by
  have hD : ∀ x ∈ textOf n (cpOf form) t, fullOf (usableN n).decomp (cpOf form) x = [x] := fun x hx => full_fix (usableN_full n _) (d_none n _ t x hx)
  have hS : sortT (classOf (usableN n).classes) (textOf n (cpOf form) t) = textOf n (cpOf form) t := by rw [textOf_eq, textE_eq, sortT_idem]
  by_cases hc : comps form = true
  · have ho : Ordd (classOf (usableN n).classes) (textOf n (cpOf form) t) := by rw [← hS]; exact ordd_sortT (d_nonneg n) _
    obtain ⟨h1, h2⟩ := comp_quick (pr := pairOf (usableN n)) (d_nonneg n) (pair_both n (cpOf form)) hD ho
    rw [formOf_known n h, if_pos hc]
    refine ⟨fun c hcm => ?_, sortT_of_ordd (d_nonneg n) h2⟩
    obtain ⟨h3, h4⟩ := h1 c hcm
    rw [formOf_known n h, if_pos hc, textOf_one, sortT_of_ordd (d_nonneg n) h3]
    exact h4
  · rw [formOf_known n h, if_neg hc]
    refine ⟨fun c hcm => ?_, hS⟩
    rw [formOf_known n h, if_neg hc, textOf_one, hD c hcm]
    exact sort_one _ c
/-- A text in order, of elements that are their own forms and begin with no second element, is normalized. -/
theorem form_yes (n : Nrm) {form : Int} (h : ¬ (form < 1 ∨ 4 < form)) {text : List Int} (ho : sortT (classOf (usableN n).classes) text = text) (hc : ∀ c ∈ text, formOf n form [c] = [c] ∧ (comps form = true → ∀ s t, textOf n (cpOf form) [c] = s :: t → secondB (usableN n) s = false)) : formOf n form text = text := by
  by_cases hcm : comps form = true
  · rw [formOf_known n h, if_pos hcm, textOf_eq, textE_eq]
    refine quick_yes (pr := pairOf (usableN n)) (d_nonneg n) (fun a b v hv => pair_class (usableN_good n) hv) ho (fun c hcm' => ?_)
    obtain ⟨h1, h2⟩ := hc c hcm'
    rw [formOf_known n h, if_pos hcm, textOf_one] at h1
    refine ⟨h1, fun s t hs a => ?_⟩
    exact secondB_false (h2 hcm s t (by rw [textOf_one]; exact hs)) a
  · rw [formOf_known n h, if_neg hcm, textOf_eq, textE_eq, flatMap_fix (fun x hx => ?_)]
    · exact ho
    · have h1 := (hc x hx).1
      rw [formOf_known n h, if_neg hcm, textOf_one] at h1
      exact sort_single h1
end Go.Proofs.YtbhglkofaendjaaGreatDoor
namespace Go.Proofs.YtbhglkofaendjaaGreatDoor

section
variable {α : Type} [DecidableEq α] {β : Type}
theorem getKV_mem {k : α} {v : β} : ∀ {M : List (α × β)}, getKV M k = some v → (k, v) ∈ M
  | [], h => by simp [getKV] at h
  | p :: r, h => by
    unfold getKV at h
    by_cases hp : p.1 = k
    · rw [if_pos hp] at h
      injection h with h
      rw [← hp, ← h]
      exact List.mem_cons_self ..
    · rw [if_neg hp] at h
      exact List.mem_cons_of_mem _ (getKV_mem h)
theorem getKV_of_mem {k : α} {v : β} : ∀ {M : List (α × β)}, (k, v) ∈ M → (getKV M k).isSome = true
  | [], h => by simp at h
  | p :: r, h => by
    unfold getKV
    by_cases hp : p.1 = k
    · rw [if_pos hp]; rfl
    · rw [if_neg hp]
      rcases List.mem_cons.1 h with e | e
      · exact absurd (by rw [← e]) hp
      · exact getKV_of_mem e
end
def vtR : List Rng := [⟨4449, 4469⟩, ⟨4520, 4546⟩]
def onesR {β : Type} (D : List ((Int × Int) × β)) : List Rng := D.map fun p => ⟨p.1.2, p.1.2⟩
theorem comp_v {x : Int} (h1 : 4449 ≤ x) (h2 : x ≤ 4469) : (compH 4352 x).isSome = true := by
  have k1 : kind 4352 = 1 := by decide +kernel
  have k2 : kind x = 2 := by unfold kind; rw [if_neg (by omega), if_pos (by omega)]
  unfold compH
  rw [if_pos ⟨k1, k2⟩]; rfl
theorem comp_t {x : Int} (h1 : 4520 ≤ x) (h2 : x ≤ 4546) : (compH 44032 x).isSome = true := by
  have k1 : kind 44032 = 4 := by decide +kernel
  have k2 : kind x = 3 := by unfold kind; rw [if_neg (by omega), if_neg (by omega), if_pos (by omega)]
  unfold compH
  rw [if_neg (by rw [k1]; omega), if_pos ⟨k1, k2⟩]; rfl
theorem comp_vt {a x : Int} (h : (compH a x).isSome = true) : 4449 ≤ x ∧ x ≤ 4469 ∨ 4520 ≤ x ∧ x ≤ 4546 := by
  unfold compH at h
  split at h
  · rename_i hk; have := kind_2 hk.2; omega
  · split at h
    · rename_i hk; have := kind_3 hk.2; omega
    · cases h
theorem pairOf_comp {n : Nrm} {a x : Int} (h : (compH a x).isSome = true) : (pairOf n a x).isSome = true := by
  unfold pairOf
  cases hc : compH a x with
  | none => rw [hc] at h; cases h
  | some c => rfl
theorem has_second {n : Nrm} (g : Good n) {M D : List ((Int × Int) × Value)} (hM : CompMap n n.decomp M) (h1 : ∀ p ∈ D, p ∈ M) (h2 : ∀ p ∈ M, p ∈ D) (x : Int) : hasR (vtR ++ onesR D) x = secondB n x := by
  have hiff : hasR (vtR ++ onesR D) x = true ↔ secondB n x = true := by
    unfold hasR
    rw [List.any_eq_true]
    constructor
    · rintro ⟨r, hr, hin⟩
      simp only [inR, Bool.and_eq_true, decide_eq_true_eq] at hin
      refine secondB_iff.2 ?_
      rcases List.mem_append.1 hr with hr | hr
      · simp only [vtR, List.mem_cons, List.not_mem_nil, or_false] at hr
        rcases hr with rfl | rfl <;> simp only at hin
        · exact ⟨4352, pairOf_comp (comp_v (by omega) (by omega))⟩
        · exact ⟨44032, pairOf_comp (comp_t (by omega) (by omega))⟩
      · obtain ⟨p, hp, rfl⟩ := List.mem_map.1 hr
        obtain ⟨⟨a, b⟩, v⟩ := p
        simp only at hin
        have e : x = b := by omega
        subst e
        refine ⟨a, ?_⟩
        have hg := getKV_of_mem (h1 _ hp)
        rw [hM a x] at hg
        split at hg
        · cases hg
        · rename_i hc
          unfold pairOf pairM
          cases hcc : compH a x with
          | some c => rfl
          | none =>
            simp only [Option.isSome_map] at hg ⊢
            exact hg
    · intro h
      obtain ⟨a, ha⟩ := secondB_iff.1 h
      cases hc : compH a x with
      | some c =>
        have hv := comp_vt (a := a) (x := x) (by rw [hc]; rfl)
        rcases hv with hv | hv
        · exact ⟨⟨4449, 4469⟩, by simp [vtR], by simp [inR, validB]; omega⟩
        · exact ⟨⟨4520, 4546⟩, by simp [vtR], by simp [inR, validB]; omega⟩
      | none =>
        have hp : (pairM n a x).isSome = true := by unfold pairOf at ha; rw [hc] at ha; exact ha
        obtain ⟨v, hv⟩ := Option.isSome_iff_exists.1 hp
        obtain ⟨m, hm, _, hto, _⟩ := pairM_some hv
        have hval := (good_codes g hm).2 x (by rw [hto]; simp)
        have hg : ∃ u, getKV M (a, x) = some u := by
          rw [hM a x, hc]
          unfold pairM at hp
          simp only [Option.isSome_map] at hp
          obtain ⟨m', hm'⟩ := Option.isSome_iff_exists.1 hp
          exact ⟨_, by rw [if_neg (by simp)]; unfold isPair; rw [hm']; rfl⟩
        obtain ⟨u, hu⟩ := hg
        refine ⟨⟨x, x⟩, List.mem_append_right _ (List.mem_map.2 ⟨((a, x), u), h2 _ (getKV_mem hu), rfl⟩), ?_⟩
        simp [inR, hval]
  cases h3 : hasR (vtR ++ onesR D) x <;> cases h4 : secondB n x <;> simp_all
end Go.Proofs.YtbhglkofaendjaaGreatDoor
namespace Go.Proofs.YtbhglkofaendjaaGreatDoor

/-- A code point is no boundary. -/
noncomputable def insideB (n : Nrm) (form c : Int) : Bool := match textOf n (cpOf form) [c] with
  | [] => true
  | s :: _ => !decide (classOf (usableN n).classes s = 0) || (comps form && secondB (usableN n) s)
theorem sort_head {cls : Int → Int} {s : Int} {t : List Int} (h : cls s ≠ 0) : ∃ s' t', sortT cls (s :: t) = s' :: t' ∧ cls s' ≠ 0 := by
  have hr : (rs cls (s :: t)).1 ≠ [] := by rw [rs_non h]; simp
  unfold sortT
  cases hs : stab cls (rs cls (s :: t)).1 with
  | nil =>
    have := stab_length (cls := cls) (rs cls (s :: t)).1
    rw [hs] at this
    exact absurd (List.eq_nil_of_length_eq_zero this.symm) hr
  | cons s' t' =>
    refine ⟨s', t' ++ sortL cls (rs cls (s :: t)).2, by rw [List.cons_append], ?_⟩
    have hm : s' ∈ (rs cls (s :: t)).1 := stab_mem.1 (by rw [hs]; exact List.mem_cons_self ..)
    exact (rs_good (cls := cls) (s :: t)).1 s' hm
theorem bound_inside (n : Nrm) {form : Int} (h : ¬ (form < 1 ∨ 4 < form)) (c : Int) : boundB n form c = !insideB n form c := by
  unfold boundB insideB
  rw [if_neg h, textOf_one]
  cases hF : fullOf (usableN n).decomp (cpOf form) c with
  | nil => rw [sortT_nil]; rfl
  | cons s t =>
    by_cases hs : classOf (usableN n).classes s = 0
    · rw [sortT_start hs]
      simp [hs]
    · obtain ⟨s', t', e, h0⟩ := sort_head (cls := classOf (usableN n).classes) (t := t) hs
      rw [e]
      simp [hs, h0]
theorem second_valid {n : Nrm} (g : Good n) {x : Int} (h : secondB n x = true) : validB x = true := by
  obtain ⟨a, ha⟩ := secondB_iff.1 h
  cases hc : compH a x with
  | some c =>
    have := comp_vt (a := a) (x := x) (by rw [hc]; rfl)
    simp [validB]; omega
  | none =>
    have hp : (pairM n a x).isSome = true := by unfold pairOf at ha; rw [hc] at ha; exact ha
    obtain ⟨v, hv⟩ := Option.isSome_iff_exists.1 hp
    obtain ⟨m, hm, _, hto, _⟩ := pairM_some hv
    exact (good_codes g hm).2 x (by rw [hto]; simp)
theorem once_invalid {n : Nrm} (g : Good n) {c : Int} (h : validB c = false) (cp : Bool) : onceOf n.decomp c cp = none := by
  have hv : ¬ (0 ≤ c ∧ c ≤ 1114111) := by simp [validB] at h; omega
  unfold onceOf
  rw [if_neg]
  · exact mapOf_none (fun m hm e => by have := valid_range (good_codes g hm).1; omega)
  · unfold kind
    rw [if_neg (by omega), if_neg (by omega), if_neg (by omega), if_pos (by omega)]
    omega
theorem class_invalid {n : Nrm} (g : Good n) {c : Int} (h : validB c = false) : classOf n.classes c = 0 := by
  have hv : ¬ (0 ≤ c ∧ c ≤ 1114111) := by simp [validB] at h; omega
  exact classOf_none (fun s hs h1 => by have := spanBad_false (List.any_eq_false.1 (ordCheck_zero g.ord).1 s hs |> eq_false_of_ne_true); omega)
theorem full_invalid (n : Nrm) (cp : Bool) {c : Int} (h : validB c = false) : fullOf (usableN n).decomp cp c = [c] := full_fix (usableN_full n cp) (once_invalid (usableN_good n) h cp)
theorem bound_invalid (n : Nrm) (form : Int) {c : Int} (h : validB c = false) : boundB n form c = true := by
  unfold boundB
  split
  · rfl
  · rw [full_invalid n _ h]
    have h2 : secondB (usableN n) c = false := by
      cases hs : secondB (usableN n) c with
      | false => rfl
      | true => rw [second_valid (usableN_good n) hs] at h; cases h
    simp [class_invalid (usableN_good n) h, h2]

/-- The code points of a text, each once, in the order in which they come. -/
def distL (text : List Int) : List Int := text.foldl (fun out c => if validB c = true ∧ c ∉ out then out ++ [c] else out) []
theorem distL_snoc (t : List Int) (c : Int) : distL (t ++ [c]) = if validB c = true ∧ c ∉ distL t then distL t ++ [c] else distL t := by
  unfold distL; rw [List.foldl_append]; rfl
theorem distL_length (t : List Int) : (distL t).length ≤ t.length := by
  have key : ∀ (t out : List Int), (t.foldl (fun out c => if validB c = true ∧ c ∉ out then out ++ [c] else out) out).length ≤ out.length + t.length := by
    intro t
    induction t with
    | nil => intro out; simp
    | cons c t ih =>
      intro out
      rw [List.foldl_cons]
      split
      · have := ih (out ++ [c]); simp at this ⊢; omega
      · have := ih out; simp at this ⊢; omega
  have := key t []
  simpa [distL] using this
theorem distL_spec (t : List Int) : (∀ c, c ∈ distL t ↔ c ∈ t ∧ validB c = true) ∧ (distL t).Nodup := by
  have key : ∀ (t out : List Int), out.Nodup → (∀ c ∈ out, validB c = true) → (∀ c, c ∈ (t.foldl (fun out c => if validB c = true ∧ c ∉ out then out ++ [c] else out) out) ↔ (c ∈ out ∨ (c ∈ t ∧ validB c = true))) ∧ (t.foldl (fun out c => if validB c = true ∧ c ∉ out then out ++ [c] else out) out).Nodup := by
    intro t
    induction t with
    | nil => intro out h _; simp [h]
    | cons d t ih =>
      intro out h hv
      rw [List.foldl_cons]
      by_cases hd : validB d = true ∧ d ∉ out
      · rw [if_pos hd]
        have hn : (out ++ [d]).Nodup := List.nodup_append.2 ⟨h, by simp, fun a ha b hb e => by rw [List.mem_singleton.1 hb] at e; rw [e] at ha; exact hd.2 ha⟩
        obtain ⟨h1, h2⟩ := ih (out ++ [d]) hn (fun c hc => by
          rcases List.mem_append.1 hc with hc | hc
          · exact hv c hc
          · rw [List.mem_singleton.1 hc]; exact hd.1)
        refine ⟨fun c => ?_, h2⟩
        rw [h1 c]
        simp only [List.mem_append, List.mem_cons, List.not_mem_nil, or_false]
        constructor
        · rintro ((h3 | h3) | h3)
          · exact .inl h3
          · rw [h3]; exact .inr ⟨.inl rfl, hd.1⟩
          · exact .inr ⟨.inr h3.1, h3.2⟩
        · rintro (h3 | ⟨h3 | h3, h4⟩)
          · exact .inl (.inl h3)
          · exact .inl (.inr h3)
          · exact .inr ⟨h3, h4⟩
      · rw [if_neg hd]
        obtain ⟨h1, h2⟩ := ih out h hv
        refine ⟨fun c => ?_, h2⟩
        rw [h1 c]
        simp only [List.mem_cons]
        constructor
        · rintro (h3 | h3)
          · exact .inl h3
          · exact .inr ⟨.inr h3.1, h3.2⟩
        · rintro (h3 | ⟨h3 | h3, h4⟩)
          · exact .inl h3
          · left
            rw [h3] at h4 ⊢
            rcases Classical.em (d ∈ out) with h5 | h5
            · exact h5
            · exact absurd ⟨h4, h5⟩ hd
          · exact .inr ⟨h3, h4⟩
  obtain ⟨h1, h2⟩ := key t [] (by simp) (by simp)
  exact ⟨fun c => by simpa [distL] using h1 c, h2⟩

/-- The elements between gaps. -/
def gapCut : List Int → List Int → List (List Int)
  | [], _ => []
  | c :: t, part => if c = -1 then part :: gapCut t [] else gapCut t (part ++ [c])
theorem gapCut_run (r : List Int) : ∀ (g part : List Int), (∀ e ∈ g, e ≠ -1) → gapCut (g ++ -1 :: r) part = (part ++ g) :: gapCut r []
  | [], part, _ => by simp [gapCut]
  | c :: g, part, h => by
    rw [List.cons_append, gapCut, if_neg (h c (List.mem_cons_self ..)), gapCut_run r g _ (fun e he => h e (List.mem_cons_of_mem _ he))]
    simp
theorem gapCut_all (G : Int → List Int) : ∀ codes : List Int, (∀ c ∈ codes, ∀ e ∈ G c, e ≠ -1) → gapCut (codes.flatMap fun c => G c ++ [-1]) [] = codes.map G
  | [], _ => rfl
  | c :: r, h => by
    rw [List.flatMap_cons, List.append_assoc, List.singleton_append, gapCut_run _ _ _ (h c (List.mem_cons_self ..)), gapCut_all G r (fun d hd => h d (List.mem_cons_of_mem _ hd))]
    simp
end Go.Proofs.YtbhglkofaendjaaGreatDoor
namespace Go.Proofs.YtbhglkofaendjaaGreatDoor

noncomputable def jFrom (n : Nrm) (form : Int) (a : List Int) : Nat := lastBd (boundB n form) a
noncomputable def jTo (n : Nrm) (form : Int) (b : List Int) : Nat := firstBd (boundB n form) b
noncomputable def jMid (n : Nrm) (form : Int) (a m b : List Int) : List Int := formOf n form (a.drop (jFrom n form a) ++ m ++ b.take (jTo n form b))
theorem joinM_eq (n : Nrm) (form : Int) (a m b : List Int) : joinM n form a m b = a.take (jFrom n form a) ++ (jMid n form a m b ++ b.drop (jTo n form b)) := rfl
theorem jFrom_le (n : Nrm) (form : Int) (a : List Int) : jFrom n form a ≤ a.length := (lastBd_spec (boundB n form) a.length a rfl).1
theorem jTo_le (n : Nrm) (form : Int) (b : List Int) : jTo n form b ≤ b.length := (firstBd_spec (boundB n form) b).1
theorem jMid_length (n : Nrm) (form : Int) (a m b : List Int) : (jMid n form a m b).length ≤ 64 * (a.length + m.length + b.length) := by
  unfold jMid
  have h := formOf_length n form (a.drop (jFrom n form a) ++ m ++ b.take (jTo n form b))
  have h2 : (a.drop (jFrom n form a) ++ m ++ b.take (jTo n form b)).length ≤ a.length + m.length + b.length := by
    simp only [List.length_append, List.length_drop, List.length_take]; omega
  omega
theorem joinM_length (n : Nrm) (form : Int) (a m b : List Int) : (joinM n form a m b).length ≤ 65 * (a.length + m.length + b.length) := by
  rw [joinM_eq]
  have h := jMid_length n form a m b
  simp only [List.length_append, List.length_drop, List.length_take]
  omega
theorem join_two (n : Nrm) (form : Int) {a b : List Int} (ha : formOf n form a = a) (hb : formOf n form b = b) : joinM n form a [] b = formOf n form (a ++ b) := by
  rw [join_form n form ha hb, List.append_nil]
theorem join_nil_right (n : Nrm) (form : Int) {a : List Int} (ha : formOf n form a = a) : joinM n form a [] [] = a := by
  rw [join_two n form ha (form_nil n form), List.append_nil, ha]
theorem join_nil_left (n : Nrm) (form : Int) {a : List Int} (ha : formOf n form a = a) : joinM n form [] [] a = a := by
  rw [join_two n form (form_nil n form) ha, List.nil_append, ha]
theorem join_assoc (n : Nrm) (form : Int) {a b c : List Int} (ha : formOf n form a = a) (hb : formOf n form b = b) (hc : formOf n form c = c) :
    joinM n form (joinM n form a [] b) [] c = joinM n form a [] (joinM n form b [] c) := by
  rw [join_two n form ha hb, join_two n form hb hc, join_two n form (form_again n form _) hc, join_two n form ha (form_again n form _), form_append_left, form_append_right, List.append_assoc]
theorem edit_none (n : Nrm) (form : Int) {text : List Int} (h : formOf n form text = text) (i : Nat) : joinM n form (text.take i) [] (text.drop i) = text := by
  rw [replace_form n form h i i [], List.append_nil, List.take_append_drop, h]
theorem edit_same (n : Nrm) (form : Int) {text : List Int} (h : formOf n form text = text) (i : Nat) : joinM n form (text.take i) (text.drop i) [] = text := by
  have e := replace_form n form h i text.length (text.drop i)
  rw [List.drop_length, List.append_nil, List.take_append_drop, h] at e
  exact e
/-- What stands before the edges stays. -/
theorem join_front (n : Nrm) (form : Int) (a m b : List Int) : (joinM n form a m b).take (jFrom n form a) = a.take (jFrom n form a) := by
  have h := jFrom_le n form a
  rw [joinM_eq, List.take_append_of_le_length (by rw [List.length_take]; omega), List.take_of_length_le (by rw [List.length_take]; omega)]
theorem join_back (n : Nrm) (form : Int) (a m b : List Int) : (joinM n form a m b).drop (jFrom n form a + (jMid n form a m b).length) = b.drop (jTo n form b) := by
  have h := jFrom_le n form a
  have e : (a.take (jFrom n form a) ++ jMid n form a m b).length = jFrom n form a + (jMid n form a m b).length := by rw [List.length_append, List.length_take, Nat.min_eq_left h]
  rw [joinM_eq, ← List.append_assoc, ← e, List.drop_left]
theorem join_len (n : Nrm) (form : Int) (a m b : List Int) : (joinM n form a m b).length = jFrom n form a + (jMid n form a m b).length + (b.length - jTo n form b) := by
  have h := jFrom_le n form a
  rw [joinM_eq, List.length_append, List.length_append, List.length_take, List.length_drop, Nat.min_eq_left h, Nat.add_assoc]
end Go.Proofs.YtbhglkofaendjaaGreatDoor
namespace Go.Proofs.YtbhglkofaendjaaGreatDoor

def joinMm : List Mp := [⟨226, [97, 770], ⟨#[]⟩⟩]
def joinN : Nrm := ⟨[⟨770, 770, 230⟩], joinMm, []⟩
theorem joinN_check : decCheck joinN = 0 := by decide +kernel
theorem joinN_usable : usableN joinN = joinN := if_pos joinN_check
theorem joinN_full : FullEq joinMm false (fullOf (usableN joinN).decomp false) := by
  have := usableN_full joinN false
  rw [joinN_usable] at this ⊢
  exact this
theorem joinN_97 : fullOf (usableN joinN).decomp false 97 = [97] := full_alone joinN_full (by decide +kernel)
theorem joinN_770 : fullOf (usableN joinN).decomp false 770 = [770] := full_alone joinN_full (by decide +kernel)
theorem joinN_120 : fullOf (usableN joinN).decomp false 120 = [120] := full_alone joinN_full (by decide +kernel)
theorem joinN_226 : fullOf (usableN joinN).decomp false 226 = [97, 770] := by
  have h := joinN_full
  rw [@full_to _ _ _ h 226 [97, 770] (by decide +kernel)]
  simp only [List.flatMap_cons, List.flatMap_nil]
  rw [full_alone h (c := 97) (by decide +kernel), full_alone h (c := 770) (by decide +kernel)]
  rfl
theorem joinN_c97 : classOf (usableN joinN).classes 97 = 0 := by rw [joinN_usable]; decide +kernel
theorem joinN_c120 : classOf (usableN joinN).classes 120 = 0 := by rw [joinN_usable]; decide +kernel
theorem joinN_c770 : classOf (usableN joinN).classes 770 ≠ 0 := by rw [joinN_usable]; decide +kernel
theorem sort_lone {cls : Int → Int} (c : Int) : sortT cls [c] = [c] := sort_one cls c
theorem joinN_d1 : textOf joinN false [97, 770] = [97, 770] := by
  rw [textOf_eq, textE_eq]
  simp only [List.flatMap_cons, List.flatMap_nil, joinN_97, joinN_770, List.append_nil, List.cons_append, List.nil_append]
  rw [sortT_start joinN_c97, sort_lone]
theorem joinN_d2 : textOf joinN false [226] = [97, 770] := by
  rw [textOf_eq, textE_eq]
  simp only [List.flatMap_cons, List.flatMap_nil, joinN_226, List.append_nil]
  rw [sortT_start joinN_c97, sort_lone]
theorem joinN_f1 : formOf joinN 1 [97, 770] = [226] := by
  rw [formOf_1, joinN_d1]
  unfold compN
  rw [joinN_usable]
  decide +kernel
theorem joinN_f2 : formOf joinN 1 [226] = [226] := by
  rw [formOf_1, joinN_d2]
  unfold compN
  rw [joinN_usable]
  decide +kernel
theorem joinN_second {x : Int} (h : kind x = 0) (hx : x ≠ 770) : secondB (usableN joinN) x = false := by
  cases hs : secondB (usableN joinN) x with
  | false => rfl
  | true =>
    exfalso
    obtain ⟨a, ha⟩ := secondB_iff.1 hs
    have hc : compH a x = none := by unfold compH; rw [if_neg (by rw [h]; omega), if_neg (by rw [h]; omega)]
    have hp : (pairM (usableN joinN) a x).isSome = true := by unfold pairOf at ha; rw [hc] at ha; exact ha
    obtain ⟨v, hv⟩ := Option.isSome_iff_exists.1 hp
    obtain ⟨m, hm, _, ht, _⟩ := pairM_some hv
    rw [joinN_usable] at hm
    simp only [joinN, joinMm, List.mem_singleton] at hm
    rw [hm] at ht
    simp only [List.cons.injEq, and_true] at ht
    exact hx ht.2.symm
theorem joinN_b97 : boundB joinN 1 97 = true := by
  unfold boundB
  rw [if_neg (by omega), show cpOf 1 = false by decide, joinN_97]
  simp [joinN_c97, joinN_second (x := 97) (by decide +kernel) (by decide)]
theorem joinN_b120 : boundB joinN 1 120 = true := by
  unfold boundB
  rw [if_neg (by omega), show cpOf 1 = false by decide, joinN_120]
  simp [joinN_c120, joinN_second (x := 120) (by decide +kernel) (by decide)]
theorem joinN_b770 : boundB joinN 1 770 = false := by
  unfold boundB
  rw [if_neg (by omega), show cpOf 1 = false by decide, joinN_770]
  simp [joinN_c770]
theorem joinN_b226 : boundB joinN 1 226 = true := by
  unfold boundB
  rw [if_neg (by omega), show cpOf 1 = false by decide, joinN_226]
  simp [joinN_c97, joinN_second (x := 97) (by decide +kernel) (by decide)]
theorem joinN_e1 : lastBd (boundB joinN 1) [97] = 0 := by simp [lastBd, bnds, joinN_b97]
theorem joinN_e2 : firstBd (boundB joinN 1) [770] = 1 := by simp [firstBd, bnds, joinN_b770]
theorem joinN_e3 : lastBd (boundB joinN 1) [226] = 0 := by simp [lastBd, bnds, joinN_b226]
theorem joinN_e4 : firstBd (boundB joinN 1) [120] = 0 := by simp [firstBd, bnds, joinN_b120]
theorem joinN_j1 : joinM joinN 1 [97] [] [770] = [226] := by
  unfold joinM
  rw [joinN_e1, joinN_e2]
  simp [joinN_f1]
theorem joinN_j2 : joinM joinN 1 [226] [] [120] = [226, 120] := by
  unfold joinM
  rw [joinN_e3, joinN_e4]
  simp [joinN_f2]
end Go.Proofs.YtbhglkofaendjaaGreatDoor
