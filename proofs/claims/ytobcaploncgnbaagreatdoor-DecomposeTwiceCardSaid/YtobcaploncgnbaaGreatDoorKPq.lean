/- Sorting stably by classes. No program. Sorting the runs of a text. No program. Canonical order: texts whose runs have the same elements in the same order class by class. No program. The laws of the decomposed text. No program. Canonical order by inserting one element after the other. No program. -/
import Derived.Test.YtobcaploncgnbaaGreatDoorKPl
namespace Go.Proofs.YtobcaploncgnbaaGreatDoor

/-- Elements of equal class keep their order (and none is lost). -/
def Keep (cls : Int → Int) (xs ys : List Int) : Prop := ∀ v, ys.filter (fun c => cls c == v) = xs.filter (fun c => cls c == v)
def Srt (cls : Int → Int) (xs : List Int) : Prop := xs.Pairwise fun a b => cls a ≤ cls b
section
variable {cls : Int → Int}
theorem Keep.refl (xs : List Int) : Keep cls xs xs := fun _ => rfl
theorem Keep.trans {a b c : List Int} (h : Keep cls a b) (k : Keep cls b c) : Keep cls a c := fun v => (k v).trans (h v)
theorem Keep.symm {a b : List Int} (h : Keep cls a b) : Keep cls b a := fun v => (h v).symm
theorem Keep.append {a a' b b' : List Int} (h : Keep cls a a') (k : Keep cls b b') : Keep cls (a ++ b) (a' ++ b') := fun v => by rw [List.filter_append, List.filter_append, h v, k v]
theorem Keep.swap {U V : List Int} (h : ∀ x ∈ U, ∀ y ∈ V, cls x ≠ cls y) : Keep cls (U ++ V) (V ++ U) := fun v => by
  rw [List.filter_append, List.filter_append]
  by_cases hU : U.filter (fun c => cls c == v) = []
  · rw [hU]; simp
  · have hV : V.filter (fun c => cls c == v) = [] := by
      obtain ⟨x, hx⟩ := List.exists_mem_of_ne_nil _ hU
      obtain ⟨hxU, hxv⟩ := List.mem_filter.1 hx
      rw [List.filter_eq_nil_iff]
      intro y hy hyv
      exact h x hxU y hy (by simp at hxv hyv; rw [hxv, hyv])
    rw [hV]; simp
theorem Keep.mem {a b : List Int} (h : Keep cls a b) {x : Int} : x ∈ b ↔ x ∈ a := by
  have h1 : ∀ l : List Int, x ∈ l ↔ x ∈ l.filter (fun c => cls c == cls x) := fun l => by simp [List.mem_filter]
  rw [h1 b, h1 a, h (cls x)]
theorem stable_unique : ∀ {ys zs : List Int}, Srt cls ys → Srt cls zs → Keep cls ys zs → ys = zs
  | [], zs, _, _, h => by
    cases zs with
    | nil => rfl
    | cons z zs => exact absurd (h.mem.1 (List.mem_cons_self ..)) (by simp)
  | y :: ys, [], _, _, h => absurd (h.mem.2 (List.mem_cons_self ..)) (by simp)
  | y :: ys, z :: zs, hy, hz, h => by
    obtain ⟨y1, y2⟩ := List.pairwise_cons.1 hy
    obtain ⟨z1, z2⟩ := List.pairwise_cons.1 hz
    have hyz : cls y = cls z := by
      have a : cls y ≤ cls z := by
        rcases List.mem_cons.1 (h.mem.1 (List.mem_cons_self (a := z) ..)) with e | e
        · rw [e]; exact Int.le_refl _
        · exact y1 z e
      have b : cls z ≤ cls y := by
        rcases List.mem_cons.1 (h.mem.2 (List.mem_cons_self (a := y) ..)) with e | e
        · rw [e]; exact Int.le_refl _
        · exact z1 y e
      omega
    have hv := h (cls y)
    simp only [List.filter_cons, hyz, beq_self_eq_true, if_true, List.cons.injEq] at hv
    have e : z = y := hv.1
    subst e
    congr 1
    refine stable_unique y2 z2 (fun v => ?_)
    have := h v
    simp only [List.filter_cons] at this
    split at this
    · simpa using this
    · exact this
def leC (cls : Int → Int) (a b : Int) : Bool := decide (cls a ≤ cls b)
/-- The stably sorted list. -/
def stab (cls : Int → Int) (xs : List Int) : List Int := xs.mergeSort (leC cls)
theorem leC_trans (a b c : Int) (h : leC cls a b = true) (k : leC cls b c = true) : leC cls a c = true := by
  simp only [leC, decide_eq_true_eq] at *; omega
theorem leC_total (a b : Int) : (leC cls a b || leC cls b a) = true := by
  simp only [leC, Bool.or_eq_true, decide_eq_true_eq]; omega
theorem stab_srt (xs : List Int) : Srt cls (stab cls xs) := by
  have := List.pairwise_mergeSort (le := leC cls) leC_trans leC_total xs
  exact this.imp (fun h => by simpa [leC] using h)
theorem stab_perm (xs : List Int) : (stab cls xs).Perm xs := List.mergeSort_perm _ _
theorem stab_keep (xs : List Int) : Keep cls xs (stab cls xs) := fun v => by
  have hs : (xs.filter (fun c => cls c == v)).Sublist (stab cls xs) := by
    refine List.sublist_mergeSort leC_trans leC_total ?_ List.filter_sublist
    rw [List.pairwise_filter]
    refine List.pairwise_of_forall (fun a b ha hb => ?_)
    simp only [beq_iff_eq] at ha hb
    simp [leC, ha, hb]
  have h2 := hs.filter (fun c => cls c == v)
  rw [List.filter_filter] at h2
  simp only [Bool.and_self] at h2
  refine (h2.eq_of_length ?_).symm
  exact ((stab_perm xs).filter _).length_eq.symm
theorem stab_eq {xs ys : List Int} (h : Srt cls ys) (k : Keep cls xs ys) : ys = stab cls xs := stable_unique h (stab_srt xs) (k.symm.trans (stab_keep xs))
theorem stab_length (xs : List Int) : (stab cls xs).length = xs.length := (stab_perm xs).length_eq
theorem Srt.append {a b : List Int} (ha : Srt cls a) (hb : Srt cls b) (h : ∀ x ∈ a, ∀ y ∈ b, cls x ≤ cls y) : Srt cls (a ++ b) := List.pairwise_append.2 ⟨ha, hb, h⟩
theorem Srt.left {a b : List Int} (h : Srt cls (a ++ b)) : Srt cls a := (List.pairwise_append.1 h).1
theorem Srt.right {a b : List Int} (h : Srt cls (a ++ b)) : Srt cls b := (List.pairwise_append.1 h).2.1
theorem Srt.cross {a b : List Int} (h : Srt cls (a ++ b)) : ∀ x ∈ a, ∀ y ∈ b, cls x ≤ cls y := (List.pairwise_append.1 h).2.2
theorem Srt.nil : Srt cls [] := List.Pairwise.nil
theorem Srt.one (x : Int) : Srt cls [x] := by simp [Srt]
/-- Two neighbours that are out of order are exchanged. -/
theorem Keep.pair {a b : List Int} {u x : Int} (h : cls u ≠ cls x) : Keep cls (a ++ u :: x :: b) (a ++ x :: u :: b) := by
  have h1 : Keep cls ([u] ++ [x]) ([x] ++ [u]) := Keep.swap (fun p hp q hq => by
    rw [List.mem_singleton.1 hp, List.mem_singleton.1 hq]; exact h)
  have := Keep.append (Keep.refl a) (Keep.append h1 (Keep.refl b))
  simpa using this
end

theorem getElem?_mid {α : Type} (a : List α) (x : α) (b : List α) : (a ++ x :: b)[a.length]? = some x := by simp
theorem set_mid {α : Type} (a : List α) (x y : α) (b : List α) : (a ++ x :: b).set a.length y = a ++ y :: b := by simp
theorem split_at {α : Type} {xs : List α} {i : Nat} (h : i ≤ xs.length) : ∃ a b, xs = a ++ b ∧ a.length = i := ⟨xs.take i, xs.drop i, (List.take_append_drop i xs).symm, by simp; omega⟩
theorem split_last {α : Type} {xs : List α} (h : 0 < xs.length) : ∃ a x, xs = a ++ [x] := by
  have hne : xs ≠ [] := by rintro rfl; simp at h
  exact ⟨xs.dropLast, xs.getLast hne, (List.dropLast_concat_getLast hne).symm⟩
theorem split_first {α : Type} {xs : List α} (h : 0 < xs.length) : ∃ x a, xs = x :: a := by
  cases xs with
  | nil => simp at h
  | cons x a => exact ⟨x, a, rfl⟩
theorem swap_adj {α : Type} {L A B : List α} {u x : α} (h : L = A ++ u :: x :: B) : (L.set (A.length + 1) u).set A.length x = A ++ x :: u :: B := by
  subst h
  simp []
theorem swap_adj' {α : Type} {L A B : List α} {u x : α} (h : L = A ++ u :: x :: B) : (L.set A.length x).set (A.length + 1) u = A ++ x :: u :: B := by
  subst h
  simp []
theorem swap_far {α : Type} {L A M B : List α} {u v : α} (h : L = A ++ u :: (M ++ v :: B)) : (L.set A.length v).set (A.length + 1 + M.length) u = A ++ v :: (M ++ u :: B) := by
  subst h
  rw [set_mid]
  have e : A ++ v :: (M ++ v :: B) = (A ++ v :: M) ++ v :: B := by simp
  have hl : A.length + 1 + M.length = (A ++ v :: M).length := by simp; omega
  rw [e, hl, set_mid]; simp
section
variable {cls : Int → Int}
/-- All of V1 stands below all of U2, if the last one does below the first one. -/
theorem cross_lt {V U : List Int} (hV : Srt cls V) (hU : Srt cls U) (h : ∀ v u, V.getLast? = some v → U[0]? = some u → cls v < cls u) : ∀ v ∈ V, ∀ u ∈ U, cls v < cls u := fun v hv u hu => by
  obtain ⟨V1, z, rfl⟩ := split_last (xs := V) (List.length_pos_of_mem hv)
  obtain ⟨y, U1, rfl⟩ := split_first (xs := U) (List.length_pos_of_mem hu)
  have h0 := h z y (by simp) rfl
  have h1 : cls v ≤ cls z := by
    rcases List.mem_append.1 hv with h | h
    · exact hV.cross v h z (by simp)
    · rw [List.mem_singleton.1 h]; exact Int.le_refl _
  have h2 : cls y ≤ cls u := by
    rcases List.mem_cons.1 hu with h | h
    · rw [h]; exact Int.le_refl _
    · exact (List.pairwise_cons.1 hU).1 u h
  omega
theorem cross_le {U V : List Int} (hU : Srt cls U) (hV : Srt cls V) (h : ∀ u v, U.getLast? = some u → V[0]? = some v → cls u ≤ cls v) : ∀ u ∈ U, ∀ v ∈ V, cls u ≤ cls v := fun u hu v hv => by
  obtain ⟨U1, z, rfl⟩ := split_last (xs := U) (List.length_pos_of_mem hu)
  obtain ⟨y, V1, rfl⟩ := split_first (xs := V) (List.length_pos_of_mem hv)
  have h0 := h z y (by simp) rfl
  have h1 : cls u ≤ cls z := by
    rcases List.mem_append.1 hu with h | h
    · exact hU.cross u h z (by simp)
    · rw [List.mem_singleton.1 h]; exact Int.le_refl _
  have h2 : cls y ≤ cls v := by
    rcases List.mem_cons.1 hv with h | h
    · rw [h]; exact Int.le_refl _
    · exact (List.pairwise_cons.1 hV).1 v h
  omega
/-- Both halves merged: the whole. -/
theorem merge_halves {U1 U2 V1 V2 S1 S2 : List Int} (hU : Srt cls (U1 ++ U2)) (hV : Srt cls (V1 ++ V2)) (h1 : ∀ v ∈ V1, ∀ u ∈ U2, cls v < cls u) (h2 : ∀ u ∈ U1, ∀ v ∈ V2, cls u ≤ cls v)
    (k1 : Keep cls (U1 ++ V1) S1) (s1 : Srt cls S1) (k2 : Keep cls (U2 ++ V2) S2) (s2 : Srt cls S2) : Keep cls ((U1 ++ U2) ++ (V1 ++ V2)) (S1 ++ S2) ∧ Srt cls (S1 ++ S2) := by
  refine ⟨?_, Srt.append s1 s2 (fun x hx y hy => ?_)⟩
  · have hsw : Keep cls (U2 ++ V1) (V1 ++ U2) := Keep.swap (fun x hx y hy => by have := h1 y hy x hx; omega)
    have h3 : Keep cls ((U1 ++ U2) ++ (V1 ++ V2)) ((U1 ++ V1) ++ (U2 ++ V2)) := by
      have := Keep.append (Keep.refl (cls := cls) U1) (Keep.append hsw (Keep.refl V2))
      simpa using this
    exact h3.trans (Keep.append k1 k2)
  · rcases List.mem_append.1 (k1.mem.1 hx) with hx | hx <;> rcases List.mem_append.1 (k2.mem.1 hy) with hy | hy
    · exact hU.cross x hx y hy
    · exact h2 x hx y hy
    · have := h1 x hx y hy; omega
    · exact hV.cross x hx y hy
/-- One element is put into its place from the left, from the right. -/
theorem merge_left {x : Int} {V1 V2 : List Int} (hV : Srt cls (V1 ++ V2)) (h1 : ∀ v ∈ V1, cls v < cls x) (h2 : ∀ v ∈ V2, cls x ≤ cls v) : Keep cls ([x] ++ (V1 ++ V2)) (V1 ++ x :: V2) ∧ Srt cls (V1 ++ x :: V2) := by
  refine ⟨?_, Srt.append hV.left (List.pairwise_cons.2 ⟨h2, hV.right⟩) (fun a ha b hb => ?_)⟩
  · have hsw : Keep cls ([x] ++ V1) (V1 ++ [x]) := Keep.swap (fun a ha b hb => by rw [List.mem_singleton.1 ha]; have := h1 b hb; omega)
    have := Keep.append hsw (Keep.refl (cls := cls) V2)
    simpa using this
  · rcases List.mem_cons.1 hb with rfl | hb
    · have := h1 a ha; omega
    · exact hV.cross a ha b hb
theorem merge_right {y : Int} {U1 U2 : List Int} (hU : Srt cls (U1 ++ U2)) (h1 : ∀ u ∈ U1, cls u ≤ cls y) (h2 : ∀ u ∈ U2, cls y < cls u) : Keep cls ((U1 ++ U2) ++ [y]) (U1 ++ y :: U2) ∧ Srt cls (U1 ++ y :: U2) := by
  refine ⟨?_, Srt.append hU.left (List.pairwise_cons.2 ⟨fun a ha => by have := h2 a ha; omega, hU.right⟩) (fun a ha b hb => ?_)⟩
  · have hsw : Keep cls (U2 ++ [y]) ([y] ++ U2) := Keep.swap (fun a ha b hb => by rw [List.mem_singleton.1 hb]; have := h2 a ha; omega)
    have := Keep.append (Keep.refl (cls := cls) U1) hsw
    simpa using this
  · rcases List.mem_cons.1 hb with rfl | hb
    · exact h1 a ha
    · exact hU.cross a ha b hb
theorem srt_get {U : List Int} (h : Srt cls U) {i j : Nat} {x y : Int} (hij : i ≤ j) (hx : U[i]? = some x) (hy : U[j]? = some y) : cls x ≤ cls y := by
  have hj := lt_of_getElem?_some hy
  rw [List.getElem?_eq_getElem (by omega)] at hx hy
  injection hx with hx
  injection hy with hy
  rcases Nat.lt_or_eq_of_le hij with h1 | h1
  · have := List.pairwise_iff_getElem.1 h i j (by omega) hj h1
    rw [hx, hy] at this; exact this
  · subst h1; rw [← hx, ← hy]; exact Int.le_refl _
end
theorem mem_take_get {α : Type} {l : List α} {k : Nat} {x : α} (h : x ∈ l.take k) : ∃ i : Nat, i < k ∧ l[i]? = some x := by
  obtain ⟨i, hi, e⟩ := List.getElem_of_mem h
  rw [List.length_take] at hi
  rw [List.getElem_take] at e
  exact ⟨i, by omega, by rw [List.getElem?_eq_getElem (by omega), e]⟩
theorem mem_drop_get {α : Type} {l : List α} {k : Nat} {x : α} (h : x ∈ l.drop k) : ∃ i : Nat, k ≤ i ∧ l[i]? = some x := by
  obtain ⟨i, hi, e⟩ := List.getElem_of_mem h
  rw [List.length_drop] at hi
  rw [List.getElem_drop] at e
  exact ⟨k + i, by omega, by rw [List.getElem?_eq_getElem (by omega), e]⟩
end Go.Proofs.YtobcaploncgnbaaGreatDoor
namespace Go.Proofs.YtobcaploncgnbaaGreatDoor

theorem runsFrom_valid (cls : Int → Int) : ∀ (t : List Int) (i : Nat) (st : Option Nat), (∀ s, st = some s → s < i) → ∀ r ∈ runsFrom cls i st t, ∃ lo hi : Nat, r.lo = lo ∧ r.hi = hi ∧ lo < hi ∧ hi ≤ i + t.length
  | [], i, none, _, r, hr => by simp [runsFrom] at hr
  | [], i, some s, h, r, hr => by
    simp only [runsFrom, List.mem_singleton] at hr
    subst hr
    exact ⟨s, i, rfl, rfl, h s rfl, by simp⟩
  | c :: t, i, none, h, r, hr => by
    unfold runsFrom at hr
    split at hr
    · obtain ⟨lo, hi, h1, h2, h3, h4⟩ := runsFrom_valid cls t (i + 1) none (fun s hs => by cases hs) r hr
      exact ⟨lo, hi, h1, h2, h3, by simp at *; omega⟩
    · obtain ⟨lo, hi, h1, h2, h3, h4⟩ := runsFrom_valid cls t (i + 1) (some i) (fun s hs => by injection hs with hs; omega) r hr
      exact ⟨lo, hi, h1, h2, h3, by simp at *; omega⟩
  | c :: t, i, some s, h, r, hr => by
    have hs := h s rfl
    unfold runsFrom at hr
    split at hr
    · rcases List.mem_cons.1 hr with rfl | hr
      · exact ⟨s, i, rfl, rfl, hs, by omega⟩
      · obtain ⟨lo, hi, h1, h2, h3, h4⟩ := runsFrom_valid cls t (i + 1) none (fun s hs => by cases hs) r hr
        exact ⟨lo, hi, h1, h2, h3, by simp at *; omega⟩
    · obtain ⟨lo, hi, h1, h2, h3, h4⟩ := runsFrom_valid cls t (i + 1) (some s) (fun s' hs' => by injection hs' with hs'; omega) r hr
      exact ⟨lo, hi, h1, h2, h3, by simp at *; omega⟩
/-- A part of a text is sorted. -/
def sortSeg (cls : Int → Int) (o : List Int) (lo hi : Nat) : List Int := o.take lo ++ stab cls ((o.drop lo).take (hi - lo)) ++ o.drop hi
theorem sortSeg_length {cls : Int → Int} {o : List Int} {lo hi : Nat} (h1 : lo ≤ hi) (h2 : hi ≤ o.length) : (sortSeg cls o lo hi).length = o.length := by
  unfold sortSeg
  rw [List.length_append, List.length_append, stab_length]
  simp; omega
/-- A text with the parts sorted. -/
def sortParts (cls : Int → Int) (text : List Int) (l : List (Nat × Nat)) : List Int := l.foldl (fun o p => sortSeg cls o p.1 p.2) text
theorem sortParts_length {cls : Int → Int} {text : List Int} : ∀ {l : List (Nat × Nat)}, (∀ p ∈ l, p.1 < p.2 ∧ p.2 ≤ text.length) → (sortParts cls text l).length = text.length := by
  intro l
  unfold sortParts
  induction l generalizing text with
  | nil => intro _; rfl
  | cons p l ih =>
    intro h
    have h1 := h p (List.mem_cons_self ..)
    have hl := sortSeg_length (cls := cls) (o := text) (lo := p.1) (hi := p.2) (by omega) h1.2
    rw [List.foldl_cons, ih (fun q hq => by rw [hl]; exact h q (List.mem_cons_of_mem _ hq)), hl]
theorem sortParts_snoc (cls : Int → Int) (text : List Int) (l : List (Nat × Nat)) (p : Nat × Nat) : sortParts cls text (l ++ [p]) = sortSeg cls (sortParts cls text l) p.1 p.2 := by
  unfold sortParts; rw [List.foldl_append]; rfl
def natPair (r : Rng) : Nat × Nat := (r.lo.toNat, r.hi.toNat)
/-- The text in canonical order, by its runs. -/
def sortRuns (cls : Int → Int) (text : List Int) : List Int := sortParts cls text ((runsFrom cls 0 none text).map natPair)
theorem sortRuns_length (cls : Int → Int) (text : List Int) : (sortRuns cls text).length = text.length := sortParts_length (fun p hp => by
  obtain ⟨r, hr, rfl⟩ := List.mem_map.1 hp
  obtain ⟨lo, hi, h1, h2, h3, h4⟩ := runsFrom_valid cls text 0 none (fun s hs => by cases hs) r hr
  simp only [natPair, h1, h2]
  omega)
end Go.Proofs.YtobcaploncgnbaaGreatDoor
namespace Go.Proofs.YtobcaploncgnbaaGreatDoor

section
variable {cls : Int → Int}
/-- The first run of a text, and the starters, each with the run behind it. -/
def rs (cls : Int → Int) : List Int → List Int × List (Int × List Int)
  | [] => ([], [])
  | c :: t => if cls c = 0 then ([], (c, (rs cls t).1) :: (rs cls t).2) else (c :: (rs cls t).1, (rs cls t).2)
def unL (l : List (Int × List Int)) : List Int := l.flatMap fun p => p.1 :: p.2
theorem unrs (xs : List Int) : (rs cls xs).1 ++ unL (rs cls xs).2 = xs := by
  induction xs with
  | nil => rfl
  | cons c t ih =>
    unfold rs
    split
    · simp only [unL, List.flatMap_cons, List.nil_append, List.cons_append]
      congr 1
    · simp only [List.cons_append]
      rw [ih]
theorem rs_run {run y : List Int} (h : ∀ x ∈ run, cls x ≠ 0) : rs cls (run ++ y) = (run ++ (rs cls y).1, (rs cls y).2) := by
  induction run with
  | nil => simp
  | cons c t ih =>
    have hc := h c (List.mem_cons_self ..)
    rw [List.cons_append, rs, if_neg hc, ih (fun x hx => h x (List.mem_cons_of_mem _ hx))]
    simp
theorem rs_start {c : Int} {t : List Int} (h : cls c = 0) : rs cls (c :: t) = ([], (c, (rs cls t).1) :: (rs cls t).2) := by rw [rs, if_pos h]
theorem rs_non {c : Int} {t : List Int} (h : cls c ≠ 0) : rs cls (c :: t) = (c :: (rs cls t).1, (rs cls t).2) := by rw [rs, if_neg h]
/-- All elements of the runs are no starters; the others are. -/
theorem rs_good (xs : List Int) : (∀ x ∈ (rs cls xs).1, cls x ≠ 0) ∧ ∀ p ∈ (rs cls xs).2, cls p.1 = 0 ∧ ∀ x ∈ p.2, cls x ≠ 0 := by
  induction xs with
  | nil => simp [rs]
  | cons c t ih =>
    unfold rs
    split
    · rename_i h
      refine ⟨by simp, fun p hp => ?_⟩
      rcases List.mem_cons.1 hp with rfl | hp
      · exact ⟨h, ih.1⟩
      · exact ih.2 p hp
    · rename_i h
      refine ⟨fun x hx => ?_, ih.2⟩
      rcases List.mem_cons.1 hx with rfl | hx
      · exact h
      · exact ih.1 x hx
/-- Equal but for the order of unequal classes within runs. -/
inductive REqL (cls : Int → Int) : List (Int × List Int) → List (Int × List Int) → Prop
  | nil : REqL cls [] []
  | cons {s : Int} {r r' : List Int} {l l' : List (Int × List Int)} : Keep cls r r' → REqL cls l l' → REqL cls ((s, r) :: l) ((s, r') :: l')
def REq (cls : Int → Int) (xs ys : List Int) : Prop := Keep cls (rs cls xs).1 (rs cls ys).1 ∧ REqL cls (rs cls xs).2 (rs cls ys).2
theorem REqL.refl : ∀ l : List (Int × List Int), REqL cls l l
  | [] => .nil
  | (_, _) :: l => .cons (Keep.refl _) (REqL.refl l)
theorem REqL.symm {l l' : List (Int × List Int)} (h : REqL cls l l') : REqL cls l' l := by
  induction h with
  | nil => exact .nil
  | cons hk _ ih => exact .cons hk.symm ih
theorem REqL.trans {a b c : List (Int × List Int)} (h : REqL cls a b) (k : REqL cls b c) : REqL cls a c := by
  induction h generalizing c with
  | nil => exact k
  | cons hk _ ih => cases k with
    | cons hk' k' => exact .cons (hk.trans hk') (ih k')
theorem REq.refl (xs : List Int) : REq cls xs xs := ⟨Keep.refl _, REqL.refl _⟩
theorem REq.symm {xs ys : List Int} (h : REq cls xs ys) : REq cls ys xs := ⟨h.1.symm, h.2.symm⟩
theorem REq.trans {a b c : List Int} (h : REq cls a b) (k : REq cls b c) : REq cls a c := ⟨h.1.trans k.1, h.2.trans k.2⟩
/-- How runs join. -/
def jnL (r' : List Int) (l' : List (Int × List Int)) : List (Int × List Int) → List (Int × List Int)
  | [] => []
  | [(s, q)] => (s, q ++ r') :: l'
  | p :: p' :: l => p :: jnL r' l' (p' :: l)
theorem rs_append (a b : List Int) : rs cls (a ++ b) = match (rs cls a).2 with
    | [] => ((rs cls a).1 ++ (rs cls b).1, (rs cls b).2)
    | p :: l => ((rs cls a).1, jnL (rs cls b).1 (rs cls b).2 (p :: l)) := by
  induction a with
  | nil => simp [rs]
  | cons c t ih =>
    by_cases hc : cls c = 0
    · rw [List.cons_append, rs_start hc, rs_start hc, ih]
      cases h : (rs cls t).2 with
      | nil => simp [jnL]
      | cons p l => simp [jnL]
    · rw [List.cons_append, rs_non hc, rs_non hc, ih]
      cases h : (rs cls t).2 with
      | nil => simp
      | cons p l => simp
theorem jnL_congr {r r' : List Int} {m m' : List (Int × List Int)} (hr : Keep cls r r') (hm : REqL cls m m') {l l' : List (Int × List Int)} (h : REqL cls l l') : REqL cls (jnL r m l) (jnL r' m' l') := by
  induction h with
  | nil => exact .nil
  | @cons s q q' l l' hk hl ih =>
    cases hl with
    | nil => exact .cons (Keep.append hk hr) hm
    | cons hk' hl' => exact .cons hk ih
theorem REq.append {a a' b b' : List Int} (h : REq cls a a') (k : REq cls b b') : REq cls (a ++ b) (a' ++ b') := by
  unfold REq
  rw [rs_append, rs_append]
  obtain ⟨h1, h2⟩ := h
  cases ha : (rs cls a).2 with
  | nil =>
    rw [ha] at h2
    cases ha' : (rs cls a').2 with
    | nil => exact ⟨Keep.append h1 k.1, k.2⟩
    | cons p l => rw [ha'] at h2; cases h2
  | cons p l =>
    rw [ha] at h2
    cases ha' : (rs cls a').2 with
    | nil => rw [ha'] at h2; cases h2
    | cons p' l' =>
      rw [ha'] at h2
      exact ⟨h1, jnL_congr k.1 k.2 h2⟩
theorem REq.of_keep {a b : List Int} (h : Keep cls a b) (ha : ∀ x ∈ a, cls x ≠ 0) : REq cls a b := by
  have hb : ∀ x ∈ b, cls x ≠ 0 := fun x hx => ha x (h.mem.1 hx)
  have e1 := rs_run (cls := cls) (y := []) ha
  have e2 := rs_run (cls := cls) (y := []) hb
  rw [List.append_nil] at e1 e2
  unfold REq
  rw [e1, e2]
  simp only [rs, List.append_nil]
  exact ⟨h, .nil⟩
/-- The text in canonical order. -/
def sortL (cls : Int → Int) (l : List (Int × List Int)) : List Int := l.flatMap fun p => p.1 :: stab cls p.2
def sortT (cls : Int → Int) (xs : List Int) : List Int := stab cls (rs cls xs).1 ++ sortL cls (rs cls xs).2
theorem stab_congr {a b : List Int} (h : Keep cls a b) : stab cls a = stab cls b := stab_eq (stab_srt a) (h.symm.trans (stab_keep a))
theorem sortT_congr {xs ys : List Int} (h : REq cls xs ys) : sortT cls xs = sortT cls ys := by
  unfold sortT
  rw [stab_congr h.1]
  congr 1
  have h2 := h.2
  unfold sortL
  generalize (rs cls xs).2 = l at h2 ⊢
  generalize (rs cls ys).2 = l' at h2 ⊢
  induction h2 with
  | nil => rfl
  | cons hk _ ih => rw [List.flatMap_cons, List.flatMap_cons, stab_congr hk, ih]
theorem stab_nil : stab cls [] = [] := by simp [stab]
theorem sortT_start {c : Int} {t : List Int} (h : cls c = 0) : sortT cls (c :: t) = c :: sortT cls t := by
  unfold sortT
  rw [rs_start h]
  simp [sortL, stab_nil]
theorem sortT_run {run y : List Int} (h : ∀ x ∈ run, cls x ≠ 0) (hy : (rs cls y).1 = []) : sortT cls (run ++ y) = stab cls run ++ sortT cls y := by
  unfold sortT
  rw [rs_run h, hy, List.append_nil, stab_nil, List.nil_append]
theorem sortT_nil : sortT cls [] = [] := by simp [sortT, rs, sortL, stab_nil]
theorem sortT_all {run : List Int} (h : ∀ x ∈ run, cls x ≠ 0) : sortT cls run = stab cls run := by
  have := sortT_run (y := []) h rfl
  rw [List.append_nil, sortT_nil, List.append_nil] at this
  exact this
theorem stab_mem {xs : List Int} {x : Int} : x ∈ stab cls xs ↔ x ∈ xs := (stab_perm xs).mem_iff
theorem REq.sort (xs : List Int) : REq cls xs (sortT cls xs) := by
  conv => lhs; rw [← unrs (cls := cls) xs]
  unfold sortT
  obtain ⟨g1, g2⟩ := rs_good (cls := cls) xs
  refine REq.append (REq.of_keep (stab_keep _) g1) ?_
  unfold sortL unL
  generalize (rs cls xs).2 = l at g2
  clear g1
  induction l with
  | nil => exact REq.refl _
  | cons p l ih =>
    have hp := g2 p (List.mem_cons_self ..)
    have ih' := ih (fun q hq => g2 q (List.mem_cons_of_mem _ hq))
    rw [List.flatMap_cons, List.flatMap_cons]
    refine REq.append ?_ ih'
    exact REq.append (a := [p.1]) (a' := [p.1]) (REq.refl _) (REq.of_keep (stab_keep _) hp.2)
theorem sortT_idem (xs : List Int) : sortT cls (sortT cls xs) = sortT cls xs := (sortT_congr (REq.sort xs)).symm
theorem sortT_mem {xs : List Int} {x : Int} : x ∈ sortT cls xs ↔ x ∈ xs := by
  conv => rhs; rw [← unrs (cls := cls) xs]
  unfold sortT sortL unL
  simp only [List.mem_append, stab_mem, List.mem_flatMap, List.mem_cons]
theorem jnL_start (s : Int) (r : List Int) (m : List (Int × List Int)) : ∀ (p : Int × List Int) (l : List (Int × List Int)), jnL [] ((s, r) :: m) (p :: l) = p :: l ++ ((s, r) :: m)
  | (s', q), [] => by simp [jnL]
  | p, p' :: l => by rw [jnL, jnL_start s r m p' l]; rfl
/-- A text in front of a starter is sorted by itself. -/
theorem sortT_join (a : List Int) {s : Int} (t : List Int) (h : cls s = 0) : sortT cls (a ++ s :: t) = sortT cls a ++ sortT cls (s :: t) := by
  unfold sortT
  rw [rs_append, rs_start h]
  cases ha : (rs cls a).2 with
  | nil => simp [sortL, stab_nil]
  | cons p l =>
    simp only
    rw [jnL_start]
    simp [sortL, stab_nil]
/-- Replacing respects the order class by class, if what is no starter stays. -/
theorem REq.flatMap {F : Int → List Int} {xs ys : List Int} (h : REq cls xs ys) (hF : ∀ x ∈ xs, cls x ≠ 0 → F x = [x]) : REq cls (xs.flatMap F) (ys.flatMap F) := by
  have hone : ∀ (r : List Int), (∀ x ∈ r, F x = [x]) → r.flatMap F = r := by
    intro r
    induction r with
    | nil => intro _; rfl
    | cons x r ih =>
      intro hr
      rw [List.flatMap_cons, hr x (List.mem_cons_self ..), ih (fun y hy => hr y (List.mem_cons_of_mem _ hy))]
      rfl
  obtain ⟨gx1, gx2⟩ := rs_good (cls := cls) xs
  have ex := unrs (cls := cls) xs
  have ey := unrs (cls := cls) ys
  have hmx : ∀ x, x ∈ (rs cls xs).1 ∨ x ∈ unL (rs cls xs).2 → x ∈ xs := fun x hx => by rw [← ex]; exact List.mem_append.2 hx
  rw [← ex, ← ey, List.flatMap_append, List.flatMap_append]
  obtain ⟨h1, h2⟩ := h
  have hr1 : ∀ x ∈ (rs cls xs).1, F x = [x] := fun x hx => hF x (hmx x (.inl hx)) (gx1 x hx)
  refine REq.append ?_ ?_
  · rw [hone _ hr1, hone _ (fun x hx => hr1 x (h1.mem.1 hx))]
    exact REq.of_keep h1 gx1
  · have hr2 : ∀ p ∈ (rs cls xs).2, ∀ x ∈ p.2, F x = [x] := fun p hp x hx => hF x (hmx x (.inr (List.mem_flatMap.2 ⟨p, hp, List.mem_cons_of_mem _ hx⟩))) ((gx2 p hp).2 x hx)
    unfold unL
    generalize (rs cls xs).2 = l at h2 gx2 hr2
    generalize (rs cls ys).2 = l' at h2
    clear ex ey hmx hr1 h1 gx1
    induction h2 with
    | nil => exact REq.refl _
    | @cons s r r' l l' hk hl ih =>
      have hr := hr2 (s, r) (List.mem_cons_self ..)
      have ih' := ih (fun p hp => gx2 p (List.mem_cons_of_mem _ hp)) (fun p hp => hr2 p (List.mem_cons_of_mem _ hp))
      rw [List.flatMap_cons, List.flatMap_cons, List.flatMap_append, List.flatMap_append]
      refine REq.append ?_ ih'
      rw [List.flatMap_cons, List.flatMap_cons, hone r hr, hone r' (fun x hx => hr x (hk.mem.1 hx))]
      exact REq.append (REq.refl _) (REq.of_keep hk (gx2 (s, r) (List.mem_cons_self ..)).2)

/-- The runs as they are found make the canonical order. -/
theorem sortSeg_mid {P0 run R : List Int} {lo hi : Nat} (h1 : lo = P0.length) (h2 : hi = P0.length + run.length) : sortSeg cls (P0 ++ run ++ R) lo hi = P0 ++ stab cls run ++ R := by
  subst h1
  subst h2
  unfold sortSeg
  have e1 : (P0 ++ run ++ R).take P0.length = P0 := by rw [List.append_assoc, List.take_left' rfl]
  have e2 : (P0 ++ run ++ R).drop P0.length = run ++ R := by rw [List.append_assoc, List.drop_left' rfl]
  have e3 : (P0 ++ run ++ R).drop (P0.length + run.length) = R := by
    rw [List.drop_left' (by simp)]
  rw [e1, e2, e3, List.take_left' (by omega)]
theorem parts_none : ∀ (t P : List Int), sortParts cls (P ++ t) ((runsFrom cls P.length none t).map natPair) = P ++ sortT cls t ∧
    ∀ (P0 run : List Int), P = P0 ++ run → (∀ x ∈ run, cls x ≠ 0) → sortParts cls (P ++ t) ((runsFrom cls P.length (some P0.length) t).map natPair) = P0 ++ sortT cls (run ++ t)
  | [], P => by
    refine ⟨by simp [runsFrom, sortParts, sortT_nil], fun P0 run hP hr => ?_⟩
    subst hP
    simp only [runsFrom, List.map_cons, List.map_nil, sortParts, List.foldl_cons, List.foldl_nil, natPair, Int.toNat_natCast]
    have := sortSeg_mid (cls := cls) (P0 := P0) (run := run) (R := []) (lo := P0.length) (hi := (P0 ++ run).length) rfl (by simp)
    simp only [List.append_nil] at this ⊢
    rw [this, sortT_all hr]
  | c :: t, P => by
    have ih := parts_none t (P ++ [c])
    have hl : (P ++ [c]).length = P.length + 1 := by simp
    have ea : P ++ [c] ++ t = P ++ c :: t := by simp
    rw [hl, ea] at ih
    by_cases hc : cls c = 0
    · refine ⟨?_, fun P0 run hP hr => ?_⟩
      · rw [runsFrom, if_pos hc, ih.1, sortT_start hc]; simp
      · rw [runsFrom, if_pos hc, List.map_cons]
        subst hP
        have e : sortParts cls (P0 ++ run ++ c :: t) (natPair ⟨(P0.length : Nat), ((P0 ++ run).length : Nat)⟩ :: (runsFrom cls ((P0 ++ run).length + 1) none t).map natPair) =
            sortParts cls (P0 ++ stab cls run ++ [c] ++ t) ((runsFrom cls (P0 ++ stab cls run ++ [c]).length none t).map natPair) := by
          unfold sortParts
          rw [List.foldl_cons]
          simp only [natPair, Int.toNat_natCast]
          rw [sortSeg_mid rfl (by simp)]
          congr 1
          · simp
          · congr 2
            simp [stab_length]
            omega
        rw [e, (parts_none t (P0 ++ stab cls run ++ [c])).1, sortT_run hr (by rw [rs_start hc]), sortT_start hc]
        simp
    · refine ⟨?_, fun P0 run hP hr => ?_⟩
      · rw [runsFrom, if_neg hc, ih.2 P [c] rfl (by simpa using hc)]; simp
      · subst hP
        rw [runsFrom, if_neg hc, ih.2 P0 (run ++ [c]) (by simp) (fun x hx => by
          rcases List.mem_append.1 hx with hx | hx
          · exact hr x hx
          · rw [List.mem_singleton.1 hx]; exact hc)]
        simp
theorem sortRuns_eq (cls : Int → Int) (xs : List Int) : sortRuns cls xs = sortT cls xs := by
  have := (parts_none (cls := cls) xs []).1
  simpa [sortRuns] using this
end
end Go.Proofs.YtobcaploncgnbaaGreatDoor
namespace Go.Proofs.YtobcaploncgnbaaGreatDoor

theorem full_none {l : List Mp} {cp : Bool} (h : Ends l cp) {F : Int → List Int} (hF : FullEq l cp F) (c : Int) : ∀ e ∈ F c, onceOf l e cp = none := by
  induction h c with
  | intro c _ ih =>
    intro e he
    rw [hF c] at he
    cases ho : onceOf l c cp with
    | none =>
      rw [ho] at he
      rw [List.mem_singleton.1 he, ho]
    | some to =>
      rw [ho] at he
      obtain ⟨x, hx, hex⟩ := List.mem_flatMap.1 he
      exact ih x ⟨to, ho, hx⟩ e hex
theorem full_fix {l : List Mp} {cp : Bool} {F : Int → List Int} (hF : FullEq l cp F) {c : Int} (h : onceOf l c cp = none) : F c = [c] := by
  rw [hF c, h]
theorem flatMap_fix {F : Int → List Int} : ∀ {xs : List Int}, (∀ x ∈ xs, F x = [x]) → xs.flatMap F = xs
  | [], _ => rfl
  | x :: r, h => by rw [List.flatMap_cons, h x (List.mem_cons_self ..), flatMap_fix (fun e he => h e (List.mem_cons_of_mem _ he))]; rfl
theorem full_again {l : List Mp} {cp : Bool} (h : Ends l cp) {F : Int → List Int} (hF : FullEq l cp F) (c : Int) : (F c).flatMap F = F c :=
  flatMap_fix (fun e he => full_fix hF (full_none h hF c e he))
theorem full_both {l : List Mp} (h : Ends l true) {F G : Int → List Int} (hF : FullEq l false F) (hG : FullEq l true G) (c : Int) : (F c).flatMap G = G c := by
  induction h c with
  | intro c _ ih =>
    rw [hF c]
    cases ho : onceOf l c false with
    | none => simp
    | some to =>
      have ho' := onceOf_false ho
      rw [hG c, ho']
      simp only [List.flatMap_assoc]
      exact flatMap_congr' (fun e he => ih e ⟨to, ho', he⟩)
theorem once_nonstarter {n : Nrm} (g : Good n) {c : Int} (hc : classOf n.classes c ≠ 0) (h : onceOf n.decomp c false = none) (cp : Bool) : onceOf n.decomp c cp = none := by
  cases cp
  · exact h
  unfold onceOf at h ⊢
  split at h
  · cases h
  · rename_i hk
    rw [if_neg hk]
    unfold mapOf at h ⊢
    cases hf : n.decomp.find? (fun m => decide (m.src = c)) with
    | none => rfl
    | some m =>
      rw [hf] at h
      simp only at h
      have hm := List.mem_of_find?_eq_some hf
      have hs : m.src = c := by simpa using List.find?_some hf
      cases hp : plainTag m
      · exact absurd (by rw [← hs]; exact g.tagged m hm hp) hc
      · rw [hp] at h; cases h
/-- A text is decomposed. -/
def textE (cls : Int → Int) (F : Int → List Int) (text : List Int) : List Int := sortRuns cls (text.flatMap F)
theorem textE_eq (cls : Int → Int) (F : Int → List Int) (text : List Int) : textE cls F text = sortT cls (text.flatMap F) := sortRuns_eq _ _
theorem textE_none {n : Nrm} (g : Good n) {cp : Bool} {F : Int → List Int} (hF : FullEq n.decomp cp F) (text : List Int) : ∀ e ∈ textE (classOf n.classes) F text, onceOf n.decomp e cp = none := fun e he => by
  rw [textE_eq] at he
  obtain ⟨x, _, hx⟩ := List.mem_flatMap.1 (sortT_mem.1 he)
  exact full_none (ends_any g.ends cp) hF x e hx
theorem textE_twice {n : Nrm} (g : Good n) {cp : Bool} {F : Int → List Int} (hF : FullEq n.decomp cp F) (text : List Int) : textE (classOf n.classes) F (textE (classOf n.classes) F text) = textE (classOf n.classes) F text := by
  have h := flatMap_fix (F := F) (fun x hx => full_fix hF (textE_none g hF text x hx))
  rw [textE_eq, h, textE_eq, sortT_idem]
theorem textE_kinds {n : Nrm} (g : Good n) {F G : Int → List Int} (hF : FullEq n.decomp false F) (hG : FullEq n.decomp true G) (text : List Int) :
    textE (classOf n.classes) G (textE (classOf n.classes) F text) = textE (classOf n.classes) G text := by
  rw [textE_eq, textE_eq, textE_eq]
  have h1 : REq (classOf n.classes) ((text.flatMap F).flatMap G) ((sortT (classOf n.classes) (text.flatMap F)).flatMap G) :=
    REq.flatMap (REq.sort _) (fun x hx hc => by
      obtain ⟨y, _, hy⟩ := List.mem_flatMap.1 hx
      exact full_fix hG (once_nonstarter g hc (full_none (ends_any g.ends false) hF y x hy) true))
  rw [← sortT_congr h1, List.flatMap_assoc]
  rw [flatMap_congr' (fun e _ => full_both g.ends hF hG e)]
theorem textE_joins {cls : Int → Int} {F : Int → List Int} {a : List Int} {x : Int} {b : List Int} {s : Int} {t : List Int} (hx : F x = s :: t) (hs : cls s = 0) :
    textE cls F (a ++ x :: b) = textE cls F a ++ textE cls F (x :: b) := by
  rw [textE_eq, textE_eq, textE_eq, List.flatMap_append, List.flatMap_cons, hx, List.cons_append, sortT_join _ _ hs]
end Go.Proofs.YtobcaploncgnbaaGreatDoor
namespace Go.Proofs.YtobcaploncgnbaaGreatDoor

/-- In canonical order, neighbour by neighbour. -/
def Ordd (cls : Int → Int) : List Int → Prop
  | a :: b :: t => (cls b = 0 ∨ cls a ≤ cls b) ∧ Ordd cls (b :: t)
  | _ => True
section
variable {cls : Int → Int}
theorem Ordd.tail {a : Int} {t : List Int} (h : Ordd cls (a :: t)) : Ordd cls t := by
  cases t with
  | nil => trivial
  | cons b t => exact h.2
theorem ordd_mid {z w : Int} {B : List Int} : ∀ {A : List Int}, Ordd cls (A ++ z :: w :: B) ↔ Ordd cls (A ++ [z]) ∧ (cls w = 0 ∨ cls z ≤ cls w) ∧ Ordd cls (w :: B)
  | [] => by simp [Ordd]
  | [a] => by simp [Ordd]
  | a :: b :: A => by
    have := ordd_mid (z := z) (w := w) (B := B) (A := b :: A)
    simp only [List.cons_append] at this ⊢
    simp only [Ordd, this, and_assoc]
theorem ordd_run {y : List Int} (hy : Ordd cls y) (h0 : ∀ s t, y = s :: t → cls s = 0) : ∀ {r : List Int}, Srt cls r → Ordd cls (r ++ y)
  | [], _ => hy
  | [a], _ => by
    cases y with
    | nil => trivial
    | cons s t => exact ⟨.inl (h0 s t rfl), hy⟩
  | a :: b :: r, h => by
    obtain ⟨h1, h2⟩ := List.pairwise_cons.1 h
    exact ⟨.inr (h1 b (List.mem_cons_self ..)), ordd_run hy h0 h2⟩
theorem ordd_start (hn : ∀ x, 0 ≤ cls x) {a : Int} {t : List Int} (ha : cls a = 0) (h : Ordd cls t) : Ordd cls (a :: t) := by
  cases t with
  | nil => trivial
  | cons b t => exact ⟨.inr (by rw [ha]; exact hn b), h⟩
theorem ordd_unL (hn : ∀ x, 0 ≤ cls x) : ∀ {l : List (Int × List Int)}, (∀ p ∈ l, cls p.1 = 0 ∧ Srt cls p.2) → Ordd cls (unL l) ∧ ∀ s t, unL l = s :: t → cls s = 0
  | [], _ => ⟨trivial, fun s t h => by simp [unL] at h⟩
  | p :: l, h => by
    obtain ⟨i1, i2⟩ := ordd_unL hn (l := l) (fun q hq => h q (List.mem_cons_of_mem _ hq))
    obtain ⟨h1, h2⟩ := h p (List.mem_cons_self ..)
    have e : unL (p :: l) = p.1 :: (p.2 ++ unL l) := by simp [unL]
    rw [e]
    exact ⟨ordd_start hn h1 (ordd_run i1 i2 h2), fun s t hs => by injection hs with h3 _; rw [← h3]; exact h1⟩
theorem ordd_sortT (hn : ∀ x, 0 ≤ cls x) (xs : List Int) : Ordd cls (sortT cls xs) := by
  have hg := (rs_good (cls := cls) xs).2
  have e : sortL cls (rs cls xs).2 = unL ((rs cls xs).2.map fun p => (p.1, stab cls p.2)) := by
    unfold sortL unL
    rw [List.flatMap_map]
  obtain ⟨h1, h2⟩ := ordd_unL hn (l := (rs cls xs).2.map fun p => (p.1, stab cls p.2)) (fun q hq => by
    obtain ⟨p, hp, rfl⟩ := List.mem_map.1 hq
    exact ⟨(hg p hp).1, stab_srt _⟩)
  unfold sortT
  rw [e]
  exact ordd_run h1 h2 (stab_srt _)
theorem rs_ordd (hn : ∀ x, 0 ≤ cls x) : ∀ {xs : List Int}, Ordd cls xs → Srt cls (rs cls xs).1 ∧ ∀ p ∈ (rs cls xs).2, Srt cls p.2
  | [], _ => ⟨Srt.nil, fun p hp => by simp [rs] at hp⟩
  | c :: t, h => by
    obtain ⟨h1, h2⟩ := rs_ordd hn (xs := t) h.tail
    by_cases hc : cls c = 0
    · rw [rs_start hc]
      refine ⟨Srt.nil, fun p hp => ?_⟩
      rcases List.mem_cons.1 hp with e | e
      · rw [e]; exact h1
      · exact h2 p e
    · rw [rs_non hc]
      refine ⟨List.pairwise_cons.2 ⟨fun y hy => ?_, h1⟩, h2⟩
      cases t with
      | nil => simp [rs] at hy
      | cons b t =>
        by_cases hb : cls b = 0
        · rw [rs_start hb] at hy; simp at hy
        · rw [rs_non hb] at hy h1
          have hcb : cls c ≤ cls b := by rcases h.1 with e | e; exact absurd e hb; exact e
          rcases List.mem_cons.1 hy with e | e
          · rw [e]; exact hcb
          · exact Int.le_trans hcb ((List.pairwise_cons.1 h1).1 y e)
theorem stab_of_srt {xs : List Int} (h : Srt cls xs) : stab cls xs = xs := (stab_eq h (Keep.refl xs)).symm
theorem sortT_of_ordd (hn : ∀ x, 0 ≤ cls x) {xs : List Int} (h : Ordd cls xs) : sortT cls xs = xs := by
  obtain ⟨h1, h2⟩ := rs_ordd hn h
  have e : sortL cls (rs cls xs).2 = unL (rs cls xs).2 := by
    unfold sortL unL
    generalize (rs cls xs).2 = l at *
    induction l with
    | nil => rfl
    | cons p l ih =>
      rw [List.flatMap_cons, List.flatMap_cons, stab_of_srt (h2 p (List.mem_cons_self ..)), ih (fun q hq => h2 q (List.mem_cons_of_mem _ hq))]
  unfold sortT
  rw [stab_of_srt h1, e, unrs]

/-- x inserted from the right (the list is reversed). -/
def insRev (cls : Int → Int) (x : Int) : List Int → List Int
  | [] => [x]
  | y :: r => if 0 < cls x ∧ cls x < cls y then y :: insRev cls x r else x :: y :: r
def insR (cls : Int → Int) (x : Int) (l : List Int) : List Int := (insRev cls x l.reverse).reverse
/-- The text in canonical order, by inserting. -/
def refSort (cls : Int → Int) (text : List Int) : List Int := text.foldl (fun out x => insR cls x out) []
theorem insR_nil (x : Int) : insR cls x [] = [x] := rfl
theorem insR_move {x y : Int} {P : List Int} (h0 : 0 < cls x) (h : cls x < cls y) : insR cls x (P ++ [y]) = insR cls x P ++ [y] := by
  unfold insR
  simp [insRev, h0, h]
theorem insR_stay {x y : Int} {P : List Int} (h : ¬ (0 < cls x ∧ cls x < cls y)) : insR cls x (P ++ [y]) = P ++ [y] ++ [x] := by
  unfold insR
  simp [insRev, h]
theorem insR_low {x : Int} (h : ¬ 0 < cls x) (P : List Int) : insR cls x P = P ++ [x] := by
  unfold insR
  cases hp : P.reverse with
  | nil => simp at hp; simp [hp, insRev]
  | cons y r =>
    have : P = r.reverse ++ [y] := by rw [← List.reverse_reverse P, hp]; simp
    rw [this]; simp [insRev, h]
theorem refSort_snoc (t : List Int) (x : Int) : refSort cls (t ++ [x]) = insR cls x (refSort cls t) := by
  unfold refSort
  rw [List.foldl_append]; rfl
theorem insR_length (x : Int) (l : List Int) : (insR cls x l).length = l.length + 1 := by
  unfold insR
  rw [List.length_reverse, ← List.length_reverse (as := l)]
  generalize l.reverse = r
  induction r with
  | nil => rfl
  | cons y r ih =>
    unfold insRev
    split
    · simp [ih]
    · simp
theorem refSort_length (t : List Int) : (refSort cls t).length = t.length := by
  unfold refSort
  have : ∀ (t o : List Int), (t.foldl (fun out x => insR cls x out) o).length = o.length + t.length := by
    intro t
    induction t with
    | nil => intro o; simp
    | cons x t ih => intro o; rw [List.foldl_cons, ih, insR_length]; simp; omega
  rw [this]; simp
theorem insR_spec (x : Int) (hx : 0 < cls x) : ∀ (n : Nat) (S : List Int), S.length = n → Ordd cls S → Ordd cls (insR cls x S) ∧ REq cls (S ++ [x]) (insR cls x S) ∧ ∃ q, (insR cls x S).getLast? = some q ∧ (q = x ∨ S.getLast? = some q)
  | 0, S, hl, _ => by
    have : S = [] := List.length_eq_zero_iff.1 hl
    subst this
    exact ⟨trivial, REq.refl _, x, rfl, .inl rfl⟩
  | n + 1, S, hl, ho => by
    obtain ⟨P, y, rfl⟩ := split_last (xs := S) (by omega)
    by_cases hxy : cls x < cls y
    · rw [insR_move hx hxy]
      have hoP : Ordd cls P := by
        rcases List.eq_nil_or_concat P with e | ⟨A, z, e⟩
        · rw [e]; trivial
        · rw [e, List.concat_eq_append] at ho ⊢
          rw [List.append_assoc] at ho
          exact (ordd_mid.1 ho).1
      obtain ⟨i1, i2, q, hq1, hq2⟩ := insR_spec x hx n P (by simpa using hl) hoP
      refine ⟨?_, ?_, y, by simp, .inr (by simp)⟩
      · rcases List.eq_nil_or_concat (insR cls x P) with e | ⟨A, z, e⟩
        · rw [e]; trivial
        · rw [List.concat_eq_append] at e
          rw [e] at i1 hq1
          simp at hq1
          rw [e, List.append_assoc]
          refine ordd_mid.2 ⟨i1, ?_, trivial⟩
          rw [hq1]
          rcases hq2 with e2 | e2
          · right; rw [e2]; omega
          · rcases List.eq_nil_or_concat P with e3 | ⟨A3, z3, e3⟩
            · rw [e3] at e2; simp at e2
            · rw [List.concat_eq_append] at e3
              rw [e3] at e2 ho
              simp at e2
              rw [List.append_assoc] at ho
              rw [← e2]
              exact (ordd_mid.1 ho).2.1
      · have h1 : REq cls (P ++ [y] ++ [x]) (P ++ [x] ++ [y]) := by
          rw [List.append_assoc, List.append_assoc]
          refine REq.append (REq.refl _) (REq.of_keep ?_ ?_)
          · exact Keep.pair (a := []) (b := []) (u := y) (x := x) (by omega)
          · intro z hz
            simp at hz
            rcases hz with e | e <;> rw [e] <;> omega
        exact h1.trans (REq.append i2 (REq.refl _))
    · rw [insR_stay (by omega)]
      refine ⟨?_, REq.refl _, x, by simp, .inl rfl⟩
      rw [List.append_assoc]
      exact ordd_mid.2 ⟨ho, .inr (by omega), trivial⟩
theorem sortT_snoc (hn : ∀ x, 0 ≤ cls x) (t : List Int) (x : Int) : sortT cls (t ++ [x]) = insR cls x (sortT cls t) := by
  have hn' := hn x
  by_cases hx : 0 < cls x
  · obtain ⟨h1, h2, _⟩ := insR_spec x hx _ (sortT cls t) rfl (ordd_sortT hn t)
    rw [← sortT_of_ordd hn h1]
    exact sortT_congr ((REq.append (REq.sort t) (REq.refl [x])).trans h2)
  · have h0 : cls x = 0 := by omega
    rw [insR_low hx, sortT_join t [] h0, sortT_start h0, sortT_nil]
theorem refSort_from (hn : ∀ x, 0 ≤ cls x) : ∀ (b a : List Int), b.foldl (fun out x => insR cls x out) (sortT cls a) = sortT cls (a ++ b)
  | [], a => by simp
  | x :: b, a => by
    rw [List.foldl_cons, ← sortT_snoc hn, refSort_from hn b]
    simp
theorem refSort_eq (hn : ∀ x, 0 ≤ cls x) (t : List Int) : refSort cls t = sortT cls t := by
  have := refSort_from hn t []
  rw [sortT_nil, List.nil_append] at this
  exact this
end
theorem classOf_nonneg {l : List Span} (h : ordCheck l = 0) (c : Int) : 0 ≤ classOf l c := by
  unfold classOf
  split
  · next s hs =>
    have := spanBad_false (List.any_eq_false.1 (ordCheck_zero h).1 s (List.mem_of_find?_eq_some hs) |> eq_false_of_ne_true)
    omega
  · exact Int.le_refl _
end Go.Proofs.YtobcaploncgnbaaGreatDoor
