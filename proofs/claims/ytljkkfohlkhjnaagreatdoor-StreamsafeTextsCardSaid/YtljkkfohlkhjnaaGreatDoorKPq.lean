/- Sorting stably by classes. No program. Sorting the runs of a text. No program. Canonical order: texts whose runs have the same elements in the same order class by class. No program. The laws of the decomposed text. No program. Canonical order by inserting one element after the other. No program. Stream-safe texts. No program. The reference's table of full decompositions is right. No program. -/
import Derived.Test.YtljkkfohlkhjnaaGreatDoorKPl
namespace Go.Proofs.YtljkkfohlkhjnaaGreatDoor

/-- Elements of equal class keep their order (and none is lost). -/
def Keep (cls : Int → Int) (xs ys : List Int) : Prop := ∀ v, ys.filter (fun c => cls c == v) = xs.filter (fun c => cls c == v)
def Srt (cls : Int → Int) (xs : List Int) : Prop := xs.Pairwise fun a b => cls a ≤ cls b
section
variable {cls : Int → Int}
theorem Keep.refl (xs : List Int) : Keep cls xs xs := fun _ => rfl
theorem Keep.trans {a b c : List Int} (h : Keep cls a b) (k : Keep cls b c) : Keep cls a c := fun v => (k v).trans (h v)
theorem Keep.symm {a b : List Int} (h : Keep cls a b) : Keep cls b a := fun v => (h v).symm
theorem Keep.append {a a' b b' : List Int} (h : Keep cls a a') (k : Keep cls b b') : Keep cls (a ++ b) (a' ++ b') := fun v => by rw [List.filter_append, List.filter_append, h v, k v]
theorem Keep.swap {U V : List Int} (h : ∀ x ∈ U, ∀ y ∈ V, cls x ≠ cls y) : Keep cls (U ++ V) (V ++ U) := fun v => by
  rw [List.filter_append, List.filter_append]
  by_cases hU : U.filter (fun c => cls c == v) = []
  · rw [hU]; simp
  · have hV : V.filter (fun c => cls c == v) = [] := by
      obtain ⟨x, hx⟩ := List.exists_mem_of_ne_nil _ hU
      obtain ⟨hxU, hxv⟩ := List.mem_filter.1 hx
      rw [List.filter_eq_nil_iff]
      intro y hy hyv
      exact h x hxU y hy (by simp at hxv hyv; rw [hxv, hyv])
    rw [hV]; simp
theorem Keep.mem {a b : List Int} (h : Keep cls a b) {x : Int} : x ∈ b ↔ x ∈ a := by
  have h1 : ∀ l : List Int, x ∈ l ↔ x ∈ l.filter (fun c => cls c == cls x) := fun l => by simp [List.mem_filter]
  rw [h1 b, h1 a, h (cls x)]
theorem stable_unique : ∀ {ys zs : List Int}, Srt cls ys → Srt cls zs → Keep cls ys zs → ys = zs
  | [], zs, _, _, h => by
    cases zs with
    | nil => rfl
    | cons z zs => exact absurd (h.mem.1 (List.mem_cons_self ..)) (by simp)
  | y :: ys, [], _, _, h => absurd (h.mem.2 (List.mem_cons_self ..)) (by simp)
  | y :: ys, z :: zs, hy, hz, h => by
    obtain ⟨y1, y2⟩ := List.pairwise_cons.1 hy
    obtain ⟨z1, z2⟩ := List.pairwise_cons.1 hz
    have hyz : cls y = cls z := by
      have a : cls y ≤ cls z := by
        rcases List.mem_cons.1 (h.mem.1 (List.mem_cons_self (a := z) ..)) with e | e
        · rw [e]; exact Int.le_refl _
        · exact y1 z e
      have b : cls z ≤ cls y := by
        rcases List.mem_cons.1 (h.mem.2 (List.mem_cons_self (a := y) ..)) with e | e
        · rw [e]; exact Int.le_refl _
        · exact z1 y e
      omega
    have hv := h (cls y)
    simp only [List.filter_cons, hyz, beq_self_eq_true, if_true, List.cons.injEq] at hv
    have e : z = y := hv.1
    subst e
    congr 1
    refine stable_unique y2 z2 (fun v => ?_)
    have := h v
    simp only [List.filter_cons] at this
    split at this
    · simpa using this
    · exact this
def leC (cls : Int → Int) (a b : Int) : Bool := decide (cls a ≤ cls b)
/-- The stably sorted list. -/
def stab (cls : Int → Int) (xs : List Int) : List Int := xs.mergeSort (leC cls)
theorem leC_trans (a b c : Int) (h : leC cls a b = true) (k : leC cls b c = true) : leC cls a c = true := by
  simp only [leC, decide_eq_true_eq] at *; omega
theorem leC_total (a b : Int) : (leC cls a b || leC cls b a) = true := by
  simp only [leC, Bool.or_eq_true, decide_eq_true_eq]; omega
theorem stab_srt (xs : List Int) : Srt cls (stab cls xs) := by
  have := List.pairwise_mergeSort (le := leC cls) leC_trans leC_total xs
  exact this.imp (fun h => by simpa [leC] using h)
theorem stab_perm (xs : List Int) : (stab cls xs).Perm xs := List.mergeSort_perm _ _
theorem stab_keep (xs : List Int) : Keep cls xs (stab cls xs) := fun v => by
  have hs : (xs.filter (fun c => cls c == v)).Sublist (stab cls xs) := by
    refine List.sublist_mergeSort leC_trans leC_total ?_ List.filter_sublist
    rw [List.pairwise_filter]
    refine List.pairwise_of_forall (fun a b ha hb => ?_)
    simp only [beq_iff_eq] at ha hb
    simp [leC, ha, hb]
  have h2 := hs.filter (fun c => cls c == v)
  rw [List.filter_filter] at h2
  simp only [Bool.and_self] at h2
  refine (h2.eq_of_length ?_).symm
  exact ((stab_perm xs).filter _).length_eq.symm
theorem stab_eq {xs ys : List Int} (h : Srt cls ys) (k : Keep cls xs ys) : ys = stab cls xs := stable_unique h (stab_srt xs) (k.symm.trans (stab_keep xs))
theorem stab_length (xs : List Int) : (stab cls xs).length = xs.length := (stab_perm xs).length_eq
theorem Srt.append {a b : List Int} (ha : Srt cls a) (hb : Srt cls b) (h : ∀ x ∈ a, ∀ y ∈ b, cls x ≤ cls y) : Srt cls (a ++ b) := List.pairwise_append.2 ⟨ha, hb, h⟩
theorem Srt.left {a b : List Int} (h : Srt cls (a ++ b)) : Srt cls a := (List.pairwise_append.1 h).1
theorem Srt.right {a b : List Int} (h : Srt cls (a ++ b)) : Srt cls b := (List.pairwise_append.1 h).2.1
theorem Srt.cross {a b : List Int} (h : Srt cls (a ++ b)) : ∀ x ∈ a, ∀ y ∈ b, cls x ≤ cls y := (List.pairwise_append.1 h).2.2
theorem Srt.nil : Srt cls [] := List.Pairwise.nil
theorem Srt.one (x : Int) : Srt cls [x] := by simp [Srt]
/-- Two neighbours that are out of order are exchanged. -/
theorem Keep.pair {a b : List Int} {u x : Int} (h : cls u ≠ cls x) : Keep cls (a ++ u :: x :: b) (a ++ x :: u :: b) := by
  have h1 : Keep cls ([u] ++ [x]) ([x] ++ [u]) := Keep.swap (fun p hp q hq => by
    rw [List.mem_singleton.1 hp, List.mem_singleton.1 hq]; exact h)
  have := Keep.append (Keep.refl a) (Keep.append h1 (Keep.refl b))
  simpa using this
end

theorem getElem?_mid {α : Type} (a : List α) (x : α) (b : List α) : (a ++ x :: b)[a.length]? = some x := by simp
theorem set_mid {α : Type} (a : List α) (x y : α) (b : List α) : (a ++ x :: b).set a.length y = a ++ y :: b := by simp
theorem split_at {α : Type} {xs : List α} {i : Nat} (h : i ≤ xs.length) : ∃ a b, xs = a ++ b ∧ a.length = i := ⟨xs.take i, xs.drop i, (List.take_append_drop i xs).symm, by simp; omega⟩
theorem split_last {α : Type} {xs : List α} (h : 0 < xs.length) : ∃ a x, xs = a ++ [x] := by
  have hne : xs ≠ [] := by rintro rfl; simp at h
  exact ⟨xs.dropLast, xs.getLast hne, (List.dropLast_concat_getLast hne).symm⟩
theorem split_first {α : Type} {xs : List α} (h : 0 < xs.length) : ∃ x a, xs = x :: a := by
  cases xs with
  | nil => simp at h
  | cons x a => exact ⟨x, a, rfl⟩
theorem swap_adj {α : Type} {L A B : List α} {u x : α} (h : L = A ++ u :: x :: B) : (L.set (A.length + 1) u).set A.length x = A ++ x :: u :: B := by
  subst h
  simp []
theorem swap_adj' {α : Type} {L A B : List α} {u x : α} (h : L = A ++ u :: x :: B) : (L.set A.length x).set (A.length + 1) u = A ++ x :: u :: B := by
  subst h
  simp []
theorem swap_far {α : Type} {L A M B : List α} {u v : α} (h : L = A ++ u :: (M ++ v :: B)) : (L.set A.length v).set (A.length + 1 + M.length) u = A ++ v :: (M ++ u :: B) := by
  subst h
  rw [set_mid]
  have e : A ++ v :: (M ++ v :: B) = (A ++ v :: M) ++ v :: B := by simp
  have hl : A.length + 1 + M.length = (A ++ v :: M).length := by simp; omega
  rw [e, hl, set_mid]; simp
section
variable {cls : Int → Int}
/-- All of V1 stands below all of U2, if the last one does below the first one. -/
theorem cross_lt {V U : List Int} (hV : Srt cls V) (hU : Srt cls U) (h : ∀ v u, V.getLast? = some v → U[0]? = some u → cls v < cls u) : ∀ v ∈ V, ∀ u ∈ U, cls v < cls u := fun v hv u hu => by
  obtain ⟨V1, z, rfl⟩ := split_last (xs := V) (List.length_pos_of_mem hv)
  obtain ⟨y, U1, rfl⟩ := split_first (xs := U) (List.length_pos_of_mem hu)
  have h0 := h z y (by simp) rfl
  have h1 : cls v ≤ cls z := by
    rcases List.mem_append.1 hv with h | h
    · exact hV.cross v h z (by simp)
    · rw [List.mem_singleton.1 h]; exact Int.le_refl _
  have h2 : cls y ≤ cls u := by
    rcases List.mem_cons.1 hu with h | h
    · rw [h]; exact Int.le_refl _
    · exact (List.pairwise_cons.1 hU).1 u h
  omega
theorem cross_le {U V : List Int} (hU : Srt cls U) (hV : Srt cls V) (h : ∀ u v, U.getLast? = some u → V[0]? = some v → cls u ≤ cls v) : ∀ u ∈ U, ∀ v ∈ V, cls u ≤ cls v := fun u hu v hv => by
  obtain ⟨U1, z, rfl⟩ := split_last (xs := U) (List.length_pos_of_mem hu)
  obtain ⟨y, V1, rfl⟩ := split_first (xs := V) (List.length_pos_of_mem hv)
  have h0 := h z y (by simp) rfl
  have h1 : cls u ≤ cls z := by
    rcases List.mem_append.1 hu with h | h
    · exact hU.cross u h z (by simp)
    · rw [List.mem_singleton.1 h]; exact Int.le_refl _
  have h2 : cls y ≤ cls v := by
    rcases List.mem_cons.1 hv with h | h
    · rw [h]; exact Int.le_refl _
    · exact (List.pairwise_cons.1 hV).1 v h
  omega
/-- Both halves merged: the whole. -/
theorem merge_halves {U1 U2 V1 V2 S1 S2 : List Int} (hU : Srt cls (U1 ++ U2)) (hV : Srt cls (V1 ++ V2)) (h1 : ∀ v ∈ V1, ∀ u ∈ U2, cls v < cls u) (h2 : ∀ u ∈ U1, ∀ v ∈ V2, cls u ≤ cls v)
    (k1 : Keep cls (U1 ++ V1) S1) (s1 : Srt cls S1) (k2 : Keep cls (U2 ++ V2) S2) (s2 : Srt cls S2) : Keep cls ((U1 ++ U2) ++ (V1 ++ V2)) (S1 ++ S2) ∧ Srt cls (S1 ++ S2) := by
  refine ⟨?_, Srt.append s1 s2 (fun x hx y hy => ?_)⟩
  · have hsw : Keep cls (U2 ++ V1) (V1 ++ U2) := Keep.swap (fun x hx y hy => by have := h1 y hy x hx; omega)
    have h3 : Keep cls ((U1 ++ U2) ++ (V1 ++ V2)) ((U1 ++ V1) ++ (U2 ++ V2)) := by
      have := Keep.append (Keep.refl (cls := cls) U1) (Keep.append hsw (Keep.refl V2))
      simpa using this
    exact h3.trans (Keep.append k1 k2)
  · rcases List.mem_append.1 (k1.mem.1 hx) with hx | hx <;> rcases List.mem_append.1 (k2.mem.1 hy) with hy | hy
    · exact hU.cross x hx y hy
    · exact h2 x hx y hy
    · have := h1 x hx y hy; omega
    · exact hV.cross x hx y hy
/-- One element is put into its place from the left, from the right. -/
theorem merge_left {x : Int} {V1 V2 : List Int} (hV : Srt cls (V1 ++ V2)) (h1 : ∀ v ∈ V1, cls v < cls x) (h2 : ∀ v ∈ V2, cls x ≤ cls v) : Keep cls ([x] ++ (V1 ++ V2)) (V1 ++ x :: V2) ∧ Srt cls (V1 ++ x :: V2) := by
  refine ⟨?_, Srt.append hV.left (List.pairwise_cons.2 ⟨h2, hV.right⟩) (fun a ha b hb => ?_)⟩
  · have hsw : Keep cls ([x] ++ V1) (V1 ++ [x]) := Keep.swap (fun a ha b hb => by rw [List.mem_singleton.1 ha]; have := h1 b hb; omega)
    have := Keep.append hsw (Keep.refl (cls := cls) V2)
    simpa using this
  · rcases List.mem_cons.1 hb with rfl | hb
    · have := h1 a ha; omega
    · exact hV.cross a ha b hb
theorem merge_right {y : Int} {U1 U2 : List Int} (hU : Srt cls (U1 ++ U2)) (h1 : ∀ u ∈ U1, cls u ≤ cls y) (h2 : ∀ u ∈ U2, cls y < cls u) : Keep cls ((U1 ++ U2) ++ [y]) (U1 ++ y :: U2) ∧ Srt cls (U1 ++ y :: U2) := by
  refine ⟨?_, Srt.append hU.left (List.pairwise_cons.2 ⟨fun a ha => by have := h2 a ha; omega, hU.right⟩) (fun a ha b hb => ?_)⟩
  · have hsw : Keep cls (U2 ++ [y]) ([y] ++ U2) := Keep.swap (fun a ha b hb => by rw [List.mem_singleton.1 hb]; have := h2 a ha; omega)
    have := Keep.append (Keep.refl (cls := cls) U1) hsw
    simpa using this
  · rcases List.mem_cons.1 hb with rfl | hb
    · exact h1 a ha
    · exact hU.cross a ha b hb
theorem srt_get {U : List Int} (h : Srt cls U) {i j : Nat} {x y : Int} (hij : i ≤ j) (hx : U[i]? = some x) (hy : U[j]? = some y) : cls x ≤ cls y := by
  have hj := lt_of_getElem?_some hy
  rw [List.getElem?_eq_getElem (by omega)] at hx hy
  injection hx with hx
  injection hy with hy
  rcases Nat.lt_or_eq_of_le hij with h1 | h1
  · have := List.pairwise_iff_getElem.1 h i j (by omega) hj h1
    rw [hx, hy] at this; exact this
  · subst h1; rw [← hx, ← hy]; exact Int.le_refl _
end
theorem mem_take_get {α : Type} {l : List α} {k : Nat} {x : α} (h : x ∈ l.take k) : ∃ i : Nat, i < k ∧ l[i]? = some x := by
  obtain ⟨i, hi, e⟩ := List.getElem_of_mem h
  rw [List.length_take] at hi
  rw [List.getElem_take] at e
  exact ⟨i, by omega, by rw [List.getElem?_eq_getElem (by omega), e]⟩
theorem mem_drop_get {α : Type} {l : List α} {k : Nat} {x : α} (h : x ∈ l.drop k) : ∃ i : Nat, k ≤ i ∧ l[i]? = some x := by
  obtain ⟨i, hi, e⟩ := List.getElem_of_mem h
  rw [List.length_drop] at hi
  rw [List.getElem_drop] at e
  exact ⟨k + i, by omega, by rw [List.getElem?_eq_getElem (by omega), e]⟩
end Go.Proofs.YtljkkfohlkhjnaaGreatDoor
namespace Go.Proofs.YtljkkfohlkhjnaaGreatDoor

theorem runsFrom_valid (cls : Int → Int) : ∀ (t : List Int) (i : Nat) (st : Option Nat), (∀ s, st = some s → s < i) → ∀ r ∈ runsFrom cls i st t, ∃ lo hi : Nat, r.lo = lo ∧ r.hi = hi ∧ lo < hi ∧ hi ≤ i + t.length
  | [], i, none, _, r, hr => by simp [runsFrom] at hr
  | [], i, some s, h, r, hr => by
    simp only [runsFrom, List.mem_singleton] at hr
    subst hr
    exact ⟨s, i, rfl, rfl, h s rfl, by simp⟩
  | c :: t, i, none, h, r, hr => by
    unfold runsFrom at hr
    split at hr
    · obtain ⟨lo, hi, h1, h2, h3, h4⟩ := runsFrom_valid cls t (i + 1) none (fun s hs => by cases hs) r hr
      exact ⟨lo, hi, h1, h2, h3, by simp at *; omega⟩
    · obtain ⟨lo, hi, h1, h2, h3, h4⟩ := runsFrom_valid cls t (i + 1) (some i) (fun s hs => by injection hs with hs; omega) r hr
      exact ⟨lo, hi, h1, h2, h3, by simp at *; omega⟩
  | c :: t, i, some s, h, r, hr => by
    have hs := h s rfl
    unfold runsFrom at hr
    split at hr
    · rcases List.mem_cons.1 hr with rfl | hr
      · exact ⟨s, i, rfl, rfl, hs, by omega⟩
      · obtain ⟨lo, hi, h1, h2, h3, h4⟩ := runsFrom_valid cls t (i + 1) none (fun s hs => by cases hs) r hr
        exact ⟨lo, hi, h1, h2, h3, by simp at *; omega⟩
    · obtain ⟨lo, hi, h1, h2, h3, h4⟩ := runsFrom_valid cls t (i + 1) (some s) (fun s' hs' => by injection hs' with hs'; omega) r hr
      exact ⟨lo, hi, h1, h2, h3, by simp at *; omega⟩
/-- A part of a text is sorted. -/
def sortSeg (cls : Int → Int) (o : List Int) (lo hi : Nat) : List Int := o.take lo ++ stab cls ((o.drop lo).take (hi - lo)) ++ o.drop hi
theorem sortSeg_length {cls : Int → Int} {o : List Int} {lo hi : Nat} (h1 : lo ≤ hi) (h2 : hi ≤ o.length) : (sortSeg cls o lo hi).length = o.length := by
  unfold sortSeg
  rw [List.length_append, List.length_append, stab_length]
  simp; omega
/-- A text with the parts sorted. -/
def sortParts (cls : Int → Int) (text : List Int) (l : List (Nat × Nat)) : List Int := l.foldl (fun o p => sortSeg cls o p.1 p.2) text
theorem sortParts_length {cls : Int → Int} {text : List Int} : ∀ {l : List (Nat × Nat)}, (∀ p ∈ l, p.1 < p.2 ∧ p.2 ≤ text.length) → (sortParts cls text l).length = text.length := by
  intro l
  unfold sortParts
  induction l generalizing text with
  | nil => intro _; rfl
  | cons p l ih =>
    intro h
    have h1 := h p (List.mem_cons_self ..)
    have hl := sortSeg_length (cls := cls) (o := text) (lo := p.1) (hi := p.2) (by omega) h1.2
    rw [List.foldl_cons, ih (fun q hq => by rw [hl]; exact h q (List.mem_cons_of_mem _ hq)), hl]
theorem sortParts_snoc (cls : Int → Int) (text : List Int) (l : List (Nat × Nat)) (p : Nat × Nat) : sortParts cls text (l ++ [p]) = sortSeg cls (sortParts cls text l) p.1 p.2 := by
  unfold sortParts; rw [List.foldl_append]; rfl
def natPair (r : Rng) : Nat × Nat := (r.lo.toNat, r.hi.toNat)
/-- The text in canonical order, by its runs. -/
def sortRuns (cls : Int → Int) (text : List Int) : List Int := sortParts cls text ((runsFrom cls 0 none text).map natPair)
theorem sortRuns_length (cls : Int → Int) (text : List Int) : (sortRuns cls text).length = text.length := sortParts_length (fun p hp => by
  obtain ⟨r, hr, rfl⟩ := List.mem_map.1 hp
  obtain ⟨lo, hi, h1, h2, h3, h4⟩ := runsFrom_valid cls text 0 none (fun s hs => by cases hs) r hr
  simp only [natPair, h1, h2]
  omega)
end Go.Proofs.YtljkkfohlkhjnaaGreatDoor
namespace Go.Proofs.YtljkkfohlkhjnaaGreatDoor

section
variable {cls : Int → Int}
/-- The first run of a text, and the starters, each with the run behind it. -/
def rs (cls : Int → Int) : List Int → List Int × List (Int × List Int)
  | [] => ([], [])
  | c :: t => if cls c = 0 then ([], (c, (rs cls t).1) :: (rs cls t).2) else (c :: (rs cls t).1, (rs cls t).2)
def unL (l : List (Int × List Int)) : List Int := l.flatMap fun p => p.1 :: p.2
theorem unrs (xs : List Int) : (rs cls xs).1 ++ unL (rs cls xs).2 = xs := by
  induction xs with
  | nil => rfl
  | cons c t ih =>
    unfold rs
    split
    · simp only [unL, List.flatMap_cons, List.nil_append, List.cons_append]
      congr 1
    · simp only [List.cons_append]
      rw [ih]
theorem rs_run {run y : List Int} (h : ∀ x ∈ run, cls x ≠ 0) : rs cls (run ++ y) = (run ++ (rs cls y).1, (rs cls y).2) := by
  induction run with
  | nil => simp
  | cons c t ih =>
    have hc := h c (List.mem_cons_self ..)
    rw [List.cons_append, rs, if_neg hc, ih (fun x hx => h x (List.mem_cons_of_mem _ hx))]
    simp
theorem rs_start {c : Int} {t : List Int} (h : cls c = 0) : rs cls (c :: t) = ([], (c, (rs cls t).1) :: (rs cls t).2) := by rw [rs, if_pos h]
theorem rs_non {c : Int} {t : List Int} (h : cls c ≠ 0) : rs cls (c :: t) = (c :: (rs cls t).1, (rs cls t).2) := by rw [rs, if_neg h]
/-- All elements of the runs are no starters; the others are. -/
theorem rs_good (xs : List Int) : (∀ x ∈ (rs cls xs).1, cls x ≠ 0) ∧ ∀ p ∈ (rs cls xs).2, cls p.1 = 0 ∧ ∀ x ∈ p.2, cls x ≠ 0 := by
  induction xs with
  | nil => simp [rs]
  | cons c t ih =>
    unfold rs
    split
    · rename_i h
      refine ⟨by simp, fun p hp => ?_⟩
      rcases List.mem_cons.1 hp with rfl | hp
      · exact ⟨h, ih.1⟩
      · exact ih.2 p hp
    · rename_i h
      refine ⟨fun x hx => ?_, ih.2⟩
      rcases List.mem_cons.1 hx with rfl | hx
      · exact h
      · exact ih.1 x hx
/-- Equal but for the order of unequal classes within runs. -/
inductive REqL (cls : Int → Int) : List (Int × List Int) → List (Int × List Int) → Prop
  | nil : REqL cls [] []
  | cons {s : Int} {r r' : List Int} {l l' : List (Int × List Int)} : Keep cls r r' → REqL cls l l' → REqL cls ((s, r) :: l) ((s, r') :: l')
def REq (cls : Int → Int) (xs ys : List Int) : Prop := Keep cls (rs cls xs).1 (rs cls ys).1 ∧ REqL cls (rs cls xs).2 (rs cls ys).2
theorem REqL.refl : ∀ l : List (Int × List Int), REqL cls l l
  | [] => .nil
  | (_, _) :: l => .cons (Keep.refl _) (REqL.refl l)
theorem REqL.symm {l l' : List (Int × List Int)} (h : REqL cls l l') : REqL cls l' l := by
  induction h with
  | nil => exact .nil
  | cons hk _ ih => exact .cons hk.symm ih
theorem REqL.trans {a b c : List (Int × List Int)} (h : REqL cls a b) (k : REqL cls b c) : REqL cls a c := by
  induction h generalizing c with
  | nil => exact k
  | cons hk _ ih => cases k with
    | cons hk' k' => exact .cons (hk.trans hk') (ih k')
theorem REq.refl (xs : List Int) : REq cls xs xs := ⟨Keep.refl _, REqL.refl _⟩
theorem REq.symm {xs ys : List Int} (h : REq cls xs ys) : REq cls ys xs := ⟨h.1.symm, h.2.symm⟩
theorem REq.trans {a b c : List Int} (h : REq cls a b) (k : REq cls b c) : REq cls a c := ⟨h.1.trans k.1, h.2.trans k.2⟩
/-- How runs join. -/
def jnL (r' : List Int) (l' : List (Int × List Int)) : List (Int × List Int) → List (Int × List Int)
  | [] => []
  | [(s, q)] => (s, q ++ r') :: l'
  | p :: p' :: l => p :: jnL r' l' (p' :: l)
theorem rs_append (a b : List Int) : rs cls (a ++ b) = match (rs cls a).2 with
    | [] => ((rs cls a).1 ++ (rs cls b).1, (rs cls b).2)
    | p :: l => ((rs cls a).1, jnL (rs cls b).1 (rs cls b).2 (p :: l)) := by
  induction a with
  | nil => simp [rs]
  | cons c t ih =>
    by_cases hc : cls c = 0
    · rw [List.cons_append, rs_start hc, rs_start hc, ih]
      cases h : (rs cls t).2 with
      | nil => simp [jnL]
      | cons p l => simp [jnL]
    · rw [List.cons_append, rs_non hc, rs_non hc, ih]
      cases h : (rs cls t).2 with
      | nil => simp
      | cons p l => simp
theorem jnL_congr {r r' : List Int} {m m' : List (Int × List Int)} (hr : Keep cls r r') (hm : REqL cls m m') {l l' : List (Int × List Int)} (h : REqL cls l l') : REqL cls (jnL r m l) (jnL r' m' l') := by
  induction h with
  | nil => exact .nil
  | @cons s q q' l l' hk hl ih =>
    cases hl with
    | nil => exact .cons (Keep.append hk hr) hm
    | cons hk' hl' => exact .cons hk ih
theorem REq.append {a a' b b' : List Int} (h : REq cls a a') (k : REq cls b b') : REq cls (a ++ b) (a' ++ b') := by
  unfold REq
  rw [rs_append, rs_append]
  obtain ⟨h1, h2⟩ := h
  cases ha : (rs cls a).2 with
  | nil =>
    rw [ha] at h2
    cases ha' : (rs cls a').2 with
    | nil => exact ⟨Keep.append h1 k.1, k.2⟩
    | cons p l => rw [ha'] at h2; cases h2
  | cons p l =>
    rw [ha] at h2
    cases ha' : (rs cls a').2 with
    | nil => rw [ha'] at h2; cases h2
    | cons p' l' =>
      rw [ha'] at h2
      exact ⟨h1, jnL_congr k.1 k.2 h2⟩
theorem REq.of_keep {a b : List Int} (h : Keep cls a b) (ha : ∀ x ∈ a, cls x ≠ 0) : REq cls a b := by
  have hb : ∀ x ∈ b, cls x ≠ 0 := fun x hx => ha x (h.mem.1 hx)
  have e1 := rs_run (cls := cls) (y := []) ha
  have e2 := rs_run (cls := cls) (y := []) hb
  rw [List.append_nil] at e1 e2
  unfold REq
  rw [e1, e2]
  simp only [rs, List.append_nil]
  exact ⟨h, .nil⟩
/-- The text in canonical order. -/
def sortL (cls : Int → Int) (l : List (Int × List Int)) : List Int := l.flatMap fun p => p.1 :: stab cls p.2
def sortT (cls : Int → Int) (xs : List Int) : List Int := stab cls (rs cls xs).1 ++ sortL cls (rs cls xs).2
theorem stab_congr {a b : List Int} (h : Keep cls a b) : stab cls a = stab cls b := stab_eq (stab_srt a) (h.symm.trans (stab_keep a))
theorem sortT_congr {xs ys : List Int} (h : REq cls xs ys) : sortT cls xs = sortT cls ys := by
  unfold sortT
  rw [stab_congr h.1]
  congr 1
  have h2 := h.2
  unfold sortL
  generalize (rs cls xs).2 = l at h2 ⊢
  generalize (rs cls ys).2 = l' at h2 ⊢
  induction h2 with
  | nil => rfl
  | cons hk _ ih => rw [List.flatMap_cons, List.flatMap_cons, stab_congr hk, ih]
theorem stab_nil : stab cls [] = [] := by simp [stab]
theorem sortT_start {c : Int} {t : List Int} (h : cls c = 0) : sortT cls (c :: t) = c :: sortT cls t := by
  unfold sortT
  rw [rs_start h]
  simp [sortL, stab_nil]
theorem sortT_run {run y : List Int} (h : ∀ x ∈ run, cls x ≠ 0) (hy : (rs cls y).1 = []) : sortT cls (run ++ y) = stab cls run ++ sortT cls y := by
  unfold sortT
  rw [rs_run h, hy, List.append_nil, stab_nil, List.nil_append]
theorem sortT_nil : sortT cls [] = [] := by simp [sortT, rs, sortL, stab_nil]
theorem sortT_all {run : List Int} (h : ∀ x ∈ run, cls x ≠ 0) : sortT cls run = stab cls run := by
  have := sortT_run (y := []) h rfl
  rw [List.append_nil, sortT_nil, List.append_nil] at this
  exact this
theorem stab_mem {xs : List Int} {x : Int} : x ∈ stab cls xs ↔ x ∈ xs := (stab_perm xs).mem_iff
theorem REq.sort (xs : List Int) : REq cls xs (sortT cls xs) := by
  conv => lhs; rw [← unrs (cls := cls) xs]
  unfold sortT
  obtain ⟨g1, g2⟩ := rs_good (cls := cls) xs
  refine REq.append (REq.of_keep (stab_keep _) g1) ?_
  unfold sortL unL
  generalize (rs cls xs).2 = l at g2
  clear g1
  induction l with
  | nil => exact REq.refl _
  | cons p l ih =>
    have hp := g2 p (List.mem_cons_self ..)
    have ih' := ih (fun q hq => g2 q (List.mem_cons_of_mem _ hq))
    rw [List.flatMap_cons, List.flatMap_cons]
    refine REq.append ?_ ih'
    exact REq.append (a := [p.1]) (a' := [p.1]) (REq.refl _) (REq.of_keep (stab_keep _) hp.2)
theorem sortT_idem (xs : List Int) : sortT cls (sortT cls xs) = sortT cls xs := (sortT_congr (REq.sort xs)).symm
theorem sortT_mem {xs : List Int} {x : Int} : x ∈ sortT cls xs ↔ x ∈ xs := by
  conv => rhs; rw [← unrs (cls := cls) xs]
  unfold sortT sortL unL
  simp only [List.mem_append, stab_mem, List.mem_flatMap, List.mem_cons]
theorem jnL_start (s : Int) (r : List Int) (m : List (Int × List Int)) : ∀ (p : Int × List Int) (l : List (Int × List Int)), jnL [] ((s, r) :: m) (p :: l) = p :: l ++ ((s, r) :: m)
  | (s', q), [] => by simp [jnL]
  | p, p' :: l => by rw [jnL, jnL_start s r m p' l]; rfl
/-- A text in front of a starter is sorted by itself. -/
theorem sortT_join (a : List Int) {s : Int} (t : List Int) (h : cls s = 0) : sortT cls (a ++ s :: t) = sortT cls a ++ sortT cls (s :: t) := by
  unfold sortT
  rw [rs_append, rs_start h]
  cases ha : (rs cls a).2 with
  | nil => simp [sortL, stab_nil]
  | cons p l =>
    simp only
    rw [jnL_start]
    simp [sortL, stab_nil]
/-- Replacing respects the order class by class, if what is no starter stays. -/
theorem REq.flatMap {F : Int → List Int} {xs ys : List Int} (h : REq cls xs ys) (hF : ∀ x ∈ xs, cls x ≠ 0 → F x = [x]) : REq cls (xs.flatMap F) (ys.flatMap F) := by
  have hone : ∀ (r : List Int), (∀ x ∈ r, F x = [x]) → r.flatMap F = r := by
    intro r
    induction r with
    | nil => intro _; rfl
    | cons x r ih =>
      intro hr
      rw [List.flatMap_cons, hr x (List.mem_cons_self ..), ih (fun y hy => hr y (List.mem_cons_of_mem _ hy))]
      rfl
  obtain ⟨gx1, gx2⟩ := rs_good (cls := cls) xs
  have ex := unrs (cls := cls) xs
  have ey := unrs (cls := cls) ys
  have hmx : ∀ x, x ∈ (rs cls xs).1 ∨ x ∈ unL (rs cls xs).2 → x ∈ xs := fun x hx => by rw [← ex]; exact List.mem_append.2 hx
  rw [← ex, ← ey, List.flatMap_append, List.flatMap_append]
  obtain ⟨h1, h2⟩ := h
  have hr1 : ∀ x ∈ (rs cls xs).1, F x = [x] := fun x hx => hF x (hmx x (.inl hx)) (gx1 x hx)
  refine REq.append ?_ ?_
  · rw [hone _ hr1, hone _ (fun x hx => hr1 x (h1.mem.1 hx))]
    exact REq.of_keep h1 gx1
  · have hr2 : ∀ p ∈ (rs cls xs).2, ∀ x ∈ p.2, F x = [x] := fun p hp x hx => hF x (hmx x (.inr (List.mem_flatMap.2 ⟨p, hp, List.mem_cons_of_mem _ hx⟩))) ((gx2 p hp).2 x hx)
    unfold unL
    generalize (rs cls xs).2 = l at h2 gx2 hr2
    generalize (rs cls ys).2 = l' at h2
    clear ex ey hmx hr1 h1 gx1
    induction h2 with
    | nil => exact REq.refl _
    | @cons s r r' l l' hk hl ih =>
      have hr := hr2 (s, r) (List.mem_cons_self ..)
      have ih' := ih (fun p hp => gx2 p (List.mem_cons_of_mem _ hp)) (fun p hp => hr2 p (List.mem_cons_of_mem _ hp))
      rw [List.flatMap_cons, List.flatMap_cons, List.flatMap_append, List.flatMap_append]
      refine REq.append ?_ ih'
      rw [List.flatMap_cons, List.flatMap_cons, hone r hr, hone r' (fun x hx => hr x (hk.mem.1 hx))]
      exact REq.append (REq.refl _) (REq.of_keep hk (gx2 (s, r) (List.mem_cons_self ..)).2)

/-- The runs as they are found make the canonical order. -/
theorem sortSeg_mid {P0 run R : List Int} {lo hi : Nat} (h1 : lo = P0.length) (h2 : hi = P0.length + run.length) : sortSeg cls (P0 ++ run ++ R) lo hi = P0 ++ stab cls run ++ R := by
  subst h1
  subst h2
  unfold sortSeg
  have e1 : (P0 ++ run ++ R).take P0.length = P0 := by rw [List.append_assoc, List.take_left' rfl]
  have e2 : (P0 ++ run ++ R).drop P0.length = run ++ R := by rw [List.append_assoc, List.drop_left' rfl]
  have e3 : (P0 ++ run ++ R).drop (P0.length + run.length) = R := by
    rw [List.drop_left' (by simp)]
  rw [e1, e2, e3, List.take_left' (by omega)]
theorem parts_none : ∀ (t P : List Int), sortParts cls (P ++ t) ((runsFrom cls P.length none t).map natPair) = P ++ sortT cls t ∧
    ∀ (P0 run : List Int), P = P0 ++ run → (∀ x ∈ run, cls x ≠ 0) → sortParts cls (P ++ t) ((runsFrom cls P.length (some P0.length) t).map natPair) = P0 ++ sortT cls (run ++ t)
  | [], P => by
    refine ⟨by simp [runsFrom, sortParts, sortT_nil], fun P0 run hP hr => ?_⟩
    subst hP
    simp only [runsFrom, List.map_cons, List.map_nil, sortParts, List.foldl_cons, List.foldl_nil, natPair, Int.toNat_natCast]
    have := sortSeg_mid (cls := cls) (P0 := P0) (run := run) (R := []) (lo := P0.length) (hi := (P0 ++ run).length) rfl (by simp)
    simp only [List.append_nil] at this ⊢
    rw [this, sortT_all hr]
  | c :: t, P => by
    have ih := parts_none t (P ++ [c])
    have hl : (P ++ [c]).length = P.length + 1 := by simp
    have ea : P ++ [c] ++ t = P ++ c :: t := by simp
    rw [hl, ea] at ih
    by_cases hc : cls c = 0
    · refine ⟨?_, fun P0 run hP hr => ?_⟩
      · rw [runsFrom, if_pos hc, ih.1, sortT_start hc]; simp
      · rw [runsFrom, if_pos hc, List.map_cons]
        subst hP
        have e : sortParts cls (P0 ++ run ++ c :: t) (natPair ⟨(P0.length : Nat), ((P0 ++ run).length : Nat)⟩ :: (runsFrom cls ((P0 ++ run).length + 1) none t).map natPair) =
            sortParts cls (P0 ++ stab cls run ++ [c] ++ t) ((runsFrom cls (P0 ++ stab cls run ++ [c]).length none t).map natPair) := by
          unfold sortParts
          rw [List.foldl_cons]
          simp only [natPair, Int.toNat_natCast]
          rw [sortSeg_mid rfl (by simp)]
          congr 1
          · simp
          · congr 2
            simp [stab_length]
            omega
        rw [e, (parts_none t (P0 ++ stab cls run ++ [c])).1, sortT_run hr (by rw [rs_start hc]), sortT_start hc]
        simp
    · refine ⟨?_, fun P0 run hP hr => ?_⟩
      · rw [runsFrom, if_neg hc, ih.2 P [c] rfl (by simpa using hc)]; simp
      · subst hP
        rw [runsFrom, if_neg hc, ih.2 P0 (run ++ [c]) (by simp) (fun x hx => by
          rcases List.mem_append.1 hx with hx | hx
          · exact hr x hx
          · rw [List.mem_singleton.1 hx]; exact hc)]
        simp
theorem sortRuns_eq (cls : Int → Int) (xs : List Int) : sortRuns cls xs = sortT cls xs := by
  have := (parts_none (cls := cls) xs []).1
  simpa [sortRuns] using this
end
end Go.Proofs.YtljkkfohlkhjnaaGreatDoor
namespace Go.Proofs.YtljkkfohlkhjnaaGreatDoor

theorem full_none {l : List Mp} {cp : Bool} (h : Ends l cp) {F : Int → List Int} (hF : FullEq l cp F) (c : Int) : ∀ e ∈ F c, onceOf l e cp = none := by
  induction h c with
  | intro c _ ih =>
    intro e he
    rw [hF c] at he
    cases ho : onceOf l c cp with
    | none =>
      rw [ho] at he
      rw [List.mem_singleton.1 he, ho]
    | some to =>
      rw [ho] at he
      obtain ⟨x, hx, hex⟩ := List.mem_flatMap.1 he
      exact ih x ⟨to, ho, hx⟩ e hex
theorem full_fix {l : List Mp} {cp : Bool} {F : Int → List Int} (hF : FullEq l cp F) {c : Int} (h : onceOf l c cp = none) : F c = [c] := by
  rw [hF c, h]
theorem flatMap_fix {F : Int → List Int} : ∀ {xs : List Int}, (∀ x ∈ xs, F x = [x]) → xs.flatMap F = xs
  | [], _ => rfl
  | x :: r, h => by rw [List.flatMap_cons, h x (List.mem_cons_self ..), flatMap_fix (fun e he => h e (List.mem_cons_of_mem _ he))]; rfl
theorem full_again {l : List Mp} {cp : Bool} (h : Ends l cp) {F : Int → List Int} (hF : FullEq l cp F) (c : Int) : (F c).flatMap F = F c :=
  flatMap_fix (fun e he => full_fix hF (full_none h hF c e he))
theorem full_both {l : List Mp} (h : Ends l true) {F G : Int → List Int} (hF : FullEq l false F) (hG : FullEq l true G) (c : Int) : (F c).flatMap G = G c := by
  induction h c with
  | intro c _ ih =>
    rw [hF c]
    cases ho : onceOf l c false with
    | none => simp
    | some to =>
      have ho' := onceOf_false ho
      rw [hG c, ho']
      simp only [List.flatMap_assoc]
      exact flatMap_congr' (fun e he => ih e ⟨to, ho', he⟩)
theorem once_nonstarter {n : Nrm} (g : Good n) {c : Int} (hc : classOf n.classes c ≠ 0) (h : onceOf n.decomp c false = none) (cp : Bool) : onceOf n.decomp c cp = none := by
  cases cp
  · exact h
  unfold onceOf at h ⊢
  split at h
  · cases h
  · rename_i hk
    rw [if_neg hk]
    unfold mapOf at h ⊢
    cases hf : n.decomp.find? (fun m => decide (m.src = c)) with
    | none => rfl
    | some m =>
      rw [hf] at h
      simp only at h
      have hm := List.mem_of_find?_eq_some hf
      have hs : m.src = c := by simpa using List.find?_some hf
      cases hp : plainTag m
      · exact absurd (by rw [← hs]; exact g.tagged m hm hp) hc
      · rw [hp] at h; cases h
/-- A text is decomposed. -/
def textE (cls : Int → Int) (F : Int → List Int) (text : List Int) : List Int := sortRuns cls (text.flatMap F)
theorem textE_eq (cls : Int → Int) (F : Int → List Int) (text : List Int) : textE cls F text = sortT cls (text.flatMap F) := sortRuns_eq _ _
theorem textE_none {n : Nrm} (g : Good n) {cp : Bool} {F : Int → List Int} (hF : FullEq n.decomp cp F) (text : List Int) : ∀ e ∈ textE (classOf n.classes) F text, onceOf n.decomp e cp = none := fun e he => by
  rw [textE_eq] at he
  obtain ⟨x, _, hx⟩ := List.mem_flatMap.1 (sortT_mem.1 he)
  exact full_none (ends_any g.ends cp) hF x e hx
theorem textE_twice {n : Nrm} (g : Good n) {cp : Bool} {F : Int → List Int} (hF : FullEq n.decomp cp F) (text : List Int) : textE (classOf n.classes) F (textE (classOf n.classes) F text) = textE (classOf n.classes) F text := by
  have h := flatMap_fix (F := F) (fun x hx => full_fix hF (textE_none g hF text x hx))
  rw [textE_eq, h, textE_eq, sortT_idem]
theorem textE_kinds {n : Nrm} (g : Good n) {F G : Int → List Int} (hF : FullEq n.decomp false F) (hG : FullEq n.decomp true G) (text : List Int) :
    textE (classOf n.classes) G (textE (classOf n.classes) F text) = textE (classOf n.classes) G text := by
  rw [textE_eq, textE_eq, textE_eq]
  have h1 : REq (classOf n.classes) ((text.flatMap F).flatMap G) ((sortT (classOf n.classes) (text.flatMap F)).flatMap G) :=
    REq.flatMap (REq.sort _) (fun x hx hc => by
      obtain ⟨y, _, hy⟩ := List.mem_flatMap.1 hx
      exact full_fix hG (once_nonstarter g hc (full_none (ends_any g.ends false) hF y x hy) true))
  rw [← sortT_congr h1, List.flatMap_assoc]
  rw [flatMap_congr' (fun e _ => full_both g.ends hF hG e)]
theorem textE_joins {cls : Int → Int} {F : Int → List Int} {a : List Int} {x : Int} {b : List Int} {s : Int} {t : List Int} (hx : F x = s :: t) (hs : cls s = 0) :
    textE cls F (a ++ x :: b) = textE cls F a ++ textE cls F (x :: b) := by
  rw [textE_eq, textE_eq, textE_eq, List.flatMap_append, List.flatMap_cons, hx, List.cons_append, sortT_join _ _ hs]
end Go.Proofs.YtljkkfohlkhjnaaGreatDoor
namespace Go.Proofs.YtljkkfohlkhjnaaGreatDoor

/-- In canonical order, neighbour by neighbour. -/
def Ordd (cls : Int → Int) : List Int → Prop
  | a :: b :: t => (cls b = 0 ∨ cls a ≤ cls b) ∧ Ordd cls (b :: t)
  | _ => True
section
variable {cls : Int → Int}
theorem Ordd.tail {a : Int} {t : List Int} (h : Ordd cls (a :: t)) : Ordd cls t := by
  cases t with
  | nil => trivial
  | cons b t => exact h.2
theorem ordd_mid {z w : Int} {B : List Int} : ∀ {A : List Int}, Ordd cls (A ++ z :: w :: B) ↔ Ordd cls (A ++ [z]) ∧ (cls w = 0 ∨ cls z ≤ cls w) ∧ Ordd cls (w :: B)
  | [] => by simp [Ordd]
  | [a] => by simp [Ordd]
  | a :: b :: A => by
    have := ordd_mid (z := z) (w := w) (B := B) (A := b :: A)
    simp only [List.cons_append] at this ⊢
    simp only [Ordd, this, and_assoc]
theorem ordd_run {y : List Int} (hy : Ordd cls y) (h0 : ∀ s t, y = s :: t → cls s = 0) : ∀ {r : List Int}, Srt cls r → Ordd cls (r ++ y)
  | [], _ => hy
  | [a], _ => by
    cases y with
    | nil => trivial
    | cons s t => exact ⟨.inl (h0 s t rfl), hy⟩
  | a :: b :: r, h => by
    obtain ⟨h1, h2⟩ := List.pairwise_cons.1 h
    exact ⟨.inr (h1 b (List.mem_cons_self ..)), ordd_run hy h0 h2⟩
theorem ordd_start (hn : ∀ x, 0 ≤ cls x) {a : Int} {t : List Int} (ha : cls a = 0) (h : Ordd cls t) : Ordd cls (a :: t) := by
  cases t with
  | nil => trivial
  | cons b t => exact ⟨.inr (by rw [ha]; exact hn b), h⟩
theorem ordd_unL (hn : ∀ x, 0 ≤ cls x) : ∀ {l : List (Int × List Int)}, (∀ p ∈ l, cls p.1 = 0 ∧ Srt cls p.2) → Ordd cls (unL l) ∧ ∀ s t, unL l = s :: t → cls s = 0
  | [], _ => ⟨trivial, fun s t h => by simp [unL] at h⟩
  | p :: l, h => by
    obtain ⟨i1, i2⟩ := ordd_unL hn (l := l) (fun q hq => h q (List.mem_cons_of_mem _ hq))
    obtain ⟨h1, h2⟩ := h p (List.mem_cons_self ..)
    have e : unL (p :: l) = p.1 :: (p.2 ++ unL l) := by simp [unL]
    rw [e]
    exact ⟨ordd_start hn h1 (ordd_run i1 i2 h2), fun s t hs => by injection hs with h3 _; rw [← h3]; exact h1⟩
theorem ordd_sortT (hn : ∀ x, 0 ≤ cls x) (xs : List Int) : Ordd cls (sortT cls xs) := by
  have hg := (rs_good (cls := cls) xs).2
  have e : sortL cls (rs cls xs).2 = unL ((rs cls xs).2.map fun p => (p.1, stab cls p.2)) := by
    unfold sortL unL
    rw [List.flatMap_map]
  obtain ⟨h1, h2⟩ := ordd_unL hn (l := (rs cls xs).2.map fun p => (p.1, stab cls p.2)) (fun q hq => by
    obtain ⟨p, hp, rfl⟩ := List.mem_map.1 hq
    exact ⟨(hg p hp).1, stab_srt _⟩)
  unfold sortT
  rw [e]
  exact ordd_run h1 h2 (stab_srt _)
theorem rs_ordd (hn : ∀ x, 0 ≤ cls x) : ∀ {xs : List Int}, Ordd cls xs → Srt cls (rs cls xs).1 ∧ ∀ p ∈ (rs cls xs).2, Srt cls p.2
  | [], _ => ⟨Srt.nil, fun p hp => by simp [rs] at hp⟩
  | c :: t, h => by
    obtain ⟨h1, h2⟩ := rs_ordd hn (xs := t) h.tail
    by_cases hc : cls c = 0
    · rw [rs_start hc]
      refine ⟨Srt.nil, fun p hp => ?_⟩
      rcases List.mem_cons.1 hp with e | e
      · rw [e]; exact h1
      · exact h2 p e
    · rw [rs_non hc]
      refine ⟨List.pairwise_cons.2 ⟨fun y hy => ?_, h1⟩, h2⟩
      cases t with
      | nil => simp [rs] at hy
      | cons b t =>
        by_cases hb : cls b = 0
        · rw [rs_start hb] at hy; simp at hy
        · rw [rs_non hb] at hy h1
          have hcb : cls c ≤ cls b := by rcases h.1 with e | e; exact absurd e hb; exact e
          rcases List.mem_cons.1 hy with e | e
          · rw [e]; exact hcb
          · exact Int.le_trans hcb ((List.pairwise_cons.1 h1).1 y e)
theorem stab_of_srt {xs : List Int} (h : Srt cls xs) : stab cls xs = xs := (stab_eq h (Keep.refl xs)).symm
theorem sortT_of_ordd (hn : ∀ x, 0 ≤ cls x) {xs : List Int} (h : Ordd cls xs) : sortT cls xs = xs := by
  obtain ⟨h1, h2⟩ := rs_ordd hn h
  have e : sortL cls (rs cls xs).2 = unL (rs cls xs).2 := by
    unfold sortL unL
    generalize (rs cls xs).2 = l at *
    induction l with
    | nil => rfl
    | cons p l ih =>
      rw [List.flatMap_cons, List.flatMap_cons, stab_of_srt (h2 p (List.mem_cons_self ..)), ih (fun q hq => h2 q (List.mem_cons_of_mem _ hq))]
  unfold sortT
  rw [stab_of_srt h1, e, unrs]

/-- x inserted from the right (the list is reversed). -/
def insRev (cls : Int → Int) (x : Int) : List Int → List Int
  | [] => [x]
  | y :: r => if 0 < cls x ∧ cls x < cls y then y :: insRev cls x r else x :: y :: r
def insR (cls : Int → Int) (x : Int) (l : List Int) : List Int := (insRev cls x l.reverse).reverse
/-- The text in canonical order, by inserting. -/
def refSort (cls : Int → Int) (text : List Int) : List Int := text.foldl (fun out x => insR cls x out) []
theorem insR_nil (x : Int) : insR cls x [] = [x] := rfl
theorem insR_move {x y : Int} {P : List Int} (h0 : 0 < cls x) (h : cls x < cls y) : insR cls x (P ++ [y]) = insR cls x P ++ [y] := by
  unfold insR
  simp [insRev, h0, h]
theorem insR_stay {x y : Int} {P : List Int} (h : ¬ (0 < cls x ∧ cls x < cls y)) : insR cls x (P ++ [y]) = P ++ [y] ++ [x] := by
  unfold insR
  simp [insRev, h]
theorem insR_low {x : Int} (h : ¬ 0 < cls x) (P : List Int) : insR cls x P = P ++ [x] := by
  unfold insR
  cases hp : P.reverse with
  | nil => simp at hp; simp [hp, insRev]
  | cons y r =>
    have : P = r.reverse ++ [y] := by rw [← List.reverse_reverse P, hp]; simp
    rw [this]; simp [insRev, h]
theorem refSort_snoc (t : List Int) (x : Int) : refSort cls (t ++ [x]) = insR cls x (refSort cls t) := by
  unfold refSort
  rw [List.foldl_append]; rfl
theorem insR_length (x : Int) (l : List Int) : (insR cls x l).length = l.length + 1 := by
  unfold insR
  rw [List.length_reverse, ← List.length_reverse (as := l)]
  generalize l.reverse = r
  induction r with
  | nil => rfl
  | cons y r ih =>
    unfold insRev
    split
    · simp [ih]
    · simp
theorem refSort_length (t : List Int) : (refSort cls t).length = t.length := by
  unfold refSort
  have : ∀ (t o : List Int), (t.foldl (fun out x => insR cls x out) o).length = o.length + t.length := by
    intro t
    induction t with
    | nil => intro o; simp
    | cons x t ih => intro o; rw [List.foldl_cons, ih, insR_length]; simp; omega
  rw [this]; simp
theorem insR_spec (x : Int) (hx : 0 < cls x) : ∀ (n : Nat) (S : List Int), S.length = n → Ordd cls S → Ordd cls (insR cls x S) ∧ REq cls (S ++ [x]) (insR cls x S) ∧ ∃ q, (insR cls x S).getLast? = some q ∧ (q = x ∨ S.getLast? = some q)
  | 0, S, hl, _ => by
    have : S = [] := List.length_eq_zero_iff.1 hl
    subst this
    exact ⟨trivial, REq.refl _, x, rfl, .inl rfl⟩
  | n + 1, S, hl, ho => by
    obtain ⟨P, y, rfl⟩ := split_last (xs := S) (by omega)
    by_cases hxy : cls x < cls y
    · rw [insR_move hx hxy]
      have hoP : Ordd cls P := by
        rcases List.eq_nil_or_concat P with e | ⟨A, z, e⟩
        · rw [e]; trivial
        · rw [e, List.concat_eq_append] at ho ⊢
          rw [List.append_assoc] at ho
          exact (ordd_mid.1 ho).1
      obtain ⟨i1, i2, q, hq1, hq2⟩ := insR_spec x hx n P (by simpa using hl) hoP
      refine ⟨?_, ?_, y, by simp, .inr (by simp)⟩
      · rcases List.eq_nil_or_concat (insR cls x P) with e | ⟨A, z, e⟩
        · rw [e]; trivial
        · rw [List.concat_eq_append] at e
          rw [e] at i1 hq1
          simp at hq1
          rw [e, List.append_assoc]
          refine ordd_mid.2 ⟨i1, ?_, trivial⟩
          rw [hq1]
          rcases hq2 with e2 | e2
          · right; rw [e2]; omega
          · rcases List.eq_nil_or_concat P with e3 | ⟨A3, z3, e3⟩
            · rw [e3] at e2; simp at e2
            · rw [List.concat_eq_append] at e3
              rw [e3] at e2 ho
              simp at e2
              rw [List.append_assoc] at ho
              rw [← e2]
              exact (ordd_mid.1 ho).2.1
      · have h1 : REq cls (P ++ [y] ++ [x]) (P ++ [x] ++ [y]) := by
          rw [List.append_assoc, List.append_assoc]
          refine REq.append (REq.refl _) (REq.of_keep ?_ ?_)
          · exact Keep.pair (a := []) (b := []) (u := y) (x := x) (by omega)
          · intro z hz
            simp at hz
            rcases hz with e | e <;> rw [e] <;> omega
        exact h1.trans (REq.append i2 (REq.refl _))
    · rw [insR_stay (by omega)]
      refine ⟨?_, REq.refl _, x, by simp, .inl rfl⟩
      rw [List.append_assoc]
      exact ordd_mid.2 ⟨ho, .inr (by omega), trivial⟩
theorem sortT_snoc (hn : ∀ x, 0 ≤ cls x) (t : List Int) (x : Int) : sortT cls (t ++ [x]) = insR cls x (sortT cls t) := by
  have hn' := hn x
  by_cases hx : 0 < cls x
  · obtain ⟨h1, h2, _⟩ := insR_spec x hx _ (sortT cls t) rfl (ordd_sortT hn t)
    rw [← sortT_of_ordd hn h1]
    exact sortT_congr ((REq.append (REq.sort t) (REq.refl [x])).trans h2)
  · have h0 : cls x = 0 := by omega
    rw [insR_low hx, sortT_join t [] h0, sortT_start h0, sortT_nil]
theorem refSort_from (hn : ∀ x, 0 ≤ cls x) : ∀ (b a : List Int), b.foldl (fun out x => insR cls x out) (sortT cls a) = sortT cls (a ++ b)
  | [], a => by simp
  | x :: b, a => by
    rw [List.foldl_cons, ← sortT_snoc hn, refSort_from hn b]
    simp
theorem refSort_eq (hn : ∀ x, 0 ≤ cls x) (t : List Int) : refSort cls t = sortT cls t := by
  have := refSort_from hn t []
  rw [sortT_nil, List.nil_append] at this
  exact this
end
theorem classOf_nonneg {l : List Span} (h : ordCheck l = 0) (c : Int) : 0 ≤ classOf l c := by
  unfold classOf
  split
  · next s hs =>
    have := spanBad_false (List.any_eq_false.1 (ordCheck_zero h).1 s (List.mem_of_find?_eq_some hs) |> eq_false_of_ne_true)
    omega
  · exact Int.le_refl _
end Go.Proofs.YtljkkfohlkhjnaaGreatDoor
namespace Go.Proofs.YtljkkfohlkhjnaaGreatDoor

section
variable {cls : Int → Int}
/-- How many elements at the front are no starters. -/
def leadN (cls : Int → Int) : List Int → Nat
  | [] => 0
  | c :: t => if cls c = 0 then 0 else leadN cls t + 1
/-- How many elements at the end are no starters. -/
def trailN (cls : Int → Int) : List Int → Nat
  | [] => 0
  | c :: t => if trailN cls t = t.length ∧ cls c ≠ 0 then t.length + 1 else trailN cls t
theorem leadN_le (l : List Int) : leadN cls l ≤ l.length := by
  induction l with
  | nil => simp [leadN]
  | cons c t ih => unfold leadN; split <;> simp <;> omega
theorem trailN_le (l : List Int) : trailN cls l ≤ l.length := by
  induction l with
  | nil => simp [trailN]
  | cons c t ih => unfold trailN; split <;> simp <;> omega
theorem lead_all {l : List Int} : leadN cls l = l.length ↔ ∀ x ∈ l, cls x ≠ 0 := by
  induction l with
  | nil => simp [leadN]
  | cons c t ih =>
    unfold leadN
    by_cases hc : cls c = 0
    · rw [if_pos hc]; simp [hc]
    · rw [if_neg hc]; simp [hc, ih]
theorem trail_all {l : List Int} : trailN cls l = l.length ↔ ∀ x ∈ l, cls x ≠ 0 := by
  induction l with
  | nil => simp [trailN]
  | cons c t ih =>
    unfold trailN
    have := trailN_le (cls := cls) t
    by_cases hc : trailN cls t = t.length ∧ cls c ≠ 0
    · rw [if_pos hc]; simp [hc.2]; exact ih.1 hc.1
    · rw [if_neg hc]
      constructor
      · intro h; simp at h; omega
      · intro h
        exact absurd ⟨ih.2 (fun x hx => h x (List.mem_cons_of_mem _ hx)), h c (List.mem_cons_self ..)⟩ hc
theorem lead_trail {l : List Int} : leadN cls l = l.length ↔ trailN cls l = l.length := lead_all.trans trail_all.symm
theorem trail_split {A B : List Int} {s : Int} (hs : cls s = 0) (hB : ∀ x ∈ B, cls x ≠ 0) : trailN cls (A ++ s :: B) = B.length := by
  induction A with
  | nil =>
    rw [List.nil_append, trailN, if_neg (fun h => h.2 hs)]
    exact trail_all.2 hB
  | cons a A ih =>
    rw [List.cons_append, trailN, if_neg, ih]
    intro h
    exact trail_all.1 h.1 s (by simp) hs
theorem lead_split {A B : List Int} {s : Int} (hs : cls s = 0) (hA : ∀ x ∈ A, cls x ≠ 0) : leadN cls (A ++ s :: B) = A.length := by
  induction A with
  | nil => simp [leadN, hs]
  | cons a A ih =>
    rw [List.cons_append, leadN, if_neg (hA a (List.mem_cons_self ..)), ih (fun x hx => hA x (List.mem_cons_of_mem _ hx))]; rfl
/-- The numbers at both ends, and whether there is no starter. -/
structure Edg where
  lead : Nat
  trail : Nat
  op : Bool
def edgOf (cls : Int → Int) (l : List Int) : Edg := ⟨leadN cls l, trailN cls l, decide (leadN cls l = l.length)⟩
def edgStep (N : Nat) (e : Edg) (r : Rng) : Edg := ⟨if r.lo = 0 then r.hi.toNat else e.lead, if r.hi = N then (r.hi - r.lo).toNat else e.trail, e.op || (decide (r.lo = 0) && decide (r.hi = N))⟩
theorem edg_some (N : Nat) : ∀ (t : List Int) (i : Nat) (a : Nat) (o : Bool), N = i + t.length → 0 < i →
    ((runsFrom cls i none t).foldl (edgStep N) ⟨a, 0, o⟩ = ⟨a, trailN cls t, o⟩) ∧
    ∀ s, s < i → (runsFrom cls i (some s) t).foldl (edgStep N) ⟨a, 0, o⟩ = if trailN cls t = t.length then ⟨if s = 0 then N else a, N - s, o || decide (s = 0)⟩ else ⟨if s = 0 then i + leadN cls t else a, trailN cls t, o⟩
  | [], i, a, o, hN, hi => by
    simp at hN
    subst hN
    refine ⟨by simp [runsFrom, trailN], fun s hs => ?_⟩
    simp only [runsFrom, trailN, List.foldl_cons, List.foldl_nil, edgStep, List.length_nil, if_true]
    simp
  | c :: t, i, a, o, hN, hi => by
    simp at hN
    have ih := edg_some N t (i + 1)
    have hle := trailN_le (cls := cls) t
    constructor
    · unfold runsFrom
      by_cases hc : cls c = 0
      · rw [if_pos hc, (ih a o (by omega) (by omega)).1, trailN, if_neg (show ¬ (trailN cls t = t.length ∧ cls c ≠ 0) from fun h => h.2 hc)]
      · rw [if_neg hc, (ih a o (by omega) (by omega)).2 i (by omega), trailN]
        by_cases ht : trailN cls t = t.length
        · rw [if_pos ht, if_pos (show trailN cls t = t.length ∧ cls c ≠ 0 from ⟨ht, hc⟩)]
          have h0 : ¬ i = 0 := by omega
          simp [h0]; omega
        · rw [if_neg ht, if_neg (show ¬ (trailN cls t = t.length ∧ cls c ≠ 0) from fun h => ht h.1)]
          have h0 : ¬ i = 0 := by omega
          simp [h0]
    · intro s hs
      unfold runsFrom
      by_cases hc : cls c = 0
      · rw [if_pos hc, List.foldl_cons]
        have e1 : edgStep N ⟨a, 0, o⟩ ⟨s, i⟩ = ⟨if s = 0 then i else a, 0, o⟩ := by
          unfold edgStep
          have : ¬ ((i : Int) = (N : Int)) := by omega
          simp [this]
        rw [e1, (ih _ o (by omega) (by omega)).1]
        rw [trailN, if_neg (show ¬ (trailN cls t = t.length ∧ cls c ≠ 0) from fun h => h.2 hc), if_neg (show ¬ trailN cls t = (c :: t).length from by simp; omega), leadN, if_pos hc]
        simp
      · rw [if_neg hc, (ih a o (by omega) (by omega)).2 s (by omega), trailN, leadN, if_neg hc]
        by_cases ht : trailN cls t = t.length
        · rw [if_pos ht, if_pos (show trailN cls t = t.length ∧ cls c ≠ 0 from ⟨ht, hc⟩)]; simp
        · rw [if_neg ht, if_neg (show ¬ (trailN cls t = t.length ∧ cls c ≠ 0) from fun h => ht h.1), if_neg (show ¬ trailN cls t = (c :: t).length from by simp; omega), show i + (leadN cls t + 1) = i + 1 + leadN cls t from by omega]
theorem edg_runs (l : List Int) : (runsFrom cls 0 none l).foldl (edgStep l.length) ⟨0, 0, decide (l.length = 0)⟩ = edgOf cls l := by
  cases l with
  | nil => simp [runsFrom, edgOf, leadN, trailN]
  | cons c t =>
    unfold runsFrom edgOf
    have hle := trailN_le (cls := cls) t
    by_cases hc : cls c = 0
    · rw [if_pos hc]
      have := (edg_some (cls := cls) (c :: t).length t 1 0 false (by simp; omega) (by omega)).1
      simp only [List.length_cons] at this ⊢
      simp only [Nat.zero_add, show decide (t.length + 1 = 0) = false by simp, this]
      rw [trailN, if_neg (show ¬ (trailN cls t = t.length ∧ cls c ≠ 0) from fun h => h.2 hc), leadN, if_pos hc]
      simp
    · rw [if_neg hc]
      have := (edg_some (cls := cls) (c :: t).length t 1 0 false (by simp; omega) (by omega)).2 0 (by omega)
      simp only [List.length_cons] at this ⊢
      simp only [Nat.zero_add, show decide (t.length + 1 = 0) = false by simp, this]
      rw [trailN, leadN, if_neg hc]
      by_cases ht : trailN cls t = t.length
      · have hl := lead_trail.2 ht
        rw [if_pos ht, if_pos (show trailN cls t = t.length ∧ cls c ≠ 0 from ⟨ht, hc⟩)]
        simp [hl]
      · have hl : ¬ leadN cls t = t.length := fun h => ht (lead_trail.1 h)
        rw [if_neg ht, if_neg (show ¬ (trailN cls t = t.length ∧ cls c ≠ 0) from fun h => ht h.1)]
        simp [hl]; omega
end
/-- The number after an element. -/
def nxtE (e : Edg) (k : Nat) : Nat := if e.op then k + e.lead else e.trail
def fitsE (most : Int) (e : Edg) (k : Nat) : Bool := decide (k = 0) || decide (e.lead = 0) || decide (((k + e.lead : Nat) : Int) ≤ most)
/-- The stream-safe text. -/
def ssFrom (E : Int → Edg) (most : Int) : Nat → List Int → List Int
  | _, [] => []
  | k, c :: t => if fitsE most (E c) k then c :: ssFrom E most (nxtE (E c) k) t else 847 :: c :: ssFrom E most (nxtE (E c) 0) t
/-- The number after a text. -/
def ssCount (E : Int → Edg) (most : Int) : Nat → List Int → Nat
  | k, [] => k
  | k, c :: t => if fitsE most (E c) k then ssCount E most (nxtE (E c) k) t else ssCount E most (nxtE (E c) 0) t
section
variable {E : Int → Edg} {most : Int}
theorem ssFrom_snoc (c : Int) : ∀ (t : List Int) (k : Nat), ssFrom E most k (t ++ [c]) = ssFrom E most k t ++ (if fitsE most (E c) (ssCount E most k t) then [c] else [847, c])
  | [], k => by by_cases h : fitsE most (E c) k = true <;> simp [ssFrom, ssCount, h]
  | d :: t, k => by
    rw [List.cons_append, ssFrom, ssFrom, ssCount]
    split
    · rw [ssFrom_snoc c t]; rfl
    · rw [ssFrom_snoc c t]; rfl
theorem ssCount_snoc (c : Int) : ∀ (t : List Int) (k : Nat), ssCount E most k (t ++ [c]) = if fitsE most (E c) (ssCount E most k t) then nxtE (E c) (ssCount E most k t) else nxtE (E c) 0
  | [], k => by by_cases h : fitsE most (E c) k = true <;> simp [ssCount, h]
  | d :: t, k => by
    rw [List.cons_append, ssCount, ssCount]
    split
    · rw [ssCount_snoc c t]
    · rw [ssCount_snoc c t]
theorem fits_zero (e : Edg) : fitsE most e 0 = true := by simp [fitsE]
theorem ss_twice (hj : E 847 = ⟨0, 0, false⟩) : ∀ (t : List Int) (k : Nat), ssFrom E most k (ssFrom E most k t) = ssFrom E most k t
  | [], k => rfl
  | c :: t, k => by
    rw [ssFrom]
    by_cases h : fitsE most (E c) k = true
    · rw [if_pos h, ssFrom, if_pos h, ss_twice hj t]
    · rw [if_neg h, ssFrom, if_pos (by rw [hj]; simp [fitsE])]
      have e : nxtE (E 847) k = 0 := by rw [hj]; rfl
      rw [e, ssFrom, if_pos (fits_zero _), ss_twice hj t]
theorem ss_keeps : ∀ (t : List Int) (k : Nat), (ssFrom E most k t).filter (fun c => c != 847) = t.filter (fun c => c != 847)
  | [], k => rfl
  | c :: t, k => by
    rw [ssFrom]
    split
    · rw [List.filter_cons, List.filter_cons, ss_keeps t]
    · rw [List.filter_cons, if_neg (by decide), List.filter_cons, List.filter_cons, ss_keeps t]
theorem ss_len : ∀ (t : List Int) (k : Nat), t.length ≤ (ssFrom E most k t).length ∧ (ssFrom E most k t).length ≤ 2 * t.length
  | [], k => by simp [ssFrom]
  | c :: t, k => by
    rw [ssFrom]
    split
    · have := ss_len t (nxtE (E c) k); simp; omega
    · have := ss_len t (nxtE (E c) 0); simp; omega
theorem ss_short (c : Int) (t : List Int) : (ssFrom E most 0 (c :: t)).length < 2 * (c :: t).length := by
  rw [ssFrom, if_pos (fits_zero _)]
  have := ss_len (E := E) (most := most) t (nxtE (E c) 0)
  simp; omega
theorem ss_joins {b : Int} {t : List Int} (h0 : (E b).lead = 0) (h1 : (E b).op = false) : ∀ (a : List Int) (k : Nat), ssFrom E most k (a ++ b :: t) = ssFrom E most k a ++ ssFrom E most 0 (b :: t)
  | [], k => by
    have e : ∀ k, nxtE (E b) k = (E b).trail := fun k => by simp [nxtE, h1]
    rw [List.nil_append, ssFrom, ssFrom, ssFrom, if_pos (by simp [fitsE, h0]), if_pos (fits_zero _), e, e, List.nil_append]
  | c :: a, k => by
    rw [List.cons_append, ssFrom, ssFrom]
    split
    · rw [ss_joins h0 h1 a]; rfl
    · rw [ss_joins h0 h1 a]; rfl
end
/-- The longest run, k elements of it before the text. -/
def mrun (cls : Int → Int) : Nat → List Int → Nat
  | k, [] => k
  | k, c :: t => if cls c = 0 then max k (mrun cls 0 t) else mrun cls (k + 1) t
/-- How long the run at the end is. -/
def trun (cls : Int → Int) : Nat → List Int → Nat
  | k, [] => k
  | k, c :: t => if cls c = 0 then trun cls 0 t else trun cls (k + 1) t
section
variable {cls : Int → Int}
theorem mrun_ge : ∀ (t : List Int) (k : Nat), k ≤ mrun cls k t
  | [], k => Nat.le_refl _
  | c :: t, k => by
    rw [mrun]; split
    · omega
    · have := mrun_ge t (k + 1); omega
theorem mrun_mono : ∀ (t : List Int) {k j : Nat}, k ≤ j → mrun cls k t ≤ mrun cls j t
  | [], k, j, h => h
  | c :: t, k, j, h => by
    rw [mrun, mrun]; split
    · omega
    · exact mrun_mono t (by omega)
theorem mrun_append : ∀ (a b : List Int) (k : Nat), mrun cls k (a ++ b) = max (mrun cls k a) (mrun cls (trun cls k a) b)
  | [], b, k => by have := mrun_ge (cls := cls) b k; simp only [List.nil_append, mrun, trun]; omega
  | c :: a, b, k => by
    rw [List.cons_append, mrun, mrun, trun]; split
    · rw [mrun_append a b]; omega
    · rw [mrun_append a b]
theorem trun_append : ∀ (a b : List Int) (k : Nat), trun cls k (a ++ b) = trun cls (trun cls k a) b
  | [], b, k => rfl
  | c :: a, b, k => by
    rw [List.cons_append, trun, trun]; split
    · rw [trun_append a b]
    · rw [trun_append a b]
theorem mrun_lead : ∀ (a : List Int) (k : Nat), mrun cls k a ≤ max (k + leadN cls a) (mrun cls 0 a)
  | [], k => by simp [mrun, leadN]
  | c :: a, k => by
    rw [mrun, mrun, leadN]; split
    · omega
    · have h1 := mrun_lead a (k + 1)
      have h2 := mrun_mono (cls := cls) a (show 0 ≤ 0 + 1 by omega)
      omega
theorem trun_edg : ∀ (a : List Int) (k : Nat), trun cls k a = nxtE (edgOf cls a) k := by
  intro a
  induction a with
  | nil => intro k; simp [trun, nxtE, edgOf, leadN]
  | cons c a ih =>
    intro k
    have hl := leadN_le (cls := cls) a
    have ht := trailN_le (cls := cls) a
    unfold nxtE edgOf at ih ⊢
    rw [trun, leadN, trailN]
    by_cases hc : cls c = 0
    · rw [if_pos hc, if_pos hc, ih 0]
      by_cases hall : leadN cls a = a.length
      · have := lead_trail.1 hall
        simp [hall, hc, this]
      · simp [hall, hc]
    · rw [if_neg hc, if_neg hc, ih (k + 1)]
      by_cases hall : leadN cls a = a.length
      · simp [hall]; omega
      · have : ¬ trailN cls a = a.length := fun h => hall (lead_trail.2 h)
        simp [hall, this]
theorem ss_bound {F : Int → List Int} {most : Int} {B : Nat} (hj : F 847 = [847]) (hjc : cls 847 = 0) (hm : most ≤ B) : ∀ (t : List Int) (k : Nat), k ≤ B → (∀ c ∈ t, mrun cls 0 (F c) ≤ B) → mrun cls k ((ssFrom (fun c => edgOf cls (F c)) most k t).flatMap F) ≤ B
  | [], k, hk, _ => by simpa [ssFrom, mrun] using hk
  | c :: t, k, hk, ht => by
    have hc := ht c (List.mem_cons_self ..)
    have ht' : ∀ c ∈ t, mrun cls 0 (F c) ≤ B := fun x hx => ht x (List.mem_cons_of_mem _ hx)
    have hle : ∀ k', k' = 0 ∨ leadN cls (F c) = 0 ∧ k' ≤ B ∨ ((k' + leadN cls (F c) : Nat) : Int) ≤ most → mrun cls k' (F c) ≤ B := fun k' h => by
      have h1 := mrun_lead (cls := cls) (F c) k'
      rcases h with h | h | h
      · rw [h] at *; exact hc
      · omega
      · omega
    have htr : ∀ k', mrun cls k' (F c) ≤ B → trun cls k' (F c) ≤ B := fun k' h => by
      have := mrun_append (cls := cls) (F c) [] k'
      rw [List.append_nil] at this
      simp only [mrun] at this
      omega
    rw [ssFrom]
    by_cases h : fitsE most (edgOf cls (F c)) k = true
    · rw [if_pos h, List.flatMap_cons, mrun_append, trun_edg]
      have h1 := hle k (by unfold fitsE edgOf at h; simp only [Bool.or_eq_true, decide_eq_true_eq] at h; omega)
      have h2 := htr k h1
      rw [trun_edg] at h2
      have h3 := ss_bound hj hjc hm t _ h2 ht'
      omega
    · rw [if_neg h, List.flatMap_cons, List.flatMap_cons, hj, List.singleton_append, mrun, if_pos hjc, mrun_append, trun_edg]
      have h1 := hle 0 (.inl rfl)
      have h2 := htr 0 h1
      rw [trun_edg] at h2
      have h3 := ss_bound hj hjc hm t _ h2 ht'
      omega
/-- The longest of the runs, as ranges. -/
def longR (l : List Rng) : Int := l.foldl (fun m r => max m (r.hi - r.lo)) 0
theorem longR_runs : ∀ (t : List Int) (i : Nat) (m : Nat), ((runsFrom cls i none t).foldl (fun m r => max m (r.hi - r.lo)) (m : Int) = ((max m (mrun cls 0 t) : Nat) : Int)) ∧ ∀ s, s < i → (runsFrom cls i (some s) t).foldl (fun m r => max m (r.hi - r.lo)) (m : Int) = ((max m (mrun cls (i - s) t) : Nat) : Int)
  | [], i, m => by
    refine ⟨by simp [runsFrom, mrun], fun s hs => ?_⟩
    simp only [runsFrom, List.foldl_cons, List.foldl_nil, mrun]
    omega
  | c :: t, i, m => by
    constructor
    · unfold runsFrom; rw [mrun]; split
      · rw [(longR_runs t (i + 1) m).1]; omega
      · rw [(longR_runs t (i + 1) m).2 i (by omega)]
        have : i + 1 - i = 0 + 1 := by omega
        rw [this]
    · intro s hs
      unfold runsFrom; rw [mrun]; split
      · rw [List.foldl_cons]
        have : max (m : Int) (((⟨s, i⟩ : Rng)).hi - (⟨s, i⟩ : Rng).lo) = ((max m (i - s) : Nat) : Int) := by simp only; omega
        rw [this, (longR_runs t (i + 1) _).1]; omega
      · rw [(longR_runs t (i + 1) m).2 s (by omega)]
        have : i + 1 - s = i - s + 1 := by omega
        rw [this]
theorem longR_eq (t : List Int) : longR (runsFrom cls 0 none t) = (mrun cls 0 t : Nat) := by
  have := (longR_runs (cls := cls) t 0 0).1
  unfold longR
  simpa using this
def mrunL : List (Int × List Int) → Nat
  | [] => 0
  | p :: l => max p.2.length (mrunL l)
theorem mrun_rs : ∀ (t : List Int) (k : Nat), mrun cls k t = max (k + (rs cls t).1.length) (mrunL (rs cls t).2)
  | [], k => by simp [mrun, rs, mrunL]
  | c :: t, k => by
    rw [mrun]
    by_cases hc : cls c = 0
    · rw [if_pos hc, rs_start hc, mrun_rs t]; simp [mrunL]
    · rw [if_neg hc, rs_non hc, mrun_rs t]; simp; omega
theorem Keep.length {a b : List Int} (h : Keep cls a b) : a.length = b.length := by
  rw [← stab_length (cls := cls) a, ← stab_length (cls := cls) b, stab_congr h]
theorem mrunL_congr {l l' : List (Int × List Int)} (h : REqL cls l l') : mrunL l = mrunL l' := by
  induction h with
  | nil => rfl
  | cons hk _ ih => rw [mrunL, mrunL, hk.length, ih]
theorem mrun_sort (t : List Int) (k : Nat) : mrun cls k (sortT cls t) = mrun cls k t := by
  have h := REq.sort (cls := cls) t
  rw [mrun_rs, mrun_rs, h.1.length, mrunL_congr h.2]
end
end Go.Proofs.YtljkkfohlkhjnaaGreatDoor
namespace Go.Proofs.YtljkkfohlkhjnaaGreatDoor

def tabOf (l : List Mp) (cp : Bool) (T : List (List Int)) (c : Int) : List Int := match findM l c cp with
  | some m => T[m]?.getD []
  | none => decompH c
def replL (l : List Mp) (cp : Bool) (T : List (List Int)) (to : List Int) : List Int := to.flatMap (tabOf l cp T)
def tabStep (l : List Mp) (cp : Bool) (T : List (List Int)) (i : Nat) : List (List Int) := match l[i]? with
  | some m => if cp || plainTag m then T.set i (replL l cp T m.to) else T
  | none => T
def tabRound (l : List Mp) (cp : Bool) (T : List (List Int)) : List (List Int) := (List.range l.length).foldl (tabStep l cp) T
def refTable (l : List Mp) (cp : Bool) : List (List Int) := iter (tabRound l cp) l.length (List.replicate l.length [])
def refFull (l : List Mp) (cp : Bool) (text : List Int) : List Int := replL l cp (refTable l cp) text

theorem tabStep_length (l : List Mp) (cp : Bool) (T : List (List Int)) (i : Nat) : (tabStep l cp T i).length = T.length := by
  unfold tabStep; split
  · split <;> simp
  · rfl
theorem tabRound_length (l : List Mp) (cp : Bool) (T : List (List Int)) : (tabRound l cp T).length = T.length := foldl_length _ (tabStep_length l cp) _ _
theorem refTable_length (l : List Mp) (cp : Bool) : (refTable l cp).length = l.length := by unfold refTable; rw [iter_length _ (tabRound_length l cp)]; simp
theorem findM_some_fits {l : List Mp} {c : Int} {cp : Bool} {i : Nat} (h : findM l c cp = some i) : ∃ m, l[i]? = some m ∧ m.src = c ∧ (cp || plainTag m) = true := by
  unfold findM at h
  obtain ⟨h1, h2, _⟩ := List.findIdx?_eq_some_iff_getElem.1 h
  simp only [fits, Bool.and_eq_true, decide_eq_true_eq] at h2
  exact ⟨l[i], List.getElem?_eq_getElem h1, h2.1, h2.2⟩
theorem findM_none_fits {l : List Mp} {c : Int} {cp : Bool} (h : findM l c cp = none) {m : Mp} (hm : m ∈ l) (hc : m.src = c) : (cp || plainTag m) = false := by
  unfold findM at h
  have := List.findIdx?_eq_none_iff.1 h m hm
  simp only [fits, hc, decide_true, Bool.true_and] at this
  exact this
section
variable {l : List Mp} {cp : Bool} {F : Int → List Int}
theorem full_decompH (hh : l.any srcHangul = false) (hF : FullEq l cp F) {c : Int} (hk : 4 ≤ kind c) : F c = decompH c := by
  have h1 : onceOf l c cp = some (decompH c) := if_pos hk
  rw [hF c, h1]
  refine flatMap_fix (fun x hx => ?_)
  exact full_fix hF (onceOf_jamo hh (kind_parts hk x hx))
theorem full_notIn (_hs : MpSorted l) (hh : l.any srcHangul = false) (hF : FullEq l cp F) {c : Int} (hf : findM l c cp = none) : F c = decompH c := by
  by_cases hk : 4 ≤ kind c
  · exact full_decompH hh hF hk
  · have h1 : onceOf l c cp = none := by
      unfold onceOf
      rw [if_neg hk]
      cases hm : mapOf l c cp with
      | none => rfl
      | some xs =>
        obtain ⟨m, hm1, hm2, _, hm4⟩ := mapOf_mem hm
        have := findM_none_fits hf hm1 hm2
        rw [Bool.or_comm] at this
        rw [this] at hm4; cases hm4
    rw [full_fix hF h1]
    unfold decompH
    rw [if_pos (by omega)]
theorem once_fits (hs : MpSorted l) (hh : l.any srcHangul = false) {i : Nat} {m : Mp} (h : l[i]? = some m) (hp : (cp || plainTag m) = true) : onceOf l m.src cp = some m.to := by
  have hk := src_kind hs hh h
  unfold onceOf
  rw [if_neg (by omega), mapOf_some hs h rfl, if_pos (by rw [Bool.or_comm]; exact hp)]
/-- Where replacing is known to end, the list is right. -/
def TabRight (l : List Mp) (cp : Bool) (F : Int → List Int) (E : List Bool) (T : List (List Int)) : Prop := T.length = l.length ∧ E.length = l.length ∧ ∀ (i : Nat) (m : Mp), E[i]? = some true → l[i]? = some m → (cp || plainTag m) = true → T[i]? = some (F m.src)
theorem tabOf_right (hs : MpSorted l) (hh : l.any srcHangul = false) (hF : FullEq l cp F) {E : List Bool} {T : List (List Int)} (h : TabRight l cp F E T) {c : Int} (hc : endOk l E c = true) : tabOf l cp T c = F c := by
  unfold tabOf
  cases hf : findM l c cp with
  | none => exact (full_notIn hs hh hF hf).symm
  | some i =>
    obtain ⟨m, hm, e, hp⟩ := findM_some_fits hf
    have ht := findM_true_src hs hh hm
    rw [e] at ht
    unfold endOk at hc
    rw [ht] at hc
    simp only at hc ⊢
    have : E[i]? = some true := by
      cases he : E[i]? with
      | none => rw [he] at hc; simp at hc
      | some b => rw [he] at hc; simp at hc; rw [hc]
    rw [h.2.2 i m this hm hp, e]; rfl
theorem tabStep_right (hs : MpSorted l) (hh : l.any srcHangul = false) (hF : FullEq l cp F) {E : List Bool} {T : List (List Int)} (h : TabRight l cp F E T) (i : Nat) : TabRight l cp F (endStep l E i) (tabStep l cp T i) := by
  refine ⟨by rw [tabStep_length]; exact h.1, by rw [endStep_length]; exact h.2.1, fun j m hj hm hp => ?_⟩
  have hjl := lt_of_getElem?_some hm
  by_cases e : i = j
  · subst e
    unfold endStep at hj
    rw [List.getElem?_set_self (by rw [h.2.1]; exact hjl), hm] at hj
    simp only [Option.map_some, Option.getD_some, Option.some.injEq, List.all_eq_true] at hj
    unfold tabStep
    rw [hm]
    simp only
    rw [if_pos hp, List.getElem?_set_self (by rw [h.1]; exact hjl)]
    congr 1
    unfold replL
    rw [flatMap_congr' (fun x hx => tabOf_right hs hh hF h (hj x hx)), hF m.src, once_fits hs hh hm hp]
  · unfold endStep at hj
    rw [List.getElem?_set_ne e] at hj
    unfold tabStep
    split
    · split
      · rw [List.getElem?_set_ne e]; exact h.2.2 j m hj hm hp
      · exact h.2.2 j m hj hm hp
    · exact h.2.2 j m hj hm hp
theorem foldl_tabRight (hs : MpSorted l) (hh : l.any srcHangul = false) (hF : FullEq l cp F) : ∀ (ks : List Nat) (E : List Bool) (T : List (List Int)), TabRight l cp F E T → TabRight l cp F (ks.foldl (endStep l) E) (ks.foldl (tabStep l cp) T)
  | [], _, _, h => h
  | k :: ks, _, _, h => foldl_tabRight hs hh hF ks _ _ (tabStep_right hs hh hF h k)
theorem iter_tabRight (hs : MpSorted l) (hh : l.any srcHangul = false) (hF : FullEq l cp F) : ∀ (r : Nat) (E : List Bool) (T : List (List Int)), TabRight l cp F E T → TabRight l cp F (iter (endRound l) r E) (iter (tabRound l cp) r T)
  | 0, _, _, h => h
  | r + 1, E, T, h => foldl_tabRight hs hh hF _ _ _ (iter_tabRight hs hh hF r E T h)
theorem refFull_eq (hs : MpSorted l) (hh : l.any srcHangul = false) (hwf : Ends l true) (hF : FullEq l cp F) (text : List Int) : refFull l cp text = text.flatMap F := by
  have h := iter_tabRight hs hh hF l.length (List.replicate l.length false) (List.replicate l.length []) ⟨by simp, by simp, fun i m h1 _ => by
    have := List.eq_of_mem_replicate (List.mem_of_getElem? h1)
    cases this⟩
  have hall := ends_complete hs hh hwf
  rw [List.all_eq_true] at hall
  unfold refFull replL
  refine flatMap_congr' (fun x _ => tabOf_right hs hh hF h ?_)
  unfold endOk
  cases hf : findM l x true with
  | none => rfl
  | some i =>
    have hi := findM_lt hf
    have hlen := refEnds_length l
    have := hall _ (List.getElem_mem (l := refEnds l) (n := i) (by omega))
    simp only
    change ((refEnds l)[i]?.getD false) = true
    rw [List.getElem?_eq_getElem (by omega)]
    simpa using this
/-- No list is longer than the right one. -/
def TabLe (l : List Mp) (F : Int → List Int) (T : List (List Int)) : Prop := T.length = l.length ∧ ∀ (i : Nat) (m : Mp) (v : List Int), T[i]? = some v → l[i]? = some m → v.length ≤ (F m.src).length
theorem tabOf_le (hs : MpSorted l) (hh : l.any srcHangul = false) (hF : FullEq l cp F) {T : List (List Int)} (h : TabLe l F T) (c : Int) : (tabOf l cp T c).length ≤ (F c).length := by
  unfold tabOf
  cases hf : findM l c cp with
  | none => simp only; rw [full_notIn hs hh hF hf]; exact Nat.le_refl _
  | some i =>
    obtain ⟨m, hm, e, _⟩ := findM_some_fits hf
    simp only
    cases hT : T[i]? with
    | none => simp
    | some v => simp only [Option.getD_some]; rw [← e]; exact h.2 i m v hT hm
theorem flatMap_le {f g : Int → List Int} : ∀ (to : List Int), (∀ x, (f x).length ≤ (g x).length) → (to.flatMap f).length ≤ (to.flatMap g).length
  | [], _ => by simp
  | x :: r, h => by
    have := flatMap_le r h
    have := h x
    simp only [List.flatMap_cons, List.length_append]; omega
theorem tabStep_le (hs : MpSorted l) (hh : l.any srcHangul = false) (hF : FullEq l cp F) {T : List (List Int)} (h : TabLe l F T) (i : Nat) : TabLe l F (tabStep l cp T i) := by
  refine ⟨by rw [tabStep_length]; exact h.1, fun j m v hj hm => ?_⟩
  have hjl := lt_of_getElem?_some hm
  unfold tabStep at hj
  by_cases e : i = j
  · subst e
    rw [hm] at hj
    simp only at hj
    split at hj
    · next hp =>
      rw [List.getElem?_set_self (by rw [h.1]; exact hjl)] at hj
      injection hj with hj
      rw [← hj, hF m.src, once_fits hs hh hm hp]
      exact flatMap_le _ (fun x => tabOf_le hs hh hF h x)
    · exact h.2 i m v hj hm
  · split at hj
    · split at hj
      · rw [List.getElem?_set_ne e] at hj; exact h.2 j m v hj hm
      · exact h.2 j m v hj hm
    · exact h.2 j m v hj hm
theorem foldl_tabLe (hs : MpSorted l) (hh : l.any srcHangul = false) (hF : FullEq l cp F) : ∀ (ks : List Nat) (T : List (List Int)), TabLe l F T → TabLe l F (ks.foldl (tabStep l cp) T)
  | [], _, h => h
  | k :: ks, _, h => foldl_tabLe hs hh hF ks _ (tabStep_le hs hh hF h k)
theorem iter_tabLe (hs : MpSorted l) (hh : l.any srcHangul = false) (hF : FullEq l cp F) : ∀ (r : Nat) (T : List (List Int)), TabLe l F T → TabLe l F (iter (tabRound l cp) r T)
  | 0, _, h => h
  | r + 1, T, h => foldl_tabLe hs hh hF _ _ (iter_tabLe hs hh hF r T h)
theorem tabLe_start : TabLe l F (List.replicate l.length []) := ⟨by simp, fun i m v h1 _ => by
  have := List.eq_of_mem_replicate (List.mem_of_getElem? h1)
  rw [this]; simp⟩
end
end Go.Proofs.YtljkkfohlkhjnaaGreatDoor
