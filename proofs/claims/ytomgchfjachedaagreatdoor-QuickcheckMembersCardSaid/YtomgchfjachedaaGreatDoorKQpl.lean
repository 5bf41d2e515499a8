/- Two sets gone through side by side, by cursors. No program. The members of a set, one by one. No program. And more of that kind. -/
import Derived.Test.YtomgchfjachedaaGreatDoorKPq
import Derived.Test.YtomgchfjachedaaGreatDoorKAlive24
namespace Go.Proofs.YtomgchfjachedaaGreatDoor
def curR (L : List Rng) (i : Nat) (c : Int) : Bool × Int := match L[i]? with
  | none => (false, 1114111)
  | some r => if c < r.lo then (false, r.lo - 1) else (true, r.hi)
def Past (L : List Rng) (i : Nat) (c : Int) : Prop := i ≤ L.length ∧ ∀ j r, j < i → L[j]? = some r → r.hi < c
theorem Past.zero (L : List Rng) (c : Int) : Past L 0 c := ⟨Nat.zero_le _, fun j _ h => absurd h (by omega)⟩
theorem Past.mono {L : List Rng} {i : Nat} {c d : Int} (h : Past L i c) (hd : c ≤ d) : Past L i d := ⟨h.1, fun j r hj hr => by have := h.2 j r hj hr; omega⟩
theorem Past.next {L : List Rng} {i : Nat} {c : Int} {r : Rng} (h : Past L i c) (hr : L[i]? = some r) (hc : r.hi < c) : Past L (i + 1) c :=
  ⟨by have := lt_of_getElem?_some hr; omega, fun j s hj hs => by
    rcases Nat.lt_or_eq_of_le (Nat.lt_succ_iff.1 hj) with h1 | h1
    · exact h.2 j s h1 hs
    · subst h1; rw [hr] at hs; injection hs with hs; rw [← hs]; exact hc⟩
def Rest (L : List Rng) (i : Nat) (c : Int) : Prop := Past L i c ∧ ∀ r, L[i]? = some r → c ≤ r.hi
theorem canon_lt {L : List Rng} (hL : Canon L) {i j : Nat} {a b : Rng} (hij : i < j) (ha : L[i]? = some a) (hb : L[j]? = some b) : a.hi + 2 ≤ b.lo := by
  have h1 := lt_of_getElem?_some ha
  have h2 := lt_of_getElem?_some hb
  have := List.pairwise_iff_getElem.1 hL.2 i j h1 h2 hij
  rw [List.getElem?_eq_getElem h1] at ha
  rw [List.getElem?_eq_getElem h2] at hb
  injection ha with ha
  injection hb with hb
  rw [ha, hb] at this
  exact this
theorem cur_right {L : List Rng} (hL : Canon L) {i : Nat} {c : Int} (h : Rest L i c) (_h0 : 0 ≤ c) (h1 : c ≤ 1114111) :
    c ≤ (curR L i c).2 ∧ (curR L i c).2 ≤ 1114111 ∧ ∀ x, c ≤ x → x ≤ (curR L i c).2 → hasR L x = (curR L i c).1 := by
  obtain ⟨hp, hr⟩ := h
  have key : ∀ x, c ≤ x → ∀ j s, j < i → L[j]? = some s → ¬ (s.lo ≤ x ∧ x ≤ s.hi) := fun x hx j s hj hs ⟨_, h3⟩ => by have := hp.2 j s hj hs; omega
  cases hi : L[i]? with
  | none =>
    have hlen : L.length ≤ i := List.getElem?_eq_none_iff.1 hi
    have e : curR L i c = (false, 1114111) := by unfold curR; rw [hi]
    rw [e]
    refine ⟨h1, Int.le_refl _, fun x hx _ => ?_⟩
    refine Bool.eq_false_iff.2 (fun hx2 => ?_)
    obtain ⟨s, hs, hin⟩ := (hasR_canon hL x).1 hx2
    obtain ⟨j, hj⟩ := List.getElem?_of_mem hs
    exact key x hx j s (by have := lt_of_getElem?_some hj; omega) hj hin
  | some r =>
    have hrhi := hr r hi
    have hg := hL.1 r (mem_of_getElem?_some hi)
    have hback : ∀ x, x < r.lo → ∀ j s, i ≤ j → L[j]? = some s → ¬ (s.lo ≤ x ∧ x ≤ s.hi) := fun x hx j s hj hs ⟨h2, _⟩ => by
      rcases Nat.lt_or_eq_of_le hj with h3 | h3
      · have := canon_lt hL h3 hi hs
        have := hg.2.1
        omega
      · subst h3; rw [hi] at hs; injection hs with hs; rw [← hs] at h2; omega
    by_cases hc : c < r.lo
    · have e : curR L i c = (false, r.lo - 1) := by unfold curR; rw [hi]; exact if_pos hc
      rw [e]
      refine ⟨by simp only; omega, by simp only; have := hg.2; omega, fun x hx hx2 => ?_⟩
      simp only at hx2 ⊢
      refine Bool.eq_false_iff.2 (fun hx3 => ?_)
      obtain ⟨s, hs, hin⟩ := (hasR_canon hL x).1 hx3
      obtain ⟨j, hj⟩ := List.getElem?_of_mem hs
      rcases Nat.lt_or_ge j i with h2 | h2
      · exact key x hx j s h2 hj hin
      · exact hback x (by omega) j s h2 hj hin
    · have e : curR L i c = (true, r.hi) := by unfold curR; rw [hi]; exact if_neg hc
      rw [e]
      refine ⟨hrhi, hg.2.2, fun x hx hx2 => ?_⟩
      exact (hasR_canon hL x).2 ⟨r, mem_of_getElem?_some hi, by omega, hx2⟩
def CombInv (A B : List Rng) (kp : Bool → Bool → Bool) (out : List Rng) (lo : Int) : Prop := ∀ x, memR out x ↔ (0 ≤ x ∧ x < lo ∧ kp (hasR A x) (hasR B x) = true)
theorem CombInv.zero (A B : List Rng) (kp : Bool → Bool → Bool) : CombInv A B kp [] 0 := fun x => by
  constructor
  · intro h; exact absurd h (memR_nil x)
  · rintro ⟨h1, h2, _⟩; omega
theorem CombInv.keep {A B : List Rng} {kp : Bool → Bool → Bool} {out : List Rng} {lo hi : Int} {a b : Bool} (h : CombInv A B kp out lo) (h0 : 0 ≤ lo) (hlh : lo ≤ hi)
    (ha : ∀ x, lo ≤ x → x ≤ hi → hasR A x = a) (hb : ∀ x, lo ≤ x → x ≤ hi → hasR B x = b) (hk : kp a b = true) : CombInv A B kp (out ++ [⟨lo, hi⟩]) (hi + 1) := fun x => by
  rw [memR_append, h x]
  have e : memR [⟨lo, hi⟩] x ↔ lo ≤ x ∧ x ≤ hi := by simp [memR]
  rw [e]
  constructor
  · rintro (⟨h1, h2, h3⟩ | ⟨h1, h2⟩)
    · exact ⟨h1, by omega, h3⟩
    · exact ⟨by omega, by omega, by rw [ha x h1 h2, hb x h1 h2]; exact hk⟩
  · rintro ⟨h1, h2, h3⟩
    by_cases hx : x < lo
    · exact .inl ⟨h1, hx, h3⟩
    · exact .inr ⟨by omega, by omega⟩
theorem CombInv.drop {A B : List Rng} {kp : Bool → Bool → Bool} {out : List Rng} {lo hi : Int} {a b : Bool} (h : CombInv A B kp out lo) (_h0 : 0 ≤ lo) (hlh : lo ≤ hi)
    (ha : ∀ x, lo ≤ x → x ≤ hi → hasR A x = a) (hb : ∀ x, lo ≤ x → x ≤ hi → hasR B x = b) (hk : kp a b = false) : CombInv A B kp out (hi + 1) := fun x => by
  rw [h x]
  constructor
  · rintro ⟨h1, h2, h3⟩; exact ⟨h1, by omega, h3⟩
  · rintro ⟨h1, h2, h3⟩
    by_cases hx : x < lo
    · exact ⟨h1, hx, h3⟩
    · rw [ha x (by omega) (by omega), hb x (by omega) (by omega), hk] at h3; cases h3
def endsR (L : List Rng) : List Int := 1114111 :: L.flatMap fun r => [r.lo - 1, r.hi]
theorem endsR_length (L : List Rng) : (endsR L).length = 2 * L.length + 1 := by
  have : ∀ L : List Rng, (L.flatMap fun r => [r.lo - 1, r.hi]).length = 2 * L.length := by
    intro L
    induction L with
    | nil => rfl
    | cons r L ih => rw [List.flatMap_cons, List.length_append, ih, List.length_cons]; simp; omega
  unfold endsR
  rw [List.length_cons, this]
theorem cur_end (L : List Rng) (i : Nat) (c : Int) : (curR L i c).2 ∈ endsR L := by
  unfold curR endsR
  cases hi : L[i]? with
  | none => exact List.mem_cons_self ..
  | some r =>
    refine List.mem_cons_of_mem _ (List.mem_flatMap.2 ⟨r, mem_of_getElem?_some hi, ?_⟩)
    by_cases hc : c < r.lo
    · simp [hc]
    · simp [hc]
def endsBefore (E : List Int) (lo : Int) : Nat := (E.filter fun e => decide (e < lo)).length
theorem endsBefore_le (E : List Int) (lo : Int) : endsBefore E lo ≤ E.length := List.length_filter_le _ _
theorem endsBefore_step {lo hi : Int} (hlh : lo ≤ hi) : ∀ E : List Int, hi ∈ E → endsBefore E lo + 1 ≤ endsBefore E (hi + 1)
  | [], h => by cases h
  | e :: E, h => by
    have mono : ∀ E : List Int, endsBefore E lo ≤ endsBefore E (hi + 1) := by
      intro E
      induction E with
      | nil => exact Nat.le_refl _
      | cons a E ih =>
        unfold endsBefore at ih ⊢
        by_cases h1 : a < lo
        · rw [List.filter_cons_of_pos (by simpa using h1), List.filter_cons_of_pos (by simp; omega), List.length_cons, List.length_cons]; omega
        · rw [List.filter_cons_of_neg (by simpa using h1)]
          by_cases h2 : a < hi + 1
          · rw [List.filter_cons_of_pos (by simpa using h2), List.length_cons]; omega
          · rw [List.filter_cons_of_neg (by simpa using h2)]; exact ih
    rcases List.mem_cons.1 h with e1 | h
    · have hm := mono E
      subst e1
      unfold endsBefore at hm ⊢
      rw [List.filter_cons_of_neg (by simp; omega), List.filter_cons_of_pos (p := fun e => decide (e < hi + 1)) (decide_eq_true (by omega)), List.length_cons]
      omega
    · have ih := endsBefore_step hlh E h
      unfold endsBefore at ih ⊢
      by_cases h1 : e < lo
      · rw [List.filter_cons_of_pos (by simpa using h1), List.filter_cons_of_pos (by simp; omega), List.length_cons, List.length_cons]; omega
      · rw [List.filter_cons_of_neg (by simpa using h1)]
        by_cases h2 : e < hi + 1
        · rw [List.filter_cons_of_pos (by simpa using h2), List.length_cons]; omega
        · rw [List.filter_cons_of_neg (by simpa using h2)]; exact ih
theorem CombInv.all {A B : List Rng} {kp : Bool → Bool → Bool} {out : List Rng} {lo : Int} (h : CombInv A B kp out lo) (hlo : 1114111 < lo) (x : Int) : hasR (makeR out) x = (validB x && kp (hasR A x) (hasR B x)) := by
  rw [has_make, Bool.eq_iff_iff]
  unfold hasR at *
  rw [List.any_eq_true]
  simp only [inR, Bool.and_eq_true, decide_eq_true_eq]
  constructor
  · rintro ⟨r, hr, ⟨hv, h1⟩, h2⟩
    exact ⟨hv, ((h x).1 ⟨r, hr, h1, h2⟩).2.2⟩
  · rintro ⟨hv, hk⟩
    have hv2 : 0 ≤ x ∧ x ≤ 1114111 := by simpa [validB] using hv
    obtain ⟨r, hr, h1, h2⟩ := (h x).2 ⟨hv2.1, by omega, hk⟩
    exact ⟨r, hr, ⟨hv, h1⟩, h2⟩
end Go.Proofs.YtomgchfjachedaaGreatDoor
namespace Go.Proofs.YtomgchfjachedaaGreatDoor
def rngL (lo : Int) : Nat → List Int
  | 0 => []
  | k + 1 => rngL lo k ++ [lo + k]
def memsL (R : List Rng) : List Int := R.flatMap fun r => rngL r.lo (r.hi - r.lo + 1).toNat
theorem rngL_mem (lo c : Int) : ∀ k : Nat, c ∈ rngL lo k ↔ lo ≤ c ∧ c < lo + k
  | 0 => by simp [rngL]
  | k + 1 => by
    rw [rngL, List.mem_append, rngL_mem lo c k, List.mem_singleton]
    omega
theorem rngL_length (lo : Int) : ∀ k : Nat, (rngL lo k).length = k
  | 0 => rfl
  | k + 1 => by rw [rngL, List.length_append, rngL_length lo k]; rfl
theorem rngL_nodup (lo : Int) : ∀ k : Nat, (rngL lo k).Nodup
  | 0 => List.nodup_nil
  | k + 1 => by
    rw [rngL, List.nodup_append]
    refine ⟨rngL_nodup lo k, List.pairwise_singleton _ _, fun a ha b hb e => ?_⟩
    rw [List.mem_singleton] at hb
    have := (rngL_mem lo a k).1 ha
    omega
theorem memsL_mem (R : List Rng) (c : Int) : c ∈ memsL R ↔ memR R c := by
  unfold memsL memR
  rw [List.mem_flatMap]
  constructor
  · rintro ⟨r, hr, h⟩
    have := (rngL_mem _ _ _).1 h
    exact ⟨r, hr, by omega, by omega⟩
  · rintro ⟨r, hr, h1, h2⟩
    exact ⟨r, hr, (rngL_mem _ _ _).2 ⟨h1, by omega⟩⟩
theorem memsL_cons (r : Rng) (R : List Rng) : memsL (r :: R) = rngL r.lo (r.hi - r.lo + 1).toNat ++ memsL R := by unfold memsL; rw [List.flatMap_cons]
theorem memsL_nodup : ∀ {R : List Rng}, Canon R → (memsL R).Nodup
  | [], _ => by unfold memsL; exact List.nodup_nil
  | r :: R, h => by
    obtain ⟨h1, h2, h3⟩ := h.tail
    rw [memsL_cons, List.nodup_append]
    refine ⟨rngL_nodup _ _, memsL_nodup h3, fun a ha b hb e => ?_⟩
    have h4 := (rngL_mem _ _ _).1 ha
    obtain ⟨s, hs, h5, h6⟩ := (memsL_mem R b).1 hb
    have := h2 s hs
    omega
theorem nodup_le {l : List Int} : ∀ {S : List Int}, l.Nodup → (∀ x ∈ l, x ∈ S) → l.length ≤ S.length := by
  induction l with
  | nil => intro S _ _; exact Nat.zero_le _
  | cons a l ih =>
    intro S hn hs
    have ha := hs a (List.mem_cons_self ..)
    obtain ⟨p, q, rfl⟩ := List.append_of_mem ha
    have hn2 := List.nodup_cons.1 hn
    have : l.length ≤ (p ++ q).length := ih hn2.2 (fun x hx => by
      have := hs x (List.mem_cons_of_mem _ hx)
      rcases List.mem_append.1 this with h | h
      · exact List.mem_append_left _ h
      · rcases List.mem_cons.1 h with e | h
        · exact absurd (e ▸ hx) hn2.1
        · exact List.mem_append_right _ h)
    rw [List.length_append] at this
    rw [List.length_cons, List.length_append, List.length_cons]
    omega
end Go.Proofs.YtomgchfjachedaaGreatDoor
namespace Go.Proofs.YtomgchfjachedaaGreatDoor
theorem part_class {l : List Span} (h : ordCheck l = 0) {v : Int} (hv : 4352 ≤ v ∧ v ≤ 4370 ∨ 4449 ≤ v ∧ v ≤ 4469 ∨ 4520 ≤ v ∧ v ≤ 4546 ∨ 44032 ≤ v ∧ v < 55204) : classOf l v = 0 := by
  refine classOf_none (fun s hs hin => ?_)
  refine List.any_eq_false.1 (ordCheck_zero h).2.2 s hs ?_
  simp only [spanHangul, hangulR, meets, List.any_cons, List.any_nil, Bool.or_false, Bool.or_eq_true, Bool.and_eq_true, decide_eq_true_eq]
  omega
theorem syl_kind {c : Int} (h1 : 44032 ≤ c) (h2 : c < 55204) : 4 ≤ kind c := by have := kind_syl h1 h2; omega
theorem syl_parts {c : Int} (h1 : 44032 ≤ c) (h2 : c < 55204) : 4352 ≤ hL c ∧ hL c ≤ 4370 ∧ 4449 ≤ hV c ∧ hV c ≤ 4469 := by
  unfold hL hV; omega
theorem syl_tail {c : Int} (_h1 : 44032 ≤ c) (_h2 : c < 55204) (h : ¬ (c - 44032) % 28 = 0) : 4520 ≤ hT c ∧ hT c ≤ 4546 := by
  unfold hT; rw [if_neg h]; omega
theorem decompH_syl {c : Int} (h1 : 44032 ≤ c) (h2 : c < 55204) : decompH c = if (c - 44032) % 28 = 0 then [hL c, hV c] else [hL c, hV c, hT c] := by
  unfold decompH; rw [if_neg (kind_syl h1 h2)]
theorem syl_text (n : Nrm) (cp : Bool) {c : Int} (h1 : 44032 ≤ c) (h2 : c < 55204) : fullOf (usableN n).decomp cp c = decompH c ∧ textOf n cp [c] = decompH c := by
  have g := usableN_good n
  have hf : fullOf (usableN n).decomp cp c = decompH c := full_decompH g.hangul (usableN_full n cp) (syl_kind h1 h2)
  refine ⟨hf, ?_⟩
  rw [textOf_one, hf, decompH_syl h1 h2]
  obtain ⟨p1, p2, p3, p4⟩ := syl_parts h1 h2
  have c1 : classOf (usableN n).classes (hL c) = 0 := part_class g.ord (by omega)
  have c2 : classOf (usableN n).classes (hV c) = 0 := part_class g.ord (by omega)
  by_cases h : (c - 44032) % 28 = 0
  · rw [if_pos h, sortT_start c1, sortT_start c2, sortT_nil]
  · obtain ⟨q1, q2⟩ := syl_tail h1 h2 h
    have c3 : classOf (usableN n).classes (hT c) = 0 := part_class g.ord (by omega)
    rw [if_neg h, sortT_start c1, sortT_start c2, sortT_start c3, sortT_nil]
theorem syl_kinds {c : Int} (h1 : 44032 ≤ c) (h2 : c < 55204) : kind (hL c) = 1 ∧ kind (hV c) = 2 ∧ (¬ (c - 44032) % 28 = 0 → kind (hT c) = 3) := by
  obtain ⟨p1, p2, p3, p4⟩ := syl_parts h1 h2
  refine ⟨?_, ?_, fun h => ?_⟩
  · unfold kind; rw [if_pos (by omega)]
  · unfold kind; rw [if_neg (by omega), if_pos (by omega)]
  · obtain ⟨q1, q2⟩ := syl_tail h1 h2 h
    unfold kind; rw [if_neg (by omega), if_neg (by omega), if_pos (by omega)]
theorem syl_comp (n : Nrm) {c : Int} (h1 : 44032 ≤ c) (h2 : c < 55204) : compN n (decompH c) = [c] := by
  have g := usableN_good n
  obtain ⟨p1, p2, p3, p4⟩ := syl_parts h1 h2
  obtain ⟨k1, k2, k3⟩ := syl_kinds h1 h2
  have c1 : classOf (usableN n).classes (hL c) = 0 := part_class g.ord (by omega)
  have e1 : compH (hL c) (hV c) = some (44032 + (c - 44032) / 28 * 28) := by
    unfold compH
    rw [if_pos ⟨k1, k2⟩]
    congr 1
    unfold hL hV
    omega
  have e2 : pairOf (usableN n) (hL c) (hV c) = some (44032 + (c - 44032) / 28 * 28) := by unfold pairOf; rw [e1]
  unfold compN compT compFold
  rw [decompH_syl h1 h2]
  by_cases h : (c - 44032) % 28 = 0
  · rw [if_pos h]
    have e3 : 44032 + (c - 44032) / 28 * 28 = c := by omega
    rw [e3] at e2
    simp [cstep, cpush, c1, e2]
  · rw [if_neg h]
    have k4 : kind (44032 + (c - 44032) / 28 * 28) = 4 := by
      unfold kind
      rw [if_neg (by omega), if_neg (by omega), if_neg (by omega), if_neg (by omega), if_pos (by omega)]
    have e3 : pairOf (usableN n) (44032 + (c - 44032) / 28 * 28) (hT c) = some c := by
      have : compH (44032 + (c - 44032) / 28 * 28) (hT c) = some c := by
        unfold compH
        rw [if_neg (by rw [k4]; omega), if_pos ⟨k4, k3 h⟩]
        congr 1
        unfold hT
        rw [if_neg h]
        omega
      unfold pairOf; rw [this]
    simp [cstep, cpush, c1, e2, e3]
theorem charQ_syl (n : Nrm) {form c : Int} (hf : ¬ (form < 1 ∨ 4 < form)) (h1 : 44032 ≤ c) (h2 : c < 55204) : charQ n form c = if comps form = true then (if secondB (usableN n) (hL c) = true then 3 else 1) else 2 := by
  have hlen : decompH c ≠ [c] := by
    rw [decompH_syl h1 h2]
    split
    · intro h; injection h with _ h; cases h
    · intro h; injection h with _ h; cases h
  obtain ⟨t1, t2⟩ := syl_text n (cpOf form) h1 h2
  rw [charQ_eq, if_neg hf, formOf_known n hf, t2]
  by_cases hc : comps form = true
  · rw [if_pos hc, if_pos hc, syl_comp n h1 h2, if_pos rfl]
    have : sndB n form c = secondB (usableN n) (hL c) := by
      unfold sndB
      rw [t1, hc, decompH_syl h1 h2]
      by_cases h : (c - 44032) % 28 = 0
      · rw [if_pos h]; rfl
      · rw [if_neg h]; rfl
    rw [this]
  · rw [if_neg hc, if_neg hc, if_neg hlen]
theorem charQ_plain (n : Nrm) {form c : Int} (hf : ¬ (form < 1 ∨ 4 < form)) (hk : ¬ 4 ≤ kind c) (hm : ∀ m ∈ (usableN n).decomp, m.src ≠ c) : charQ n form c = if (comps form && secondB (usableN n) c) = true then 3 else 1 := by
  have ho : onceOf (usableN n).decomp c (cpOf form) = none := by unfold onceOf; rw [if_neg hk]; exact mapOf_none hm
  have hfull := full_fix (usableN_full n (cpOf form)) ho
  have ht : textOf n (cpOf form) [c] = [c] := by rw [textOf_one, hfull]; exact sort_one _ c
  have hform : formOf n form [c] = [c] := by
    rw [formOf_known n hf, ht]
    split <;> rfl
  rw [charQ_eq, if_neg hf, if_pos hform]
  have : sndB n form c = (comps form && secondB (usableN n) c) := by unfold sndB; rw [hfull]; rfl
  rw [this]
theorem notsyl_kind {c : Int} (h : c < 44032 ∨ 55204 ≤ c) : ¬ 4 ≤ kind c := by
  unfold kind
  split
  · omega
  · split
    · omega
    · split
      · omega
      · omega
theorem charQ_const (n : Nrm) {form c1 c2 : Int} {R : List Rng} (hR : ∀ x, hasR R x = secondB (usableN n) x) (h0 : 0 ≤ c1) (h1 : c1 ≤ c2) (h2 : c2 ≤ 1114111)
    (hH : ∀ i : Int, 0 ≤ i → i ≤ 19 → ¬ (c1 < 44032 + 588 * i ∧ 44032 + 588 * i ≤ c2)) (hS : ∀ r ∈ R, ∀ x, (x = r.lo ∨ x = r.hi + 1) → ¬ (c1 < x ∧ x ≤ c2))
    (hM : ∀ m ∈ (usableN n).decomp, ∀ x, (x = m.src ∨ x = m.src + 1) → ¬ (c1 < x ∧ x ≤ c2)) : charQ n form c2 = charQ n form c1 := by
  by_cases hf : form < 1 ∨ 4 < form
  · rw [charQ_eq, charQ_eq, if_pos hf, if_pos hf]
  rcases Int.lt_or_eq_of_le h1 with hlt | heq
  · have hsec : secondB (usableN n) c2 = secondB (usableN n) c1 := by
      rw [← hR, ← hR]
      refine hasR_const h0 h1 h2 (fun r hr x hx => hS r hr x ?_)
      rcases hx with ⟨hx, _⟩ | ⟨hx, _⟩
      · exact .inl hx
      · exact .inr hx
    have hm1 : ∀ m ∈ (usableN n).decomp, m.src ≠ c1 := fun m hm e => hM m hm _ (.inr rfl) (by omega)
    have hm2 : ∀ m ∈ (usableN n).decomp, m.src ≠ c2 := fun m hm e => hM m hm _ (.inl rfl) (by omega)
    by_cases hs : 44032 ≤ c1 ∧ c1 < 55204
    · have h3 : c2 < 55204 := by have := hH 19 (by omega) (by omega); omega
      have hb : (c1 - 44032) / 588 = (c2 - 44032) / 588 := by
        have := hH ((c2 - 44032) / 588) (by omega) (by omega)
        omega
      have hl : hL c2 = hL c1 := by
        unfold hL
        have e1 : (c1 - 44032) / 28 / 21 = (c1 - 44032) / 588 := by omega
        have e2 : (c2 - 44032) / 28 / 21 = (c2 - 44032) / 588 := by omega
        rw [e1, e2, hb]
      rw [charQ_syl n hf hs.1 hs.2, charQ_syl n hf (by omega) h3, hl]
    · have h3 : c2 < 44032 ∨ 55204 ≤ c1 := by have := hH 0 (by omega) (by omega); omega
      rw [charQ_plain n hf (notsyl_kind (by omega)) hm1, charQ_plain n hf (notsyl_kind (by omega)) hm2, hsec]
  · rw [heq]
end Go.Proofs.YtomgchfjachedaaGreatDoor
namespace Go.Proofs.YtomgchfjachedaaGreatDoor
def untilR (l : List Int) (c : Int) : Int := l.foldl (fun out y => if c < y then min out (y - 1) else out) 1114111
theorem until_from (c x : Int) : ∀ (l : List Int) (o : Int), x ≤ l.foldl (fun out y => if c < y then min out (y - 1) else out) o ↔ x ≤ o ∧ ∀ y ∈ l, c < y → x < y
  | [], o => by simp
  | y :: l, o => by
    rw [List.foldl_cons, until_from c x l]
    simp only [List.mem_cons, forall_eq_or_imp]
    constructor
    · rintro ⟨h1, h2⟩
      by_cases hc : c < y
      · rw [if_pos hc] at h1; exact ⟨by omega, fun _ => by omega, h2⟩
      · rw [if_neg hc] at h1; exact ⟨h1, fun h => absurd h hc, h2⟩
    · rintro ⟨h1, h2, h3⟩
      refine ⟨?_, h3⟩
      by_cases hc : c < y
      · rw [if_pos hc]; have := h2 hc; omega
      · rw [if_neg hc]; exact h1
theorem until_spec (l : List Int) (c x : Int) : x ≤ untilR l c ↔ x ≤ 1114111 ∧ ∀ y ∈ l, c < y → x < y := until_from c x l 1114111
def setRef (f : Int → Int) (l : List Int) (v : Int) : List Rng := (l.filter fun c => decide (c ≤ 1114111) && decide (f c = v)).map fun c => ⟨c, untilR l c⟩
def setOne (f : Int → Int) (l : List Int) (v : Int) : List Rng := (l.filter fun c => decide (f c = v)).map fun c => ⟨c, c⟩
theorem greatest (x : Int) : ∀ l : List Int, (∃ d ∈ l, d ≤ x) → ∃ d ∈ l, d ≤ x ∧ ∀ y ∈ l, y ≤ x → y ≤ d
  | [], h => by obtain ⟨d, hd, _⟩ := h; cases hd
  | a :: l, h => by
    by_cases hl : ∃ d ∈ l, d ≤ x
    · obtain ⟨d, hd, hx, hm⟩ := greatest x l hl
      by_cases ha : a ≤ x ∧ d < a
      · refine ⟨a, List.mem_cons_self .., ha.1, fun y hy hyx => ?_⟩
        rcases List.mem_cons.1 hy with e | hy
        · omega
        · have := hm y hy hyx; omega
      · refine ⟨d, List.mem_cons_of_mem _ hd, hx, fun y hy hyx => ?_⟩
        rcases List.mem_cons.1 hy with e | hy
        · omega
        · exact hm y hy hyx
    · obtain ⟨d, hd, hx⟩ := h
      rcases List.mem_cons.1 hd with e | hd
      · refine ⟨d, by rw [e]; exact List.mem_cons_self .., hx, fun y hy hyx => ?_⟩
        rcases List.mem_cons.1 hy with e2 | hy
        · omega
        · exact absurd ⟨y, hy, hyx⟩ hl
      · exact absurd ⟨d, hd, hx⟩ hl
theorem setRef_has {f : Int → Int} {l : List Int} (h0 : (0 : Int) ∈ l) (hc : ∀ c1 c2, c1 ∈ l → 0 ≤ c1 → c1 ≤ c2 → c2 ≤ 1114111 → (∀ y ∈ l, ¬ (c1 < y ∧ y ≤ c2)) → f c2 = f c1) (x v : Int) :
    hasR (setRef f l v) x = (validB x && decide (f x = v)) := by
  rw [Bool.eq_iff_iff]
  unfold hasR setRef
  rw [List.any_eq_true]
  simp only [List.mem_map, List.mem_filter, Bool.and_eq_true, decide_eq_true_eq, inR, validB]
  constructor
  · rintro ⟨r, ⟨c, ⟨hcl, hcm, hcv⟩, rfl⟩, ⟨⟨hx0, hxm⟩, hlo⟩, hhi⟩
    simp only at hlo hhi
    obtain ⟨h1, h2⟩ := (until_spec l c x).1 hhi
    have hc0 : 0 ≤ c := by
      rcases Int.lt_or_le c 0 with h | h
      · have := h2 0 h0 h; omega
      · exact h
    refine ⟨⟨hx0, hxm⟩, ?_⟩
    rw [hc c x hcl hc0 hlo hxm (fun y hy ⟨a, b⟩ => by have := h2 y hy a; omega)]
    exact hcv
  · rintro ⟨⟨hx0, hxm⟩, hv⟩
    obtain ⟨d, hd, hdx, hm⟩ := greatest x l ⟨0, h0, hx0⟩
    have hd0 : 0 ≤ d := hm 0 h0 hx0
    refine ⟨⟨d, untilR l d⟩, ⟨d, ⟨hd, by omega, ?_⟩, rfl⟩, ⟨⟨hx0, hxm⟩, hdx⟩, ?_⟩
    · rw [← hc d x hd hd0 hdx hxm (fun y hy ⟨a, b⟩ => by have := hm y hy b; omega)]
      exact hv
    · refine (until_spec l d x).2 ⟨hxm, fun y hy hdy => ?_⟩
      rcases Int.lt_or_le x y with h | h
      · exact h
      · have := hm y hy h; omega
theorem setOne_has {f : Int → Int} {l : List Int} (v : Int) (hl : ∀ c, f c = v → validB c = true → c ∈ l) (x : Int) : hasR (setOne f l v) x = (validB x && decide (f x = v)) := by
  rw [Bool.eq_iff_iff]
  unfold hasR setOne
  rw [List.any_eq_true]
  simp only [List.mem_map, List.mem_filter, Bool.and_eq_true, decide_eq_true_eq, inR]
  constructor
  · rintro ⟨r, ⟨c, ⟨hcl, hcv⟩, rfl⟩, ⟨hv, h1⟩, h2⟩
    simp only at h1 h2
    have e : x = c := by omega
    subst e
    exact ⟨hv, hcv⟩
  · rintro ⟨hv, hf⟩
    exact ⟨⟨x, x⟩, ⟨x, ⟨hl x hf hv, hf⟩, rfl⟩, ⟨hv, by simp⟩, by simp⟩
def cutMp (m : Mp) : List Int := [m.src, m.src + 1] ++ (match m.to with
  | [a, b] => (match compH a b with
    | some x => [x, x + 1, x - (x - 44032) % 28, x - (x - 44032) % 28 + 28]
    | none => [])
  | _ => [])
def blocks (k : Nat) : List Int := (List.range k).map fun i : Nat => 44032 + 588 * (i : Int)
def cutsR (R : List Rng) (n : Nrm) : List Int := ((0 :: blocks 20) ++ R.flatMap fun r => [r.lo, r.hi + 1]) ++ n.decomp.flatMap cutMp
theorem cuts_const (n : Nrm) (form : Int) {R : List Rng} (hR : ∀ x, hasR R x = secondB (usableN n) x) : ∀ c1 c2, c1 ∈ cutsR R (usableN n) → 0 ≤ c1 → c1 ≤ c2 → c2 ≤ 1114111 → (∀ y ∈ cutsR R (usableN n), ¬ (c1 < y ∧ y ≤ c2)) → charQ n form c2 = charQ n form c1 := by
  intro c1 c2 _ h0 h1 h2 h
  refine charQ_const n hR h0 h1 h2 (fun i hi0 hi => ?_) (fun r hr x hx => ?_) (fun m hm x hx => ?_)
  · refine h _ ?_
    unfold cutsR blocks
    refine List.mem_append_left _ (List.mem_append_left _ (List.mem_cons_of_mem _ (List.mem_map.2 ⟨i.toNat, List.mem_range.2 (by omega), by omega⟩)))
  · refine h _ ?_
    unfold cutsR
    refine List.mem_append_left _ (List.mem_append_right _ (List.mem_flatMap.2 ⟨r, hr, ?_⟩))
    rcases hx with rfl | rfl <;> simp
  · refine h _ ?_
    unfold cutsR
    refine List.mem_append_right _ (List.mem_flatMap.2 ⟨m, hm, ?_⟩)
    unfold cutMp
    rcases hx with rfl | rfl <;> simp
theorem zero_cut (R : List Rng) (n : Nrm) : (0 : Int) ∈ cutsR R n := by
  unfold cutsR
  exact List.mem_append_left _ (List.mem_append_left _ (List.mem_cons_self ..))
theorem no_changed (n : Nrm) {form c : Int} (h : charQ n form c ≠ 1) (hf : ¬ (form < 1 ∨ 4 < form)) : onceOf (usableN n).decomp c (cpOf form) ≠ none ∨ (comps form = true ∧ secondB (usableN n) c = true) := by
  by_cases ho : onceOf (usableN n).decomp c (cpOf form) = none
  · right
    have hfull := full_fix (usableN_full n (cpOf form)) ho
    have ht : textOf n (cpOf form) [c] = [c] := by rw [textOf_one, hfull]; exact sort_one _ c
    have hform : formOf n form [c] = [c] := by
      rw [formOf_known n hf, ht]
      split <;> rfl
    rw [charQ_eq, if_neg hf, if_pos hform] at h
    have : sndB n form c = (comps form && secondB (usableN n) c) := by unfold sndB; rw [hfull]; rfl
    rw [this] at h
    cases h1 : comps form <;> cases h2 : secondB (usableN n) c <;> simp_all
  · exact .inl ho
end Go.Proofs.YtomgchfjachedaaGreatDoor
namespace Go.Proofs.YtomgchfjachedaaGreatDoor
def manyL (n : Nrm) : List Int := rngL 44032 11172 ++ (n.decomp.map (·.src) ++ (rngL 4449 21 ++ (rngL 4520 27 ++ n.decomp.map fun m => m.to.getD 1 0)))
theorem manyL_length (n : Nrm) : (manyL n).length = 11220 + 2 * n.decomp.length := by
  unfold manyL
  simp only [List.length_append, rngL_length, List.length_map]
  omega
theorem many_once (n : Nrm) {x : Int} {cp : Bool} (h : onceOf n.decomp x cp ≠ none) : x ∈ manyL n := by
  unfold manyL
  by_cases hk : 4 ≤ kind x
  · have hs : 44032 ≤ x ∧ x < 55204 := by
      refine Classical.byContradiction fun hn => ?_
      exact notsyl_kind (by omega) hk
    exact List.mem_append_left _ ((rngL_mem _ _ _).2 ⟨by omega, by omega⟩)
  · refine List.mem_append_right _ (List.mem_append_left _ ?_)
    refine Classical.byContradiction fun hn => h ?_
    unfold onceOf
    rw [if_neg hk]
    exact mapOf_none (fun m hm e => hn (List.mem_map.2 ⟨m, hm, e⟩))
theorem many_second (n : Nrm) {x : Int} (h : secondB n x = true) : x ∈ manyL n := by
  unfold manyL
  obtain ⟨a, ha⟩ := secondB_iff.1 h
  cases hc : compH a x with
  | some c =>
    have hv := comp_vt (a := a) (x := x) (by rw [hc]; rfl)
    refine List.mem_append_right _ (List.mem_append_right _ ?_)
    rcases hv with hv | hv
    · exact List.mem_append_left _ ((rngL_mem _ _ _).2 ⟨by omega, by omega⟩)
    · exact List.mem_append_right _ (List.mem_append_left _ ((rngL_mem _ _ _).2 ⟨by omega, by omega⟩))
  | none =>
    have hp : (pairM n a x).isSome = true := by unfold pairOf at ha; rw [hc] at ha; exact ha
    obtain ⟨v, hv⟩ := Option.isSome_iff_exists.1 hp
    obtain ⟨m, hm, _, hto, _⟩ := pairM_some hv
    exact List.mem_append_right _ (List.mem_append_right _ (List.mem_append_right _ (List.mem_append_right _ (List.mem_map.2 ⟨m, hm, by rw [hto]; rfl⟩))))
theorem codes_length (n : Nrm) {cp b : Bool} {R : List Rng} (hc : Canon R) (h : ∀ x, hasR R x = ((onceOf n.decomp x cp).isSome || (b && secondB n x))) : (memsL R).length ≤ 11220 + 2 * n.decomp.length := by
  rw [← manyL_length]
  refine nodup_le (memsL_nodup hc) (fun x hx => ?_)
  have h1 := (hasR_canon hc x).2 ((memsL_mem R x).1 hx)
  rw [h x, Bool.or_eq_true, Bool.and_eq_true] at h1
  rcases h1 with h1 | ⟨_, h1⟩
  · exact many_once n (cp := cp) (fun e => by rw [e] at h1; cases h1)
  · exact many_second n h1
theorem codes_nonneg {R : List Rng} (hc : Canon R) : ∀ c ∈ memsL R, 0 ≤ c := fun c h => by
  obtain ⟨r, hr, h1, _⟩ := (memsL_mem R c).1 h
  have := (hc.1 r hr).1
  omega
theorem codes_all (n : Nrm) {form : Int} (hf : ¬ (form < 1 ∨ 4 < form)) {R : List Rng} (hc : Canon R) (h : ∀ x, hasR R x = ((onceOf (usableN n).decomp x (cpOf form)).isSome || (comps form && secondB (usableN n) x))) {v : Int} (hv : v ≠ 1) :
    ∀ c, charQ n form c = v → validB c = true → c ∈ memsL R := fun c hq _ => by
  refine (memsL_mem R c).2 ((hasR_canon hc c).1 ?_)
  rw [h c, Bool.or_eq_true, Bool.and_eq_true]
  rcases no_changed n (c := c) (by rw [hq]; exact hv) hf with h1 | h1
  · left
    cases ho : onceOf (usableN n).decomp c (cpOf form) with
    | none => exact absurd ho h1
    | some _ => rfl
  · exact .inr h1
end Go.Proofs.YtomgchfjachedaaGreatDoor
namespace Go.Proofs.YtomgchfjachedaaGreatDoor
def secC (n : Nrm) : List Int := rngL 4449 21 ++ (rngL 4520 27 ++ n.decomp.map fun m => m.to.getD 1 0)
theorem secC_length (n : Nrm) : (secC n).length = 48 + n.decomp.length := by
  unfold secC
  simp only [List.length_append, rngL_length, List.length_map]
  omega
theorem sec_mem (n : Nrm) (g : Good n) {x : Int} (h : secondB n x = true) : x ∈ secC n ∧ validB x = true := by
  unfold secC
  obtain ⟨a, ha⟩ := secondB_iff.1 h
  cases hc : compH a x with
  | some c =>
    have hv := comp_vt (a := a) (x := x) (by rw [hc]; rfl)
    refine ⟨?_, by unfold validB; simp; omega⟩
    rcases hv with hv | hv
    · exact List.mem_append_left _ ((rngL_mem _ _ _).2 ⟨by omega, by omega⟩)
    · exact List.mem_append_right _ (List.mem_append_left _ ((rngL_mem _ _ _).2 ⟨by omega, by omega⟩))
  | none =>
    have hp : (pairM n a x).isSome = true := by unfold pairOf at ha; rw [hc] at ha; exact ha
    obtain ⟨v, hv⟩ := Option.isSome_iff_exists.1 hp
    obtain ⟨m, hm, _, hto, _⟩ := pairM_some hv
    refine ⟨List.mem_append_right _ (List.mem_append_right _ (List.mem_map.2 ⟨m, hm, by rw [hto]; rfl⟩)), ?_⟩
    exact (good_codes g hm).2 x (by rw [hto]; simp)
noncomputable def secR (n : Nrm) : List Rng := makeR (((secC n).filter fun c => secondB n c).map fun c => ⟨c, c⟩)
theorem secR_has (n : Nrm) (g : Good n) (x : Int) : hasR (secR n) x = secondB n x := by
  unfold secR
  rw [has_make, Bool.eq_iff_iff]
  unfold hasR
  rw [List.any_eq_true]
  simp only [List.mem_map, List.mem_filter, inR, Bool.and_eq_true, decide_eq_true_eq]
  constructor
  · rintro ⟨r, ⟨c, ⟨_, hs⟩, rfl⟩, ⟨_, h1⟩, h2⟩
    simp only at h1 h2
    have : x = c := by omega
    rw [this]; exact hs
  · intro h
    obtain ⟨h1, h2⟩ := sec_mem n g h
    exact ⟨⟨x, x⟩, ⟨x, ⟨h1, h⟩, rfl⟩, ⟨h2, Int.le_refl _⟩, Int.le_refl _⟩
theorem secR_canon (n : Nrm) : Canon (secR n) := (makeR_spec _).1
theorem secR_length (n : Nrm) : (secR n).length ≤ 48 + n.decomp.length := by
  unfold secR
  refine Nat.le_trans (makeR_length _) ?_
  rw [List.length_map, ← secC_length]
  exact List.length_filter_le _ _
theorem canon_has {R S : List Rng} (hR : Canon R) (hS : Canon S) (h : ∀ x, hasR R x = hasR S x) : R = S :=
  canon_ext hR hS (fun x => by rw [← hasR_canon hR, ← hasR_canon hS, h x])
theorem setRef_length (f : Int → Int) (l : List Int) (v : Int) : (setRef f l v).length ≤ l.length := by
  unfold setRef
  rw [List.length_map]
  exact List.length_filter_le _ _
theorem usableN_lenD (n : Nrm) : (usableN n).decomp.length ≤ n.decomp.length := by
  unfold usableN
  split
  · exact Nat.le_refl _
  · exact Nat.zero_le _
theorem sets_few (n : Nrm) (form : Int) {R : List Rng} (hR : Canon R) (v : Int) (h : ∀ x, hasR R x = (validB x && decide (charQ n form x = v))) {k : Nat} (hk : ∀ l, cutsR (secR (usableN n)) (usableN n) = l → l.length ≤ k) : R.length ≤ k := by
  have e : R = makeR (setRef (charQ n form) (cutsR (secR (usableN n)) (usableN n)) v) := by
    refine canon_has hR (makeR_spec _).1 (fun x => ?_)
    rw [h x, has_make, setRef_has (zero_cut _ _) (cuts_const n form (secR_has (usableN n) (usableN_good n)))]
  rw [e]
  exact Nat.le_trans (makeR_length _) (Nat.le_trans (setRef_length _ _ _) (hk _ rfl))
end Go.Proofs.YtomgchfjachedaaGreatDoor
