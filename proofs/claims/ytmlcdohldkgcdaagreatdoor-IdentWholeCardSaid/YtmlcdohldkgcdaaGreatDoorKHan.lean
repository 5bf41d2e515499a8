/- hangul.parts and Decompose, and the reference's. hangul.Decompose, and the reference's. Two sets gone through side by side, by cursors. No program. -/
import Derived.Laws.StructEq
import Derived.Test.YtmlcdohldkgcdaaGreatDoorKSimA
import Derived.Test.YtmlcdohldkgcdaaGreatDoorKPl
import Derived.Test.YtmlcdohldkgcdaaGreatDoorKPq
namespace Go.Proofs.YtmlcdohldkgcdaaGreatDoor
open Go Go.RowKit
theorem kind_ge {c : Int} (h : 4 ≤ kind c) : 44032 ≤ c ∧ c < 55204 := by
  unfold kind at h
  by_cases h1 : 4352 ≤ c ∧ c < 4371
  · rw [if_pos h1] at h; omega
  · by_cases h2 : 4449 ≤ c ∧ c < 4470
    · rw [if_neg h1, if_pos h2] at h; omega
    · by_cases h3 : 4520 ≤ c ∧ c < 4547
      · rw [if_neg h1, if_neg h2, if_pos h3] at h; omega
      · by_cases h4 : c < 44032 ∨ 55204 ≤ c
        · rw [if_neg h1, if_neg h2, if_neg h3, if_pos h4] at h; omega
        · omega
theorem hparts_any (c : Int) (w : World) : Calls Tryz.prog 192 #[.int .i64 c] w fun e w' =>
    e = .returned (.agg (if kind c < 4 then #[.int .i64 0, .int .i64 0, .int .i64 0] else #[.int .i64 (hL c), .int .i64 (hV c), .int .i64 (hT c)])) ∧ Kept w w' := by
  by_cases hk : kind c < 4
  · rw [if_pos hk]
    go_enter Tryz.func192, Tryz.ntmps192
    go_wp2_with (go_at_call 149; refine (kind_any _ _).mono ?_; rintro e w' ⟨rfl, rfl⟩)
    exact bodyPost_ret (v := .agg #[.int .i64 0, .int .i64 0, .int .i64 0]) (by simp [results, Tryz.results192, go_sem]) rfl ⟨rfl, by repeat (first | exact Kept.refl _ | refine Kept.drew ?_ | refine Kept.alloc ?_ _)⟩
  · rw [if_neg hk]
    have hr := kind_ge (c := c) (by omega)
    obtain ⟨hr1, hr2⟩ := hr
    by_cases ht : (c - 44032) % 28 = 0
    · have e3 : hT c = 0 := if_pos ht
      have HT3 := Lib.hid e3
      have ht' : ¬ 0 < (c - 44032) % 28 := by omega
      clear e3
      go_enter Tryz.func192, Tryz.ntmps192
      go_wp2_with (go_at_call 149; refine (kind_any _ _).mono ?_; rintro e w' ⟨rfl, rfl⟩)
      rw [HT3.out]
      exact bodyPost_ret (v := .agg #[.int .i64 (hL c), .int .i64 (hV c), .int .i64 0]) (by simp [results, Tryz.results192, go_sem, hL, hV]) rfl ⟨rfl, by repeat (first | exact Kept.refl _ | refine Kept.drew ?_ | refine Kept.alloc ?_ _)⟩
    · have e3 : hT c = 4520 + (c - 44032) % 28 - 1 := if_neg ht
      have HT3 := Lib.hid e3
      have ht' : 0 < (c - 44032) % 28 := by omega
      clear e3 ht
      go_enter Tryz.func192, Tryz.ntmps192
      go_wp2_with (go_at_call 149; refine (kind_any _ _).mono ?_; rintro e w' ⟨rfl, rfl⟩)
      rw [HT3.out]
      exact bodyPost_ret (v := .agg #[.int .i64 (hL c), .int .i64 (hV c), .int .i64 (4520 + (c - 44032) % 28 - 1)]) (by simp [results, Tryz.results192, go_sem, hL, hV]) rfl ⟨rfl, by repeat (first | exact Kept.refl _ | refine Kept.drew ?_ | refine Kept.alloc ?_ _ | refine Kept.setCell ?_ (by simp) _)⟩
end Go.Proofs.YtmlcdohldkgcdaaGreatDoor
namespace Go.Proofs.YtmlcdohldkgcdaaGreatDoor
open Go Go.RowKit
theorem eq3_same (w : World) : (binOp .eql 242 (.agg #[.int .i64 0, .int .i64 0, .int .i64 0]) (.agg #[.int .i64 0, .int .i64 0, .int .i64 0])).run Tryz.prog w = .ok (.bool true) w := by kernel_rfl
theorem eq3_other (a b c : Int) (h : a ≠ 0) (w : World) : (binOp .eql 242 (.agg #[.int .i64 a, .int .i64 b, .int .i64 c]) (.agg #[.int .i64 0, .int .i64 0, .int .i64 0])).run Tryz.prog w = .ok (.bool false) w := by
  have hu : Tryz.prog.underlying 242 = some (.array 3 3) := by kernel_rfl
  have hu3 : Tryz.prog.underlying 3 = some (.int .i64) := by kernel_rfl
  have hs : (sizeOf 3).run Tryz.prog w = .ok 1 w := by kernel_rfl
  have hp : ∀ x y z, (part 3 #[.int .i64 x, .int .i64 y, .int .i64 z] (0 * 1)).run Tryz.prog w = .ok (.int .i64 x) w := fun x y z => by kernel_rfl
  have hd : ∀ d : Nat, (Op.equalIn (d + 2) 242 (.agg #[.int .i64 a, .int .i64 b, .int .i64 c]) (.agg #[.int .i64 0, .int .i64 0, .int .i64 0])).run Tryz.prog w = .ok false w := by
    intro d
    have e : (a == 0) = false := by simpa using h
    rw [Op.equalIn]
    simp only [Sem.run_bind, run_underlying hu, Result.andThen_ok, hs]
    rw [Std.Legacy.Range.forIn_eq_forIn_range']
    simp [Std.Legacy.Range.size, List.range'_succ, List.forIn_cons, Sem.run_bind, hp, run_equalIn_int w d 3 .i64 .i64 a 0 hu3, e]
  simp only [binOp]
  simp [Op.equal, Op.maxDepth, hd 9998]
theorem hdecomp_any (c : Int) (w : World) : Calls Tryz.prog 154 #[.int .i64 c] w (RetInts w (decompH c)) := by
  by_cases hk : kind c < 4
  · have hp := hparts_any c w
    rw [if_pos hk] at hp
    have HP := Lib.hid hp
    have HD := Lib.hid (show decompH c = [c] from if_pos hk)
    clear hp hk
    have he := eq3_same
    go_enter Tryz.func154, Tryz.ntmps154
    go_wp2_with (go_at_call 192; refine HP.out.mono ?_; rintro e w' ⟨rfl, hk1⟩)
    go_ret
    refine ⟨_, 1, 1, rfl, Nat.le_refl _, ?_, Kept.alloc (Kept.alloc hk1 _) _⟩
    rw [HD.out]
    exact Ints.alloc_ (xs := [c]) (by simp) rfl
  · have hp := hparts_any c w
    rw [if_neg hk] at hp
    have HP := Lib.hid hp
    obtain ⟨hr1, hr2⟩ := kind_ge (c := c) (by omega)
    have hl0 : hL c ≠ 0 := by unfold hL; omega
    have he := eq3_other (hL c) (hV c) (hT c) hl0
    clear hp
    by_cases ht : (c - 44032) % 28 = 0
    · have hz : (hT c == 0) = true := by unfold hT; rw [if_pos ht]; rfl
      have HD := Lib.hid (show decompH c = [hL c, hV c] by unfold decompH; rw [if_neg hk, if_pos ht])
      clear ht hk hl0
      go_enter Tryz.func154, Tryz.ntmps154
      go_wp2_with (go_at_call 192; refine HP.out.mono ?_; rintro e w' ⟨rfl, hk1⟩)
      go_ret
      refine ⟨_, 2, 2, rfl, Nat.le_refl _, ?_, Kept.alloc (Kept.alloc hk1 _) _⟩
      rw [HD.out]
      exact Ints.alloc_ (xs := [hL c, hV c]) (by simp) rfl
    · have hz : (hT c == 0) = false := by unfold hT; rw [if_neg ht]; simp; omega
      have HD := Lib.hid (show decompH c = [hL c, hV c, hT c] by unfold decompH; rw [if_neg hk, if_neg ht])
      clear ht hk hl0
      go_enter Tryz.func154, Tryz.ntmps154
      go_wp2_with (go_at_call 192; refine HP.out.mono ?_; rintro e w' ⟨rfl, hk1⟩)
      go_ret
      refine ⟨_, 3, 3, rfl, Nat.le_refl _, ?_, Kept.alloc (Kept.alloc hk1 _) _⟩
      rw [HD.out]
      exact Ints.alloc_ (xs := [hL c, hV c, hT c]) (by simp) rfl
end Go.Proofs.YtmlcdohldkgcdaaGreatDoor
namespace Go.Proofs.YtmlcdohldkgcdaaGreatDoor
def curR (L : List Rng) (i : Nat) (c : Int) : Bool × Int := match L[i]? with
  | none => (false, 1114111)
  | some r => if c < r.lo then (false, r.lo - 1) else (true, r.hi)
def Past (L : List Rng) (i : Nat) (c : Int) : Prop := i ≤ L.length ∧ ∀ j r, j < i → L[j]? = some r → r.hi < c
theorem Past.zero (L : List Rng) (c : Int) : Past L 0 c := ⟨Nat.zero_le _, fun j _ h => absurd h (by omega)⟩
theorem Past.mono {L : List Rng} {i : Nat} {c d : Int} (h : Past L i c) (hd : c ≤ d) : Past L i d := ⟨h.1, fun j r hj hr => by have := h.2 j r hj hr; omega⟩
theorem Past.next {L : List Rng} {i : Nat} {c : Int} {r : Rng} (h : Past L i c) (hr : L[i]? = some r) (hc : r.hi < c) : Past L (i + 1) c :=
  ⟨by have := lt_of_getElem?_some hr; omega, fun j s hj hs => by
    rcases Nat.lt_or_eq_of_le (Nat.lt_succ_iff.1 hj) with h1 | h1
    · exact h.2 j s h1 hs
    · subst h1; rw [hr] at hs; injection hs with hs; rw [← hs]; exact hc⟩
def Rest (L : List Rng) (i : Nat) (c : Int) : Prop := Past L i c ∧ ∀ r, L[i]? = some r → c ≤ r.hi
theorem canon_lt {L : List Rng} (hL : Canon L) {i j : Nat} {a b : Rng} (hij : i < j) (ha : L[i]? = some a) (hb : L[j]? = some b) : a.hi + 2 ≤ b.lo := by
  have h1 := lt_of_getElem?_some ha
  have h2 := lt_of_getElem?_some hb
  have := List.pairwise_iff_getElem.1 hL.2 i j h1 h2 hij
  rw [List.getElem?_eq_getElem h1] at ha
  rw [List.getElem?_eq_getElem h2] at hb
  injection ha with ha
  injection hb with hb
  rw [ha, hb] at this
  exact this
theorem cur_right {L : List Rng} (hL : Canon L) {i : Nat} {c : Int} (h : Rest L i c) (_h0 : 0 ≤ c) (h1 : c ≤ 1114111) :
    c ≤ (curR L i c).2 ∧ (curR L i c).2 ≤ 1114111 ∧ ∀ x, c ≤ x → x ≤ (curR L i c).2 → hasR L x = (curR L i c).1 := by
  obtain ⟨hp, hr⟩ := h
  have key : ∀ x, c ≤ x → ∀ j s, j < i → L[j]? = some s → ¬ (s.lo ≤ x ∧ x ≤ s.hi) := fun x hx j s hj hs ⟨_, h3⟩ => by have := hp.2 j s hj hs; omega
  cases hi : L[i]? with
  | none =>
    have hlen : L.length ≤ i := List.getElem?_eq_none_iff.1 hi
    have e : curR L i c = (false, 1114111) := by unfold curR; rw [hi]
    rw [e]
    refine ⟨h1, Int.le_refl _, fun x hx _ => ?_⟩
    refine Bool.eq_false_iff.2 (fun hx2 => ?_)
    obtain ⟨s, hs, hin⟩ := (hasR_canon hL x).1 hx2
    obtain ⟨j, hj⟩ := List.getElem?_of_mem hs
    exact key x hx j s (by have := lt_of_getElem?_some hj; omega) hj hin
  | some r =>
    have hrhi := hr r hi
    have hg := hL.1 r (mem_of_getElem?_some hi)
    have hback : ∀ x, x < r.lo → ∀ j s, i ≤ j → L[j]? = some s → ¬ (s.lo ≤ x ∧ x ≤ s.hi) := fun x hx j s hj hs ⟨h2, _⟩ => by
      rcases Nat.lt_or_eq_of_le hj with h3 | h3
      · have := canon_lt hL h3 hi hs
        have := hg.2.1
        omega
      · subst h3; rw [hi] at hs; injection hs with hs; rw [← hs] at h2; omega
    by_cases hc : c < r.lo
    · have e : curR L i c = (false, r.lo - 1) := by unfold curR; rw [hi]; exact if_pos hc
      rw [e]
      refine ⟨by simp only; omega, by simp only; have := hg.2; omega, fun x hx hx2 => ?_⟩
      simp only at hx2 ⊢
      refine Bool.eq_false_iff.2 (fun hx3 => ?_)
      obtain ⟨s, hs, hin⟩ := (hasR_canon hL x).1 hx3
      obtain ⟨j, hj⟩ := List.getElem?_of_mem hs
      rcases Nat.lt_or_ge j i with h2 | h2
      · exact key x hx j s h2 hj hin
      · exact hback x (by omega) j s h2 hj hin
    · have e : curR L i c = (true, r.hi) := by unfold curR; rw [hi]; exact if_neg hc
      rw [e]
      refine ⟨hrhi, hg.2.2, fun x hx hx2 => ?_⟩
      exact (hasR_canon hL x).2 ⟨r, mem_of_getElem?_some hi, by omega, hx2⟩
def CombInv (A B : List Rng) (kp : Bool → Bool → Bool) (out : List Rng) (lo : Int) : Prop := ∀ x, memR out x ↔ (0 ≤ x ∧ x < lo ∧ kp (hasR A x) (hasR B x) = true)
theorem CombInv.zero (A B : List Rng) (kp : Bool → Bool → Bool) : CombInv A B kp [] 0 := fun x => by
  constructor
  · intro h; exact absurd h (memR_nil x)
  · rintro ⟨h1, h2, _⟩; omega
theorem CombInv.keep {A B : List Rng} {kp : Bool → Bool → Bool} {out : List Rng} {lo hi : Int} {a b : Bool} (h : CombInv A B kp out lo) (h0 : 0 ≤ lo) (hlh : lo ≤ hi)
    (ha : ∀ x, lo ≤ x → x ≤ hi → hasR A x = a) (hb : ∀ x, lo ≤ x → x ≤ hi → hasR B x = b) (hk : kp a b = true) : CombInv A B kp (out ++ [⟨lo, hi⟩]) (hi + 1) := fun x => by
  rw [memR_append, h x]
  have e : memR [⟨lo, hi⟩] x ↔ lo ≤ x ∧ x ≤ hi := by simp [memR]
  rw [e]
  constructor
  · rintro (⟨h1, h2, h3⟩ | ⟨h1, h2⟩)
    · exact ⟨h1, by omega, h3⟩
    · exact ⟨by omega, by omega, by rw [ha x h1 h2, hb x h1 h2]; exact hk⟩
  · rintro ⟨h1, h2, h3⟩
    by_cases hx : x < lo
    · exact .inl ⟨h1, hx, h3⟩
    · exact .inr ⟨by omega, by omega⟩
theorem CombInv.drop {A B : List Rng} {kp : Bool → Bool → Bool} {out : List Rng} {lo hi : Int} {a b : Bool} (h : CombInv A B kp out lo) (_h0 : 0 ≤ lo) (hlh : lo ≤ hi)
    (ha : ∀ x, lo ≤ x → x ≤ hi → hasR A x = a) (hb : ∀ x, lo ≤ x → x ≤ hi → hasR B x = b) (hk : kp a b = false) : CombInv A B kp out (hi + 1) := fun x => by
  rw [h x]
  constructor
  · rintro ⟨h1, h2, h3⟩; exact ⟨h1, by omega, h3⟩
  · rintro ⟨h1, h2, h3⟩
    by_cases hx : x < lo
    · exact ⟨h1, hx, h3⟩
    · rw [ha x (by omega) (by omega), hb x (by omega) (by omega), hk] at h3; cases h3
def endsR (L : List Rng) : List Int := 1114111 :: L.flatMap fun r => [r.lo - 1, r.hi]
theorem endsR_length (L : List Rng) : (endsR L).length = 2 * L.length + 1 := by
  have : ∀ L : List Rng, (L.flatMap fun r => [r.lo - 1, r.hi]).length = 2 * L.length := by
    intro L
    induction L with
    | nil => rfl
    | cons r L ih => rw [List.flatMap_cons, List.length_append, ih, List.length_cons]; simp; omega
  unfold endsR
  rw [List.length_cons, this]
theorem cur_end (L : List Rng) (i : Nat) (c : Int) : (curR L i c).2 ∈ endsR L := by
  unfold curR endsR
  cases hi : L[i]? with
  | none => exact List.mem_cons_self ..
  | some r =>
    refine List.mem_cons_of_mem _ (List.mem_flatMap.2 ⟨r, mem_of_getElem?_some hi, ?_⟩)
    by_cases hc : c < r.lo
    · simp [hc]
    · simp [hc]
def endsBefore (E : List Int) (lo : Int) : Nat := (E.filter fun e => decide (e < lo)).length
theorem endsBefore_le (E : List Int) (lo : Int) : endsBefore E lo ≤ E.length := List.length_filter_le _ _
theorem endsBefore_step {lo hi : Int} (hlh : lo ≤ hi) : ∀ E : List Int, hi ∈ E → endsBefore E lo + 1 ≤ endsBefore E (hi + 1)
  | [], h => by cases h
  | e :: E, h => by
    have mono : ∀ E : List Int, endsBefore E lo ≤ endsBefore E (hi + 1) := by
      intro E
      induction E with
      | nil => exact Nat.le_refl _
      | cons a E ih =>
        unfold endsBefore at ih ⊢
        by_cases h1 : a < lo
        · rw [List.filter_cons_of_pos (by simpa using h1), List.filter_cons_of_pos (by simp; omega), List.length_cons, List.length_cons]; omega
        · rw [List.filter_cons_of_neg (by simpa using h1)]
          by_cases h2 : a < hi + 1
          · rw [List.filter_cons_of_pos (by simpa using h2), List.length_cons]; omega
          · rw [List.filter_cons_of_neg (by simpa using h2)]; exact ih
    rcases List.mem_cons.1 h with e1 | h
    · have hm := mono E
      subst e1
      unfold endsBefore at hm ⊢
      rw [List.filter_cons_of_neg (by simp; omega), List.filter_cons_of_pos (p := fun e => decide (e < hi + 1)) (decide_eq_true (by omega)), List.length_cons]
      omega
    · have ih := endsBefore_step hlh E h
      unfold endsBefore at ih ⊢
      by_cases h1 : e < lo
      · rw [List.filter_cons_of_pos (by simpa using h1), List.filter_cons_of_pos (by simp; omega), List.length_cons, List.length_cons]; omega
      · rw [List.filter_cons_of_neg (by simpa using h1)]
        by_cases h2 : e < hi + 1
        · rw [List.filter_cons_of_pos (by simpa using h2), List.length_cons]; omega
        · rw [List.filter_cons_of_neg (by simpa using h2)]; exact ih
theorem CombInv.all {A B : List Rng} {kp : Bool → Bool → Bool} {out : List Rng} {lo : Int} (h : CombInv A B kp out lo) (hlo : 1114111 < lo) (x : Int) : hasR (makeR out) x = (validB x && kp (hasR A x) (hasR B x)) := by
  rw [has_make, Bool.eq_iff_iff]
  unfold hasR at *
  rw [List.any_eq_true]
  simp only [inR, Bool.and_eq_true, decide_eq_true_eq]
  constructor
  · rintro ⟨r, hr, ⟨hv, h1⟩, h2⟩
    exact ⟨hv, ((h x).1 ⟨r, hr, h1, h2⟩).2.2⟩
  · rintro ⟨hv, hk⟩
    have hv2 : 0 ≤ x ∧ x ≤ 1114111 := by simpa [validB] using hv
    obtain ⟨r, hr, h1, h2⟩ := (h x).2 ⟨hv2.1, by omega, hk⟩
    exact ⟨r, hr, ⟨hv, h1⟩, h2⟩
end Go.Proofs.YtmlcdohldkgcdaaGreatDoor
