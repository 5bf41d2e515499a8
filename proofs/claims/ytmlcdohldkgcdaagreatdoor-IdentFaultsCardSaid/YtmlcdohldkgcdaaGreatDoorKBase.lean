/- How the plain data lie in memory: slices of numbers, ranges, spans and mappings, kept over calls that leave what was there. Two sets gone through side by side, by cursors. No program. -/
import Derived.WalkKit
import Derived.OwnWalk
import Derived.BigFrame
import Derived.Outline
import Derived.RegionTactic
import Derived.Lib.Hide
import Derived.Below
import Derived.Laws.OwnMore
import Derived.Deep.AppendLies
import Derived.Deep.Draws
import Derived.Maps.AppendAt
import Derived.Deep.QuietTactic
import Derived.BigQuiet
import Derived.IntWalk
import Derived.WalkSpells
import Derived.WalkLawsBesides
import Derived.StillTailTactics
import Derived.Deep.RegionWith
import Derived.Laws.ResultCell
import Derived.Deep.Light
import Derived.Test.YtmlcdohldkgcdaaGreatDoorProg
import Derived.Test.YtmlcdohldkgcdaaGreatDoorKPl
import Derived.Test.YtmlcdohldkgcdaaGreatDoorKPq
namespace Go.Proofs.YtmlcdohldkgcdaaGreatDoor
open Go Go.RowKit
abbrev Kept (w w' : World) : Prop := Below w.heap.size w w'
theorem Kept.refl (w : World) : Kept w w := Below.refl _ _
theorem Kept.trans {a b c : World} (h : Kept a b) (k : Kept b c) : Kept a c := Below.trans h (k.mono h.size)
theorem Below.thenKept {B : Nat} {a b c : World} (h : Below B a b) (hB : B ≤ b.heap.size) (k : Kept b c) : Below B a c := Below.trans h (k.mono hB)
theorem cell_lt {w : World} {p : Addr} {v : Value} (h : w.cell? p = some v) : p.block < w.heap.size := by
  rcases Nat.lt_or_ge p.block w.heap.size with h1 | h1
  · exact h1
  · unfold World.cell? at h; rw [Array.getElem?_eq_none h1] at h; cases h
theorem Kept.cell {w w' : World} (h : Kept w w') {p : Addr} {v : Value} (hc : w.cell? p = some v) : w'.cell? p = some v :=
  (Below.cell h (cell_lt hc)).trans hc
theorem Kept.drewN {w w' : World} (h : Kept w w') (n : Nat) : Kept w (w'.drewN n) := ⟨h.os, h.tape, h.output, h.size, h.block⟩
theorem Kept.drew {w w' : World} (h : Kept w w') : Kept w w'.drew := ⟨h.os, h.tape, h.output, h.size, h.block⟩
theorem Kept.alloc {w w' : World} (h : Kept w w') (o : Obj) : Kept w (w'.alloc o) := Below.alloc h h.size o
theorem Kept.setCell {w w' : World} (h : Kept w w') {p : Addr} (hp : w.heap.size ≤ p.block) (v : Value) : Kept w (w'.setCell p v) := Below.setCell h hp v
theorem box_cell (w : World) (cs : Array Value) (t : TypeId) (i : Nat) : (w.alloc (.cells cs t)).cell? ⟨w.heap.size, i, none⟩ = cs[i]? := by
  unfold World.cell?
  rw [heap_alloc_new]
  simp
def Sl {α : Type} (k : Nat) (enc : α → List Value) (w : World) (A : Option Addr) (n : Nat) (xs : List α) : Prop :=
  n = xs.length ∧ (0 < n → ∃ b off, A = some ⟨b, off, none⟩ ∧ ∀ i x, xs[i]? = some x → ∀ j u, (enc x)[j]? = some u → w.cell? ⟨b, off + i * k + j, none⟩ = some u)
theorem Sl.kept {α : Type} {k : Nat} {enc : α → List Value} {w w' : World} {A : Option Addr} {n : Nat} {xs : List α} (h : Sl k enc w A n xs) (hk : Kept w w') : Sl k enc w' A n xs :=
  ⟨h.1, fun hn => by
    obtain ⟨b, off, e, hc⟩ := h.2 hn
    exact ⟨b, off, e, fun i x hx j u hu => hk.cell (hc i x hx j u hu)⟩⟩
def encI (x : Int) : List Value := [.int .i64 x]
def encR (r : Rng) : List Value := [.int .i64 r.lo, .int .i64 r.hi]
def encS (s : Span) : List Value := [.int .i64 s.lo, .int .i64 s.hi, .int .i64 s.val]
abbrev Ints (w : World) (A : Option Addr) (n : Nat) (xs : List Int) : Prop := Sl 1 encI w A n xs
abbrev Rngs (w : World) (A : Option Addr) (n : Nat) (xs : List Rng) : Prop := Sl 2 encR w A n xs
abbrev Spans (w : World) (A : Option Addr) (n : Nat) (xs : List Span) : Prop := Sl 3 encS w A n xs
theorem Sl.nil {α : Type} {k : Nat} {enc : α → List Value} {w : World} {A : Option Addr} : Sl k enc w A 0 [] := ⟨rfl, fun h => absurd h (by omega)⟩
theorem int_at {w : World} {A : Option Addr} {n : Nat} {xs : List Int} (h : Ints w A n xs) {i : Nat} (hi : i < n) :
    ∃ b off x, A = some ⟨b, off, none⟩ ∧ xs[i]? = some x ∧ w.cell? ⟨b, off + i, none⟩ = some (.int .i64 x) := by
  obtain ⟨b, off, e, hc⟩ := h.2 (by omega)
  obtain ⟨x, hx⟩ := getElem?_some_of_lt (l := xs) (k := i) (by rw [← h.1]; exact hi)
  exact ⟨b, off, x, e, hx, by simpa using hc i x hx 0 _ rfl⟩
theorem rng_at {w : World} {A : Option Addr} {n : Nat} {xs : List Rng} (h : Rngs w A n xs) {i : Nat} (hi : i < n) :
    ∃ b off r, A = some ⟨b, off, none⟩ ∧ xs[i]? = some r ∧ w.cell? ⟨b, off + i * 2, none⟩ = some (.int .i64 r.lo) ∧ w.cell? ⟨b, off + i * 2 + 1, none⟩ = some (.int .i64 r.hi) := by
  obtain ⟨b, off, e, hc⟩ := h.2 (by omega)
  obtain ⟨x, hx⟩ := getElem?_some_of_lt (l := xs) (k := i) (by rw [← h.1]; exact hi)
  exact ⟨b, off, x, e, hx, by simpa using hc i x hx 0 _ rfl, hc i x hx 1 _ rfl⟩
theorem span_at {w : World} {A : Option Addr} {n : Nat} {xs : List Span} (h : Spans w A n xs) {i : Nat} (hi : i < n) :
    ∃ b off r, A = some ⟨b, off, none⟩ ∧ xs[i]? = some r ∧ w.cell? ⟨b, off + i * 3, none⟩ = some (.int .i64 r.lo) ∧ w.cell? ⟨b, off + i * 3 + 1, none⟩ = some (.int .i64 r.hi) ∧
      w.cell? ⟨b, off + i * 3 + 2, none⟩ = some (.int .i64 r.val) := by
  obtain ⟨b, off, e, hc⟩ := h.2 (by omega)
  obtain ⟨x, hx⟩ := getElem?_some_of_lt (l := xs) (k := i) (by rw [← h.1]; exact hi)
  exact ⟨b, off, x, e, hx, by simpa using hc i x hx 0 _ rfl, hc i x hx 1 _ rfl, hc i x hx 2 _ rfl⟩
def Mps (w : World) (A : Option Addr) (n : Nat) (l : List Mp) : Prop :=
  n = l.length ∧ (0 < n → ∃ b off, A = some ⟨b, off, none⟩ ∧ ∀ i m, l[i]? = some m → ∃ A' n' c', n' ≤ c' ∧ Ints w A' n' m.to ∧
    w.cell? ⟨b, off + i * 3, none⟩ = some (.int .i64 m.src) ∧ w.cell? ⟨b, off + i * 3 + 1, none⟩ = some (.slice A' n' c') ∧ w.cell? ⟨b, off + i * 3 + 2, none⟩ = some (.string m.tag))
theorem Mps.kept {w w' : World} {A : Option Addr} {n : Nat} {l : List Mp} (h : Mps w A n l) (hk : Kept w w') : Mps w' A n l :=
  ⟨h.1, fun hn => by
    obtain ⟨b, off, e, hc⟩ := h.2 hn
    refine ⟨b, off, e, fun i m hm => ?_⟩
    obtain ⟨A', n', c', hle, hI, h0, h1, h2⟩ := hc i m hm
    exact ⟨A', n', c', hle, hI.kept hk, hk.cell h0, hk.cell h1, hk.cell h2⟩⟩
theorem mp_at {w : World} {A : Option Addr} {n : Nat} {l : List Mp} (h : Mps w A n l) {i : Nat} (hi : i < n) :
    ∃ b off m A' n' c', A = some ⟨b, off, none⟩ ∧ l[i]? = some m ∧ n' ≤ c' ∧ Ints w A' n' m.to ∧
    w.cell? ⟨b, off + i * 3, none⟩ = some (.int .i64 m.src) ∧ w.cell? ⟨b, off + i * 3 + 1, none⟩ = some (.slice A' n' c') ∧ w.cell? ⟨b, off + i * 3 + 2, none⟩ = some (.string m.tag) := by
  obtain ⟨b, off, e, hc⟩ := h.2 (by omega)
  obtain ⟨m, hm⟩ := getElem?_some_of_lt (l := l) (k := i) (by rw [← h.1]; exact hi)
  obtain ⟨A', n', c', hle, hI, h0, h1, h2⟩ := hc i m hm
  exact ⟨b, off, m, A', n', c', e, hm, hle, hI, h0, h1, h2⟩
def RetI (w : World) (v : Int) (e : Ending) (w' : World) : Prop := e = .returned (.int .i64 v) ∧ Kept w w'
def RetB (w : World) (v : Bool) (e : Ending) (w' : World) : Prop := e = .returned (.bool v) ∧ Kept w w'
def RetInts (w : World) (xs : List Int) (e : Ending) (w' : World) : Prop := ∃ A n c, e = .returned (.slice A n c) ∧ n ≤ c ∧ Ints w' A n xs ∧ Kept w w'
def RetRngs (w : World) (xs : List Rng) (e : Ending) (w' : World) : Prop := ∃ A n c, e = .returned (.slice A n c) ∧ n ≤ c ∧ Rngs w' A n xs ∧ Kept w w'
theorem flip_ {P : Program} {f : FuncId} {args : Array Value} {w : World} {v : Value} (h : Calls P f args w fun e w' => e = .returned v ∧ w = w') : Calls P f args w fun e w' => e = .returned v ∧ w' = w :=
  h.mono fun _ _ ⟨he, hw⟩ => ⟨he, hw.symm⟩
theorem region_still_tail {P : Program} {id : Nat} {Q : Exit → Act → World → Prop} {a : Act} {w : World} {l : List Oper} (n : Nat) (hm : P.follows .mixedOrders = true) (hB : Region.lexTailB .any l.toArray n = true)
    (h : wpStill P l.toArray w.drew (fun a' => wpList P l.toArray Q (l.drop n) a' w.drew) (l.take n) a) : (Code.region id l.toArray true).wp P Q a w := wp_region_still_tail n hm hB h
theorem ret_int {k : IntKind} {a b : Int} (h : a = b) : Ending.returned (.int k a) = .returned (.int k b) := by rw [h]
theorem ret_bool {a b : Bool} (h : a = b) : Ending.returned (.bool a) = .returned (.bool b) := by rw [h]
end Go.Proofs.YtmlcdohldkgcdaaGreatDoor
namespace Go.Proofs.YtmlcdohldkgcdaaGreatDoor
def curR (L : List Rng) (i : Nat) (c : Int) : Bool × Int := match L[i]? with
  | none => (false, 1114111)
  | some r => if c < r.lo then (false, r.lo - 1) else (true, r.hi)
def Past (L : List Rng) (i : Nat) (c : Int) : Prop := i ≤ L.length ∧ ∀ j r, j < i → L[j]? = some r → r.hi < c
theorem Past.zero (L : List Rng) (c : Int) : Past L 0 c := ⟨Nat.zero_le _, fun j _ h => absurd h (by omega)⟩
theorem Past.mono {L : List Rng} {i : Nat} {c d : Int} (h : Past L i c) (hd : c ≤ d) : Past L i d := ⟨h.1, fun j r hj hr => by have := h.2 j r hj hr; omega⟩
theorem Past.next {L : List Rng} {i : Nat} {c : Int} {r : Rng} (h : Past L i c) (hr : L[i]? = some r) (hc : r.hi < c) : Past L (i + 1) c :=
  ⟨by have := lt_of_getElem?_some hr; omega, fun j s hj hs => by
    rcases Nat.lt_or_eq_of_le (Nat.lt_succ_iff.1 hj) with h1 | h1
    · exact h.2 j s h1 hs
    · subst h1; rw [hr] at hs; injection hs with hs; rw [← hs]; exact hc⟩
def Rest (L : List Rng) (i : Nat) (c : Int) : Prop := Past L i c ∧ ∀ r, L[i]? = some r → c ≤ r.hi
theorem canon_lt {L : List Rng} (hL : Canon L) {i j : Nat} {a b : Rng} (hij : i < j) (ha : L[i]? = some a) (hb : L[j]? = some b) : a.hi + 2 ≤ b.lo := by
  have h1 := lt_of_getElem?_some ha
  have h2 := lt_of_getElem?_some hb
  have := List.pairwise_iff_getElem.1 hL.2 i j h1 h2 hij
  rw [List.getElem?_eq_getElem h1] at ha
  rw [List.getElem?_eq_getElem h2] at hb
  injection ha with ha
  injection hb with hb
  rw [ha, hb] at this
  exact this
theorem cur_right {L : List Rng} (hL : Canon L) {i : Nat} {c : Int} (h : Rest L i c) (_h0 : 0 ≤ c) (h1 : c ≤ 1114111) :
    c ≤ (curR L i c).2 ∧ (curR L i c).2 ≤ 1114111 ∧ ∀ x, c ≤ x → x ≤ (curR L i c).2 → hasR L x = (curR L i c).1 := by
  obtain ⟨hp, hr⟩ := h
  have key : ∀ x, c ≤ x → ∀ j s, j < i → L[j]? = some s → ¬ (s.lo ≤ x ∧ x ≤ s.hi) := fun x hx j s hj hs ⟨_, h3⟩ => by have := hp.2 j s hj hs; omega
  cases hi : L[i]? with
  | none =>
    have hlen : L.length ≤ i := List.getElem?_eq_none_iff.1 hi
    have e : curR L i c = (false, 1114111) := by unfold curR; rw [hi]
    rw [e]
    refine ⟨h1, Int.le_refl _, fun x hx _ => ?_⟩
    refine Bool.eq_false_iff.2 (fun hx2 => ?_)
    obtain ⟨s, hs, hin⟩ := (hasR_canon hL x).1 hx2
    obtain ⟨j, hj⟩ := List.getElem?_of_mem hs
    exact key x hx j s (by have := lt_of_getElem?_some hj; omega) hj hin
  | some r =>
    have hrhi := hr r hi
    have hg := hL.1 r (mem_of_getElem?_some hi)
    have hback : ∀ x, x < r.lo → ∀ j s, i ≤ j → L[j]? = some s → ¬ (s.lo ≤ x ∧ x ≤ s.hi) := fun x hx j s hj hs ⟨h2, _⟩ => by
      rcases Nat.lt_or_eq_of_le hj with h3 | h3
      · have := canon_lt hL h3 hi hs
        have := hg.2.1
        omega
      · subst h3; rw [hi] at hs; injection hs with hs; rw [← hs] at h2; omega
    by_cases hc : c < r.lo
    · have e : curR L i c = (false, r.lo - 1) := by unfold curR; rw [hi]; exact if_pos hc
      rw [e]
      refine ⟨by simp only; omega, by simp only; have := hg.2; omega, fun x hx hx2 => ?_⟩
      simp only at hx2 ⊢
      refine Bool.eq_false_iff.2 (fun hx3 => ?_)
      obtain ⟨s, hs, hin⟩ := (hasR_canon hL x).1 hx3
      obtain ⟨j, hj⟩ := List.getElem?_of_mem hs
      rcases Nat.lt_or_ge j i with h2 | h2
      · exact key x hx j s h2 hj hin
      · exact hback x (by omega) j s h2 hj hin
    · have e : curR L i c = (true, r.hi) := by unfold curR; rw [hi]; exact if_neg hc
      rw [e]
      refine ⟨hrhi, hg.2.2, fun x hx hx2 => ?_⟩
      exact (hasR_canon hL x).2 ⟨r, mem_of_getElem?_some hi, by omega, hx2⟩
def CombInv (A B : List Rng) (kp : Bool → Bool → Bool) (out : List Rng) (lo : Int) : Prop := ∀ x, memR out x ↔ (0 ≤ x ∧ x < lo ∧ kp (hasR A x) (hasR B x) = true)
theorem CombInv.zero (A B : List Rng) (kp : Bool → Bool → Bool) : CombInv A B kp [] 0 := fun x => by
  constructor
  · intro h; exact absurd h (memR_nil x)
  · rintro ⟨h1, h2, _⟩; omega
theorem CombInv.keep {A B : List Rng} {kp : Bool → Bool → Bool} {out : List Rng} {lo hi : Int} {a b : Bool} (h : CombInv A B kp out lo) (h0 : 0 ≤ lo) (hlh : lo ≤ hi)
    (ha : ∀ x, lo ≤ x → x ≤ hi → hasR A x = a) (hb : ∀ x, lo ≤ x → x ≤ hi → hasR B x = b) (hk : kp a b = true) : CombInv A B kp (out ++ [⟨lo, hi⟩]) (hi + 1) := fun x => by
  rw [memR_append, h x]
  have e : memR [⟨lo, hi⟩] x ↔ lo ≤ x ∧ x ≤ hi := by simp [memR]
  rw [e]
  constructor
  · rintro (⟨h1, h2, h3⟩ | ⟨h1, h2⟩)
    · exact ⟨h1, by omega, h3⟩
    · exact ⟨by omega, by omega, by rw [ha x h1 h2, hb x h1 h2]; exact hk⟩
  · rintro ⟨h1, h2, h3⟩
    by_cases hx : x < lo
    · exact .inl ⟨h1, hx, h3⟩
    · exact .inr ⟨by omega, by omega⟩
theorem CombInv.drop {A B : List Rng} {kp : Bool → Bool → Bool} {out : List Rng} {lo hi : Int} {a b : Bool} (h : CombInv A B kp out lo) (_h0 : 0 ≤ lo) (hlh : lo ≤ hi)
    (ha : ∀ x, lo ≤ x → x ≤ hi → hasR A x = a) (hb : ∀ x, lo ≤ x → x ≤ hi → hasR B x = b) (hk : kp a b = false) : CombInv A B kp out (hi + 1) := fun x => by
  rw [h x]
  constructor
  · rintro ⟨h1, h2, h3⟩; exact ⟨h1, by omega, h3⟩
  · rintro ⟨h1, h2, h3⟩
    by_cases hx : x < lo
    · exact ⟨h1, hx, h3⟩
    · rw [ha x (by omega) (by omega), hb x (by omega) (by omega), hk] at h3; cases h3
def endsR (L : List Rng) : List Int := 1114111 :: L.flatMap fun r => [r.lo - 1, r.hi]
theorem endsR_length (L : List Rng) : (endsR L).length = 2 * L.length + 1 := by
  have : ∀ L : List Rng, (L.flatMap fun r => [r.lo - 1, r.hi]).length = 2 * L.length := by
    intro L
    induction L with
    | nil => rfl
    | cons r L ih => rw [List.flatMap_cons, List.length_append, ih, List.length_cons]; simp; omega
  unfold endsR
  rw [List.length_cons, this]
theorem cur_end (L : List Rng) (i : Nat) (c : Int) : (curR L i c).2 ∈ endsR L := by
  unfold curR endsR
  cases hi : L[i]? with
  | none => exact List.mem_cons_self ..
  | some r =>
    refine List.mem_cons_of_mem _ (List.mem_flatMap.2 ⟨r, mem_of_getElem?_some hi, ?_⟩)
    by_cases hc : c < r.lo
    · simp [hc]
    · simp [hc]
def endsBefore (E : List Int) (lo : Int) : Nat := (E.filter fun e => decide (e < lo)).length
theorem endsBefore_le (E : List Int) (lo : Int) : endsBefore E lo ≤ E.length := List.length_filter_le _ _
theorem endsBefore_step {lo hi : Int} (hlh : lo ≤ hi) : ∀ E : List Int, hi ∈ E → endsBefore E lo + 1 ≤ endsBefore E (hi + 1)
  | [], h => by cases h
  | e :: E, h => by
    have mono : ∀ E : List Int, endsBefore E lo ≤ endsBefore E (hi + 1) := by
      intro E
      induction E with
      | nil => exact Nat.le_refl _
      | cons a E ih =>
        unfold endsBefore at ih ⊢
        by_cases h1 : a < lo
        · rw [List.filter_cons_of_pos (by simpa using h1), List.filter_cons_of_pos (by simp; omega), List.length_cons, List.length_cons]; omega
        · rw [List.filter_cons_of_neg (by simpa using h1)]
          by_cases h2 : a < hi + 1
          · rw [List.filter_cons_of_pos (by simpa using h2), List.length_cons]; omega
          · rw [List.filter_cons_of_neg (by simpa using h2)]; exact ih
    rcases List.mem_cons.1 h with e1 | h
    · have hm := mono E
      subst e1
      unfold endsBefore at hm ⊢
      rw [List.filter_cons_of_neg (by simp; omega), List.filter_cons_of_pos (p := fun e => decide (e < hi + 1)) (decide_eq_true (by omega)), List.length_cons]
      omega
    · have ih := endsBefore_step hlh E h
      unfold endsBefore at ih ⊢
      by_cases h1 : e < lo
      · rw [List.filter_cons_of_pos (by simpa using h1), List.filter_cons_of_pos (by simp; omega), List.length_cons, List.length_cons]; omega
      · rw [List.filter_cons_of_neg (by simpa using h1)]
        by_cases h2 : e < hi + 1
        · rw [List.filter_cons_of_pos (by simpa using h2), List.length_cons]; omega
        · rw [List.filter_cons_of_neg (by simpa using h2)]; exact ih
theorem CombInv.all {A B : List Rng} {kp : Bool → Bool → Bool} {out : List Rng} {lo : Int} (h : CombInv A B kp out lo) (hlo : 1114111 < lo) (x : Int) : hasR (makeR out) x = (validB x && kp (hasR A x) (hasR B x)) := by
  rw [has_make, Bool.eq_iff_iff]
  unfold hasR at *
  rw [List.any_eq_true]
  simp only [inR, Bool.and_eq_true, decide_eq_true_eq]
  constructor
  · rintro ⟨r, hr, ⟨hv, h1⟩, h2⟩
    exact ⟨hv, ((h x).1 ⟨r, hr, h1, h2⟩).2.2⟩
  · rintro ⟨hv, hk⟩
    have hv2 : 0 ≤ x ∧ x ≤ 1114111 := by simpa [validB] using hv
    obtain ⟨r, hr, h1, h2⟩ := (h x).2 ⟨hv2.1, by omega, hk⟩
    exact ⟨r, hr, ⟨hv, h1⟩, h2⟩
end Go.Proofs.YtmlcdohldkgcdaaGreatDoor
