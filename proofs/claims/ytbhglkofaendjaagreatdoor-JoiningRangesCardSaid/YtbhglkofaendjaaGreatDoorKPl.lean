/- The plain data of the statements (spans, ranges, mappings, the data of normalization) and small facts on lists. No program. Plain functions of layers 19 and 20: kinds of Hangul, the check of classes, the class of a number, runs. No program. Plain functions of layers 1 and 11: code points, comparisons, names, the check of mappings. No program. The mapping of a number. No program. Small data; comparing lists. No program. Sets of code points as ranges: making a valid set. No program. The reference's making of sets: cuts, and what is kept between them. No program. Runs of a text under classes. No program. Maps as lists of pairs. No program. The measuring of full decompositions, as the code does it: a search in depth that keeps what it found. No program. decompose.Check in plain words; that the measuring ends. No program. The reference's rounds over the mappings: where replacing ends, and how long decompositions are. No program. The reference's check of the data, in plain words. No program. The two checks of mappings agree; mappings found twice. No program. Valid sets: the program's and the reference's making of sets agree. No program. Replacing that ends: the search in depth finds cycles and lengths. No program. The reference's rounds: where replacing ends, and the lengths; both checks agree. No program. The reference's lengths are right; both checks of the data agree. No program. Full decompositions. No program. -/
import GoSem.Op.String
namespace Go.Proofs.YtbhglkofaendjaaGreatDoor

structure Span where
  lo : Int
  hi : Int
  val : Int
structure Rng where
  lo : Int
  hi : Int
structure Mp where
  src : Int
  to : List Int
  tag : ByteArray
structure Nrm where
  classes : List Span
  decomp : List Mp
  excl : List Rng

theorem Rng.ext' {a b : Rng} (h : a.lo = b.lo) (k : a.hi = b.hi) : a = b := by cases a; cases b; simp at h k; simp [h, k]
theorem Span.ext' {a b : Span} (h : a.lo = b.lo) (k : a.hi = b.hi) (m : a.val = b.val) : a = b := by cases a; cases b; simp at h k m; simp [h, k, m]
instance instDecRng : DecidableEq Rng := fun a b => decidable_of_iff (a.lo = b.lo ∧ a.hi = b.hi) ⟨fun h => Rng.ext' h.1 h.2, fun h => by subst h; exact ⟨rfl, rfl⟩⟩

/-- The numbers that an int holds. -/
def I64 (x : Int) : Prop := -9223372036854775808 ≤ x ∧ x ≤ 9223372036854775807

theorem getElem?_some_of_lt {α : Type} {l : List α} {k : Nat} (h : k < l.length) : ∃ x, l[k]? = some x := ⟨l[k], List.getElem?_eq_getElem h⟩
theorem lt_of_getElem?_some {α : Type} {l : List α} {k : Nat} {x : α} (h : l[k]? = some x) : k < l.length := by
  rcases Nat.lt_or_ge k l.length with h1 | h1
  · exact h1
  · rw [List.getElem?_eq_none h1] at h; cases h
theorem take_succ_some {α : Type} {l : List α} {k : Nat} {x : α} (h : l[k]? = some x) : l.take (k + 1) = l.take k ++ [x] := by
  have hl := lt_of_getElem?_some h
  rw [List.take_succ_eq_append_getElem hl]
  rw [List.getElem?_eq_getElem hl] at h
  injection h with h
  rw [h]
theorem mem_of_getElem?_some {α : Type} {l : List α} {k : Nat} {x : α} (h : l[k]? = some x) : x ∈ l := List.mem_of_getElem? h
theorem drop_some {α : Type} {l : List α} {k : Nat} {x : α} (h : l[k]? = some x) : l.drop k = x :: l.drop (k + 1) := by
  have hl := lt_of_getElem?_some h
  rw [List.drop_eq_getElem_cons hl]
  rw [List.getElem?_eq_getElem hl] at h
  injection h with h
  rw [h]
end Go.Proofs.YtbhglkofaendjaaGreatDoor
namespace Go.Proofs.YtbhglkofaendjaaGreatDoor

def kind (c : Int) : Int :=
  if 4352 ≤ c ∧ c < 4371 then 1
  else if 4449 ≤ c ∧ c < 4470 then 2
  else if 4520 ≤ c ∧ c < 4547 then 3
  else if c < 44032 ∨ 55204 ≤ c then 0
  else if (c - 44032) % 28 = 0 then 4 else 5

def spanBad (s : Span) : Bool := decide (s.lo < 0) || decide (s.hi > 1114111) || decide (s.lo > s.hi) || decide (s.val < 1) || decide (s.val > 254)
def spanClash (a b : Span) : Bool := decide (b.lo ≤ a.hi) || (decide (b.lo = a.hi + 1) && decide (b.val = a.val))
def hangulR : List Rng := [⟨4352, 4370⟩, ⟨4449, 4469⟩, ⟨4520, 4546⟩, ⟨44032, 55203⟩]
def meets (s : Span) (r : Rng) : Bool := decide (s.lo ≤ r.hi) && decide (r.lo ≤ s.hi)
def spanHangul (s : Span) : Bool := hangulR.any (meets s)

def adjAny {α : Type} (p : α → α → Bool) : List α → Bool
  | a :: b :: r => p a b || adjAny p (b :: r)
  | _ => false

theorem adjAny_snoc {α : Type} (p : α → α → Bool) (a b : α) : ∀ l : List α, adjAny p (l ++ [a] ++ [b]) = (adjAny p (l ++ [a]) || p a b)
  | [] => by simp [adjAny]
  | [x] => by simp [adjAny]
  | x :: y :: r => by
    have ih := adjAny_snoc p a b (y :: r)
    simp only [List.cons_append, adjAny] at ih ⊢
    rw [ih, Bool.or_assoc]
theorem adjAny_take {α : Type} (p : α → α → Bool) {l : List α} {k : Nat} {a b : α} (ha : l[k]? = some a) (hb : l[k + 1]? = some b) : adjAny p (l.take (k + 2)) = (adjAny p (l.take (k + 1)) || p a b) := by
  rw [take_succ_some hb, take_succ_some ha]; exact adjAny_snoc p a b _
theorem adjAny_true_of_take {α : Type} (p : α → α → Bool) : ∀ (l : List α) (k : Nat), adjAny p (l.take k) = true → adjAny p l = true
  | [], k, h => by simp [adjAny] at h
  | [x], k, h => by
    match k, h with
    | 0, h => simp [adjAny] at h
    | k + 1, h => simp [adjAny] at h
  | x :: y :: r, k, h => by
    match k, h with
    | 0, h => simp [adjAny] at h
    | 1, h => simp [adjAny] at h
    | k + 2, h =>
      simp only [List.take_succ_cons, adjAny, Bool.or_eq_true] at h ⊢
      rcases h with h | h
      · exact .inl h
      · exact .inr (adjAny_true_of_take p (y :: r) (k + 1) (by simpa [adjAny] using h))
theorem any_take_snoc {α : Type} (p : α → Bool) {l : List α} {k : Nat} {a : α} (ha : l[k]? = some a) : (l.take (k + 1)).any p = ((l.take k).any p || p a) := by
  rw [take_succ_some ha]; simp

def ordCheck (l : List Span) : Int :=
  if l.any spanBad then 1 else if adjAny spanClash l then 4 else if l.any spanHangul then 11 else 0

theorem ordCheck_range {l : List Span} {k : Nat} {s : Span} (hs : l[k]? = some s) (h : spanBad s = true) : ordCheck l = 1 := by
  unfold ordCheck
  rw [if_pos (List.any_eq_true.2 ⟨s, mem_of_getElem?_some hs, h⟩)]
theorem ordCheck_order {l : List Span} {k : Nat} {a b : Span} (h0 : l.any spanBad = false) (ha : l[k]? = some a) (hb : l[k + 1]? = some b) (h : spanClash a b = true) : ordCheck l = 4 := by
  unfold ordCheck
  rw [h0, if_neg (by decide), if_pos]
  refine adjAny_true_of_take spanClash _ (k + 2) ?_
  rw [adjAny_take spanClash ha hb, h]; simp
theorem ordCheck_hangul {l : List Span} {k : Nat} {s : Span} (h0 : l.any spanBad = false) (h1 : adjAny spanClash l = false) (hs : l[k]? = some s) (h : spanHangul s = true) : ordCheck l = 11 := by
  unfold ordCheck
  rw [h0, if_neg (by decide), h1, if_neg (by decide), if_pos (List.any_eq_true.2 ⟨s, mem_of_getElem?_some hs, h⟩)]
theorem ordCheck_ok {l : List Span} (h0 : l.any spanBad = false) (h1 : adjAny spanClash l = false) (h2 : l.any spanHangul = false) : ordCheck l = 0 := by
  unfold ordCheck
  rw [h0, h1, h2]; rfl
theorem spanHangul_of {s : Span} {k : Nat} {r : Rng} (hr : hangulR[k]? = some r) (h : meets s r = true) : spanHangul s = true :=
  List.any_eq_true.2 ⟨r, mem_of_getElem?_some hr, h⟩

/-- Classes in order, as a search needs them. -/
def SpanSorted (l : List Span) : Prop := (∀ (i j : Nat) (a b : Span), i < j → l[i]? = some a → l[j]? = some b → a.hi < b.lo) ∧ ∀ a ∈ l, a.lo ≤ a.hi

theorem spanBad_false {s : Span} (h : spanBad s = false) : 0 ≤ s.lo ∧ s.hi ≤ 1114111 ∧ s.lo ≤ s.hi ∧ 1 ≤ s.val ∧ s.val ≤ 254 := by
  simp [spanBad] at h; omega
theorem spanBad_mk {s : Span} (h : s.lo < 0 ∨ s.hi > 1114111 ∨ s.lo > s.hi ∨ s.val < 1 ∨ s.val > 254) : spanBad s = true := by
  simp [spanBad]; omega
theorem spanBad_not {s : Span} (h : 0 ≤ s.lo ∧ s.hi ≤ 1114111 ∧ s.lo ≤ s.hi ∧ 1 ≤ s.val ∧ s.val ≤ 254) : spanBad s = false := by
  simp [spanBad]; omega
theorem spanClash_mk {a b : Span} (h : b.lo ≤ a.hi ∨ (b.lo = a.hi + 1 ∧ b.val = a.val)) : spanClash a b = true := by
  simp [spanClash]; omega
theorem spanClash_not {a b : Span} (h : a.hi < b.lo ∧ (b.lo ≠ a.hi + 1 ∨ b.val ≠ a.val)) : spanClash a b = false := by
  simp [spanClash]; omega
theorem any_false_at {α : Type} {p : α → Bool} {l : List α} {k : Nat} {a : α} (h : l.any p = false) (ha : l[k]? = some a) : p a = false := by
  rw [List.any_eq_false] at h
  simpa using h a (mem_of_getElem?_some ha)
theorem adjAny_false_at {α : Type} {p : α → α → Bool} {l : List α} {k : Nat} {a b : α} (h : adjAny p l = false) (ha : l[k]? = some a) (hb : l[k + 1]? = some b) : p a b = false := by
  cases hp : p a b
  · rfl
  · have := adjAny_true_of_take p l (k + 2) (by rw [adjAny_take p ha hb, hp]; simp)
    rw [h] at this; cases this
theorem ordCheck_zero {l : List Span} (h : ordCheck l = 0) : l.any spanBad = false ∧ adjAny spanClash l = false ∧ l.any spanHangul = false := by
  unfold ordCheck at h
  cases h0 : l.any spanBad <;> cases h1 : adjAny spanClash l <;> cases h2 : l.any spanHangul <;> simp [h0, h1, h2] at h
  exact ⟨rfl, rfl, rfl⟩
theorem spanSorted_of {l : List Span} (h0 : l.any spanBad = false) (h1 : adjAny spanClash l = false) : SpanSorted l := by
  have hle : ∀ a ∈ l, a.lo ≤ a.hi := fun a ha => by
    obtain ⟨k, hk, e⟩ := List.getElem_of_mem ha
    exact (spanBad_false (any_false_at h0 (k := k) (by rw [List.getElem?_eq_getElem hk, e]))).2.2.1
  refine ⟨fun i j => ?_, hle⟩
  induction j with
  | zero => intro a b h; omega
  | succ j ih =>
    intro a b hij ha hb
    have hj := lt_of_getElem?_some hb
    obtain ⟨c, hc⟩ := getElem?_some_of_lt (l := l) (k := j) (by omega)
    have hcb : c.hi < b.lo := by
      have := adjAny_false_at h1 hc hb
      simp [spanClash] at this
      omega
    by_cases h : i = j
    · subst h
      rw [ha] at hc
      injection hc with hc
      subst hc
      exact hcb
    · have := ih a c (by omega) ha hc
      have := hle c (mem_of_getElem?_some hc)
      omega
/-- The class of a number. -/
def classOf (l : List Span) (c : Int) : Int := match l.find? (fun s => decide (s.lo ≤ c) && decide (c ≤ s.hi)) with
  | some s => s.val
  | none => 0
theorem classOf_none {l : List Span} {c : Int} (h : ∀ s ∈ l, ¬ (s.lo ≤ c ∧ c ≤ s.hi)) : classOf l c = 0 := by
  unfold classOf
  rw [List.find?_eq_none.2 (fun s hs => by simpa using h s hs)]
theorem classOf_first {l : List Span} {c : Int} {k : Nat} {s : Span} (h0 : ∀ t ∈ l.take k, ¬ (t.lo ≤ c ∧ c ≤ t.hi)) (hs : l[k]? = some s) (h1 : s.lo ≤ c) (h2 : c ≤ s.hi) : classOf l c = s.val := by
  unfold classOf
  have e : l = l.take k ++ s :: l.drop (k + 1) := by rw [← drop_some hs, List.take_append_drop]
  rw [e, List.find?_append, List.find?_eq_none.2 (fun t ht => by simpa using h0 t ht)]
  simp [h1, h2]
theorem classOf_some {l : List Span} {c : Int} {i : Nat} {s : Span} (hs : SpanSorted l) (hi : l[i]? = some s) (h1 : s.lo ≤ c) (h2 : c ≤ s.hi) : classOf l c = s.val := by
  unfold classOf
  cases hf : l.find? (fun s => decide (s.lo ≤ c) && decide (c ≤ s.hi)) with
  | none =>
    have := List.find?_eq_none.1 hf s (mem_of_getElem?_some hi)
    simp [h1, h2] at this
  | some t =>
    have ht := List.find?_some hf
    simp at ht
    obtain ⟨k, hk, e⟩ := List.getElem_of_mem (List.mem_of_find?_eq_some hf)
    have hk' : l[k]? = some t := by rw [List.getElem?_eq_getElem hk, e]
    rcases Nat.lt_trichotomy k i with h | h | h
    · have := hs.1 k i t s h hk' hi; omega
    · subst h; rw [hi] at hk'; injection hk' with hk'; rw [hk']
    · have := hs.1 i k s t h hi hk'; omega
end Go.Proofs.YtbhglkofaendjaaGreatDoor
namespace Go.Proofs.YtbhglkofaendjaaGreatDoor
open Go

def validB (c : Int) : Bool := decide (0 ≤ c) && decide (c ≤ 1114111)
def cmpI (a b : Int) : Int := if a < b then -1 else if b < a then 1 else 0
def orI (x y : Int) : Int := if x = 0 then y else x
def cmpS (a b : ByteArray) : Int := if Op.bytesLess a.toList b.toList = true then -1 else if (!a.toList == b.toList) = true then 1 else 0
def nameByte (b : UInt8) : Bool := (decide (65 ≤ b.toNat) && decide (b.toNat ≤ 90)) || (decide (97 ≤ b.toNat) && decide (b.toNat ≤ 122)) || (decide (48 ≤ b.toNat) && decide (b.toNat ≤ 57)) || decide (b.toNat = 95)
def isNameB (s : ByteArray) : Bool := decide (s.toList ≠ []) && decide (s.size ≤ 32) && s.data.toList.all nameByte
theorem nameByte_false {b : UInt8} (h : ¬(65 ≤ b.toNat ∧ b.toNat ≤ 90) ∧ ¬(97 ≤ b.toNat ∧ b.toNat ≤ 122) ∧ ¬(48 ≤ b.toNat ∧ b.toNat ≤ 57) ∧ b.toNat ≠ 95) : nameByte b = false := by
  simp [nameByte]; omega
theorem nameByte_true {b : UInt8} (h : (65 ≤ b.toNat ∧ b.toNat ≤ 90) ∨ (97 ≤ b.toNat ∧ b.toNat ≤ 122) ∨ (48 ≤ b.toNat ∧ b.toNat ≤ 57) ∨ b.toNat = 95) : nameByte b = true := by
  simp [nameByte]; omega
theorem isNameB_false {s : ByteArray} {k : Nat} (hk : k < s.size) (h : nameByte s[k] = false) : isNameB s = false := by
  have h2 : s.data.toList.all nameByte = false := by
    rw [List.all_eq_false]
    exact ⟨s[k], by rw [ByteArray.getElem_eq_getElem_data]; simp, by simp [h]⟩
  simp [isNameB, h2]
theorem bytes_take {s : ByteArray} {k : Nat} (hk : k < s.size) : s.data.toList[k]? = some s[k] := by
  rw [ByteArray.getElem_eq_getElem_data]
  simp

def mpBadCode (m : Mp) : Bool := !validB m.src || m.to.any fun c => !validB c
def mpLong (m : Mp) : Bool := decide (64 < m.to.length)
def plainTag (m : Mp) : Bool := m.tag.toList.isEmpty
def mpBadName (m : Mp) : Bool := !plainTag m && !isNameB m.tag
def mapParts (l : List Mp) : Int := if l.any mpBadCode then 1 else if l.any mpLong then 2 else if l.any mpBadName then 6 else 0
def mpCmp (a b : Mp) : Int := orI (cmpI a.src b.src) (cmpS a.tag b.tag)
def mpNotLess (a b : Mp) : Bool := decide (0 ≤ mpCmp a b)
def sameKey (a b : Mp) : Bool := decide (a.src = b.src) && decide (a.tag = b.tag)
def hasDup : List Mp → Bool
  | [] => false
  | m :: r => r.any (sameKey m) || hasDup r
def mapCheck (l : List Mp) : Int := if mapParts l ≠ 0 then mapParts l else if adjAny mpNotLess l = false then 0 else if hasDup l then 5 else 4

theorem hasDup_snoc (m : Mp) : ∀ l : List Mp, hasDup (l ++ [m]) = (hasDup l || l.any fun x => sameKey x m)
  | [] => by simp [hasDup]
  | x :: r => by
    simp only [List.cons_append, hasDup, List.any_append, List.any_cons, List.any_nil, Bool.or_false, hasDup_snoc m r]
    cases r.any (sameKey x) <;> cases sameKey x m <;> cases hasDup r <;> simp
theorem hasDup_of_take {l : List Mp} {k : Nat} (h : hasDup (l.take k) = true) : hasDup l = true := by
  induction l generalizing k with
  | nil => simp [hasDup] at h
  | cons x r ih =>
    cases k with
    | zero => simp [hasDup] at h
    | succ k =>
      simp only [List.take_succ_cons, hasDup, Bool.or_eq_true] at h ⊢
      rcases h with h | h
      · obtain ⟨y, hy, hs⟩ := List.any_eq_true.1 h
        exact .inl (List.any_eq_true.2 ⟨y, List.mem_of_mem_take hy, hs⟩)
      · exact .inr (ih h)

theorem mapParts_code {l : List Mp} {k : Nat} {m : Mp} (hm : l[k]? = some m) (h : mpBadCode m = true) : mapParts l = 1 := by
  unfold mapParts
  rw [if_pos (List.any_eq_true.2 ⟨m, mem_of_getElem?_some hm, h⟩)]
theorem mapParts_long {l : List Mp} {k : Nat} {m : Mp} (h0 : l.any mpBadCode = false) (hm : l[k]? = some m) (h : mpLong m = true) : mapParts l = 2 := by
  unfold mapParts
  rw [h0, if_neg (by decide), if_pos (List.any_eq_true.2 ⟨m, mem_of_getElem?_some hm, h⟩)]
theorem mapParts_name {l : List Mp} {k : Nat} {m : Mp} (h0 : l.any mpBadCode = false) (h1 : l.any mpLong = false) (hm : l[k]? = some m) (h : mpBadName m = true) : mapParts l = 6 := by
  unfold mapParts
  rw [h0, h1, if_neg (by decide), if_neg (by decide), if_pos (List.any_eq_true.2 ⟨m, mem_of_getElem?_some hm, h⟩)]
theorem mapParts_ok {l : List Mp} (h0 : l.any mpBadCode = false) (h1 : l.any mpLong = false) (h2 : l.any mpBadName = false) : mapParts l = 0 := by
  unfold mapParts
  rw [h0, h1, h2]; rfl
end Go.Proofs.YtbhglkofaendjaaGreatDoor
namespace Go.Proofs.YtbhglkofaendjaaGreatDoor

/-- Mappings in order of their code points, at most one for each. -/
def MpSorted (l : List Mp) : Prop := ∀ (i j : Nat) (a b : Mp), i < j → l[i]? = some a → l[j]? = some b → a.src < b.src

def hL (c : Int) : Int := 4352 + (c - 44032) / 28 / 21
def hV (c : Int) : Int := 4449 + (c - 44032) / 28 % 21
def hT (c : Int) : Int := if (c - 44032) % 28 = 0 then 0 else 4520 + (c - 44032) % 28 - 1
def decompH (c : Int) : List Int := if kind c < 4 then [c] else if (c - 44032) % 28 = 0 then [hL c, hV c] else [hL c, hV c, hT c]

/-- The mapping of a number by the data alone. -/
def mapOf (l : List Mp) (c : Int) (compat : Bool) : Option (List Int) := match l.find? (fun m => decide (m.src = c)) with
  | some m => if plainTag m || compat then some m.to else none
  | none => none
/-- The mapping of a number. -/
def onceOf (l : List Mp) (c : Int) (compat : Bool) : Option (List Int) := if 4 ≤ kind c then some (decompH c) else mapOf l c compat

theorem mapOf_none {l : List Mp} {c : Int} {compat : Bool} (h : ∀ m ∈ l, ¬ m.src = c) : mapOf l c compat = none := by
  unfold mapOf
  rw [List.find?_eq_none.2 (fun s hs => by simpa using h s hs)]
theorem find_src {l : List Mp} {c : Int} {i : Nat} {m : Mp} (hs : MpSorted l) (hi : l[i]? = some m) (hc : m.src = c) : l.find? (fun m => decide (m.src = c)) = some m := by
  cases hf : l.find? (fun m => decide (m.src = c)) with
  | none =>
    have := List.find?_eq_none.1 hf m (mem_of_getElem?_some hi)
    simp [hc] at this
  | some t =>
    have ht := List.find?_some hf
    simp at ht
    obtain ⟨k, hk, e⟩ := List.getElem_of_mem (List.mem_of_find?_eq_some hf)
    have hk' : l[k]? = some t := by rw [List.getElem?_eq_getElem hk, e]
    rcases Nat.lt_trichotomy k i with h | h | h
    · have := hs k i t m h hk' hi; omega
    · subst h; rw [hi] at hk'; injection hk' with hk'; rw [hk']
    · have := hs i k m t h hi hk'; omega
theorem mapOf_some {l : List Mp} {c : Int} {compat : Bool} {i : Nat} {m : Mp} (hs : MpSorted l) (hi : l[i]? = some m) (hc : m.src = c) : mapOf l c compat = if plainTag m || compat then some m.to else none := by
  unfold mapOf
  rw [find_src hs hi hc]
theorem decompH_length (c : Int) : (decompH c).length ≤ 3 ∧ 1 ≤ (decompH c).length := by
  unfold decompH
  split
  · simp
  · split <;> simp
theorem mapOf_mem {l : List Mp} {c : Int} {compat : Bool} {xs : List Int} (h : mapOf l c compat = some xs) : ∃ m ∈ l, m.src = c ∧ m.to = xs ∧ (plainTag m || compat) = true := by
  unfold mapOf at h
  cases hf : l.find? (fun m => decide (m.src = c)) with
  | none => rw [hf] at h; cases h
  | some m =>
    rw [hf] at h
    simp only at h
    have h1 := List.find?_some hf
    have h2 := List.mem_of_find?_eq_some hf
    by_cases hp : (plainTag m || compat) = true
    · rw [if_pos hp] at h
      exact ⟨m, h2, by simpa using h1, by injection h, hp⟩
    · rw [if_neg hp] at h; cases h
theorem onceOf_length {l : List Mp} {c : Int} {compat : Bool} {xs : List Int} (hl : ∀ m ∈ l, m.to.length ≤ 1000) (h : onceOf l c compat = some xs) : xs.length ≤ 1000 := by
  unfold onceOf at h
  by_cases hk : 4 ≤ kind c
  · rw [if_pos hk] at h
    injection h with h
    have := decompH_length c
    rw [← h]; omega
  · rw [if_neg hk] at h
    obtain ⟨m, hm, _, e, _⟩ := mapOf_mem h
    rw [← e]; exact hl m hm
end Go.Proofs.YtbhglkofaendjaaGreatDoor
namespace Go.Proofs.YtbhglkofaendjaaGreatDoor

def mpBig (m : Mp) : Bool := decide (65 < m.to.length) || decide (40 < m.tag.size)
def smallMaps (l : List Mp) : Bool := !(l.take 30).any mpBig && decide (l.length ≤ 20)
def smallB (n : Nrm) : Bool := decide (n.classes.length ≤ 16) && smallMaps n.decomp && decide (n.excl.length ≤ 12)
theorem smallB_parts {n : Nrm} (h : smallB n = true) : n.classes.length ≤ 16 ∧ n.decomp.length ≤ 20 ∧ n.excl.length ≤ 12 ∧ ∀ m ∈ n.decomp, m.to.length ≤ 65 ∧ m.tag.size ≤ 40 := by
  simp only [smallB, smallMaps, Bool.and_eq_true, decide_eq_true_eq, Bool.not_eq_true'] at h
  obtain ⟨⟨h1, h2, h3⟩, h4⟩ := h
  refine ⟨h1, h3, h4, fun m hm => ?_⟩
  rw [List.take_of_length_le (by omega)] at h2
  have := List.any_eq_false.1 h2 m hm
  simp [mpBig] at this
  exact this

def cmpL : List Int → List Int → Int
  | [], [] => 0
  | [], _ :: _ => -1
  | _ :: _, [] => 1
  | x :: a, y :: b => if x < y then -1 else if y < x then 1 else cmpL a b
theorem cmpL_zero : ∀ a b : List Int, (cmpL a b == 0) = decide (a = b)
  | [], [] => by simp [cmpL]
  | [], y :: b => by simp [cmpL]
  | x :: a, [] => by simp [cmpL]
  | x :: a, y :: b => by
    unfold cmpL
    by_cases h1 : x < y
    · have : ¬ x = y := by omega
      simp [h1, this]
    · by_cases h2 : y < x
      · have : ¬ x = y := by omega
        simp [h1, h2, this]
      · have : x = y := by omega
        subst this
        simp only [Int.lt_irrefl, if_false, List.cons.injEq, true_and]
        exact cmpL_zero a b

def fits (c : Int) (compat : Bool) (m : Mp) : Bool := decide (m.src = c) && (compat || plainTag m)
def findM (l : List Mp) (c : Int) (compat : Bool) : Option Nat := l.findIdx? (fits c compat)
def fI : Option Nat → Int
  | none => -1
  | some i => i
theorem findM_hit {l : List Mp} {c : Int} {compat : Bool} {k : Nat} {m : Mp} (h0 : (l.take k).any (fits c compat) = false) (hm : l[k]? = some m) (h : fits c compat m = true) : findM l c compat = some k := by
  unfold findM
  rw [List.findIdx?_eq_some_iff_getElem]
  have hk := lt_of_getElem?_some hm
  refine ⟨hk, ?_, fun j hj => ?_⟩
  · rw [List.getElem?_eq_getElem hk] at hm
    injection hm with hm
    rw [hm]; exact h
  · have := any_false_at (k := j) (a := l[j]) h0 (by rw [List.getElem?_take, if_pos hj, List.getElem?_eq_getElem (by omega)])
    simp [this]
theorem findM_miss {l : List Mp} {c : Int} {compat : Bool} (h0 : l.any (fits c compat) = false) : findM l c compat = none := by
  unfold findM
  rw [List.findIdx?_eq_none_iff]
  intro x hx
  have := List.any_eq_false.1 h0 x hx
  simpa using this
end Go.Proofs.YtbhglkofaendjaaGreatDoor
namespace Go.Proofs.YtbhglkofaendjaaGreatDoor

def rngCmp (a b : Rng) : Int := orI (cmpI a.lo b.lo) (cmpI a.hi b.hi)
def rngLt (a b : Rng) : Bool := decide (rngCmp a b < 0)
def rngLe (a b : Rng) : Bool := !rngLt b a
def sortR (l : List Rng) : List Rng := l.mergeSort rngLe
theorem rngLt_iff (a b : Rng) : rngLt a b = true ↔ a.lo < b.lo ∨ (a.lo = b.lo ∧ a.hi < b.hi) := by
  unfold rngLt rngCmp orI cmpI
  rw [decide_eq_true_iff]
  by_cases h1 : a.lo < b.lo
  · simp [h1]
  · by_cases h2 : b.lo < a.lo
    · simp [h1, h2]; omega
    · by_cases h3 : a.hi < b.hi
      · simp [h1, h2, h3]; omega
      · by_cases h4 : b.hi < a.hi
        · simp [h1, h2, h3, h4]
        · simp [h1, h2, h3, h4]
theorem rngLt_false (a b : Rng) : rngLt a b = false ↔ ¬ (a.lo < b.lo ∨ (a.lo = b.lo ∧ a.hi < b.hi)) := by
  rw [← rngLt_iff]; simp
def clip (r : Rng) : Rng := ⟨max r.lo 0, min r.hi 1114111⟩
def clipped (l : List Rng) : List Rng := (l.map clip).filter fun r => decide (r.lo ≤ r.hi)
/-- The last range of what is made so far takes in r, or r is added. -/
def addR (out : List Rng) (r : Rng) : List Rng := match out.getLast? with
  | some q => if r.lo ≤ q.hi + 1 then out.dropLast ++ [⟨q.lo, max q.hi r.hi⟩] else out ++ [r]
  | none => [r]
def makeR (l : List Rng) : List Rng := (sortR (clipped l)).foldl addR []
theorem addR_length (out : List Rng) (r : Rng) : (addR out r).length ≤ out.length + 1 := by
  unfold addR
  cases h : out.getLast? with
  | none => simp
  | some q =>
    simp only
    split
    · have hne : out ≠ [] := by rintro rfl; simp at h
      have := List.length_pos_iff.2 hne
      simp only [List.length_append, List.length_dropLast, List.length_singleton]; omega
    · simp
theorem foldl_addR_length : ∀ (l out : List Rng), (l.foldl addR out).length ≤ out.length + l.length
  | [], out => by simp
  | r :: l, out => by
    have h1 := foldl_addR_length l (addR out r)
    have h2 := addR_length out r
    simp only [List.foldl_cons, List.length_cons]
    omega
theorem makeR_length (l : List Rng) : (makeR l).length ≤ l.length := by
  unfold makeR
  have h1 := foldl_addR_length (sortR (clipped l)) []
  have h2 : (sortR (clipped l)).length = (clipped l).length := List.length_mergeSort _
  have h3 : (clipped l).length ≤ l.length := by
    unfold clipped
    exact Nat.le_trans (List.length_filter_le _ _) (by simp)
  simp at h1
  omega
end Go.Proofs.YtbhglkofaendjaaGreatDoor
namespace Go.Proofs.YtbhglkofaendjaaGreatDoor

def inR (c : Int) (r : Rng) : Bool := validB c && decide (r.lo ≤ c) && decide (c ≤ r.hi)
def hasR (l : List Rng) (c : Int) : Bool := l.any (inR c)
def placeL (n : Int) : List Int → List Int
  | [] => [n]
  | x :: r => if n ≤ x then (if n < x then n :: x :: r else x :: r) else x :: placeL n r
def cutStep (l : List Int) (r : Rng) : List Int :=
  let l1 := if validB r.lo then placeL r.lo l else l
  if 0 ≤ r.hi ∧ r.hi < 1114111 then placeL (r.hi + 1) l1 else l1
def cutsL (l : List Int) (rs : List Rng) : List Int := placeL 0 (rs.foldl cutStep l)
def setLast (out : List Rng) (hi : Int) : List Rng := match out.getLast? with
  | some q => out.dropLast ++ [⟨q.lo, hi⟩]
  | none => out
def nextHi : List Int → Int
  | [] => 1114111
  | d :: _ => d - 1
def combL (keep : Int → Bool) : List Int → List Rng → Bool → List Rng
  | [], out, _ => out
  | c :: r, out, op => combL keep r (if keep c && op then setLast out (nextHi r) else if keep c then out ++ [⟨c, nextHi r⟩] else out) (keep c)
def combineR (a b : List Rng) (keep : Bool → Bool → Bool) : List Rng := combL (fun c => keep (hasR a c) (hasR b c)) (cutsL (cutsL [] a) b) [] false
def refMake (l : List Rng) : List Rng := combineR l [] (fun x y => x || y)

theorem placeL_done {n : Int} : ∀ {p : List Int} (x : Int), p.any (fun y => decide (n ≤ y)) = true → placeL n (p ++ [x]) = placeL n p ++ [x]
  | [], x, h => by simp at h
  | y :: p, x, h => by
    simp only [List.cons_append, placeL]
    by_cases hy : n ≤ y
    · simp only [hy, if_true]
      split <;> simp
    · simp only [hy, if_false, List.cons_append, List.cons.injEq, true_and]
      exact placeL_done x (by simpa [hy] using h)
theorem placeL_open {n : Int} : ∀ {p : List Int} (q : List Int), p.any (fun y => decide (n ≤ y)) = false → placeL n (p ++ q) = p ++ placeL n q
  | [], q, _ => by simp
  | y :: p, q, h => by
    simp only [List.any_cons, Bool.or_eq_false_iff, decide_eq_false_iff_not] at h
    simp only [List.cons_append, placeL, h.1, if_false, List.cons.injEq, true_and]
    exact placeL_open q h.2
theorem placeL_length (n : Int) : ∀ l : List Int, (placeL n l).length ≤ l.length + 1
  | [] => by simp [placeL]
  | x :: r => by
    unfold placeL
    split
    · split <;> simp
    · have := placeL_length n r; simp; omega
theorem cutStep_length (l : List Int) (r : Rng) : (cutStep l r).length ≤ l.length + 2 := by
  unfold cutStep
  have h1 : (if validB r.lo then placeL r.lo l else l).length ≤ l.length + 1 := by
    split
    · exact placeL_length _ _
    · omega
  simp only
  split
  · have := placeL_length (r.hi + 1) (if validB r.lo then placeL r.lo l else l); omega
  · omega
theorem foldl_cutStep_length : ∀ (rs : List Rng) (l : List Int), (rs.foldl cutStep l).length ≤ l.length + 2 * rs.length
  | [], l => by simp
  | r :: rs, l => by
    have h1 := foldl_cutStep_length rs (cutStep l r)
    have h2 := cutStep_length l r
    simp only [List.foldl_cons, List.length_cons]; omega
theorem cutsL_length (l : List Int) (rs : List Rng) : (cutsL l rs).length ≤ l.length + 2 * rs.length + 1 := by
  unfold cutsL
  have h1 := placeL_length 0 (rs.foldl cutStep l)
  have h2 := foldl_cutStep_length rs l
  omega
theorem mem_placeL {n x : Int} : ∀ {l : List Int}, x ∈ placeL n l ↔ x = n ∨ x ∈ l
  | [] => by simp [placeL]
  | y :: r => by
    unfold placeL
    by_cases h1 : n ≤ y
    · rw [if_pos h1]
      by_cases h2 : n < y
      · rw [if_pos h2]; simp
      · rw [if_neg h2]
        have : n = y := by omega
        subst this
        simp
    · rw [if_neg h1, List.mem_cons, mem_placeL, List.mem_cons]
      constructor
      · rintro (h | h | h)
        · exact .inr (.inl h)
        · exact .inl h
        · exact .inr (.inr h)
      · rintro (h | h | h)
        · exact .inr (.inl h)
        · exact .inl h
        · exact .inr (.inr h)
/-- All cuts are code points. -/
theorem cuts_valid : ∀ (rs : List Rng) (l : List Int), (∀ x ∈ l, 0 ≤ x ∧ x ≤ 1114111) → ∀ x ∈ rs.foldl cutStep l, 0 ≤ x ∧ x ≤ 1114111
  | [], l, h => h
  | r :: rs, l, h => by
    refine cuts_valid rs (cutStep l r) (fun x hx => ?_)
    have h1 : ∀ x ∈ (if validB r.lo then placeL r.lo l else l), 0 ≤ x ∧ x ≤ 1114111 := fun x hx => by
      split at hx
      · rename_i hv
        rcases mem_placeL.1 hx with rfl | hx
        · simpa [validB] using hv
        · exact h x hx
      · exact h x hx
    unfold cutStep at hx
    simp only at hx
    split at hx
    · rename_i hh
      rcases mem_placeL.1 hx with rfl | hx
      · omega
      · exact h1 x hx
    · exact h1 x hx
theorem cutsL_valid {l : List Int} {rs : List Rng} (h : ∀ x ∈ l, 0 ≤ x ∧ x ≤ 1114111) : ∀ x ∈ cutsL l rs, 0 ≤ x ∧ x ≤ 1114111 := fun x hx => by
  unfold cutsL at hx
  rcases mem_placeL.1 hx with rfl | hx
  · omega
  · exact cuts_valid rs l h x hx
end Go.Proofs.YtbhglkofaendjaaGreatDoor
namespace Go.Proofs.YtbhglkofaendjaaGreatDoor

def runsFrom (cls : Int → Int) : Nat → Option Nat → List Int → List Rng
  | _, none, [] => []
  | i, some s, [] => [⟨s, i⟩]
  | i, none, c :: r => if cls c = 0 then runsFrom cls (i + 1) none r else runsFrom cls (i + 1) (some i) r
  | i, some s, c :: r => if cls c = 0 then ⟨s, i⟩ :: runsFrom cls (i + 1) none r else runsFrom cls (i + 1) (some s) r
def runsOf (l : List Span) (text : List Int) : List Rng := runsFrom (classOf l) 0 none text

theorem runsFrom_length (cls : Int → Int) : ∀ (t : List Int) (i : Nat) (st : Option Nat), (runsFrom cls i st t).length ≤ t.length + (if st.isSome then 1 else 0)
  | [], i, none => by simp [runsFrom]
  | [], i, some s => by simp [runsFrom]
  | c :: r, i, none => by
    unfold runsFrom
    split
    · have := runsFrom_length cls r (i + 1) none; simp at this ⊢; omega
    · have := runsFrom_length cls r (i + 1) (some i); simp at this ⊢; omega
  | c :: r, i, some s => by
    unfold runsFrom
    split
    · have := runsFrom_length cls r (i + 1) none; simp at this ⊢; omega
    · have := runsFrom_length cls r (i + 1) (some s); simp at this ⊢; omega
theorem runsOf_length (l : List Span) (t : List Int) : (runsOf l t).length ≤ t.length := by
  have := runsFrom_length (classOf l) t 0 none
  simpa [runsOf] using this
end Go.Proofs.YtbhglkofaendjaaGreatDoor
namespace Go.Proofs.YtbhglkofaendjaaGreatDoor

section
variable {α β : Type} [DecidableEq α]
def getKV : List (α × β) → α → Option β
  | [], _ => none
  | p :: r, k => if p.1 = k then some p.2 else getKV r k
def findKV : List (α × β) → α → Nat → Option (Nat × β)
  | [], _, _ => none
  | p :: r, k, i => if p.1 = k then some (i, p.2) else findKV r k (i + 1)
def setKV : List (α × β) → α → β → List (α × β)
  | [], k, v => [(k, v)]
  | p :: r, k, v => if p.1 = k then (k, v) :: r else p :: setKV r k v
theorem findKV_get (k : α) : ∀ (M : List (α × β)) (i : Nat), (findKV M k i).map (·.2) = getKV M k
  | [], _ => rfl
  | p :: r, i => by
    unfold findKV getKV
    by_cases h : p.1 = k
    · simp [h]
    · simp only [h, if_false]; exact findKV_get k r (i + 1)
theorem getKV_set (k k' : α) (v : β) : ∀ M : List (α × β), getKV (setKV M k v) k' = if k = k' then some v else getKV M k'
  | [] => by simp [setKV, getKV]
  | p :: r => by
    unfold setKV
    by_cases h : p.1 = k
    · simp only [h, if_true, getKV]
      by_cases h2 : k = k' <;> simp [h2]
    · simp only [h, if_false, getKV]
      rw [getKV_set k k' v r]
      by_cases h2 : k = k'
      · subst h2; simp [h]
      · simp [h2]

theorem findKV_none_set (k : α) (v : β) : ∀ (M : List (α × β)) (i : Nat), findKV M k i = none → setKV M k v = M ++ [(k, v)]
  | [], _, _ => rfl
  | p :: r, i, h => by
    unfold findKV at h
    by_cases hp : p.1 = k
    · simp [hp] at h
    · simp only [hp, if_false] at h
      simp only [setKV, hp, if_false, List.cons_append, findKV_none_set k v r (i + 1) h]
theorem findKV_of_get {k : α} : ∀ {M : List (α × β)} {i : Nat}, getKV M k = none → findKV M k i = none
  | [], _, _ => rfl
  | p :: r, i, h => by
    unfold getKV at h
    unfold findKV
    by_cases hp : p.1 = k
    · simp [hp] at h
    · simp only [hp, if_false] at h ⊢
      exact findKV_of_get h
theorem getKV_mapV {γ : Type} (f : β → γ) (k : α) : ∀ M : List (α × β), getKV (M.map fun p => (p.1, f p.2)) k = (getKV M k).map f
  | [] => rfl
  | p :: r => by
    simp only [List.map_cons, getKV]
    by_cases h : p.1 = k
    · simp [h]
    · simp only [h, if_false]; exact getKV_mapV f k r
theorem setKV_mapV {γ : Type} (f : β → γ) (k : α) (v : β) : ∀ M : List (α × β), setKV (M.map fun p => (p.1, f p.2)) k (f v) = (setKV M k v).map fun p => (p.1, f p.2)
  | [] => rfl
  | p :: r => by
    simp only [List.map_cons, setKV]
    by_cases h : p.1 = k
    · simp [h]
    · simp only [h, if_false, List.map_cons, setKV_mapV f k v r]
theorem mem_setKV {k : α} {v : β} : ∀ {M : List (α × β)} {q : α × β}, q ∈ setKV M k v → q = (k, v) ∨ q ∈ M
  | [], q, h => by simp [setKV] at h; exact .inl h
  | p :: r, q, h => by
    unfold setKV at h
    by_cases hp : p.1 = k
    · simp only [hp, if_true, List.mem_cons] at h
      rcases h with h | h
      · exact .inl h
      · exact .inr (List.mem_cons_of_mem _ h)
    · simp only [hp, if_false, List.mem_cons] at h
      rcases h with h | h
      · exact .inr (by rw [h]; exact List.mem_cons_self ..)
      · rcases mem_setKV h with h | h
        · exact .inl h
        · exact .inr (List.mem_cons_of_mem _ h)
theorem mem_of_getKV {k : α} {v : β} : ∀ {M : List (α × β)}, getKV M k = some v → (k, v) ∈ M
  | [], h => by simp [getKV] at h
  | p :: r, h => by
    unfold getKV at h
    by_cases hp : p.1 = k
    · simp only [hp, if_true, Option.some.injEq] at h
      rw [← h, ← hp]; exact List.mem_cons_self ..
    · simp only [hp, if_false] at h
      exact List.mem_cons_of_mem _ (mem_of_getKV h)
end
end Go.Proofs.YtbhglkofaendjaaGreatDoor
namespace Go.Proofs.YtbhglkofaendjaaGreatDoor

structure MSt where
  M : List (Int × Int)
  cyc : Bool
  long : Bool
def mfold (g : Int → MSt → Option (Int × MSt)) : List Int → Int → MSt → Option (Int × MSt)
  | [], s, st => some (s, st)
  | e :: r, s, st => match g e st with
    | none => none
    | some q => mfold g r (min (s + q.1) 65) q.2
def msize (l : List Mp) : Nat → Int → MSt → Option (Int × MSt)
  | 0, _, _ => none
  | f + 1, c, st => match onceOf l c true with
    | none => some (1, st)
    | some [] => some (1, st)
    | some (x :: r) => match getKV st.M c with
      | some k => some (max k 1, { st with cyc := st.cyc || (k == -1) })
      | none => match mfold (msize l f) (x :: r) 0 { st with M := setKV st.M c (-1) } with
        | none => none
        | some q => some (q.1, { M := setKV q.2.M c q.1, cyc := q.2.cyc, long := q.2.long || decide (64 < q.1) })

def MBound (st : MSt) : Prop := ∀ p ∈ st.M, -1 ≤ p.2 ∧ p.2 ≤ 65
theorem mfold_bound {g : Int → MSt → Option (Int × MSt)} (hg : ∀ c st v st', MBound st → g c st = some (v, st') → 0 ≤ v ∧ v ≤ 65 ∧ MBound st') :
    ∀ (l : List Int) (s : Int) (st : MSt) (v : Int) (st' : MSt), 0 ≤ s → s ≤ 65 → MBound st → mfold g l s st = some (v, st') → 0 ≤ v ∧ v ≤ 65 ∧ MBound st'
  | [], s, st, v, st', h0, h1, hb, h => by
    simp only [mfold, Option.some.injEq, Prod.mk.injEq] at h
    obtain ⟨rfl, rfl⟩ := h
    exact ⟨h0, h1, hb⟩
  | e :: r, s, st, v, st', h0, h1, hb, h => by
    unfold mfold at h
    cases hq : g e st with
    | none => rw [hq] at h; cases h
    | some q =>
      rw [hq] at h
      obtain ⟨a, b, c⟩ := hg e st q.1 q.2 hb hq
      exact mfold_bound hg r _ _ v st' (by omega) (by omega) c h
theorem msize_bound (l : List Mp) : ∀ (f : Nat) (c : Int) (st : MSt) (v : Int) (st' : MSt), MBound st → msize l f c st = some (v, st') → 0 ≤ v ∧ v ≤ 65 ∧ MBound st'
  | 0, c, st, v, st', _, h => by simp [msize] at h
  | f + 1, c, st, v, st', hb, h => by
    unfold msize at h
    cases ho : onceOf l c true with
    | none =>
      simp only [ho, Option.some.injEq, Prod.mk.injEq] at h
      obtain ⟨rfl, rfl⟩ := h
      exact ⟨by omega, by omega, hb⟩
    | some to =>
      cases to with
      | nil =>
        simp only [ho, Option.some.injEq, Prod.mk.injEq] at h
        obtain ⟨rfl, rfl⟩ := h
        exact ⟨by omega, by omega, hb⟩
      | cons x r =>
        simp only [ho] at h
        cases hk : getKV st.M c with
        | some k =>
          simp only [hk, Option.some.injEq, Prod.mk.injEq] at h
          obtain ⟨rfl, rfl⟩ := h
          have := hb _ (mem_of_getKV hk)
          simp only at this
          exact ⟨by omega, by omega, hb⟩
        | none =>
          simp only [hk] at h
          cases hf : mfold (msize l f) (x :: r) 0 { st with M := setKV st.M c (-1) } with
          | none => rw [hf] at h; cases h
          | some q =>
            rw [hf] at h
            simp only [Option.some.injEq, Prod.mk.injEq] at h
            obtain ⟨rfl, rfl⟩ := h
            obtain ⟨a, b, d⟩ := mfold_bound (msize_bound l f) _ _ _ q.1 q.2 (by omega) (by omega) (fun p hp => by
              rcases mem_setKV hp with rfl | hp
              · simp
              · exact hb p hp) hf
            refine ⟨a, b, fun p hp => ?_⟩
            rcases mem_setKV hp with rfl | hp
            · exact ⟨by omega, b⟩
            · exact d p hp
def mall (l : List Mp) (f : Nat) : List Mp → MSt → Option MSt
  | [], st => some st
  | m :: r, st => match msize l f m.src st with
    | none => none
    | some q => mall l f r q.2
end Go.Proofs.YtbhglkofaendjaaGreatDoor
namespace Go.Proofs.YtbhglkofaendjaaGreatDoor

def usableSpans (l : List Span) : List Span := if ordCheck l = 0 then l else []
def sameSrc (a b : Mp) : Bool := decide (b.src = a.src)
def kindBad (m : Mp) : Bool := plainTag m && decide (m.to.length ≠ 1) && decide (m.to.length ≠ 2)
def srcHangul (m : Mp) : Bool := decide (kind m.src ≠ 0)
def taggedOf (l : List Mp) : List Int := (l.filter fun m => !plainTag m).map (·.src)
def measOf (l : List Mp) : MSt := (mall l (l.length + 2) l ⟨[], false, false⟩).getD ⟨[], true, true⟩
def decTail (n : Nrm) : Int := if (measOf n.decomp).cyc then 12 else if (measOf n.decomp).long then 13 else 0
def decMid (n : Nrm) : Int :=
  if adjAny sameSrc n.decomp then 5 else if n.decomp.any kindBad then 8 else if n.decomp.any srcHangul then 11
  else if (runsOf (usableSpans n.classes) (taggedOf n.decomp)).length ≠ 0 then 11 else decTail n
def decCheck (n : Nrm) : Int :=
  if ordCheck n.classes ≠ 0 then ordCheck n.classes else if mapCheck n.decomp ≠ 0 then mapCheck n.decomp
  else if makeR n.excl = n.excl then decMid n else 11

theorem adjAny_false_pair {α : Type} {p : α → α → Bool} : ∀ {l : List α}, adjAny p l = false → ∀ k a b, l[k]? = some a → l[k + 1]? = some b → p a b = false :=
  fun h _ _ _ ha hb => adjAny_false_at h ha hb

theorem cmpI_cases (a b : Int) : (cmpI a b = -1 ∧ a < b) ∨ (cmpI a b = 1 ∧ b < a) ∨ (cmpI a b = 0 ∧ a = b) := by
  unfold cmpI
  by_cases h1 : a < b
  · rw [if_pos h1]; exact .inl ⟨rfl, h1⟩
  · by_cases h2 : b < a
    · rw [if_neg h1, if_pos h2]; exact .inr (.inl ⟨rfl, h2⟩)
    · rw [if_neg h1, if_neg h2]; exact .inr (.inr ⟨rfl, by omega⟩)
theorem mpNotLess_src {a b : Mp} (h : mpNotLess a b = false) : a.src ≤ b.src := by
  have h := of_decide_eq_false h
  unfold mpCmp orI at h
  rcases cmpI_cases a.src b.src with ⟨e, hh⟩ | ⟨e, hh⟩ | ⟨e, hh⟩
  · omega
  · rw [e] at h; simp at h
  · omega
theorem mpSorted_of {l : List Mp} (h1 : adjAny mpNotLess l = false) (h2 : adjAny sameSrc l = false) : MpSorted l := by
  intro i j
  induction j with
  | zero => intro a b h; omega
  | succ j ih =>
    intro a b hij ha hb
    have hj := lt_of_getElem?_some hb
    obtain ⟨c, hc⟩ := getElem?_some_of_lt (l := l) (k := j) (by omega)
    have h3 := mpNotLess_src (adjAny_false_at h1 hc hb)
    have h4 := of_decide_eq_false (adjAny_false_at h2 hc hb)
    by_cases h : i = j
    · subst h
      rw [ha] at hc
      injection hc with hc
      subst hc
      omega
    · have := ih a c (by omega) ha hc
      omega
theorem mapCheck_zero {l : List Mp} (h : mapCheck l = 0) : mapParts l = 0 ∧ adjAny mpNotLess l = false := by
  unfold mapCheck at h
  by_cases h0 : mapParts l ≠ 0
  · rw [if_pos h0] at h; exact absurd h h0
  · rw [if_neg h0] at h
    refine ⟨by simpa using h0, ?_⟩
    cases ha : adjAny mpNotLess l
    · rfl
    · rw [ha, if_neg (by decide)] at h
      split at h <;> omega
theorem mapParts_zero {l : List Mp} (h : mapParts l = 0) : l.any mpBadCode = false ∧ l.any mpLong = false ∧ l.any mpBadName = false := by
  unfold mapParts at h
  cases h0 : l.any mpBadCode <;> cases h1 : l.any mpLong <;> cases h2 : l.any mpBadName <;> simp [h0, h1, h2] at h
  exact ⟨rfl, rfl, rfl⟩

/-- How many mappings are not yet measured. -/
def todo (l : List Mp) (M : List (Int × Int)) : Nat := (l.filter fun m => (getKV M m.src).isNone).length
theorem todo_mono {l : List Mp} {M M' : List (Int × Int)} (h : ∀ k, (getKV M k).isSome → (getKV M' k).isSome) : todo l M' ≤ todo l M := by
  unfold todo
  induction l with
  | nil => simp
  | cons m r ih =>
    simp only [List.filter_cons]
    cases h1 : getKV M m.src with
    | none => cases h2 : getKV M' m.src <;> simp [] <;> omega
    | some v =>
      have := h m.src (by rw [h1]; rfl)
      cases h2 : getKV M' m.src with
      | none => rw [h2] at this; cases this
      | some v' => simp []; exact ih
theorem todo_set {l : List Mp} {M : List (Int × Int)} {m : Mp} (hm : m ∈ l) (hn : getKV M m.src = none) (v : Int) : todo l (setKV M m.src v) + 1 ≤ todo l M := by
  have hmono : ∀ r : List Mp, todo r (setKV M m.src v) ≤ todo r M := fun r => todo_mono (fun k hk => by
    rw [getKV_set]; split <;> simp [hk])
  unfold todo at hmono ⊢
  induction l with
  | nil => simp at hm
  | cons x r ih =>
    simp only [List.filter_cons]
    rcases List.mem_cons.1 hm with rfl | hm'
    · rw [getKV_set, if_pos rfl, hn]
      simp
      exact hmono r
    · have := ih hm'
      rw [getKV_set]
      by_cases hx : m.src = x.src
      · rw [if_pos hx, ← hx, hn]; simp; have := hmono r; omega
      · rw [if_neg hx]
        cases getKV M x.src <;> simp <;> omega

theorem mfold_total {g : Int → MSt → Option (Int × MSt)} {P : MSt → Prop} (hg : ∀ (e : Int) (st : MSt), P st → ∃ q, g e st = some q ∧ P q.2) : ∀ (l : List Int) (s : Int) (st : MSt), P st → ∃ q, mfold g l s st = some q ∧ P q.2
  | [], s, st, h => ⟨(s, st), rfl, h⟩
  | e :: r, s, st, h => by
    obtain ⟨q, hq, hp⟩ := hg e st h
    obtain ⟨q', hq', hp'⟩ := mfold_total hg r (min (s + q.1) 65) q.2 hp
    exact ⟨q', by rw [mfold, hq]; exact hq', hp'⟩

theorem kind_parts {c : Int} (h : 4 ≤ kind c) : ∀ e ∈ decompH c, 0 < kind e ∧ kind e < 4 := by
  have hr : 44032 ≤ c ∧ c < 55204 := by
    unfold kind at h
    by_cases h1 : 4352 ≤ c ∧ c < 4371
    · rw [if_pos h1] at h; omega
    · by_cases h2 : 4449 ≤ c ∧ c < 4470
      · rw [if_neg h1, if_pos h2] at h; omega
      · by_cases h3 : 4520 ≤ c ∧ c < 4547
        · rw [if_neg h1, if_neg h2, if_pos h3] at h; omega
        · by_cases h4 : c < 44032 ∨ 55204 ≤ c
          · rw [if_neg h1, if_neg h2, if_neg h3, if_pos h4] at h; omega
          · omega
  have kL : kind (hL c) = 1 := by
    unfold kind; rw [if_pos (by unfold hL; omega)]
  have kV : kind (hV c) = 2 := by
    unfold kind; rw [if_neg (by unfold hV; omega), if_pos (by unfold hV; omega)]
  intro e he
  unfold decompH at he
  rw [if_neg (by omega)] at he
  by_cases ht : (c - 44032) % 28 = 0
  · rw [if_pos ht] at he
    simp only [List.mem_cons, List.not_mem_nil, or_false] at he
    rcases he with rfl | rfl <;> omega
  · rw [if_neg ht] at he
    simp only [List.mem_cons, List.not_mem_nil, or_false] at he
    rcases he with rfl | rfl | rfl
    · omega
    · omega
    · have : kind (hT c) = 3 := by
        unfold kind
        have e : hT c = 4520 + (c - 44032) % 28 - 1 := if_neg ht
        rw [e, if_neg (by omega), if_neg (by omega), if_pos (by omega)]
      omega
theorem onceOf_jamo {l : List Mp} {e : Int} {compat : Bool} (hl : l.any srcHangul = false) (h : 0 < kind e ∧ kind e < 4) : onceOf l e compat = none := by
  unfold onceOf
  rw [if_neg (by omega)]
  refine mapOf_none fun m hm hs => ?_
  have := List.any_eq_false.1 hl m hm
  simp [srcHangul, hs] at this
  omega

theorem msize_total (l : List Mp) (hl : l.any srcHangul = false) : ∀ (f : Nat) (c : Int) (st : MSt), todo l st.M + 2 ≤ f → ∃ q, msize l f c st = some q ∧ ∀ k, (getKV st.M k).isSome → (getKV q.2.M k).isSome
  | 0, c, st, h => by omega
  | f + 1, c, st, h => by
    unfold msize
    cases ho : onceOf l c true with
    | none => exact ⟨_, rfl, fun k hk => hk⟩
    | some to =>
      cases to with
      | nil => exact ⟨_, rfl, fun k hk => hk⟩
      | cons x r =>
        simp only
        cases hk : getKV st.M c with
        | some v => exact ⟨_, rfl, fun k hk => hk⟩
        | none =>
          simp only
          have hfold : ∃ q, mfold (msize l f) (x :: r) 0 { st with M := setKV st.M c (-1) } = some q ∧ ∀ k, (getKV (setKV st.M c (-1)) k).isSome → (getKV q.2.M k).isSome := by
            by_cases hc : 4 ≤ kind c
            · have hx : x :: r = decompH c := by
                unfold onceOf at ho
                rw [if_pos hc] at ho
                injection ho with ho
                exact ho.symm
              have hall : ∀ e ∈ x :: r, onceOf l e true = none := fun e he => onceOf_jamo hl (kind_parts hc e (by rw [← hx]; exact he))
              clear hx ho
              obtain ⟨f', rfl⟩ : ∃ f', f = f' + 1 := ⟨f - 1, by omega⟩
              have : ∀ (es : List Int) (s : Int) (st1 : MSt), (∀ e ∈ es, onceOf l e true = none) → ∃ q, mfold (msize l (f' + 1)) es s st1 = some q ∧ q.2 = st1 := by
                intro es
                induction es with
                | nil => exact fun s st1 _ => ⟨_, rfl, rfl⟩
                | cons e es ih =>
                  intro s st1 h1
                  have he : msize l (f' + 1) e st1 = some (1, st1) := by
                    unfold msize
                    rw [h1 e (List.mem_cons_self ..)]
                  obtain ⟨q, hq, e2⟩ := ih (min (s + 1) 65) st1 (fun e' h' => h1 e' (List.mem_cons_of_mem _ h'))
                  exact ⟨q, by rw [mfold, he]; exact hq, e2⟩
              obtain ⟨q, hq, e⟩ := this (x :: r) 0 { st with M := setKV st.M c (-1) } hall
              exact ⟨q, hq, fun k hk => by rw [e]; exact hk⟩
            · have hmap : mapOf l c true = some (x :: r) := by
                unfold onceOf at ho
                rwa [if_neg hc] at ho
              obtain ⟨m, hm, hs, _, _⟩ := mapOf_mem hmap
              have htodo := todo_set hm (by rw [hs]; exact hk) (-1)
              rw [hs] at htodo
              obtain ⟨q, hq, hp⟩ := mfold_total (g := msize l f) (P := fun st1 => ∀ k, (getKV (setKV st.M c (-1)) k).isSome → (getKV st1.M k).isSome) (fun e st1 h1 => by
                obtain ⟨q, hq, h2⟩ := msize_total l hl f e st1 (by have := todo_mono (l := l) h1; omega)
                exact ⟨q, hq, fun k hk => h2 k (h1 k hk)⟩) (x :: r) 0 { st with M := setKV st.M c (-1) } (fun k hk => hk)
              exact ⟨q, hq, hp⟩
          obtain ⟨q, hq, hp⟩ := hfold
          rw [hq]
          refine ⟨_, rfl, fun k hk2 => ?_⟩
          simp only
          rw [getKV_set]
          split
          · rfl
          · exact hp k (by rw [getKV_set]; split <;> simp [hk2])
theorem mall_total (l : List Mp) (hl : l.any srcHangul = false) (f : Nat) : ∀ (r : List Mp) (st : MSt), todo l st.M + 2 ≤ f → ∃ st', mall l f r st = some st'
  | [], st, _ => ⟨st, rfl⟩
  | m :: r, st, h => by
    obtain ⟨q, hq, hp⟩ := msize_total l hl f m.src st h
    obtain ⟨st', h'⟩ := mall_total l hl f r q.2 (by have := todo_mono (l := l) hp; omega)
    exact ⟨st', by rw [mall, hq]; exact h'⟩
theorem measOf_eq (l : List Mp) (hl : l.any srcHangul = false) : mall l (l.length + 2) l ⟨[], false, false⟩ = some (measOf l) := by
  obtain ⟨st', h⟩ := mall_total l hl (l.length + 2) l ⟨[], false, false⟩ (by
    have : todo l [] ≤ l.length := List.length_filter_le _ _
    show todo l [] + 2 ≤ _
    omega)
  unfold measOf
  rw [h]; rfl
end Go.Proofs.YtbhglkofaendjaaGreatDoor
namespace Go.Proofs.YtbhglkofaendjaaGreatDoor

def endOk (l : List Mp) (out : List Bool) (c : Int) : Bool := match findM l c true with
  | none => true
  | some m => out[m]?.getD false
def endStep (l : List Mp) (out : List Bool) (i : Nat) : List Bool := out.set i ((l[i]?.map (·.to)).getD [] |>.all (endOk l out))
def endRound (l : List Mp) (out : List Bool) : List Bool := (List.range l.length).foldl (endStep l) out
def iter {α : Type} (f : α → α) : Nat → α → α
  | 0, x => x
  | n + 1, x => f (iter f n x)
def refEnds (l : List Mp) : List Bool := iter (endRound l) l.length (List.replicate l.length false)

def lenOf (l : List Mp) (compat : Bool) (out : List Int) (c : Int) : Int := match findM l c compat with
  | none => (decompH c).length
  | some m => out[m]?.getD 0
def lenSum (l : List Mp) (compat : Bool) (out : List Int) (to : List Int) : Int := to.foldl (fun n c => n + lenOf l compat out c) 0
def lenVal (l : List Mp) (compat : Bool) (out : List Int) (m : Mp) : Int := if !plainTag m && !compat then 1 else min (max (lenSum l compat out m.to) 1) 65
def lenStep (l : List Mp) (compat : Bool) (out : List Int) (i : Nat) : List Int := match l[i]? with
  | none => out
  | some m => out.set i (lenVal l compat out m)
def lenRound (l : List Mp) (compat : Bool) (out : List Int) : List Int := (List.range l.length).foldl (lenStep l compat) out
def refLengths (l : List Mp) (compat : Bool) : List Int := iter (lenRound l compat) l.length (List.replicate l.length 0)

theorem range_succ_foldl {α : Type} (f : α → Nat → α) (k : Nat) (x : α) : (List.range (k + 1)).foldl f x = f ((List.range k).foldl f x) k := by
  rw [List.range_succ, List.foldl_append]; rfl
theorem endStep_length (l : List Mp) (out : List Bool) (i : Nat) : (endStep l out i).length = out.length := by simp [endStep]
theorem foldl_length {α : Type} (f : List α → Nat → List α) (h : ∀ o i, (f o i).length = o.length) : ∀ (ks : List Nat) (o : List α), (ks.foldl f o).length = o.length
  | [], o => rfl
  | k :: ks, o => by rw [List.foldl_cons, foldl_length f h ks, h]
theorem endRound_length (l : List Mp) (out : List Bool) : (endRound l out).length = out.length := foldl_length _ (endStep_length l) _ _
theorem iter_length {α : Type} (f : List α → List α) (h : ∀ o, (f o).length = o.length) : ∀ (n : Nat) (o : List α), (iter f n o).length = o.length
  | 0, o => rfl
  | n + 1, o => by rw [iter, h, iter_length f h n]
theorem lenStep_length (l : List Mp) (compat : Bool) (out : List Int) (i : Nat) : (lenStep l compat out i).length = out.length := by
  unfold lenStep; split <;> simp
theorem lenRound_length (l : List Mp) (compat : Bool) (out : List Int) : (lenRound l compat out).length = out.length := foldl_length _ (lenStep_length l compat) _ _
theorem refEnds_length (l : List Mp) : (refEnds l).length = l.length := by unfold refEnds; rw [iter_length _ (endRound_length l)]; simp
theorem refLengths_length (l : List Mp) (compat : Bool) : (refLengths l compat).length = l.length := by unfold refLengths; rw [iter_length _ (lenRound_length l compat)]; simp
theorem findM_lt {l : List Mp} {c : Int} {compat : Bool} {m : Nat} (h : findM l c compat = some m) : m < l.length := by
  unfold findM at h
  obtain ⟨h1, _⟩ := List.findIdx?_eq_some_iff_getElem.1 h
  exact h1
theorem lenVal_range (l : List Mp) (compat : Bool) (out : List Int) (m : Mp) : 1 ≤ lenVal l compat out m ∧ lenVal l compat out m ≤ 65 := by
  unfold lenVal; split <;> omega
theorem lenStep_range {l : List Mp} {compat : Bool} {out : List Int} {i : Nat} (h : ∀ x ∈ out, 0 ≤ x ∧ x ≤ 65) : ∀ x ∈ lenStep l compat out i, 0 ≤ x ∧ x ≤ 65 := fun x hx => by
  unfold lenStep at hx
  split at hx
  · exact h x hx
  · rename_i m _
    rcases List.mem_or_eq_of_mem_set hx with h1 | rfl
    · exact h x h1
    · have := lenVal_range l compat out m; omega
theorem decompH_length_le (c : Int) : (decompH c).length ≤ 3 := by unfold decompH; split <;> (try split) <;> simp
theorem lenOf_range {l : List Mp} {compat : Bool} {out : List Int} (h : ∀ x ∈ out, 0 ≤ x ∧ x ≤ 65) (c : Int) : 0 ≤ lenOf l compat out c ∧ lenOf l compat out c ≤ 65 := by
  unfold lenOf
  split
  · have := decompH_length_le c; omega
  · rename_i m _
    rcases hm : out[m]? with _ | v
    · simp
    · simpa using h v (List.mem_of_getElem? hm)
theorem lenSum_snoc (l : List Mp) (compat : Bool) (out to : List Int) (c : Int) : lenSum l compat out (to ++ [c]) = lenSum l compat out to + lenOf l compat out c := by
  unfold lenSum; rw [List.foldl_append]; rfl
theorem foldl_add_range (f : Int → Int) (B : Int) (h : ∀ c, 0 ≤ f c ∧ f c ≤ B) : ∀ (to : List Int) (a : Int), a ≤ to.foldl (fun n c => n + f c) a ∧ to.foldl (fun n c => n + f c) a ≤ a + B * to.length
  | [], a => by simp
  | c :: r, a => by
    have h1 := foldl_add_range f B h r (a + f c)
    have h2 := h c
    simp only [List.foldl_cons, List.length_cons]
    have : B * ((r.length + 1 : Nat) : Int) = B * r.length + B := by rw [Int.natCast_add, Int.mul_add]; simp
    rw [this]
    omega
theorem lenSum_range {l : List Mp} {compat : Bool} {out : List Int} (h : ∀ x ∈ out, 0 ≤ x ∧ x ≤ 65) (to : List Int) : 0 ≤ lenSum l compat out to ∧ lenSum l compat out to ≤ 65 * to.length := by
  have := foldl_add_range (lenOf l compat out) 65 (lenOf_range h) to 0
  unfold lenSum
  omega
end Go.Proofs.YtbhglkofaendjaaGreatDoor
namespace Go.Proofs.YtbhglkofaendjaaGreatDoor

def beforeB (a b : Mp) : Bool := decide (a.src < b.src) || (decide (a.src = b.src) && Op.bytesLess a.tag.toList b.tag.toList)
def refUnsorted (l : List Mp) : Int := if mapParts l ≠ 0 then mapParts l else if hasDup l then 5 else 0
def notBefore (a b : Mp) : Bool := !beforeB a b
def refMapCheck (l : List Mp) : Int := if refUnsorted l ≠ 0 then refUnsorted l else if adjAny notBefore l then 4 else 0

def rangeAny (p : Nat → Bool) (k : Nat) : Bool := (List.range k).any p
theorem rangeAny_succ (p : Nat → Bool) (k : Nat) : rangeAny p (k + 1) = (rangeAny p k || p k) := by
  unfold rangeAny; rw [List.range_succ, List.any_append]; simp
theorem rangeAny_of {p : Nat → Bool} {k n : Nat} (h : p k = true) (hk : k < n) : rangeAny p n = true := List.any_eq_true.2 ⟨k, List.mem_range.2 hk, h⟩

def foundEarlier (l : List Mp) (i : Nat) : Bool := match l[i]? with
  | none => false
  | some m => decide (fI (findM l m.src true) < (i : Int))
def srcBad (n : Nrm) (m : Mp) : Bool := decide (kind m.src ≠ 0) || (!plainTag m && decide (classOf (usableSpans n.classes) m.src ≠ 0))
def longAt (l : List Mp) (i : Nat) : Bool := decide (64 < (refLengths l false)[i]?.getD 0) || decide (64 < (refLengths l true)[i]?.getD 0)
def refTail (l : List Mp) : Int := if !(refEnds l).all id then 12 else if rangeAny (longAt l) l.length then 13 else 0
def refMid (n : Nrm) : Int :=
  if rangeAny (foundEarlier n.decomp) n.decomp.length then 5 else if n.decomp.any kindBad then 8 else if n.decomp.any (srcBad n) then 11 else refTail n.decomp
def refCheck (n : Nrm) : Int :=
  if ordCheck n.classes ≠ 0 then ordCheck n.classes else if refMapCheck n.decomp ≠ 0 then refMapCheck n.decomp
  else if n.excl = refMake n.excl then refMid n else 11
theorem refMake_length (l : List Rng) : (refMake l).length ≤ 4 * l.length + 2 := by
  have hc : ∀ (keep : Int → Bool) (cs : List Int) (out : List Rng) (op : Bool), (combL keep cs out op).length ≤ out.length + cs.length := by
    intro keep cs
    induction cs with
    | nil => intro out op; simp [combL]
    | cons c r ih =>
      intro out op
      unfold combL
      refine Nat.le_trans (ih _ _) ?_
      split
      · unfold setLast
        split
        · simp; try omega
        · simp; try omega
      · split <;> simp <;> omega
  have h1 := hc (fun c => (hasR l c || hasR [] c)) (cutsL (cutsL [] l) []) [] false
  have h2 := cutsL_length (cutsL [] l) []
  have h3 := cutsL_length [] l
  unfold refMake combineR
  simp at h1 h2 h3 ⊢
  omega
end Go.Proofs.YtbhglkofaendjaaGreatDoor
namespace Go.Proofs.YtbhglkofaendjaaGreatDoor
open Go

theorem bytesLess_irrefl : ∀ a : List UInt8, Op.bytesLess a a = false
  | [] => rfl
  | x :: a => by simp [Op.bytesLess, bytesLess_irrefl a]
theorem bytesLess_trans : ∀ {a b c : List UInt8}, Op.bytesLess a b = true → Op.bytesLess b c = true → Op.bytesLess a c = true
  | _, [], _, h, _ => by cases ‹List UInt8› <;> simp [Op.bytesLess] at h
  | _, _ :: _, [], _, h => by simp [Op.bytesLess] at h
  | [], _ :: _, _ :: _, _, _ => by simp [Op.bytesLess]
  | x :: a, y :: b, z :: c, h1, h2 => by
    simp only [Op.bytesLess, Bool.or_eq_true, decide_eq_true_eq, Bool.and_eq_true, beq_iff_eq, UInt8.lt_iff_toNat_lt] at h1 h2 ⊢
    rcases h1 with h1 | ⟨rfl, h1⟩
    · rcases h2 with h2 | ⟨rfl, h2⟩
      · exact .inl (by omega)
      · exact .inl h1
    · rcases h2 with h2 | ⟨rfl, h2⟩
      · exact .inl h2
      · exact .inr ⟨rfl, bytesLess_trans h1 h2⟩

theorem notBefore_eq (a b : Mp) : notBefore a b = mpNotLess a b := by
  unfold notBefore mpNotLess mpCmp orI
  rcases cmpI_cases a.src b.src with ⟨e, h⟩ | ⟨e, h⟩ | ⟨e, h⟩
  · rw [e]; simp [beforeB, h]
  · have h1 : ¬ a.src < b.src := by omega
    have h2 : ¬ a.src = b.src := by omega
    rw [e]; simp [beforeB, h1, h2]
  · have h1 : ¬ a.src < b.src := by omega
    rw [e]
    simp only [beforeB, h, decide_true, Bool.true_and, if_true, cmpS]
    cases hb : Op.bytesLess a.tag.toList b.tag.toList
    · simp
      split <;> decide
    · simp
def LessMp (a b : Mp) : Prop := a.src < b.src ∨ (a.src = b.src ∧ Op.bytesLess a.tag.toList b.tag.toList = true)
theorem LessMp.trans {a b c : Mp} (h : LessMp a b) (k : LessMp b c) : LessMp a c := by
  rcases h with h | ⟨h, h'⟩
  · rcases k with k | ⟨k, _⟩
    · exact .inl (by omega)
    · exact .inl (by omega)
  · rcases k with k | ⟨k, k'⟩
    · exact .inl (by omega)
    · exact .inr ⟨by omega, bytesLess_trans h' k'⟩
theorem pairwise_of_adj {α : Type} {p : α → α → Bool} {R : α → α → Prop} (hp : ∀ a b, p a b = false → R a b) (ht : ∀ a b c, R a b → R b c → R a c) : ∀ {l : List α}, adjAny p l = false → l.Pairwise R
  | [], _ => .nil
  | [a], _ => by simp
  | a :: b :: r, h => by
    simp only [adjAny, Bool.or_eq_false_iff] at h
    have ih := pairwise_of_adj hp ht (l := b :: r) h.2
    refine List.pairwise_cons.2 ⟨fun x hx => ?_, ih⟩
    rcases List.mem_cons.1 hx with rfl | hx
    · exact hp _ _ h.1
    · exact ht _ _ _ (hp _ _ h.1) (List.rel_of_pairwise_cons ih hx)
theorem less_of_sorted {l : List Mp} (h : adjAny mpNotLess l = false) : l.Pairwise LessMp := by
  refine pairwise_of_adj (p := mpNotLess) (R := LessMp) (fun a b hab => ?_) (fun a b c h k => LessMp.trans h k) h
  rw [← notBefore_eq] at hab
  have hb : beforeB a b = true := by simpa [notBefore] using hab
  simp only [beforeB, Bool.or_eq_true, decide_eq_true_eq, Bool.and_eq_true] at hb
  exact hb
theorem noDup_of_less : ∀ {l : List Mp}, l.Pairwise LessMp → hasDup l = false
  | [], _ => rfl
  | m :: r, h => by
    obtain ⟨h1, h2⟩ := List.pairwise_cons.1 h
    rw [hasDup, noDup_of_less h2, Bool.or_false, List.any_eq_false]
    intro x hx hs
    simp only [sameKey, Bool.and_eq_true, decide_eq_true_eq] at hs
    rcases h1 x hx with h3 | ⟨_, h3⟩
    · omega
    · rw [hs.2, bytesLess_irrefl] at h3; cases h3
theorem adjAny_congr {α : Type} {p q : α → α → Bool} (h : ∀ a b, p a b = q a b) : ∀ l : List α, adjAny p l = adjAny q l
  | [] => rfl
  | [_] => rfl
  | a :: b :: r => by simp only [adjAny, h, adjAny_congr h (b :: r)]
theorem refMapCheck_eq (l : List Mp) : refMapCheck l = mapCheck l := by
  unfold refMapCheck refUnsorted mapCheck
  rw [adjAny_congr notBefore_eq]
  by_cases hp : mapParts l = 0
  · simp only [hp]
    cases ha : adjAny mpNotLess l
    · rw [noDup_of_less (less_of_sorted ha)]; simp
    · cases hd : hasDup l <;> simp
  · simp [hp]

/-- A code point that is found earlier is a neighbour's. -/
theorem foundEarlier_iff {l : List Mp} (hs : l.Pairwise fun a b => a.src ≤ b.src) : rangeAny (foundEarlier l) l.length = adjAny sameSrc l := by
  cases ha : adjAny sameSrc l
  · unfold rangeAny
    rw [List.any_eq_false]
    intro i hi
    rw [List.mem_range] at hi
    obtain ⟨m, hm⟩ := getElem?_some_of_lt hi
    have hlt : l.Pairwise fun a b => a.src < b.src := by
      have hadj : ∀ k a b, l[k]? = some a → l[k + 1]? = some b → a.src < b.src := fun k a b h1 h2 => by
        have h3 := of_decide_eq_false (adjAny_false_at ha h1 h2)
        have hk := lt_of_getElem?_some h2
        have h4 := List.pairwise_iff_getElem.1 hs k (k + 1) (by omega) hk (by omega)
        rw [List.getElem?_eq_getElem (by omega)] at h1 h2
        injection h1 with h1
        injection h2 with h2
        rw [h1, h2] at h4
        omega
      rw [List.pairwise_iff_getElem]
      intro i j
      induction j with
      | zero => intro _ _ h; omega
      | succ j ih =>
        intro h1 h2 h3
        have := hadj j l[j] l[j + 1] (List.getElem?_eq_getElem (by omega)) (List.getElem?_eq_getElem h2)
        by_cases e : i = j
        · subst e; exact this
        · have := ih h1 (by omega) (by omega); omega
    have : findM l m.src true = some i := by
      refine findM_hit ?_ hm (by simp [fits])
      rw [List.any_eq_false]
      intro x hx
      obtain ⟨j, hj, e⟩ := List.getElem_of_mem hx
      rw [List.length_take] at hj
      rw [List.getElem_take] at e
      have := List.pairwise_iff_getElem.1 hlt j i (by omega) hi (by omega)
      have hi' : l[i] = m := by rw [List.getElem?_eq_getElem hi] at hm; injection hm
      rw [e, hi'] at this
      simp [fits]; omega
    simp [foundEarlier, hm, this, fI]
  · have : ∃ i a b, l[i]? = some a ∧ l[i + 1]? = some b ∧ b.src = a.src := by
      clear hs
      induction l with
      | nil => simp [adjAny] at ha
      | cons x r ih =>
        cases r with
        | nil => simp [adjAny] at ha
        | cons y r =>
          simp only [adjAny, Bool.or_eq_true] at ha
          rcases ha with h | h
          · exact ⟨0, x, y, rfl, rfl, of_decide_eq_true h⟩
          · obtain ⟨i, a, b, h1, h2, h3⟩ := ih h
            exact ⟨i + 1, a, b, h1, h2, h3⟩
    obtain ⟨i, a, b, h1, h2, h3⟩ := this
    have hi := lt_of_getElem?_some h2
    refine rangeAny_of (k := i + 1) ?_ hi
    have hle : ∃ j, findM l b.src true = some j ∧ j ≤ i := by
      cases hf : findM l b.src true with
      | none =>
        unfold findM at hf
        rw [List.findIdx?_eq_none_iff] at hf
        have := hf b (mem_of_getElem?_some h2)
        simp [fits] at this
      | some j =>
        refine ⟨j, rfl, Nat.le_of_not_lt fun hij => ?_⟩
        unfold findM at hf
        rw [List.findIdx?_eq_some_iff_getElem] at hf
        have := hf.2.2 i hij
        rw [List.getElem?_eq_getElem (by omega)] at h1
        injection h1 with h1
        rw [h1] at this
        simp [fits, h3] at this
    obtain ⟨j, hj, hji⟩ := hle
    simp [foundEarlier, h2, hj, fI]; omega

/-- A run exists where an element is no starter. -/
theorem runsFrom_any (cls : Int → Int) : ∀ (t : List Int) (i : Nat) (st : Option Nat), (runsFrom cls i st t).length ≠ 0 ↔ st.isSome = true ∨ ∃ c ∈ t, cls c ≠ 0
  | [], i, none => by simp [runsFrom]
  | [], i, some s => by simp [runsFrom]
  | c :: r, i, none => by
    unfold runsFrom
    split
    · rename_i h; rw [runsFrom_any cls r (i + 1) none]; simp [h]
    · rename_i h; rw [runsFrom_any cls r (i + 1) (some i)]; simp [h]
  | c :: r, i, some s => by
    unfold runsFrom
    split
    · simp
    · rename_i h; rw [runsFrom_any cls r (i + 1) (some s)]; simp
theorem srcBad_any (n : Nrm) : n.decomp.any (srcBad n) = (n.decomp.any srcHangul || decide ((runsOf (usableSpans n.classes) (taggedOf n.decomp)).length ≠ 0)) := by
  rw [Bool.eq_iff_iff, Bool.or_eq_true, decide_eq_true_eq]
  unfold runsOf
  rw [runsFrom_any]
  simp only [List.any_eq_true, srcBad, Bool.or_eq_true, srcHangul, Bool.and_eq_true, Bool.not_eq_true', decide_eq_true_eq, Option.isSome_none, Bool.false_eq_true, false_or, taggedOf, List.mem_map, List.mem_filter]
  constructor
  · rintro ⟨m, hm, h | ⟨h1, h2⟩⟩
    · exact .inl ⟨m, hm, h⟩
    · exact .inr ⟨m.src, ⟨m, ⟨hm, h1⟩, rfl⟩, h2⟩
  · rintro (⟨m, hm, h⟩ | ⟨c, ⟨m, ⟨hm, h1⟩, rfl⟩, h2⟩)
    · exact ⟨m, hm, .inl h⟩
    · exact ⟨m, hm, .inr ⟨h1, h2⟩⟩
end Go.Proofs.YtbhglkofaendjaaGreatDoor
namespace Go.Proofs.YtbhglkofaendjaaGreatDoor

def goodR (r : Rng) : Prop := 0 ≤ r.lo ∧ r.lo ≤ r.hi ∧ r.hi ≤ 1114111
def Canon (l : List Rng) : Prop := (∀ r ∈ l, goodR r) ∧ l.Pairwise fun a b => a.hi + 2 ≤ b.lo
def memR (l : List Rng) (c : Int) : Prop := ∃ r ∈ l, r.lo ≤ c ∧ c ≤ r.hi
theorem memR_nil (c : Int) : ¬ memR [] c := by rintro ⟨r, h, _⟩; simp at h
theorem memR_cons (r : Rng) (l : List Rng) (c : Int) : memR (r :: l) c ↔ (r.lo ≤ c ∧ c ≤ r.hi) ∨ memR l c := by
  simp [memR, List.mem_cons, or_and_right, exists_or]
theorem memR_append (a b : List Rng) (c : Int) : memR (a ++ b) c ↔ memR a c ∨ memR b c := by
  simp [memR, List.mem_append, or_and_right, exists_or]
theorem Canon.tail {r : Rng} {l : List Rng} (h : Canon (r :: l)) : goodR r ∧ (∀ x ∈ l, r.hi + 2 ≤ x.lo) ∧ Canon l :=
  ⟨h.1 r (List.mem_cons_self ..), (List.pairwise_cons.1 h.2).1, fun x hx => h.1 x (List.mem_cons_of_mem _ hx), (List.pairwise_cons.1 h.2).2⟩
theorem Canon.ge {r : Rng} {l : List Rng} (h : Canon (r :: l)) {c : Int} (hc : memR l c) : r.hi + 2 ≤ c := by
  obtain ⟨x, hx, h1, _⟩ := hc
  have := h.tail.2.1 x hx
  omega
theorem canon_ext : ∀ {a b : List Rng}, Canon a → Canon b → (∀ c, memR a c ↔ memR b c) → a = b
  | [], [], _, _, _ => rfl
  | [], s :: b, _, hb, h => by
    obtain ⟨g, _, _⟩ := hb.tail
    exact absurd ((h s.lo).2 ⟨s, List.mem_cons_self .., Int.le_refl _, g.2.1⟩) (memR_nil _)
  | r :: a, [], ha, _, h => by
    obtain ⟨g, _, _⟩ := ha.tail
    exact absurd ((h r.lo).1 ⟨r, List.mem_cons_self .., Int.le_refl _, g.2.1⟩) (memR_nil _)
  | r :: a, s :: b, ha, hb, h => by
    obtain ⟨gr, _, ca⟩ := ha.tail
    obtain ⟨gs, _, cb⟩ := hb.tail
    obtain ⟨r0, r1, r2⟩ := gr
    obtain ⟨s0, s1, s2⟩ := gs
    have hlo : r.lo = s.lo := by
      have h1 := (h r.lo).1 ⟨r, List.mem_cons_self .., Int.le_refl _, r1⟩
      have h2 := (h s.lo).2 ⟨s, List.mem_cons_self .., Int.le_refl _, s1⟩
      rw [memR_cons] at h1 h2
      have h3 : s.lo ≤ r.lo := by
        rcases h1 with h1 | h1
        · exact h1.1
        · have := hb.ge h1; omega
      have h4 : r.lo ≤ s.lo := by
        rcases h2 with h2 | h2
        · exact h2.1
        · have := ha.ge h2; omega
      omega
    have hhi : r.hi = s.hi := by
      rcases Int.lt_trichotomy r.hi s.hi with h1 | h1 | h1
      · have := (h (r.hi + 1)).2 ⟨s, List.mem_cons_self .., by omega, by omega⟩
        rw [memR_cons] at this
        rcases this with h2 | h2
        · omega
        · have := ha.ge h2; omega
      · exact h1
      · have := (h (s.hi + 1)).1 ⟨r, List.mem_cons_self .., by omega, by omega⟩
        rw [memR_cons] at this
        rcases this with h2 | h2
        · omega
        · have := hb.ge h2; omega
    have e : r = s := Rng.ext' hlo hhi
    subst e
    congr 1
    refine canon_ext ca cb (fun c => ⟨fun hc => ?_, fun hc => ?_⟩)
    · have h1 := (h c).1 ((memR_cons _ _ _).2 (.inr hc))
      rw [memR_cons] at h1
      rcases h1 with h1 | h1
      · have := ha.ge hc; omega
      · exact h1
    · have h1 := (h c).2 ((memR_cons _ _ _).2 (.inr hc))
      rw [memR_cons] at h1
      rcases h1 with h1 | h1
      · have := hb.ge hc; omega
      · exact h1

theorem canon_snoc {p : List Rng} {q : Rng} : Canon (p ++ [q]) ↔ Canon p ∧ goodR q ∧ ∀ x ∈ p, x.hi + 2 ≤ q.lo := by
  unfold Canon
  rw [List.pairwise_append]
  constructor
  · rintro ⟨h1, h2, _, h3⟩
    exact ⟨⟨fun r hr => h1 r (by simp [hr]), h2⟩, h1 q (by simp), fun x hx => h3 x hx q (by simp)⟩
  · rintro ⟨⟨h1, h2⟩, h3, h4⟩
    refine ⟨fun r hr => ?_, h2, by simp, fun x hx y hy => ?_⟩
    · rcases List.mem_append.1 hr with hr | hr
      · exact h1 r hr
      · rw [List.mem_singleton.1 hr]; exact h3
    · rw [List.mem_singleton.1 hy]; exact h4 x hx
theorem memR_one (q : Rng) (c : Int) : memR [q] c ↔ q.lo ≤ c ∧ c ≤ q.hi := by simp [memR]
theorem addR_spec {out : List Rng} {r : Rng} (ho : Canon out) (hr : goodR r) (hle : ∀ q ∈ out, q.lo ≤ r.lo) : Canon (addR out r) ∧ (∀ c, memR (addR out r) c ↔ memR out c ∨ (r.lo ≤ c ∧ c ≤ r.hi)) ∧ ∀ q ∈ addR out r, q.lo ≤ r.lo := by
  unfold addR
  cases hl : out.getLast? with
  | none =>
    have : out = [] := by simpa using hl
    subst this
    refine ⟨(canon_snoc (p := [])).2 ⟨⟨by simp, .nil⟩, hr, by simp⟩, fun c => ?_, fun q hq => ?_⟩
    · simp [memR]
    · rw [List.mem_singleton.1 hq]; exact Int.le_refl _
  | some q =>
    obtain ⟨p, rfl⟩ := List.getLast?_eq_some_iff.1 hl
    obtain ⟨hp, gq, hpq⟩ := canon_snoc.1 ho
    obtain ⟨q0, q1, q2⟩ := gq
    obtain ⟨r0, r1, r2⟩ := hr
    have hqr := hle q (by simp)
    simp only [List.dropLast_concat]
    by_cases h : r.lo ≤ q.hi + 1
    · rw [if_pos h]
      refine ⟨canon_snoc.2 ⟨hp, ⟨q0, by simp only; omega, by simp only; omega⟩, hpq⟩, fun c => ?_, fun x hx => ?_⟩
      · rw [memR_append, memR_append, memR_one, memR_one, or_assoc]
        refine or_congr_right ?_
        simp only
        omega
      · rcases List.mem_append.1 hx with hx | hx
        · exact hle x (by simp [hx])
        · rw [List.mem_singleton.1 hx]; exact hqr
    · rw [if_neg h]
      refine ⟨canon_snoc.2 ⟨ho, ⟨r0, r1, r2⟩, fun x hx => ?_⟩, fun c => ?_, fun x hx => ?_⟩
      · rcases List.mem_append.1 hx with hx | hx
        · have := hpq x hx; omega
        · rw [List.mem_singleton.1 hx]; omega
      · rw [memR_append, memR_one]
      · rcases List.mem_append.1 hx with hx | hx
        · exact hle x hx
        · rw [List.mem_singleton.1 hx]; exact Int.le_refl _
theorem foldl_addR_spec : ∀ (s out : List Rng), Canon out → (∀ r ∈ s, goodR r) → (s.Pairwise fun a b => a.lo ≤ b.lo) → (∀ q ∈ out, ∀ r ∈ s, q.lo ≤ r.lo) → Canon (s.foldl addR out) ∧ ∀ c, memR (s.foldl addR out) c ↔ memR out c ∨ memR s c
  | [], out, ho, _, _, _ => ⟨ho, fun c => by simp [memR_nil]⟩
  | r :: s, out, ho, hg, hs, hle => by
    obtain ⟨h1, h2⟩ := List.pairwise_cons.1 hs
    obtain ⟨a1, a2, a3⟩ := addR_spec ho (hg r (List.mem_cons_self ..)) (fun q hq => hle q hq r (List.mem_cons_self ..))
    obtain ⟨b1, b2⟩ := foldl_addR_spec s (addR out r) a1 (fun x hx => hg x (List.mem_cons_of_mem _ hx)) h2 (fun q hq x hx => by have := a3 q hq; have := h1 x hx; omega)
    refine ⟨b1, fun c => ?_⟩
    rw [List.foldl_cons, b2, a2, memR_cons, or_assoc]
theorem memR_clipped (l : List Rng) (c : Int) : memR (clipped l) c ↔ hasR l c = true := by
  unfold memR clipped hasR
  rw [List.any_eq_true]
  constructor
  · rintro ⟨r, hr, h1, h2⟩
    obtain ⟨hr, _⟩ := List.mem_filter.1 hr
    obtain ⟨x, hx, rfl⟩ := List.mem_map.1 hr
    refine ⟨x, hx, ?_⟩
    simp only [clip] at h1 h2
    simp only [inR, validB, Bool.and_eq_true, decide_eq_true_eq]
    omega
  · rintro ⟨x, hx, h⟩
    simp only [inR, validB, Bool.and_eq_true, decide_eq_true_eq] at h
    refine ⟨clip x, List.mem_filter.2 ⟨List.mem_map.2 ⟨x, hx, rfl⟩, ?_⟩, ?_, ?_⟩
    · refine decide_eq_true ?_; simp only [clip]; omega
    · simp only [clip]; omega
    · simp only [clip]; omega
theorem rngLe_iff (a b : Rng) : rngLe a b = true ↔ a.lo < b.lo ∨ (a.lo = b.lo ∧ a.hi ≤ b.hi) := by
  unfold rngLe
  rw [Bool.not_eq_true', rngLt_false]
  omega
theorem makeR_spec (l : List Rng) : Canon (makeR l) ∧ ∀ c, memR (makeR l) c ↔ hasR l c = true := by
  have hp : (sortR (clipped l)).Perm (clipped l) := List.mergeSort_perm _ _
  have hsort : (sortR (clipped l)).Pairwise fun a b => rngLe a b = true :=
    List.pairwise_mergeSort (fun a b c h1 h2 => by rw [rngLe_iff] at *; omega) (fun a b => by rw [Bool.or_eq_true, rngLe_iff, rngLe_iff]; omega) _
  obtain ⟨h1, h2⟩ := foldl_addR_spec (sortR (clipped l)) [] ⟨by simp, .nil⟩ (fun r hr => by
      obtain ⟨hr, hd⟩ := List.mem_filter.1 (hp.mem_iff.1 hr)
      obtain ⟨x, hx, rfl⟩ := List.mem_map.1 hr
      have hd := of_decide_eq_true hd
      refine ⟨?_, hd, ?_⟩
      · simp only [clip]; omega
      · simp only [clip]; omega) (hsort.imp (fun h => by rw [rngLe_iff] at h; omega)) (by simp)
  refine ⟨h1, fun c => ?_⟩
  unfold makeR
  rw [h2, ← memR_clipped]
  constructor
  · rintro (h | ⟨r, hr, h⟩)
    · exact absurd h (memR_nil _)
    · exact ⟨r, hp.mem_iff.1 hr, h⟩
  · rintro ⟨r, hr, h⟩
    exact .inr ⟨r, hp.mem_iff.2 hr, h⟩

def hdC : List Int → Int
  | [] => 1114112
  | d :: _ => d
theorem hdC_cons (d : Int) (r : List Int) : hdC (d :: r) = d := rfl
theorem nextHi_eq (r : List Int) : nextHi r = hdC r - 1 := by cases r <;> simp [nextHi, hdC]
def ConstOn (keep : Int → Bool) : List Int → Prop
  | [] => True
  | d :: r => (∀ c, d ≤ c → c < hdC r → keep c = keep d) ∧ ConstOn keep r
theorem combL_spec (keep : Int → Bool) : ∀ (cs : List Int) (out : List Rng) (op : Bool), cs.Pairwise (· < ·) → (∀ d ∈ cs, 0 ≤ d ∧ d ≤ 1114111) → ConstOn keep cs → Canon out →
    (op = true → ∃ p q, out = p ++ [q] ∧ q.hi + 1 = hdC cs) → (op = false → ∀ q ∈ out, q.hi + 2 ≤ hdC cs) →
    Canon (combL keep cs out op) ∧ ∀ c, memR (combL keep cs out op) c ↔ memR out c ∨ (hdC cs ≤ c ∧ c ≤ 1114111 ∧ keep c = true)
  | [], out, op, _, _, _, ho, _, _ => ⟨ho, fun c => by simp only [combL, hdC]; constructor <;> (intro h; first | exact .inl h | (rcases h with h | h; exact h; omega))⟩
  | d :: r, out, op, hs, hv, hc, ho, ht, hf => by
    obtain ⟨s1, s2⟩ := List.pairwise_cons.1 hs
    obtain ⟨d0, d1⟩ := hv d (List.mem_cons_self ..)
    have hdr : d < hdC r ∧ hdC r ≤ 1114112 := by
      cases r with
      | nil => simp [hdC]; omega
      | cons e r => exact ⟨s1 e (List.mem_cons_self ..), by have := hv e (by simp); simp [hdC]; omega⟩
    obtain ⟨hd1, hd2⟩ := hdr
    have hv' : ∀ e ∈ r, 0 ≤ e ∧ e ≤ 1114111 := fun e he => hv e (List.mem_cons_of_mem _ he)
    obtain ⟨hc1, hc2⟩ := hc
    rw [hdC_cons] at ht hf
    unfold combL
    rw [nextHi_eq]
    simp only [hdC_cons]
    cases hk : keep d
    · simp only [Bool.false_and, Bool.false_eq_true, if_false]
      have hall : ∀ q ∈ out, q.hi + 2 ≤ hdC r := fun q hq => by
        cases op with
        | false => have := hf rfl q hq; omega
        | true =>
          obtain ⟨p, q', rfl, hq'⟩ := ht rfl
          obtain ⟨hp, gq, hpq⟩ := canon_snoc.1 ho
          rcases List.mem_append.1 hq with hq | hq
          · have := hpq q hq; have := gq.2.1; omega
          · rw [List.mem_singleton.1 hq]; omega
      obtain ⟨b1, b2⟩ := combL_spec keep r out false s2 hv' hc2 ho (fun h => by cases h) (fun _ => hall)
      refine ⟨b1, fun c => ?_⟩
      rw [b2]
      constructor
      · rintro (h | ⟨h1, h2, h3⟩)
        · exact .inl h
        · exact .inr ⟨by omega, h2, h3⟩
      · rintro (h | ⟨h1, h2, h3⟩)
        · exact .inl h
        · by_cases hcr : c < hdC r
          · rw [hc1 c h1 hcr, hk] at h3; cases h3
          · exact .inr ⟨by omega, h2, h3⟩
    · cases op with
      | true =>
        simp only [Bool.true_and, if_true]
        obtain ⟨p, q, rfl, hq⟩ := ht rfl
        obtain ⟨hp, gq, hpq⟩ := canon_snoc.1 ho
        obtain ⟨q0, q1, q2⟩ := gq
        have hsl : setLast (p ++ [q]) (hdC r - 1) = p ++ [⟨q.lo, hdC r - 1⟩] := by simp [setLast]
        rw [hsl]
        obtain ⟨b1, b2⟩ := combL_spec keep r (p ++ [⟨q.lo, hdC r - 1⟩]) true s2 hv' hc2 (canon_snoc.2 ⟨hp, ⟨q0, by simp only; omega, by simp only; omega⟩, hpq⟩) (fun _ => ⟨p, _, rfl, by simp only; omega⟩) (fun h => by cases h)
        refine ⟨b1, fun c => ?_⟩
        rw [b2, memR_append, memR_append, memR_one, memR_one]
        simp only
        constructor
        · rintro ((h | h) | ⟨h1, h2, h3⟩)
          · exact .inl (.inl h)
          · by_cases hcd : c < d
            · exact .inl (.inr ⟨h.1, by omega⟩)
            · exact .inr ⟨by omega, by omega, by rw [hc1 c (by omega) (by omega)]; exact hk⟩
          · exact .inr ⟨by omega, h2, h3⟩
        · rintro ((h | h) | ⟨h1, h2, h3⟩)
          · exact .inl (.inl h)
          · exact .inl (.inr ⟨h.1, by omega⟩)
          · by_cases hcr : c < hdC r
            · exact .inl (.inr ⟨by omega, by omega⟩)
            · exact .inr ⟨by omega, h2, h3⟩
      | false =>
        simp only [Bool.and_false, Bool.false_eq_true, if_false, if_true]
        have hall := hf rfl
        obtain ⟨b1, b2⟩ := combL_spec keep r (out ++ [⟨d, hdC r - 1⟩]) true s2 hv' hc2 (canon_snoc.2 ⟨ho, ⟨d0, by simp only; omega, by simp only; omega⟩, hall⟩) (fun _ => ⟨out, _, rfl, by simp only; omega⟩) (fun h => by cases h)
        refine ⟨b1, fun c => ?_⟩
        rw [b2, memR_append, memR_one]
        simp only
        constructor
        · rintro ((h | h) | ⟨h1, h2, h3⟩)
          · exact .inl h
          · exact .inr ⟨h.1, by omega, by rw [hc1 c (by omega) (by omega)]; exact hk⟩
          · exact .inr ⟨by omega, h2, h3⟩
        · rintro (h | ⟨h1, h2, h3⟩)
          · exact .inl (.inl h)
          · by_cases hcr : c < hdC r
            · exact .inl (.inr ⟨by omega, by omega⟩)
            · exact .inr ⟨by omega, h2, h3⟩

theorem placeL_sorted {n : Int} : ∀ {l : List Int}, l.Pairwise (· < ·) → (placeL n l).Pairwise (· < ·)
  | [], _ => by simp [placeL]
  | x :: r, h => by
    obtain ⟨h1, h2⟩ := List.pairwise_cons.1 h
    unfold placeL
    by_cases hx : n ≤ x
    · rw [if_pos hx]
      by_cases hlt : n < x
      · rw [if_pos hlt]
        refine List.pairwise_cons.2 ⟨fun y hy => ?_, h⟩
        rcases List.mem_cons.1 hy with rfl | hy
        · exact hlt
        · have := h1 y hy; omega
      · rw [if_neg hlt]; exact h
    · rw [if_neg hx]
      refine List.pairwise_cons.2 ⟨fun y hy => ?_, placeL_sorted h2⟩
      rcases mem_placeL.1 hy with rfl | hy
      · omega
      · exact h1 y hy
theorem cutStep_sorted {l : List Int} {r : Rng} (h : l.Pairwise (· < ·)) : (cutStep l r).Pairwise (· < ·) := by
  unfold cutStep
  simp only
  split <;> split <;> first | exact placeL_sorted (placeL_sorted h) | exact placeL_sorted h | exact h
theorem cuts_sorted : ∀ (rs : List Rng) (l : List Int), l.Pairwise (· < ·) → (rs.foldl cutStep l).Pairwise (· < ·)
  | [], _, h => h
  | _r :: rs, _l, h => cuts_sorted rs _ (cutStep_sorted h)
theorem cutStep_mono {l : List Int} {r : Rng} {x : Int} (h : x ∈ l) : x ∈ cutStep l r := by
  unfold cutStep
  simp only
  split <;> split <;> simp [mem_placeL, h]
theorem cuts_mono : ∀ (rs : List Rng) (l : List Int) {x : Int}, x ∈ l → x ∈ rs.foldl cutStep l
  | [], _, _, h => h
  | _ :: rs, _, _, h => cuts_mono rs _ (cutStep_mono h)
/-- What must be a cut for a range. -/
def isCut (r : Rng) (x : Int) : Prop := (x = r.lo ∧ validB r.lo = true) ∨ (x = r.hi + 1 ∧ 0 ≤ r.hi ∧ r.hi < 1114111)
theorem cutStep_has {l : List Int} {r : Rng} {x : Int} (h : isCut r x) : x ∈ cutStep l r := by
  unfold cutStep
  simp only
  rcases h with ⟨rfl, h⟩ | ⟨rfl, h⟩
  · split <;> simp [mem_placeL]
  · rw [if_pos h, mem_placeL]; exact .inl rfl
theorem cuts_has : ∀ (rs : List Rng) (l : List Int) {r : Rng} {x : Int}, r ∈ rs → isCut r x → x ∈ rs.foldl cutStep l
  | r' :: rs, l, r, x, hr, h => by
    rcases List.mem_cons.1 hr with rfl | hr
    · exact cuts_mono rs _ (cutStep_has h)
    · exact cuts_has rs _ hr h
theorem cutsL_mem {l : List Int} {rs : List Rng} {x : Int} : x ∈ cutsL l rs ↔ x = 0 ∨ x ∈ rs.foldl cutStep l := mem_placeL
theorem constOn_of {keep : Int → Bool} {S : Int → Prop} (hk : ∀ d c, 0 ≤ d → d ≤ c → c ≤ 1114111 → (∀ x, S x → ¬ (d < x ∧ x ≤ c)) → keep c = keep d) :
    ∀ (cs : List Int), cs.Pairwise (· < ·) → (∀ d ∈ cs, 0 ≤ d ∧ d ≤ 1114111) → (∀ x, S x → x < hdC cs ∨ x ∈ cs) → ConstOn keep cs
  | [], _, _, _ => trivial
  | d :: r, hs, hv, hS => by
    obtain ⟨s1, s2⟩ := List.pairwise_cons.1 hs
    obtain ⟨d0, d1⟩ := hv d (List.mem_cons_self ..)
    have hdr : d < hdC r ∧ hdC r ≤ 1114112 := by
      cases r with
      | nil => simp [hdC]; omega
      | cons e r => exact ⟨s1 e (List.mem_cons_self ..), by have := hv e (by simp); simp [hdC]; omega⟩
    have hge : ∀ x ∈ r, hdC r ≤ x := fun x hx => by
      cases r with
      | nil => simp at hx
      | cons e r =>
        rcases List.mem_cons.1 hx with rfl | hx
        · exact Int.le_refl _
        · have := (List.pairwise_cons.1 s2).1 x hx; simp [hdC]; omega
    refine ⟨fun c h1 h2 => hk d c d0 h1 (by omega) (fun x hx hh => ?_), constOn_of hk r s2 (fun e he => hv e (List.mem_cons_of_mem _ he)) (fun x hx => ?_)⟩
    · rcases hS x hx with h | h
      · simp [hdC] at h; omega
      · rcases List.mem_cons.1 h with rfl | h
        · omega
        · have := hge x h; omega
    · rcases hS x hx with h | h
      · simp [hdC] at h; exact .inl (by omega)
      · rcases List.mem_cons.1 h with rfl | h
        · exact .inl hdr.1
        · exact .inr h
theorem hasR_const {l : List Rng} {d c : Int} (h0 : 0 ≤ d) (h1 : d ≤ c) (h2 : c ≤ 1114111) (h : ∀ r ∈ l, ∀ x, isCut r x → ¬ (d < x ∧ x ≤ c)) : hasR l c = hasR l d := by
  have hin : ∀ r ∈ l, inR c r = inR d r := fun r hr => by
    have a := h r hr r.lo
    have b := h r hr (r.hi + 1)
    rw [Bool.eq_iff_iff]
    simp only [isCut, inR, validB, Bool.and_eq_true, decide_eq_true_eq] at a b ⊢
    constructor
    · rintro ⟨⟨_, h3⟩, h4⟩
      refine ⟨⟨⟨h0, by omega⟩, ?_⟩, by omega⟩
      refine Classical.byContradiction fun hn => a (.inl ⟨trivial, by omega, by omega⟩) ⟨by omega, by omega⟩
    · rintro ⟨⟨_, h3⟩, h4⟩
      refine ⟨⟨⟨by omega, h2⟩, by omega⟩, ?_⟩
      refine Classical.byContradiction fun hn => b (.inr ⟨trivial, by omega, by omega⟩) ⟨by omega, by omega⟩
  unfold hasR
  clear h
  induction l with
  | nil => rfl
  | cons r l ih =>
    simp only [List.any_cons]
    rw [hin r (List.mem_cons_self ..), ih (fun x hx => hin x (List.mem_cons_of_mem _ hx))]
/-- What the reference's combination of two sets is. -/
theorem combineR_spec (a b : List Rng) (keep : Bool → Bool → Bool) : Canon (combineR a b keep) ∧ ∀ c, memR (combineR a b keep) c ↔ 0 ≤ c ∧ c ≤ 1114111 ∧ keep (hasR a c) (hasR b c) = true := by
  have hs1 : (cutsL [] a).Pairwise (· < ·) := placeL_sorted (cuts_sorted _ _ .nil)
  have hs : (cutsL (cutsL [] a) b).Pairwise (· < ·) := placeL_sorted (cuts_sorted _ _ hs1)
  have hv : ∀ x ∈ cutsL (cutsL [] a) b, 0 ≤ x ∧ x ≤ 1114111 := cutsL_valid (cutsL_valid (by simp))
  have h0 : hdC (cutsL (cutsL [] a) b) = 0 := by
    have hm : (0 : Int) ∈ cutsL (cutsL [] a) b := cutsL_mem.2 (.inl rfl)
    cases hc : cutsL (cutsL [] a) b with
    | nil => rw [hc] at hm; simp at hm
    | cons d r =>
      rw [hc] at hm hs hv
      have := hv d (List.mem_cons_self ..)
      simp only [hdC]
      rcases List.mem_cons.1 hm with h | h
      · exact h.symm
      · have := (List.pairwise_cons.1 hs).1 0 h; omega
  have hcut : ∀ x, (∃ r ∈ a ++ b, isCut r x) → x ∈ cutsL (cutsL [] a) b := fun x ⟨r, hr, hx⟩ => by
    rcases List.mem_append.1 hr with hr | hr
    · exact cutsL_mem.2 (.inr (cuts_mono _ _ (cutsL_mem.2 (.inr (cuts_has _ _ hr hx)))))
    · exact cutsL_mem.2 (.inr (cuts_has _ _ hr hx))
  have hconst : ConstOn (fun c => keep (hasR a c) (hasR b c)) (cutsL (cutsL [] a) b) :=
    constOn_of (S := fun x => ∃ r ∈ a ++ b, isCut r x) (fun d c h0 h1 h2 h => by
      rw [hasR_const h0 h1 h2 (fun r hr x hx => h x ⟨r, by simp [hr], hx⟩), hasR_const h0 h1 h2 (fun r hr x hx => h x ⟨r, by simp [hr], hx⟩)]) _ hs hv (fun x hx => .inr (hcut x hx))
  obtain ⟨h1, h2⟩ := combL_spec (fun c => keep (hasR a c) (hasR b c)) _ [] false hs hv hconst ⟨by simp, .nil⟩ (fun h => by cases h) (by simp)
  refine ⟨h1, fun c => ?_⟩
  unfold combineR
  rw [h2, h0]
  simp [memR_nil]
theorem hasR_valid {l : List Rng} {c : Int} (h : hasR l c = true) : 0 ≤ c ∧ c ≤ 1114111 := by
  obtain ⟨r, _, h⟩ := List.any_eq_true.1 h
  simp only [inR, validB, Bool.and_eq_true, decide_eq_true_eq] at h
  exact h.1.1
theorem refMake_eq (l : List Rng) : refMake l = makeR l := by
  obtain ⟨h1, h2⟩ := combineR_spec l [] (fun x y => x || y)
  obtain ⟨h3, h4⟩ := makeR_spec l
  refine canon_ext h1 h3 (fun c => ?_)
  unfold refMake
  rw [h2, h4]
  have : hasR [] c = false := rfl
  rw [this, Bool.or_false]
  exact ⟨fun h => h.2.2, fun h => ⟨(hasR_valid h).1, (hasR_valid h).2, h⟩⟩
end Go.Proofs.YtbhglkofaendjaaGreatDoor
namespace Go.Proofs.YtbhglkofaendjaaGreatDoor

/-- e stands in the mapping of c. -/
def Child (l : List Mp) (cp : Bool) (e c : Int) : Prop := ∃ to, onceOf l c cp = some to ∧ e ∈ to
def Ends (l : List Mp) (cp : Bool) : Prop := ∀ c, Acc (Child l cp) c

theorem rec_exists {α : Type} [Inhabited α] {l : List Mp} {cp : Bool} (hwf : Ends l cp) (base : Int → α) (comb : List Int → (Int → α) → α) (hc : ∀ to f g, (∀ e ∈ to, f e = g e) → comb to f = comb to g) :
    ∃ F : Int → α, ∀ c, F c = match onceOf l c cp with
      | none => base c
      | some to => comb to F := by
  classical
  have wf : WellFounded (Child l cp) := ⟨hwf⟩
  let G : (c : Int) → ((e : Int) → Child l cp e c → α) → α := fun c r => match onceOf l c cp with
    | none => base c
    | some to => comb to (fun e => if h : Child l cp e c then r e h else default)
  refine ⟨wf.fix G, fun c => ?_⟩
  rw [wf.fix_eq]
  show (match onceOf l c cp with
    | none => base c
    | some to => comb to (fun e => if h : Child l cp e c then wf.fix G e else default)) = _
  cases ho : onceOf l c cp with
  | none => rfl
  | some to =>
    simp only
    refine hc _ _ _ (fun e he => ?_)
    rw [dif_pos (show Child l cp e c from ⟨to, ho, he⟩)]

def sumL (z : Int → Int) : List Int → Int
  | [] => 0
  | x :: r => z x + sumL z r
theorem sumL_congr {z z' : Int → Int} : ∀ {to : List Int}, (∀ e ∈ to, z e = z' e) → sumL z to = sumL z' to
  | [], _ => rfl
  | x :: r, h => by rw [sumL, sumL, h x (List.mem_cons_self ..), sumL_congr (fun e he => h e (List.mem_cons_of_mem _ he))]
def combZ (to : List Int) (z : Int → Int) : Int := match to with
  | [] => 1
  | _ :: _ => min 65 (sumL z to)
/-- The lengths as they are counted. -/
def SzEq (l : List Mp) (z : Int → Int) : Prop := ∀ c, z c = match onceOf l c true with
  | none => 1
  | some to => combZ to z
theorem sz_exists {l : List Mp} (h : Ends l true) : ∃ z, SzEq l z := rec_exists h (fun _ => 1) combZ (fun to f g hfg => by
  unfold combZ
  cases to with
  | nil => rfl
  | cons x r => rw [sumL_congr hfg])
theorem sumL_ge {z : Int → Int} : ∀ {to : List Int}, (∀ e ∈ to, 1 ≤ z e) → (to.length : Int) ≤ sumL z to
  | [], _ => by simp [sumL]
  | x :: r, h => by
    have h1 := h x (List.mem_cons_self ..)
    have h2 := sumL_ge (to := r) (fun e he => h e (List.mem_cons_of_mem _ he))
    simp only [sumL, List.length_cons]; omega
theorem sz_ge {l : List Mp} {z : Int → Int} (hwf : Ends l true) (hz : SzEq l z) (c : Int) : 1 ≤ z c := by
  induction hwf c with
  | intro c _ ih =>
    rw [hz c]
    cases ho : onceOf l c true with
    | none => simp
    | some to =>
      cases to with
      | nil => simp [combZ]
      | cons x r =>
        have := sumL_ge (z := z) (to := x :: r) (fun e he => ih e ⟨x :: r, ho, he⟩)
        simp only [combZ, List.length_cons] at this ⊢
        omega
theorem sz_le {l : List Mp} {z : Int → Int} (hz : SzEq l z) (c : Int) : z c ≤ 65 := by
  rw [hz c]
  cases onceOf l c true with
  | none => simp
  | some to => cases to <;> simp [combZ]; omega

inductive Desc (l : List Mp) : Int → Int → Prop
  | one {e c : Int} : Child l true e c → Desc l e c
  | more {e c d : Int} : Child l true e c → Desc l c d → Desc l e d
theorem Desc.trans {l : List Mp} {a b c : Int} (h : Desc l a b) (k : Desc l b c) : Desc l a c := by
  induction h with
  | one h => exact .more h k
  | more h _ ih => exact .more h (ih k)
/-- The last step of a way down. -/
theorem Desc.last {l : List Mp} {a c : Int} (h : Desc l a c) : ∃ b, Child l true b c ∧ (a = b ∨ Desc l a b) := by
  induction h with
  | one h => exact ⟨_, h, .inl rfl⟩
  | more h hd ih =>
    obtain ⟨b, hb, e | e⟩ := ih
    · subst e; exact ⟨_, hb, .inr (.one h)⟩
    · exact ⟨b, hb, .inr (.more h e)⟩
theorem no_cycle {l : List Mp} {c : Int} (h : Acc (Child l true) c) : ¬ Desc l c c := by
  induction h with
  | intro c _ ih =>
    intro hd
    obtain ⟨b, hb, e | e⟩ := hd.last
    · subst e; exact ih _ hb (.one hb)
    · exact ih b hb ((Desc.one hb).trans e)

/-- What the search keeps is right. -/
structure Right (l : List Mp) (z : Int → Int) (M M' : List (Int × Int)) (cyc cyc' : Bool) : Prop where
  cyc : cyc' = cyc
  val : ∀ k w, getKV M' k = some w → w = -1 ∨ w = z k
  open_ : ∀ k, getKV M' k = some (-1) ↔ getKV M k = some (-1)
  stays : ∀ k w, getKV M k = some w → getKV M' k = some w
def Longs (st : MSt) : Prop := st.long = true ↔ ∃ k w, getKV st.M k = some w ∧ 64 < w
structure Did (l : List Mp) (z : Int → Int) (st st' : MSt) : Prop where
  r : Right l z st.M st'.M st.cyc st'.cyc
  long : Longs st → Longs st'
theorem Did.refl {l : List Mp} {z : Int → Int} {st : MSt} (h : ∀ k w, getKV st.M k = some w → w = -1 ∨ w = z k) : Did l z st st := ⟨⟨rfl, h, fun _ => Iff.rfl, fun _ _ h => h⟩, fun h => h⟩
theorem Did.trans {l : List Mp} {z : Int → Int} {a b c : MSt} (h : Did l z a b) (k : Did l z b c) : Did l z a c :=
  ⟨⟨k.r.cyc.trans h.r.cyc, k.r.val, fun x => (k.r.open_ x).trans (h.r.open_ x), fun x w hx => k.r.stays x w (h.r.stays x w hx)⟩, fun x => k.long (h.long x)⟩

theorem mfold_right {l : List Mp} {z : Int → Int} {g : Int → MSt → Option (Int × MSt)} {P : Int → Prop} {st0 : MSt} (hz1 : ∀ c, 1 ≤ z c)
    (hg : ∀ c st v st', P c → g c st = some (v, st') → Did l z st0 st → v = z c ∧ Did l z st st') :
    ∀ (es : List Int) (s : Int) (st : MSt) (v : Int) (st' : MSt), (∀ e ∈ es, P e) → s ≤ 65 → Did l z st0 st → mfold g es s st = some (v, st') → v = min 65 (s + sumL z es) ∧ Did l z st0 st'
  | [], s, st, v, st', _, hs, hd, h => by
    simp only [mfold, Option.some.injEq, Prod.mk.injEq] at h
    obtain ⟨rfl, rfl⟩ := h
    exact ⟨by simp only [sumL]; omega, hd⟩
  | e :: r, s, st, v, st', hP, hs, hd, h => by
    unfold mfold at h
    cases hq : g e st with
    | none => rw [hq] at h; cases h
    | some q =>
      rw [hq] at h
      obtain ⟨h1, h2⟩ := hg e st q.1 q.2 (hP e (List.mem_cons_self ..)) hq hd
      obtain ⟨h3, h4⟩ := mfold_right hz1 hg r _ _ v st' (fun x hx => hP x (List.mem_cons_of_mem _ hx)) (by omega) (hd.trans h2) h
      refine ⟨?_, h4⟩
      have hnn : 0 ≤ sumL z r := by have := sumL_ge (z := z) (to := r) (fun e _ => hz1 e); omega
      rw [h3, sumL, h1]
      omega

theorem msize_right {l : List Mp} {z : Int → Int} (hwf : Ends l true) (hz : SzEq l z) : ∀ (f : Nat) (c : Int) (st : MSt) (v : Int) (st' : MSt), msize l f c st = some (v, st') →
    (∀ k w, getKV st.M k = some w → w = -1 ∨ w = z k) → (∀ k, getKV st.M k = some (-1) → Desc l c k) → v = z c ∧ Did l z st st' ∧ (64 < z c → getKV st'.M c = some (z c))
  | 0, c, st, v, st', h, _, _ => by simp [msize] at h
  | f + 1, c, st, v, st', h, hv, hd => by
    have hge := sz_ge hwf hz
    have hzc := hz c
    unfold msize at h
    cases ho : onceOf l c true with
    | none =>
      rw [ho] at hzc
      simp only [ho, Option.some.injEq, Prod.mk.injEq] at h
      obtain ⟨rfl, rfl⟩ := h
      exact ⟨hzc.symm, Did.refl hv, fun h => by rw [hzc] at h; simp at h⟩
    | some to =>
      rw [ho] at hzc
      cases to with
      | nil =>
        simp only [combZ] at hzc
        simp only [ho, Option.some.injEq, Prod.mk.injEq] at h
        obtain ⟨rfl, rfl⟩ := h
        exact ⟨hzc.symm, Did.refl hv, fun h => by rw [hzc] at h; simp at h⟩
      | cons x r =>
        simp only [combZ] at hzc
        simp only [ho] at h
        cases hk : getKV st.M c with
        | some k =>
          simp only [hk, Option.some.injEq, Prod.mk.injEq] at h
          obtain ⟨rfl, rfl⟩ := h
          have hne : k ≠ -1 := fun e => no_cycle (hwf c) (hd c (by rw [hk, e]))
          have hkz : k = z c := (hv c k hk).resolve_left hne
          have h1 := hge c
          have hb : (k == -1) = false := by simpa using hne
          refine ⟨by omega, ?_, fun _ => by simp only; rw [hk, hkz]⟩
          simp only [hb, Bool.or_false]
          exact Did.refl hv
        | none =>
          simp only [hk] at h
          cases hf : mfold (msize l f) (x :: r) 0 { st with M := setKV st.M c (-1) } with
          | none => rw [hf] at h; cases h
          | some q =>
            rw [hf] at h
            simp only [Option.some.injEq, Prod.mk.injEq] at h
            obtain ⟨rfl, rfl⟩ := h
            have hv1 : ∀ k w, getKV (setKV st.M c (-1)) k = some w → w = -1 ∨ w = z k := fun k w hw => by
              rw [getKV_set] at hw
              split at hw
              · injection hw with hw; exact .inl hw.symm
              · exact hv k w hw
            have hd1 : ∀ e, Child l true e c → ∀ k, getKV (setKV st.M c (-1)) k = some (-1) → Desc l e k := fun e he k hk' => by
              rw [getKV_set] at hk'
              split at hk'
              · rename_i e'; subst e'; exact .one he
              · exact .more he (hd k hk')
            obtain ⟨a1, a2⟩ := mfold_right (l := l) (z := z) (g := msize l f) (P := fun e => Child l true e c) (st0 := { st with M := setKV st.M c (-1) }) hge
              (fun e st1 v1 st1' he h1 hdid => by
                obtain ⟨b1, b2, _⟩ := msize_right hwf hz f e st1 v1 st1' h1 hdid.r.val (fun k hk' => hd1 e he k ((hdid.r.open_ k).1 hk'))
                exact ⟨b1, b2⟩) (x :: r) 0 _ q.1 q.2 (fun e he => ⟨_, ho, he⟩) (by omega) (Did.refl hv1) hf
            have hq1 : q.1 = z c := by rw [a1, hzc, Int.zero_add]
            have hzz := hge c
            have hqc : getKV q.2.M c = some (-1) := (a2.r.open_ c).2 (by simp only; rw [getKV_set, if_pos rfl])
            refine ⟨hq1, ⟨⟨a2.r.cyc, fun k w hw => ?_, fun k => ?_, fun k w hw => ?_⟩, fun hL => ?_⟩, fun _ => by simp only; rw [getKV_set, if_pos rfl, hq1]⟩
            · simp only at hw
              rw [getKV_set] at hw
              split at hw
              · rename_i e; subst e; injection hw with hw; exact .inr (by rw [← hw, hq1])
              · exact a2.r.val k w hw
            · simp only
              rw [getKV_set]
              split
              · rename_i e; subst e
                rw [hk]
                constructor
                · intro h; injection h with h; omega
                · intro h; cases h
              · rename_i e
                have := a2.r.open_ k
                simp only at this
                rw [getKV_set, if_neg e] at this
                exact this
            · simp only
              have hne : c ≠ k := fun e => by subst e; rw [hk] at hw; cases hw
              rw [getKV_set, if_neg hne]
              refine a2.r.stays k w ?_
              simp only
              rw [getKV_set, if_neg hne]; exact hw
            · have hL1 : Longs { st with M := setKV st.M c (-1) } := by
                unfold Longs at hL ⊢
                simp only
                rw [hL]
                constructor
                · rintro ⟨k, w, h1, h2⟩
                  have hne : c ≠ k := fun e => by subst e; rw [hk] at h1; cases h1
                  exact ⟨k, w, by rw [getKV_set, if_neg hne]; exact h1, h2⟩
                · rintro ⟨k, w, h1, h2⟩
                  rw [getKV_set] at h1
                  split at h1
                  · injection h1 with h1; omega
                  · exact ⟨k, w, h1, h2⟩
              have hL2 := a2.long hL1
              unfold Longs at hL2 ⊢
              simp only [Bool.or_eq_true, decide_eq_true_eq]
              rw [hL2]
              constructor
              · rintro (⟨k, w, h1, h2⟩ | h)
                · have hne : c ≠ k := fun e => by subst e; rw [hqc] at h1; injection h1 with h1; omega
                  exact ⟨k, w, by rw [getKV_set, if_neg hne]; exact h1, h2⟩
                · exact ⟨c, q.1, by rw [getKV_set, if_pos rfl], h⟩
              · rintro ⟨k, w, h1, h2⟩
                rw [getKV_set] at h1
                split at h1
                · injection h1 with h1; exact .inr (by omega)
                · exact .inl ⟨k, w, h1, h2⟩

theorem mall_right {l : List Mp} {z : Int → Int} (hwf : Ends l true) (hz : SzEq l z) {f : Nat} : ∀ (r : List Mp) (st st' : MSt), mall l f r st = some st' → (∀ k w, getKV st.M k = some w → w = -1 ∨ w = z k) → (∀ k, getKV st.M k ≠ some (-1)) →
    Did l z st st' ∧ ∀ m ∈ r, 64 < z m.src → getKV st'.M m.src = some (z m.src)
  | [], st, st', h, hv, _ => by
    simp only [mall, Option.some.injEq] at h
    subst h
    exact ⟨Did.refl hv, by simp⟩
  | m :: r, st, st', h, hv, hn => by
    unfold mall at h
    cases hq : msize l f m.src st with
    | none => rw [hq] at h; cases h
    | some q =>
      rw [hq] at h
      obtain ⟨_, h2, h3⟩ := msize_right hwf hz f m.src st q.1 q.2 hq hv (fun k hk => absurd hk (hn k))
      obtain ⟨h4, h5⟩ := mall_right hwf hz r q.2 st' h h2.r.val (fun k hk => hn k ((h2.r.open_ k).1 hk))
      refine ⟨h2.trans h4, fun x hx h64 => ?_⟩
      rcases List.mem_cons.1 hx with rfl | hx
      · exact h4.r.stays _ _ (h3 h64)
      · exact h5 x hx h64

theorem mfold_cyc {g : Int → MSt → Option (Int × MSt)} (hg : ∀ c st v st', g c st = some (v, st') → st.cyc = true → st'.cyc = true) : ∀ (es : List Int) (s : Int) (st1 : MSt) (q : Int × MSt), mfold g es s st1 = some q → st1.cyc = true → q.2.cyc = true
  | [], s, st1, q, h1, h2 => by simp only [mfold, Option.some.injEq] at h1; subst h1; exact h2
  | e :: es, s, st1, q, h1, h2 => by
    unfold mfold at h1
    cases hp : g e st1 with
    | none => rw [hp] at h1; cases h1
    | some p => rw [hp] at h1; exact mfold_cyc hg es _ _ _ h1 (hg e st1 p.1 p.2 hp h2)
theorem msize_cyc {l : List Mp} : ∀ (f : Nat) (c : Int) (st : MSt) (v : Int) (st' : MSt), msize l f c st = some (v, st') → st.cyc = true → st'.cyc = true
  | 0, c, st, v, st', h, _ => by simp [msize] at h
  | f + 1, c, st, v, st', h, hc => by
    unfold msize at h
    cases ho : onceOf l c true with
    | none => simp only [ho, Option.some.injEq, Prod.mk.injEq] at h; rw [← h.2]; exact hc
    | some to =>
      cases to with
      | nil => simp only [ho, Option.some.injEq, Prod.mk.injEq] at h; rw [← h.2]; exact hc
      | cons x r =>
        simp only [ho] at h
        cases hk : getKV st.M c with
        | some k => simp only [hk, Option.some.injEq, Prod.mk.injEq] at h; rw [← h.2]; simp [hc]
        | none =>
          simp only [hk] at h
          cases hf : mfold (msize l f) (x :: r) 0 { st with M := setKV st.M c (-1) } with
          | none => rw [hf] at h; cases h
          | some q =>
            rw [hf] at h
            simp only [Option.some.injEq, Prod.mk.injEq] at h
            rw [← h.2]
            exact mfold_cyc (fun c st v st' => msize_cyc f c st v st') _ _ _ _ hf hc
theorem msize_acc {l : List Mp} : ∀ (f : Nat) (c : Int) (st : MSt) (v : Int) (st' : MSt), msize l f c st = some (v, st') → st'.cyc = false → (∀ k w, getKV st.M k = some w → w ≠ -1 → Acc (Child l true) k) →
    Acc (Child l true) c ∧ (∀ k w, getKV st'.M k = some w → w ≠ -1 → Acc (Child l true) k) ∧ st.cyc = false
  | 0, c, st, v, st', h, _, _ => by simp [msize] at h
  | f + 1, c, st, v, st', h, hcy, ha => by
    unfold msize at h
    cases ho : onceOf l c true with
    | none =>
      simp only [ho, Option.some.injEq, Prod.mk.injEq] at h
      obtain ⟨_, rfl⟩ := h
      exact ⟨⟨c, fun e ⟨to, he, _⟩ => by rw [ho] at he; cases he⟩, ha, hcy⟩
    | some to =>
      cases to with
      | nil =>
        simp only [ho, Option.some.injEq, Prod.mk.injEq] at h
        obtain ⟨_, rfl⟩ := h
        exact ⟨⟨c, fun e ⟨to, he, hm⟩ => by rw [ho] at he; injection he with he; subst he; simp at hm⟩, ha, hcy⟩
      | cons x r =>
        simp only [ho] at h
        cases hk : getKV st.M c with
        | some k =>
          simp only [hk, Option.some.injEq, Prod.mk.injEq] at h
          obtain ⟨_, rfl⟩ := h
          simp only [Bool.or_eq_false_iff] at hcy
          exact ⟨ha c k hk (by simpa using hcy.2), ha, hcy.1⟩
        | none =>
          simp only [hk] at h
          cases hf : mfold (msize l f) (x :: r) 0 { st with M := setKV st.M c (-1) } with
          | none => rw [hf] at h; cases h
          | some q =>
            rw [hf] at h
            simp only [Option.some.injEq, Prod.mk.injEq] at h
            obtain ⟨_, rfl⟩ := h
            simp only at hcy
            have hfold : ∀ (es : List Int) (s : Int) (st1 : MSt), mfold (msize l f) es s st1 = some q → (∀ k w, getKV st1.M k = some w → w ≠ -1 → Acc (Child l true) k) →
                (∀ e ∈ es, Acc (Child l true) e) ∧ (∀ k w, getKV q.2.M k = some w → w ≠ -1 → Acc (Child l true) k) ∧ st1.cyc = false := by
              intro es
              induction es with
              | nil =>
                intro s st1 h1 h2
                simp only [mfold, Option.some.injEq] at h1
                subst h1
                exact ⟨by simp, h2, hcy⟩
              | cons e es ih =>
                intro s st1 h1 h2
                unfold mfold at h1
                cases hp : msize l f e st1 with
                | none => rw [hp] at h1; cases h1
                | some p =>
                  rw [hp] at h1
                  have hcyc : p.2.cyc = false := by
                    cases hc : p.2.cyc
                    · rfl
                    · exact absurd (mfold_cyc (fun c st v st' => msize_cyc f c st v st') _ _ _ _ h1 hc) (by rw [hcy]; simp)
                  obtain ⟨b1, b2, b3⟩ := msize_acc f e st1 p.1 p.2 hp hcyc h2
                  obtain ⟨c1, c2, _⟩ := ih _ _ h1 b2
                  refine ⟨fun y hy => ?_, c2, b3⟩
                  rcases List.mem_cons.1 hy with rfl | hy
                  · exact b1
                  · exact c1 y hy
            obtain ⟨d1, d2, d3⟩ := hfold (x :: r) 0 _ hf (fun k w hw hne => by
              simp only at hw
              rw [getKV_set] at hw
              split at hw
              · injection hw with hw; exact absurd hw.symm hne
              · exact ha k w hw hne)
            have hacc : Acc (Child l true) c := ⟨c, fun e ⟨to, he, hm⟩ => by
              rw [ho] at he
              injection he with he
              subst he
              exact d1 e hm⟩
            refine ⟨hacc, fun k w hw hne => ?_, d3⟩
            simp only at hw
            rw [getKV_set] at hw
            split at hw
            · rename_i e; subst e; exact hacc
            · exact d2 k w hw hne
theorem mall_acc {l : List Mp} {f : Nat} : ∀ (r : List Mp) (st st' : MSt), mall l f r st = some st' → st'.cyc = false → (∀ k w, getKV st.M k = some w → w ≠ -1 → Acc (Child l true) k) → (∀ m ∈ r, Acc (Child l true) m.src) ∧ st.cyc = false
  | [], st, st', h, hcy, _ => by
    simp only [mall, Option.some.injEq] at h
    subst h
    exact ⟨by simp, hcy⟩
  | m :: r, st, st', h, hcy, ha => by
    unfold mall at h
    cases hq : msize l f m.src st with
    | none => rw [hq] at h; cases h
    | some q =>
      rw [hq] at h
      -- the keys that are finished behind this mapping
      have key : q.2.cyc = false := by
        have : ∀ (r : List Mp) (st st' : MSt), mall l f r st = some st' → st'.cyc = false → st.cyc = false := by
          intro r
          induction r with
          | nil => intro st st' h hc; simp only [mall, Option.some.injEq] at h; subst h; exact hc
          | cons m r ih =>
            intro st st' h hc
            unfold mall at h
            cases hq : msize l f m.src st with
            | none => rw [hq] at h; cases h
            | some q =>
              rw [hq] at h
              have h1 := ih _ _ h hc
              cases hs : st.cyc
              · rfl
              · exact absurd (msize_cyc f m.src st q.1 q.2 hq hs) (by rw [h1]; simp)
        exact this r q.2 st' h hcy
      obtain ⟨b1, b2, b3⟩ := msize_acc f m.src st q.1 q.2 hq key ha
      obtain ⟨c1, _⟩ := mall_acc r q.2 st' h hcy b2
      refine ⟨fun x hx => ?_, b3⟩
      rcases List.mem_cons.1 hx with rfl | hx
      · exact b1
      · exact c1 x hx
end Go.Proofs.YtbhglkofaendjaaGreatDoor
namespace Go.Proofs.YtbhglkofaendjaaGreatDoor

theorem src_kind {l : List Mp} (_hs : MpSorted l) (hh : l.any srcHangul = false) {i : Nat} {m : Mp} (h : l[i]? = some m) : kind m.src = 0 := by
  have := any_false_at hh h
  simpa [srcHangul] using this
theorem once_src {l : List Mp} (hs : MpSorted l) (hh : l.any srcHangul = false) {i : Nat} {m : Mp} (h : l[i]? = some m) : onceOf l m.src true = some m.to := by
  unfold onceOf
  rw [if_neg (by rw [src_kind hs hh h]; omega), mapOf_some hs h rfl, if_pos (by simp)]
theorem findM_true_some {l : List Mp} (_hs : MpSorted l) (_hh : l.any srcHangul = false) {c : Int} {i : Nat} (h : findM l c true = some i) : ∃ m, l[i]? = some m ∧ m.src = c := by
  unfold findM at h
  obtain ⟨h1, h2, _⟩ := List.findIdx?_eq_some_iff_getElem.1 h
  exact ⟨l[i], List.getElem?_eq_getElem h1, by simpa [fits] using h2⟩
theorem findM_true_src {l : List Mp} (hs : MpSorted l) (_hh : l.any srcHangul = false) {i : Nat} {m : Mp} (h : l[i]? = some m) : findM l m.src true = some i := by
  refine findM_hit ?_ h (by simp [fits])
  rw [List.any_eq_false]
  intro x hx
  obtain ⟨j, hj, e⟩ := List.getElem_of_mem hx
  rw [List.length_take] at hj
  rw [List.getElem_take] at e
  have := hs j i x m (by omega) (by rw [List.getElem?_eq_getElem (by omega), e]) h
  simp [fits]; omega
theorem findM_true_none {l : List Mp} (_hs : MpSorted l) (_hh : l.any srcHangul = false) {c : Int} (h : findM l c true = none) : onceOf l c true = none ∨ 4 ≤ kind c := by
  by_cases hk : 4 ≤ kind c
  · exact .inr hk
  · refine .inl ?_
    unfold onceOf
    rw [if_neg hk]
    refine mapOf_none fun m hm e => ?_
    unfold findM at h
    rw [List.findIdx?_eq_none_iff] at h
    have := h m hm
    simp [fits, e] at this
theorem acc_none {l : List Mp} (_hs : MpSorted l) (_hh : l.any srcHangul = false) {c : Int} {cp : Bool} (h : onceOf l c cp = none) : Acc (Child l cp) c := ⟨c, fun e ⟨to, he, _⟩ => by rw [h] at he; cases he⟩
theorem acc_hangul {l : List Mp} (hs : MpSorted l) (hh : l.any srcHangul = false) {c : Int} {cp : Bool} (h : 4 ≤ kind c) : Acc (Child l cp) c := ⟨c, fun e ⟨to, he, hm⟩ => by
  unfold onceOf at he
  rw [if_pos h] at he
  injection he with he
  subst he
  exact acc_none hs hh (onceOf_jamo hh (kind_parts h e hm))⟩
theorem ends_of_src {l : List Mp} (hs : MpSorted l) (hh : l.any srcHangul = false) (h : ∀ m ∈ l, Acc (Child l true) m.src) : Ends l true := fun c => by
  cases hf : findM l c true with
  | none =>
    rcases findM_true_none hs hh hf with h1 | h1
    · exact acc_none hs hh h1
    · exact acc_hangul hs hh h1
  | some i =>
    obtain ⟨m, hm, e⟩ := findM_true_some hs hh hf
    rw [← e]
    exact h m (mem_of_getElem?_some hm)
/-- The search finds a cycle exactly if replacing does not end. -/
theorem meas_cyc {l : List Mp} (hs : MpSorted l) (hh : l.any srcHangul = false) : (measOf l).cyc = false ↔ Ends l true := by
  have h := measOf_eq l hh
  constructor
  · intro hc
    exact ends_of_src hs hh (mall_acc l _ _ h hc (fun k w hw => by simp [getKV] at hw)).1
  · intro hwf
    obtain ⟨z, hz⟩ := sz_exists hwf
    obtain ⟨h1, _⟩ := mall_right hwf hz l _ _ h (fun k w hw => by simp [getKV] at hw) (fun k hk => by simp [getKV] at hk)
    exact h1.r.cyc
theorem sz_hangul {l : List Mp} (_hs : MpSorted l) (hh : l.any srcHangul = false) {z : Int → Int} (hz : SzEq l z) {c : Int} (h : 4 ≤ kind c) : z c = (decompH c).length := by
  have ho : onceOf l c true = some (decompH c) := if_pos h
  have hj : ∀ e ∈ decompH c, z e = 1 := fun e he => by rw [hz e, onceOf_jamo hh (kind_parts h e he)]
  rw [hz c, ho]
  have hlen := decompH_length c
  have hsum : ∀ es : List Int, (∀ e ∈ es, z e = 1) → sumL z es = es.length := by
    intro es
    induction es with
    | nil => intro _; rfl
    | cons e es ih =>
      intro h1
      rw [sumL, h1 e (List.mem_cons_self ..), ih (fun x hx => h1 x (List.mem_cons_of_mem _ hx))]
      simp; omega
  show combZ (decompH c) z = _
  cases hd : decompH c with
  | nil => rw [hd] at hlen; simp at hlen
  | cons x r =>
    show min 65 (sumL z (x :: r)) = _
    rw [← hd, hsum _ hj]
    omega
theorem meas_long {l : List Mp} (hs : MpSorted l) (hh : l.any srcHangul = false) {z : Int → Int} (hwf : Ends l true) (hz : SzEq l z) : (measOf l).long = true ↔ ∃ m ∈ l, 64 < z m.src := by
  obtain ⟨h1, h2⟩ := mall_right hwf hz l _ _ (measOf_eq l hh) (fun k w hw => by simp [getKV] at hw) (fun k hk => by simp [getKV] at hk)
  have hL := h1.long (show Longs ⟨[], false, false⟩ from ⟨(fun h => by cases h), fun ⟨k, w, h, _⟩ => by simp [getKV] at h⟩)
  unfold Longs at hL
  rw [hL]
  constructor
  · rintro ⟨k, w, hk, hw⟩
    have hkz : w = z k := (h1.r.val k w hk).resolve_left (by omega)
    cases hf : findM l k true with
    | none =>
      rcases findM_true_none hs hh hf with h3 | h3
      · have := hz k; rw [h3] at this; simp only at this; omega
      · have := sz_hangul hs hh hz h3; have := decompH_length k; omega
    | some i =>
      obtain ⟨m, hm, e⟩ := findM_true_some hs hh hf
      exact ⟨m, mem_of_getElem?_some hm, by rw [e]; omega⟩
  · rintro ⟨m, hm, h⟩
    exact ⟨m.src, _, h2 m hm h, h⟩

/-- What the rounds have marked as ending ends. -/
def EndsRight (l : List Mp) (out : List Bool) : Prop := ∀ (i : Nat) (m : Mp), out[i]? = some true → l[i]? = some m → Acc (Child l true) m.src
theorem endOk_acc {l : List Mp} (hs : MpSorted l) (hh : l.any srcHangul = false) {out : List Bool} (h : EndsRight l out) {c : Int} (hc : endOk l out c = true) : Acc (Child l true) c := by
  unfold endOk at hc
  cases hf : findM l c true with
  | none =>
    rcases findM_true_none hs hh hf with h1 | h1
    · exact acc_none hs hh h1
    · exact acc_hangul hs hh h1
  | some i =>
    rw [hf] at hc
    simp only at hc
    obtain ⟨m, hm, e⟩ := findM_true_some hs hh hf
    rw [← e]
    refine h i m ?_ hm
    cases ho : out[i]? with
    | none => rw [ho] at hc; simp at hc
    | some b => rw [ho] at hc; simp at hc; rw [hc]
theorem endStep_right {l : List Mp} (hs : MpSorted l) (hh : l.any srcHangul = false) {out : List Bool} (h : EndsRight l out) (i : Nat) : EndsRight l (endStep l out i) := by
  intro j m hj hm
  unfold endStep at hj
  rw [List.getElem?_set] at hj
  split at hj
  · rename_i e
    subst e
    split at hj
    · injection hj with hj
      rw [hm] at hj
      simp only [Option.map_some, Option.getD_some, List.all_eq_true] at hj
      exact ⟨m.src, fun e ⟨to, he, hme⟩ => by
        rw [once_src hs hh hm] at he
        injection he with he
        subst he
        exact endOk_acc hs hh h (hj e hme)⟩
    · cases hj
  · exact h j m hj hm
theorem foldl_right {l : List Mp} (hs : MpSorted l) (hh : l.any srcHangul = false) : ∀ (ks : List Nat) (out : List Bool), EndsRight l out → EndsRight l (ks.foldl (endStep l) out)
  | [], _, h => h
  | k :: ks, _, h => foldl_right hs hh ks _ (endStep_right hs hh h k)
theorem iter_right {l : List Mp} (hs : MpSorted l) (hh : l.any srcHangul = false) : ∀ (r : Nat) (out : List Bool), EndsRight l out → EndsRight l (iter (endRound l) r out)
  | 0, _, h => h
  | r + 1, out, h => foldl_right hs hh _ _ (iter_right hs hh r out h)
theorem ends_sound {l : List Mp} (hs : MpSorted l) (hh : l.any srcHangul = false) (h : (refEnds l).all id = true) : Ends l true := by
  refine ends_of_src hs hh fun m hm => ?_
  obtain ⟨i, hi, e⟩ := List.getElem_of_mem hm
  have hr : EndsRight l (refEnds l) := iter_right hs hh _ _ (fun i m h1 _ => by
    have := List.eq_of_mem_replicate (List.mem_of_getElem? h1)
    cases this)
  refine hr i m ?_ (by rw [List.getElem?_eq_getElem hi, e])
  have hlen := refEnds_length l
  rw [List.getElem?_eq_getElem (by omega)]
  rw [List.all_eq_true] at h
  have := h _ (List.getElem_mem (l := refEnds l) (n := i) (by omega))
  simpa using this
/-- Marks only grow. -/
def LeB (a b : List Bool) : Prop := a.length = b.length ∧ ∀ i : Nat, a[i]? = some true → b[i]? = some true
theorem LeB.refl (a : List Bool) : LeB a a := ⟨rfl, fun _ h => h⟩
theorem LeB.trans {a b c : List Bool} (h : LeB a b) (k : LeB b c) : LeB a c := ⟨h.1.trans k.1, fun i x => k.2 i (h.2 i x)⟩
theorem LeB.antisymm {a b : List Bool} (h : LeB a b) (k : LeB b a) : a = b := by
  refine List.ext_getElem? fun i => ?_
  rcases Nat.lt_or_ge i a.length with hi | hi
  · have hb : i < b.length := by rw [← h.1]; exact hi
    rw [List.getElem?_eq_getElem hi, List.getElem?_eq_getElem hb]
    have h1 := h.2 i
    have h2 := k.2 i
    rw [List.getElem?_eq_getElem hi, List.getElem?_eq_getElem hb] at h1
    rw [List.getElem?_eq_getElem hi, List.getElem?_eq_getElem hb] at h2
    cases ha : a[i] <;> cases hb' : b[i] <;> simp [ha, hb'] at h1 h2 ⊢
  · rw [List.getElem?_eq_none hi, List.getElem?_eq_none (by rw [← h.1]; exact hi)]
theorem LeB.count {a b : List Bool} (h : LeB a b) : a.count true ≤ b.count true ∧ (a.count true = b.count true → a = b) := by
  obtain ⟨h1, h2⟩ := h
  induction a generalizing b with
  | nil =>
    cases b with
    | nil => simp
    | cons y b => simp at h1
  | cons x a ih =>
    cases b with
    | nil => simp at h1
    | cons y b =>
      have ih' := ih (b := b) (by simpa using h1) (fun i hi => by have := h2 (i + 1); simpa using this (by simpa using hi))
      have h0 := h2 0
      simp only [List.getElem?_cons_zero, Option.some.injEq] at h0
      cases x <;> cases y
      · simp only [List.count_cons, beq_iff_eq, Bool.false_eq_true, if_false, Nat.add_zero, List.cons.injEq, true_and]; exact ih'
      · simp only [List.count_cons]
        simp
        omega
      · simp at h0
      · simp only [List.count_cons, beq_self_eq_true, if_true, List.cons.injEq, true_and]
        exact ⟨by omega, fun h => ih'.2 (by omega)⟩
theorem endOk_mono {l : List Mp} {a b : List Bool} (h : LeB a b) {c : Int} (hc : endOk l a c = true) : endOk l b c = true := by
  unfold endOk at hc ⊢
  cases hf : findM l c true with
  | none => rfl
  | some i =>
    rw [hf] at hc
    simp only at hc ⊢
    cases ha : a[i]? with
    | none => rw [ha] at hc; simp at hc
    | some x =>
      rw [ha] at hc
      simp at hc
      subst hc
      rw [h.2 i ha]; rfl
/-- Each mark has its reasons. -/
def Cons (l : List Mp) (out : List Bool) : Prop := ∀ (i : Nat) (m : Mp), out[i]? = some true → l[i]? = some m → m.to.all (endOk l out) = true
theorem endStep_le {l : List Mp} {out : List Bool} (hc : Cons l out) {i : Nat} {m : Mp} (hm : l[i]? = some m) : LeB out (endStep l out i) ∧ Cons l (endStep l out i) := by
  have hle : LeB out (endStep l out i) := by
    refine ⟨(endStep_length l out i).symm, fun j hj => ?_⟩
    unfold endStep
    rw [List.getElem?_set]
    split
    · rename_i e
      subst e
      rw [if_pos (lt_of_getElem?_some hj), hm]
      simp only [Option.map_some, Option.getD_some]
      rw [hc i m hj hm]
    · exact hj
  refine ⟨hle, fun j m' hj hm' => ?_⟩
  have hall : m'.to.all (endOk l out) = true := by
    unfold endStep at hj
    rw [List.getElem?_set] at hj
    split at hj
    · rename_i e
      subst e
      split at hj
      · injection hj with hj
        rw [hm'] at hj
        simpa using hj
      · cases hj
    · exact hc j m' hj hm'
  rw [List.all_eq_true] at hall ⊢
  exact fun x hx => endOk_mono hle (hall x hx)
theorem foldl_le {l : List Mp} : ∀ (ks : List Nat) (out : List Bool), (∀ k ∈ ks, k < l.length) → Cons l out → LeB out (ks.foldl (endStep l) out) ∧ Cons l (ks.foldl (endStep l) out)
  | [], out, _, h => ⟨LeB.refl _, h⟩
  | k :: ks, out, hk, h => by
    obtain ⟨m, hm⟩ := getElem?_some_of_lt (hk k (List.mem_cons_self ..))
    obtain ⟨h1, h2⟩ := endStep_le h hm
    obtain ⟨h3, h4⟩ := foldl_le ks _ (fun x hx => hk x (List.mem_cons_of_mem _ hx)) h2
    exact ⟨h1.trans h3, h4⟩
theorem round_le {l : List Mp} {out : List Bool} (h : Cons l out) : LeB out (endRound l out) ∧ Cons l (endRound l out) := foldl_le _ _ (fun _k hk => List.mem_range.1 hk) h
/-- A round that changes nothing. -/
theorem round_fix {l : List Mp} {out : List Bool} (h : Cons l out) (hf : endRound l out = out) {i : Nat} {m : Mp} (hm : l[i]? = some m) (hlen : out.length = l.length) : out[i]? = some (m.to.all (endOk l out)) := by
  have hi := lt_of_getElem?_some hm
  have key : ∀ (ks : List Nat) (o : List Bool), (∀ k ∈ ks, k < l.length) → Cons l o → o = out → ks.foldl (endStep l) o = out → ∀ k ∈ ks, endStep l out k = out := by
    intro ks
    induction ks with
    | nil => intro o _ _ _ _ k hk; simp at hk
    | cons k ks ih =>
      intro o hks ho e hfold j hj
      subst e
      obtain ⟨m, hm⟩ := getElem?_some_of_lt (hks k (List.mem_cons_self ..))
      obtain ⟨h1, h2⟩ := endStep_le ho hm
      obtain ⟨h3, _⟩ := foldl_le ks _ (fun x hx => hks x (List.mem_cons_of_mem _ hx)) h2
      rw [List.foldl_cons] at hfold
      rw [hfold] at h3
      have he : endStep l o k = o := LeB.antisymm h3 h1
      rcases List.mem_cons.1 hj with rfl | hj
      · exact he
      · exact ih o (fun x hx => hks x (List.mem_cons_of_mem _ hx)) ho rfl (by rw [he] at hfold; exact hfold) j hj
  have := key (List.range l.length) out (fun k hk => List.mem_range.1 hk) h rfl hf i (List.mem_range.2 hi)
  rw [← this]
  unfold endStep
  rw [List.getElem?_set_self (by omega), hm]
  simp only [Option.map_some, Option.getD_some]
  congr 1
  have h2 : out.set i ((l[i]?.map (·.to)).getD [] |>.all (endOk l out)) = out := this
  rw [hm] at h2
  simp only [Option.map_some, Option.getD_some] at h2
  rw [h2]
theorem rounds_count {l : List Mp} {o0 : List Bool} (h0 : Cons l o0) : ∀ r : Nat, Cons l (iter (endRound l) r o0) ∧ (endRound l (iter (endRound l) r o0) = iter (endRound l) r o0 ∨ r ≤ (iter (endRound l) r o0).count true)
  | 0 => ⟨h0, .inr (Nat.zero_le _)⟩
  | r + 1 => by
    obtain ⟨hc, hr⟩ := rounds_count h0 r
    obtain ⟨h1, h2⟩ := round_le hc
    refine ⟨h2, ?_⟩
    simp only [iter]
    rcases hr with hr | hr
    · exact .inl (by rw [hr, hr])
    · obtain ⟨c1, c2⟩ := h1.count
      by_cases he : (iter (endRound l) r o0).count true = (endRound l (iter (endRound l) r o0)).count true
      · exact .inl (by rw [← c2 he, ← c2 he])
      · exact .inr (by omega)
theorem ends_complete {l : List Mp} (hs : MpSorted l) (hh : l.any srcHangul = false) (hwf : Ends l true) : (refEnds l).all id = true := by
  have h0 : Cons l (List.replicate l.length false) := fun i m h1 _ => by
    have := List.eq_of_mem_replicate (List.mem_of_getElem? h1)
    cases this
  obtain ⟨hc, hr⟩ := rounds_count h0 l.length
  have hlen := refEnds_length l
  change Cons l (refEnds l) at hc
  change endRound l (refEnds l) = refEnds l ∨ l.length ≤ (refEnds l).count true at hr
  rw [List.all_eq_true]
  rcases hr with hr | hr
  · have key : ∀ (c : Int) (i : Nat) (m : Mp), l[i]? = some m → m.src = c → (refEnds l)[i]? = some true := by
      intro c
      induction hwf c with
      | intro c _ ih =>
        intro i m hm hc'
        rw [round_fix hc hr hm hlen]
        congr 1
        rw [List.all_eq_true]
        intro e he
        unfold endOk
        cases hf : findM l e true with
        | none => rfl
        | some j =>
          obtain ⟨m', hm', e'⟩ := findM_true_some hs hh hf
          simp only
          rw [ih e ⟨m.to, by rw [← hc']; exact once_src hs hh hm, he⟩ j m' hm' e']
          rfl
    intro b hb
    obtain ⟨i, hi, e⟩ := List.getElem_of_mem hb
    obtain ⟨m, hm⟩ := getElem?_some_of_lt (l := l) (k := i) (by omega)
    have := key m.src i m hm rfl
    rw [List.getElem?_eq_getElem hi, e] at this
    simpa using this
  · intro b hb
    have : (refEnds l).count true = (refEnds l).length := Nat.le_antisymm List.count_le_length (by omega)
    rw [List.count_eq_length] at this
    simpa using (this b hb).symm
end Go.Proofs.YtbhglkofaendjaaGreatDoor
namespace Go.Proofs.YtbhglkofaendjaaGreatDoor

/-- Where replacing is known to end, the length is right. -/
def LenRight (l : List Mp) (z : Int → Int) (E : List Bool) (L : List Int) : Prop := L.length = l.length ∧ E.length = l.length ∧ ∀ (i : Nat) (m : Mp), E[i]? = some true → l[i]? = some m → L[i]? = some (z m.src)
theorem sz_notIn {l : List Mp} (hs : MpSorted l) (hh : l.any srcHangul = false) {z : Int → Int} (hz : SzEq l z) {c : Int} (hf : findM l c true = none) : z c = (decompH c).length := by
  rcases findM_true_none hs hh hf with h | h
  · have hk : kind c < 4 := by
      rcases Int.lt_or_le (kind c) 4 with hk | hk
      · exact hk
      · unfold onceOf at h; rw [if_pos hk] at h; cases h
    rw [hz c, h]
    unfold decompH
    rw [if_pos hk]; rfl
  · exact sz_hangul hs hh hz h
theorem lenOf_right {l : List Mp} (hs : MpSorted l) (hh : l.any srcHangul = false) {z : Int → Int} (hz : SzEq l z) {E : List Bool} {L : List Int} (h : LenRight l z E L) {c : Int} (hc : endOk l E c = true) : lenOf l true L c = z c := by
  unfold lenOf
  cases hf : findM l c true with
  | none => simp only; exact (sz_notIn hs hh hz hf).symm
  | some i =>
    unfold endOk at hc
    rw [hf] at hc
    simp only at hc ⊢
    obtain ⟨m, hm, e⟩ := findM_true_some hs hh hf
    have : E[i]? = some true := by
      cases he : E[i]? with
      | none => rw [he] at hc; simp at hc
      | some b => rw [he] at hc; simp at hc; rw [hc]
    rw [h.2.2 i m this hm, e]; rfl
theorem lenSum_eq (l : List Mp) (cp : Bool) (L to : List Int) : lenSum l cp L to = sumL (lenOf l cp L) to := by
  have : ∀ (to : List Int) (a : Int), to.foldl (fun n c => n + lenOf l cp L c) a = a + sumL (lenOf l cp L) to := by
    intro to
    induction to with
    | nil => intro a; simp [sumL]
    | cons x r ih => intro a; rw [List.foldl_cons, ih, sumL]; omega
  unfold lenSum
  rw [this]; omega
theorem combZ_eq {z : Int → Int} (to : List Int) (h : ∀ e ∈ to, 1 ≤ z e) : combZ to z = min (max (sumL z to) 1) 65 := by
  cases to with
  | nil => simp only [combZ, sumL]; omega
  | cons x r =>
    have := sumL_ge h
    simp only [combZ, List.length_cons] at this ⊢
    omega
theorem lenStep_right {l : List Mp} (hs : MpSorted l) (hh : l.any srcHangul = false) {z : Int → Int} (hwf : Ends l true) (hz : SzEq l z) {E : List Bool} {L : List Int} (h : LenRight l z E L) (i : Nat) : LenRight l z (endStep l E i) (lenStep l true L i) := by
  refine ⟨by rw [lenStep_length]; exact h.1, by rw [endStep_length]; exact h.2.1, fun j m hj hm => ?_⟩
  have hjl := lt_of_getElem?_some hm
  by_cases e : i = j
  · subst e
    unfold endStep at hj
    rw [List.getElem?_set_self (by rw [h.2.1]; exact hjl), hm] at hj
    simp only [Option.map_some, Option.getD_some, Option.some.injEq, List.all_eq_true] at hj
    unfold lenStep
    rw [hm]
    simp only
    rw [List.getElem?_set_self (by rw [h.1]; exact hjl)]
    congr 1
    unfold lenVal
    rw [if_neg (by simp), lenSum_eq, sumL_congr (fun x hx => lenOf_right hs hh hz h (hj x hx)), hz m.src, once_src hs hh hm]
    exact (combZ_eq _ (fun x _ => sz_ge hwf hz x)).symm
  · unfold endStep at hj
    rw [List.getElem?_set_ne e] at hj
    unfold lenStep
    split
    · exact h.2.2 j m hj hm
    · rw [List.getElem?_set_ne e]; exact h.2.2 j m hj hm
theorem foldl_lenRight {l : List Mp} (hs : MpSorted l) (hh : l.any srcHangul = false) {z : Int → Int} (hwf : Ends l true) (hz : SzEq l z) : ∀ (ks : List Nat) (E : List Bool) (L : List Int), LenRight l z E L → LenRight l z (ks.foldl (endStep l) E) (ks.foldl (lenStep l true) L)
  | [], _, _, h => h
  | k :: ks, _, _, h => foldl_lenRight hs hh hwf hz ks _ _ (lenStep_right hs hh hwf hz h k)
theorem iter_lenRight {l : List Mp} (hs : MpSorted l) (hh : l.any srcHangul = false) {z : Int → Int} (hwf : Ends l true) (hz : SzEq l z) : ∀ (r : Nat) (E : List Bool) (L : List Int), LenRight l z E L → LenRight l z (iter (endRound l) r E) (iter (lenRound l true) r L)
  | 0, _, _, h => h
  | r + 1, E, L, h => foldl_lenRight hs hh hwf hz _ _ _ (iter_lenRight hs hh hwf hz r E L h)
theorem lengths_right {l : List Mp} (hs : MpSorted l) (hh : l.any srcHangul = false) {z : Int → Int} (hwf : Ends l true) (hz : SzEq l z) {i : Nat} {m : Mp} (hm : l[i]? = some m) : (refLengths l true)[i]? = some (z m.src) := by
  have h := iter_lenRight hs hh hwf hz l.length (List.replicate l.length false) (List.replicate l.length 0) ⟨by simp, by simp, fun i m h1 _ => by
    have := List.eq_of_mem_replicate (List.mem_of_getElem? h1)
    cases this⟩
  refine h.2.2 i m ?_ hm
  have hall := ends_complete hs hh hwf
  have hi := lt_of_getElem?_some hm
  have hlen := refEnds_length l
  rw [List.all_eq_true] at hall
  have := hall _ (List.getElem_mem (l := refEnds l) (n := i) (by omega))
  change (refEnds l)[i]? = some true
  rw [List.getElem?_eq_getElem (by omega)]
  simpa using this
/-- Without compat none is longer. -/
def LenLe (l : List Mp) (z : Int → Int) (L : List Int) : Prop := L.length = l.length ∧ ∀ (i : Nat) (m : Mp) (v : Int), L[i]? = some v → l[i]? = some m → v ≤ z m.src
theorem findM_false_some {l : List Mp} {c : Int} {i : Nat} (h : findM l c false = some i) : ∃ m, l[i]? = some m ∧ m.src = c := by
  unfold findM at h
  obtain ⟨h1, h2, _⟩ := List.findIdx?_eq_some_iff_getElem.1 h
  simp only [fits, Bool.and_eq_true, decide_eq_true_eq] at h2
  exact ⟨l[i], List.getElem?_eq_getElem h1, h2.1⟩
theorem lenOf_le {l : List Mp} (hs : MpSorted l) (hh : l.any srcHangul = false) {z : Int → Int} (hwf : Ends l true) (hz : SzEq l z) {L : List Int} (h : LenLe l z L) (c : Int) : lenOf l false L c ≤ z c := by
  have hge := sz_ge hwf hz c
  unfold lenOf
  cases hf : findM l c false with
  | none =>
    simp only
    cases ht : findM l c true with
    | none => rw [sz_notIn hs hh hz ht]; omega
    | some i =>
      obtain ⟨m, hm, e⟩ := findM_true_some hs hh ht
      have hk := src_kind hs hh hm
      rw [e] at hk
      have : decompH c = [c] := by unfold decompH; rw [if_pos (by omega)]
      rw [this]; simpa using hge
  | some i =>
    simp only
    obtain ⟨m, hm, e⟩ := findM_false_some hf
    cases hL : L[i]? with
    | none => simp; omega
    | some v => simp only [Option.getD_some]; rw [← e]; exact h.2 i m v hL hm
theorem sumL_le {z z' : Int → Int} : ∀ (to : List Int), (∀ e ∈ to, z e ≤ z' e) → sumL z to ≤ sumL z' to
  | [], _ => by simp [sumL]
  | x :: r, h => by
    have h1 := h x (List.mem_cons_self ..)
    have h2 := sumL_le r (fun e he => h e (List.mem_cons_of_mem _ he))
    simp only [sumL]; omega
theorem lenStep_le {l : List Mp} (hs : MpSorted l) (hh : l.any srcHangul = false) {z : Int → Int} (hwf : Ends l true) (hz : SzEq l z) {L : List Int} (h : LenLe l z L) (i : Nat) : LenLe l z (lenStep l false L i) := by
  refine ⟨by rw [lenStep_length]; exact h.1, fun j m v hj hm => ?_⟩
  have hjl := lt_of_getElem?_some hm
  unfold lenStep at hj
  by_cases e : i = j
  · subst e
    rw [hm] at hj
    simp only at hj
    rw [List.getElem?_set_self (by rw [h.1]; exact hjl)] at hj
    injection hj with hj
    rw [← hj]
    unfold lenVal
    split
    · exact sz_ge hwf hz _
    · have h1 := sumL_le m.to (fun x _ => lenOf_le hs hh hwf hz h x)
      have h2 : z m.src = combZ m.to z := by have := hz m.src; rw [once_src hs hh hm] at this; exact this
      rw [h2, combZ_eq _ (fun x _ => sz_ge hwf hz x), lenSum_eq]
      omega
  · split at hj
    · exact h.2 j m v hj hm
    · rw [List.getElem?_set_ne e] at hj; exact h.2 j m v hj hm
theorem foldl_lenLe {l : List Mp} (hs : MpSorted l) (hh : l.any srcHangul = false) {z : Int → Int} (hwf : Ends l true) (hz : SzEq l z) : ∀ (ks : List Nat) (L : List Int), LenLe l z L → LenLe l z (ks.foldl (lenStep l false) L)
  | [], _, h => h
  | k :: ks, _, h => foldl_lenLe hs hh hwf hz ks _ (lenStep_le hs hh hwf hz h k)
theorem iter_lenLe {l : List Mp} (hs : MpSorted l) (hh : l.any srcHangul = false) {z : Int → Int} (hwf : Ends l true) (hz : SzEq l z) : ∀ (r : Nat) (L : List Int), LenLe l z L → LenLe l z (iter (lenRound l false) r L)
  | 0, _, h => h
  | r + 1, L, h => foldl_lenLe hs hh hwf hz _ _ (iter_lenLe hs hh hwf hz r L h)

theorem refTail_eq {n : Nrm} (hs : MpSorted n.decomp) (hh : n.decomp.any srcHangul = false) : refTail n.decomp = decTail n := by
  unfold refTail decTail
  cases hc : (measOf n.decomp).cyc
  · have hwf := (meas_cyc hs hh).1 hc
    obtain ⟨z, hz⟩ := sz_exists hwf
    rw [ends_complete hs hh hwf]
    simp only [Bool.not_true, Bool.false_eq_true, if_false]
    have hlong : rangeAny (longAt n.decomp) n.decomp.length = (measOf n.decomp).long := by
      rw [Bool.eq_iff_iff, meas_long hs hh hwf hz]
      unfold rangeAny
      rw [List.any_eq_true]
      have hle := iter_lenLe hs hh hwf hz n.decomp.length (List.replicate n.decomp.length 0) ⟨by simp, fun i m v h1 _ => by
        have := List.eq_of_mem_replicate (List.mem_of_getElem? h1)
        have := sz_ge hwf hz m.src
        omega⟩
      constructor
      · rintro ⟨i, hi, h⟩
        obtain ⟨m, hm⟩ := getElem?_some_of_lt (List.mem_range.1 hi)
        refine ⟨m, mem_of_getElem?_some hm, ?_⟩
        simp only [longAt, Bool.or_eq_true, decide_eq_true_eq, lengths_right hs hh hwf hz hm, Option.getD_some] at h
        rcases h with h | h
        · cases hv : (refLengths n.decomp false)[i]? with
          | none => rw [hv] at h; simp at h
          | some v =>
            rw [hv] at h
            have := hle.2 i m v hv hm
            simp only [Option.getD_some] at h
            omega
        · exact h
      · rintro ⟨m, hm, h⟩
        obtain ⟨i, hi, e⟩ := List.getElem_of_mem hm
        have hm' : n.decomp[i]? = some m := by rw [List.getElem?_eq_getElem hi, e]
        exact ⟨i, List.mem_range.2 hi, by simp only [longAt, Bool.or_eq_true, decide_eq_true_eq, lengths_right hs hh hwf hz hm', Option.getD_some]; exact .inr h⟩
    rw [hlong]
  · have : (refEnds n.decomp).all id = false := by
      cases he : (refEnds n.decomp).all id
      · rfl
      · rw [(meas_cyc hs hh).2 (ends_sound hs hh he)] at hc; cases hc
    rw [this]; simp
theorem src_le_of {l : List Mp} (h : adjAny mpNotLess l = false) : l.Pairwise fun a b => a.src ≤ b.src :=
  (less_of_sorted h).imp (fun h => by rcases h with h | h <;> omega)
/-- The two checks of the data agree. -/
theorem refCheck_eq (n : Nrm) : refCheck n = decCheck n := by
  unfold refCheck decCheck
  rw [refMapCheck_eq, refMake_eq]
  by_cases h0 : ordCheck n.classes = 0
  · simp only [h0, ne_eq, not_true_eq_false, if_false]
    by_cases h1 : mapCheck n.decomp = 0
    · simp only [h1, not_true_eq_false, if_false]
      obtain ⟨_, hm⟩ := mapCheck_zero h1
      by_cases h2 : makeR n.excl = n.excl
      · rw [if_pos h2.symm, if_pos h2]
        unfold refMid decMid
        rw [foundEarlier_iff (src_le_of hm), srcBad_any]
        cases ha : adjAny sameSrc n.decomp
        · cases hk : n.decomp.any kindBad
          · cases hh : n.decomp.any srcHangul
            · rw [refTail_eq (mpSorted_of hm ha) hh]
              simp
            · simp
          · simp
        · simp
      · rw [if_neg (fun e => h2 e.symm), if_neg h2]
    · simp only [h1, not_false_eq_true, if_true]
  · simp only [h0, ne_eq, not_false_eq_true, if_true]
end Go.Proofs.YtbhglkofaendjaaGreatDoor
namespace Go.Proofs.YtbhglkofaendjaaGreatDoor

/-- F is the full decomposition. -/
def FullEq (l : List Mp) (cp : Bool) (F : Int → List Int) : Prop := ∀ c, F c = match onceOf l c cp with
  | none => [c]
  | some to => to.flatMap F
theorem flatMap_congr' {F G : Int → List Int} : ∀ {to : List Int}, (∀ e ∈ to, F e = G e) → to.flatMap F = to.flatMap G
  | [], _ => rfl
  | x :: r, h => by rw [List.flatMap_cons, List.flatMap_cons, h x (List.mem_cons_self ..), flatMap_congr' (fun e he => h e (List.mem_cons_of_mem _ he))]
theorem full_exists {l : List Mp} {cp : Bool} (h : Ends l cp) : ∃ F, FullEq l cp F := rec_exists h (fun c => [c]) (fun to F => to.flatMap F) (fun _ _ _ hfg => flatMap_congr' hfg)
theorem full_unique {l : List Mp} {cp : Bool} (h : Ends l cp) {F G : Int → List Int} (hF : FullEq l cp F) (hG : FullEq l cp G) (c : Int) : F c = G c := by
  induction h c with
  | intro c _ ih =>
    rw [hF c, hG c]
    cases ho : onceOf l c cp with
    | none => rfl
    | some to => exact flatMap_congr' (fun e he => ih e ⟨to, ho, he⟩)
open Classical in
/-- The full decomposition of a number. -/
noncomputable def fullOf (l : List Mp) (cp : Bool) : Int → List Int := if h : ∃ F, FullEq l cp F then h.choose else fun c => [c]
theorem fullOf_eq {l : List Mp} {cp : Bool} (h : Ends l cp) : FullEq l cp (fullOf l cp) := by
  have he := full_exists h
  unfold fullOf
  rw [dif_pos he]
  exact he.choose_spec
theorem onceOf_false {l : List Mp} {c : Int} {to : List Int} (h : onceOf l c false = some to) : onceOf l c true = some to := by
  unfold onceOf at h ⊢
  split at h
  · rename_i hk; rw [if_pos hk]; exact h
  · rename_i hk
    rw [if_neg hk]
    unfold mapOf at h ⊢
    cases hf : l.find? (fun m => decide (m.src = c)) with
    | none => rw [hf] at h; cases h
    | some m =>
      rw [hf] at h
      simp only at h ⊢
      split at h
      · injection h with h; rw [← h]; simp
      · cases h
theorem ends_false {l : List Mp} (h : Ends l true) : Ends l false := fun c => by
  induction h c with
  | intro c _ ih => exact ⟨c, fun e ⟨to, ho, he⟩ => ih e ⟨to, onceOf_false ho, he⟩⟩
theorem ends_any {l : List Mp} (h : Ends l true) (cp : Bool) : Ends l cp := by
  cases cp
  · exact ends_false h
  · exact h
/-- What the check of the data gives. -/
structure Good (n : Nrm) : Prop where
  ord : ordCheck n.classes = 0
  map : mapCheck n.decomp = 0
  excl : makeR n.excl = n.excl
  sorted : MpSorted n.decomp
  kinds : n.decomp.any kindBad = false
  hangul : n.decomp.any srcHangul = false
  tagged : ∀ m ∈ n.decomp, plainTag m = false → classOf n.classes m.src = 0
  ends : Ends n.decomp true
  short : (measOf n.decomp).long = false
theorem good_of {n : Nrm} (h : decCheck n = 0) : Good n := by
  unfold decCheck at h
  by_cases h0 : ordCheck n.classes = 0
  · simp only [h0, ne_eq, not_true_eq_false, if_false] at h
    by_cases h1 : mapCheck n.decomp = 0
    · simp only [h1, not_true_eq_false, if_false] at h
      by_cases h2 : makeR n.excl = n.excl
      · rw [if_pos h2] at h
        unfold decMid at h
        cases ha : adjAny sameSrc n.decomp
        · cases hk : n.decomp.any kindBad
          · cases hh : n.decomp.any srcHangul
            · simp only [ha, hk, hh, Bool.false_eq_true, if_false] at h
              by_cases hr : (runsOf (usableSpans n.classes) (taggedOf n.decomp)).length = 0
              · simp only [hr, ne_eq, not_true_eq_false, if_false] at h
                unfold decTail at h
                have hs := mpSorted_of (mapCheck_zero h1).2 ha
                cases hc : (measOf n.decomp).cyc
                · cases hl : (measOf n.decomp).long
                  · refine ⟨h0, h1, h2, hs, hk, hh, fun m hm ht => ?_, (meas_cyc hs hh).1 hc, hl⟩
                    have hno : ¬ (runsOf (usableSpans n.classes) (taggedOf n.decomp)).length ≠ 0 := by omega
                    unfold runsOf at hno
                    rw [runsFrom_any] at hno
                    have hu : usableSpans n.classes = n.classes := if_pos h0
                    rw [hu] at hno
                    refine Classical.byContradiction fun hne => hno (.inr ⟨m.src, ?_, hne⟩)
                    unfold taggedOf
                    exact List.mem_map.2 ⟨m, List.mem_filter.2 ⟨hm, by simp [ht]⟩, rfl⟩
                  · simp [hc, hl] at h
                · simp [hc] at h
              · simp [hr] at h
            · simp [ha, hk, hh] at h
          · simp [ha, hk] at h
        · simp [ha] at h
      · rw [if_neg h2] at h; omega
    · simp [h1] at h
  · simp [h0] at h
/-- No full decomposition is longer than the limit. -/
theorem full_length {l : List Mp} (hs : MpSorted l) (hh : l.any srcHangul = false) (hwf : Ends l true) (hl : (measOf l).long = false) (cp : Bool) {F : Int → List Int} (hF : FullEq l cp F) (c : Int) : (F c).length ≤ 64 := by
  obtain ⟨z, hz⟩ := sz_exists hwf
  have hz64 : ∀ c, z c ≤ 64 := fun c => by
    cases hf : findM l c true with
    | none => rw [sz_notIn hs hh hz hf]; have := decompH_length c; omega
    | some i =>
      obtain ⟨m, hm, e⟩ := findM_true_some hs hh hf
      rcases Int.lt_or_le 64 (z c) with h | h
      · have : (measOf l).long = true := (meas_long hs hh hwf hz).2 ⟨m, mem_of_getElem?_some hm, by rw [e]; exact h⟩
        rw [hl] at this; cases this
      · exact h
  have key : ∀ c, ((F c).length : Int) ≤ z c := fun c => by
    induction ends_any hwf cp c with
    | intro c _ ih =>
      rw [hF c]
      have hge := sz_ge hwf hz c
      cases ho : onceOf l c cp with
      | none => simpa using hge
      | some to =>
        have ho' : onceOf l c true = some to := by
          cases cp
          · exact onceOf_false ho
          · exact ho
        simp only
        have hsum : ((to.flatMap F).length : Int) ≤ sumL z to := by
          have : ∀ es : List Int, (∀ e ∈ es, ((F e).length : Int) ≤ z e) → ((es.flatMap F).length : Int) ≤ sumL z es := by
            intro es
            induction es with
            | nil => intro _; simp [sumL]
            | cons x r ihr =>
              intro h
              have h1 := h x (List.mem_cons_self ..)
              have h2 := ihr (fun e he => h e (List.mem_cons_of_mem _ he))
              rw [List.flatMap_cons, List.length_append, sumL]
              omega
          exact this to (fun e he => ih e ⟨to, ho, he⟩)
        have hzc := hz c
        rw [ho'] at hzc
        simp only at hzc
        cases to with
        | nil => simp; omega
        | cons x r =>
          have h65 : z c = min 65 (sumL z (x :: r)) := hzc
          have := hz64 c
          omega
  have := key c
  have := hz64 c
  omega
end Go.Proofs.YtbhglkofaendjaaGreatDoor
