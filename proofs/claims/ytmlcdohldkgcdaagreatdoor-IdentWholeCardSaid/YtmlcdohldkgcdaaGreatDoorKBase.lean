/- How the plain data lie in memory: slices of numbers, ranges, spans and mappings, kept over calls that leave what was there. Identifiers: the scan of a text, and which texts are identifiers. No program. -/
import Derived.WalkKit
import Derived.OwnWalk
import Derived.BigFrame
import Derived.Outline
import Derived.RegionTactic
import Derived.Lib.Hide
import Derived.Below
import Derived.Laws.OwnMore
import Derived.Deep.AppendLies
import Derived.Deep.Draws
import Derived.Maps.AppendAt
import Derived.Deep.QuietTactic
import Derived.BigQuiet
import Derived.IntWalk
import Derived.WalkSpells
import Derived.WalkLawsBesides
import Derived.StillTailTactics
import Derived.Deep.RegionWith
import Derived.Laws.ResultCell
import Derived.Deep.Light
import Derived.Test.YtmlcdohldkgcdaaGreatDoorProg
import Derived.Test.YtmlcdohldkgcdaaGreatDoorKPl
namespace Go.Proofs.YtmlcdohldkgcdaaGreatDoor
open Go Go.RowKit
abbrev Kept (w w' : World) : Prop := Below w.heap.size w w'
theorem Kept.refl (w : World) : Kept w w := Below.refl _ _
theorem Kept.trans {a b c : World} (h : Kept a b) (k : Kept b c) : Kept a c := Below.trans h (k.mono h.size)
theorem cell_lt {w : World} {p : Addr} {v : Value} (h : w.cell? p = some v) : p.block < w.heap.size := by
  rcases Nat.lt_or_ge p.block w.heap.size with h1 | h1
  · exact h1
  · unfold World.cell? at h; rw [Array.getElem?_eq_none h1] at h; cases h
theorem Kept.cell {w w' : World} (h : Kept w w') {p : Addr} {v : Value} (hc : w.cell? p = some v) : w'.cell? p = some v :=
  (Below.cell h (cell_lt hc)).trans hc
theorem Kept.drewN {w w' : World} (h : Kept w w') (n : Nat) : Kept w (w'.drewN n) := ⟨h.os, h.tape, h.output, h.size, h.block⟩
theorem Kept.drew {w w' : World} (h : Kept w w') : Kept w w'.drew := ⟨h.os, h.tape, h.output, h.size, h.block⟩
theorem Kept.alloc {w w' : World} (h : Kept w w') (o : Obj) : Kept w (w'.alloc o) := Below.alloc h h.size o
theorem Kept.setCell {w w' : World} (h : Kept w w') {p : Addr} (hp : w.heap.size ≤ p.block) (v : Value) : Kept w (w'.setCell p v) := Below.setCell h hp v
theorem box_cell (w : World) (cs : Array Value) (t : TypeId) (i : Nat) : (w.alloc (.cells cs t)).cell? ⟨w.heap.size, i, none⟩ = cs[i]? := by
  unfold World.cell?
  rw [heap_alloc_new]
  simp
def Sl {α : Type} (k : Nat) (enc : α → List Value) (w : World) (A : Option Addr) (n : Nat) (xs : List α) : Prop :=
  n = xs.length ∧ (0 < n → ∃ b off, A = some ⟨b, off, none⟩ ∧ ∀ i x, xs[i]? = some x → ∀ j u, (enc x)[j]? = some u → w.cell? ⟨b, off + i * k + j, none⟩ = some u)
theorem Sl.kept {α : Type} {k : Nat} {enc : α → List Value} {w w' : World} {A : Option Addr} {n : Nat} {xs : List α} (h : Sl k enc w A n xs) (hk : Kept w w') : Sl k enc w' A n xs :=
  ⟨h.1, fun hn => by
    obtain ⟨b, off, e, hc⟩ := h.2 hn
    exact ⟨b, off, e, fun i x hx j u hu => hk.cell (hc i x hx j u hu)⟩⟩
def encI (x : Int) : List Value := [.int .i64 x]
def encR (r : Rng) : List Value := [.int .i64 r.lo, .int .i64 r.hi]
def encS (s : Span) : List Value := [.int .i64 s.lo, .int .i64 s.hi, .int .i64 s.val]
abbrev Ints (w : World) (A : Option Addr) (n : Nat) (xs : List Int) : Prop := Sl 1 encI w A n xs
abbrev Rngs (w : World) (A : Option Addr) (n : Nat) (xs : List Rng) : Prop := Sl 2 encR w A n xs
abbrev Spans (w : World) (A : Option Addr) (n : Nat) (xs : List Span) : Prop := Sl 3 encS w A n xs
theorem Sl.nil {α : Type} {k : Nat} {enc : α → List Value} {w : World} {A : Option Addr} : Sl k enc w A 0 [] := ⟨rfl, fun h => absurd h (by omega)⟩
theorem int_at {w : World} {A : Option Addr} {n : Nat} {xs : List Int} (h : Ints w A n xs) {i : Nat} (hi : i < n) :
    ∃ b off x, A = some ⟨b, off, none⟩ ∧ xs[i]? = some x ∧ w.cell? ⟨b, off + i, none⟩ = some (.int .i64 x) := by
  obtain ⟨b, off, e, hc⟩ := h.2 (by omega)
  obtain ⟨x, hx⟩ := getElem?_some_of_lt (l := xs) (k := i) (by rw [← h.1]; exact hi)
  exact ⟨b, off, x, e, hx, by simpa using hc i x hx 0 _ rfl⟩
theorem rng_at {w : World} {A : Option Addr} {n : Nat} {xs : List Rng} (h : Rngs w A n xs) {i : Nat} (hi : i < n) :
    ∃ b off r, A = some ⟨b, off, none⟩ ∧ xs[i]? = some r ∧ w.cell? ⟨b, off + i * 2, none⟩ = some (.int .i64 r.lo) ∧ w.cell? ⟨b, off + i * 2 + 1, none⟩ = some (.int .i64 r.hi) := by
  obtain ⟨b, off, e, hc⟩ := h.2 (by omega)
  obtain ⟨x, hx⟩ := getElem?_some_of_lt (l := xs) (k := i) (by rw [← h.1]; exact hi)
  exact ⟨b, off, x, e, hx, by simpa using hc i x hx 0 _ rfl, hc i x hx 1 _ rfl⟩
theorem span_at {w : World} {A : Option Addr} {n : Nat} {xs : List Span} (h : Spans w A n xs) {i : Nat} (hi : i < n) :
    ∃ b off r, A = some ⟨b, off, none⟩ ∧ xs[i]? = some r ∧ w.cell? ⟨b, off + i * 3, none⟩ = some (.int .i64 r.lo) ∧ w.cell? ⟨b, off + i * 3 + 1, none⟩ = some (.int .i64 r.hi) ∧
      w.cell? ⟨b, off + i * 3 + 2, none⟩ = some (.int .i64 r.val) := by
  obtain ⟨b, off, e, hc⟩ := h.2 (by omega)
  obtain ⟨x, hx⟩ := getElem?_some_of_lt (l := xs) (k := i) (by rw [← h.1]; exact hi)
  exact ⟨b, off, x, e, hx, by simpa using hc i x hx 0 _ rfl, hc i x hx 1 _ rfl, hc i x hx 2 _ rfl⟩
def Mps (w : World) (A : Option Addr) (n : Nat) (l : List Mp) : Prop :=
  n = l.length ∧ (0 < n → ∃ b off, A = some ⟨b, off, none⟩ ∧ ∀ i m, l[i]? = some m → ∃ A' n' c', n' ≤ c' ∧ Ints w A' n' m.to ∧
    w.cell? ⟨b, off + i * 3, none⟩ = some (.int .i64 m.src) ∧ w.cell? ⟨b, off + i * 3 + 1, none⟩ = some (.slice A' n' c') ∧ w.cell? ⟨b, off + i * 3 + 2, none⟩ = some (.string m.tag))
theorem Mps.kept {w w' : World} {A : Option Addr} {n : Nat} {l : List Mp} (h : Mps w A n l) (hk : Kept w w') : Mps w' A n l :=
  ⟨h.1, fun hn => by
    obtain ⟨b, off, e, hc⟩ := h.2 hn
    refine ⟨b, off, e, fun i m hm => ?_⟩
    obtain ⟨A', n', c', hle, hI, h0, h1, h2⟩ := hc i m hm
    exact ⟨A', n', c', hle, hI.kept hk, hk.cell h0, hk.cell h1, hk.cell h2⟩⟩
theorem mp_at {w : World} {A : Option Addr} {n : Nat} {l : List Mp} (h : Mps w A n l) {i : Nat} (hi : i < n) :
    ∃ b off m A' n' c', A = some ⟨b, off, none⟩ ∧ l[i]? = some m ∧ n' ≤ c' ∧ Ints w A' n' m.to ∧
    w.cell? ⟨b, off + i * 3, none⟩ = some (.int .i64 m.src) ∧ w.cell? ⟨b, off + i * 3 + 1, none⟩ = some (.slice A' n' c') ∧ w.cell? ⟨b, off + i * 3 + 2, none⟩ = some (.string m.tag) := by
  obtain ⟨b, off, e, hc⟩ := h.2 (by omega)
  obtain ⟨m, hm⟩ := getElem?_some_of_lt (l := l) (k := i) (by rw [← h.1]; exact hi)
  obtain ⟨A', n', c', hle, hI, h0, h1, h2⟩ := hc i m hm
  exact ⟨b, off, m, A', n', c', e, hm, hle, hI, h0, h1, h2⟩
def RetI (w : World) (v : Int) (e : Ending) (w' : World) : Prop := e = .returned (.int .i64 v) ∧ Kept w w'
def RetB (w : World) (v : Bool) (e : Ending) (w' : World) : Prop := e = .returned (.bool v) ∧ Kept w w'
def RetInts (w : World) (xs : List Int) (e : Ending) (w' : World) : Prop := ∃ A n c, e = .returned (.slice A n c) ∧ n ≤ c ∧ Ints w' A n xs ∧ Kept w w'
def RetRngs (w : World) (xs : List Rng) (e : Ending) (w' : World) : Prop := ∃ A n c, e = .returned (.slice A n c) ∧ n ≤ c ∧ Rngs w' A n xs ∧ Kept w w'
theorem flip_ {P : Program} {f : FuncId} {args : Array Value} {w : World} {v : Value} (h : Calls P f args w fun e w' => e = .returned v ∧ w = w') : Calls P f args w fun e w' => e = .returned v ∧ w' = w :=
  h.mono fun _ _ ⟨he, hw⟩ => ⟨he, hw.symm⟩
theorem region_still_tail {P : Program} {id : Nat} {Q : Exit → Act → World → Prop} {a : Act} {w : World} {l : List Oper} (n : Nat) (hm : P.follows .mixedOrders = true) (hB : Region.lexTailB .any l.toArray n = true)
    (h : wpStill P l.toArray w.drew (fun a' => wpList P l.toArray Q (l.drop n) a' w.drew) (l.take n) a) : (Code.region id l.toArray true).wp P Q a w := wp_region_still_tail n hm hB h
theorem ret_int {k : IntKind} {a b : Int} (h : a = b) : Ending.returned (.int k a) = .returned (.int k b) := by rw [h]
theorem ret_bool {a b : Bool} (h : a = b) : Ending.returned (.bool a) = .returned (.bool b) := by rw [h]
end Go.Proofs.YtmlcdohldkgcdaaGreatDoor
namespace Go.Proofs.YtmlcdohldkgcdaaGreatDoor
section
variable (b p c : Int → Bool)
def idGo : List Int → Nat → Nat → Nat × Nat
  | [], i, e => (e, i)
  | y :: t, i, e => if p y = true then idGo t (i + 1) (i + 1) else if c y = false ∨ e < i then (e, i) else idGo t (i + 1) e
def idScan : List Int → Nat × Nat
  | [] => (0, 0)
  | x :: t => if b x = true then idGo p c t 1 1 else (0, 0)
def medB (y : Int) : Bool := c y && !p y
def folB (a y : Int) : Bool := if medB p c y = true then !medB p c a else p y
def idTail : Int → List Int → Bool
  | a, [] => !medB p c a
  | a, y :: t => folB p c a y && idTail y t
def idValid : List Int → Bool
  | [] => false
  | x :: t => b x && idTail p c x t
def idRun : Int → List Int → Nat
  | _, [] => 0
  | a, y :: t => if folB p c a y = true then idRun y t + 1 else 0
end
section
variable {b p c : Int → Bool}
theorem idGo_spec : ∀ (t : List Int) (a : Int) (i e : Nat), e + (if medB p c a = true then 1 else 0) = i → (idGo p c t i e).2 = i + idRun p c a t ∧
    (idGo p c t i e).1 + (if medB p c ((a :: t).getD (idRun p c a t) 0) = true then 1 else 0) = i + idRun p c a t
  | [], a, i, e, h => by simp [idGo, idRun, h]
  | y :: t, a, i, e, h => by
    rw [idGo, idRun]
    by_cases hp : p y = true
    · have hm : medB p c y = false := by simp [medB, hp]
      have hf : folB p c a y = true := by simp [folB, hm, hp]
      rw [if_pos hp, if_pos hf]
      obtain ⟨h1, h2⟩ := idGo_spec t y (i + 1) (i + 1) (by simp [hm])
      refine ⟨by omega, ?_⟩
      rw [List.getD_cons_succ]
      omega
    · rw [if_neg hp]
      by_cases hc : c y = false ∨ e < i
      · have hf : folB p c a y = false := by
          rcases hc with hc | hc
          · simp [folB, medB, hc, hp]
          · have ha : medB p c a = true := by
              cases hm : medB p c a with
              | true => rfl
              | false => rw [hm] at h; simp at h; omega
            by_cases hcy : c y = true
            · have hmy : medB p c y = true := by simp [medB, hcy, hp]
              simp [folB, hmy, ha]
            · simp [folB, medB, hcy, hp]
        rw [if_pos hc, if_neg (by simp [hf])]
        exact ⟨by simp, by simpa using h⟩
      · rw [if_neg hc]
        have hcy : c y = true := by
          cases h3 : c y with
          | true => rfl
          | false => exact absurd (.inl h3) hc
        have hei : e = i := by
          rcases Nat.lt_or_ge e i with h4 | h4
          · exact absurd (.inr h4) hc
          · split at h <;> omega
        have ha : medB p c a = false := by
          cases hm : medB p c a with
          | false => rfl
          | true => rw [hm] at h; simp at h; omega
        have hmy : medB p c y = true := by simp [medB, hcy, hp]
        have hf : folB p c a y = true := by simp [folB, hmy, ha]
        rw [if_pos hf]
        obtain ⟨h1, h2⟩ := idGo_spec t y (i + 1) e (by rw [hmy]; simp; omega)
        refine ⟨by omega, ?_⟩
        rw [List.getD_cons_succ]
        omega
theorem idRun_le : ∀ (t : List Int) (a : Int), idRun p c a t ≤ t.length
  | [], _ => Nat.le_refl _
  | y :: t, a => by
    rw [idRun]
    have := idRun_le t y
    split <;> simp <;> omega
theorem idTail_take : ∀ (t : List Int) (a : Int) (k : Nat), k ≤ t.length → idTail p c a (t.take k) = (decide (k ≤ idRun p c a t) && !medB p c ((a :: t).getD k 0))
  | t, a, 0, _ => by simp [idTail]
  | [], a, k + 1, h => by simp at h
  | y :: t, a, k + 1, h => by
    rw [List.take_succ_cons, idTail, idRun, idTail_take t y k (by simpa using h), List.getD_cons_succ]
    by_cases hf : folB p c a y = true
    · rw [if_pos hf, hf, Bool.true_and]
      congr 1
      exact decide_eq_decide.2 (by omega)
    · rw [if_neg hf]
      simp [hf]
theorem run_before : ∀ {t : List Int} {x : Int} {q : Nat}, medB p c x = false → q + 1 ≤ idRun p c x t → medB p c ((x :: t).getD (q + 1) 0) = true → medB p c ((x :: t).getD q 0) = false
  | [], x, q, _, h, _ => by simp [idRun] at h
  | y :: t, x, 0, hx, _, _ => by simpa using hx
  | y :: t, x, q + 1, hx, h, hm => by
    rw [idRun] at h
    by_cases hf : folB p c x y = true
    · rw [if_pos hf] at h
      rw [List.getD_cons_succ] at hm ⊢
      by_cases hy : medB p c y = true
      · -- y only connects: the next one does not
        cases q with
        | zero =>
          exfalso
          rw [List.getD_cons_succ] at hm
          cases t with
          | nil => simp [idRun] at h
          | cons z t =>
            rw [idRun] at h
            have hz : medB p c z = true := by simpa using hm
            have : folB p c y z = false := by simp [folB, hz, hy]
            rw [this] at h
            simp at h
        | succ q =>
          cases t with
          | nil => simp [idRun] at h
          | cons z t =>
            rw [idRun] at h
            by_cases hfz : folB p c y z = true
            · rw [if_pos hfz] at h
              have hz : medB p c z = false := by
                cases hz : medB p c z with
                | false => rfl
                | true => simp [folB, hz, hy] at hfz
              rw [List.getD_cons_succ] at hm ⊢
              exact run_before hz (by omega) hm
            · rw [if_neg hfz] at h; omega
      · exact run_before (by simpa using hy) (by omega) hm
    · rw [if_neg hf] at h; omega
theorem scan_spec (hb : ∀ x, b x = true → p x = true) (text : List Int) : (idScan b p c text).1 ≤ (idScan b p c text).2 ∧ (idScan b p c text).2 ≤ text.length ∧ (0 < (idScan b p c text).1 → idValid b p c (text.take (idScan b p c text).1) = true) ∧
    ∀ k, (idScan b p c text).1 < k → k ≤ text.length → idValid b p c (text.take k) = false := by
  cases text with
  | nil => exact ⟨Nat.le_refl _, Nat.le_refl _, fun h => by simp [idScan] at h, fun k h1 h2 => by simp at h2; omega⟩
  | cons x t =>
    rw [show idScan b p c (x :: t) = if b x = true then idGo p c t 1 1 else (0, 0) from rfl]
    by_cases hx : b x = true
    · rw [if_pos hx]
      have hmx : medB p c x = false := by simp [medB, hb x hx]
      obtain ⟨h1, h2⟩ := idGo_spec (p := p) (c := c) t x 1 1 (by simp [hmx])
      have hr := idRun_le (p := p) (c := c) t x
      have hval : ∀ k, 0 < k → k ≤ (x :: t).length → idValid b p c ((x :: t).take k) = (decide (k ≤ idRun p c x t + 1) && !medB p c ((x :: t).getD (k - 1) 0)) := fun k h0 hk => by
        obtain ⟨j, rfl⟩ : ∃ j, k = j + 1 := ⟨k - 1, by omega⟩
        rw [List.take_succ_cons, idValid, hx, Bool.true_and, idTail_take t x j (by simp at hk; omega)]
        rw [Nat.add_sub_cancel]
        congr 1
        exact decide_eq_decide.2 (by omega)
      generalize (idGo p c t 1 1).1 = e at *
      generalize (idGo p c t 1 1).2 = st at *
      generalize hq : idRun p c x t = q at *
      by_cases hm : medB p c ((x :: t).getD q 0) = true
      · rw [hm] at h2
        simp only [if_true] at h2
        have hq0 : 0 < q := by
          rcases Nat.eq_zero_or_pos q with h0 | h0
          · subst h0; simp [hmx] at hm
          · exact h0
        refine ⟨by omega, by simp; omega, fun h0 => ?_, fun k hk hkl => ?_⟩
        · rw [hval e h0 (by simp; omega)]
          have : medB p c ((x :: t).getD (e - 1) 0) = false := by
            -- the element before one that only connects does not only connect
            have hee : e - 1 + 1 = q := by omega
            rw [← hee] at hm
            exact run_before (q := e - 1) hmx (by rw [hq]; omega) hm
          rw [this]
          simp; omega
        · rw [hval k (by omega) hkl]
          rcases Nat.lt_or_ge (q + 1) k with h3 | h3
          · simp; omega
          · have : k - 1 = q := by omega
            rw [this, hm]
            simp
      · have hm' : medB p c ((x :: t).getD q 0) = false := by simpa using hm
        rw [hm'] at h2
        simp only [Bool.false_eq_true, if_false] at h2
        refine ⟨by omega, by simp; omega, fun h0 => ?_, fun k hk hkl => ?_⟩
        · rw [hval e h0 (by simp; omega), show e - 1 = q by omega, hm']
          simp; omega
        · rw [hval k (by omega) hkl]
          simp; omega
    · rw [if_neg hx]
      refine ⟨Nat.le_refl _, Nat.zero_le _, fun h => absurd h (by simp), fun k hk hkl => ?_⟩
      obtain ⟨j, rfl⟩ : ∃ j, k = j + 1 := ⟨k - 1, by omega⟩
      rw [List.take_succ_cons, idValid]
      simp [hx]
end
end Go.Proofs.YtmlcdohldkgcdaaGreatDoor
