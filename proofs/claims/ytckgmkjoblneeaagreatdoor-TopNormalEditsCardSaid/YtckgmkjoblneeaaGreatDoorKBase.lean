/- How the plain data lie in memory: slices of numbers, ranges, spans and mappings, kept over calls that leave what was there. -/
import Derived.WalkKit
import Derived.OwnWalk
import Derived.BigFrame
import Derived.Outline
import Derived.RegionTactic
import Derived.Lib.Hide
import Derived.Below
import Derived.Laws.OwnMore
import Derived.Deep.AppendLies
import Derived.Deep.Draws
import Derived.Maps.AppendAt
import Derived.Deep.QuietTactic
import Derived.BigQuiet
import Derived.IntWalk
import Derived.WalkSpells
import Derived.WalkLawsBesides
import Derived.StillTailTactics
import Derived.Deep.RegionWith
import Derived.Laws.ResultCell
import Derived.Deep.Light
import Derived.Test.YtckgmkjoblneeaaGreatDoorProg
import Derived.Test.YtckgmkjoblneeaaGreatDoorKPl
namespace Go.Proofs.YtckgmkjoblneeaaGreatDoor
open Go Go.RowKit
abbrev Kept (w w' : World) : Prop := Below w.heap.size w w'
theorem Kept.refl (w : World) : Kept w w := Below.refl _ _
theorem Kept.trans {a b c : World} (h : Kept a b) (k : Kept b c) : Kept a c := Below.trans h (k.mono h.size)
theorem cell_lt {w : World} {p : Addr} {v : Value} (h : w.cell? p = some v) : p.block < w.heap.size := by
  rcases Nat.lt_or_ge p.block w.heap.size with h1 | h1
  · exact h1
  · unfold World.cell? at h; rw [Array.getElem?_eq_none h1] at h; cases h
theorem Kept.cell {w w' : World} (h : Kept w w') {p : Addr} {v : Value} (hc : w.cell? p = some v) : w'.cell? p = some v :=
  (Below.cell h (cell_lt hc)).trans hc
theorem Kept.drewN {w w' : World} (h : Kept w w') (n : Nat) : Kept w (w'.drewN n) := ⟨h.os, h.tape, h.output, h.size, h.block⟩
theorem Kept.drew {w w' : World} (h : Kept w w') : Kept w w'.drew := ⟨h.os, h.tape, h.output, h.size, h.block⟩
theorem Kept.alloc {w w' : World} (h : Kept w w') (o : Obj) : Kept w (w'.alloc o) := Below.alloc h h.size o
theorem Kept.setCell {w w' : World} (h : Kept w w') {p : Addr} (hp : w.heap.size ≤ p.block) (v : Value) : Kept w (w'.setCell p v) := Below.setCell h hp v
theorem box_cell (w : World) (cs : Array Value) (t : TypeId) (i : Nat) : (w.alloc (.cells cs t)).cell? ⟨w.heap.size, i, none⟩ = cs[i]? := by
  unfold World.cell?
  rw [heap_alloc_new]
  simp
def Sl {α : Type} (k : Nat) (enc : α → List Value) (w : World) (A : Option Addr) (n : Nat) (xs : List α) : Prop :=
  n = xs.length ∧ (0 < n → ∃ b off, A = some ⟨b, off, none⟩ ∧ ∀ i x, xs[i]? = some x → ∀ j u, (enc x)[j]? = some u → w.cell? ⟨b, off + i * k + j, none⟩ = some u)
theorem Sl.kept {α : Type} {k : Nat} {enc : α → List Value} {w w' : World} {A : Option Addr} {n : Nat} {xs : List α} (h : Sl k enc w A n xs) (hk : Kept w w') : Sl k enc w' A n xs :=
  ⟨h.1, fun hn => by
    obtain ⟨b, off, e, hc⟩ := h.2 hn
    exact ⟨b, off, e, fun i x hx j u hu => hk.cell (hc i x hx j u hu)⟩⟩
def encI (x : Int) : List Value := [.int .i64 x]
def encR (r : Rng) : List Value := [.int .i64 r.lo, .int .i64 r.hi]
def encS (s : Span) : List Value := [.int .i64 s.lo, .int .i64 s.hi, .int .i64 s.val]
abbrev Ints (w : World) (A : Option Addr) (n : Nat) (xs : List Int) : Prop := Sl 1 encI w A n xs
abbrev Rngs (w : World) (A : Option Addr) (n : Nat) (xs : List Rng) : Prop := Sl 2 encR w A n xs
abbrev Spans (w : World) (A : Option Addr) (n : Nat) (xs : List Span) : Prop := Sl 3 encS w A n xs
theorem Sl.nil {α : Type} {k : Nat} {enc : α → List Value} {w : World} {A : Option Addr} : Sl k enc w A 0 [] := ⟨rfl, fun h => absurd h (by omega)⟩
theorem int_at {w : World} {A : Option Addr} {n : Nat} {xs : List Int} (h : Ints w A n xs) {i : Nat} (hi : i < n) :
    ∃ b off x, A = some ⟨b, off, none⟩ ∧ xs[i]? = some x ∧ w.cell? ⟨b, off + i, none⟩ = some (.int .i64 x) := by
  obtain ⟨b, off, e, hc⟩ := h.2 (by omega)
  obtain ⟨x, hx⟩ := getElem?_some_of_lt (l := xs) (k := i) (by rw [← h.1]; exact hi)
  exact ⟨b, off, x, e, hx, by simpa using hc i x hx 0 _ rfl⟩
theorem rng_at {w : World} {A : Option Addr} {n : Nat} {xs : List Rng} (h : Rngs w A n xs) {i : Nat} (hi : i < n) :
    ∃ b off r, A = some ⟨b, off, none⟩ ∧ xs[i]? = some r ∧ w.cell? ⟨b, off + i * 2, none⟩ = some (.int .i64 r.lo) ∧ w.cell? ⟨b, off + i * 2 + 1, none⟩ = some (.int .i64 r.hi) := by
  obtain ⟨b, off, e, hc⟩ := h.2 (by omega)
  obtain ⟨x, hx⟩ := getElem?_some_of_lt (l := xs) (k := i) (by rw [← h.1]; exact hi)
  exact ⟨b, off, x, e, hx, by simpa using hc i x hx 0 _ rfl, hc i x hx 1 _ rfl⟩
theorem span_at {w : World} {A : Option Addr} {n : Nat} {xs : List Span} (h : Spans w A n xs) {i : Nat} (hi : i < n) :
    ∃ b off r, A = some ⟨b, off, none⟩ ∧ xs[i]? = some r ∧ w.cell? ⟨b, off + i * 3, none⟩ = some (.int .i64 r.lo) ∧ w.cell? ⟨b, off + i * 3 + 1, none⟩ = some (.int .i64 r.hi) ∧
      w.cell? ⟨b, off + i * 3 + 2, none⟩ = some (.int .i64 r.val) := by
  obtain ⟨b, off, e, hc⟩ := h.2 (by omega)
  obtain ⟨x, hx⟩ := getElem?_some_of_lt (l := xs) (k := i) (by rw [← h.1]; exact hi)
  exact ⟨b, off, x, e, hx, by simpa using hc i x hx 0 _ rfl, hc i x hx 1 _ rfl, hc i x hx 2 _ rfl⟩
def Mps (w : World) (A : Option Addr) (n : Nat) (l : List Mp) : Prop :=
  n = l.length ∧ (0 < n → ∃ b off, A = some ⟨b, off, none⟩ ∧ ∀ i m, l[i]? = some m → ∃ A' n' c', n' ≤ c' ∧ Ints w A' n' m.to ∧
    w.cell? ⟨b, off + i * 3, none⟩ = some (.int .i64 m.src) ∧ w.cell? ⟨b, off + i * 3 + 1, none⟩ = some (.slice A' n' c') ∧ w.cell? ⟨b, off + i * 3 + 2, none⟩ = some (.string m.tag))
theorem Mps.kept {w w' : World} {A : Option Addr} {n : Nat} {l : List Mp} (h : Mps w A n l) (hk : Kept w w') : Mps w' A n l :=
  ⟨h.1, fun hn => by
    obtain ⟨b, off, e, hc⟩ := h.2 hn
    refine ⟨b, off, e, fun i m hm => ?_⟩
    obtain ⟨A', n', c', hle, hI, h0, h1, h2⟩ := hc i m hm
    exact ⟨A', n', c', hle, hI.kept hk, hk.cell h0, hk.cell h1, hk.cell h2⟩⟩
theorem mp_at {w : World} {A : Option Addr} {n : Nat} {l : List Mp} (h : Mps w A n l) {i : Nat} (hi : i < n) :
    ∃ b off m A' n' c', A = some ⟨b, off, none⟩ ∧ l[i]? = some m ∧ n' ≤ c' ∧ Ints w A' n' m.to ∧
    w.cell? ⟨b, off + i * 3, none⟩ = some (.int .i64 m.src) ∧ w.cell? ⟨b, off + i * 3 + 1, none⟩ = some (.slice A' n' c') ∧ w.cell? ⟨b, off + i * 3 + 2, none⟩ = some (.string m.tag) := by
  obtain ⟨b, off, e, hc⟩ := h.2 (by omega)
  obtain ⟨m, hm⟩ := getElem?_some_of_lt (l := l) (k := i) (by rw [← h.1]; exact hi)
  obtain ⟨A', n', c', hle, hI, h0, h1, h2⟩ := hc i m hm
  exact ⟨b, off, m, A', n', c', e, hm, hle, hI, h0, h1, h2⟩
def RetI (w : World) (v : Int) (e : Ending) (w' : World) : Prop := e = .returned (.int .i64 v) ∧ Kept w w'
def RetB (w : World) (v : Bool) (e : Ending) (w' : World) : Prop := e = .returned (.bool v) ∧ Kept w w'
def RetInts (w : World) (xs : List Int) (e : Ending) (w' : World) : Prop := ∃ A n c, e = .returned (.slice A n c) ∧ n ≤ c ∧ Ints w' A n xs ∧ Kept w w'
def RetRngs (w : World) (xs : List Rng) (e : Ending) (w' : World) : Prop := ∃ A n c, e = .returned (.slice A n c) ∧ n ≤ c ∧ Rngs w' A n xs ∧ Kept w w'
theorem flip_ {P : Program} {f : FuncId} {args : Array Value} {w : World} {v : Value} (h : Calls P f args w fun e w' => e = .returned v ∧ w = w') : Calls P f args w fun e w' => e = .returned v ∧ w' = w :=
  h.mono fun _ _ ⟨he, hw⟩ => ⟨he, hw.symm⟩
theorem region_still_tail {P : Program} {id : Nat} {Q : Exit → Act → World → Prop} {a : Act} {w : World} {l : List Oper} (n : Nat) (hm : P.follows .mixedOrders = true) (hB : Region.lexTailB .any l.toArray n = true)
    (h : wpStill P l.toArray w.drew (fun a' => wpList P l.toArray Q (l.drop n) a' w.drew) (l.take n) a) : (Code.region id l.toArray true).wp P Q a w := wp_region_still_tail n hm hB h
theorem ret_int {k : IntKind} {a b : Int} (h : a = b) : Ending.returned (.int k a) = .returned (.int k b) := by rw [h]
theorem ret_bool {a b : Bool} (h : a = b) : Ending.returned (.bool a) = .returned (.bool b) := by rw [h]
end Go.Proofs.YtckgmkjoblneeaaGreatDoor
