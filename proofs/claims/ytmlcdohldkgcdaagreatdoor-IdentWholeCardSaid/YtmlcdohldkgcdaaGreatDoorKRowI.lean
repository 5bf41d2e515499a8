/- Arguments of the statements on identifiers: the sets. joining.concat; slices of slices of numbers. And more of that kind. -/
import Derived.Deep.RegionHeld3
import Derived.Deep.Cut
import Derived.Test.YtmlcdohldkgcdaaGreatDoorKRow
import Derived.Test.YtmlcdohldkgcdaaGreatDoorKRfb
import Derived.Test.YtmlcdohldkgcdaaGreatDoorKMeas
import Derived.Test.YtmlcdohldkgcdaaGreatDoorKIdD
import Derived.Test.YtmlcdohldkgcdaaGreatDoorKCmb
import Derived.Test.YtmlcdohldkgcdaaGreatDoorKSet
import Derived.Test.YtmlcdohldkgcdaaGreatDoorKQp
import Derived.Test.YtmlcdohldkgcdaaGreatDoorKPq
import Derived.Test.YtmlcdohldkgcdaaGreatDoorKNrmA
import Derived.Test.YtmlcdohldkgcdaaGreatDoorKSqx
import Derived.Test.YtmlcdohldkgcdaaGreatDoorKCma
namespace Go.Proofs.YtmlcdohldkgcdaaGreatDoor
open Go Go.RowKit Go.ChangeShapes Go.WideShapes Go.Deep Go.Joins
set_option maxRecDepth 100000 in
theorem set_cell {H : Type} {enc : TypeId × Value → H} {W : World} {fuel : Nat} {c0 : Value} {x : DataW H × List MemPlace} (h : DataW.trod enc Tryz.prog W 0 (fun _ => true) true fuel 26 [c0] = some x) :
    ∃ A n c, c0 = .slice A n c ∧ n ≤ c ∧ c ≤ 9223372036854775807 ∧ ∃ l : List Rng, Rngs W A n l := by
  obtain ⟨xs, m2, _, _, _, hxl, hf⟩ := DataW.trod_struct Tryz.underlying26 h
  have h3 := hf 0 _ rfl
  have hx1 : xs.length = 1 := hxl
  rw [List.getElem?_eq_getElem (show 0 < xs.length by omega)] at h3
  have h3' : DataW.trod enc Tryz.prog W 0 (fun _ => true) true m2 24 (([c0].drop 0).take (Tryz.prog.cellsOf 24)) = some xs[0] := h3
  rw [cells_ranges] at h3'
  simp only [List.drop_zero, List.take_succ_cons, List.take_zero] at h3'
  exact open_sl (k := 2) (encA := encR) Tryz.underlying24 (by kernel_rfl) (by decide) (fun _ _ _ h => rng_cells h) h3'
set_option maxRecDepth 100000 in
theorem open_ident {H : Type} {enc : TypeId × Value → H} {W : World} {base : Nat} {v : Value} {d : DataW H} {p : List MemPlace} (hv : Value.okWide Tryz.prog W .any base 54 v) (h : DataW.Trod enc Tryz.prog W 0 (fun _ => true) true 54 v d p) : ∃ i r, v = Ids.val i ∧ IdIn W i r := by
  obtain ⟨v0, v1, v2, y0, y1, y2, m, rfl, _, _, h0, h1, h2⟩ := open_agg3 Tryz.underlying54 (by kernel_rfl) (by kernel_rfl) hv h
  obtain ⟨As, ns, cs, rfl, hs, bs, ls, es⟩ := set_cell h0
  obtain ⟨Ac, nc, cc, rfl, hc, bc, lc, ec⟩ := set_cell h1
  obtain ⟨Am, nm, cm, rfl, hm, bm, lm, em⟩ := set_cell h2
  exact ⟨⟨As, ns, cs, Ac, nc, cc, Am, nm, cm⟩, ⟨ls, lc, lm⟩, rfl, hs, hc, hm, bs, bc, bm, es, ec, em⟩
end Go.Proofs.YtmlcdohldkgcdaaGreatDoor
namespace Go.Proofs.YtmlcdohldkgcdaaGreatDoor
open Go Go.RowKit
def dropA (A : Option Addr) (m k : Nat) : Option Addr := if m = k then A else A.map (·.add k)
theorem Ints.drop_ {w : World} {A : Option Addr} {n k m : Nat} {xs : List Int} (h : Ints w A n xs) (hk : k ≤ n) (hm : n ≤ m) : Ints w (dropA A m k) (n - k) (xs.drop k) := by
  refine ⟨by rw [List.length_drop]; have := h.1; omega, fun h0 => ?_⟩
  obtain ⟨b, off, e, hc⟩ := h.2 (by omega)
  refine ⟨b, off + k, ?_, fun i x hx j u hu => ?_⟩
  · unfold dropA
    rw [if_neg (by omega), e]
    simp only [Option.map_some, Addr.add]
    split <;> simp_all
  · rw [List.getElem?_drop] at hx
    have := hc (k + i) x hx j u hu
    rw [show off + k + i * 1 + j = off + (k + i) * 1 + j by omega]
    exact this
theorem Ints.front_ {w : World} {A : Option Addr} {n q : Nat} {xs : List Int} (h : Ints w A n xs) (hq : q ≤ n) : Ints w A q (xs.take q) :=
  ⟨by rw [List.length_take]; have := h.1; omega, fun h0 => by
    obtain ⟨b, off, e, hc⟩ := h.2 (by omega)
    refine ⟨b, off, e, fun i x hx j u hu => hc i x ?_ j u hu⟩
    rw [List.getElem?_take] at hx
    split at hx
    · exact hx
    · cases hx⟩
theorem und_ints : Tryz.prog.underlying 32 = some (.slice (Tryz.prog.elem 32)) := by kernel_rfl
theorem size_int (w : World) : (sizeOf (Tryz.prog.elem 32)).run Tryz.prog w = .ok 1 w := by kernel_rfl
theorem run_drop1 (A : Option Addr) (n c k : Nat) (hk : k ≤ n) (w : World) :
    (Instr.slice 32 (.slice A n c) (some (.int .i64 (k : Int))) none none).run Tryz.prog w = .ok (.slice (dropA A c k) (n - k) (c - k)) w := by
  rw [run_slice_l w 32 A n c und_ints .i64 _ (by omega) (by omega), size_int]
  simp [Result.andThen, sliced, dropA]
theorem Ints.sets {w : World} {b : Nat} {A : Option Addr} {n : Nat} {xs : List Int} (h : Ints w A n xs) (hne : ∀ a, A = some a → a.block ≠ b) (i : Nat) (v : Value) : Ints (w.setCell ⟨b, i, none⟩ v) A n xs :=
  ⟨h.1, fun hn => by
    obtain ⟨b1, o1, e, hc⟩ := h.2 hn
    refine ⟨b1, o1, e, fun i2 x hx j u hu => ?_⟩
    have h1 := hc i2 x hx j u hu
    have hb := hne _ e
    simp only at hb
    rw [← h1]
    refine World.cell?_of_block ?_
    simp only [World.setCell]
    rw [Array.getElem?_modify, if_neg (fun e2 => hb e2.symm)]⟩
end Go.Proofs.YtmlcdohldkgcdaaGreatDoor
namespace Go.Proofs.YtmlcdohldkgcdaaGreatDoor
open Go Go.RowKit
def mapLeft (w : World) (r : Nat) : Nat := match w.heap[r]? with
  | some (.mapIter (some b) _ seen _) => match w.heap[b]? with
    | some (.map es _) => (leftOf es seen).size
    | _ => 0
  | _ => 0
theorem MapRg.left {α : Type} {w : World} {b r m : Nat} {enc : α → Value} {M D : List (α × Value)} (h : MapRg w b r enc M D m) : mapLeft w r = m := by
  obtain ⟨es, cl, si, se, c0, h1, h2, _, _, _, _, _, h8, _⟩ := h
  unfold mapLeft
  rw [h2]
  simp only [h1, h8]
theorem MapRg.le {α : Type} {w : World} {b r m : Nat} {enc : α → Value} {M D : List (α × Value)} (h : MapRg w b r enc M D m) : m ≤ M.length := by
  obtain ⟨es, cl, si, se, c0, _, _, h3, _, _, _, _, h8, _⟩ := h
  have hlen : es.size = M.length := by have := congrArg List.length h3; simpa using this
  rw [← h8, ← hlen]
  exact Array.size_filter_le
theorem Rngs.setCell {w : World} {A : Option Addr} {n g off : Nat} {rs : List Rng} (h : Rngs w A n rs) (hg : ∀ off x, w.cell? ⟨g, off, none⟩ ≠ some (.int .i64 x)) (v : Value) : Rngs (w.setCell ⟨g, off, none⟩ v) A n rs :=
  ⟨h.1, fun hn => by
    obtain ⟨b, o1, e, hc⟩ := h.2 hn
    refine ⟨b, o1, e, fun i x hx j u hu => ?_⟩
    have h1 := hc i x hx j u hu
    have hu2 : ∃ z, u = .int .i64 z := by
      unfold encR at hu
      match j, hu with
      | 0, hu => exact ⟨_, (Option.some.inj hu).symm⟩
      | 1, hu => exact ⟨_, (Option.some.inj hu).symm⟩
    obtain ⟨z, rfl⟩ := hu2
    have hne : b ≠ g := fun e2 => hg _ _ (by rw [← e2]; exact h1)
    rw [← h1]
    refine World.cell?_of_block ?_
    simp only [World.setCell]
    rw [Array.getElem?_modify, if_neg (fun e2 => hne e2.symm)]⟩
end Go.Proofs.YtmlcdohldkgcdaaGreatDoor
namespace Go.Proofs.YtmlcdohldkgcdaaGreatDoor
open Go Go.RowKit
theorem own_ne {w : World} {b1 b2 : Nat} {e1 e2 : TypeId} {s1 s2 : Nat} {v1 v2 : Value} {n1 n2 : Nat} {xs ys : List Value} (h1 : w.ownsRow b1 e1 s1 v1 n1 xs) (h2 : w.ownsRow b2 e2 s2 v2 n2 ys) (he : e1 ≠ e2) : v1.ownBlock = none ∨ v1.ownBlock ≠ v2.ownBlock := by
  rcases h1.2 with ⟨rfl, _⟩ | ⟨g, cap, cur, rfl, _, hg, _⟩
  · exact .inl rfl
  · right
    rcases h2.2 with ⟨rfl, _⟩ | ⟨g2, cap2, cur2, rfl, _, hg2, _⟩
    · simp [Value.ownBlock]
    · intro e
      simp only [Value.ownBlock, Option.some.injEq] at e
      subst e
      rw [hg] at hg2
      injection hg2 with hg2
      injection hg2 with _ h
      exact he h
theorem int_ints_ne : (3 : TypeId) ≠ 32 := by decide
def ValsT (w : World) (vals : List Value) (T : List (List Int)) : Prop := vals.length = T.length ∧ ∀ (i : Nat) (v : Value) (xs : List Int), vals[i]? = some v → T[i]? = some xs → OwnI w 0 v xs
theorem ValsT.nil (w : World) : ValsT w [] [] := ⟨rfl, fun i v xs h => by simp at h⟩
theorem ValsT.kept {w w' : World} {vals : List Value} {T : List (List Int)} (h : ValsT w vals T) (hk : Kept w w') : ValsT w' vals T :=
  ⟨h.1, fun i v xs hv hx => World.ownsRow.kept (h.2 i v xs hv hx) (row := none) ⟨hk.os, hk.tape, hk.output, hk.size, fun k hk2 _ => hk.block k hk2⟩ (by cases h0 : v.ownBlock <;> simp)⟩
theorem ValsT.grown {w w' : World} {vals : List Value} {T : List (List Int)} (h : ValsT w vals T) {out : Value} {b n : Nat} {ys : List Value} (ho : w.ownsRow b 32 1 out n ys) (hg : w.grownBy w' out.ownBlock) : ValsT w' vals T :=
  ⟨h.1, fun i v xs hv hx => World.ownsRow.kept (h.2 i v xs hv hx) hg (own_ne (h.2 i v xs hv hx) ho int_ints_ne)⟩
theorem ValsT.snoc {w : World} {vals : List Value} {T : List (List Int)} (h : ValsT w vals T) {v : Value} {xs : List Int} (hv : OwnI w 0 v xs) : ValsT w (vals ++ [v]) (T ++ [xs]) := by
  refine ⟨by simp [h.1], fun i u ys hu hy => ?_⟩
  rcases Nat.lt_or_ge i vals.length with hi | hi
  · rw [List.getElem?_append_left hi] at hu
    rw [List.getElem?_append_left (by rw [← h.1]; exact hi)] at hy
    exact h.2 i u ys hu hy
  · rw [List.getElem?_append_right hi] at hu
    rw [List.getElem?_append_right (by rw [← h.1]; exact hi), ← h.1] at hy
    cases hd : i - vals.length with
    | zero => rw [hd] at hu hy; simp only [List.getElem?_cons_zero, Option.some.injEq] at hu hy; rw [← hu, ← hy]; exact hv
    | succ k => rw [hd] at hu; simp at hu
theorem Ints.lt {w : World} {A : Option Addr} {n : Nat} {xs : List Int} (h : Ints w A n xs) (hn : 0 < n) : ∀ a, A = some a → a.block < w.heap.size := by
  obtain ⟨b, off, x, e, hx, hc⟩ := int_at h hn
  intro a ha
  rw [e] at ha
  injection ha with ha
  rw [← ha]
  exact cell_lt hc
end Go.Proofs.YtmlcdohldkgcdaaGreatDoor
namespace Go.Proofs.YtmlcdohldkgcdaaGreatDoor
open Go Go.RowKit
def Sls.chk (s : Sls) (form : Int) (cp : Bool) (S : Value) : Array Value := #[.slice s.Ac s.nc s.cc, .slice s.Am s.nm s.cm, .slice s.Ae s.ne s.ce, .int .i64 form, .bool cp, S]
end Go.Proofs.YtmlcdohldkgcdaaGreatDoor
namespace Go.Proofs.YtmlcdohldkgcdaaGreatDoor
open Go Go.RowKit
theorem Rngs.sets {w : World} {b : Nat} {A : Option Addr} {n : Nat} {rs : List Rng} (h : Rngs w A n rs) (hne : ∀ a, A = some a → 0 < n → a.block ≠ b) (i : Nat) (v : Value) : Rngs (w.setCell ⟨b, i, none⟩ v) A n rs :=
  ⟨h.1, fun hn => by
    obtain ⟨b1, o1, e, hc⟩ := h.2 hn
    refine ⟨b1, o1, e, fun i2 x hx j u hu => ?_⟩
    have h1 := hc i2 x hx j u hu
    have hb := hne _ e hn
    simp only at hb
    rw [← h1]
    refine World.cell?_of_block ?_
    simp only [World.setCell]
    rw [Array.getElem?_modify, if_neg (fun e2 => hb e2.symm)]⟩
end Go.Proofs.YtmlcdohldkgcdaaGreatDoor
namespace Go.Proofs.YtmlcdohldkgcdaaGreatDoor
open Go Go.RowKit
theorem KeptBut.of_kept {S : List Nat} {w w' : World} (h : Kept w w') : KeptBut S w w' := h.but S
end Go.Proofs.YtmlcdohldkgcdaaGreatDoor
namespace Go.Proofs.YtmlcdohldkgcdaaGreatDoor
open Go Go.RowKit
end Go.Proofs.YtmlcdohldkgcdaaGreatDoor
namespace Go.Proofs.YtmlcdohldkgcdaaGreatDoor
open Go Go.RowKit
theorem cells2_set {w : World} {b : Nat} {v0 v1 : Value} {t : TypeId} (h : w.heap[b]? = some (.cells #[v0, v1] t (0, 0))) (a0 a1 : Value) :
    ((w.setCell ⟨b, 0, none⟩ a0).setCell ⟨b, 1, none⟩ a1).heap[b]? = some (.cells #[a0, a1] t (0, 0)) := by
  simp [World.setCell, Array.getElem?_modify, h]
end Go.Proofs.YtmlcdohldkgcdaaGreatDoor
