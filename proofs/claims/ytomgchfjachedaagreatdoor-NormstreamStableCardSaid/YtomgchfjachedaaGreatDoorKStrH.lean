/- Writing little; slices that grow beside a stream. -/
import Derived.Test.YtomgchfjachedaaGreatDoorKAwk25
namespace Go.Proofs.YtomgchfjachedaaGreatDoor
open Go Go.RowKit
section
variable {F G F' : Nat → Prop} {w w' w0 : World} {A : Option Addr} {m base B0 b : Nat} {xs ys : List Int} {v v' u : Value} {n : Nrm} {form : Int} {pend text : List Int} {e : Ending}
theorem wr_ok (h : RetWr w B0 b n form pend text F e w') (hl : pend.length + text.length ≤ 65536) : ∃ (A : Option Addr) (m c : Nat) (F' : Nat → Prop), e = .returned (.tuple #[.slice A m c, .int .i64 0]) ∧ m ≤ c ∧ IntsF F' w' A m (wrOut n form pend text) ∧ (∀ a, A = some a → w.heap.size ≤ a.block) ∧ StrAt w' B0 b n form (wrPend (boundB n form) pend text) F' ∧ (∀ i, F' i → F i ∨ w.heap.size ≤ i) ∧ KF F w w' := by
  unfold RetWr at h
  rw [if_neg (by have := wrPend_length (boundB n form) pend text; omega)] at h
  obtain ⟨A, m, c, F', rfl, hle, hI, hA, hS, hF, hK⟩ := h
  exact ⟨A, m, c, F', rfl, hle, IntsF.new hI (fun a ha => (hA a ha).2), fun a ha => (hA a ha).1, hS, hF, hK⟩
theorem OwnF.row (_h : OwnF F w base v xs) (hg : w.grownBy w' v.ownBlock) : w.grownBy w' v.ownBlock := hg
theorem OwnF.rowAt (_h : OwnF F w base v xs) (h : v'.ownBlock = v.ownBlock ∨ v'.ownBlock = some w.heap.size) : v'.ownBlock = v.ownBlock ∨ v'.ownBlock = some w.heap.size := h
theorem OwnF.lt (h : OwnF F w base v xs) : ∀ g, v.ownBlock = some g → base ≤ g ∧ g < w.heap.size := fun g hg => World.ownsRow.lt h.1 g hg
theorem OwnF.other (h : OwnF F w base v xs) {row : Option Nat} (hg : w.grownBy w' row) (hr : ∀ g, row = some g → v.ownBlock ≠ some g) : OwnF F w' base v xs :=
  ⟨own_butK h.1 (grown_butK hg) (fun g hg' hm => hr g (by simpa using hm) hg'), h.2⟩
theorem own_apart (hne : ∀ g, v.ownBlock = some g → u.ownBlock ≠ some g) (hu : ∀ g, u.ownBlock = some g → g < w.heap.size) (hat : v'.ownBlock = v.ownBlock ∨ v'.ownBlock = some w.heap.size) : ∀ g, v'.ownBlock = some g → u.ownBlock ≠ some g := fun g hg h => by
  rcases hat with e | e
  · exact hne g (by rw [← e]; exact hg) h
  · rw [e] at hg
    injection hg with hg
    have := hu g h
    omega
theorem StrAt.lt2 (h : StrAt w B0 b n form pend F) : ∀ i, F i → i < w.heap.size := fun i hi => (h.lt i hi).2
theorem StrAt.lo (h : StrAt w B0 b n form pend F) : ∀ i, F i → B0 ≤ i := fun i hi => (h.lt i hi).1
end
theorem run_mid (A : Option Addr) (n c k : Nat) (hk : k < n) (hc : n ≤ c) (w : World) :
    (Instr.slice 40 (.slice A n c) (some (.int .i64 (k : Int))) (some (.int .i64 ((k : Int) + 1))) none).run Tryz.prog w = .ok (.slice (dropA A c k) 1 (c - k)) w := by
  rw [run_slice_lh w 40 A n c und_ints .i64 .i64 _ _ (by omega) (by omega) (by omega), size_int]
  have h1 : ((k : Int) + 1).toNat - k = 1 := by omega
  simp [Result.andThen, sliced, dropA]
theorem drop_take_one {xs : List Int} {k : Nat} {x : Int} (h : xs[k]? = some x) : (xs.drop k).take 1 = [x] := by
  have hk := lt_of_getElem?_some h
  rw [List.drop_eq_getElem_cons hk]
  rw [List.getElem?_eq_getElem hk] at h
  injection h with h
  simp [h]
theorem run_tail (A : Option Addr) (n c q : Nat) (hq : q ≤ n) (w : World) :
    (Instr.slice 40 (.slice A n c) (some (.int .i64 ((n : Int) - (q : Int)))) none none).run Tryz.prog w = .ok (.slice (dropA A c (n - q)) (n - (n - q)) (c - (n - q))) w := by
  have h := run_drop1 A n c (n - q) (by omega) w
  rw [show (((n - q : Nat)) : Int) = (n : Int) - (q : Int) by omega] at h
  exact h
theorem strOut_step (n : Nrm) (form : Int) (inp text : List Int) : strOut n form inp ++ wrOut n form (strPend (boundB n form) inp) text = strOut n form (inp ++ text) := (strOut_write n form inp text).symm
theorem strPend_le (p : Int → Bool) (inp : List Int) : (strPend p inp).length ≤ inp.length := strPend_length p inp
theorem strOut_len (n : Nrm) (form : Int) (inp : List Int) (h : inp.length ≤ 2000) : (strOut n form inp).length ≤ 200000 := by
  unfold strOut
  have h1 := formOf_length n form (inp.take (lastBd (boundB n form) inp))
  have h2 : (inp.take (lastBd (boundB n form) inp)).length ≤ inp.length := List.length_take_le' ..
  omega
section
variable {F F' : Nat → Prop} {w w' w0 : World} {b b2 k c : Nat} {n : Nrm} {form : Int} {s : Sls} {wait : List Int} {A : Option Addr}
theorem RfAt.kf (h : RfAt w b n form s wait A k c) (hk : KF F w w') (hb : ¬ F b) (hA : 0 < k → ∀ a, A = some a → ¬ F a.block) : RfAt w' b n form s wait A k c :=
  ⟨(hk.block b (block_lt h.cell) hb).trans h.cell, h.le, h.ints.kf hk hA, h.ne⟩
theorem RfAt.kept (h : RfAt w b n form s wait A k c) (hk : Kept w w') : RfAt w' b n form s wait A k c :=
  ⟨(hk.block b (block_lt h.cell)).trans h.cell, h.le, h.ints.kept hk, h.ne⟩
theorem RfAt.lt (h : RfAt w b n form s wait A k c) : b < w.heap.size := block_lt h.cell
theorem not_new (hb : ¬ F b) (hlt : b < w.heap.size) (hF : ∀ i, F' i → F i ∨ w.heap.size ≤ i) : ¬ F' b := fun h => by
  rcases hF b h with h1 | h1
  · exact hb h1
  · omega
theorem StrOff.butS {S : List Nat} (h : StrOff w b) (hk : KeptBut S w w') (hb : b ∉ S) : StrOff w' b := (hk.block b (block_lt h) hb).trans h
theorem StrOff.kept (h : StrOff w b) (hk : Kept w w') : StrOff w' b := (hk.block b (block_lt h)).trans h
end
end Go.Proofs.YtomgchfjachedaaGreatDoor
