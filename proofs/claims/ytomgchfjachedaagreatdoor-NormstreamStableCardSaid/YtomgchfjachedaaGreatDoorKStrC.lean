/- normstream: add, cut, shut, Pending. -/
import Derived.Defers
import Derived.Test.YtomgchfjachedaaGreatDoorKSq
import Derived.Test.YtomgchfjachedaaGreatDoorKPl60
import Derived.Test.YtomgchfjachedaaGreatDoorKApp
import Derived.Test.YtomgchfjachedaaGreatDoorKStc
namespace Go.Proofs.YtomgchfjachedaaGreatDoor
open Go Go.RowKit
theorem OwnI.form {w : World} {base : Nat} {v : Value} {xs : List Int} (h : OwnI w base v xs) : ∃ A n c, v = .slice A n c := by
  obtain ⟨A, c, e, _⟩ := OwnI.sl h
  exact ⟨A, _, c, e⟩
theorem own_lowS {w : World} {b b' : Nat} {v : Value} {xs : List Int} (h : OwnI w b v xs) (hb : b' ≤ b) : OwnI w b' v xs :=
  ⟨h.1, by
    rcases h.2 with h0 | ⟨g, cap, cur, e1, h1, rest⟩
    · exact .inl h0
    · exact .inr ⟨g, cap, cur, e1, Nat.le_trans hb h1, rest⟩⟩
structure KF (F : Nat → Prop) (w w' : World) : Prop where
  os : w'.os = w.os
  tape : w'.tape = w.tape
  output : w'.output = w.output
  size : w.heap.size ≤ w'.heap.size
  block : ∀ i, i < w.heap.size → ¬ F i → w'.heap[i]? = w.heap[i]?
section
variable {F F' : Nat → Prop} {w a b c : World}
theorem KF.refl (F : Nat → Prop) (w : World) : KF F w w := ⟨rfl, rfl, rfl, Nat.le_refl _, fun _ _ _ => rfl⟩
theorem KF.trans (h : KF F a b) (k : KF F b c) : KF F a c :=
  ⟨k.os.trans h.os, k.tape.trans h.tape, k.output.trans h.output, Nat.le_trans h.size k.size, fun i hi hn => (k.block i (Nat.lt_of_lt_of_le hi h.size) hn).trans (h.block i hi hn)⟩
theorem KF.mono (h : KF F a b) (hF : ∀ i, F i → F' i) : KF F' a b := ⟨h.os, h.tape, h.output, h.size, fun i hi hn => h.block i hi (fun h' => hn (hF i h'))⟩
theorem KF.of (h : Kept a b) : KF F a b := ⟨h.os, h.tape, h.output, h.size, fun i hi _ => h.block i hi⟩
theorem KF.ofBut {S : List Nat} (h : KeptBut S a b) (hS : ∀ i ∈ S, F i) : KF F a b := ⟨h.os, h.tape, h.output, h.size, fun i hi hn => h.block i hi (fun hm => hn (hS i hm))⟩
theorem KF.below {B0 : Nat} (h : KF F a b) (hF : ∀ i, F i → B0 ≤ i) (hB : B0 ≤ a.heap.size) : Below B0 a b :=
  ⟨h.os, h.tape, h.output, h.size, fun i hi => h.block i (Nat.lt_of_lt_of_le hi hB) (fun h' => by have := hF i h'; omega)⟩
theorem KF.kept {B0 : Nat} (hk : Kept w a) (h : KF F a b) (hF : ∀ i, F i → B0 ≤ i) (hB : w.heap.size ≤ B0) : Kept w b :=
  ⟨h.os.trans hk.os, h.tape.trans hk.tape, h.output.trans hk.output, Nat.le_trans hk.size h.size, fun i hi => (h.block i (Nat.lt_of_lt_of_le hi hk.size) (fun h' => by have := hF i h'; omega)).trans (hk.block i hi)⟩
theorem KF.cell (h : KF F a b) {p : Addr} {v : Value} (hc : a.cell? p = some v) (hp : ¬ F p.block) : b.cell? p = some v := (World.cell?_of_block (h.block _ (cell_lt hc) hp)).trans hc
theorem Sl.kf {α : Type} {k : Nat} {enc : α → List Value} {A : Option Addr} {n : Nat} {xs : List α} (h : Sl k enc a A n xs) (hk : KF F a b) (hA : 0 < n → ∀ p, A = some p → ¬ F p.block) : Sl k enc b A n xs :=
  ⟨h.1, fun hn => by
    obtain ⟨b', off, e, hc⟩ := h.2 hn
    exact ⟨b', off, e, fun i x hx j u hu => hk.cell (hc i x hx j u hu) (show ¬ F b' from hA hn _ e)⟩⟩
theorem OwnI.kf {base : Nat} {v : Value} {xs : List Int} (h : OwnI a base v xs) (hk : KF F a b) (hv : ∀ g, v.ownBlock = some g → ¬ F g) : OwnI b base v xs :=
  own_block h (fun g hg => by
    obtain ⟨cur, hc⟩ := h.blockOf hg
    exact hk.block g (block_lt hc) (hv g hg))
theorem StrAt.kf {B0 bs : Nat} {n : Nrm} {form : Int} {pend : List Int} {F G : Nat → Prop} (h : StrAt a B0 bs n form pend F) (hk : KF G a b) (hG : ∀ i, G i → ¬ F i) : StrAt b B0 bs n form pend F := by
  obtain ⟨s, wd, pv, h⟩ := h
  have hblk : ∀ i, F i → b.heap[i]? = a.heap[i]? := fun i hi => hk.block i (h.lt i hi).2 (fun hm => hG i hm hi)
  refine ⟨s, wd, pv, (hblk bs h.hb).trans h.cell, own_block h.own (fun g hg => hblk g (h.hp g hg)), h.nat, fun p v hc => ?_, h.hb, h.hp, fun i hi => ⟨(h.lt i hi).1, Nat.lt_of_lt_of_le (h.lt i hi).2 hk.size⟩⟩
  obtain ⟨h1, h2, h3⟩ := h.cov p v hc
  exact ⟨(World.cell?_of_block (hblk _ h2)).trans h1, h2, h3⟩
end
def GlobB (B0 : Nat) (w : World) : Prop := ∀ w', Below B0 w w' → Glob w'
theorem GlobB.of {B0 : Nat} {w w' : World} (h : Glob w) (hk : Kept w w') (hB : w.heap.size ≤ B0) : GlobB B0 w' := fun _ hb => h.kept (Below.trans hk (hb.mono hB))
theorem GlobB.go {B0 : Nat} {w w' : World} (h : GlobB B0 w) (hk : Below B0 w w') : GlobB B0 w' := fun _ hb => h _ (hk.trans hb)
theorem GlobB.here {B0 : Nat} {w : World} (h : GlobB B0 w) : Glob w := h w (Below.refl _ _)
theorem cells6_set0 {w : World} {b : Nat} {v0 v1 v2 v3 v4 v5 : Value} {t : TypeId} (h : w.heap[b]? = some (.cells #[v0, v1, v2, v3, v4, v5] t (0, 0))) (a0 : Value) :
    (w.setCell ⟨b, 0, none⟩ a0).heap[b]? = some (.cells #[a0, v1, v2, v3, v4, v5] t (0, 0)) := by
  simp [World.setCell, Array.getElem?_modify, h]
theorem cells6_setAll {w : World} {b : Nat} {v0 v1 v2 v3 v4 v5 : Value} {t : TypeId} (h : w.heap[b]? = some (.cells #[v0, v1, v2, v3, v4, v5] t (0, 0))) (a0 a1 a2 a3 a4 a5 : Value) :
    ((((((w.setCell ⟨b, 0, none⟩ a0).setCell ⟨b, 1, none⟩ a1).setCell ⟨b, 2, none⟩ a2).setCell ⟨b, 3, none⟩ a3).setCell ⟨b, 4, none⟩ a4).setCell ⟨b, 5, none⟩ a5).heap[b]? = some (.cells #[a0, a1, a2, a3, a4, a5] t (0, 0)) := by
  simp [World.setCell, Array.getElem?_modify, h]
theorem OwnI.ne_box {w : World} {base b : Nat} {v : Value} {xs : List Int} {cs : Array Value} (h : OwnI w base v xs) (hb : w.heap[b]? = some (.cells cs 51 (0, 0))) : ∀ g, v.ownBlock = some g → g ≠ b := fun g hg e => by
  obtain ⟨cur, hc⟩ := h.blockOf hg
  subst e
  rw [hb] at hc
  simp at hc
set_option maxRecDepth 100000 in
set_option maxHeartbeats 1000000 in
theorem add_any (b : Nat) (pv x1 x2 x3 x4 x5 : Value) (pend ys : List Int) (A : Option Addr) (n c : Nat) (w : World) (hb : w.heap[b]? = some (.cells #[pv, x1, x2, x3, x4, x5] 51 (0, 0))) (hown : OwnI w 0 pv pend) (hI : Ints w A n ys) (hlen : pend.length + ys.length ≤ 1000000000) :
    Calls Tryz.prog 56 #[.pointer (some ⟨b, 0, none⟩), .slice A n c] w fun e w' => e = .returned (.tuple #[]) ∧ ∃ pv', w'.heap[b]? = some (.cells #[pv', x1, x2, x3, x4, x5] 51 (0, 0)) ∧ OwnI w' 0 pv' (pend ++ ys) ∧ (pv'.ownBlock = pv.ownBlock ∨ pv'.ownBlock = some w.heap.size) ∧ KeptBut (b :: pv.ownBlock.toList) w w' := by
  have HB := Lib.hid hb
  have HO := Lib.hid hown
  have HI := Lib.hid hI
  have HL := Lib.hid hlen
  have c0 := cell_of_block (i := 0) hb rfl
  simp only [s4_, s5_] at c0
  clear hb hown hI hlen
  go_enter Tryz.func56, Tryz.ntmps56
  go_wp2_with (at_builtin; refine app_ints rfl _ _ rfl 0 _ _ rfl (by exact HO.out) _ _ _ ys rfl (by exact HI.out) (by exact HL.out) (Nat.zero_le _) ?_; intro v7 w7 hown7 hgrow7 hat7; obtain ⟨A7, n7, c7', rfl⟩ := hown7.form; have HB7 := Lib.hid ((hgrow7.block b (block_lt HB.out) (fun e => HO.out.ne_box HB.out b e.symm rfl)).trans HB.out); have c7 := cell_of_block (i := 0) HB7.out rfl; have f7 := frozen_of_block (i := 0) HB7.out; simp only [s4_, s5_] at c7; have HO7 := Lib.hid hown7; have HG7 := Lib.hid (show w.grownBy w7 pv.ownBlock from hgrow7); have HA7 := Lib.hid (show (Value.slice A7 n7 c7').ownBlock = pv.ownBlock ∨ (Value.slice A7 n7 c7').ownBlock = some w.heap.size from hat7); clear hown7 hgrow7 hat7)
  have hres : OwnI (w7.setCell ⟨b, 0, none⟩ (.slice A7 n7 c7')) 0 (.slice A7 n7 c7') (pend ++ ys) := own_butK HO7.out (KeptBut.setCell (S := [b]) w7 (by simp) (.slice A7 n7 c7')) (fun g hg hm => HO7.out.ne_box HB7.out g hg (by simpa using hm))
  have hkb : KeptBut (b :: pv.ownBlock.toList) w (w7.setCell ⟨b, 0, none⟩ (.slice A7 n7 c7')) := KeptBut.trans (KeptBut.monoK (grown_butK HG7.out) (fun i hi => List.mem_cons_of_mem _ hi)) (KeptBut.setCell _ (by simp) (.slice A7 n7 c7'))
  have hbx := cells6_set0 HB7.out (.slice A7 n7 c7')
  have hat := HA7.out
  first | go_end0 | (refine bodyPost_ret (results_none rfl _ _ _) rfl ?_)
  exact ⟨rfl, .slice A7 n7 c7', hbx, hres, hat, hkb⟩
set_option maxRecDepth 100000 in
set_option maxHeartbeats 2000000 in
theorem cut_any (b : Nat) (pv x1 x2 x3 x4 x5 : Value) (xs : List Int) (k : Nat) (kx : Int) (hkx : kx = (k : Int)) (w : World) (hb : w.heap[b]? = some (.cells #[pv, x1, x2, x3, x4, x5] 51 (0, 0))) (hown : OwnI w 0 pv xs) (hk : k ≤ xs.length) (hlen : xs.length ≤ 10000000) :
    Calls Tryz.prog 58 #[.pointer (some ⟨b, 0, none⟩), .int .i64 kx] w fun e w' => ∃ A m c pv', e = .returned (.slice A m c) ∧ m ≤ c ∧ Ints w' A m (xs.take k) ∧ (∀ a, A = some a → w.heap.size ≤ a.block) ∧ w'.heap[b]? = some (.cells #[pv', x1, x2, x3, x4, x5] 51 (0, 0)) ∧ OwnI w' w.heap.size pv' (xs.drop k) ∧ KeptBut [b] w w' := by
  subst hkx
  obtain ⟨A0, c0, rfl, hle, hI⟩ := OwnI.sl hown
  obtain ⟨nx, hnx⟩ : ∃ nx : Nat, nx = xs.length := ⟨_, rfl⟩
  rw [← hnx] at hI hle hb hk hlen
  have HB := Lib.hid hb
  have HI := Lib.hid hI
  have HT := Lib.hid (fun w' (hk1 : Kept w w') => clone_any A0 k c0 (xs.take k) w' (by omega) (Ints.front_ (hI.kept hk1) hk))
  have HD := Lib.hid (fun w' (hk1 : Kept w w') => clone_any (dropA A0 c0 k) (nx - k) (c0 - k) (xs.drop k) w' (by omega) (Ints.drop_ (hI.kept hk1) hk hle))
  have hr1 := fun w => run_take1 A0 nx c0 k (by omega) w
  have hr2 := fun w => run_drop1 A0 nx c0 k hk w
  have q0 := cell_of_block (i := 0) hb rfl
  simp only [s4_, s5_] at q0
  have HQ := Lib.hid q0
  have HNX := Lib.hid hnx
  have HK := Lib.hid hk
  have HLE := Lib.hid hle
  clear hb hown hI hlen hnx
  go_enter Tryz.func58, Tryz.ntmps58
  go_wp2_with fail
  refine (HT.out _ (Kept.refl w)).mono ?_
  rintro e w1 ⟨v1, rfl, o1, k1⟩
  obtain ⟨A1, c1, rfl, le1, i1⟩ := OwnI.sl o1
  have HF1 := Lib.hid o1.far
  obtain ⟨m1, hm1⟩ : ∃ m1 : Nat, m1 = (xs.take k).length := ⟨_, rfl⟩
  rw [← hm1] at i1 le1 ⊢
  have I1 := Lib.hid i1
  have LE1 := Lib.hid le1
  have K1 := Lib.hid k1
  have HM1 := Lib.hid hm1
  have q1 := Kept.cell k1 HQ.out
  clear o1 i1 le1 k1 hm1 q0
  go_wp2_with fail
  refine (HD.out _ K1.out).mono ?_
  rintro e w2 ⟨v2, rfl, o2, k2⟩
  obtain ⟨A2, n2, c2, rfl⟩ := o2.form
  have O2 := Lib.hid o2
  have K2 := Lib.hid (Kept.trans K1.out k2)
  have I1b := Lib.hid (I1.out.kept k2)
  have HB2 := Lib.hid ((K2.out.block b (block_lt HB.out)).trans HB.out)
  have hq2 := cell_of_block (i := 0) HB2.out rfl
  have f2 := frozen_of_block (i := 0) HB2.out
  simp only [s4_, s5_] at hq2
  have HSZ := Lib.hid (show w.heap.size ≤ w1.heap.size from K1.out.size)
  have hbl := block_lt HB.out
  have HBL := Lib.hid hbl
  clear o2 k2 q1 hbl
  go_wp2_with fail
  have hres : OwnI (w2.setCell ⟨b, 0, none⟩ (.slice A2 n2 c2)) w1.heap.size (.slice A2 n2 c2) (xs.drop k) := own_butK O2.out (KeptBut.setCell (S := [b]) w2 (by simp) (.slice A2 n2 c2)) (fun g hg hm => O2.out.ne_box HB2.out g hg (by simpa using hm))
  have hres2 : OwnI (w2.setCell ⟨b, 0, none⟩ (.slice A2 n2 c2)) w.heap.size (.slice A2 n2 c2) (xs.drop k) := own_lowS hres HSZ.out
  have hi1 : Ints (w2.setCell ⟨b, 0, none⟩ (.slice A2 n2 c2)) A1 m1 (xs.take k) := sl_butK I1b.out (KeptBut.setCell (S := [b]) w2 (by simp) (.slice A2 n2 c2)) (fun p hp _ => by have := HF1.out p hp; have := HBL.out; simp; omega)
  have hkb : KeptBut [b] w (w2.setCell ⟨b, 0, none⟩ (.slice A2 n2 c2)) := KeptBut.trans (K2.out.but [b]) (KeptBut.setCell _ (by simp) (.slice A2 n2 c2))
  have hbx := cells6_set0 HB2.out (.slice A2 n2 c2)
  go_ret
  exact ⟨A1, m1, c1, .slice A2 n2 c2, rfl, LE1.out, hi1, HF1.out, hbx, hres2, hkb⟩
def zeroStr (b : Nat) (w : World) : World := (((((w.setCell ⟨b, 0, none⟩ (.slice none 0 0)).setCell ⟨b, 1, none⟩ (.slice none 0 0)).setCell ⟨b, 2, none⟩ (.slice none 0 0)).setCell ⟨b, 3, none⟩ (.slice none 0 0)).setCell ⟨b, 4, none⟩ (.int .i64 0)).setCell ⟨b, 5, none⟩ (.bool false)
theorem zeroStr_off {w : World} {b : Nat} {v0 v1 v2 v3 v4 v5 : Value} (h : w.heap[b]? = some (.cells #[v0, v1, v2, v3, v4, v5] 51 (0, 0))) : StrOff (zeroStr b w) b := cells6_setAll h _ _ _ _ _ _
theorem zeroStr_but (w : World) (b : Nat) : KeptBut [b] w (zeroStr b w) :=
  KeptBut.trans (KeptBut.trans (KeptBut.trans (KeptBut.trans (KeptBut.trans (KeptBut.setCell w (by simp) _) (KeptBut.setCell _ (by simp) _)) (KeptBut.setCell _ (by simp) _)) (KeptBut.setCell _ (by simp) _)) (KeptBut.setCell _ (by simp) _)) (KeptBut.setCell _ (by simp) _)
set_option maxRecDepth 100000 in
set_option maxHeartbeats 1000000 in
theorem shut_any (b : Nat) (v0 v1 v2 v3 v4 v5 : Value) (w : World) (hb : w.heap[b]? = some (.cells #[v0, v1, v2, v3, v4, v5] 51 (0, 0))) :
    Calls Tryz.prog 59 #[.pointer (some ⟨b, 0, none⟩)] w fun e w' => e = .returned (.tuple #[]) ∧ w' = zeroStr b w := by
  have c0 := cell_of_block (i := 0) hb rfl
  have c1 := cell_of_block (i := 1) hb rfl
  have c2 := cell_of_block (i := 2) hb rfl
  have c3 := cell_of_block (i := 3) hb rfl
  have c4 := cell_of_block (i := 4) hb rfl
  have c5 := cell_of_block (i := 5) hb rfl
  have f0 := frozen_of_block (i := 0) hb
  have f1 := frozen_of_block (i := 1) hb
  have f2 := frozen_of_block (i := 2) hb
  have f3 := frozen_of_block (i := 3) hb
  have f4 := frozen_of_block (i := 4) hb
  have f5 := frozen_of_block (i := 5) hb
  simp only [s4_, s5_, s6_] at c0 c1 c2 c3 c4 c5
  clear hb
  go_enter Tryz.func59, Tryz.ntmps59
  go_wp2
  first | go_end0 | (refine bodyPost_ret (results_none rfl _ _ _) rfl ?_)
  exact ⟨rfl, rfl⟩
set_option maxRecDepth 100000 in
set_option maxHeartbeats 1000000 in
theorem shut_deferred (b : Nat) (v0 v1 v2 v3 v4 v5 : Value) (u : FrameMode) (w : World) (hb : w.heap[b]? = some (.cells #[v0, v1, v2, v3, v4, v5] 51 (0, 0))) :
    CallsD Tryz.prog 59 #[.pointer (some ⟨b, 0, none⟩)] u w fun e u' w' => u' = u ∧ (e = .returned (.tuple #[]) ∧ w' = zeroStr b w) := by
  have c0 := cell_of_block (i := 0) hb rfl
  have c1 := cell_of_block (i := 1) hb rfl
  have c2 := cell_of_block (i := 2) hb rfl
  have c3 := cell_of_block (i := 3) hb rfl
  have c4 := cell_of_block (i := 4) hb rfl
  have c5 := cell_of_block (i := 5) hb rfl
  have f0 := frozen_of_block (i := 0) hb
  have f1 := frozen_of_block (i := 1) hb
  have f2 := frozen_of_block (i := 2) hb
  have f3 := frozen_of_block (i := 3) hb
  have f4 := frozen_of_block (i := 4) hb
  have f5 := frozen_of_block (i := 5) hb
  simp only [s4_, s5_, s6_] at c0 c1 c2 c3 c4 c5
  clear hb
  go_enter_d Tryz.func59, Tryz.ntmps59
  go_wp2
  first | go_end0 | (refine bodyPost_ret (results_none rfl _ _ _) rfl ?_)
  exact ⟨rfl, rfl⟩
set_option maxRecDepth 100000 in
set_option maxHeartbeats 1000000 in
theorem pending_nil (w : World) : Calls Tryz.prog 27 #[.pointer none] w fun e w' => e = .returned (.slice none 0 0) ∧ w' = w := by
  go_enter Tryz.func27, Tryz.ntmps27
  go_wp2
  go_ret
  exact ⟨rfl, rfl⟩
set_option maxRecDepth 100000 in
set_option maxHeartbeats 1000000 in
theorem pending_raw (b : Nat) (pv x1 x2 x3 x4 x5 : Value) (xs : List Int) (w : World) (hb : w.heap[b]? = some (.cells #[pv, x1, x2, x3, x4, x5] 51 (0, 0))) (hown : OwnI w 0 pv xs) (hlen : xs.length ≤ 10000000) :
    Calls Tryz.prog 27 #[.pointer (some ⟨b, 0, none⟩)] w (RetFr w xs) := by
  obtain ⟨A0, c0, rfl, hle, hI⟩ := OwnI.sl hown
  obtain ⟨nx, hnx⟩ : ∃ nx : Nat, nx = xs.length := ⟨_, rfl⟩
  rw [← hnx] at hI hle hb hlen
  have HC := Lib.hid ((clone_any A0 nx c0 xs w (by omega) hI).mono fun _ _ h => h.fr)
  have q0 := cell_of_block (i := 0) hb rfl
  simp only [s4_, s5_] at q0
  clear hb hown hI hlen hnx hle
  go_enter Tryz.func27, Tryz.ntmps27
  go_wp2_with fail
  refine HC.out.mono ?_
  rintro e w1 ⟨A1, n1, c1, rfl, le1, i1, fr1, k1⟩
  have I1 := Lib.hid i1
  have FR1 := Lib.hid fr1
  clear i1 fr1
  go_wp2_with fail
  go_ret
  exact ⟨A1, n1, c1, rfl, le1, I1.out, FR1.out, k1⟩
theorem pending_any {B0 b : Nat} {n : Nrm} {form : Int} {pend : List Int} {F : Nat → Prop} (w : World) (h : StrAt w B0 b n form pend F) (hlen : pend.length ≤ 10000000) :
    Calls Tryz.prog 27 #[.pointer (some ⟨b, 0, none⟩)] w (RetFr w pend) := by
  obtain ⟨s, wd, pv, h⟩ := h
  exact pending_raw b pv _ _ _ _ _ pend w h.cell h.own hlen
theorem pending_off {b : Nat} (w : World) (h : StrOff w b) : Calls Tryz.prog 27 #[.pointer (some ⟨b, 0, none⟩)] w (RetFr w []) :=
  pending_raw b _ _ _ _ _ _ [] w h (World.ownsRow_nil _ _ _ _ : OwnI w 0 (.slice none 0 0) []) (by simp)
end Go.Proofs.YtomgchfjachedaaGreatDoor
