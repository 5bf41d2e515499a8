/- ident.made, Valid. A slice that lies in a block of the call's own. And more of that kind. -/
import Derived.Deep.RegionHeld3
import Derived.Test.YtmlcdohldkgcdaaGreatDoorKSq
import Derived.Test.YtmlcdohldkgcdaaGreatDoorKIdC
import Derived.Test.YtmlcdohldkgcdaaGreatDoorKCur
import Derived.Test.YtmlcdohldkgcdaaGreatDoorKPl44
import Derived.Test.YtmlcdohldkgcdaaGreatDoorKBase
import Derived.Test.YtmlcdohldkgcdaaGreatDoorKRfb
import Derived.Test.YtmlcdohldkgcdaaGreatDoorKMeas
import Derived.Test.YtmlcdohldkgcdaaGreatDoorKSet
import Derived.Test.YtmlcdohldkgcdaaGreatDoorKPq
import Derived.Test.YtmlcdohldkgcdaaGreatDoorKFew
import Derived.Test.YtmlcdohldkgcdaaGreatDoorKQp
import Derived.Test.YtmlcdohldkgcdaaGreatDoorKAlive21
import Derived.Test.YtmlcdohldkgcdaaGreatDoorKSqx
import Derived.Test.YtmlcdohldkgcdaaGreatDoorKMaps
import Derived.Test.YtmlcdohldkgcdaaGreatDoorKSimA
namespace Go.Proofs.YtmlcdohldkgcdaaGreatDoor
open Go Go.RowKit
theorem p_valid (r : IdR) (x : Int) : (validB x && (hasR r.st x || hasR r.co x)) = r.p x := by
  unfold IdR.p
  cases hv : validB x
  · rw [hasR_bad hv, hasR_bad hv]; rfl
  · rfl
set_option maxRecDepth 100000 in
set_option maxHeartbeats 2000000 in
theorem made_any (i : Ids) (r : IdR) (w : World) (hI : IdIn w i r) (hs : smallI r = true) : Calls Tryz.prog 48 #[i.val] w (fun e w' => ∃ B, e = .returned (.pointer (some ⟨B, 0, none⟩)) ∧ SetsAt w' B r.b r.p r.c ∧ Kept w w') := by
  have hk0_ := Kept.alloc (Kept.refl w) (Obj.cells #[Value.slice i.As i.ns i.cs, Value.slice i.Ac i.nc i.cc, Value.slice i.Am i.nm i.cm] 54)
  have HK1 := Lib.hid hk0_
  have hb0_ := (box_block w (Obj.cells #[Value.slice i.As i.ns i.cs, Value.slice i.Ac i.nc i.cc, Value.slice i.Am i.nm i.cm] 54))
  have x0_ := cell_of_block (i := 0) hb0_ rfl
  have x1_ := cell_of_block (i := 1) hb0_ rfl
  have x2_ := cell_of_block (i := 2) hb0_ rfl
  simp only [s4_, s5_, s6_] at x0_ x1_ x2_
  have HX0 := Lib.hid x0_
  have HX1 := Lib.hid x1_
  have HX2 := Lib.hid x2_
  have HB0 := Lib.hid hb0_
  clear x0_ x1_ x2_ hb0_
  obtain ⟨hn1, hn2, hn3⟩ := hI.len hs
  have HL1 := Lib.hid (show (makeR r.st).length ≤ 12 from Nat.le_trans (makeR_length _) (smallI_parts hs).1)
  have HL3 := Lib.hid (show (makeR r.me).length ≤ 12 from Nat.le_trans (makeR_length _) (smallI_parts hs).2.2)
  have HM1 := Lib.hid (make_any i.As i.ns i.cs r.st _ (by omega) (hI.st.kept HK1.out))
  have HM3 := Lib.hid (fun w' (hk : Kept w w') => make_any i.Am i.nm i.cm r.me w' (by omega) (hI.me.kept hk))
  have HO := Lib.hid (fun w' (A : Option Addr) (n c : Nat) (hk : Kept w w') (hn : n ≤ 12) (hR : Rngs w' A n (makeR r.st)) => or_any A n c (makeR r.st) i.Ac i.nc i.cc r.co w' (by omega) (by omega) hR (hI.co.kept hk))
  clear hI hs hk0_ hn1 hn2 hn3
  unfold Ids.val at *
  have p0 := HX0.out
  have p1 := HX1.out
  have p2 := HX2.out
  go_enter Tryz.func48, Tryz.ntmps48
  go_wp2_with fail
  refine HM1.out.mono ?_
  rintro e w1 ⟨A1, n1, c1, rfl, le1, i1, k1⟩
  clear p0 p1 p2
  have hn1 : n1 ≤ 12 := (by rw [i1.1]; exact HL1.out)
  have hb := heap_alloc_new w1 (Obj.cells #[Value.slice A1 n1 c1] 26)
  have hk := Kept.alloc (Kept.refl w1) (Obj.cells #[Value.slice A1 n1 c1] 26)
  have KB1 := Lib.hid (Kept.trans k1 hk)
  have I1 := Lib.hid (i1.kept hk)
  have c0 := cell_of_block (i := 0) hb rfl
  simp only [s4_, s5_] at c0
  have C0 := Lib.hid c0
  clear i1 k1 hk hb c0
  have q0 := Kept.cell KB1.out HX0.out
  have q1 := Kept.cell KB1.out HX1.out
  have q2 := Kept.cell KB1.out HX2.out
  have q3 := C0.out
  go_wp2_with fail
  generalize w1.alloc (Obj.cells #[Value.slice A1 n1 c1] 26) = w2 at *
  refine wp_region_held_drew (S := (fun w' => w'.cell? ⟨w.heap.size, 0, none⟩ = some (.slice i.As i.ns i.cs) ∧ w'.cell? ⟨w.heap.size, 1, none⟩ = some (.slice i.Ac i.nc i.cc) ∧ w'.cell? ⟨w.heap.size, 2, none⟩ = some (.slice i.Am i.nm i.cm) ∧ w'.cell? ⟨w1.heap.size, 0, none⟩ = some (.slice A1 n1 c1))) (by kernel_rfl) ⟨q0, q1, q2, q3⟩ (fun hHeld => ?_)
  refine tk_ 0 ?_ rfl ?_; refine tk_ 1 ?_ rfl ?_; refine tk_ 2 ?_ rfl ?_; refine tk_ 3 ?_ rfl ?_; refine tk_ 5 ?_ rfl ?_; refine tk_ 6 ?_ rfl ?_; refine tk_ 7 ?_ rfl ?_
  refine rd_ 4 rfl (fun K hK => ?_)
  go_simp
  (refine (HO.out _ A1 n1 c1 (Kept.trans HK1.out (Kept.drew KB1.out)) hn1 (I1.out.kept (Kept.drew (Kept.refl _)))).mono ?_; rintro e w4 ⟨R4, A4, n4, c4, rfl, le4, hm4, i4, hcan4, hhas4, k4⟩; have I4 := Lib.hid i4; have HH4 := Lib.hid hhas4; have KC := Lib.hid (Kept.trans (Kept.drew (Kept.refl w2)) k4); clear i4 hhas4 hcan4 k4)
  go_wp2_with fail
  refine hK.out _ _ ⟨Kept.cell KC.out q0, Kept.cell KC.out q1, Kept.cell KC.out q2, Kept.cell KC.out q3⟩ (fun hHeld => ?_)
  clear hK K
  (try simp only [Act.put, s1_, s2_, s3_, s4_, s5_, s6_])
  refine rd_ 8 rfl (fun K hK => ?_)
  go_simp
  (refine (HM3.out _ (Kept.trans HK1.out (Kept.trans KB1.out KC.out))).mono ?_; rintro e w5 ⟨A5, n5, c5, rfl, le5, i5, k5⟩; have I5 := Lib.hid i5; have hn5 : n5 ≤ 12 := (by rw [i5.1]; exact HL3.out); have KD := Lib.hid (Kept.trans KC.out k5); have K45 := Lib.hid k5; clear i5 k5)
  go_wp2_with fail
  refine hK.out _ _ ⟨Kept.cell KD.out q0, Kept.cell KD.out q1, Kept.cell KD.out q2, Kept.cell KD.out q3⟩ (fun hHeld => ?_)
  clear hK K
  (try simp only [Act.put, s1_, s2_, s3_, s4_, s5_, s6_])
  refine tk_ 9 ?_ rfl ?_
  refine rd_ 10 rfl (fun K hK => ?_)
  skip
  go_simp
  refine hK.out _ _ ⟨Kept.cell (Kept.alloc KD.out (Obj.cells #[Value.slice A1 n1 c1, Value.slice A4 n4 c4, Value.slice A5 n5 c5] 118)) q0, Kept.cell (Kept.alloc KD.out (Obj.cells #[Value.slice A1 n1 c1, Value.slice A4 n4 c4, Value.slice A5 n5 c5] 118)) q1, Kept.cell (Kept.alloc KD.out (Obj.cells #[Value.slice A1 n1 c1, Value.slice A4 n4 c4, Value.slice A5 n5 c5] 118)) q2, Kept.cell (Kept.alloc KD.out (Obj.cells #[Value.slice A1 n1 c1, Value.slice A4 n4 c4, Value.slice A5 n5 c5] 118)) q3⟩ (fun hHeld => ?_)
  clear hK K
  (try simp only [Act.put, s1_, s2_, s3_, s4_, s5_, s6_])
  refine tk_ 11 ?_ rfl ?_
  refine wpAnyH_done (by kernel_rfl) ?_ _
  clear q0 q1 q2 q3
  go_wp2_with fail
  go_ret
  exact ⟨w5.heap.size, rfl, ⟨A1, n1, c1, makeR r.st, A4, n4, c4, R4, A5, n5, c5, makeR r.me, heap_alloc_new w5 _, ⟨by omega, hm4, by omega⟩, I1.out.kept (Kept.alloc KD.out (Obj.cells #[Value.slice A1 n1 c1, Value.slice A4 n4 c4, Value.slice A5 n5 c5] 118)), I4.out.kept (Kept.alloc K45.out _), I5.out.kept (Kept.alloc (Kept.refl _) _), fun x => has_make _ _, fun x => (HH4.out x).trans (by rw [has_make]; exact p_valid r x), fun x => has_make _ _⟩, Kept.trans HK1.out (Kept.trans KB1.out (Kept.alloc KD.out (Obj.cells #[Value.slice A1 n1 c1, Value.slice A4 n4 c4, Value.slice A5 n5 c5] 118)))⟩
set_option maxRecDepth 100000 in
set_option maxHeartbeats 2000000 in
theorem idvalid_any (i : Ids) (r : IdR) (A : Option Addr) (nt ct : Nat) (text : List Int) (w : World) (hI : IdIn w i r) (hs : smallI r = true) (hnt : nt ≤ 100000) (hT : Ints w A nt text) : Calls Tryz.prog 22 #[i.val, .slice A nt ct] w (RetB w (idValid r.b r.p r.c text)) := by
  have hk0_ := Kept.alloc (Kept.refl w) (Obj.cells #[Value.slice i.As i.ns i.cs, Value.slice i.Ac i.nc i.cc, Value.slice i.Am i.nm i.cm] 54)
  have HK1 := Lib.hid hk0_
  have hb0_ := (box_block w (Obj.cells #[Value.slice i.As i.ns i.cs, Value.slice i.Ac i.nc i.cc, Value.slice i.Am i.nm i.cm] 54))
  have x0_ := cell_of_block (i := 0) hb0_ rfl
  have x1_ := cell_of_block (i := 1) hb0_ rfl
  have x2_ := cell_of_block (i := 2) hb0_ rfl
  simp only [s4_, s5_, s6_] at x0_ x1_ x2_
  have HX0 := Lib.hid x0_
  have HX1 := Lib.hid x1_
  have HX2 := Lib.hid x2_
  have HB0 := Lib.hid hb0_
  clear x0_ x1_ x2_ hb0_
  have HM := Lib.hid (made_any i r _ (hI.kept HK1.out) hs)
  have HT := Lib.hid (fun w' (hk : Kept w w') => hT.kept hk)
  have HV := Lib.hid (scan_whole (c := r.c) r.bp text)
  have HTN := Lib.hid hT.1
  clear hI hs hT hk0_
  have p0 := HX0.out
  have p1 := HX1.out
  have p2 := HX2.out
  unfold Ids.val at *
  go_enter Tryz.func22, Tryz.ntmps22
  go_wp2_with fail
  refine HM.out.mono ?_
  rintro e w1 ⟨B, rfl, hS, k1⟩
  have HS := Lib.hid (iscan_any A nt ct text w1 hS hnt (HT.out _ (Kept.trans HK1.out k1)))
  have K1 := Lib.hid (Kept.trans HK1.out k1)
  clear hS k1 p0 p1 p2
  generalize idScan r.b r.p r.c text = R at *
  obtain ⟨en, st⟩ := R
  dsimp only at HS HV
  go_wp2_with fail
  refine HS.out.mono ?_
  rintro e w2 ⟨rfl, k2⟩
  have K2 := Lib.hid (Kept.trans K1.out k2)
  clear k2
  by_cases h0 : 0 < en
  · have h1 : ((en : Nat) : Int) > 0 := by omega
    have h2 : (0 : Int) < (en : Nat) := by omega
    have HE := Lib.hid (show idValid r.b r.p r.c text = ((en : Int) == (nt : Int)) by rw [HV.out, ← HTN.out, decide_eq_true h0, Bool.true_and, Bool.eq_iff_iff]; simp only [decide_eq_true_eq, beq_iff_eq]; omega)
    go_wp2_with fail
    go_ret
    exact ⟨congrArg (fun b => Ending.returned (.bool b)) HE.out.symm, K2.out⟩
  · have h1 : ¬ ((en : Nat) : Int) > 0 := by omega
    have h2 : ¬ (0 : Int) < (en : Nat) := by omega
    go_wp2_with fail
    go_ret
    exact ⟨ret_bool (by rw [HV.out]; simp; omega), K2.out⟩
end Go.Proofs.YtmlcdohldkgcdaaGreatDoor
namespace Go.Proofs.YtmlcdohldkgcdaaGreatDoor
open Go Go.RowKit
end Go.Proofs.YtmlcdohldkgcdaaGreatDoor
namespace Go.Proofs.YtmlcdohldkgcdaaGreatDoor
open Go Go.RowKit
end Go.Proofs.YtmlcdohldkgcdaaGreatDoor
namespace Go.Proofs.YtmlcdohldkgcdaaGreatDoor
open Go Go.RowKit
def Tab (w : World) (B : Option Addr) (m : Nat) (T : List (List Int)) : Prop := m = T.length ∧ (0 < m → ∃ b off, B = some ⟨b, off, none⟩ ∧ ∀ (i : Nat) (xs : List Int), T[i]? = some xs → ∃ A k c, w.cell? ⟨b, off + i, none⟩ = some (.slice A k c) ∧ k ≤ c ∧ Ints w A k xs)
theorem Tab.kept {w w' : World} {B : Option Addr} {m : Nat} {T : List (List Int)} (h : Tab w B m T) (hk : Kept w w') : Tab w' B m T := by
  refine ⟨h.1, fun h0 => ?_⟩
  obtain ⟨b, off, e, hc⟩ := h.2 h0
  refine ⟨b, off, e, fun i xs hx => ?_⟩
  obtain ⟨A, k, c, c1, hle, hI⟩ := hc i xs hx
  exact ⟨A, k, c, Kept.cell hk c1, hle, hI.kept hk⟩
end Go.Proofs.YtmlcdohldkgcdaaGreatDoor
namespace Go.Proofs.YtmlcdohldkgcdaaGreatDoor
end Go.Proofs.YtmlcdohldkgcdaaGreatDoor
namespace Go.Proofs.YtmlcdohldkgcdaaGreatDoor
theorem emptyQ_usable : usableN emptyN = emptyN := if_pos emptyN_check
theorem emptyQ_class (c : Int) : classOf (usableN emptyN).classes c = 0 := by rw [emptyQ_usable]; rfl
end Go.Proofs.YtmlcdohldkgcdaaGreatDoor
namespace Go.Proofs.YtmlcdohldkgcdaaGreatDoor
theorem empty_pair {a c : Int} (ha : kind a = 0) : pairOf (usableN emptyN) a c = none := by
  rw [emptyQ_usable]
  have h : compH a c = none := by
    unfold compH
    rw [if_neg (by rw [ha]; omega), if_neg (by rw [ha]; omega)]
  unfold pairOf
  rw [h]
  rfl
theorem empty_full {c : Int} (cp : Bool) (h : kind c = 0) : fullOf (usableN emptyN).decomp cp c = [c] := by
  refine full_fix (usableN_full emptyN cp) ?_
  unfold onceOf
  rw [if_neg (by rw [h]; omega), emptyQ_usable]
  rfl
theorem empty_sort : ∀ t : List Int, sortT (classOf (usableN emptyN).classes) t = t
  | [] => sortT_nil
  | c :: t => by rw [sortT_start (emptyQ_class c), empty_sort t]
theorem empty_flat {t : List Int} (cp : Bool) (h : ∀ x ∈ t, kind x = 0) : t.flatMap (fullOf (usableN emptyN).decomp cp) = t := by
  induction t with
  | nil => rfl
  | cons c t ih => rw [List.flatMap_cons, empty_full cp (h c (List.mem_cons_self ..)), ih (fun x hx => h x (List.mem_cons_of_mem _ hx))]; rfl
theorem empty_fold : ∀ (t : List Int) (st : List Int × Option Nat), (∀ x ∈ t, kind x = 0) → (∀ k, st.2 = some k → k < st.1.length ∧ kind (st.1.getD k 0) = 0) → (t.foldl (cstep (classOf (usableN emptyN).classes) (pairOf (usableN emptyN))) st).1 = st.1 ++ t
  | [], st, _, _ => by simp
  | c :: t, st, h, hs => by
    have e : cstep (classOf (usableN emptyN).classes) (pairOf (usableN emptyN)) st c = (st.1 ++ [c], some st.1.length) := by
      have hp : cpush (classOf (usableN emptyN).classes) st c = (st.1 ++ [c], some st.1.length) := by unfold cpush; rw [if_pos (emptyQ_class c)]
      unfold cstep
      split
      · rename_i k hk
        split
        · exact hp
        · rw [empty_pair (hs k hk).2]; exact hp
      · exact hp
    rw [List.foldl_cons, e, empty_fold t _ (fun x hx => h x (List.mem_cons_of_mem _ hx)) (fun k hk => by
      simp only [Option.some.injEq] at hk
      subst hk
      refine ⟨by simp, ?_⟩
      have := h c (List.mem_cons_self ..)
      simpa using this)]
    simp
theorem empty_form (form : Int) {t : List Int} (h : ∀ x ∈ t, kind x = 0) : formOf emptyN form t = t := by
  by_cases hf : form < 1 ∨ 4 < form
  · exact formOf_0 emptyN hf t
  have ht : textOf emptyN (cpOf form) t = t := by
    rw [textOf_eq, textE_eq, empty_flat _ h, empty_sort]
  rw [formOf_known emptyN hf, ht]
  split
  · have := empty_fold t ([], none) h (fun k hk => by cases hk)
    simpa [compN, compT, compFold] using this
  · rfl
end Go.Proofs.YtmlcdohldkgcdaaGreatDoor
namespace Go.Proofs.YtmlcdohldkgcdaaGreatDoor
open Go Go.RowKit
def ValsOk (w : World) (vals : List Value) (T : List (List Int)) : Prop := vals.length = T.length ∧ ∀ (i : Nat) (v : Value) (xs : List Int), vals[i]? = some v → T[i]? = some xs → ∃ A k c, v = .slice A k c ∧ k ≤ c ∧ Ints w A k xs
theorem ValsOk.kept {w w' : World} {vals : List Value} {T : List (List Int)} (h : ValsOk w vals T) (hk : Kept w w') : ValsOk w' vals T := by
  refine ⟨h.1, fun i v xs hv hx => ?_⟩
  obtain ⟨A, k, c, e, hle, hI⟩ := h.2 i v xs hv hx
  exact ⟨A, k, c, e, hle, hI.kept hk⟩
theorem ValsOk.set {w' : World} {vals : List Value} {T : List (List Int)} (h : ValsOk w' vals T) (i : Nat) {v : Value} {xs : List Int} (hv : ∃ A k c, v = .slice A k c ∧ k ≤ c ∧ Ints w' A k xs) : ValsOk w' (vals.set i v) (T.set i xs) := by
  refine ⟨by simp [h.1], fun j v' xs' h1 h2 => ?_⟩
  by_cases e : i = j
  · subst e
    rw [List.getElem?_set] at h1 h2
    simp only [if_true] at h1 h2
    split at h1
    · split at h2
      · injection h1 with h1; injection h2 with h2; rw [← h1, ← h2]; exact hv
      · cases h2
    · cases h1
  · rw [List.getElem?_set_ne e] at h1 h2
    exact h.2 j v' xs' h1 h2
theorem ValsOk.noInt {w : World} {g n : Nat} {vals : List Value} {T : List (List Int)} (h : ValsOk w vals T) (hown : w.ownsRow g 32 1 (.slice (some ⟨g, 0, none⟩) n n) n vals) (hn : n = T.length) : ∀ b ∈ [g], ∀ off x, w.cell? ⟨b, off, none⟩ ≠ some (.int .i64 x) := by
  intro b hb off x hc
  simp only [List.mem_cons, List.not_mem_nil, or_false] at hb
  subst hb
  by_cases hlt : off < n
  · rw [hown.cellAt off (by omega)] at hc
    obtain ⟨xs, hx⟩ := getElem?_some_of_lt (l := T) (k := off) (by omega)
    obtain ⟨A, k, c, e, _, _⟩ := h.2 off _ xs hc hx
    cases e
  · rcases hown.2 with ⟨e, _⟩ | ⟨g', cap, cur, e, h1, h2, h3, h4, h5, h6⟩
    · cases e
    · injection e with e1 e2 e3
      injection e1 with e1
      injection e1 with e1
      subst e1
      unfold World.cell? at hc
      rw [h2] at hc
      have : off < cur.size := by
        have := (Array.getElem?_eq_some_iff.1 (show cur[off]? = some (.int .i64 x) by simpa using hc)).1
        exact this
      omega
theorem ValsOk.setCell {w : World} {g n k : Nat} {vals : List Value} {T : List (List Int)} (h : ValsOk w vals T) (hown : w.ownsRow g 32 1 (.slice (some ⟨g, 0, none⟩) n n) n vals) (hn : n = T.length) (v : Value) : ValsOk (w.setCell ⟨g, k, none⟩ v) vals T := by
  refine ⟨h.1, fun i u xs hu hx => ?_⟩
  obtain ⟨A, m, c, e, hle, hI⟩ := h.2 i u xs hu hx
  exact ⟨A, m, c, e, hle, hI.keptBut (KeptBut.setCell (S := [g]) w (p := ⟨g, k, none⟩) (by simp) v) (h.noInt hown hn)⟩
end Go.Proofs.YtmlcdohldkgcdaaGreatDoor
namespace Go.Proofs.YtmlcdohldkgcdaaGreatDoor
open Go Go.RowKit Go.Shelf
attribute [local go_sem] Oper.semAt_some
end Go.Proofs.YtmlcdohldkgcdaaGreatDoor
namespace Go.Proofs.YtmlcdohldkgcdaaGreatDoor
open Go Go.RowKit Go.Shelf
attribute [local go_sem] Oper.semAt_some
end Go.Proofs.YtmlcdohldkgcdaaGreatDoor
namespace Go.Proofs.YtmlcdohldkgcdaaGreatDoor
end Go.Proofs.YtmlcdohldkgcdaaGreatDoor
