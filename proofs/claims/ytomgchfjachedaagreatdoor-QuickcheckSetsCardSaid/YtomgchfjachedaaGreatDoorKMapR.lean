/- Ranging over a map that the code made: one entry after the other, in any order. normalize.Form. The results of the quick check. No walk. The example of the chapter on the quick check. No walk. -/
import Derived.Maps.RangeRun
import Derived.Test.YtomgchfjachedaaGreatDoorKRefA
import Derived.Test.YtomgchfjachedaaGreatDoorKCmc
import Derived.Test.YtomgchfjachedaaGreatDoorKDecD
import Derived.Test.YtomgchfjachedaaGreatDoorKQp
import Derived.Test.YtomgchfjachedaaGreatDoorKAlive21
namespace Go.Proofs.YtomgchfjachedaaGreatDoor
open Go Go.RowKit
open Go.ChangeMaps (setBlock)
section
variable {α : Type}
def MapRg (w : World) (b r : Nat) (enc : α → Value) (M D : List (α × Value)) (m : Nat) : Prop :=
  ∃ es clock since seen c0, w.heap[b]? = some (.map es clock) ∧ w.heap[r]? = some (.mapIter (some b) since seen c0) ∧ es.toList.map (fun e => (e.key, e.val)) = M.map (fun p => (enc p.1, p.2)) ∧
    (∀ x ∈ es.toList, x.born < since) ∧ since ≤ c0 ∧ since ≤ clock ∧ (es.toList.map (·.born)).Nodup ∧ (leftOf es seen).size = m ∧ (∀ p ∈ D, p ∈ M) ∧ ∀ (i : Nat) e p, es.toList[i]? = some e → M[i]? = some p → seen.contains e.born = true → p ∈ D
theorem MapRg.block {w w' : World} {b r m : Nat} {enc : α → Value} {M D : List (α × Value)} (h : MapRg w b r enc M D m) (hb : w'.heap[b]? = w.heap[b]?) (hr : w'.heap[r]? = w.heap[r]?) : MapRg w' b r enc M D m := by
  obtain ⟨es, cl, si, se, c0, h1, h2, h3⟩ := h
  exact ⟨es, cl, si, se, c0, hb.trans h1, hr.trans h2, h3⟩
theorem MapRg.lt {w : World} {b r m : Nat} {enc : α → Value} {M D : List (α × Value)} (h : MapRg w b r enc M D m) : b < w.heap.size ∧ r < w.heap.size := by
  obtain ⟨es, cl, si, se, c0, h1, h2, _⟩ := h
  exact ⟨(Array.getElem?_eq_some_iff.1 h1).1, (Array.getElem?_eq_some_iff.1 h2).1⟩
theorem MapRg.ne {w : World} {b r m : Nat} {enc : α → Value} {M D : List (α × Value)} (h : MapRg w b r enc M D m) : r ≠ b := by
  obtain ⟨es, cl, si, se, c0, h1, h2, _⟩ := h
  intro e
  rw [e, h1] at h2
  cases h2
theorem MapRg.kept {w w' : World} {b r m : Nat} {enc : α → Value} {M D : List (α × Value)} (h : MapRg w b r enc M D m) (hk : Kept w w') : MapRg w' b r enc M D m := h.block (Below.block hk b h.lt.1) (Below.block hk r h.lt.2)
theorem MapRg.grown {w w' : World} {b r m : Nat} {enc : α → Value} {M D : List (α × Value)} {row : Option Nat} (h : MapRg w b r enc M D m) (hg : w.grownBy w' row) (hb : some b ≠ row) (hr : some r ≠ row) : MapRg w' b r enc M D m := h.block (hg.block b h.lt.1 hb) (hg.block r h.lt.2 hr)
theorem MapRg.mem {w : World} {b r m : Nat} {enc : α → Value} {M D : List (α × Value)} (h : MapRg w b r enc M D m) : ∀ p ∈ D, p ∈ M := by
  obtain ⟨es, cl, si, se, c0, _, _, _, _, _, _, _, _, h9, _⟩ := h
  exact h9
theorem MapRg.start {P : Program} {T K E : TypeId} {w : World} {b : Nat} {enc : α → Value} {M : List (α × Value)} (h : MapIs w b enc M) (hT : P.underlying T = some (.map K E)) :
    ∃ o m, (Instr.range T (.map (some b))).run P w = .ok (.pointer (some ⟨w.heap.size, 0, none⟩)) (w.alloc o) ∧ MapRg (w.alloc o) b w.heap.size enc M [] m := by
  have hlt := h.lt
  obtain ⟨es, cl, h1, h2, h3, h4⟩ := h
  refine ⟨.mapIter (some b) cl #[] cl, (leftOf es #[]).size, run_range_map w T K E b es cl hT h1, es, cl, cl, #[], cl, ?_, heap_alloc_new w _, h2, h3, Nat.le_refl _, Nat.le_refl _, h4, rfl, by simp, ?_⟩
  · exact (Below.heap_alloc _ _ _ hlt).trans h1
  · intro i e p _ _ h5
    simp at h5
theorem nodup_idx {l : List Nat} (h : l.Nodup) {i j : Nat} {x : Nat} (hi : l[i]? = some x) (hj : l[j]? = some x) : i = j := by
  have hil := lt_of_getElem?_some hi
  have hjl := lt_of_getElem?_some hj
  rw [List.getElem?_eq_getElem hil, Option.some.injEq] at hi
  rw [List.getElem?_eq_getElem hjl, Option.some.injEq] at hj
  rcases Nat.lt_trichotomy i j with h1 | h1 | h1
  · exact absurd (hi.trans hj.symm) (List.pairwise_iff_getElem.1 h i j hil hjl h1)
  · exact h1
  · exact absurd (hj.trans hi.symm) (List.pairwise_iff_getElem.1 h j i hjl hil h1)
theorem grown_setBlock {w w1 : World} {r : Nat} (hw : w1 = w ∨ w1 = w.drew) (o : Obj) : w.grownBy (setBlock w1 r o) (some r) := by
  have hblk : ∀ k, some k ≠ some r → (w.heap.setIfInBounds r o)[k]? = w.heap[k]? := fun k hne => by
    rw [Array.getElem?_setIfInBounds, if_neg (fun e => hne (by rw [e]))]
  have hsz : w.heap.size ≤ (w.heap.setIfInBounds r o).size := by simp
  rcases hw with e | e
  · subst e; exact ⟨rfl, rfl, rfl, hsz, fun k _ hne => hblk k hne⟩
  · subst e; exact ⟨rfl, rfl, rfl, hsz, fun k _ hne => hblk k hne⟩
theorem MapRg.next {P : Program} {w : World} {b r m : Nat} {enc : α → Value} {M D : List (α × Value)} (h : MapRg w b r enc M D m) (ty : TypeId) :
    (m = 0 ∧ (∀ p ∈ M, p ∈ D) ∧ (Instr.next (.pointer (some ⟨r, 0, none⟩)) false ty).run P w = .ok (.tuple #[.bool false]) w) ∨
    ∃ p ∈ M, ∃ w' m', m' < m ∧ MapRg w' b r enc M (p :: D) m' ∧ w.grownBy w' (some r) ∧ (Instr.next (.pointer (some ⟨r, 0, none⟩)) false ty).run P w = .ok (.tuple #[.bool true, enc p.1, p.2]) w' ∧
      (Instr.entry (.pointer (some ⟨r, 0, none⟩))).run P w' = .ok (.tuple #[enc p.1, p.2]) w' := by
  have hne := h.ne
  have hlt := h.lt
  obtain ⟨es, cl, si, se, c0, h1, h2, h3, h4, h5, h6, h7, h8, h9, h10⟩ := h
  have hlen : es.toList.length = M.length := by have := congrArg List.length h3; simpa using this
  have hpair : ∀ (i : Nat) e, es.toList[i]? = some e → ∃ p, M[i]? = some p ∧ e.key = enc p.1 ∧ e.val = p.2 := fun i e he => by
    have hi := lt_of_getElem?_some he
    obtain ⟨p, hp⟩ := getElem?_some_of_lt (l := M) (k := i) (by omega)
    have := congrArg (fun l => l[i]?) h3
    simp only [List.getElem?_map, he, hp, Option.map_some, Option.some.injEq, Prod.mk.injEq] at this
    exact ⟨p, hp, this.1, this.2⟩
  rcases run_next_at (P := P) w ty r b si c0 se es cl h2 h1 h4 h5 with ⟨hz, hrun⟩ | ⟨e, he, w1, hw1, hrun⟩
  · refine .inl ⟨by omega, fun p hp => ?_, hrun⟩
    obtain ⟨i, hi, ep⟩ := List.getElem_of_mem hp
    obtain ⟨e, he⟩ := getElem?_some_of_lt (l := es.toList) (k := i) (by omega)
    exact h10 i e p he (by rw [List.getElem?_eq_getElem hi, ep]) (all_seen es se hz e (mem_of_getElem?_some he))
  · obtain ⟨hem, hns⟩ := mem_left he
    obtain ⟨i, hi, ei⟩ := List.getElem_of_mem hem
    have hei : es.toList[i]? = some e := by rw [List.getElem?_eq_getElem hi, ei]
    obtain ⟨p, hp, ek, ev⟩ := hpair i e hei
    rw [ek, ev] at hrun
    have hr2 : (setBlock w1 r (.mapIter (some b) si (se.push e.born) cl)).heap[r]? = some (.mapIter (some b) si (se.push e.born) cl) := by
      have h0 : (w.heap.setIfInBounds r (Obj.mapIter (some b) si (se.push e.born) cl))[r]? = some (.mapIter (some b) si (se.push e.born) cl) := by simp [hlt.2]
      rcases hw1 with rfl | rfl <;> exact h0
    have hb2 : (setBlock w1 r (.mapIter (some b) si (se.push e.born) cl)).heap[b]? = some (.map es cl) := by
      have := (grown_setBlock (r := r) hw1 (.mapIter (some b) si (se.push e.born) cl)).block b hlt.1 (by simp; exact fun e => hne e.symm)
      rw [this]; exact h1
    have hent := run_entry_at (P := P) (setBlock w1 r (.mapIter (some b) si (se.push e.born) cl)) r b si se es cl e hr2 hb2 hem h7
    rw [ek, ev] at hent
    refine .inr ⟨p, mem_of_getElem?_some hp, _, (leftOf es (se.push e.born)).size, by have := left_shrinks es se e he; omega, ⟨es, cl, si, se.push e.born, cl, hb2, hr2, h3, h4, h6, h6, h7, rfl, ?_, ?_⟩, grown_setBlock hw1 _, hrun, hent⟩
    · intro q hq
      rcases List.mem_cons.1 hq with rfl | hq
      · exact mem_of_getElem?_some hp
      · exact h9 q hq
    · intro j e' p' he' hp' hs
      rw [contains_push, Bool.or_eq_true, beq_iff_eq] at hs
      rcases hs with hs | hs
      · exact List.mem_cons_of_mem _ (h10 j e' p' he' hp' hs)
      · have hij : i = j := nodup_idx h7 (x := e.born) (by rw [List.getElem?_map, hei]; rfl) (by rw [List.getElem?_map, he', ← hs]; rfl)
        subst hij
        rw [hp] at hp'
        injection hp' with hp'
        rw [hp']
        exact List.mem_cons_self ..
end
end Go.Proofs.YtomgchfjachedaaGreatDoor
namespace Go.Proofs.YtomgchfjachedaaGreatDoor
open Go Go.RowKit
set_option maxHeartbeats 1000000 in
theorem stepD_any (s : Sls) (n : Nrm) (A : Option Addr) (nt ct : Nat) (text : List Int) (w : World) (hN : NormAt w s n) (hG : Glob w) (hnt : nt ≤ 500000) (hT : Ints w A nt text) :
    Calls Tryz.prog 104 #[s.val, .slice A nt ct] w (RetFr w (textOf n false text)) := by
  have hk1 := Kept.alloc (Kept.refl w) (Obj.cells #[Value.slice s.Ac s.nc s.cc, Value.slice s.Am s.nm s.cm, Value.slice s.Ae s.ne s.ce] 134)
  have HT := Lib.hid (text_new s n A nt ct text false _ (hN.kept hk1) (hG.kept hk1) hnt (hT.kept hk1))
  have HK1 := Lib.hid hk1
  clear hN hG hT hk1
  generalize textOf n false text = X at *
  unfold Sls.val at *
  go_enter Tryz.func104, Tryz.ntmps104
  go_wp2_with fail
  refine HT.out.mono ?_
  rintro e w1 ⟨A1, n1, c1, rfl, le1, i1, fr1, k1⟩
  have I1 := Lib.hid i1
  have FR1 := Lib.hid fr1
  clear i1 fr1
  go_wp2_with fail
  go_ret
  exact ⟨A1, n1, c1, rfl, le1, I1.out, fun a ha => Nat.le_trans HK1.out.size (FR1.out a ha), Kept.trans HK1.out k1⟩
set_option maxHeartbeats 1000000 in
theorem stepK_any (s : Sls) (n : Nrm) (A : Option Addr) (nt ct : Nat) (text : List Int) (w : World) (hN : NormAt w s n) (hG : Glob w) (hnt : nt ≤ 500000) (hT : Ints w A nt text) :
    Calls Tryz.prog 105 #[s.val, .slice A nt ct] w (RetFr w (textOf n true text)) := by
  have hk1 := Kept.alloc (Kept.refl w) (Obj.cells #[Value.slice s.Ac s.nc s.cc, Value.slice s.Am s.nm s.cm, Value.slice s.Ae s.ne s.ce] 134)
  have HT := Lib.hid (text_new s n A nt ct text true _ (hN.kept hk1) (hG.kept hk1) hnt (hT.kept hk1))
  have HK1 := Lib.hid hk1
  clear hN hG hT hk1
  generalize textOf n true text = X at *
  unfold Sls.val at *
  go_enter Tryz.func105, Tryz.ntmps105
  go_wp2_with fail
  refine HT.out.mono ?_
  rintro e w1 ⟨A1, n1, c1, rfl, le1, i1, fr1, k1⟩
  have I1 := Lib.hid i1
  have FR1 := Lib.hid fr1
  clear i1 fr1
  go_wp2_with fail
  go_ret
  exact ⟨A1, n1, c1, rfl, le1, I1.out, fun a ha => Nat.le_trans HK1.out.size (FR1.out a ha), Kept.trans HK1.out k1⟩
set_option maxHeartbeats 1000000 in
theorem stepC_any (s : Sls) (n : Nrm) (A : Option Addr) (nt ct : Nat) (text : List Int) (w : World) (hN : NormAt w s n) (hG : Glob w) (hnt : nt ≤ 100000000) (hT : Ints w A nt text) :
    Calls Tryz.prog 103 #[s.val, .slice A nt ct] w (RetFr w (compN n text)) := by
  have hk1 := Kept.alloc (Kept.refl w) (Obj.cells #[Value.slice s.Ac s.nc s.cc, Value.slice s.Am s.nm s.cm, Value.slice s.Ae s.ne s.ce] 134)
  have HT := Lib.hid (ctext_new s n A nt ct text _ (hN.kept hk1) (hG.kept hk1) hnt (hT.kept hk1))
  have HK1 := Lib.hid hk1
  clear hN hG hT hk1
  generalize compN n text = X at *
  unfold Sls.val at *
  go_enter Tryz.func103, Tryz.ntmps103
  go_wp2_with fail
  refine HT.out.mono ?_
  rintro e w1 ⟨A1, n1, c1, rfl, le1, i1, fr1, k1⟩
  have I1 := Lib.hid i1
  have FR1 := Lib.hid fr1
  clear i1 fr1
  go_wp2_with fail
  go_ret
  exact ⟨A1, n1, c1, rfl, le1, I1.out, fun a ha => Nat.le_trans HK1.out.size (FR1.out a ha), Kept.trans HK1.out k1⟩
theorem fn_some (fn : Fn) (a b : Array Value) (w : World) : (binOp .neq 96 (.func fn a b) .nilFunc).run Tryz.prog w = .ok (.bool true) w := by kernel_rfl
theorem fn_none (w : World) : (binOp .neq 96 .nilFunc .nilFunc).run Tryz.prog w = .ok (.bool false) w := by kernel_rfl
set_option maxRecDepth 100000 in
set_option maxHeartbeats 4000000 in
theorem form_new (s : Sls) (n : Nrm) (form : Int) (A : Option Addr) (nt ct : Nat) (text : List Int) (w : World) (hN : NormAt w s n) (hG : Glob w) (hnt : nt ≤ 500000) (hT : Ints w A nt text) :
    Calls Tryz.prog 60 #[s.val, .int .i64 form, .slice A nt ct] w (RetFr w (formOf n form text)) := by
  have hk1 := Kept.alloc (Kept.refl w) (Obj.cells #[Value.slice s.Ac s.nc s.cc, Value.slice s.Am s.nm s.cm, Value.slice s.Ae s.ne s.ce] 28)
  have hk2 := Kept.alloc hk1 (Obj.cells #[Value.slice s.Ac s.nc s.cc, Value.slice s.Am s.nm s.cm, Value.slice s.Ae s.ne s.ce] 134)
  have HK2 := Lib.hid hk2
  have HN := Lib.hid hN
  have HG := Lib.hid hG
  have HT := Lib.hid hT
  have HTN := Lib.hid hT.1
  clear hN hG hT hk1 hk2
  rcases form_cases form with h | h | h | h | h
  · subst h
    have HR := Lib.hid (formOf_1 n text)
    have H1 := Lib.hid (stepD_any s n A nt ct text _ (HN.out.kept HK2.out) (HG.out.kept HK2.out) hnt (HT.out.kept HK2.out))
    have HL := Lib.hid (show (textOf n false text).length ≤ 100000000 by have := textOf_length n false text; have := HTN.out; omega)
    have H2 := Lib.hid (fun A1 n1 c1 w' (hk : Kept w w') (h1 : n1 ≤ 100000000) (hI : Ints w' A1 n1 (textOf n false text)) => stepC_any s n A1 n1 c1 _ w' (HN.out.kept hk) (HG.out.kept hk) h1 hI)
    generalize textOf n false text = X at *
    generalize compN n X = Y at *
    have hf1 := fn_some
    have hf2 := fn_none
    unfold Sls.val at *
    go_enter Tryz.func60, Tryz.ntmps60
    go_wp2_with fail
    refine H1.out.mono ?_
    rintro e w1 ⟨A1, n1, c1, rfl, le1, i1, fr1, k1⟩
    have hn1 : n1 ≤ 100000000 := by rw [i1.1]; exact HL.out
    have K1 := Lib.hid (Kept.trans HK2.out k1)
    have H3 := Lib.hid (H2.out A1 n1 c1 w1 K1.out hn1 i1)
    clear i1 fr1
    go_wp2_with fail
    refine H3.out.mono ?_
    rintro e w2 ⟨A2, n2, c2, rfl, le2, i2, fr2, k2⟩
    have I2 := Lib.hid i2
    have FR2 := Lib.hid fr2
    clear i2 fr2
    go_wp2_with fail
    go_ret
    rw [HR.out]
    exact ⟨A2, n2, c2, rfl, le2, I2.out, fun a ha => Nat.le_trans K1.out.size (FR2.out a ha), Kept.trans K1.out k2⟩
  · subst h
    have HR := Lib.hid (formOf_2 n text)
    have H1 := Lib.hid (stepD_any s n A nt ct text _ (HN.out.kept HK2.out) (HG.out.kept HK2.out) hnt (HT.out.kept HK2.out))
    generalize textOf n false text = X at *
    have hf1 := fn_some
    have hf2 := fn_none
    unfold Sls.val at *
    go_enter Tryz.func60, Tryz.ntmps60
    go_wp2_with fail
    refine H1.out.mono ?_
    rintro e w1 ⟨A1, n1, c1, rfl, le1, i1, fr1, k1⟩
    have I1 := Lib.hid i1
    have FR1 := Lib.hid fr1
    clear i1 fr1
    go_wp2_with fail
    go_ret
    rw [HR.out]
    exact ⟨A1, n1, c1, rfl, le1, I1.out, fun a ha => Nat.le_trans HK2.out.size (FR1.out a ha), Kept.trans HK2.out k1⟩
  · subst h
    have HR := Lib.hid (formOf_3 n text)
    have H1 := Lib.hid (stepK_any s n A nt ct text _ (HN.out.kept HK2.out) (HG.out.kept HK2.out) hnt (HT.out.kept HK2.out))
    have HL := Lib.hid (show (textOf n true text).length ≤ 100000000 by have := textOf_length n true text; have := HTN.out; omega)
    have H2 := Lib.hid (fun A1 n1 c1 w' (hk : Kept w w') (h1 : n1 ≤ 100000000) (hI : Ints w' A1 n1 (textOf n true text)) => stepC_any s n A1 n1 c1 _ w' (HN.out.kept hk) (HG.out.kept hk) h1 hI)
    generalize textOf n true text = X at *
    generalize compN n X = Y at *
    have hf1 := fn_some
    have hf2 := fn_none
    unfold Sls.val at *
    go_enter Tryz.func60, Tryz.ntmps60
    go_wp2_with fail
    refine H1.out.mono ?_
    rintro e w1 ⟨A1, n1, c1, rfl, le1, i1, fr1, k1⟩
    have hn1 : n1 ≤ 100000000 := by rw [i1.1]; exact HL.out
    have K1 := Lib.hid (Kept.trans HK2.out k1)
    have H3 := Lib.hid (H2.out A1 n1 c1 w1 K1.out hn1 i1)
    clear i1 fr1
    go_wp2_with fail
    refine H3.out.mono ?_
    rintro e w2 ⟨A2, n2, c2, rfl, le2, i2, fr2, k2⟩
    have I2 := Lib.hid i2
    have FR2 := Lib.hid fr2
    clear i2 fr2
    go_wp2_with fail
    go_ret
    rw [HR.out]
    exact ⟨A2, n2, c2, rfl, le2, I2.out, fun a ha => Nat.le_trans K1.out.size (FR2.out a ha), Kept.trans K1.out k2⟩
  · subst h
    have HR := Lib.hid (formOf_4 n text)
    have H1 := Lib.hid (stepK_any s n A nt ct text _ (HN.out.kept HK2.out) (HG.out.kept HK2.out) hnt (HT.out.kept HK2.out))
    generalize textOf n true text = X at *
    have hf1 := fn_some
    have hf2 := fn_none
    unfold Sls.val at *
    go_enter Tryz.func60, Tryz.ntmps60
    go_wp2_with fail
    refine H1.out.mono ?_
    rintro e w1 ⟨A1, n1, c1, rfl, le1, i1, fr1, k1⟩
    have I1 := Lib.hid i1
    have FR1 := Lib.hid fr1
    clear i1 fr1
    go_wp2_with fail
    go_ret
    rw [HR.out]
    exact ⟨A1, n1, c1, rfl, le1, I1.out, fun a ha => Nat.le_trans HK2.out.size (FR1.out a ha), Kept.trans HK2.out k1⟩
  · have HR := Lib.hid (formOf_0 n h text)
    have h1 : (form == 1) = false := by simp; omega
    have h2 : (form == 2) = false := by simp; omega
    have h3 : (form == 3) = false := by simp; omega
    have h4 : (form == 4) = false := by simp; omega
    have HCL := Lib.hid (clone_any A nt ct text _ (by omega) (HT.out.kept HK2.out))
    clear h
    have hf1 := fn_some
    have hf2 := fn_none
    unfold Sls.val at *
    go_enter Tryz.func60, Tryz.ntmps60
    go_wp2_with fail
    refine HCL.out.mono ?_
    rintro e w3 ⟨v, rfl, hown, hk4⟩
    obtain ⟨A3, cc, rfl, hle, hI⟩ := OwnI.sl hown
    have HI := Lib.hid hI
    have HFR := Lib.hid hown.far
    clear hown hI
    go_wp2_with fail
    go_ret
    rw [HR.out]
    exact ⟨A3, _, cc, rfl, hle, HI.out, fun a ha => Nat.le_trans HK2.out.size (HFR.out a ha), Kept.trans HK2.out hk4⟩
theorem form_any (s : Sls) (n : Nrm) (form : Int) (A : Option Addr) (nt ct : Nat) (text : List Int) (w : World) (hN : NormAt w s n) (hG : Glob w) (hnt : nt ≤ 500000) (hT : Ints w A nt text) :
    Calls Tryz.prog 60 #[s.val, .int .i64 form, .slice A nt ct] w (RetInts w (formOf n form text)) := (form_new s n form A nt ct text w hN hG hnt hT).mono fun _ _ h => h.ints
end Go.Proofs.YtomgchfjachedaaGreatDoor
namespace Go.Proofs.YtomgchfjachedaaGreatDoor
noncomputable def charQ (n : Nrm) (form c : Int) : Int :=
  if form < 1 ∨ 4 < form then 1 else if formOf n form [c] = [c] then (if (comps form && secondB (usableN n) ((textOf n (cpOf form) [c]).headD 0)) = true then 3 else 1) else 2
def combQ (a b : Int) : Int := if a = 2 ∨ b = 2 then 2 else if a = 3 ∨ b = 3 then 3 else 1
open Classical in
noncomputable def allQ (f : Int → Int) (l : List Int) : Int := if ∃ c ∈ l, f c = 2 then 2 else if ∃ c ∈ l, f c = 3 then 3 else 1
theorem charQ_cases (n : Nrm) (form c : Int) : charQ n form c = 1 ∨ charQ n form c = 2 ∨ charQ n form c = 3 := by
  unfold charQ
  split
  · exact .inl rfl
  · split
    · split
      · exact .inr (.inr rfl)
      · exact .inl rfl
    · exact .inr (.inl rfl)
theorem charQ_no (n : Nrm) {form : Int} (h : ¬ (form < 1 ∨ 4 < form)) (c : Int) : charQ n form c = 2 ↔ formOf n form [c] ≠ [c] := by
  unfold charQ
  rw [if_neg h]
  by_cases hf : formOf n form [c] = [c]
  · rw [if_pos hf]
    constructor
    · intro h1; split at h1 <;> omega
    · intro h1; exact absurd hf h1
  · rw [if_neg hf]
    exact ⟨fun _ => hf, fun _ => rfl⟩
theorem form_invalid (n : Nrm) (form : Int) {c : Int} (h : validB c = false) : formOf n form [c] = [c] := by
  by_cases hf : form < 1 ∨ 4 < form
  · exact formOf_0 n hf _
  · have ht : textOf n (cpOf form) [c] = [c] := by rw [textOf_one, full_invalid n _ h]; exact sort_one _ c
    rw [formOf_known n hf, ht]
    split <;> rfl
theorem charQ_invalid (n : Nrm) (form : Int) {c : Int} (h : validB c = false) : charQ n form c = 1 := by
  unfold charQ
  split
  · rfl
  · have ht : textOf n (cpOf form) [c] = [c] := by rw [textOf_one, full_invalid n _ h]; exact sort_one _ c
    have h2 : secondB (usableN n) c = false := by
      cases hs : secondB (usableN n) c with
      | false => rfl
      | true => rw [second_valid (usableN_good n) hs] at h; cases h
    rw [if_pos (form_invalid n form h), ht, List.headD_cons, h2]
    simp
theorem allQ_congr {f : Int → Int} {l m : List Int} (h : ∀ c, f c ≠ 1 → (c ∈ l ↔ c ∈ m)) : allQ f l = allQ f m := by
  have h2 : (∃ c ∈ l, f c = 2) ↔ ∃ c ∈ m, f c = 2 := ⟨fun ⟨c, h1, h3⟩ => ⟨c, (h c (by omega)).1 h1, h3⟩, fun ⟨c, h1, h3⟩ => ⟨c, (h c (by omega)).2 h1, h3⟩⟩
  have h3 : (∃ c ∈ l, f c = 3) ↔ ∃ c ∈ m, f c = 3 := ⟨fun ⟨c, h1, h3⟩ => ⟨c, (h c (by omega)).1 h1, h3⟩, fun ⟨c, h1, h3⟩ => ⟨c, (h c (by omega)).2 h1, h3⟩⟩
  unfold allQ
  simp only [h2, h3]
theorem allQ_dist (n : Nrm) (form : Int) (text : List Int) : allQ (charQ n form) (distL text) = allQ (charQ n form) text :=
  allQ_congr (fun c hc => by
    rw [(distL_spec text).1 c]
    refine ⟨fun h => h.1, fun h => ⟨h, ?_⟩⟩
    cases hv : validB c with
    | true => rfl
    | false => exact absurd (charQ_invalid n form hv) hc)
end Go.Proofs.YtomgchfjachedaaGreatDoor
namespace Go.Proofs.YtomgchfjachedaaGreatDoor
theorem emptyQ_usable : usableN emptyN = emptyN := if_pos emptyN_check
theorem emptyQ_class (c : Int) : classOf (usableN emptyN).classes c = 0 := by rw [emptyQ_usable]; rfl
theorem emptyQ_full (cp : Bool) : fullOf (usableN emptyN).decomp cp 4449 = [4449] := full_alone (usableN_full emptyN cp) (by rw [show (usableN emptyN).decomp = [] by rw [emptyQ_usable]; rfl]; cases cp <;> decide +kernel)
theorem emptyQ_text (cp : Bool) : textOf emptyN cp [4449] = [4449] := by rw [textOf_one, emptyQ_full]; exact sort_one _ _
theorem emptyQ_second : secondB (usableN emptyN) 4449 = true := secondB_iff.2 ⟨4352, pairOf_comp (comp_v (by omega) (by omega))⟩
theorem emptyQ_f1 : formOf emptyN 1 [4449] = [4449] := by rw [formOf_1, emptyQ_text]; rfl
theorem emptyQ_f2 : formOf emptyN 2 [4449] = [4449] := by rw [formOf_2, emptyQ_text]
theorem emptyQ_1 : charQ emptyN 1 4449 = 3 := by
  unfold charQ
  rw [if_neg (by omega), if_pos emptyQ_f1, emptyQ_text, List.headD_cons, emptyQ_second]
  rfl
theorem emptyQ_2 : charQ emptyN 2 4449 = 1 := by
  unfold charQ
  rw [if_neg (by omega), if_pos emptyQ_f2]
  rfl
theorem emptyQ_b1 : boundB emptyN 1 4449 = false := by
  unfold boundB
  rw [if_neg (by omega), emptyQ_full]
  simp [emptyQ_second, show comps 1 = true by decide]
theorem emptyQ_b2 : boundB emptyN 2 4449 = true := by
  unfold boundB
  rw [if_neg (by omega), emptyQ_full]
  simp [emptyQ_class, show comps 2 = false by decide]
theorem emptyQ_3 : charQ emptyN 2 44032 = 2 := by
  refine (charQ_no emptyN (by omega) 44032).2 (fun h => ?_)
  have hl := congrArg List.length h
  rw [formOf_2, textOf_len] at hl
  have hd : (usableN emptyN).decomp = [] := by rw [emptyQ_usable]; rfl
  have hF := usableN_full emptyN false
  have e1 : fullOf (usableN emptyN).decomp false 4352 = [4352] := full_alone hF (by rw [hd]; decide +kernel)
  have e2 : fullOf (usableN emptyN).decomp false 4449 = [4449] := full_alone hF (by rw [hd]; decide +kernel)
  have e3 : fullOf (usableN emptyN).decomp false 44032 = [4352, 4449] := by
    rw [@full_to _ _ _ hF 44032 [4352, 4449] (by rw [hd]; decide +kernel)]
    simp only [List.flatMap_cons, List.flatMap_nil, e1, e2]
    rfl
  simp only [List.flatMap_cons, List.flatMap_nil, e3, List.append_nil] at hl
  simp at hl
end Go.Proofs.YtomgchfjachedaaGreatDoor
