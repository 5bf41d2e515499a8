/- Ranging over a map that the code made: one entry after the other, in any order. Laws of joining: neutral texts, association, what an edit leaves. No walk. The examples of the chapter on joining. No walk. -/
import Derived.Maps.RangeRun
import Derived.Test.YtjfhcmkcmdnhoaaGreatDoorKMaps
import Derived.Test.YtjfhcmkcmdnhoaaGreatDoorKQp
import Derived.Test.YtjfhcmkcmdnhoaaGreatDoorKAlive21
namespace Go.Proofs.YtjfhcmkcmdnhoaaGreatDoor
open Go Go.RowKit
open Go.ChangeMaps (setBlock)
section
variable {α : Type}
def MapRg (w : World) (b r : Nat) (enc : α → Value) (M D : List (α × Value)) (m : Nat) : Prop :=
  ∃ es clock since seen c0, w.heap[b]? = some (.map es clock) ∧ w.heap[r]? = some (.mapIter (some b) since seen c0) ∧ es.toList.map (fun e => (e.key, e.val)) = M.map (fun p => (enc p.1, p.2)) ∧
    (∀ x ∈ es.toList, x.born < since) ∧ since ≤ c0 ∧ since ≤ clock ∧ (es.toList.map (·.born)).Nodup ∧ (leftOf es seen).size = m ∧ (∀ p ∈ D, p ∈ M) ∧ ∀ (i : Nat) e p, es.toList[i]? = some e → M[i]? = some p → seen.contains e.born = true → p ∈ D
theorem MapRg.block {w w' : World} {b r m : Nat} {enc : α → Value} {M D : List (α × Value)} (h : MapRg w b r enc M D m) (hb : w'.heap[b]? = w.heap[b]?) (hr : w'.heap[r]? = w.heap[r]?) : MapRg w' b r enc M D m := by
  obtain ⟨es, cl, si, se, c0, h1, h2, h3⟩ := h
  exact ⟨es, cl, si, se, c0, hb.trans h1, hr.trans h2, h3⟩
theorem MapRg.lt {w : World} {b r m : Nat} {enc : α → Value} {M D : List (α × Value)} (h : MapRg w b r enc M D m) : b < w.heap.size ∧ r < w.heap.size := by
  obtain ⟨es, cl, si, se, c0, h1, h2, _⟩ := h
  exact ⟨(Array.getElem?_eq_some_iff.1 h1).1, (Array.getElem?_eq_some_iff.1 h2).1⟩
theorem MapRg.ne {w : World} {b r m : Nat} {enc : α → Value} {M D : List (α × Value)} (h : MapRg w b r enc M D m) : r ≠ b := by
  obtain ⟨es, cl, si, se, c0, h1, h2, _⟩ := h
  intro e
  rw [e, h1] at h2
  cases h2
theorem MapRg.kept {w w' : World} {b r m : Nat} {enc : α → Value} {M D : List (α × Value)} (h : MapRg w b r enc M D m) (hk : Kept w w') : MapRg w' b r enc M D m := h.block (Below.block hk b h.lt.1) (Below.block hk r h.lt.2)
theorem MapRg.grown {w w' : World} {b r m : Nat} {enc : α → Value} {M D : List (α × Value)} {row : Option Nat} (h : MapRg w b r enc M D m) (hg : w.grownBy w' row) (hb : some b ≠ row) (hr : some r ≠ row) : MapRg w' b r enc M D m := h.block (hg.block b h.lt.1 hb) (hg.block r h.lt.2 hr)
theorem MapRg.mem {w : World} {b r m : Nat} {enc : α → Value} {M D : List (α × Value)} (h : MapRg w b r enc M D m) : ∀ p ∈ D, p ∈ M := by
  obtain ⟨es, cl, si, se, c0, _, _, _, _, _, _, _, _, h9, _⟩ := h
  exact h9
theorem MapRg.start {P : Program} {T K E : TypeId} {w : World} {b : Nat} {enc : α → Value} {M : List (α × Value)} (h : MapIs w b enc M) (hT : P.underlying T = some (.map K E)) :
    ∃ o m, (Instr.range T (.map (some b))).run P w = .ok (.pointer (some ⟨w.heap.size, 0, none⟩)) (w.alloc o) ∧ MapRg (w.alloc o) b w.heap.size enc M [] m := by
  have hlt := h.lt
  obtain ⟨es, cl, h1, h2, h3, h4⟩ := h
  refine ⟨.mapIter (some b) cl #[] cl, (leftOf es #[]).size, run_range_map w T K E b es cl hT h1, es, cl, cl, #[], cl, ?_, heap_alloc_new w _, h2, h3, Nat.le_refl _, Nat.le_refl _, h4, rfl, by simp, ?_⟩
  · exact (Below.heap_alloc _ _ _ hlt).trans h1
  · intro i e p _ _ h5
    simp at h5
theorem nodup_idx {l : List Nat} (h : l.Nodup) {i j : Nat} {x : Nat} (hi : l[i]? = some x) (hj : l[j]? = some x) : i = j := by
  have hil := lt_of_getElem?_some hi
  have hjl := lt_of_getElem?_some hj
  rw [List.getElem?_eq_getElem hil, Option.some.injEq] at hi
  rw [List.getElem?_eq_getElem hjl, Option.some.injEq] at hj
  rcases Nat.lt_trichotomy i j with h1 | h1 | h1
  · exact absurd (hi.trans hj.symm) (List.pairwise_iff_getElem.1 h i j hil hjl h1)
  · exact h1
  · exact absurd (hj.trans hi.symm) (List.pairwise_iff_getElem.1 h j i hjl hil h1)
theorem grown_setBlock {w w1 : World} {r : Nat} (hw : w1 = w ∨ w1 = w.drew) (o : Obj) : w.grownBy (setBlock w1 r o) (some r) := by
  have hblk : ∀ k, some k ≠ some r → (w.heap.setIfInBounds r o)[k]? = w.heap[k]? := fun k hne => by
    rw [Array.getElem?_setIfInBounds, if_neg (fun e => hne (by rw [e]))]
  have hsz : w.heap.size ≤ (w.heap.setIfInBounds r o).size := by simp
  rcases hw with e | e
  · subst e; exact ⟨rfl, rfl, rfl, hsz, fun k _ hne => hblk k hne⟩
  · subst e; exact ⟨rfl, rfl, rfl, hsz, fun k _ hne => hblk k hne⟩
theorem MapRg.next {P : Program} {w : World} {b r m : Nat} {enc : α → Value} {M D : List (α × Value)} (h : MapRg w b r enc M D m) (ty : TypeId) :
    (m = 0 ∧ (∀ p ∈ M, p ∈ D) ∧ (Instr.next (.pointer (some ⟨r, 0, none⟩)) false ty).run P w = .ok (.tuple #[.bool false]) w) ∨
    ∃ p ∈ M, ∃ w' m', m' < m ∧ MapRg w' b r enc M (p :: D) m' ∧ w.grownBy w' (some r) ∧ (Instr.next (.pointer (some ⟨r, 0, none⟩)) false ty).run P w = .ok (.tuple #[.bool true, enc p.1, p.2]) w' ∧
      (Instr.entry (.pointer (some ⟨r, 0, none⟩))).run P w' = .ok (.tuple #[enc p.1, p.2]) w' := by
  have hne := h.ne
  have hlt := h.lt
  obtain ⟨es, cl, si, se, c0, h1, h2, h3, h4, h5, h6, h7, h8, h9, h10⟩ := h
  have hlen : es.toList.length = M.length := by have := congrArg List.length h3; simpa using this
  have hpair : ∀ (i : Nat) e, es.toList[i]? = some e → ∃ p, M[i]? = some p ∧ e.key = enc p.1 ∧ e.val = p.2 := fun i e he => by
    have hi := lt_of_getElem?_some he
    obtain ⟨p, hp⟩ := getElem?_some_of_lt (l := M) (k := i) (by omega)
    have := congrArg (fun l => l[i]?) h3
    simp only [List.getElem?_map, he, hp, Option.map_some, Option.some.injEq, Prod.mk.injEq] at this
    exact ⟨p, hp, this.1, this.2⟩
  rcases run_next_at (P := P) w ty r b si c0 se es cl h2 h1 h4 h5 with ⟨hz, hrun⟩ | ⟨e, he, w1, hw1, hrun⟩
  · refine .inl ⟨by omega, fun p hp => ?_, hrun⟩
    obtain ⟨i, hi, ep⟩ := List.getElem_of_mem hp
    obtain ⟨e, he⟩ := getElem?_some_of_lt (l := es.toList) (k := i) (by omega)
    exact h10 i e p he (by rw [List.getElem?_eq_getElem hi, ep]) (all_seen es se hz e (mem_of_getElem?_some he))
  · obtain ⟨hem, hns⟩ := mem_left he
    obtain ⟨i, hi, ei⟩ := List.getElem_of_mem hem
    have hei : es.toList[i]? = some e := by rw [List.getElem?_eq_getElem hi, ei]
    obtain ⟨p, hp, ek, ev⟩ := hpair i e hei
    rw [ek, ev] at hrun
    have hr2 : (setBlock w1 r (.mapIter (some b) si (se.push e.born) cl)).heap[r]? = some (.mapIter (some b) si (se.push e.born) cl) := by
      have h0 : (w.heap.setIfInBounds r (Obj.mapIter (some b) si (se.push e.born) cl))[r]? = some (.mapIter (some b) si (se.push e.born) cl) := by simp [hlt.2]
      rcases hw1 with rfl | rfl <;> exact h0
    have hb2 : (setBlock w1 r (.mapIter (some b) si (se.push e.born) cl)).heap[b]? = some (.map es cl) := by
      have := (grown_setBlock (r := r) hw1 (.mapIter (some b) si (se.push e.born) cl)).block b hlt.1 (by simp; exact fun e => hne e.symm)
      rw [this]; exact h1
    have hent := run_entry_at (P := P) (setBlock w1 r (.mapIter (some b) si (se.push e.born) cl)) r b si se es cl e hr2 hb2 hem h7
    rw [ek, ev] at hent
    refine .inr ⟨p, mem_of_getElem?_some hp, _, (leftOf es (se.push e.born)).size, by have := left_shrinks es se e he; omega, ⟨es, cl, si, se.push e.born, cl, hb2, hr2, h3, h4, h6, h6, h7, rfl, ?_, ?_⟩, grown_setBlock hw1 _, hrun, hent⟩
    · intro q hq
      rcases List.mem_cons.1 hq with rfl | hq
      · exact mem_of_getElem?_some hp
      · exact h9 q hq
    · intro j e' p' he' hp' hs
      rw [contains_push, Bool.or_eq_true, beq_iff_eq] at hs
      rcases hs with hs | hs
      · exact List.mem_cons_of_mem _ (h10 j e' p' he' hp' hs)
      · have hij : i = j := nodup_idx h7 (x := e.born) (by rw [List.getElem?_map, hei]; rfl) (by rw [List.getElem?_map, he', ← hs]; rfl)
        subst hij
        rw [hp] at hp'
        injection hp' with hp'
        rw [hp']
        exact List.mem_cons_self ..
end
end Go.Proofs.YtjfhcmkcmdnhoaaGreatDoor
namespace Go.Proofs.YtjfhcmkcmdnhoaaGreatDoor
noncomputable def jFrom (n : Nrm) (form : Int) (a : List Int) : Nat := lastBd (boundB n form) a
noncomputable def jTo (n : Nrm) (form : Int) (b : List Int) : Nat := firstBd (boundB n form) b
noncomputable def jMid (n : Nrm) (form : Int) (a m b : List Int) : List Int := formOf n form (a.drop (jFrom n form a) ++ m ++ b.take (jTo n form b))
theorem joinM_eq (n : Nrm) (form : Int) (a m b : List Int) : joinM n form a m b = a.take (jFrom n form a) ++ (jMid n form a m b ++ b.drop (jTo n form b)) := rfl
theorem jFrom_le (n : Nrm) (form : Int) (a : List Int) : jFrom n form a ≤ a.length := (lastBd_spec (boundB n form) a.length a rfl).1
theorem jTo_le (n : Nrm) (form : Int) (b : List Int) : jTo n form b ≤ b.length := (firstBd_spec (boundB n form) b).1
theorem jMid_length (n : Nrm) (form : Int) (a m b : List Int) : (jMid n form a m b).length ≤ 64 * (a.length + m.length + b.length) := by
  unfold jMid
  have h := formOf_length n form (a.drop (jFrom n form a) ++ m ++ b.take (jTo n form b))
  have h2 : (a.drop (jFrom n form a) ++ m ++ b.take (jTo n form b)).length ≤ a.length + m.length + b.length := by
    simp only [List.length_append, List.length_drop, List.length_take]; omega
  omega
theorem joinM_length (n : Nrm) (form : Int) (a m b : List Int) : (joinM n form a m b).length ≤ 65 * (a.length + m.length + b.length) := by
  rw [joinM_eq]
  have h := jMid_length n form a m b
  simp only [List.length_append, List.length_drop, List.length_take]
  omega
theorem edit_none (n : Nrm) (form : Int) {text : List Int} (h : formOf n form text = text) (i : Nat) : joinM n form (text.take i) [] (text.drop i) = text := by
  rw [replace_form n form h i i [], List.append_nil, List.take_append_drop, h]
theorem edit_same (n : Nrm) (form : Int) {text : List Int} (h : formOf n form text = text) (i : Nat) : joinM n form (text.take i) (text.drop i) [] = text := by
  have e := replace_form n form h i text.length (text.drop i)
  rw [List.drop_length, List.append_nil, List.take_append_drop, h] at e
  exact e
end Go.Proofs.YtjfhcmkcmdnhoaaGreatDoor
namespace Go.Proofs.YtjfhcmkcmdnhoaaGreatDoor
def joinMm : List Mp := [⟨226, [97, 770], ⟨#[]⟩⟩]
def joinN : Nrm := ⟨[⟨770, 770, 230⟩], joinMm, []⟩
theorem joinN_check : decCheck joinN = 0 := by decide +kernel
theorem joinN_usable : usableN joinN = joinN := if_pos joinN_check
theorem joinN_full : FullEq joinMm false (fullOf (usableN joinN).decomp false) := by
  have := usableN_full joinN false
  rw [joinN_usable] at this ⊢
  exact this
theorem joinN_97 : fullOf (usableN joinN).decomp false 97 = [97] := full_alone joinN_full (by decide +kernel)
theorem joinN_770 : fullOf (usableN joinN).decomp false 770 = [770] := full_alone joinN_full (by decide +kernel)
theorem joinN_120 : fullOf (usableN joinN).decomp false 120 = [120] := full_alone joinN_full (by decide +kernel)
theorem joinN_226 : fullOf (usableN joinN).decomp false 226 = [97, 770] := by
  have h := joinN_full
  rw [@full_to _ _ _ h 226 [97, 770] (by decide +kernel)]
  simp only [List.flatMap_cons, List.flatMap_nil]
  rw [full_alone h (c := 97) (by decide +kernel), full_alone h (c := 770) (by decide +kernel)]
  rfl
theorem joinN_c97 : classOf (usableN joinN).classes 97 = 0 := by rw [joinN_usable]; decide +kernel
theorem joinN_c120 : classOf (usableN joinN).classes 120 = 0 := by rw [joinN_usable]; decide +kernel
theorem joinN_c770 : classOf (usableN joinN).classes 770 ≠ 0 := by rw [joinN_usable]; decide +kernel
theorem sort_lone {cls : Int → Int} (c : Int) : sortT cls [c] = [c] := sort_one cls c
theorem joinN_d1 : textOf joinN false [97, 770] = [97, 770] := by
  rw [textOf_eq, textE_eq]
  simp only [List.flatMap_cons, List.flatMap_nil, joinN_97, joinN_770, List.append_nil, List.cons_append, List.nil_append]
  rw [sortT_start joinN_c97, sort_lone]
theorem joinN_d2 : textOf joinN false [226] = [97, 770] := by
  rw [textOf_eq, textE_eq]
  simp only [List.flatMap_cons, List.flatMap_nil, joinN_226, List.append_nil]
  rw [sortT_start joinN_c97, sort_lone]
theorem joinN_f1 : formOf joinN 1 [97, 770] = [226] := by
  rw [formOf_1, joinN_d1]
  unfold compN
  rw [joinN_usable]
  decide +kernel
theorem joinN_f2 : formOf joinN 1 [226] = [226] := by
  rw [formOf_1, joinN_d2]
  unfold compN
  rw [joinN_usable]
  decide +kernel
theorem joinN_second {x : Int} (h : kind x = 0) (hx : x ≠ 770) : secondB (usableN joinN) x = false := by
  cases hs : secondB (usableN joinN) x with
  | false => rfl
  | true =>
    exfalso
    obtain ⟨a, ha⟩ := secondB_iff.1 hs
    have hc : compH a x = none := by unfold compH; rw [if_neg (by rw [h]; omega), if_neg (by rw [h]; omega)]
    have hp : (pairM (usableN joinN) a x).isSome = true := by unfold pairOf at ha; rw [hc] at ha; exact ha
    obtain ⟨v, hv⟩ := Option.isSome_iff_exists.1 hp
    obtain ⟨m, hm, _, ht, _⟩ := pairM_some hv
    rw [joinN_usable] at hm
    simp only [joinN, joinMm, List.mem_singleton] at hm
    rw [hm] at ht
    simp only [List.cons.injEq, and_true] at ht
    exact hx ht.2.symm
theorem joinN_b97 : boundB joinN 1 97 = true := by
  unfold boundB
  rw [if_neg (by omega), show cpOf 1 = false by decide, joinN_97]
  simp [joinN_c97, joinN_second (x := 97) (by decide +kernel) (by decide)]
theorem joinN_b120 : boundB joinN 1 120 = true := by
  unfold boundB
  rw [if_neg (by omega), show cpOf 1 = false by decide, joinN_120]
  simp [joinN_c120, joinN_second (x := 120) (by decide +kernel) (by decide)]
theorem joinN_b770 : boundB joinN 1 770 = false := by
  unfold boundB
  rw [if_neg (by omega), show cpOf 1 = false by decide, joinN_770]
  simp [joinN_c770]
theorem joinN_b226 : boundB joinN 1 226 = true := by
  unfold boundB
  rw [if_neg (by omega), show cpOf 1 = false by decide, joinN_226]
  simp [joinN_c97, joinN_second (x := 97) (by decide +kernel) (by decide)]
theorem joinN_e1 : lastBd (boundB joinN 1) [97] = 0 := by simp [lastBd, bnds, joinN_b97]
theorem joinN_e2 : firstBd (boundB joinN 1) [770] = 1 := by simp [firstBd, bnds, joinN_b770]
theorem joinN_e3 : lastBd (boundB joinN 1) [226] = 0 := by simp [lastBd, bnds, joinN_b226]
theorem joinN_e4 : firstBd (boundB joinN 1) [120] = 0 := by simp [firstBd, bnds, joinN_b120]
theorem joinN_j1 : joinM joinN 1 [97] [] [770] = [226] := by
  unfold joinM
  rw [joinN_e1, joinN_e2]
  simp [joinN_f1]
theorem joinN_j2 : joinM joinN 1 [226] [] [120] = [226, 120] := by
  unfold joinM
  rw [joinN_e3, joinN_e4]
  simp [joinN_f2]
end Go.Proofs.YtjfhcmkcmdnhoaaGreatDoor
