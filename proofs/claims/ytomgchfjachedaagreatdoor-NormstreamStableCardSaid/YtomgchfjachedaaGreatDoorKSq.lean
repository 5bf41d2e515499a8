/- Short names for the steps of a walk through a region that draws its order. Leaf functions: kinds of Hangul, code points, cmp. Ranging over a map that the code made: one entry after the other, in any order. -/
import Derived.OrdersHeld
import Derived.Deep.RegionHeld3
import Derived.Maps.RangeRun
import Derived.Test.YtomgchfjachedaaGreatDoorKBase
import Derived.Test.YtomgchfjachedaaGreatDoorKPl
namespace Go.Proofs.YtomgchfjachedaaGreatDoor
open Go Go.RowKit

theorem s1_ : type_of% @List.setIfInBounds_toArray := @List.setIfInBounds_toArray
theorem s2_ : type_of% @List.set_cons_zero := @List.set_cons_zero
theorem s3_ : type_of% @List.set_cons_succ := @List.set_cons_succ
theorem s4_ : type_of% @List.getElem_toArray := @List.getElem_toArray
theorem s5_ : type_of% @List.getElem_cons_zero := @List.getElem_cons_zero
theorem s6_ : type_of% @List.getElem_cons_succ := @List.getElem_cons_succ
/-- An operation that is wanted is taken first. -/
theorem tk_ {P : Program} {ops : Array Oper} {Q : Exit → Act → World → Prop} {md : Region.Mode} {S : World → Prop} (i : Nat) {oi : Oper} (v : Value) {fuel : Nat} {listed listed' : Array Bool} {a a' : Act} {w : World} (hi : ops[i]? = some oi)
    (h : wpAnyH P md ops Q S fuel listed' a' w)
    (hw : Region.wanted oi (yielded ops a.tmps) = true := by rfl) (hv : ∀ w, S w → (execOp a.eval oi).run P w = .ok (.value v) w := by (intro w hSw; (try dsimp only at hSw); go_simp; (try with_reducible rfl)))
    (ha : a.put oi.dst v = a' := by ((try simp only [Act.put, s1_, s2_, s3_, s4_, s5_, s6_]); rfl)) (hl : listed.setIfInBounds i true = listed' := by ((try simp only [s1_, s2_, s3_, s4_, s5_, s6_]); rfl))
    (hs : Region.noSelect ops = true := by kernel_rfl) (hf : Region.free md ops listed i = true := by kernel_rfl) (hr : (Region.ready md ops listed).contains i = true := by kernel_rfl)
    (hQ : ∀ c a w, Q (.panic c) (a.put oi.dst v) w → Q (.panic c) a w := by exact fun _ _ _ h => h) (hS : S w := by assumption) : wpAnyH P md ops Q S (fuel + 1) listed a w := by
  subst ha hl
  exact wpAnyH_take hi hs hf hr hQ (Or.inl ⟨hw, hv⟩) hS h
/-- An operation whose guard is not met is left out. -/
theorem sk_ {P : Program} {ops : Array Oper} {Q : Exit → Act → World → Prop} {md : Region.Mode} {S : World → Prop} (i : Nat) {oi : Oper} {fuel : Nat} {listed listed' : Array Bool} {a a' : Act} {w : World} (hi : ops[i]? = some oi)
    (h : wpAnyH P md ops Q S fuel listed' a' w)
    (hw : Region.wanted oi (yielded ops a.tmps) = false := by rfl)
    (ha : a.put oi.dst undef = a' := by ((try simp only [Act.put, s1_, s2_, s3_, s4_, s5_, s6_]); rfl)) (hl : listed.setIfInBounds i true = listed' := by ((try simp only [s1_, s2_, s3_, s4_, s5_, s6_]); rfl))
    (hs : Region.noSelect ops = true := by kernel_rfl) (hf : Region.free md ops listed i = true := by kernel_rfl) (hr : (Region.ready md ops listed).contains i = true := by kernel_rfl)
    (hQ : ∀ c a w, Q (.panic c) (a.put oi.dst undef) w → Q (.panic c) a w := by exact fun _ _ _ h => h) (hS : S w := by assumption) : wpAnyH P md ops Q S (fuel + 1) listed a w := by
  subst ha hl
  exact wpAnyH_take hi hs hf hr hQ (Or.inr ⟨hw, rfl⟩) hS h
/-- A call, or an operation that changes the heap, comes up alone. -/
theorem rd_ {P : Program} {ops : Array Oper} {Q : Exit → Act → World → Prop} {md : Region.Mode} {S : World → Prop} (i : Nat) {o : Oper} {fuel : Nat} {listed : Array Bool} {a : Act} {w : World} (ho : ops[i]? = some o)
    (h : ∀ K' : Act → World → Prop, Shut (∀ a w, S w → (S w → wpAnyH P md ops Q S fuel (listed.setIfInBounds i true) a w) → K' a w) → if Region.wanted o (yielded ops a.tmps) = true then Oper.wp P o a w K' Q else K' (a.put o.dst undef) w)
    (hr : Region.ready md ops listed = [i] := by kernel_rfl) : wpAnyH P md ops Q S (fuel + 1) listed a w :=
  wpAnyH_ready hr (by simp) (AllReadyH.cons ho h AllReadyH.nil)
end Go.Proofs.YtomgchfjachedaaGreatDoor
namespace Go.Proofs.YtomgchfjachedaaGreatDoor
open Go Go.RowKit
theorem valid_any (c : Int) (w : World) : Calls Tryz.prog 119 #[.int .i64 c] w fun e w' => e = .returned (.bool (validB c)) ∧ w = w' := by
  go_enter Tryz.func119, Tryz.ntmps119
  go_wp2
  all_goals (go_ret; exact ⟨ret_bool (by simp [validB, *] <;> omega), rfl⟩)
theorem rvalid_any (c : Int) (w : World) : Calls Tryz.prog 18 #[.int .i64 c] w fun e w' => e = .returned (.bool (validB c)) ∧ w = w' := by
  go_enter Tryz.func18, Tryz.ntmps18
  go_wp2
  all_goals (go_ret; exact ⟨ret_bool (by simp [validB, *] <;> omega), rfl⟩)
theorem kind_any (c : Int) (w : World) :
    Calls Tryz.prog 89 #[.int .i64 c] w fun e w' => e = .returned (.int .i64 (kind c)) ∧ w = w' := by
  go_enter Tryz.func89, Tryz.ntmps89
  go_wp2
  all_goals (go_ret; refine ⟨ret_int ?_, rfl⟩; unfold kind; simp_all <;> omega)
theorem rkind_any (c : Int) (w : World) :
    Calls Tryz.prog 98 #[.int .i64 c] w fun e w' => e = .returned (.int .i64 (kind c)) ∧ w = w' := by
  go_enter Tryz.func98, Tryz.ntmps98
  go_wp2
  all_goals (go_ret; refine ⟨ret_int ?_, rfl⟩; unfold kind; simp_all <;> omega)
theorem isNaN_any (c : Int) (w : World) : Calls Tryz.prog 122 #[.int .i64 c] w fun e w' => e = .returned (.bool false) ∧ w = w' := by
  go_enter Tryz.func122, Tryz.ntmps122
  go_wp2
  all_goals (go_ret; exact ⟨ret_bool (by simp), rfl⟩)
theorem cmp_any (a b : Int) (w : World) : Calls Tryz.prog 78 #[.int .i64 a, .int .i64 b] w fun e w' => e = .returned (.int .i64 (cmpI a b)) ∧ w = w' := by
  go_enter Tryz.func78, Tryz.ntmps78
  go_wp2_with (go_at_call 122; refine (isNaN_any _ _).mono ?_; rintro e w' ⟨rfl, rfl⟩)
  all_goals (go_ret; exact ⟨ret_int (by unfold cmpI; first | (rw [if_pos (by assumption)]) | (rw [if_neg (by omega), if_pos (by omega)]) | (rw [if_neg (by omega), if_neg (by omega)])), rfl⟩)
theorem or_two (b off c : Nat) (x y : Int) (w : World) (h0 : w.cell? ⟨b, off, none⟩ = some (.int .i64 x)) (h1 : w.cell? ⟨b, off + 1, none⟩ = some (.int .i64 y)) :
    Calls Tryz.prog 77 #[.slice (some ⟨b, off, none⟩) 2 c] w fun e w' => e = .returned (.int .i64 (orI x y)) ∧ w = w' := by
  by_cases hx : x = 0
  · subst hx
    by_cases hy : y = 0
    · subst hy
      go_enter Tryz.func77, Tryz.ntmps77
      go_wp2
      refine wp_loop_rounds 3 ?_
      rw [rounds_succ]
      go_wp2
      rw [rounds_succ]
      go_wp2
      rw [rounds_succ]
      go_wp2
      go_ret
      exact ⟨rfl, rfl⟩
    · have hb : (y != 0) = true := by simpa using hy
      go_enter Tryz.func77, Tryz.ntmps77
      go_wp2
      refine wp_loop_rounds 3 ?_
      rw [rounds_succ]
      go_wp2
      rw [rounds_succ]
      go_wp2
      go_ret
      exact ⟨rfl, rfl⟩
  · have hb : (x != 0) = true := by simpa using hx
    have ho : orI x y = x := if_neg hx
    have HO := Lib.hid ho
    clear ho
    go_enter Tryz.func77, Tryz.ntmps77
    go_wp2
    refine wp_loop_rounds 3 ?_
    rw [rounds_succ]
    go_wp2
    go_ret
    exact ⟨ret_int HO.out.symm, rfl⟩
end Go.Proofs.YtomgchfjachedaaGreatDoor
namespace Go.Proofs.YtomgchfjachedaaGreatDoor
open Go Go.RowKit
open Go.ChangeMaps (setBlock)
section
variable {α : Type}
def MapRg (w : World) (b r : Nat) (enc : α → Value) (M D : List (α × Value)) (m : Nat) : Prop :=
  ∃ es clock since seen c0, w.heap[b]? = some (.map es clock) ∧ w.heap[r]? = some (.mapIter (some b) since seen c0) ∧ es.toList.map (fun e => (e.key, e.val)) = M.map (fun p => (enc p.1, p.2)) ∧
    (∀ x ∈ es.toList, x.born < since) ∧ since ≤ c0 ∧ since ≤ clock ∧ (es.toList.map (·.born)).Nodup ∧ (leftOf es seen).size = m ∧ (∀ p ∈ D, p ∈ M) ∧ ∀ (i : Nat) e p, es.toList[i]? = some e → M[i]? = some p → seen.contains e.born = true → p ∈ D
theorem MapRg.block {w w' : World} {b r m : Nat} {enc : α → Value} {M D : List (α × Value)} (h : MapRg w b r enc M D m) (hb : w'.heap[b]? = w.heap[b]?) (hr : w'.heap[r]? = w.heap[r]?) : MapRg w' b r enc M D m := by
  obtain ⟨es, cl, si, se, c0, h1, h2, h3⟩ := h
  exact ⟨es, cl, si, se, c0, hb.trans h1, hr.trans h2, h3⟩
theorem MapRg.lt {w : World} {b r m : Nat} {enc : α → Value} {M D : List (α × Value)} (h : MapRg w b r enc M D m) : b < w.heap.size ∧ r < w.heap.size := by
  obtain ⟨es, cl, si, se, c0, h1, h2, _⟩ := h
  exact ⟨(Array.getElem?_eq_some_iff.1 h1).1, (Array.getElem?_eq_some_iff.1 h2).1⟩
theorem MapRg.ne {w : World} {b r m : Nat} {enc : α → Value} {M D : List (α × Value)} (h : MapRg w b r enc M D m) : r ≠ b := by
  obtain ⟨es, cl, si, se, c0, h1, h2, _⟩ := h
  intro e
  rw [e, h1] at h2
  cases h2
theorem MapRg.kept {w w' : World} {b r m : Nat} {enc : α → Value} {M D : List (α × Value)} (h : MapRg w b r enc M D m) (hk : Kept w w') : MapRg w' b r enc M D m := h.block (Below.block hk b h.lt.1) (Below.block hk r h.lt.2)
theorem MapRg.grown {w w' : World} {b r m : Nat} {enc : α → Value} {M D : List (α × Value)} {row : Option Nat} (h : MapRg w b r enc M D m) (hg : w.grownBy w' row) (hb : some b ≠ row) (hr : some r ≠ row) : MapRg w' b r enc M D m := h.block (hg.block b h.lt.1 hb) (hg.block r h.lt.2 hr)
theorem MapRg.mem {w : World} {b r m : Nat} {enc : α → Value} {M D : List (α × Value)} (h : MapRg w b r enc M D m) : ∀ p ∈ D, p ∈ M := by
  obtain ⟨es, cl, si, se, c0, _, _, _, _, _, _, _, _, h9, _⟩ := h
  exact h9
theorem MapRg.start {P : Program} {T K E : TypeId} {w : World} {b : Nat} {enc : α → Value} {M : List (α × Value)} (h : MapIs w b enc M) (hT : P.underlying T = some (.map K E)) :
    ∃ o m, (Instr.range T (.map (some b))).run P w = .ok (.pointer (some ⟨w.heap.size, 0, none⟩)) (w.alloc o) ∧ MapRg (w.alloc o) b w.heap.size enc M [] m := by
  have hlt := h.lt
  obtain ⟨es, cl, h1, h2, h3, h4⟩ := h
  refine ⟨.mapIter (some b) cl #[] cl, (leftOf es #[]).size, run_range_map w T K E b es cl hT h1, es, cl, cl, #[], cl, ?_, heap_alloc_new w _, h2, h3, Nat.le_refl _, Nat.le_refl _, h4, rfl, by simp, ?_⟩
  · exact (Below.heap_alloc _ _ _ hlt).trans h1
  · intro i e p _ _ h5
    simp at h5
theorem nodup_idx {l : List Nat} (h : l.Nodup) {i j : Nat} {x : Nat} (hi : l[i]? = some x) (hj : l[j]? = some x) : i = j := by
  have hil := lt_of_getElem?_some hi
  have hjl := lt_of_getElem?_some hj
  rw [List.getElem?_eq_getElem hil, Option.some.injEq] at hi
  rw [List.getElem?_eq_getElem hjl, Option.some.injEq] at hj
  rcases Nat.lt_trichotomy i j with h1 | h1 | h1
  · exact absurd (hi.trans hj.symm) (List.pairwise_iff_getElem.1 h i j hil hjl h1)
  · exact h1
  · exact absurd (hj.trans hi.symm) (List.pairwise_iff_getElem.1 h j i hjl hil h1)
theorem grown_setBlock {w w1 : World} {r : Nat} (hw : w1 = w ∨ w1 = w.drew) (o : Obj) : w.grownBy (setBlock w1 r o) (some r) := by
  have hblk : ∀ k, some k ≠ some r → (w.heap.setIfInBounds r o)[k]? = w.heap[k]? := fun k hne => by
    rw [Array.getElem?_setIfInBounds, if_neg (fun e => hne (by rw [e]))]
  have hsz : w.heap.size ≤ (w.heap.setIfInBounds r o).size := by simp
  rcases hw with e | e
  · subst e; exact ⟨rfl, rfl, rfl, hsz, fun k _ hne => hblk k hne⟩
  · subst e; exact ⟨rfl, rfl, rfl, hsz, fun k _ hne => hblk k hne⟩
theorem MapRg.next {P : Program} {w : World} {b r m : Nat} {enc : α → Value} {M D : List (α × Value)} (h : MapRg w b r enc M D m) (ty : TypeId) :
    (m = 0 ∧ (∀ p ∈ M, p ∈ D) ∧ (Instr.next (.pointer (some ⟨r, 0, none⟩)) false ty).run P w = .ok (.tuple #[.bool false]) w) ∨
    ∃ p ∈ M, ∃ w' m', m' < m ∧ MapRg w' b r enc M (p :: D) m' ∧ w.grownBy w' (some r) ∧ (Instr.next (.pointer (some ⟨r, 0, none⟩)) false ty).run P w = .ok (.tuple #[.bool true, enc p.1, p.2]) w' ∧
      (Instr.entry (.pointer (some ⟨r, 0, none⟩))).run P w' = .ok (.tuple #[enc p.1, p.2]) w' := by
  have hne := h.ne
  have hlt := h.lt
  obtain ⟨es, cl, si, se, c0, h1, h2, h3, h4, h5, h6, h7, h8, h9, h10⟩ := h
  have hlen : es.toList.length = M.length := by have := congrArg List.length h3; simpa using this
  have hpair : ∀ (i : Nat) e, es.toList[i]? = some e → ∃ p, M[i]? = some p ∧ e.key = enc p.1 ∧ e.val = p.2 := fun i e he => by
    have hi := lt_of_getElem?_some he
    obtain ⟨p, hp⟩ := getElem?_some_of_lt (l := M) (k := i) (by omega)
    have := congrArg (fun l => l[i]?) h3
    simp only [List.getElem?_map, he, hp, Option.map_some, Option.some.injEq, Prod.mk.injEq] at this
    exact ⟨p, hp, this.1, this.2⟩
  rcases run_next_at (P := P) w ty r b si c0 se es cl h2 h1 h4 h5 with ⟨hz, hrun⟩ | ⟨e, he, w1, hw1, hrun⟩
  · refine .inl ⟨by omega, fun p hp => ?_, hrun⟩
    obtain ⟨i, hi, ep⟩ := List.getElem_of_mem hp
    obtain ⟨e, he⟩ := getElem?_some_of_lt (l := es.toList) (k := i) (by omega)
    exact h10 i e p he (by rw [List.getElem?_eq_getElem hi, ep]) (all_seen es se hz e (mem_of_getElem?_some he))
  · obtain ⟨hem, hns⟩ := mem_left he
    obtain ⟨i, hi, ei⟩ := List.getElem_of_mem hem
    have hei : es.toList[i]? = some e := by rw [List.getElem?_eq_getElem hi, ei]
    obtain ⟨p, hp, ek, ev⟩ := hpair i e hei
    rw [ek, ev] at hrun
    have hr2 : (setBlock w1 r (.mapIter (some b) si (se.push e.born) cl)).heap[r]? = some (.mapIter (some b) si (se.push e.born) cl) := by
      have h0 : (w.heap.setIfInBounds r (Obj.mapIter (some b) si (se.push e.born) cl))[r]? = some (.mapIter (some b) si (se.push e.born) cl) := by simp [hlt.2]
      rcases hw1 with rfl | rfl <;> exact h0
    have hb2 : (setBlock w1 r (.mapIter (some b) si (se.push e.born) cl)).heap[b]? = some (.map es cl) := by
      have := (grown_setBlock (r := r) hw1 (.mapIter (some b) si (se.push e.born) cl)).block b hlt.1 (by simp; exact fun e => hne e.symm)
      rw [this]; exact h1
    have hent := run_entry_at (P := P) (setBlock w1 r (.mapIter (some b) si (se.push e.born) cl)) r b si se es cl e hr2 hb2 hem h7
    rw [ek, ev] at hent
    refine .inr ⟨p, mem_of_getElem?_some hp, _, (leftOf es (se.push e.born)).size, by have := left_shrinks es se e he; omega, ⟨es, cl, si, se.push e.born, cl, hb2, hr2, h3, h4, h6, h6, h7, rfl, ?_, ?_⟩, grown_setBlock hw1 _, hrun, hent⟩
    · intro q hq
      rcases List.mem_cons.1 hq with rfl | hq
      · exact mem_of_getElem?_some hp
      · exact h9 q hq
    · intro j e' p' he' hp' hs
      rw [contains_push, Bool.or_eq_true, beq_iff_eq] at hs
      rcases hs with hs | hs
      · exact List.mem_cons_of_mem _ (h10 j e' p' he' hp' hs)
      · have hij : i = j := nodup_idx h7 (x := e.born) (by rw [List.getElem?_map, hei]; rfl) (by rw [List.getElem?_map, he', ← hs]; rfl)
        subst hij
        rw [hp] at hp'
        injection hp' with hp'
        rw [hp']
        exact List.mem_cons_self ..
end
end Go.Proofs.YtomgchfjachedaaGreatDoor
