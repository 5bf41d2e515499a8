/- Identifiers: the scan of a text, and which texts are identifiers. No program. Ranging over a map that the code made: one entry after the other, in any order. -/
import Derived.Maps.RangeRun
import Derived.Test.YtmlcdohldkgcdaaGreatDoorKPl
import Derived.Test.YtmlcdohldkgcdaaGreatDoorKOwn
namespace Go.Proofs.YtmlcdohldkgcdaaGreatDoor
section
variable (b p c : Int → Bool)
def idGo : List Int → Nat → Nat → Nat × Nat
  | [], i, e => (e, i)
  | y :: t, i, e => if p y = true then idGo t (i + 1) (i + 1) else if c y = false ∨ e < i then (e, i) else idGo t (i + 1) e
def idScan : List Int → Nat × Nat
  | [] => (0, 0)
  | x :: t => if b x = true then idGo p c t 1 1 else (0, 0)
def medB (y : Int) : Bool := c y && !p y
def folB (a y : Int) : Bool := if medB p c y = true then !medB p c a else p y
def idTail : Int → List Int → Bool
  | a, [] => !medB p c a
  | a, y :: t => folB p c a y && idTail y t
def idValid : List Int → Bool
  | [] => false
  | x :: t => b x && idTail p c x t
def idRun : Int → List Int → Nat
  | _, [] => 0
  | a, y :: t => if folB p c a y = true then idRun y t + 1 else 0
end
section
variable {b p c : Int → Bool}
theorem idGo_spec : ∀ (t : List Int) (a : Int) (i e : Nat), e + (if medB p c a = true then 1 else 0) = i → (idGo p c t i e).2 = i + idRun p c a t ∧
    (idGo p c t i e).1 + (if medB p c ((a :: t).getD (idRun p c a t) 0) = true then 1 else 0) = i + idRun p c a t
  | [], a, i, e, h => by simp [idGo, idRun, h]
  | y :: t, a, i, e, h => by
    rw [idGo, idRun]
    by_cases hp : p y = true
    · have hm : medB p c y = false := by simp [medB, hp]
      have hf : folB p c a y = true := by simp [folB, hm, hp]
      rw [if_pos hp, if_pos hf]
      obtain ⟨h1, h2⟩ := idGo_spec t y (i + 1) (i + 1) (by simp [hm])
      refine ⟨by omega, ?_⟩
      rw [List.getD_cons_succ]
      omega
    · rw [if_neg hp]
      by_cases hc : c y = false ∨ e < i
      · have hf : folB p c a y = false := by
          rcases hc with hc | hc
          · simp [folB, medB, hc, hp]
          · have ha : medB p c a = true := by
              cases hm : medB p c a with
              | true => rfl
              | false => rw [hm] at h; simp at h; omega
            by_cases hcy : c y = true
            · have hmy : medB p c y = true := by simp [medB, hcy, hp]
              simp [folB, hmy, ha]
            · simp [folB, medB, hcy, hp]
        rw [if_pos hc, if_neg (by simp [hf])]
        exact ⟨by simp, by simpa using h⟩
      · rw [if_neg hc]
        have hcy : c y = true := by
          cases h3 : c y with
          | true => rfl
          | false => exact absurd (.inl h3) hc
        have hei : e = i := by
          rcases Nat.lt_or_ge e i with h4 | h4
          · exact absurd (.inr h4) hc
          · split at h <;> omega
        have ha : medB p c a = false := by
          cases hm : medB p c a with
          | false => rfl
          | true => rw [hm] at h; simp at h; omega
        have hmy : medB p c y = true := by simp [medB, hcy, hp]
        have hf : folB p c a y = true := by simp [folB, hmy, ha]
        rw [if_pos hf]
        obtain ⟨h1, h2⟩ := idGo_spec t y (i + 1) e (by rw [hmy]; simp; omega)
        refine ⟨by omega, ?_⟩
        rw [List.getD_cons_succ]
        omega
theorem idRun_le : ∀ (t : List Int) (a : Int), idRun p c a t ≤ t.length
  | [], _ => Nat.le_refl _
  | y :: t, a => by
    rw [idRun]
    have := idRun_le t y
    split <;> simp <;> omega
theorem idTail_take : ∀ (t : List Int) (a : Int) (k : Nat), k ≤ t.length → idTail p c a (t.take k) = (decide (k ≤ idRun p c a t) && !medB p c ((a :: t).getD k 0))
  | t, a, 0, _ => by simp [idTail]
  | [], a, k + 1, h => by simp at h
  | y :: t, a, k + 1, h => by
    rw [List.take_succ_cons, idTail, idRun, idTail_take t y k (by simpa using h), List.getD_cons_succ]
    by_cases hf : folB p c a y = true
    · rw [if_pos hf, hf, Bool.true_and]
      congr 1
      exact decide_eq_decide.2 (by omega)
    · rw [if_neg hf]
      simp [hf]
theorem run_before : ∀ {t : List Int} {x : Int} {q : Nat}, medB p c x = false → q + 1 ≤ idRun p c x t → medB p c ((x :: t).getD (q + 1) 0) = true → medB p c ((x :: t).getD q 0) = false
  | [], x, q, _, h, _ => by simp [idRun] at h
  | y :: t, x, 0, hx, _, _ => by simpa using hx
  | y :: t, x, q + 1, hx, h, hm => by
    rw [idRun] at h
    by_cases hf : folB p c x y = true
    · rw [if_pos hf] at h
      rw [List.getD_cons_succ] at hm ⊢
      by_cases hy : medB p c y = true
      · -- y only connects: the next one does not
        cases q with
        | zero =>
          exfalso
          rw [List.getD_cons_succ] at hm
          cases t with
          | nil => simp [idRun] at h
          | cons z t =>
            rw [idRun] at h
            have hz : medB p c z = true := by simpa using hm
            have : folB p c y z = false := by simp [folB, hz, hy]
            rw [this] at h
            simp at h
        | succ q =>
          cases t with
          | nil => simp [idRun] at h
          | cons z t =>
            rw [idRun] at h
            by_cases hfz : folB p c y z = true
            · rw [if_pos hfz] at h
              have hz : medB p c z = false := by
                cases hz : medB p c z with
                | false => rfl
                | true => simp [folB, hz, hy] at hfz
              rw [List.getD_cons_succ] at hm ⊢
              exact run_before hz (by omega) hm
            · rw [if_neg hfz] at h; omega
      · exact run_before (by simpa using hy) (by omega) hm
    · rw [if_neg hf] at h; omega
theorem scan_spec (hb : ∀ x, b x = true → p x = true) (text : List Int) : (idScan b p c text).1 ≤ (idScan b p c text).2 ∧ (idScan b p c text).2 ≤ text.length ∧ (0 < (idScan b p c text).1 → idValid b p c (text.take (idScan b p c text).1) = true) ∧
    ∀ k, (idScan b p c text).1 < k → k ≤ text.length → idValid b p c (text.take k) = false := by
  cases text with
  | nil => exact ⟨Nat.le_refl _, Nat.le_refl _, fun h => by simp [idScan] at h, fun k h1 h2 => by simp at h2; omega⟩
  | cons x t =>
    rw [show idScan b p c (x :: t) = if b x = true then idGo p c t 1 1 else (0, 0) from rfl]
    by_cases hx : b x = true
    · rw [if_pos hx]
      have hmx : medB p c x = false := by simp [medB, hb x hx]
      obtain ⟨h1, h2⟩ := idGo_spec (p := p) (c := c) t x 1 1 (by simp [hmx])
      have hr := idRun_le (p := p) (c := c) t x
      have hval : ∀ k, 0 < k → k ≤ (x :: t).length → idValid b p c ((x :: t).take k) = (decide (k ≤ idRun p c x t + 1) && !medB p c ((x :: t).getD (k - 1) 0)) := fun k h0 hk => by
        obtain ⟨j, rfl⟩ : ∃ j, k = j + 1 := ⟨k - 1, by omega⟩
        rw [List.take_succ_cons, idValid, hx, Bool.true_and, idTail_take t x j (by simp at hk; omega)]
        rw [Nat.add_sub_cancel]
        congr 1
        exact decide_eq_decide.2 (by omega)
      generalize (idGo p c t 1 1).1 = e at *
      generalize (idGo p c t 1 1).2 = st at *
      generalize hq : idRun p c x t = q at *
      by_cases hm : medB p c ((x :: t).getD q 0) = true
      · rw [hm] at h2
        simp only [if_true] at h2
        have hq0 : 0 < q := by
          rcases Nat.eq_zero_or_pos q with h0 | h0
          · subst h0; simp [hmx] at hm
          · exact h0
        refine ⟨by omega, by simp; omega, fun h0 => ?_, fun k hk hkl => ?_⟩
        · rw [hval e h0 (by simp; omega)]
          have : medB p c ((x :: t).getD (e - 1) 0) = false := by
            -- the element before one that only connects does not only connect
            have hee : e - 1 + 1 = q := by omega
            rw [← hee] at hm
            exact run_before (q := e - 1) hmx (by rw [hq]; omega) hm
          rw [this]
          simp; omega
        · rw [hval k (by omega) hkl]
          rcases Nat.lt_or_ge (q + 1) k with h3 | h3
          · simp; omega
          · have : k - 1 = q := by omega
            rw [this, hm]
            simp
      · have hm' : medB p c ((x :: t).getD q 0) = false := by simpa using hm
        rw [hm'] at h2
        simp only [Bool.false_eq_true, if_false] at h2
        refine ⟨by omega, by simp; omega, fun h0 => ?_, fun k hk hkl => ?_⟩
        · rw [hval e h0 (by simp; omega), show e - 1 = q by omega, hm']
          simp; omega
        · rw [hval k (by omega) hkl]
          simp; omega
    · rw [if_neg hx]
      refine ⟨Nat.le_refl _, Nat.zero_le _, fun h => absurd h (by simp), fun k hk hkl => ?_⟩
      obtain ⟨j, rfl⟩ : ∃ j, k = j + 1 := ⟨k - 1, by omega⟩
      rw [List.take_succ_cons, idValid]
      simp [hx]
end
end Go.Proofs.YtmlcdohldkgcdaaGreatDoor
namespace Go.Proofs.YtmlcdohldkgcdaaGreatDoor
open Go Go.RowKit
open Go.ChangeMaps (setBlock)
section
variable {α : Type}
def MapRg (w : World) (b r : Nat) (enc : α → Value) (M D : List (α × Value)) (m : Nat) : Prop :=
  ∃ es clock since seen c0, w.heap[b]? = some (.map es clock) ∧ w.heap[r]? = some (.mapIter (some b) since seen c0) ∧ es.toList.map (fun e => (e.key, e.val)) = M.map (fun p => (enc p.1, p.2)) ∧
    (∀ x ∈ es.toList, x.born < since) ∧ since ≤ c0 ∧ since ≤ clock ∧ (es.toList.map (·.born)).Nodup ∧ (leftOf es seen).size = m ∧ (∀ p ∈ D, p ∈ M) ∧ ∀ (i : Nat) e p, es.toList[i]? = some e → M[i]? = some p → seen.contains e.born = true → p ∈ D
theorem MapRg.block {w w' : World} {b r m : Nat} {enc : α → Value} {M D : List (α × Value)} (h : MapRg w b r enc M D m) (hb : w'.heap[b]? = w.heap[b]?) (hr : w'.heap[r]? = w.heap[r]?) : MapRg w' b r enc M D m := by
  obtain ⟨es, cl, si, se, c0, h1, h2, h3⟩ := h
  exact ⟨es, cl, si, se, c0, hb.trans h1, hr.trans h2, h3⟩
theorem MapRg.lt {w : World} {b r m : Nat} {enc : α → Value} {M D : List (α × Value)} (h : MapRg w b r enc M D m) : b < w.heap.size ∧ r < w.heap.size := by
  obtain ⟨es, cl, si, se, c0, h1, h2, _⟩ := h
  exact ⟨(Array.getElem?_eq_some_iff.1 h1).1, (Array.getElem?_eq_some_iff.1 h2).1⟩
theorem MapRg.ne {w : World} {b r m : Nat} {enc : α → Value} {M D : List (α × Value)} (h : MapRg w b r enc M D m) : r ≠ b := by
  obtain ⟨es, cl, si, se, c0, h1, h2, _⟩ := h
  intro e
  rw [e, h1] at h2
  cases h2
theorem MapRg.kept {w w' : World} {b r m : Nat} {enc : α → Value} {M D : List (α × Value)} (h : MapRg w b r enc M D m) (hk : Kept w w') : MapRg w' b r enc M D m := h.block (Below.block hk b h.lt.1) (Below.block hk r h.lt.2)
theorem MapRg.grown {w w' : World} {b r m : Nat} {enc : α → Value} {M D : List (α × Value)} {row : Option Nat} (h : MapRg w b r enc M D m) (hg : w.grownBy w' row) (hb : some b ≠ row) (hr : some r ≠ row) : MapRg w' b r enc M D m := h.block (hg.block b h.lt.1 hb) (hg.block r h.lt.2 hr)
theorem MapRg.mem {w : World} {b r m : Nat} {enc : α → Value} {M D : List (α × Value)} (h : MapRg w b r enc M D m) : ∀ p ∈ D, p ∈ M := by
  obtain ⟨es, cl, si, se, c0, _, _, _, _, _, _, _, _, h9, _⟩ := h
  exact h9
theorem MapRg.start {P : Program} {T K E : TypeId} {w : World} {b : Nat} {enc : α → Value} {M : List (α × Value)} (h : MapIs w b enc M) (hT : P.underlying T = some (.map K E)) :
    ∃ o m, (Instr.range T (.map (some b))).run P w = .ok (.pointer (some ⟨w.heap.size, 0, none⟩)) (w.alloc o) ∧ MapRg (w.alloc o) b w.heap.size enc M [] m := by
  have hlt := h.lt
  obtain ⟨es, cl, h1, h2, h3, h4⟩ := h
  refine ⟨.mapIter (some b) cl #[] cl, (leftOf es #[]).size, run_range_map w T K E b es cl hT h1, es, cl, cl, #[], cl, ?_, heap_alloc_new w _, h2, h3, Nat.le_refl _, Nat.le_refl _, h4, rfl, by simp, ?_⟩
  · exact (Below.heap_alloc _ _ _ hlt).trans h1
  · intro i e p _ _ h5
    simp at h5
theorem nodup_idx {l : List Nat} (h : l.Nodup) {i j : Nat} {x : Nat} (hi : l[i]? = some x) (hj : l[j]? = some x) : i = j := by
  have hil := lt_of_getElem?_some hi
  have hjl := lt_of_getElem?_some hj
  rw [List.getElem?_eq_getElem hil, Option.some.injEq] at hi
  rw [List.getElem?_eq_getElem hjl, Option.some.injEq] at hj
  rcases Nat.lt_trichotomy i j with h1 | h1 | h1
  · exact absurd (hi.trans hj.symm) (List.pairwise_iff_getElem.1 h i j hil hjl h1)
  · exact h1
  · exact absurd (hj.trans hi.symm) (List.pairwise_iff_getElem.1 h j i hjl hil h1)
theorem grown_setBlock {w w1 : World} {r : Nat} (hw : w1 = w ∨ w1 = w.drew) (o : Obj) : w.grownBy (setBlock w1 r o) (some r) := by
  have hblk : ∀ k, some k ≠ some r → (w.heap.setIfInBounds r o)[k]? = w.heap[k]? := fun k hne => by
    rw [Array.getElem?_setIfInBounds, if_neg (fun e => hne (by rw [e]))]
  have hsz : w.heap.size ≤ (w.heap.setIfInBounds r o).size := by simp
  rcases hw with e | e
  · subst e; exact ⟨rfl, rfl, rfl, hsz, fun k _ hne => hblk k hne⟩
  · subst e; exact ⟨rfl, rfl, rfl, hsz, fun k _ hne => hblk k hne⟩
theorem MapRg.next {P : Program} {w : World} {b r m : Nat} {enc : α → Value} {M D : List (α × Value)} (h : MapRg w b r enc M D m) (ty : TypeId) :
    (m = 0 ∧ (∀ p ∈ M, p ∈ D) ∧ (Instr.next (.pointer (some ⟨r, 0, none⟩)) false ty).run P w = .ok (.tuple #[.bool false]) w) ∨
    ∃ p ∈ M, ∃ w' m', m' < m ∧ MapRg w' b r enc M (p :: D) m' ∧ w.grownBy w' (some r) ∧ (Instr.next (.pointer (some ⟨r, 0, none⟩)) false ty).run P w = .ok (.tuple #[.bool true, enc p.1, p.2]) w' ∧
      (Instr.entry (.pointer (some ⟨r, 0, none⟩))).run P w' = .ok (.tuple #[enc p.1, p.2]) w' := by
  have hne := h.ne
  have hlt := h.lt
  obtain ⟨es, cl, si, se, c0, h1, h2, h3, h4, h5, h6, h7, h8, h9, h10⟩ := h
  have hlen : es.toList.length = M.length := by have := congrArg List.length h3; simpa using this
  have hpair : ∀ (i : Nat) e, es.toList[i]? = some e → ∃ p, M[i]? = some p ∧ e.key = enc p.1 ∧ e.val = p.2 := fun i e he => by
    have hi := lt_of_getElem?_some he
    obtain ⟨p, hp⟩ := getElem?_some_of_lt (l := M) (k := i) (by omega)
    have := congrArg (fun l => l[i]?) h3
    simp only [List.getElem?_map, he, hp, Option.map_some, Option.some.injEq, Prod.mk.injEq] at this
    exact ⟨p, hp, this.1, this.2⟩
  rcases run_next_at (P := P) w ty r b si c0 se es cl h2 h1 h4 h5 with ⟨hz, hrun⟩ | ⟨e, he, w1, hw1, hrun⟩
  · refine .inl ⟨by omega, fun p hp => ?_, hrun⟩
    obtain ⟨i, hi, ep⟩ := List.getElem_of_mem hp
    obtain ⟨e, he⟩ := getElem?_some_of_lt (l := es.toList) (k := i) (by omega)
    exact h10 i e p he (by rw [List.getElem?_eq_getElem hi, ep]) (all_seen es se hz e (mem_of_getElem?_some he))
  · obtain ⟨hem, hns⟩ := mem_left he
    obtain ⟨i, hi, ei⟩ := List.getElem_of_mem hem
    have hei : es.toList[i]? = some e := by rw [List.getElem?_eq_getElem hi, ei]
    obtain ⟨p, hp, ek, ev⟩ := hpair i e hei
    rw [ek, ev] at hrun
    have hr2 : (setBlock w1 r (.mapIter (some b) si (se.push e.born) cl)).heap[r]? = some (.mapIter (some b) si (se.push e.born) cl) := by
      have h0 : (w.heap.setIfInBounds r (Obj.mapIter (some b) si (se.push e.born) cl))[r]? = some (.mapIter (some b) si (se.push e.born) cl) := by simp [hlt.2]
      rcases hw1 with rfl | rfl <;> exact h0
    have hb2 : (setBlock w1 r (.mapIter (some b) si (se.push e.born) cl)).heap[b]? = some (.map es cl) := by
      have := (grown_setBlock (r := r) hw1 (.mapIter (some b) si (se.push e.born) cl)).block b hlt.1 (by simp; exact fun e => hne e.symm)
      rw [this]; exact h1
    have hent := run_entry_at (P := P) (setBlock w1 r (.mapIter (some b) si (se.push e.born) cl)) r b si se es cl e hr2 hb2 hem h7
    rw [ek, ev] at hent
    refine .inr ⟨p, mem_of_getElem?_some hp, _, (leftOf es (se.push e.born)).size, by have := left_shrinks es se e he; omega, ⟨es, cl, si, se.push e.born, cl, hb2, hr2, h3, h4, h6, h6, h7, rfl, ?_, ?_⟩, grown_setBlock hw1 _, hrun, hent⟩
    · intro q hq
      rcases List.mem_cons.1 hq with rfl | hq
      · exact mem_of_getElem?_some hp
      · exact h9 q hq
    · intro j e' p' he' hp' hs
      rw [contains_push, Bool.or_eq_true, beq_iff_eq] at hs
      rcases hs with hs | hs
      · exact List.mem_cons_of_mem _ (h10 j e' p' he' hp' hs)
      · have hij : i = j := nodup_idx h7 (x := e.born) (by rw [List.getElem?_map, hei]; rfl) (by rw [List.getElem?_map, he', ← hs]; rfl)
        subst hij
        rw [hp] at hp'
        injection hp' with hp'
        rw [hp']
        exact List.mem_cons_self ..
end
end Go.Proofs.YtmlcdohldkgcdaaGreatDoor
