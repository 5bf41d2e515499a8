/- Appending a slice of numbers to one that the call has made; slices that stay apart. -/
import Derived.Test.YtckgmkjoblneeaaGreatDoorKMeas
namespace Go.Proofs.YtckgmkjoblneeaaGreatDoor
open Go Go.RowKit
theorem info_parts1 {P : Program} {e : TypeId} {z : Value} {s b : Nat} (h : (P.info? e).map (fun i => (i.zero, i.size, i.bytes)) = some (some z, s, b)) : ∃ i, P.info? e = some i ∧ i.zero = some z ∧ i.size = s ∧ i.bytes = b := by
  cases hi : P.info? e with
  | none => rw [hi] at h; simp at h
  | some i =>
    rw [hi] at h
    simp only [Option.map_some, Option.some.injEq, Prod.mk.injEq] at h
    exact ⟨i, rfl, h.1, h.2.1, h.2.2⟩
theorem ints_news {w : World} {p : Addr} {m : Nat} {ys : List Int} (h : Ints w (some p) m ys) : ∀ j u, (ys.map (Value.int .i64))[j]? = some u → w.cell? (p.add j) = some u := by
  intro j u hu
  rw [List.getElem?_map] at hu
  cases hy : ys[j]? with
  | none => rw [hy] at hu; cases hu
  | some y =>
    rw [hy] at hu
    injection hu with hu
    have hj := lt_of_getElem?_some hy
    obtain ⟨b, off, e, hc⟩ := h.2 (by have := h.1; omega)
    have := hc j y hy 0 _ rfl
    injection e with e
    subst e
    have ha : (⟨b, off, none⟩ : Addr).add j = ⟨b, off + j, none⟩ := by unfold Addr.add; split <;> simp_all
    rw [ha, ← hu]
    simpa using this
theorem run_append_none (w : World) (base : Nat) (v : Value) (xs : List Int) (hown : OwnI w base v xs) (c : Nat) (ty : TypeId) :
    (Builtin.append_ #[32, 32] ty #[v, .slice none 0 c]).run Tryz.prog w = .ok v w := by
  obtain ⟨i, hi, _, _, _⟩ := info_parts1 info_int
  rcases hown.2 with ⟨rfl, h0⟩ | ⟨g, cap, cur, rfl, _, _, hnc, _⟩
  · simp [Builtin.append_, run_underlying Tryz.underlying32, sizeOf, typeInfo, hi, Builtin.lenOf, Builtin.firstCells]
  · simp [Builtin.append_, run_underlying Tryz.underlying32, sizeOf, typeInfo, hi, Builtin.lenOf, Builtin.firstCells, hnc, storeCells]
theorem app_ints {w : World} {ops : Array Oper} {rest : List Oper} {o : Oper} {a : Act} {Q : Exit → Act → World → Prop} (hgd : o.guard = none) (s x : Operand)
    (ho : o.op = .call { callee := .builtin .append, args := #[s, x], argTypes := #[32, 32] })
    (base : Nat) (v : Value) (xs : List Int) (hs : a.eval s = v) (hown : OwnI w base v xs) (A : Option Addr) (m c : Nat) (ys : List Int) (hx : a.eval x = .slice A m c) (hI : Ints w A m ys)
    (hlen : xs.length + ys.length ≤ 1000000000) (hbase : base ≤ w.heap.size)
    (h : ∀ v' w', OwnI w' base v' (xs ++ ys) → w.grownBy w' v.ownBlock → (v'.ownBlock = v.ownBlock ∨ v'.ownBlock = some w.heap.size) → wpList Tryz.prog ops Q rest (a.put o.dst v') w') : wpList Tryz.prog ops Q (o :: rest) a w := by
  obtain ⟨i, hi, hz, hsz, hby⟩ := info_parts1 info_int
  have hm := hI.1
  cases A with
  | none =>
    have : m = 0 := by
      rcases Nat.eq_zero_or_pos m with h0 | h0
      · exact h0
      · obtain ⟨b, off, e, _⟩ := hI.2 h0; cases e
    subst this
    have hy : ys = [] := List.length_eq_zero_iff.1 hm.symm
    subst hy
    refine wpList_plain hgd fun K hK => ?_
    have hrun := run_append_none w base v xs hown c o.type
    unfold Oper.wp
    simp [execOp, ho, resolve, invoke, builtin, hs, hx, hrun, Result.andThen]
    exact hK _ _ (h v w (by simpa using hown) ⟨rfl, rfl, rfl, Nat.le_refl _, fun _ _ _ => rfl⟩ (.inl rfl))
  | some p =>
    refine wpList_append_own_at _ hgd s x 32 ho base 3 i (.int .i64 0) 1 8 Tryz.underlying32 hi hz hsz hby rfl (by decide) v xs.length (xs.map (Value.int .i64)) hs hown p m c (ys.map (Value.int .i64)) hx (by simp [hm]) (ints_news hI) (fun u hu => by
      obtain ⟨y, _, rfl⟩ := List.mem_map.1 hu; simp [Value.oneCell']) (by unfold maxLen; omega) (by omega) hbase (fun v' w' h1 h2 _ h4 => h v' w' ?_ h2 h4)
    unfold OwnI
    rw [List.length_append, List.map_append, ← hm]
    exact h1
def Away (g : Nat) (A : Option Addr) : Prop := ∀ p, A = some p → p.block ≠ g
def InHeap (w : World) (A : Option Addr) : Prop := ∀ p, A = some p → p.block < w.heap.size
theorem Away.of_inHeap {w : World} {A : Option Addr} (h : InHeap w A) {g : Nat} (hg : w.heap.size ≤ g) : Away g A := fun p hp => by have := h p hp; omega
theorem InHeap.le {w w' : World} {A : Option Addr} (h : InHeap w A) (hw : w.heap.size ≤ w'.heap.size) : InHeap w' A := fun p hp => Nat.lt_of_lt_of_le (h p hp) hw
theorem Ints.grown {w w' : World} {A : Option Addr} {n : Nat} {xs : List Int} {row : Option Nat} (h : Ints w A n xs) (hg : w.grownBy w' row) (ha : ∀ g, row = some g → Away g A) : Ints w' A n xs :=
  ⟨h.1, fun hn => by
    obtain ⟨b, off, e, hc⟩ := h.2 hn
    refine ⟨b, off, e, fun i x hx j u hu => ?_⟩
    have h1 := hc i x hx j u hu
    have hb : b < w.heap.size := cell_lt h1
    refine (World.cell?_of_block (hg.block b hb (fun e' => ?_))).trans h1
    exact ha b e'.symm _ e rfl⟩
def adOf : Value → Option Addr
  | .slice A _ _ => A
  | _ => none
theorem OwnI.inHeap {w : World} {base : Nat} {v : Value} {xs : List Int} (h : OwnI w base v xs) : InHeap w (adOf v) ∧ ∀ p, adOf v = some p → v.ownBlock = some p.block ∧ base ≤ p.block := by
  have hlt := World.ownsRow.lt h
  rcases h.2 with ⟨rfl, _⟩ | ⟨g, cap, cur, rfl, _⟩
  · exact ⟨fun p hp => (by cases hp), fun p hp => (by cases hp)⟩
  · refine ⟨fun p hp => ?_, fun p hp => ?_⟩
    · simp only [adOf, Option.some.injEq] at hp
      subst hp
      exact (hlt g rfl).2
    · simp only [adOf, Option.some.injEq] at hp
      subst hp
      exact ⟨rfl, (hlt g rfl).1⟩
end Go.Proofs.YtckgmkjoblneeaaGreatDoor
