/- References: Small of layers 2, 11, 20, 21; Compare and Equal of layer 1. decompose.measure: the search in depth. -/
import Derived.Test.YtmlcdohldkgcdaaGreatDoorKSimA
import Derived.Test.YtmlcdohldkgcdaaGreatDoorKPl
import Derived.Test.YtmlcdohldkgcdaaGreatDoorKOwn
namespace Go.Proofs.YtmlcdohldkgcdaaGreatDoor
open Go Go.RowKit
theorem r20Small (A : Option Addr) (n c : Nat) (w : World) : Calls Tryz.prog 32 #[.slice A n c] w fun e w' => e = .returned (.bool (decide (n ≤ 16))) ∧ w = w' := by
  go_enter Tryz.func32, Tryz.ntmps32
  go_wp2
  go_ret
  exact ⟨ret_bool (by rw [decide_eq_decide]; omega), rfl⟩
theorem r02Small (A : Option Addr) (n c : Nat) (w : World) : Calls Tryz.prog 34 #[.agg #[.slice A n c]] w (RetB w (decide (n ≤ 12))) := by
  go_enter Tryz.func34, Tryz.ntmps34
  go_wp2
  go_ret
  exact ⟨ret_bool (by rw [decide_eq_decide]; omega), Kept.alloc (Kept.refl _) _⟩
set_option maxHeartbeats 1000000 in
theorem r11Small (A : Option Addr) (n c : Nat) (l : List Mp) (w : World) (hn : n ≤ 9223372036854775807) (hl : Mps w A n l) (hto : ∀ m ∈ l, m.to.length ≤ 9223372036854775807) :
    Calls Tryz.prog 33 #[.slice A n c] w fun e w' => e = .returned (.bool (smallMaps l)) ∧ w = w' := by
  have HL := Lib.hid hl
  have HN := Lib.hid hl.1
  have HTO := Lib.hid hto
  clear hl hto
  go_enter Tryz.func33, Tryz.ntmps33
  go_wp2
  go_loop [3] (fun i => ∃ k : Nat, k ≤ n ∧ k ≤ 30 ∧ i = .int .i64 k ∧ (l.take k).any mpBig = false) (fun i => 30 - (intOf i).toNat)
  case atStart => exact ⟨0, Nat.zero_le _, by omega, rfl, by simp⟩
  case round =>
    obtain ⟨k, hk, hk3, rfl, hno⟩ := hrel
    have HNO := Lib.hid hno
    clear hno
    by_cases hlt : k < n
    · by_cases h30 : k < 30
      · obtain ⟨b, off, m, A', n', c', rfl, hm, hle, hI, c0, c1, c2⟩ := mp_at HL.out hlt
        have HM := Lib.hid hm
        have HI := Lib.hid hI.1
        have hn' : n' ≤ 9223372036854775807 := by rw [hI.1]; exact HTO.out m (mem_of_getElem?_some hm)
        have hbig : mpBig m = true → smallMaps l = false := fun h => by
          unfold smallMaps
          have : (l.take 30).any mpBig = true := List.any_eq_true.2 ⟨m, by
            have := HM.out
            exact List.mem_of_getElem? (i := k) (by rw [List.getElem?_take, if_pos h30]; exact this), h⟩
          rw [this]; rfl
        have HBG := Lib.hid hbig
        clear hm hI hbig
        go_wp2
        all_goals first
          | (go_ret
             exact ⟨ret_bool (HBG.out (by have := HI.out; simp [mpBig]; omega)).symm, rfl⟩)
          | (go_round
             case rel => exact ⟨k + 1, by omega, by omega, by go_num, by rw [any_take_snoc _ HM.out, HNO.out]; have := HI.out; simp [mpBig]; omega⟩
             case measure => simp [intOf]; omega)
      · obtain rfl : k = 30 := by omega
        go_wp2
        go_ret
        refine ⟨ret_bool ?_, rfl⟩
        unfold smallMaps
        rw [HNO.out, ← HN.out]
        simp; omega
    · have hkn : k = n := by omega
      go_wp2
      all_goals
        go_ret
        refine ⟨ret_bool ?_, rfl⟩
        unfold smallMaps
        have e1 : l.take 30 = l.take k := by rw [List.take_of_length_le (by have := HN.out; omega), List.take_of_length_le (by have := HN.out; omega)]
        rw [e1, HNO.out, ← HN.out]
        simp only [Bool.not_false, Bool.true_and, decide_eq_decide]; omega
set_option maxHeartbeats 1000000 in
theorem r01Compare (A B : Option Addr) (n m c d : Nat) (xs ys : List Int) (w : World) (hn : n ≤ 100000000) (_hm : m ≤ 100000000) (hx : Ints w A n xs) (hy : Ints w B m ys) :
    Calls Tryz.prog 67 #[.slice A n c, .slice B m d] w (RetI w (cmpL xs ys)) := by
  have HX := Lib.hid hx
  have HY := Lib.hid hy
  have HXN := Lib.hid hx.1
  have HYN := Lib.hid hy.1
  clear hx hy
  go_enter Tryz.func67, Tryz.ntmps67
  go_wp2
  go_loopw [5] (fun i wr => ∃ k : Nat, k ≤ n ∧ k ≤ m ∧ i = .int .i64 k ∧ cmpL xs ys = cmpL (xs.drop k) (ys.drop k) ∧ Below w.heap.size w wr) (fun i _ => n - (intOf i).toNat)
  case atStart => exact ⟨0, Nat.zero_le _, Nat.zero_le _, rfl, rfl, Below.refl _ _⟩
  case round =>
    obtain ⟨k, hk, hk2, rfl, hc, hB⟩ := hrel
    have HC := Lib.hid hc
    clear hc
    by_cases h1 : k < n
    · by_cases h2 : k < m
      · obtain ⟨b, off, x, rfl, hx, c0⟩ := int_at (HX.out.kept hB) h1
        obtain ⟨b2, off2, y, rfl, hy, c1⟩ := int_at (HY.out.kept hB) h2
        have hcc : cmpL (xs.drop k) (ys.drop k) = if x < y then -1 else if y < x then 1 else cmpL (xs.drop (k + 1)) (ys.drop (k + 1)) := by
          rw [drop_some hx, drop_some hy, cmpL]
        have HCC := Lib.hid (HC.out.trans hcc)
        clear hx hy hcc
        have g1 : (k : Int) < (n : Int) := by omega
        have g2 : (k : Int) < (m : Int) := by omega
        by_cases h3 : x < y
        · go_wp2
          go_quiet (fail)
          go_wp2
          go_ret
          exact ⟨ret_int (by rw [HCC.out, if_pos h3]), Kept.drewN hB _⟩
        · by_cases h4 : y < x
          · have h4' : x > y := h4
            go_wp2
            go_quiet (fail)
            go_wp2
            go_quiet (fail)
            go_wp2
            go_ret
            exact ⟨ret_int (by rw [HCC.out, if_neg (show ¬ x < y by omega), if_pos h4]), by repeat (first | exact hB | refine Kept.drewN ?_ _)⟩
          · go_wp2
            go_quiet (fail)
            go_wp2
            go_quiet (fail)
            go_wp2
            go_roundw
            case rel => exact ⟨k + 1, by omega, by omega, by go_num, by rw [HCC.out, if_neg (show ¬ x < y by omega), if_neg (show ¬ y < x by omega)], by repeat (first | exact hB | refine Kept.drewN ?_ _)⟩
            case measure => simp [intOf]; omega
      · have hkm : k = m := by omega
        have hres : cmpL xs ys = 1 := by
          rw [HC.out, List.drop_of_length_le (l := ys) (by have := HYN.out; omega)]
          obtain ⟨x, hx⟩ := getElem?_some_of_lt (l := xs) (k := k) (by have := HXN.out; omega)
          rw [drop_some hx, cmpL]
        have HR := Lib.hid hres
        clear hres
        go_wp2
        go_ret
        exact ⟨ret_int HR.out.symm, hB⟩
    · have hkn : k = n := by omega
      by_cases h2 : k < m
      · have hres : cmpL xs ys = -1 := by
          rw [HC.out, List.drop_of_length_le (l := xs) (by have := HXN.out; omega)]
          obtain ⟨x, hx⟩ := getElem?_some_of_lt (l := ys) (k := k) (by have := HYN.out; omega)
          rw [drop_some hx, cmpL]
        have HR := Lib.hid hres
        clear hres
        go_wp2
        go_ret
        exact ⟨ret_int HR.out.symm, hB⟩
      · have hres : cmpL xs ys = 0 := by
          rw [HC.out, List.drop_of_length_le (l := xs) (by have := HXN.out; omega), List.drop_of_length_le (l := ys) (by have := HYN.out; omega), cmpL]
        have HR := Lib.hid hres
        clear hres
        go_wp2
        go_ret
        exact ⟨ret_int HR.out.symm, hB⟩
theorem r01Equal (A B : Option Addr) (n m c d : Nat) (xs ys : List Int) (w : World) (hn : n ≤ 100000000) (hm : m ≤ 100000000) (hx : Ints w A n xs) (hy : Ints w B m ys) :
    Calls Tryz.prog 43 #[.slice A n c, .slice B m d] w (RetB w (decide (xs = ys))) := by
  have HC := Lib.hid (r01Compare A B n m c d xs ys w hn hm hx hy)
  clear hx hy
  go_enter Tryz.func43, Tryz.ntmps43
  go_wp2_with (go_at_call 67; refine HC.out.mono ?_; rintro e w' ⟨rfl, hk⟩)
  go_ret
  exact ⟨ret_bool (cmpL_zero xs ys), hk⟩
end Go.Proofs.YtmlcdohldkgcdaaGreatDoor
namespace Go.Proofs.YtmlcdohldkgcdaaGreatDoor
open Go Go.RowKit
structure KeptBut (S : List Nat) (w w' : World) : Prop where
  os : w'.os = w.os
  tape : w'.tape = w.tape
  output : w'.output = w.output
  size : w.heap.size ≤ w'.heap.size
  block : ∀ i, i < w.heap.size → i ∉ S → w'.heap[i]? = w.heap[i]?
theorem KeptBut.refl (S : List Nat) (w : World) : KeptBut S w w := ⟨rfl, rfl, rfl, Nat.le_refl _, fun _ _ _ => rfl⟩
theorem KeptBut.trans {S : List Nat} {a b c : World} (h : KeptBut S a b) (k : KeptBut S b c) : KeptBut S a c :=
  ⟨k.os.trans h.os, k.tape.trans h.tape, k.output.trans h.output, Nat.le_trans h.size k.size, fun i hi hS => (k.block i (Nat.lt_of_lt_of_le hi h.size) hS).trans (h.block i hi hS)⟩
theorem Kept.but {w w' : World} (h : Kept w w') (S : List Nat) : KeptBut S w w' := ⟨h.os, h.tape, h.output, h.size, fun i hi _ => h.block i hi⟩
theorem KeptBut.of_grown {S : List Nat} {w w' : World} {b : Nat} (h : w.grownBy w' (some b)) (hb : b ∈ S) : KeptBut S w w' :=
  ⟨h.os, h.tape, h.output, h.size, fun i hi hS => h.block i hi (fun e => hS (by injection e with e; rw [e]; exact hb))⟩
theorem KeptBut.below {S : List Nat} {B : Nat} {w w' : World} (h : KeptBut S w w') (hS : ∀ b ∈ S, B ≤ b) (hB : B ≤ w.heap.size) : Below B w w' :=
  ⟨h.os, h.tape, h.output, h.size, fun i hi => h.block i (by omega) (fun hm => by have := hS i hm; omega)⟩
theorem KeptBut.setCell {S : List Nat} (w : World) {p : Addr} (hp : p.block ∈ S) (v : Value) : KeptBut S w (w.setCell p v) :=
  ⟨rfl, rfl, rfl, by simp [World.setCell], fun i _ hS => Below.heap_setCell w p v i (fun e => hS (by rw [e]; exact hp))⟩
theorem KeptBut.cell {S : List Nat} {w w' : World} (h : KeptBut S w w') {p : Addr} {v : Value} (hc : w.cell? p = some v) (hp : p.block ∉ S) : w'.cell? p = some v :=
  (World.cell?_of_block (h.block p.block (cell_lt hc) hp)).trans hc
theorem Ints.keptBut {S : List Nat} {w w' : World} {A : Option Addr} {n : Nat} {xs : List Int} (h : Ints w A n xs) (hk : KeptBut S w w') (hS : ∀ b ∈ S, ∀ off x, w.cell? ⟨b, off, none⟩ ≠ some (.int .i64 x)) : Ints w' A n xs :=
  ⟨h.1, fun hn => by
    obtain ⟨b, off, e, hc⟩ := h.2 hn
    refine ⟨b, off, e, fun i x hx j u hu => hk.cell (hc i x hx j u hu) (fun hb => ?_)⟩
    have hj : j = 0 := by
      have := lt_of_getElem?_some hu
      simp [encI] at this
      exact this
    subst hj
    simp only [encI, List.getElem?_cons_zero, Option.some.injEq] at hu
    subst hu
    exact hS b hb _ x (hc i x hx 0 _ rfl)⟩
structure MeasAt (w : World) (bn bs bc bf bl bm : Nat) (s : Sls) (st : MSt) : Prop where
  n : w.heap[bn]? = some (.cells #[.slice s.Ac s.nc s.cc, .slice s.Am s.nm s.cm, .slice s.Ae s.ne s.ce] 28 (0, 0))
  s : w.heap[bs]? = some (.cells #[.map (some bm)] 241 (0, 0))
  c : w.heap[bc]? = some (.cells #[.bool st.cyc] 4 (0, 0))
  f : w.heap[bf]? = some (.cells #[.func (.func 191) #[] #[.pointer (some ⟨bn, 0, none⟩), .pointer (some ⟨bs, 0, none⟩), .pointer (some ⟨bc, 0, none⟩), .pointer (some ⟨bf, 0, none⟩), .pointer (some ⟨bl, 0, none⟩)]] 169 (0, 0))
  l : w.heap[bl]? = some (.cells #[.bool st.long] 4 (0, 0))
  m : MapIs w bm (fun k : Int => Value.int .i64 k) (st.M.map fun p => (p.1, Value.int .i64 p.2))
  ne : bc ≠ bl
theorem MeasAt.kept {w w' : World} {bn bs bc bf bl bm : Nat} {s : Sls} {st : MSt} (h : MeasAt w bn bs bc bf bl bm s st) (hk : Kept w w') : MeasAt w' bn bs bc bf bl bm s st :=
  ⟨(hk.block _ (block_lt h.n)).trans h.n, (hk.block _ (block_lt h.s)).trans h.s, (hk.block _ (block_lt h.c)).trans h.c, (hk.block _ (block_lt h.f)).trans h.f, (hk.block _ (block_lt h.l)).trans h.l, h.m.kept hk, h.ne⟩
theorem MeasAt.noInt {w : World} {bn bs bc bf bl bm : Nat} {s : Sls} {st : MSt} (h : MeasAt w bn bs bc bf bl bm s st) : ∀ b ∈ [bc, bl, bm], ∀ off x, w.cell? ⟨b, off, none⟩ ≠ some (.int .i64 x) := by
  intro b hb off x hc
  simp only [List.mem_cons, List.not_mem_nil, or_false] at hb
  rcases hb with rfl | rfl | rfl
  · unfold World.cell? at hc
    simp [h.c] at hc
    cases off <;> simp at hc
  · unfold World.cell? at hc
    simp [h.l] at hc
    cases off <;> simp at hc
  · obtain ⟨es, cl, hm, _⟩ := h.m
    unfold World.cell? at hc
    simp [hm] at hc
theorem MeasAt.mapped {w w' : World} {bn bs bc bf bl bm : Nat} {s : Sls} {st : MSt} (h : MeasAt w bn bs bc bf bl bm s st) {M : List (Int × Int)} (hg : w.grownBy w' (some bm)) (hm : MapIs w' bm (fun k : Int => Value.int .i64 k) (M.map fun p => (p.1, Value.int .i64 p.2))) :
    MeasAt w' bn bs bc bf bl bm s { st with M := M } := by
  obtain ⟨es, cl, hmm, _⟩ := h.m
  have ne : ∀ {b : Nat} {cs : Array Value} {t : TypeId}, w.heap[b]? = some (.cells cs t (0, 0)) → some b ≠ some bm := fun hb e => by
    injection e with e
    subst e
    rw [hmm] at hb
    cases hb
  exact ⟨(hg.block _ (block_lt h.n) (ne h.n)).trans h.n, (hg.block _ (block_lt h.s) (ne h.s)).trans h.s, (hg.block _ (block_lt h.c) (ne h.c)).trans h.c, (hg.block _ (block_lt h.f) (ne h.f)).trans h.f, (hg.block _ (block_lt h.l) (ne h.l)).trans h.l, hm, h.ne⟩
theorem heap_setCell_same {w : World} {b : Nat} {u v : Value} {t : TypeId} (h : w.heap[b]? = some (.cells #[u] t (0, 0))) : (w.setCell ⟨b, 0, none⟩ v).heap[b]? = some (.cells #[v] t (0, 0)) := by
  simp [World.setCell, Array.getElem?_modify, h]
theorem MeasAt.setC {w : World} {bn bs bc bf bl bm : Nat} {s : Sls} {st : MSt} (h : MeasAt w bn bs bc bf bl bm s st) (b : Bool) : MeasAt (w.setCell ⟨bc, 0, none⟩ (.bool b)) bn bs bc bf bl bm s { st with cyc := b } := by
  have hsc : ∀ i, i ≠ bc → (w.setCell ⟨bc, 0, none⟩ (.bool b)).heap[i]? = w.heap[i]? := fun i hi => Below.heap_setCell w ⟨bc, 0, none⟩ _ i hi
  have d : ∀ {i : Nat} {cs : Array Value} {t : TypeId}, w.heap[i]? = some (.cells cs t (0, 0)) → t ≠ 4 → i ≠ bc := fun hi ht e => by
    subst e
    rw [h.c] at hi
    simp only [Option.some.injEq, Obj.cells.injEq] at hi
    exact ht hi.2.1.symm
  refine ⟨(hsc _ (d h.n (by decide))).trans h.n, (hsc _ (d h.s (by decide))).trans h.s, heap_setCell_same h.c, (hsc _ (d h.f (by decide))).trans h.f, (hsc _ (Ne.symm h.ne)).trans h.l, h.m.block (hsc _ (fun e => ?_)), h.ne⟩
  obtain ⟨es, cl, hmm, _⟩ := h.m
  subst e
  rw [h.c] at hmm
  cases hmm
theorem MeasAt.setL {w : World} {bn bs bc bf bl bm : Nat} {s : Sls} {st : MSt} (h : MeasAt w bn bs bc bf bl bm s st) (b : Bool) : MeasAt (w.setCell ⟨bl, 0, none⟩ (.bool b)) bn bs bc bf bl bm s { st with long := b } := by
  have hsc : ∀ i, i ≠ bl → (w.setCell ⟨bl, 0, none⟩ (.bool b)).heap[i]? = w.heap[i]? := fun i hi => Below.heap_setCell w ⟨bl, 0, none⟩ _ i hi
  have d : ∀ {i : Nat} {cs : Array Value} {t : TypeId}, w.heap[i]? = some (.cells cs t (0, 0)) → t ≠ 4 → i ≠ bl := fun hi ht e => by
    subst e
    rw [h.l] at hi
    simp only [Option.some.injEq, Obj.cells.injEq] at hi
    exact ht hi.2.1.symm
  refine ⟨(hsc _ (d h.n (by decide))).trans h.n, (hsc _ (d h.s (by decide))).trans h.s, (hsc _ h.ne).trans h.c, (hsc _ (d h.f (by decide))).trans h.f, heap_setCell_same h.l, h.m.block (hsc _ (fun e => ?_)), h.ne⟩
  obtain ⟨es, cl, hmm, _⟩ := h.m
  subst e
  rw [h.l] at hmm
  cases hmm
end Go.Proofs.YtmlcdohldkgcdaaGreatDoor
