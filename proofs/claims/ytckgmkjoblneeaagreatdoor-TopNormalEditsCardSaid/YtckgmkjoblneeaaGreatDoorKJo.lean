/- joining.concat; slices of slices of numbers. joining.Edges. joining.join and Join. -/
import Derived.Deep.RegionHeld3
import Derived.Test.YtckgmkjoblneeaaGreatDoorKApp
import Derived.Test.YtckgmkjoblneeaaGreatDoorKRgx
import Derived.Test.YtckgmkjoblneeaaGreatDoorKQcf
import Derived.Test.YtckgmkjoblneeaaGreatDoorKRfb
import Derived.Test.YtckgmkjoblneeaaGreatDoorKSq
namespace Go.Proofs.YtckgmkjoblneeaaGreatDoor
open Go Go.RowKit
theorem Tab.at_ {w : World} {B : Option Addr} {m : Nat} {T : List (List Int)} (h : Tab w B m T) {i : Nat} (hi : i < m) :
    ∃ b off X A k c, B = some ⟨b, off, none⟩ ∧ T[i]? = some X ∧ w.cell? ⟨b, off + i, none⟩ = some (.slice A k c) ∧ k ≤ c ∧ Ints w A k X := by
  obtain ⟨b, off, e, hc⟩ := h.2 (by omega)
  obtain ⟨X, hX⟩ := getElem?_some_of_lt (l := T) (k := i) (by rw [← h.1]; exact hi)
  obtain ⟨A, k, c, h1, h2, h3⟩ := hc i X hX
  exact ⟨b, off, X, A, k, c, e, hX, h1, h2, h3⟩
theorem Tab.three {w : World} {b : Nat} {A1 A2 A3 : Option Addr} {n1 n2 n3 c1 c2 c3 : Nat} {X1 X2 X3 : List Int} {t : TypeId} (h : w.heap[b]? = some (.cells #[.slice A1 n1 c1, .slice A2 n2 c2, .slice A3 n3 c3] t (0, 0)))
    (l1 : n1 ≤ c1) (l2 : n2 ≤ c2) (l3 : n3 ≤ c3) (i1 : Ints w A1 n1 X1) (i2 : Ints w A2 n2 X2) (i3 : Ints w A3 n3 X3) : Tab w (some ⟨b, 0, none⟩) 3 [X1, X2, X3] := by
  refine ⟨rfl, fun _ => ⟨b, 0, rfl, fun i X hX => ?_⟩⟩
  match i, hX with
  | 0, hX => exact ⟨A1, n1, c1, cell_of_block h rfl, l1, by rw [← Option.some.inj hX]; exact i1⟩
  | 1, hX => exact ⟨A2, n2, c2, cell_of_block h rfl, l2, by rw [← Option.some.inj hX]; exact i2⟩
  | 2, hX => exact ⟨A3, n3, c3, cell_of_block h rfl, l3, by rw [← Option.some.inj hX]; exact i3⟩
  | k + 3, hX => simp at hX
def dropA (A : Option Addr) (m k : Nat) : Option Addr := if m = k then A else A.map (·.add k)
theorem Ints.drop_ {w : World} {A : Option Addr} {n k m : Nat} {xs : List Int} (h : Ints w A n xs) (hk : k ≤ n) (hm : n ≤ m) : Ints w (dropA A m k) (n - k) (xs.drop k) := by
  refine ⟨by rw [List.length_drop]; have := h.1; omega, fun h0 => ?_⟩
  obtain ⟨b, off, e, hc⟩ := h.2 (by omega)
  refine ⟨b, off + k, ?_, fun i x hx j u hu => ?_⟩
  · unfold dropA
    rw [if_neg (by omega), e]
    simp only [Option.map_some, Addr.add]
    split <;> simp_all
  · rw [List.getElem?_drop] at hx
    have := hc (k + i) x hx j u hu
    rw [show off + k + i * 1 + j = off + (k + i) * 1 + j by omega]
    exact this
theorem Ints.front_ {w : World} {A : Option Addr} {n q : Nat} {xs : List Int} (h : Ints w A n xs) (hq : q ≤ n) : Ints w A q (xs.take q) :=
  ⟨by rw [List.length_take]; have := h.1; omega, fun h0 => by
    obtain ⟨b, off, e, hc⟩ := h.2 (by omega)
    refine ⟨b, off, e, fun i x hx j u hu => hc i x ?_ j u hu⟩
    rw [List.getElem?_take] at hx
    split at hx
    · exact hx
    · cases hx⟩
theorem und_ints : Tryz.prog.underlying 32 = some (.slice (Tryz.prog.elem 32)) := by kernel_rfl
theorem size_int (w : World) : (sizeOf (Tryz.prog.elem 32)).run Tryz.prog w = .ok 1 w := by kernel_rfl
theorem run_drop3 (A : Option Addr) (n c k : Nat) (hk : k ≤ n) (hc : n ≤ c) (w : World) :
    (Instr.slice 32 (.slice A n c) (some (.int .i64 (k : Int))) (some (.int .i64 (n : Int))) (some (.int .i64 (n : Int)))).run Tryz.prog w = .ok (.slice (dropA A n k) (n - k) (n - k)) w := by
  rw [run_slice_lhm w 32 A n c und_ints .i64 .i64 .i64 _ _ _ (by omega) (by omega) (by omega) (by omega), size_int]
  simp [Result.andThen, sliced, dropA]
theorem run_take3 (A : Option Addr) (n c k : Nat) (hk : k ≤ c) (w : World) :
    (Instr.slice 32 (.slice A n c) none (some (.int .i64 (k : Int))) (some (.int .i64 (k : Int)))).run Tryz.prog w = .ok (.slice A k k) w := by
  rw [run_slice_hm w 32 A n c und_ints .i64 .i64 _ _ (by omega) (by omega) (by omega), size_int]
  simp only [Result.andThen, sliced, Int.toNat_natCast, Nat.sub_zero]
  split
  · rfl
  · cases A with
    | none => rfl
    | some a => simp [Addr.add]
theorem run_drop1 (A : Option Addr) (n c k : Nat) (hk : k ≤ n) (w : World) :
    (Instr.slice 32 (.slice A n c) (some (.int .i64 (k : Int))) none none).run Tryz.prog w = .ok (.slice (dropA A c k) (n - k) (c - k)) w := by
  rw [run_slice_l w 32 A n c und_ints .i64 _ (by omega) (by omega), size_int]
  simp [Result.andThen, sliced, dropA]
def RetNew (w : World) (xs : List Int) (e : Ending) (w' : World) : Prop := ∃ A n c, e = .returned (.slice A n c) ∧ n ≤ c ∧ Ints w' A n xs ∧ (∀ a, A = some a → w.heap.size ≤ a.block) ∧ Kept w w'
theorem Ints.sets {w : World} {b : Nat} {A : Option Addr} {n : Nat} {xs : List Int} (h : Ints w A n xs) (hne : ∀ a, A = some a → a.block ≠ b) (i : Nat) (v : Value) : Ints (w.setCell ⟨b, i, none⟩ v) A n xs :=
  ⟨h.1, fun hn => by
    obtain ⟨b1, o1, e, hc⟩ := h.2 hn
    refine ⟨b1, o1, e, fun i2 x hx j u hu => ?_⟩
    have h1 := hc i2 x hx j u hu
    have hb := hne _ e
    simp only at hb
    rw [← h1]
    refine World.cell?_of_block ?_
    simp only [World.setCell]
    rw [Array.getElem?_modify, if_neg (fun e2 => hb e2.symm)]⟩
theorem flatten_le : ∀ (T : List (List Int)) (k : Nat), (T.take k).flatten.length ≤ T.flatten.length
  | [], k => by simp
  | X :: T, 0 => by simp
  | X :: T, k + 1 => by
    have := flatten_le T k
    simp only [List.take_succ_cons, List.flatten_cons, List.length_append]
    omega
set_option maxRecDepth 100000 in
set_option maxHeartbeats 2000000 in
theorem concat_any (B : Option Addr) (m d : Nat) (T : List (List Int)) (w : World) (hm : m ≤ 1000) (hlen : T.flatten.length ≤ 100000000) (hT : Tab w B m T) : Calls Tryz.prog 36 #[.slice B m d] w (RetNew w T.flatten) := by
  have HT := Lib.hid hT
  have HTN := Lib.hid hT.1
  have HLEN := Lib.hid hlen
  clear hT hlen
  go_enter Tryz.func36, Tryz.ntmps36
  go_wp2_with fail
  go_loopw [3, 8] (fun p i wr => ∃ k : Nat, k ≤ m ∧ i = .int .i64 k ∧ OwnI wr w.heap.size p (T.take k).flatten ∧ Kept w wr) (fun _ i _ => m - (intOf i).toNat)
  case atStart => exact ⟨0, Nat.zero_le _, rfl, (World.ownsRow_nil _ _ _ _ : OwnI w w.heap.size (.slice none 0 0) []), Kept.refl _⟩
  case round =>
    obtain ⟨k, hk, rfl, hown, hkw⟩ := hrel
    have HO := Lib.hid hown
    have HKW := Lib.hid hkw
    clear hown
    by_cases hlt : k < m
    · obtain ⟨b, off, X, A1, n1, c1, rfl, hX, c0, le1, i1⟩ := (HT.out.kept hkw).at_ hlt
      have HTK := Lib.hid (show (T.take (k + 1)).flatten = (T.take k).flatten ++ X by rw [take_succ_some hX]; simp)
      have HI1 := Lib.hid i1
      have HL2 := Lib.hid (show (T.take k).flatten.length + X.length ≤ 1000000000 by
        have h1 := flatten_le T (k + 1)
        rw [HTK.out, List.length_append] at h1
        have := HLEN.out
        omega)
      clear hX hkw i1
      go_wp2_with (at_builtin; refine app_ints rfl _ _ rfl w.heap.size _ _ rfl (by exact HO.out) _ _ _ X rfl (by exact HI1.out) (by exact HL2.out) (by exact HKW.out.size) ?_; intro v7 w7 hown7 hgrow7 hat7)
      have HO7 := Lib.hid hown7
      have hk7 : Kept w w7 := HKW.out.grown hgrow7 HKW.out.size (fun q e => (World.ownsRow.lt HO.out q e).1)
      clear hown7 hgrow7 hat7
      go_roundw
      case rel => exact ⟨k + 1, by omega, by go_num, by rw [HTK.out]; exact HO7.out, hk7⟩
      case measure => simp [intOf]; omega
    · have hkm : k = m := by omega
      have hall : (T.take k).flatten = T.flatten := by rw [List.take_of_length_le (by have := HTN.out; omega)]
      have hown3 := HO.out
      rw [hall] at hown3
      obtain ⟨A3, c3, rfl, hle, hI⟩ := OwnI.sl hown3
      have HFR := Lib.hid (fun a (h : A3 = some a) => ((OwnI.inHeap hown3).2 a h).2)
      have HI := Lib.hid hI
      have HLE := Lib.hid hle
      obtain ⟨m1, hm1⟩ : ∃ m1 : Nat, m1 = T.flatten.length := ⟨_, rfl⟩
      rw [← hm1] at HI HLE ⊢
      clear hown3 hI hle hm1 hall HO
      subst hkm
      go_wp2_with fail
      go_ret
      exact ⟨A3, m1, c3, rfl, HLE.out, HI.out, HFR.out, HKW.out⟩
end Go.Proofs.YtckgmkjoblneeaaGreatDoor
namespace Go.Proofs.YtckgmkjoblneeaaGreatDoor
open Go Go.RowKit
theorem bndI_last {n : Nrm} {form : Int} {t : List Int} {k : Nat} {x : Int} (hl : (bndI n form t).length = k + 1) (hx : (bndI n form t)[k]? = some x) : x = (jFrom n form t : Nat) := by
  unfold bndI at hl hx
  rw [List.length_map] at hl
  rw [List.getElem?_map] at hx
  unfold jFrom lastBd
  cases hb : (bnds (boundB n form) 0 t)[k]? with
  | none => rw [hb] at hx; cases hx
  | some y =>
    rw [hb] at hx
    injection hx with hx
    rw [List.getLastD_eq_getLast?, List.getLast?_eq_getElem?, hl, Nat.add_sub_cancel, hb]
    exact hx.symm
theorem bndI_first {n : Nrm} {form : Int} {t : List Int} {x : Int} (hx : (bndI n form t)[0]? = some x) : x = (jTo n form t : Nat) := by
  unfold bndI at hx
  rw [List.getElem?_map] at hx
  unfold jTo firstBd
  cases hb : bnds (boundB n form) 0 t with
  | nil => rw [hb] at hx; simp at hx
  | cons y r =>
    rw [hb] at hx
    simp only [List.getElem?_cons_zero, Option.map_some, Option.some.injEq] at hx
    exact hx.symm
theorem bndI_none {n : Nrm} {form : Int} {t : List Int} (h : (bndI n form t).length = 0) : jFrom n form t = 0 ∧ jTo n form t = t.length := by
  unfold bndI at h
  rw [List.length_map] at h
  have e := List.length_eq_zero_iff.1 h
  unfold jFrom jTo lastBd firstBd
  rw [e]
  exact ⟨rfl, rfl⟩
theorem bndI_length (n : Nrm) (form : Int) (t : List Int) : (bndI n form t).length ≤ t.length := by
  unfold bndI
  rw [List.length_map]
  exact bnds_length _ _ _
set_option maxRecDepth 100000 in
set_option maxHeartbeats 4000000 in
theorem edges_any (s : Sls) (n : Nrm) (form : Int) (A : Option Addr) (na ca : Nat) (a : List Int) (B : Option Addr) (nb cb : Nat) (b : List Int) (w : World) (hN : NormAt w s n) (hG : Glob w) (hna : na ≤ 100000) (hnb : nb ≤ 100000) (hA : Ints w A na a) (hB : Ints w B nb b) :
    Calls Tryz.prog 35 #[s.val, .int .i64 form, .slice A na ca, .slice B nb cb] w (fun e w' => e = .returned (.tuple #[.int .i64 (jFrom n form a : Nat), .int .i64 (jTo n form b : Nat)]) ∧ Kept w w') := by
  have hk1 := Kept.alloc (Kept.refl w) (Obj.cells #[Value.slice s.Ac s.nc s.cc, Value.slice s.Am s.nm s.cm, Value.slice s.Ae s.ne s.ce] 28)
  have hbx := box_cell w #[Value.slice s.Ac s.nc s.cc, Value.slice s.Am s.nm s.cm, Value.slice s.Ae s.ne s.ce] 28
  have HX0 := Lib.hid (hbx 0)
  have HX1 := Lib.hid (hbx 1)
  have HX2 := Lib.hid (hbx 2)
  have HB1 := Lib.hid (bounds_any s n form A na ca a _ (hN.kept hk1) (hG.kept hk1) hna (hA.kept hk1))
  have HB2 := Lib.hid (fun w' (hk : Kept w w') => bounds_any s n form B nb cb b w' (hN.kept hk) (hG.kept hk) hnb (hB.kept hk))
  have HK1 := Lib.hid hk1
  have HL1 := Lib.hid (fun k x (h : (bndI n form a).length = k + 1) => bndI_last (x := x) h)
  have HL2 := Lib.hid (fun x => bndI_first (n := n) (form := form) (t := b) (x := x))
  have HN1 := Lib.hid (fun h : (bndI n form a).length = 0 => (bndI_none h).1)
  have HN2 := Lib.hid (fun h : (bndI n form b).length = 0 => (bndI_none h).2)
  have HLA := Lib.hid (bndI_length n form a)
  have HLB := Lib.hid (bndI_length n form b)
  have HAN := Lib.hid hA.1
  have HBN := Lib.hid hB.1
  clear hN hG hA hB hk1 hbx
  generalize jFrom n form a = fa at *
  generalize jTo n form b = tb at *
  generalize bndI n form a = X at *
  generalize bndI n form b = Y at *
  unfold Sls.val at *
  go_enter Tryz.func35, Tryz.ntmps35
  have p0 := HX0.out
  have p1 := HX1.out
  have p2 := HX2.out
  simp only [List.getElem?_toArray, List.getElem?_cons_zero, List.getElem?_cons_succ] at p0 p1 p2
  go_wp2_with fail
  refine HB1.out.mono ?_
  rintro e w1 ⟨A1, n1, c1, rfl, le1, i1, k1⟩
  have I1 := Lib.hid i1
  have K1 := Lib.hid (Kept.trans HK1.out k1)
  have hn1 : n1 ≤ 100000 := by rw [i1.1]; have := HLA.out; have := HAN.out; omega
  have q0 := Kept.cell k1 p0
  have q1 := Kept.cell k1 p1
  have q2 := Kept.cell k1 p2
  clear i1 k1 p0 p1 p2
  cases n1 with
  | zero =>
    have hf := HN1.out I1.out.1.symm
    have HF := Lib.hid hf
    clear hf
    go_wp2_with fail
    refine (HB2.out _ K1.out).mono ?_
    rintro e w2 ⟨A2, n2, c2, rfl, le2, i2, k2⟩
    have I2 := Lib.hid i2
    have K2 := Lib.hid (Kept.trans K1.out k2)
    have hn2 : n2 ≤ 100000 := by rw [i2.1]; have := HLB.out; have := HBN.out; omega
    clear i2 k2 q0 q1 q2
    cases n2 with
    | zero =>
      have HT := Lib.hid (HN2.out I2.out.1.symm)
      go_wp2_with fail
      go_ret2
      exact ⟨by rw [HF.out, HT.out, ← HBN.out]; rfl, K2.out⟩
    | succ m2 =>
      obtain ⟨b2, o2, y, rfl, hy, d0⟩ := int_at I2.out (i := 0) (by omega)
      have HT := Lib.hid (HL2.out y hy)
      simp only [Nat.add_zero] at d0
      clear hy
      go_wp2_with fail
      go_ret2
      exact ⟨by rw [HF.out, HT.out]; rfl, K2.out⟩
  | succ m1 =>
    obtain ⟨b1, o1, x, rfl, hx, c0⟩ := int_at I1.out (i := m1) (by omega)
    have HF := Lib.hid (HL1.out m1 x I1.out.1.symm hx)
    clear hx
    go_wp2_with fail
    refine (HB2.out _ K1.out).mono ?_
    rintro e w2 ⟨A2, n2, c2, rfl, le2, i2, k2⟩
    have I2 := Lib.hid i2
    have K2 := Lib.hid (Kept.trans K1.out k2)
    have hn2 : n2 ≤ 100000 := by rw [i2.1]; have := HLB.out; have := HBN.out; omega
    clear i2 k2 q0 q1 q2
    cases n2 with
    | zero =>
      have HT := Lib.hid (HN2.out I2.out.1.symm)
      go_wp2_with fail
      go_ret2
      exact ⟨by rw [HF.out, HT.out, ← HBN.out]; rfl, K2.out⟩
    | succ m2 =>
      obtain ⟨b2, o2, y, rfl, hy, d0⟩ := int_at I2.out (i := 0) (by omega)
      have HT := Lib.hid (HL2.out y hy)
      simp only [Nat.add_zero] at d0
      clear hy
      go_wp2_with fail
      go_ret2
      exact ⟨by rw [HF.out, HT.out]; rfl, K2.out⟩
end Go.Proofs.YtckgmkjoblneeaaGreatDoor
namespace Go.Proofs.YtckgmkjoblneeaaGreatDoor
open Go Go.RowKit
def RetJoin (w : World) (n : Nrm) (form : Int) (a m b : List Int) (e : Ending) (w' : World) : Prop := ∃ Q k c, e = .returned (.tuple #[.slice Q k c, .agg #[.int .i64 (jFrom n form a : Nat), .int .i64 ((jFrom n form a + (jMid n form a m b).length : Nat) : Int)]]) ∧ k ≤ c ∧ Ints w' Q k (joinM n form a m b) ∧ (∀ x, Q = some x → w.heap.size ≤ x.block) ∧ Kept w w'
theorem flat_three (X Y Z : List Int) : [X, Y, Z].flatten = X ++ (Y ++ Z) := by simp
theorem cells2_set {w : World} {b : Nat} {v0 v1 : Value} {t : TypeId} (h : w.heap[b]? = some (.cells #[v0, v1] t (0, 0))) (a0 a1 : Value) :
    ((w.setCell ⟨b, 0, none⟩ a0).setCell ⟨b, 1, none⟩ a1).heap[b]? = some (.cells #[a0, a1] t (0, 0)) := by
  simp [World.setCell, Array.getElem?_modify, h]
set_option maxRecDepth 100000 in
set_option maxHeartbeats 8000000 in
theorem join_all (s : Sls) (n : Nrm) (form : Int) (A : Option Addr) (na ca : Nat) (a : List Int) (M : Option Addr) (nm cm : Nat) (m : List Int) (B : Option Addr) (nb cb : Nat) (b : List Int) (w : World) (hN : NormAt w s n) (hG : Glob w)
    (hna : na ≤ 100000) (hnm : nm ≤ 100000) (hnb : nb ≤ 100000) (lea : na ≤ ca) (lem : nm ≤ cm) (leb : nb ≤ cb) (hA : Ints w A na a) (hM : Ints w M nm m) (hB : Ints w B nb b) :
    Calls Tryz.prog 21 #[s.val, .int .i64 form, .slice A na ca, .slice M nm cm, .slice B nb cb] w (RetJoin w n form a m b) := by
  have hk1 := Kept.alloc (Kept.refl w) (Obj.cells #[Value.slice s.Ac s.nc s.cc, Value.slice s.Am s.nm s.cm, Value.slice s.Ae s.ne s.ce] 28)
  have hk2 := Kept.alloc hk1 (Obj.cells #[Value.int IntKind.i64 0, Value.int IntKind.i64 0] 48)
  have hx := alloc_lift (o := (Obj.cells #[Value.int IntKind.i64 0, Value.int IntKind.i64 0] 48)) (box_block w (Obj.cells #[Value.slice s.Ac s.nc s.cc, Value.slice s.Am s.nm s.cm, Value.slice s.Ae s.ne s.ce] 28))
  have hy := box_block (w.alloc (Obj.cells #[Value.slice s.Ac s.nc s.cc, Value.slice s.Am s.nm s.cm, Value.slice s.Ae s.ne s.ce] 28)) (Obj.cells #[Value.int IntKind.i64 0, Value.int IntKind.i64 0] 48)
  rw [World.size_alloc] at hy
  have HX := Lib.hid hx
  have HY := Lib.hid hy
  have HK2 := Lib.hid hk2
  have HE := Lib.hid (edges_any s n form A na ca a B nb cb b _ (hN.kept hk2) (hG.kept hk2) hna hnb (hA.kept hk2) (hB.kept hk2))
  have HF := Lib.hid (fun A' n' c' xs' w' (hk : Kept w w') (hn' : n' ≤ 500000) (hZ : Ints w' A' n' xs') => form_any s n form A' n' c' xs' w' (hN.kept hk) (hG.kept hk) hn' hZ)
  have hfa : jFrom n form a ≤ na := by rw [hA.1]; exact jFrom_le n form a
  have htb : jTo n form b ≤ nb := by rw [hB.1]; exact jTo_le n form b
  have HA1 := Lib.hid (fun w' (hk : Kept w w') => Ints.drop_ (hA.kept hk) hfa (Nat.le_refl _))
  have HB1 := Lib.hid (fun w' (hk : Kept w w') => Ints.front_ (hB.kept hk) htb)
  have HA2 := Lib.hid (fun w' (hk : Kept w w') => Ints.front_ (hA.kept hk) hfa)
  have HB2 := Lib.hid (fun w' (hk : Kept w w') => Ints.drop_ (hB.kept hk) htb (Nat.le_refl _))
  have HM := Lib.hid hM
  have HML := Lib.hid (jMid_length n form a m b)
  have HJL := Lib.hid (joinM_length n form a m b)
  have HJE := Lib.hid (joinM_eq n form a m b)
  have HME := Lib.hid (show formOf n form (a.drop (jFrom n form a) ++ (m ++ b.take (jTo n form b))) = jMid n form a m b by unfold jMid; rw [List.append_assoc])
  have HAN := Lib.hid hA.1
  have HMN := Lib.hid hM.1
  have HBN := Lib.hid hB.1
  have HSL := Lib.hid (show (a.drop (jFrom n form a) ++ (m ++ b.take (jTo n form b))).length ≤ 300000 by
    have h1 := hA.1; have h2 := hM.1; have h3 := hB.1
    simp only [List.length_append, List.length_drop, List.length_take]; omega)
  have sl1 := run_drop3 A na ca _ hfa lea
  have sl2 := run_take3 B nb cb _ (Nat.le_trans htb leb)
  have sl3 := run_take3 A na ca _ (Nat.le_trans hfa lea)
  have sl4 := run_drop3 B nb cb _ htb leb
  unfold RetJoin
  clear hN hG hk1 hk2 hx hy hA hM hB
  generalize jMid n form a m b = X at *
  generalize joinM n form a m b = J at *
  generalize jFrom n form a = f at *
  generalize jTo n form b = t at *
  unfold Sls.val at *
  go_enter Tryz.func21, Tryz.ntmps21
  have p0 := cell_of_block (i := 0) HX.out rfl
  have p1 := cell_of_block (i := 1) HX.out rfl
  have p2 := cell_of_block (i := 2) HX.out rfl
  simp only [s4_, s5_, s6_] at p0 p1 p2
  go_wp2_with fail
  refine HE.out.mono ?_
  rintro e w1 ⟨rfl, k1⟩
  have KW1 := Lib.hid (Kept.trans HK2.out k1)
  have q0 := Kept.cell k1 p0
  have q1 := Kept.cell k1 p1
  have q2 := Kept.cell k1 p2
  have HY1 := Lib.hid ((k1.block _ (block_lt HY.out)).trans HY.out)
  obtain ⟨bb, hbb⟩ : ∃ bb : Nat, bb = w.heap.size := ⟨_, rfl⟩
  have HBB := Lib.hid hbb
  rw [← hbb] at q0 q1 q2 HY1 ⊢
  clear hbb p0 p1 p2 k1 HE
  have HQ0 := Lib.hid q0
  have HQ1 := Lib.hid q1
  have HQ2 := Lib.hid q2
  go_wp2_with fail
  refine wp_region_held_drew (S := (fun w' => w'.cell? ⟨bb, 0, none⟩ = some (.slice s.Ac s.nc s.cc) ∧ w'.cell? ⟨bb, 1, none⟩ = some (.slice s.Am s.nm s.cm) ∧ w'.cell? ⟨bb, 2, none⟩ = some (.slice s.Ae s.ne s.ce))) (by kernel_rfl) ⟨q0, q1, q2⟩ (fun hHeld => ?_)
  refine tk_ 0 ?_ rfl ?_; refine tk_ 1 ?_ rfl ?_; refine tk_ 2 ?_ rfl ?_; refine tk_ 3 ?_ rfl ?_; refine tk_ 4 ?_ rfl ?_; refine tk_ 5 ?_ rfl ?_; refine tk_ 6 ?_ rfl ?_; refine tk_ 7 ?_ rfl ?_; refine tk_ 8 ?_ rfl ?_; refine tk_ 9 ?_ rfl ?_; refine tk_ 10 ?_ rfl ?_; refine tk_ 11 ?_ rfl ?_; refine tk_ 12 ?_ rfl ?_; refine tk_ 13 ?_ rfl ?_
  refine rd_ 14 rfl (fun K hK => ?_)
  go_simp
  (have ka := Kept.alloc (Kept.drew (Kept.refl w1)) (Obj.cells #[Value.slice (dropA A na f) (na - f) (na - f), Value.slice M nm cm, Value.slice B t t] 32); have KA := Lib.hid ka; clear ka)
  go_wp2_with fail
  refine hK.out _ _ ⟨Kept.cell KA.out HQ0.out, Kept.cell KA.out HQ1.out, Kept.cell KA.out HQ2.out⟩ (fun hHeld => ?_)
  clear hK K
  (try simp only [Act.put, s1_, s2_, s3_, s4_, s5_, s6_])
  refine rd_ 15 rfl (fun K hK => ?_)
  go_simp
  (refine (concat_any _ 3 3 [a.drop f, m, b.take t] _ (by omega) (by rw [flat_three]; have := HSL.out; omega) (Tab.three (alloc_at rfl) (Nat.le_refl _) lem (Nat.le_refl _) (HA1.out _ (Kept.trans KW1.out KA.out)) (HM.out.kept (Kept.trans KW1.out KA.out)) (HB1.out _ (Kept.trans KW1.out KA.out)))).mono ?_; rintro e w2 ⟨A2, n2, c2, rfl, le2, i2, _, k2⟩; rw [flat_three] at i2; have I2 := Lib.hid i2; have hn2 : n2 ≤ 500000 := (by rw [i2.1]; have := HSL.out; omega); have K2 := Lib.hid (Kept.trans KA.out k2); clear i2 k2)
  go_wp2_with fail
  refine hK.out _ _ ⟨Kept.cell K2.out HQ0.out, Kept.cell K2.out HQ1.out, Kept.cell K2.out HQ2.out⟩ (fun hHeld => ?_)
  clear hK K
  (try simp only [Act.put, s1_, s2_, s3_, s4_, s5_, s6_])
  refine rd_ 16 rfl (fun K hK => ?_)
  go_simp
  (refine (HF.out A2 n2 c2 _ w2 (Kept.trans KW1.out K2.out) hn2 I2.out).mono ?_; rw [HME.out]; rintro e w3 ⟨A3, n3, c3, rfl, le3, i3, k3⟩; have I3 := Lib.hid i3; have HN3 := Lib.hid i3.1; have hn3 : n3 ≤ 20000000 := (by rw [i3.1]; have := HML.out; have := HAN.out; have := HMN.out; have := HBN.out; omega); have K3 := Lib.hid (Kept.trans K2.out k3); clear i3 k3)
  go_wp2_with fail
  refine hK.out _ _ ⟨Kept.cell K3.out HQ0.out, Kept.cell K3.out HQ1.out, Kept.cell K3.out HQ2.out⟩ (fun hHeld => ?_)
  clear hK K
  (try simp only [Act.put, s1_, s2_, s3_, s4_, s5_, s6_])
  refine tk_ 17 ?_ rfl ?_
  refine wpAnyH_done (by kernel_rfl) ?_ _
  go_wp2_with fail
  refine wp_region_held_drew (S := (fun _ => True)) (by kernel_rfl) trivial (fun hHeld => ?_)
  refine tk_ 0 ?_ rfl ?_; refine tk_ 1 ?_ rfl ?_; refine tk_ 2 ?_ rfl ?_; refine tk_ 3 ?_ rfl ?_; refine tk_ 4 ?_ rfl ?_; refine tk_ 5 ?_ rfl ?_; refine tk_ 6 ?_ rfl ?_; refine tk_ 7 ?_ rfl ?_; refine tk_ 8 ?_ rfl ?_; refine tk_ 9 ?_ rfl ?_; refine tk_ 10 ?_ rfl ?_; refine tk_ 11 ?_ rfl ?_
  refine rd_ 12 rfl (fun K hK => ?_)
  go_simp
  (have ka := Kept.alloc (Kept.drew (Kept.refl w3)) (Obj.cells #[Value.slice A f f, Value.slice A3 n3 c3, Value.slice (dropA B nb t) (nb - t) (nb - t)] 32); have KB := Lib.hid ka; have KWB := Lib.hid (Kept.trans KW1.out (Kept.trans K3.out ka)); clear ka)
  go_wp2_with fail
  refine hK.out _ _ trivial (fun hHeld => ?_)
  clear hK K
  (try simp only [Act.put, s1_, s2_, s3_, s4_, s5_, s6_])
  refine rd_ 13 rfl (fun K hK => ?_)
  go_simp
  (refine (concat_any _ 3 3 [a.take f, X, b.drop t] _ (by omega) (by rw [flat_three, ← HJE.out]; have := HJL.out; have := HAN.out; have := HMN.out; have := HBN.out; omega) (Tab.three (alloc_at rfl) (Nat.le_refl _) le3 (Nat.le_refl _) (HA2.out _ KWB.out) (I3.out.kept KB.out) (HB2.out _ KWB.out))).mono ?_; rw [flat_three, ← HJE.out]; rintro e w4 ⟨A4, n4, c4, rfl, le4, i4, fr4, k4⟩; have FR4 := Lib.hid fr4; clear fr4; have I4 := Lib.hid i4; have HN4 := Lib.hid i4.1; have K4 := Lib.hid (Kept.trans K3.out (Kept.trans KB.out k4)); clear i4 k4)
  go_wp2_with fail
  refine hK.out _ _ trivial (fun hHeld => ?_)
  clear hK K
  (try simp only [Act.put, s1_, s2_, s3_, s4_, s5_, s6_])
  refine tk_ 14 ?_ rfl ?_
  refine wpAnyH_done (by kernel_rfl) ?_ _
  have hy4 := (K4.out.block _ (block_lt HY1.out)).trans HY1.out
  have f0 := frozen_of_block (i := 0) hy4
  have f1 := frozen_of_block (i := 1) hy4
  have d0 := cell_of_block (i := 0) hy4 rfl
  have d1 := cell_of_block (i := 1) hy4 rfl
  simp only [s4_, s5_, s6_] at d0 d1
  have HY4 := Lib.hid hy4
  clear hy4
  have hF := cells2_set HY4.out (.int .i64 (f : Int)) (.int .i64 ((f : Int) + (n3 : Int)))
  have g0 := cell_of_block (i := 0) hF rfl
  have g1 := cell_of_block (i := 1) hF rfl
  simp only [s4_, s5_, s6_] at g0 g1
  have G0 := Lib.hid g0
  have G1 := Lib.hid g1
  clear hF g0 g1
  go_wp2_with fail
  have g0 := G0.out
  have g1 := G1.out
  clear d0 d1 f0 f1
  refine bodyPost_ret (v := .tuple #[.slice A4 n4 c4, .agg #[.int .i64 (f : Int), .int .i64 ((f : Int) + (n3 : Int))]]) (by simp [results, Tryz.results21, go_sem, g0, g1]) rfl ?_
  have hbl : bb + 1 < w3.heap.size := Nat.lt_of_lt_of_le (block_lt HY1.out) K3.out.size
  have hne : ∀ a, A4 = some a → a.block ≠ bb + 1 := fun a h => by have := FR4.out a h; simp at this; omega
  have hkf := Kept.setCell (Kept.setCell (Kept.trans KW1.out K4.out) (p := ⟨bb + 1, 0, none⟩) (by rw [HBB.out]; exact Nat.le_succ _) (.int .i64 (f : Int))) (p := ⟨bb + 1, 1, none⟩) (by rw [HBB.out]; exact Nat.le_succ _) (.int .i64 ((f : Int) + (n3 : Int)))
  have hsz := (Kept.trans KW1.out K3.out).size
  exact ⟨A4, n4, c4, by rw [← HN3.out, Int.natCast_add], le4, Ints.sets (Ints.sets I4.out hne 0 _) hne 1 _, fun x hx => by have := FR4.out x hx; simp at this; omega, hkf⟩
end Go.Proofs.YtckgmkjoblneeaaGreatDoor
