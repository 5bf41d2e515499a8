/- References: the pairs of layer 22. References: the quick check of layer 24, element by element. References: the set of second elements (layer 22), boundaries and the quick check of a number (layer 24). -/
import Derived.Deep.RegionHeld3
import Derived.Test.YtomgchfjachedaaGreatDoorKSq
import Derived.Test.YtomgchfjachedaaGreatDoorKRfy
import Derived.Test.YtomgchfjachedaaGreatDoorKPl60
import Derived.Test.YtomgchfjachedaaGreatDoorKFar
import Derived.Test.YtomgchfjachedaaGreatDoorKRfz
import Derived.Test.YtomgchfjachedaaGreatDoorKRfx
import Derived.Test.YtomgchfjachedaaGreatDoorKQca
import Derived.Test.YtomgchfjachedaaGreatDoorKRefA
namespace Go.Proofs.YtomgchfjachedaaGreatDoor
open Go Go.RowKit
theorem list_two {l : List Int} (h : l.length = 2) : ∃ a b, l = [a, b] := by
  match l, h with
  | [a, b], _ => exact ⟨a, b, rfl⟩
def RetSomeB (w : World) (e : Ending) (w' : World) : Prop := ∃ bb : Bool, e = .returned (.bool bb) ∧ Kept w w'
theorem ins_perm (T : List Tri) (x : Tri) (j : Nat) : (T.take j ++ [x] ++ T.drop j).Perm (T ++ [x]) := by
  rw [List.append_assoc, List.singleton_append]
  refine List.perm_middle.trans ?_
  rw [List.take_append_drop]
  exact (List.perm_append_singleton x T).symm
def encT (t : Tri) : List Value := [.int .i64 t.1, .int .i64 t.2.1, .int .i64 t.2.2]
abbrev Tris (w : World) (A : Option Addr) (n : Nat) (T : List Tri) : Prop := Sl 3 encT w A n T
abbrev OwnT (w : World) (base : Nat) (v : Value) (T : List Tri) : Prop := w.ownsRow base 111 3 v T.length (T.flatMap encT)
def RetTris (w : World) (n : Nrm) (e : Ending) (w' : World) : Prop := ∃ A m c T, e = .returned (.slice A m c) ∧ m ≤ c ∧ m ≤ 1000 ∧ Tris w' A m T ∧ T.Perm (trL n n.decomp) ∧ (∀ a, A = some a → w.heap.size ≤ a.block) ∧ Kept w w'
theorem info_tri : (Tryz.prog.info? 111).map (fun i => (i.zero, i.size, i.bytes)) = some (some (.agg #[.int .i64 0, .int .i64 0, .int .i64 0]), 3, 24) := by kernel_rfl
theorem own_base {w : World} {base base' : Nat} {e : TypeId} {size n : Nat} {v : Value} {xs : List Value} (h : w.ownsRow base e size v n xs) (hb : base' ≤ base) : w.ownsRow base' e size v n xs :=
  ⟨h.1, h.2.imp id (fun ⟨g, cap, cur, e1, e2, e3⟩ => ⟨g, cap, cur, e1, Nat.le_trans hb e2, e3⟩)⟩
theorem tri_at {w : World} {A : Option Addr} {n : Nat} {T : List Tri} (h : Tris w A n T) {i : Nat} (hi : i < n) :
    ∃ b off t, A = some ⟨b, off, none⟩ ∧ T[i]? = some t ∧ w.cell? ⟨b, off + i * 3, none⟩ = some (.int .i64 t.1) ∧ w.cell? ⟨b, off + i * 3 + 1, none⟩ = some (.int .i64 t.2.1) ∧ w.cell? ⟨b, off + i * 3 + 2, none⟩ = some (.int .i64 t.2.2) := by
  obtain ⟨b, off, e, hc⟩ := h.2 (by omega)
  obtain ⟨x, hx⟩ := getElem?_some_of_lt (l := T) (k := i) (by rw [← h.1]; exact hi)
  exact ⟨b, off, x, e, hx, by simpa using hc i x hx 0 _ rfl, hc i x hx 1 _ rfl, hc i x hx 2 _ rfl⟩
theorem tris_news {w : World} {p : Addr} {m : Nat} {T : List Tri} (h : Tris w (some p) m T) : ∀ j u, (T.flatMap encT)[j]? = some u → w.cell? (p.add j) = some u := by
  intro j u hu
  have hj : j < T.length * 3 := by have := lt_of_getElem?_some hu; rwa [flat_length (k := 3) (fun _ => rfl)] at this
  obtain ⟨t, ht⟩ := getElem?_some_of_lt (l := T) (k := j / 3) (by omega)
  obtain ⟨v, hv⟩ : ∃ v, (encT t)[j % 3]? = some v := getElem?_some_of_lt (by simp [encT]; omega)
  have hf := flat_get (k := 3) (f := encT) (fun _ => rfl) T (j / 3) (j % 3) t v ht hv
  rw [show j / 3 * 3 + j % 3 = j by omega] at hf
  rw [hf] at hu
  injection hu with hu
  subst hu
  obtain ⟨b, off, e, hc⟩ := h.2 (by have := h.1; omega)
  have hcc := hc (j / 3) t ht (j % 3) v hv
  injection e with e
  subst e
  have ha : (⟨b, off, none⟩ : Addr).add j = ⟨b, off + j, none⟩ := by unfold Addr.add; split <;> simp_all
  rw [ha, show off + j = off + j / 3 * 3 + j % 3 by omega]
  exact hcc
theorem run_append_noneT (w : World) (base : Nat) (v : Value) (xs : List Tri) (hown : OwnT w base v xs) (c : Nat) (ty : TypeId) :
    (Builtin.append_ #[109, 109] ty #[v, .slice none 0 c]).run Tryz.prog w = .ok v w := by
  obtain ⟨i, hi, _, _, _⟩ := info_parts1 info_tri
  rcases hown.2 with ⟨rfl, h0⟩ | ⟨g, cap, cur, rfl, _, _, hnc, _⟩
  · simp [Builtin.append_, run_underlying Tryz.underlying109, sizeOf, typeInfo, hi, Builtin.lenOf, Builtin.firstCells]
  · simp [Builtin.append_, run_underlying Tryz.underlying109, sizeOf, typeInfo, hi, Builtin.lenOf, Builtin.firstCells, hnc, storeCells]
theorem app_tris {w : World} {ops : Array Oper} {rest : List Oper} {o : Oper} {a : Act} {Q : Exit → Act → World → Prop} (hgd : o.guard = none) (s x : Operand)
    (ho : o.op = .call { callee := .builtin .append, args := #[s, x], argTypes := #[109, 109] })
    (base : Nat) (v : Value) (xs : List Tri) (hs : a.eval s = v) (hown : OwnT w base v xs) (A : Option Addr) (m c : Nat) (ys : List Tri) (hx : a.eval x = .slice A m c) (hI : Tris w A m ys)
    (hlen : xs.length + ys.length ≤ 100000000) (hbase : base ≤ w.heap.size)
    (h : ∀ v' w', OwnT w' base v' (xs ++ ys) → w.grownBy w' v.ownBlock → (v'.ownBlock = v.ownBlock ∨ v'.ownBlock = some w.heap.size) → wpList Tryz.prog ops Q rest (a.put o.dst v') w') : wpList Tryz.prog ops Q (o :: rest) a w := by
  obtain ⟨i, hi, hz, hsz, hby⟩ := info_parts1 info_tri
  have hm := hI.1
  cases A with
  | none =>
    have : m = 0 := by
      rcases Nat.eq_zero_or_pos m with h0 | h0
      · exact h0
      · obtain ⟨b, off, e, _⟩ := hI.2 h0; cases e
    subst this
    have hy : ys = [] := List.length_eq_zero_iff.1 hm.symm
    subst hy
    refine wpList_plain hgd fun K hK => ?_
    have hrun := run_append_noneT w base v xs hown c o.type
    unfold Oper.wp
    simp [execOp, ho, resolve, invoke, builtin, hs, hx, hrun, Result.andThen]
    exact hK _ _ (h v w (by simpa using hown) ⟨rfl, rfl, rfl, Nat.le_refl _, fun _ _ _ => rfl⟩ (.inl rfl))
  | some p =>
    refine wpList_append_own_at _ hgd s x 109 ho base 111 i (.agg #[.int .i64 0, .int .i64 0, .int .i64 0]) 3 24 Tryz.underlying109 hi hz hsz hby rfl (by decide) v xs.length (xs.flatMap encT) hs hown p m c (ys.flatMap encT) hx (by rw [flat_length (k := 3) (fun _ => rfl), hm]) (tris_news hI) (fun u hu => by
      obtain ⟨t, _, ht⟩ := List.mem_flatMap.1 hu
      simp only [encT, List.mem_cons, List.not_mem_nil, or_false] at ht
      rcases ht with rfl | rfl | rfl <;> simp [Value.oneCell']) (by unfold maxLen; omega) (by omega) hbase (fun v' w' h1 h2 _ h4 => h v' w' ?_ h2 h4)
    unfold OwnT
    rw [List.length_append, List.flatMap_append, ← hm]
    exact h1
theorem und_tris : Tryz.prog.underlying 109 = some (.slice (Tryz.prog.elem 109)) := by kernel_rfl
theorem size_tri (w : World) : (sizeOf (Tryz.prog.elem 109)).run Tryz.prog w = .ok 3 w := by kernel_rfl
def dropT (A : Option Addr) (m k : Nat) : Option Addr := if m = k then A else A.map (·.add (k * 3))
theorem run_dropT (A : Option Addr) (n c k : Nat) (hk : k ≤ n) (w : World) :
    (Instr.slice 109 (.slice A n c) (some (.int .i64 (k : Int))) none none).run Tryz.prog w = .ok (.slice (dropT A c k) (n - k) (c - k)) w := by
  rw [run_slice_l w 109 A n c und_tris .i64 _ (by omega) (by omega), size_tri]
  simp [Result.andThen, sliced, dropT]
theorem run_takeT (A : Option Addr) (n c k : Nat) (hk : k ≤ c) (w : World) :
    (Instr.slice 109 (.slice A n c) none (some (.int .i64 (k : Int))) none).run Tryz.prog w = .ok (.slice A k c) w := by
  rw [run_slice_h w 109 A n c und_tris .i64 _ (by omega) (by omega), size_tri]
  simp only [Result.andThen, sliced, Int.toNat_natCast, Nat.sub_zero]
  split
  · rfl
  · cases A with
    | none => rfl
    | some a => simp [Addr.add]
theorem Tris.drop_ {w : World} {A : Option Addr} {n k m : Nat} {xs : List Tri} (h : Tris w A n xs) (hk : k ≤ n) (hm : n ≤ m) : Tris w (dropT A m k) (n - k) (xs.drop k) := by
  refine ⟨by rw [List.length_drop]; have := h.1; omega, fun h0 => ?_⟩
  obtain ⟨b, off, e, hc⟩ := h.2 (by omega)
  refine ⟨b, off + k * 3, ?_, fun i x hx j u hu => ?_⟩
  · unfold dropT
    rw [if_neg (by omega), e]
    simp only [Option.map_some, Addr.add]
    split <;> simp_all
  · rw [List.getElem?_drop] at hx
    have := hc (k + i) x hx j u hu
    rw [show off + k * 3 + i * 3 + j = off + (k + i) * 3 + j by omega]
    exact this
theorem Tris.front_ {w : World} {A : Option Addr} {n q : Nat} {xs : List Tri} (h : Tris w A n xs) (hq : q ≤ n) : Tris w A q (xs.take q) :=
  ⟨by rw [List.length_take]; have := h.1; omega, fun h0 => by
    obtain ⟨b, off, e, hc⟩ := h.2 (by omega)
    refine ⟨b, off, e, fun i x hx j u hu => hc i x ?_ j u hu⟩
    rw [List.getElem?_take] at hx
    split at hx
    · exact hx
    · cases hx⟩
theorem Tris.one {w : World} {b : Nat} {t : Tri} {ty : TypeId} (h : w.heap[b]? = some (.cells #[.int .i64 t.1, .int .i64 t.2.1, .int .i64 t.2.2] ty (0, 0))) : Tris w (some ⟨b, 0, none⟩) 1 [t] := by
  refine ⟨rfl, fun _ => ⟨b, 0, rfl, fun i x hx j u hu => ?_⟩⟩
  match i, hx with
  | 0, hx =>
    obtain rfl : t = x := Option.some.inj hx
    match j, hu with
    | 0, hu => exact cell_of_block h hu
    | 1, hu => exact cell_of_block h hu
    | 2, hu => exact cell_of_block h hu
    | j + 3, hu => simp [encT] at hu
  | i + 1, hx => simp at hx
theorem OwnT.sl {w : World} {base : Nat} {v : Value} {T : List Tri} (h : OwnT w base v T) : ∃ A c, v = .slice A T.length c ∧ T.length ≤ c ∧ Tris w A T.length T := Sl.of_own (k := 3) (enc := encT) (fun _ => rfl) h
set_option maxRecDepth 100000 in
set_option maxHeartbeats 1000000 in
theorem r22before (a0 a1 a2 b0 b1 b2 : Int) (w : World) : Calls Tryz.prog 124 #[.agg #[.int .i64 a0, .int .i64 a1, .int .i64 a2], .agg #[.int .i64 b0, .int .i64 b1, .int .i64 b2]] w (RetSomeB w) := by
  have HK := Lib.hid (Kept.alloc (Kept.alloc (Kept.refl w) (Obj.cells #[Value.int IntKind.i64 a0, Value.int IntKind.i64 a1, Value.int IntKind.i64 a2] 111)) (Obj.cells #[Value.int IntKind.i64 b0, Value.int IntKind.i64 b1, Value.int IntKind.i64 b2] 111))
  rcases (show a0 < b0 ∨ (¬ a0 < b0 ∧ (a0 == b0) = false) ∨ (¬ a0 < b0 ∧ (a0 == b0) = true ∧ a1 < b1) ∨ (¬ a0 < b0 ∧ (a0 == b0) = true ∧ ¬ a1 < b1) by by_cases h1 : a0 < b0 <;> by_cases h2 : a0 = b0 <;> by_cases h3 : a1 < b1 <;> simp [h1, h2, h3]) with h1 | ⟨h1, h2⟩ | ⟨h1, h2, h3⟩ | ⟨h1, h2, h3⟩
  all_goals
    go_enter Tryz.func124, Tryz.ntmps124
    go_wp2_with fail
    go_ret
    exact ⟨_, rfl, HK.out⟩
set_option maxRecDepth 100000 in
set_option maxHeartbeats 4000000 in
theorem r22Pairs (s : Sls) (n : Nrm) (w : World) (hN : NormAt w s n) (htag : ∀ m ∈ n.decomp, m.tag.size ≤ 1000) : Calls Tryz.prog 79 #[s.val] w (RetTris w (usableN n)) := by
  have hk0_ := Kept.alloc (Kept.refl w) (Obj.cells #[Value.slice s.Ac s.nc s.cc, Value.slice s.Am s.nm s.cm, Value.slice s.Ae s.ne s.ce] 28)
  have HK1 := Lib.hid hk0_
  have hb0_ := (box_block w (Obj.cells #[Value.slice s.Ac s.nc s.cc, Value.slice s.Am s.nm s.cm, Value.slice s.Ae s.ne s.ce] 28))
  have x0_ := cell_of_block (i := 0) hb0_ rfl
  have x1_ := cell_of_block (i := 1) hb0_ rfl
  have x2_ := cell_of_block (i := 2) hb0_ rfl
  simp only [s4_, s5_, s6_] at x0_ x1_ x2_
  have HX0 := Lib.hid x0_
  have HX1 := Lib.hid x1_
  have HX2 := Lib.hid x2_
  have HB0 := Lib.hid hb0_
  clear x0_ x1_ x2_ hb0_
  have HC := Lib.hid (r22counted s n _ (hN.kept hk0_) htag)
  have HNU := Lib.hid (usableS_at hN)
  have HGD := Lib.hid (usableN_good n)
  clear hN htag hk0_
  generalize usableN n = n1 at *
  generalize usableS s n = s1 at *
  have hbm := HNU.out.bm
  have HNM := Lib.hid HNU.out.dec.1
  unfold Sls.val at *
  go_enter Tryz.func79, Tryz.ntmps79
  have p0 := HX0.out
  have p1 := HX1.out
  have p2 := HX2.out
  go_wp2_with fail
  refine HC.out.mono ?_
  rintro e w1 ⟨rfl, k1⟩
  clear p0 p1 p2
  have e1 := (k1.block _ (block_lt HB0.out)).trans HB0.out
  have HE1 := Lib.hid e1
  have K1 := Lib.hid (Kept.trans HK1.out k1)
  obtain ⟨bb, hbb⟩ : ∃ bb : Nat, bb = w.heap.size := ⟨_, rfl⟩
  have HBB := Lib.hid hbb
  rw [← hbb] at HE1 ⊢
  clear hbb e1 k1
  have a0 := cell_of_block (i := 0) HE1.out rfl
  have a1 := cell_of_block (i := 1) HE1.out rfl
  have a2 := cell_of_block (i := 2) HE1.out rfl
  have f0 := frozen_of_block (i := 0) HE1.out
  have f1 := frozen_of_block (i := 1) HE1.out
  have f2 := frozen_of_block (i := 2) HE1.out
  simp only [s4_, s5_, s6_] at a0 a1 a2
  go_wp2_with fail
  have HD := Lib.hid (cells3_set (v0 := .slice s1.Ac s1.nc s1.cc) (v1 := .slice s1.Am s1.nm s1.cm) (v2 := .slice s1.Ae s1.ne s1.ce) HE1.out)
  clear a0 a1 a2 f0 f1 f2
  have K2 := Lib.hid (Kept.setCell (Kept.setCell (Kept.setCell K1.out (p := ⟨bb, 0, none⟩) (by rw [HBB.out]; exact Nat.le_refl _) (.slice s1.Ac s1.nc s1.cc)) (p := ⟨bb, 1, none⟩) (by rw [HBB.out]; exact Nat.le_refl _) (.slice s1.Am s1.nm s1.cm)) (p := ⟨bb, 2, none⟩) (by rw [HBB.out]; exact Nat.le_refl _) (.slice s1.Ae s1.ne s1.ce))
  generalize (((w1.setCell ⟨bb, 0, none⟩ (.slice s1.Ac s1.nc s1.cc)).setCell ⟨bb, 1, none⟩ (.slice s1.Am s1.nm s1.cm)).setCell ⟨bb, 2, none⟩ (.slice s1.Ae s1.ne s1.ce)) = W2 at *
  clear K1 HE1
  have hb2 : bb < W2.heap.size := block_lt HD.out
  go_loopw [3, 4] (fun p i wr => ∃ (k : Nat) (T : List Tri), k ≤ s1.nm ∧ i = .int .i64 k ∧ OwnT wr W2.heap.size p T ∧ T.Perm (trL n1 (n1.decomp.take k)) ∧ Kept W2 wr) (fun _ i _ => s1.nm - (intOf i).toNat)
  case atStart => exact ⟨0, [], Nat.zero_le _, rfl, World.ownsRow_nil _ _ _ _, by rw [List.take_zero]; exact List.Perm.refl _, Kept.refl _⟩
  case round =>
    obtain ⟨k, T, hk, rfl, hown, hper, hkw⟩ := hrel
    have HO := Lib.hid hown
    have HP := Lib.hid hper
    have HKW := Lib.hid hkw
    have hszr := hkw.size
    have KW := Lib.hid (Kept.trans K2.out hkw)
    have HDR := Lib.hid ((hkw.block bb hb2).trans HD.out)
    have HTL := Lib.hid (show T.length ≤ k by
      have h1 := hper.length_eq
      have h2 := trL_length n1 (n1.decomp.take k)
      have h3 : (n1.decomp.take k).length ≤ k := List.length_take_le _ _
      omega)
    clear hown hper hkw
    have g0 := cell_of_block (i := 0) HDR.out rfl
    have g1 := cell_of_block (i := 1) HDR.out rfl
    have g2 := cell_of_block (i := 2) HDR.out rfl
    simp only [s4_, s5_, s6_] at g0 g1 g2
    by_cases hlt : k < s1.nm
    · obtain ⟨b, off, m, A', n', c', hA, hm, hle, hI, c0, c1, c2⟩ := mp_at (i := k) (HNU.out.kept KW.out).dec hlt
      have HCO := Lib.hid (fun w' (hk : Kept w w') => r22composite s1 n1 k m w' (HNU.out.kept hk) HGD.out hm)
      have HTS := Lib.hid (trL_snoc (n := n1) hm)
      have HMM := Lib.hid (mem_of_getElem?_some hm)
      have HI := Lib.hid hI
      have C0 := Lib.hid c0
      have C1 := Lib.hid c1
      unfold Sls.val at *
      clear hm c2 hI c0 c1
      cases hcand : candB n1 m
      · rw [hcand] at HCO
        have HTN := Lib.hid (trOf_no hcand)
        clear hcand hA
        go_wp2_with fail
        refine (HCO.out _ KW.out).mono ?_
        rintro e w3 ⟨rfl, k3⟩
        go_wp2_with fail
        go_roundw
        case rel => exact ⟨k + 1, T, by omega, by go_num, own_kept HO.out k3, by rw [HTS.out, HTN.out]; simpa using HP.out, Kept.trans HKW.out k3⟩
        case measure => simp [intOf]; omega
      · rw [hcand] at HCO
        obtain ⟨a, bq, hto⟩ := list_two (cand_two hcand)
        have hn2 : n' = 2 := by rw [HI.out.1, hto]; rfl
        subst hn2
        obtain ⟨b2, off2, x, hA2, hx, d0⟩ := int_at (i := 0) HI.out (by omega)
        obtain ⟨b3, off3, y, hA3, hy, d1⟩ := int_at (i := 1) HI.out (by omega)
        rw [hA2] at hA3
        injection hA3 with hA3
        injection hA3 with e1 e2
        subst e1 e2
        rw [hto] at hx hy
        obtain rfl : a = x := by simpa using hx
        obtain rfl : bq = y := by simpa using hy
        rw [Nat.add_zero] at d0
        rw [hA2] at C1
        have D0 := Lib.hid d0
        have D1 := Lib.hid d1
        obtain ⟨v, hv⟩ : ∃ v, pairOf n1 a bq = some v := by
          cases hp : pairOf n1 a bq with
          | some v => exact ⟨v, rfl⟩
          | none =>
            exfalso
            unfold pairOf at hp
            cases hc : compH a bq with
            | some c => rw [hc] at hp; cases hp
            | none =>
              rw [hc] at hp
              unfold pairM at hp
              simp only [Option.map_eq_none_iff, List.find?_eq_none] at hp
              have := hp m HMM.out
              simp [hcand, hto] at this
        have HPR := Lib.hid (fun w' (hk : Kept w w') => r22pair s1 n1 a bq w' (HNU.out.kept hk) HGD.out)
        rw [hv] at HPR
        have HTN := Lib.hid (fun hvm : v = m.src => trOf_some hcand hto (by rw [hv, hvm]))
        have HTO := Lib.hid (fun hvm : v ≠ m.src => trOf_other (n := n1) hto (by rw [hv]; exact fun h => hvm (Option.some.inj h)))
        unfold Sls.val at *
        have G0 := Lib.hid g0
        have G1 := Lib.hid g1
        have G2 := Lib.hid g2
        rw [hA] at G1 HPR HCO g1
        clear hx hy hcand hto hv hA hA2 HI d0 d1 HMM
        go_wp2_with fail
        refine (HCO.out _ KW.out).mono ?_
        rintro e w3 ⟨rfl, k3⟩
        clear g0 g1 g2
        have K3 := Lib.hid (Kept.trans HKW.out k3)
        have p0 := Kept.cell k3 G1.out
        have p1 := Kept.cell k3 C0.out
        have p2 := Kept.cell k3 C1.out
        have p3 := Kept.cell k3 D0.out
        have p4 := Kept.cell k3 D1.out
        have KR := Lib.hid k3
        clear k3
        go_wp2_with fail
        refine wp_region_held_drew (S := (fun w' => w'.cell? ⟨bb, 1, none⟩ = some (.slice (some ⟨b, off, none⟩) s1.nm s1.cm) ∧ w'.cell? ⟨b, off + k * 3, none⟩ = some (.int .i64 m.src) ∧ w'.cell? ⟨b, off + k * 3 + 1, none⟩ = some (.slice (some ⟨b2, off2, none⟩) 2 c') ∧ w'.cell? ⟨b2, off2, none⟩ = some (.int .i64 a) ∧ w'.cell? ⟨b2, off2 + 1, none⟩ = some (.int .i64 bq))) (by kernel_rfl) ⟨p0, p1, p2, p3, p4⟩ (fun hHeld => ?_)
        refine tk_ 0 ?_ rfl ?_; refine tk_ 1 ?_ rfl ?_; refine tk_ 2 ?_ rfl ?_; refine tk_ 3 ?_ rfl ?_; refine tk_ 4 ?_ rfl ?_; refine tk_ 5 ?_ rfl ?_; refine tk_ 6 ?_ rfl ?_; refine tk_ 7 ?_ rfl ?_; refine tk_ 8 ?_ rfl ?_; refine tk_ 9 ?_ rfl ?_; refine tk_ 10 ?_ rfl ?_; refine tk_ 11 ?_ rfl ?_; refine tk_ 12 ?_ rfl ?_; refine tk_ 13 ?_ rfl ?_; refine tk_ 14 ?_ rfl ?_; refine tk_ 15 ?_ rfl ?_; refine tk_ 16 ?_ rfl ?_; refine tk_ 17 ?_ rfl ?_; refine tk_ 18 ?_ rfl ?_; refine tk_ 19 ?_ rfl ?_; refine tk_ 20 ?_ rfl ?_; refine tk_ 21 ?_ rfl ?_; refine tk_ 22 ?_ rfl ?_
        refine rd_ 23 rfl (fun K hK => ?_)
        skip
        go_simp
        refine hK.out _ _ ⟨Kept.cell (Kept.alloc (Kept.drew (Kept.refl w3)) (Obj.cells #[Value.int IntKind.i64 0, Value.int IntKind.i64 0, Value.int IntKind.i64 0] 111)) p0, Kept.cell (Kept.alloc (Kept.drew (Kept.refl w3)) (Obj.cells #[Value.int IntKind.i64 0, Value.int IntKind.i64 0, Value.int IntKind.i64 0] 111)) p1, Kept.cell (Kept.alloc (Kept.drew (Kept.refl w3)) (Obj.cells #[Value.int IntKind.i64 0, Value.int IntKind.i64 0, Value.int IntKind.i64 0] 111)) p2, Kept.cell (Kept.alloc (Kept.drew (Kept.refl w3)) (Obj.cells #[Value.int IntKind.i64 0, Value.int IntKind.i64 0, Value.int IntKind.i64 0] 111)) p3, Kept.cell (Kept.alloc (Kept.drew (Kept.refl w3)) (Obj.cells #[Value.int IntKind.i64 0, Value.int IntKind.i64 0, Value.int IntKind.i64 0] 111)) p4⟩ (fun hHeld => ?_)
        clear hK K
        (try simp only [Act.put, s1_, s2_, s3_, s4_, s5_, s6_])
        refine rd_ 24 rfl (fun K hK => ?_)
        skip
        go_simp
        refine hK.out _ _ ⟨Kept.cell (Kept.alloc (Kept.drew (Kept.refl w3)) (Obj.cells #[Value.int IntKind.i64 a, Value.int IntKind.i64 bq, Value.int IntKind.i64 m.src] 111)) p0, Kept.cell (Kept.alloc (Kept.drew (Kept.refl w3)) (Obj.cells #[Value.int IntKind.i64 a, Value.int IntKind.i64 bq, Value.int IntKind.i64 m.src] 111)) p1, Kept.cell (Kept.alloc (Kept.drew (Kept.refl w3)) (Obj.cells #[Value.int IntKind.i64 a, Value.int IntKind.i64 bq, Value.int IntKind.i64 m.src] 111)) p2, Kept.cell (Kept.alloc (Kept.drew (Kept.refl w3)) (Obj.cells #[Value.int IntKind.i64 a, Value.int IntKind.i64 bq, Value.int IntKind.i64 m.src] 111)) p3, Kept.cell (Kept.alloc (Kept.drew (Kept.refl w3)) (Obj.cells #[Value.int IntKind.i64 a, Value.int IntKind.i64 bq, Value.int IntKind.i64 m.src] 111)) p4⟩ (fun hHeld => ?_)
        clear hK K
        (try simp only [Act.put, s1_, s2_, s3_, s4_, s5_, s6_])
        refine wpAnyH_done (by kernel_rfl) ?_ _
        have HTB : Hid ((w3.alloc (Obj.cells #[Value.int IntKind.i64 a, Value.int IntKind.i64 bq, Value.int IntKind.i64 m.src] 111)).drew.heap[w3.heap.size]? = some (Obj.cells #[Value.int IntKind.i64 a, Value.int IntKind.i64 bq, Value.int IntKind.i64 m.src] 111)) := Lib.hid (alloc_at (W := w3) (b := w3.heap.size) (o := (Obj.cells #[Value.int IntKind.i64 a, Value.int IntKind.i64 bq, Value.int IntKind.i64 m.src] 111)) rfl)
        have K4 := Lib.hid (Kept.trans K3.out (Kept.drew (Kept.alloc (Kept.refl w3) (Obj.cells #[Value.int IntKind.i64 a, Value.int IntKind.i64 bq, Value.int IntKind.i64 m.src] 111))))
        have KR4 := Lib.hid (Kept.trans KR.out (Kept.drew (Kept.alloc (Kept.refl w3) (Obj.cells #[Value.int IntKind.i64 a, Value.int IntKind.i64 bq, Value.int IntKind.i64 m.src] 111))))
        have KW4 := Lib.hid (Kept.trans KW.out (Kept.trans KR.out (Kept.drew (Kept.alloc (Kept.refl w3) (Obj.cells #[Value.int IntKind.i64 a, Value.int IntKind.i64 bq, Value.int IntKind.i64 m.src] 111)))))
        have q0 := Kept.cell (Kept.trans KR.out (Kept.drew (Kept.alloc (Kept.refl w3) (Obj.cells #[Value.int IntKind.i64 a, Value.int IntKind.i64 bq, Value.int IntKind.i64 m.src] 111)))) G0.out
        have q1 := Kept.cell (Kept.trans KR.out (Kept.drew (Kept.alloc (Kept.refl w3) (Obj.cells #[Value.int IntKind.i64 a, Value.int IntKind.i64 bq, Value.int IntKind.i64 m.src] 111)))) G1.out
        have q2 := Kept.cell (Kept.trans KR.out (Kept.drew (Kept.alloc (Kept.refl w3) (Obj.cells #[Value.int IntKind.i64 a, Value.int IntKind.i64 bq, Value.int IntKind.i64 m.src] 111)))) G2.out
        obtain ⟨bx, hbx⟩ : ∃ bx : Nat, bx = w3.heap.size := ⟨_, rfl⟩
        rw [← hbx] at HTB ⊢
        clear p0 p1 p2 p3 p4 hbx
        generalize (w3.alloc (Obj.cells #[Value.int IntKind.i64 a, Value.int IntKind.i64 bq, Value.int IntKind.i64 m.src] 111)).drew = w4 at *
        have x0 := cell_of_block (i := 0) HTB.out rfl
        have x1 := cell_of_block (i := 1) HTB.out rfl
        have x2 := cell_of_block (i := 2) HTB.out rfl
        simp only [s4_, s5_, s6_] at x0 x1 x2
        go_wp2_with fail
        refine (HPR.out _ KW4.out).mono ?_
        rintro e w5 ⟨rfl, k5⟩
        have K5 := Lib.hid (Kept.trans K4.out k5)
        have KR5 := Lib.hid (Kept.trans KR4.out k5)
        have X0 := Lib.hid (Kept.cell k5 x0)
        have X1 := Lib.hid (Kept.cell k5 x1)
        have X2 := Lib.hid (Kept.cell k5 x2)
        have y2 := X2.out
        clear x0 x1 x2 q0 q1 q2 k5
        by_cases hvm : v = m.src
        · have HTN2 := Lib.hid (HTN.out hvm)
          clear HTN HTO
          subst hvm
          have hz : (m.src != m.src) = false := by simp
          obtain ⟨A3, c3, rfl, hle3, hI3⟩ := OwnT.sl HO.out
          have HI5 := Lib.hid (hI3.kept KR5.out)
          obtain ⟨tl, htl⟩ : ∃ tl : Nat, tl = T.length := ⟨_, rfl⟩
          have HTT := Lib.hid htl
          rw [← htl] at hle3 HI5 HTL ⊢
          have htl2 := HTL.out
          clear hI3 htl
          go_wp2_with fail
          clear hz y2
          go_loopw [8] (fun q wi => ∃ j : Nat, j ≤ tl ∧ q = .int .i64 j ∧ Kept w5 wi) (fun q _ => (intOf q).toNat)
          case atStart => exact ⟨tl, Nat.le_refl _, rfl, Kept.refl _⟩
          case round =>
            obtain ⟨j, hj, rfl, hki⟩ := hrel
            have KI := Lib.hid hki
            clear hki
            rcases Nat.eq_zero_or_pos j with h0 | h0
            · have hj0 : ¬ (0 : Int) < (j : Int) := by omega
              have hd0 : decide ((0 : Int) < (j : Int)) = false := decide_eq_false hj0
              have hd1 : decide (0 < j) = false := decide_eq_false (by omega)
              clear h0
              have r0 := Kept.cell KI.out X0.out
              have r1 := Kept.cell KI.out X1.out
              have r2 := Kept.cell KI.out X2.out
              go_wp2_with fail
              refine wp_region_held_drew (S := (fun w' => w'.cell? ⟨bx, 0, none⟩ = some (.int .i64 a) ∧ w'.cell? ⟨bx, 1, none⟩ = some (.int .i64 bq) ∧ w'.cell? ⟨bx, 2, none⟩ = some (.int .i64 m.src))) (by kernel_rfl) ⟨r0, r1, r2⟩ (fun hHeld => ?_)
              refine tk_ 0 ?_ rfl ?_; refine tk_ 1 ?_ rfl ?_; refine tk_ 2 ?_ rfl ?_; refine sk_ 3 rfl ?_; refine sk_ 4 rfl ?_; refine sk_ 5 rfl ?_; refine sk_ 6 rfl ?_; refine sk_ 7 rfl ?_; refine sk_ 8 rfl ?_; refine sk_ 9 rfl ?_; refine tk_ 10 ?_ rfl ?_
              refine wpAnyH_done (by kernel_rfl) ?_ _
              clear r0 r1 r2
              have KQ := Lib.hid (Kept.drew KI.out)
              have s1 := run_takeT A3 tl c3 j (by omega)
              have s2 := run_dropT A3 tl c3 j (by omega)
              have z0 := Kept.cell KQ.out X0.out
              have z1 := Kept.cell KQ.out X1.out
              have z2 := Kept.cell KQ.out X2.out
              go_wp2_with (first
                | (at_builtin; refine app_tris rfl _ _ rfl w5.heap.size _ _ rfl HN2.out _ _ _ (T.drop j) rfl (Tris.drop_ (HI5.out.kept KY2.out) (by omega) hle3) (by have := HTT.out; simp; omega) KY2.out.size ?_; intro v3 y3 hown3 hgrow3 hat3; have KY3 := Lib.hid (KY2.out.grown hgrow3 KY2.out.size (fun q e => (World.ownsRow.lt HN2.out q e).1)); have HN3 := Lib.hid hown3; clear hown3 hgrow3 hat3)
                | (at_builtin; refine app_tris rfl _ _ rfl w5.heap.size _ _ rfl (own_kept HN1.out (Kept.alloc (Kept.refl y1) (Obj.cells #[Value.int IntKind.i64 a, Value.int IntKind.i64 bq, Value.int IntKind.i64 m.src] 111))) _ _ _ [(a, bq, m.src)] rfl (Tris.one (t := (a, bq, m.src)) (alloc_at (W := y1) (o := (Obj.cells #[Value.int IntKind.i64 a, Value.int IntKind.i64 bq, Value.int IntKind.i64 m.src] 111)) rfl)) (by have := HTT.out; simp; omega) (Kept.alloc KY1.out (Obj.cells #[Value.int IntKind.i64 a, Value.int IntKind.i64 bq, Value.int IntKind.i64 m.src] 111)).size ?_; intro v2 y2 hown2 hgrow2 hat2; have KY2 := Lib.hid ((Kept.alloc KY1.out (Obj.cells #[Value.int IntKind.i64 a, Value.int IntKind.i64 bq, Value.int IntKind.i64 m.src] 111)).grown hgrow2 (Kept.alloc KY1.out (Obj.cells #[Value.int IntKind.i64 a, Value.int IntKind.i64 bq, Value.int IntKind.i64 m.src] 111)).size (fun q e => (World.ownsRow.lt HN1.out q e).1)); have HN2 := Lib.hid hown2; clear hown2 hgrow2 hat2)
                | (at_builtin; refine app_tris rfl _ _ rfl w5.heap.size _ [] rfl (World.ownsRow_nil _ _ _ _) _ _ _ (T.take j) rfl (Tris.front_ (HI5.out.kept KQ.out) (by omega)) (by have := HTT.out; simp; omega) KQ.out.size ?_; intro v1 y1 hown1 hgrow1 hat1; have KY1 := Lib.hid (KQ.out.grown hgrow1 KQ.out.size (fun q e => by cases e)); have HN1 := Lib.hid hown1; rw [List.nil_append] at HN1; clear hown1 hgrow1 hat1 z0 z1 z2; have z0 := Kept.cell KY1.out X0.out; have z1 := Kept.cell KY1.out X1.out; have z2 := Kept.cell KY1.out X2.out))
              clear s1 s2 z0 z1 z2
              go_roundw
              case rel => exact ⟨k + 1, T.take j ++ [(a, bq, m.src)] ++ T.drop j, by omega, by go_num, own_base HN3.out K5.out.size, by rw [HTS.out, HTN2.out]; exact (ins_perm T _ _).trans (HP.out.append_right _), Kept.trans K5.out KY3.out⟩
              case measure => simp [intOf]; omega
            · obtain ⟨jp, rfl⟩ : ∃ jp, j = jp + 1 := ⟨j - 1, by omega⟩
              obtain ⟨b4, off4, t, rfl, ht, u0, u1, u2⟩ := tri_at (i := jp) (HI5.out.kept KI.out) (by omega)
              have hj0 : (0 : Int) < (jp : Int) + 1 := by omega
              have hw1 : IntKind.i64.wrap ((jp : Int) + 1 - 1) = (jp : Int) := by rw [show (jp : Int) + 1 - 1 = jp by omega]; exact IntWalk.i64_in _ (by omega)
              have hw2 : IntKind.i64.wrap (jp : Int) = (jp : Int) := IntWalk.i64_in _ (by omega)
              have hjt : jp < tl := by omega
              have r0 := Kept.cell KI.out X0.out
              have r1 := Kept.cell KI.out X1.out
              have r2 := Kept.cell KI.out X2.out
              clear ht
              go_wp2_with fail
              refine wp_region_held_drew (S := (fun w' => w'.cell? ⟨bx, 0, none⟩ = some (.int .i64 a) ∧ w'.cell? ⟨bx, 1, none⟩ = some (.int .i64 bq) ∧ w'.cell? ⟨bx, 2, none⟩ = some (.int .i64 m.src) ∧ w'.cell? ⟨b4, off4 + jp * 3, none⟩ = some (.int .i64 t.1) ∧ w'.cell? ⟨b4, off4 + jp * 3 + 1, none⟩ = some (.int .i64 t.2.1) ∧ w'.cell? ⟨b4, off4 + jp * 3 + 2, none⟩ = some (.int .i64 t.2.2))) (by kernel_rfl) ⟨r0, r1, r2, u0, u1, u2⟩ (fun hHeld => ?_)
              refine tk_ 0 ?_ rfl ?_; refine tk_ 1 ?_ rfl ?_; refine tk_ 2 ?_ rfl ?_; refine tk_ 3 ?_ rfl ?_; refine tk_ 4 ?_ rfl ?_; refine tk_ 5 ?_ rfl ?_; refine tk_ 6 ?_ rfl ?_; refine tk_ 7 ?_ rfl ?_; refine tk_ 8 ?_ rfl ?_
              refine rd_ 9 rfl (fun K hK => ?_)
              go_simp
              (refine (r22before a bq m.src t.1 t.2.1 t.2.2 _).mono ?_; rintro e w6 ⟨bb6, rfl, k6⟩; have K6 := Lib.hid (Kept.trans (Kept.drew (Kept.refl _)) k6); clear k6)
              go_wp2_with fail
              refine hK.out _ _ ⟨Kept.cell K6.out r0, Kept.cell K6.out r1, Kept.cell K6.out r2, Kept.cell K6.out u0, Kept.cell K6.out u1, Kept.cell K6.out u2⟩ (fun hHeld => ?_)
              clear hK K
              (try simp only [Act.put, s1_, s2_, s3_, s4_, s5_, s6_])
              refine tk_ 10 ?_ rfl ?_
              refine wpAnyH_done (by kernel_rfl) ?_ _
              clear r0 r1 r2 u0 u1 u2
              cases bb6
              · skip
                have KQ := Lib.hid (Kept.trans KI.out K6.out)
                have s1 := run_takeT (some ⟨b4, off4, none⟩) tl c3 (jp + 1) (by omega)
                have s2 := run_dropT (some ⟨b4, off4, none⟩) tl c3 (jp + 1) (by omega)
                have ec : ((jp + 1 : Nat) : Int) = (jp : Int) + 1 := by omega
                rw [ec] at s1 s2
                clear ec
                have z0 := Kept.cell KQ.out X0.out
                have z1 := Kept.cell KQ.out X1.out
                have z2 := Kept.cell KQ.out X2.out
                go_wp2_with (first
                  | (at_builtin; refine app_tris rfl _ _ rfl w5.heap.size _ _ rfl HN2.out _ _ _ (T.drop (jp + 1)) rfl (Tris.drop_ (HI5.out.kept KY2.out) (by omega) hle3) (by have := HTT.out; simp; omega) KY2.out.size ?_; intro v3 y3 hown3 hgrow3 hat3; have KY3 := Lib.hid (KY2.out.grown hgrow3 KY2.out.size (fun q e => (World.ownsRow.lt HN2.out q e).1)); have HN3 := Lib.hid hown3; clear hown3 hgrow3 hat3)
                  | (at_builtin; refine app_tris rfl _ _ rfl w5.heap.size _ _ rfl (own_kept HN1.out (Kept.alloc (Kept.refl y1) (Obj.cells #[Value.int IntKind.i64 a, Value.int IntKind.i64 bq, Value.int IntKind.i64 m.src] 111))) _ _ _ [(a, bq, m.src)] rfl (Tris.one (t := (a, bq, m.src)) (alloc_at (W := y1) (o := (Obj.cells #[Value.int IntKind.i64 a, Value.int IntKind.i64 bq, Value.int IntKind.i64 m.src] 111)) rfl)) (by have := HTT.out; simp; omega) (Kept.alloc KY1.out (Obj.cells #[Value.int IntKind.i64 a, Value.int IntKind.i64 bq, Value.int IntKind.i64 m.src] 111)).size ?_; intro v2 y2 hown2 hgrow2 hat2; have KY2 := Lib.hid ((Kept.alloc KY1.out (Obj.cells #[Value.int IntKind.i64 a, Value.int IntKind.i64 bq, Value.int IntKind.i64 m.src] 111)).grown hgrow2 (Kept.alloc KY1.out (Obj.cells #[Value.int IntKind.i64 a, Value.int IntKind.i64 bq, Value.int IntKind.i64 m.src] 111)).size (fun q e => (World.ownsRow.lt HN1.out q e).1)); have HN2 := Lib.hid hown2; clear hown2 hgrow2 hat2)
                  | (at_builtin; refine app_tris rfl _ _ rfl w5.heap.size _ [] rfl (World.ownsRow_nil _ _ _ _) _ _ _ (T.take (jp + 1)) rfl (Tris.front_ (HI5.out.kept KQ.out) (by omega)) (by have := HTT.out; simp; omega) KQ.out.size ?_; intro v1 y1 hown1 hgrow1 hat1; have KY1 := Lib.hid (KQ.out.grown hgrow1 KQ.out.size (fun q e => by cases e)); have HN1 := Lib.hid hown1; rw [List.nil_append] at HN1; clear hown1 hgrow1 hat1 z0 z1 z2; have z0 := Kept.cell KY1.out X0.out; have z1 := Kept.cell KY1.out X1.out; have z2 := Kept.cell KY1.out X2.out))
                clear s1 s2 z0 z1 z2
                go_roundw
                case rel => exact ⟨k + 1, T.take (jp + 1) ++ [(a, bq, m.src)] ++ T.drop (jp + 1), by omega, by go_num, own_base HN3.out K5.out.size, by rw [HTS.out, HTN2.out]; exact (ins_perm T _ _).trans (HP.out.append_right _), Kept.trans K5.out KY3.out⟩
                case measure => simp [intOf]; omega
              · go_wp2_with fail
                go_roundw
                case rel => exact ⟨jp, by omega, by go_num, Kept.trans KI.out K6.out⟩
                case measure => simp [intOf]
        · have HTO2 := Lib.hid (HTO.out hvm)
          have hz : (v != m.src) = true := by simp [hvm]
          clear HTN HTO hvm
          go_wp2_with fail
          go_roundw
          case rel => exact ⟨k + 1, T, by omega, by go_num, own_kept HO.out KR5.out, by rw [HTS.out, HTO2.out]; simpa using HP.out, K5.out⟩
          case measure => simp [intOf]; omega
    · have hfull : n1.decomp.take k = n1.decomp := List.take_of_length_le (by have := HNM.out; omega)
      have hper := HP.out
      rw [hfull] at hper
      obtain ⟨A4, c4, hu, hle4, hI4⟩ := OwnT.sl HO.out
      obtain ⟨tl, htl⟩ : ∃ tl : Nat, tl = T.length := ⟨_, rfl⟩
      have ht2 := HTL.out
      rw [← htl] at hu hle4 hI4 ht2
      have HI4 := Lib.hid hI4
      have HPP := Lib.hid hper
      clear hfull htl hper hI4
      subst hu
      have HNW := Lib.hid (show ∀ a, A4 = some a → w.heap.size ≤ a.block from fun a ha => by
        subst ha
        have h1 := (World.ownsRow.lt HO.out a.block rfl).1
        have h2 := K2.out.size
        omega)
      go_wp2_with fail
      go_ret
      exact ⟨A4, tl, c4, T, rfl, hle4, by omega, HI4.out, HPP.out, HNW.out, KW.out⟩
end Go.Proofs.YtomgchfjachedaaGreatDoor
namespace Go.Proofs.YtomgchfjachedaaGreatDoor
open Go Go.RowKit
def sndR (cp : Bool) (R : List Rng) : Option Int → Bool
  | some x => cp && hasR R x
  | none => false
theorem field_clsC (A : Option Addr) (n c : Nat) (u v : Value) (w : World) : Sem.run Tryz.prog (Instr.field 28 (.agg #[.slice A n c, u, v]) 0) w = .ok (.slice A n c) w := by kernel_rfl
set_option maxRecDepth 100000 in
set_option maxHeartbeats 1000000 in
theorem r24known (form : Int) (w : World) : Calls Tryz.prog 81 #[.int .i64 form] w (RetB w (!decide (form < 1 ∨ 4 < form))) := by
  rcases form_cases form with h | h | h | h | h
  · subst h
    go_enter Tryz.func81, Tryz.ntmps81
    go_wp2_with fail
    go_ret
    exact ⟨ret_bool (by decide), Kept.refl _⟩
  · subst h
    go_enter Tryz.func81, Tryz.ntmps81
    go_wp2_with fail
    go_ret
    exact ⟨ret_bool (by decide), Kept.refl _⟩
  · subst h
    go_enter Tryz.func81, Tryz.ntmps81
    go_wp2_with fail
    go_ret
    exact ⟨ret_bool (by decide), Kept.refl _⟩
  · subst h
    go_enter Tryz.func81, Tryz.ntmps81
    go_wp2_with fail
    go_ret
    exact ⟨ret_bool (by decide), Kept.refl _⟩
  · have HR := Lib.hid (show (!decide (form < 1 ∨ 4 < form)) = false by simp [h])
    have h1 : ¬ 1 ≤ form ∨ (1 ≤ form ∧ ¬ form ≤ 4) := by omega
    clear h
    rcases h1 with h1 | ⟨h1, h2⟩
    all_goals
      go_enter Tryz.func81, Tryz.ntmps81
      go_wp2_with fail
      go_ret
      exact ⟨ret_bool (by first | rfl | exact HR.out.symm), Kept.refl _⟩
set_option maxRecDepth 100000 in
set_option maxHeartbeats 1000000 in
theorem r24compat (form : Int) (w : World) : Calls Tryz.prog 146 #[.int .i64 form] w (RetB w (cpOf form)) := by
  rcases form_cases form with h | h | h | h | h
  · subst h
    go_enter Tryz.func146, Tryz.ntmps146
    go_wp2_with fail
    go_ret
    exact ⟨ret_bool (by decide), Kept.refl _⟩
  · subst h
    go_enter Tryz.func146, Tryz.ntmps146
    go_wp2_with fail
    go_ret
    exact ⟨ret_bool (by decide), Kept.refl _⟩
  · subst h
    go_enter Tryz.func146, Tryz.ntmps146
    go_wp2_with fail
    go_ret
    exact ⟨ret_bool (by decide), Kept.refl _⟩
  · subst h
    go_enter Tryz.func146, Tryz.ntmps146
    go_wp2_with fail
    go_ret
    exact ⟨ret_bool (by decide), Kept.refl _⟩
  · have HR := Lib.hid (show cpOf form = false by simp [cpOf]; omega)
    have z3 : (form == 3) = false := by simp; omega
    have z4 : (form == 4) = false := by simp; omega
    clear h
    go_enter Tryz.func146, Tryz.ntmps146
    go_wp2_with fail
    go_ret
    exact ⟨ret_bool HR.out.symm, Kept.refl _⟩
set_option maxRecDepth 100000 in
set_option maxHeartbeats 1000000 in
theorem r24composes (form : Int) (w : World) : Calls Tryz.prog 125 #[.int .i64 form] w (RetB w (comps form)) := by
  rcases form_cases form with h | h | h | h | h
  · subst h
    go_enter Tryz.func125, Tryz.ntmps125
    go_wp2_with fail
    go_ret
    exact ⟨ret_bool (by decide), Kept.refl _⟩
  · subst h
    go_enter Tryz.func125, Tryz.ntmps125
    go_wp2_with fail
    go_ret
    exact ⟨ret_bool (by decide), Kept.refl _⟩
  · subst h
    go_enter Tryz.func125, Tryz.ntmps125
    go_wp2_with fail
    go_ret
    exact ⟨ret_bool (by decide), Kept.refl _⟩
  · subst h
    go_enter Tryz.func125, Tryz.ntmps125
    go_wp2_with fail
    go_ret
    exact ⟨ret_bool (by decide), Kept.refl _⟩
  · have HR := Lib.hid (show comps form = false by simp [comps]; omega)
    have z1 : (form == 1) = false := by simp; omega
    have z3 : (form == 3) = false := by simp; omega
    clear h
    go_enter Tryz.func125, Tryz.ntmps125
    go_wp2_with fail
    go_ret
    exact ⟨ret_bool HR.out.symm, Kept.refl _⟩
set_option maxRecDepth 100000 in
set_option maxHeartbeats 4000000 in
theorem r24start (s : Sls) (n : Nrm) (form c : Int) (w : World) (hN : NormAt w s n) (htag : ∀ m ∈ n.decomp, m.tag.size ≤ 1000) : Calls Tryz.prog 111 #[s.val, .int .i64 form, .int .i64 c] w (RetOI w ((fullOf (usableN n).decomp (cpOf form) c).head?)) := by
  have hk0_ := Kept.alloc (Kept.refl w) (Obj.cells #[Value.slice s.Ac s.nc s.cc, Value.slice s.Am s.nm s.cm, Value.slice s.Ae s.ne s.ce] 28)
  have HK1 := Lib.hid hk0_
  have hb0_ := (box_block w (Obj.cells #[Value.slice s.Ac s.nc s.cc, Value.slice s.Am s.nm s.cm, Value.slice s.Ae s.ne s.ce] 28))
  have x0_ := cell_of_block (i := 0) hb0_ rfl
  have x1_ := cell_of_block (i := 1) hb0_ rfl
  have x2_ := cell_of_block (i := 2) hb0_ rfl
  simp only [s4_, s5_, s6_] at x0_ x1_ x2_
  have HX0 := Lib.hid x0_
  have HX1 := Lib.hid x1_
  have HX2 := Lib.hid x2_
  have HB0 := Lib.hid hb0_
  clear x0_ x1_ x2_ hb0_
  have HCH := Lib.hid (fun w' (hk : Kept w w') => r21char s n c (cpOf form) w' (hN.kept hk) htag)
  clear hN htag hk0_
  generalize fullOf (usableN n).decomp (cpOf form) c = X at *
  have HCP := Lib.hid (fun w' => r24compat form w')
  generalize cpOf form = cp at *
  cases X with
  | nil =>
    unfold Sls.val at *
    go_enter Tryz.func111, Tryz.ntmps111
    have p0 := HX0.out
    have p1 := HX1.out
    have p2 := HX2.out
    go_wp2_with fail
    refine wp_region_held_drew (S := (fun w' => w'.cell? ⟨w.heap.size, 0, none⟩ = some (.slice s.Ac s.nc s.cc) ∧ w'.cell? ⟨w.heap.size, 1, none⟩ = some (.slice s.Am s.nm s.cm) ∧ w'.cell? ⟨w.heap.size, 2, none⟩ = some (.slice s.Ae s.ne s.ce))) (by kernel_rfl) ⟨p0, p1, p2⟩ (fun hHeld => ?_)
    refine tk_ 0 ?_ rfl ?_; refine tk_ 1 ?_ rfl ?_; refine tk_ 2 ?_ rfl ?_
    refine rd_ 3 rfl (fun K hK => ?_)
    go_simp
    (refine (HCP.out _).mono ?_; rintro e w1 ⟨rfl, k1⟩; have KB1 := Lib.hid (Kept.trans (Kept.drew (Kept.refl (w.alloc (Obj.cells #[Value.slice s.Ac s.nc s.cc, Value.slice s.Am s.nm s.cm, Value.slice s.Ae s.ne s.ce] 28)))) k1))
    go_wp2_with fail
    refine hK.out _ _ ⟨Kept.cell KB1.out HX0.out, Kept.cell KB1.out HX1.out, Kept.cell KB1.out HX2.out⟩ (fun hHeld => ?_)
    clear hK K
    (try simp only [Act.put, s1_, s2_, s3_, s4_, s5_, s6_])
    refine rd_ 4 rfl (fun K hK => ?_)
    go_simp
    (refine (HCH.out _ (Kept.trans HK1.out KB1.out)).mono ?_; rintro e w2 ⟨A2, n2, c2, rfl, le2, i2, k2⟩; have I2 := Lib.hid i2; clear i2; have KB2 := Lib.hid (Kept.trans KB1.out k2))
    go_wp2_with fail
    refine hK.out _ _ ⟨Kept.cell KB2.out HX0.out, Kept.cell KB2.out HX1.out, Kept.cell KB2.out HX2.out⟩ (fun hHeld => ?_)
    clear hK K
    (try simp only [Act.put, s1_, s2_, s3_, s4_, s5_, s6_])
    refine tk_ 5 ?_ rfl ?_
    refine wpAnyH_done (by kernel_rfl) ?_ _
    clear p0 p1 p2
    have hn := I2.out.1
    rw [List.length_nil] at hn
    subst hn
    go_wp2_with fail
    go_ret2
    exact ⟨rfl, (Kept.trans HK1.out KB2.out)⟩
  | cons x t =>
    unfold Sls.val at *
    go_enter Tryz.func111, Tryz.ntmps111
    have p0 := HX0.out
    have p1 := HX1.out
    have p2 := HX2.out
    go_wp2_with fail
    refine wp_region_held_drew (S := (fun w' => w'.cell? ⟨w.heap.size, 0, none⟩ = some (.slice s.Ac s.nc s.cc) ∧ w'.cell? ⟨w.heap.size, 1, none⟩ = some (.slice s.Am s.nm s.cm) ∧ w'.cell? ⟨w.heap.size, 2, none⟩ = some (.slice s.Ae s.ne s.ce))) (by kernel_rfl) ⟨p0, p1, p2⟩ (fun hHeld => ?_)
    refine tk_ 0 ?_ rfl ?_; refine tk_ 1 ?_ rfl ?_; refine tk_ 2 ?_ rfl ?_
    refine rd_ 3 rfl (fun K hK => ?_)
    go_simp
    (refine (HCP.out _).mono ?_; rintro e w1 ⟨rfl, k1⟩; have KB1 := Lib.hid (Kept.trans (Kept.drew (Kept.refl (w.alloc (Obj.cells #[Value.slice s.Ac s.nc s.cc, Value.slice s.Am s.nm s.cm, Value.slice s.Ae s.ne s.ce] 28)))) k1))
    go_wp2_with fail
    refine hK.out _ _ ⟨Kept.cell KB1.out HX0.out, Kept.cell KB1.out HX1.out, Kept.cell KB1.out HX2.out⟩ (fun hHeld => ?_)
    clear hK K
    (try simp only [Act.put, s1_, s2_, s3_, s4_, s5_, s6_])
    refine rd_ 4 rfl (fun K hK => ?_)
    go_simp
    (refine (HCH.out _ (Kept.trans HK1.out KB1.out)).mono ?_; rintro e w2 ⟨A2, n2, c2, rfl, le2, i2, k2⟩; have I2 := Lib.hid i2; clear i2; have KB2 := Lib.hid (Kept.trans KB1.out k2))
    go_wp2_with fail
    refine hK.out _ _ ⟨Kept.cell KB2.out HX0.out, Kept.cell KB2.out HX1.out, Kept.cell KB2.out HX2.out⟩ (fun hHeld => ?_)
    clear hK K
    (try simp only [Act.put, s1_, s2_, s3_, s4_, s5_, s6_])
    refine tk_ 5 ?_ rfl ?_
    refine wpAnyH_done (by kernel_rfl) ?_ _
    clear p0 p1 p2
    have hn : n2 = t.length + 1 := by rw [I2.out.1, List.length_cons]
    have hn0 : 0 < n2 := by omega
    have hz : ((n2 : Int) == 0) = false := by simp; omega
    obtain ⟨b, off, y, rfl, hy, c0⟩ := int_at I2.out hn0
    obtain rfl : x = y := by simpa using hy
    have c1 := Kept.cell (Kept.refl w2) c0
    rw [Nat.add_zero] at c1
    clear hy c0 hn
    go_wp2_with fail
    go_ret2
    exact ⟨rfl, (Kept.trans HK1.out KB2.out)⟩
set_option maxRecDepth 100000 in
set_option maxHeartbeats 4000000 in
theorem r24second (s : Sls) (n : Nrm) (form c : Int) (SA : Option Addr) (sm sc : Nat) (R : List Rng) (w : World) (hN : NormAt w s n) (htag : ∀ m ∈ n.decomp, m.tag.size ≤ 1000) (hsm : sm ≤ 5000) (hR : Rngs w SA sm R) :
    Calls Tryz.prog 82 #[s.val, .int .i64 form, .int .i64 c, .agg #[.slice SA sm sc]] w (RetB w (sndR (comps form) R ((fullOf (usableN n).decomp (cpOf form) c).head?))) := by
  have hk0_ := Kept.alloc (Kept.refl w) (Obj.cells #[Value.slice s.Ac s.nc s.cc, Value.slice s.Am s.nm s.cm, Value.slice s.Ae s.ne s.ce] 28)
  have hk1_ := Kept.alloc hk0_ (Obj.cells #[Value.slice SA sm sc] 26)
  have HK1 := Lib.hid hk1_
  have hb0_ := (alloc_lift (o := (Obj.cells #[Value.slice SA sm sc] 26)) (box_block w (Obj.cells #[Value.slice s.Ac s.nc s.cc, Value.slice s.Am s.nm s.cm, Value.slice s.Ae s.ne s.ce] 28)))
  have x0_ := cell_of_block (i := 0) hb0_ rfl
  have x1_ := cell_of_block (i := 1) hb0_ rfl
  have x2_ := cell_of_block (i := 2) hb0_ rfl
  have hb1_ := (box_block (w.alloc (Obj.cells #[Value.slice s.Ac s.nc s.cc, Value.slice s.Am s.nm s.cm, Value.slice s.Ae s.ne s.ce] 28)) (Obj.cells #[Value.slice SA sm sc] 26))
  simp only [World.size_alloc] at hb1_
  have x3_ := cell_of_block (i := 0) hb1_ rfl
  simp only [s4_, s5_, s6_] at x0_ x1_ x2_ x3_
  have HX0 := Lib.hid x0_
  have HX1 := Lib.hid x1_
  have HX2 := Lib.hid x2_
  have HX3 := Lib.hid x3_
  have HB0 := Lib.hid hb0_
  have HB1 := Lib.hid hb1_
  clear x0_ x1_ x2_ x3_ hb0_ hb1_
  have HST := Lib.hid (fun w' (hk : Kept w w') => r24start s n form c w' (hN.kept hk) htag)
  have HRR := Lib.hid hR
  clear hN htag hR hk0_ hk1_
  generalize (fullOf (usableN n).decomp (cpOf form) c).head? = X at *
  have HCP := Lib.hid (fun w' => r24composes form w')
  generalize comps form = cp at *
  cases X with
  | none =>
    cases cp
    · unfold Sls.val at *
      go_enter Tryz.func82, Tryz.ntmps82
      have p0 := HX0.out
      have p1 := HX1.out
      have p2 := HX2.out
      have p3 := HX3.out
      go_wp2_with fail
      refine (HST.out _ (Kept.trans HK1.out (Kept.refl ((w.alloc (Obj.cells #[Value.slice s.Ac s.nc s.cc, Value.slice s.Am s.nm s.cm, Value.slice s.Ae s.ne s.ce] 28)).alloc (Obj.cells #[Value.slice SA sm sc] 26))))).mono ?_
      rintro e w1 ⟨rfl, k1⟩
      clear p0 p1 p2 p3
      have KB1 := Lib.hid (Kept.trans (Kept.refl ((w.alloc (Obj.cells #[Value.slice s.Ac s.nc s.cc, Value.slice s.Am s.nm s.cm, Value.slice s.Ae s.ne s.ce] 28)).alloc (Obj.cells #[Value.slice SA sm sc] 26))) k1)
      have p0 := Kept.cell KB1.out HX0.out
      have p1 := Kept.cell KB1.out HX1.out
      have p2 := Kept.cell KB1.out HX2.out
      have p3 := Kept.cell KB1.out HX3.out
      go_wp2_with fail
      refine (HCP.out _).mono ?_
      rintro e w2 ⟨rfl, k2⟩
      clear p0 p1 p2 p3
      have KB2 := Lib.hid (Kept.trans KB1.out k2)
      go_wp2_with fail
      go_ret
      exact ⟨ret_bool (by simp [sndR]), (Kept.trans HK1.out KB2.out)⟩
    · unfold Sls.val at *
      go_enter Tryz.func82, Tryz.ntmps82
      have p0 := HX0.out
      have p1 := HX1.out
      have p2 := HX2.out
      have p3 := HX3.out
      go_wp2_with fail
      refine (HST.out _ (Kept.trans HK1.out (Kept.refl ((w.alloc (Obj.cells #[Value.slice s.Ac s.nc s.cc, Value.slice s.Am s.nm s.cm, Value.slice s.Ae s.ne s.ce] 28)).alloc (Obj.cells #[Value.slice SA sm sc] 26))))).mono ?_
      rintro e w1 ⟨rfl, k1⟩
      clear p0 p1 p2 p3
      have KB1 := Lib.hid (Kept.trans (Kept.refl ((w.alloc (Obj.cells #[Value.slice s.Ac s.nc s.cc, Value.slice s.Am s.nm s.cm, Value.slice s.Ae s.ne s.ce] 28)).alloc (Obj.cells #[Value.slice SA sm sc] 26))) k1)
      have p0 := Kept.cell KB1.out HX0.out
      have p1 := Kept.cell KB1.out HX1.out
      have p2 := Kept.cell KB1.out HX2.out
      have p3 := Kept.cell KB1.out HX3.out
      go_wp2_with fail
      refine (HCP.out _).mono ?_
      rintro e w2 ⟨rfl, k2⟩
      clear p0 p1 p2 p3
      have KB2 := Lib.hid (Kept.trans KB1.out k2)
      go_wp2_with fail
      go_ret
      exact ⟨ret_bool (by simp [sndR]), (Kept.trans HK1.out KB2.out)⟩
  | some x =>
    cases cp
    · unfold Sls.val at *
      go_enter Tryz.func82, Tryz.ntmps82
      have p0 := HX0.out
      have p1 := HX1.out
      have p2 := HX2.out
      have p3 := HX3.out
      go_wp2_with fail
      refine (HST.out _ (Kept.trans HK1.out (Kept.refl ((w.alloc (Obj.cells #[Value.slice s.Ac s.nc s.cc, Value.slice s.Am s.nm s.cm, Value.slice s.Ae s.ne s.ce] 28)).alloc (Obj.cells #[Value.slice SA sm sc] 26))))).mono ?_
      rintro e w1 ⟨rfl, k1⟩
      clear p0 p1 p2 p3
      have KB1 := Lib.hid (Kept.trans (Kept.refl ((w.alloc (Obj.cells #[Value.slice s.Ac s.nc s.cc, Value.slice s.Am s.nm s.cm, Value.slice s.Ae s.ne s.ce] 28)).alloc (Obj.cells #[Value.slice SA sm sc] 26))) k1)
      have p0 := Kept.cell KB1.out HX0.out
      have p1 := Kept.cell KB1.out HX1.out
      have p2 := Kept.cell KB1.out HX2.out
      have p3 := Kept.cell KB1.out HX3.out
      go_wp2_with fail
      refine (HCP.out _).mono ?_
      rintro e w2 ⟨rfl, k2⟩
      clear p0 p1 p2 p3
      have KB2 := Lib.hid (Kept.trans KB1.out k2)
      go_wp2_with fail
      go_ret
      exact ⟨ret_bool (by simp [sndR]), (Kept.trans HK1.out KB2.out)⟩
    · unfold Sls.val at *
      go_enter Tryz.func82, Tryz.ntmps82
      have p0 := HX0.out
      have p1 := HX1.out
      have p2 := HX2.out
      have p3 := HX3.out
      go_wp2_with fail
      refine (HST.out _ (Kept.trans HK1.out (Kept.refl ((w.alloc (Obj.cells #[Value.slice s.Ac s.nc s.cc, Value.slice s.Am s.nm s.cm, Value.slice s.Ae s.ne s.ce] 28)).alloc (Obj.cells #[Value.slice SA sm sc] 26))))).mono ?_
      rintro e w1 ⟨rfl, k1⟩
      clear p0 p1 p2 p3
      have KB1 := Lib.hid (Kept.trans (Kept.refl ((w.alloc (Obj.cells #[Value.slice s.Ac s.nc s.cc, Value.slice s.Am s.nm s.cm, Value.slice s.Ae s.ne s.ce] 28)).alloc (Obj.cells #[Value.slice SA sm sc] 26))) k1)
      have p0 := Kept.cell KB1.out HX0.out
      have p1 := Kept.cell KB1.out HX1.out
      have p2 := Kept.cell KB1.out HX2.out
      have p3 := Kept.cell KB1.out HX3.out
      go_wp2_with fail
      refine (HCP.out _).mono ?_
      rintro e w2 ⟨rfl, k2⟩
      clear p0 p1 p2 p3
      have KB2 := Lib.hid (Kept.trans KB1.out k2)
      have p0 := Kept.cell KB2.out HX0.out
      have p1 := Kept.cell KB2.out HX1.out
      have p2 := Kept.cell KB2.out HX2.out
      have p3 := Kept.cell KB2.out HX3.out
      go_wp2_with fail
      refine (r02Has SA sm sc R x _ (by omega) (HRR.out.kept (Kept.trans HK1.out KB2.out))).mono ?_
      rintro e w3 ⟨rfl, k3⟩
      clear p0 p1 p2 p3
      have KB3 := Lib.hid (Kept.trans KB2.out k3)
      go_wp2_with fail
      go_ret
      exact ⟨ret_bool (by simp [sndR]), (Kept.trans HK1.out KB3.out)⟩
set_option maxRecDepth 100000 in
set_option maxHeartbeats 4000000 in
theorem r24boundary (s : Sls) (n : Nrm) (form c : Int) (SA : Option Addr) (sm sc : Nat) (R : List Rng) (w : World) (hN : NormAt w s n) (htag : ∀ m ∈ n.decomp, m.tag.size ≤ 1000) (hsm : sm ≤ 5000) (hR : Rngs w SA sm R) (hS : ∀ x, hasR R x = secondB (usableN n) x) :
    Calls Tryz.prog 66 #[s.val, .int .i64 form, .int .i64 c, .agg #[.slice SA sm sc]] w (RetB w (boundB n form c)) := by
  have hk0_ := Kept.alloc (Kept.refl w) (Obj.cells #[Value.slice s.Ac s.nc s.cc, Value.slice s.Am s.nm s.cm, Value.slice s.Ae s.ne s.ce] 28)
  have hk1_ := Kept.alloc hk0_ (Obj.cells #[Value.slice SA sm sc] 26)
  have HK1 := Lib.hid hk1_
  have hb0_ := (alloc_lift (o := (Obj.cells #[Value.slice SA sm sc] 26)) (box_block w (Obj.cells #[Value.slice s.Ac s.nc s.cc, Value.slice s.Am s.nm s.cm, Value.slice s.Ae s.ne s.ce] 28)))
  have x0_ := cell_of_block (i := 0) hb0_ rfl
  have x1_ := cell_of_block (i := 1) hb0_ rfl
  have x2_ := cell_of_block (i := 2) hb0_ rfl
  have hb1_ := (box_block (w.alloc (Obj.cells #[Value.slice s.Ac s.nc s.cc, Value.slice s.Am s.nm s.cm, Value.slice s.Ae s.ne s.ce] 28)) (Obj.cells #[Value.slice SA sm sc] 26))
  simp only [World.size_alloc] at hb1_
  have x3_ := cell_of_block (i := 0) hb1_ rfl
  simp only [s4_, s5_, s6_] at x0_ x1_ x2_ x3_
  have HX0 := Lib.hid x0_
  have HX1 := Lib.hid x1_
  have HX2 := Lib.hid x2_
  have HX3 := Lib.hid x3_
  have HB0 := Lib.hid hb0_
  have HB1 := Lib.hid hb1_
  clear x0_ x1_ x2_ x3_ hb0_ hb1_
  have HST := Lib.hid (fun w' (hk : Kept w w') => r24start s n form c w' (hN.kept hk) htag)
  have HSN := Lib.hid (fun w' (hk : Kept w w') => r24second s n form c SA sm sc R w' (hN.kept hk) htag hsm (hR.kept hk))
  have HDA := Lib.hid (fun w' (hk : Kept w w') => r21data s n w' (hN.kept hk) htag)
  have HNU := Lib.hid (usableS_at hN)
  have HRS := Lib.hid (boundB_eq n form c)
  have HSB := Lib.hid (show sndB n form c = sndR (comps form) R (fullOf (usableN n).decomp (cpOf form) c).head? from by
    unfold sndB
    cases (fullOf (usableN n).decomp (cpOf form) c).head? with
    | none => simp [sndR]
    | some x => simp [sndR, hS])
  rw [← HSB.out] at HSN
  have HGD := Lib.hid (usableN_good n)
  clear hN htag hR hS HSB hk0_ hk1_
  generalize sndB n form c = sb at *
  generalize (fullOf (usableN n).decomp (cpOf form) c).head? = X at *
  have HKN := Lib.hid (fun w' => r24known form w')
  by_cases hf : form < 1 ∨ 4 < form
  · rw [decide_eq_true hf] at HKN
    rw [if_pos hf] at HRS
    clear hf
    unfold Sls.val at *
    go_enter Tryz.func66, Tryz.ntmps66
    have p0 := HX0.out
    have p1 := HX1.out
    have p2 := HX2.out
    have p3 := HX3.out
    go_wp2_with fail
    refine (HKN.out _).mono ?_
    rintro e w1 ⟨rfl, k1⟩
    clear p0 p1 p2 p3
    have KB1 := Lib.hid (Kept.trans (Kept.refl ((w.alloc (Obj.cells #[Value.slice s.Ac s.nc s.cc, Value.slice s.Am s.nm s.cm, Value.slice s.Ae s.ne s.ce] 28)).alloc (Obj.cells #[Value.slice SA sm sc] 26))) k1)
    go_wp2_with fail
    go_ret
    exact ⟨ret_bool HRS.out.symm, (Kept.trans HK1.out KB1.out)⟩
  · rw [decide_eq_false hf] at HKN
    rw [if_neg hf] at HRS
    clear hf
    have HFD := Lib.hid (fun u v w' => field_clsC (usableS s n).Ac (usableS s n).nc (usableS s n).cc u v w')
    cases X with
    | none =>
      unfold Sls.val at *
      go_enter Tryz.func66, Tryz.ntmps66
      have p0 := HX0.out
      have p1 := HX1.out
      have p2 := HX2.out
      have p3 := HX3.out
      go_wp2_with fail
      refine (HKN.out _).mono ?_
      rintro e w1 ⟨rfl, k1⟩
      clear p0 p1 p2 p3
      have KB1 := Lib.hid (Kept.trans (Kept.refl ((w.alloc (Obj.cells #[Value.slice s.Ac s.nc s.cc, Value.slice s.Am s.nm s.cm, Value.slice s.Ae s.ne s.ce] 28)).alloc (Obj.cells #[Value.slice SA sm sc] 26))) k1)
      have p0 := Kept.cell KB1.out HX0.out
      have p1 := Kept.cell KB1.out HX1.out
      have p2 := Kept.cell KB1.out HX2.out
      have p3 := Kept.cell KB1.out HX3.out
      go_wp2_with fail
      refine (HST.out _ (Kept.trans HK1.out KB1.out)).mono ?_
      rintro e w2 ⟨rfl, k2⟩
      clear p0 p1 p2 p3
      have KB2 := Lib.hid (Kept.trans KB1.out k2)
      go_wp2_with fail
      go_ret
      exact ⟨ret_bool HRS.out.symm, (Kept.trans HK1.out KB2.out)⟩
    | some x =>
      simp only at HRS
      have HST2 := Lib.hid (fun w' (hk : Kept w w') => r20Starter (usableS s n).Ac (usableS s n).nc (usableS s n).cc (usableN n).classes x w' (HNU.out.kept hk).bc (HNU.out.kept hk).cls)
      rw [usableN_spans n] at HST2
      generalize hq : classOf (usableN n).classes x = q at *
      clear hq
      generalize usableS s n = s1 at *
      by_cases hq0 : q = 0
      · have HZ := Lib.hid (show (q == 0) = true by simp [hq0])
        rw [decide_eq_true hq0] at HRS
        rw [HZ.out] at HST2
        clear hq0 HZ
        unfold Sls.val at *
        go_enter Tryz.func66, Tryz.ntmps66
        have p0 := HX0.out
        have p1 := HX1.out
        have p2 := HX2.out
        have p3 := HX3.out
        go_wp2_with fail
        refine (HKN.out _).mono ?_
        rintro e w1 ⟨rfl, k1⟩
        clear p0 p1 p2 p3
        have KB1 := Lib.hid (Kept.trans (Kept.refl ((w.alloc (Obj.cells #[Value.slice s.Ac s.nc s.cc, Value.slice s.Am s.nm s.cm, Value.slice s.Ae s.ne s.ce] 28)).alloc (Obj.cells #[Value.slice SA sm sc] 26))) k1)
        have p0 := Kept.cell KB1.out HX0.out
        have p1 := Kept.cell KB1.out HX1.out
        have p2 := Kept.cell KB1.out HX2.out
        have p3 := Kept.cell KB1.out HX3.out
        go_wp2_with fail
        refine (HST.out _ (Kept.trans HK1.out KB1.out)).mono ?_
        rintro e w2 ⟨rfl, k2⟩
        clear p0 p1 p2 p3
        have KB2 := Lib.hid (Kept.trans KB1.out k2)
        have p0 := Kept.cell KB2.out HX0.out
        have p1 := Kept.cell KB2.out HX1.out
        have p2 := Kept.cell KB2.out HX2.out
        have p3 := Kept.cell KB2.out HX3.out
        go_wp2_with fail
        refine (HDA.out _ (Kept.trans HK1.out KB2.out)).mono ?_
        rintro e w3 ⟨rfl, k3⟩
        clear p0 p1 p2 p3
        have KB3 := Lib.hid (Kept.trans KB2.out k3)
        have fl := HFD.out (.slice s1.Am s1.nm s1.cm) (.slice s1.Ae s1.ne s1.ce)
        have p0 := Kept.cell KB3.out HX0.out
        have p1 := Kept.cell KB3.out HX1.out
        have p2 := Kept.cell KB3.out HX2.out
        have p3 := Kept.cell KB3.out HX3.out
        go_wp2_with fail
        refine (HST2.out _ (Kept.trans HK1.out KB3.out)).mono ?_
        rintro e w4 ⟨rfl, k4⟩
        clear p0 p1 p2 p3
        have KB4 := Lib.hid (Kept.trans KB3.out k4)
        clear fl
        have p0 := Kept.cell KB4.out HX0.out
        have p1 := Kept.cell KB4.out HX1.out
        have p2 := Kept.cell KB4.out HX2.out
        have p3 := Kept.cell KB4.out HX3.out
        go_wp2_with fail
        refine (HSN.out _ (Kept.trans HK1.out KB4.out)).mono ?_
        rintro e w5 ⟨rfl, k5⟩
        clear p0 p1 p2 p3
        have KB5 := Lib.hid (Kept.trans KB4.out k5)
        go_wp2_with fail
        go_ret
        exact ⟨ret_bool (by rw [HRS.out]; simp), (Kept.trans HK1.out KB5.out)⟩
      · have HZ := Lib.hid (show (q == 0) = false by simp [hq0])
        rw [decide_eq_false hq0] at HRS
        rw [HZ.out] at HST2
        clear hq0 HZ
        unfold Sls.val at *
        go_enter Tryz.func66, Tryz.ntmps66
        have p0 := HX0.out
        have p1 := HX1.out
        have p2 := HX2.out
        have p3 := HX3.out
        go_wp2_with fail
        refine (HKN.out _).mono ?_
        rintro e w1 ⟨rfl, k1⟩
        clear p0 p1 p2 p3
        have KB1 := Lib.hid (Kept.trans (Kept.refl ((w.alloc (Obj.cells #[Value.slice s.Ac s.nc s.cc, Value.slice s.Am s.nm s.cm, Value.slice s.Ae s.ne s.ce] 28)).alloc (Obj.cells #[Value.slice SA sm sc] 26))) k1)
        have p0 := Kept.cell KB1.out HX0.out
        have p1 := Kept.cell KB1.out HX1.out
        have p2 := Kept.cell KB1.out HX2.out
        have p3 := Kept.cell KB1.out HX3.out
        go_wp2_with fail
        refine (HST.out _ (Kept.trans HK1.out KB1.out)).mono ?_
        rintro e w2 ⟨rfl, k2⟩
        clear p0 p1 p2 p3
        have KB2 := Lib.hid (Kept.trans KB1.out k2)
        have p0 := Kept.cell KB2.out HX0.out
        have p1 := Kept.cell KB2.out HX1.out
        have p2 := Kept.cell KB2.out HX2.out
        have p3 := Kept.cell KB2.out HX3.out
        go_wp2_with fail
        refine (HDA.out _ (Kept.trans HK1.out KB2.out)).mono ?_
        rintro e w3 ⟨rfl, k3⟩
        clear p0 p1 p2 p3
        have KB3 := Lib.hid (Kept.trans KB2.out k3)
        have fl := HFD.out (.slice s1.Am s1.nm s1.cm) (.slice s1.Ae s1.ne s1.ce)
        have p0 := Kept.cell KB3.out HX0.out
        have p1 := Kept.cell KB3.out HX1.out
        have p2 := Kept.cell KB3.out HX2.out
        have p3 := Kept.cell KB3.out HX3.out
        go_wp2_with fail
        refine (HST2.out _ (Kept.trans HK1.out KB3.out)).mono ?_
        rintro e w4 ⟨rfl, k4⟩
        clear p0 p1 p2 p3
        have KB4 := Lib.hid (Kept.trans KB3.out k4)
        clear fl
        go_wp2_with fail
        go_ret
        exact ⟨ret_bool (by rw [HRS.out]; simp), (Kept.trans HK1.out KB4.out)⟩
end Go.Proofs.YtomgchfjachedaaGreatDoor
namespace Go.Proofs.YtomgchfjachedaaGreatDoor
open Go Go.RowKit
theorem grown_but {b0 : Nat} {W x y : World} {row : Option Nat} (h : KeptBut [b0] W x) (hg : x.grownBy y row) (hr : ∀ g, row = some g → g = b0 ∨ W.heap.size ≤ g) : KeptBut [b0] W y :=
  ⟨hg.os.trans h.os, hg.tape.trans h.tape, hg.output.trans h.output, Nat.le_trans h.size hg.size, fun i hi hn => (hg.block i (by have := h.size; omega) (fun e => by
    simp only [List.mem_singleton] at hn
    rcases hr i e.symm with h1 | h1 <;> omega)).trans (h.block i hi hn)⟩
theorem tris_but {w w' : World} {A : Option Addr} {n be : Nat} {T : List Tri} (h : Tris w A n T) (hk : KeptBut [be] w w') (ha : ∀ p, A = some p → p.block ≠ be) : Tris w' A n T :=
  ⟨h.1, fun hn => by
    obtain ⟨b, off, e, hc⟩ := h.2 hn
    exact ⟨b, off, e, fun i x hx j u hu => KeptBut.cell hk (hc i x hx j u hu) (by simp only [List.mem_singleton]; exact ha _ e)⟩⟩
set_option maxRecDepth 100000 in
set_option maxHeartbeats 4000000 in
theorem r22Second (s : Sls) (n : Nrm) (w : World) (hN : NormAt w s n) (htag : ∀ m ∈ n.decomp, m.tag.size ≤ 1000) : Calls Tryz.prog 46 #[s.val] w (RetSecond w n) := by
  have hk1 := Kept.alloc (Kept.refl w) (Obj.cells #[Value.slice s.Ac s.nc s.cc, Value.slice s.Am s.nm s.cm, Value.slice s.Ae s.ne s.ce] 28)
  have hk2 := Kept.alloc hk1 (Obj.cells #[Value.slice none 0 0] 26)
  have hk3 := Kept.alloc hk2 (Obj.cells #[Value.int IntKind.i64 4449, Value.int IntKind.i64 4469, Value.int IntKind.i64 4520, Value.int IntKind.i64 4546] 81)
  have HPA := Lib.hid (r22Pairs s n _ (hN.kept hk3) htag)
  have HGD := Lib.hid (usableN_good n)
  have HX := Lib.hid (alloc_lift (o := (Obj.cells #[Value.int IntKind.i64 4449, Value.int IntKind.i64 4469, Value.int IntKind.i64 4520, Value.int IntKind.i64 4546] 81)) (alloc_lift (o := (Obj.cells #[Value.slice none 0 0] 26)) (box_block w (Obj.cells #[Value.slice s.Ac s.nc s.cc, Value.slice s.Am s.nm s.cm, Value.slice s.Ae s.ne s.ce] 28))))
  have hy := alloc_lift (o := (Obj.cells #[Value.int IntKind.i64 4449, Value.int IntKind.i64 4469, Value.int IntKind.i64 4520, Value.int IntKind.i64 4546] 81)) (box_block (w.alloc (Obj.cells #[Value.slice s.Ac s.nc s.cc, Value.slice s.Am s.nm s.cm, Value.slice s.Ae s.ne s.ce] 28)) (Obj.cells #[Value.slice none 0 0] 26))
  have hz := box_block ((w.alloc (Obj.cells #[Value.slice s.Ac s.nc s.cc, Value.slice s.Am s.nm s.cm, Value.slice s.Ae s.ne s.ce] 28)).alloc (Obj.cells #[Value.slice none 0 0] 26)) (Obj.cells #[Value.int IntKind.i64 4449, Value.int IntKind.i64 4469, Value.int IntKind.i64 4520, Value.int IntKind.i64 4546] 81)
  simp only [World.size_alloc] at hy hz
  have HY := Lib.hid hy
  have HZ := Lib.hid hz
  have HK3 := Lib.hid hk3
  obtain ⟨i0, hi, hz0, hz1, hz2⟩ := info_parts info_rng
  have HI0 := Lib.hid hi
  have HZ0 := Lib.hid hz0
  have HZ1 := Lib.hid hz1
  have HZ2 := Lib.hid hz2
  clear hN htag hk1 hk2 hk3 hy hz hi hz0 hz1 hz2
  unfold Sls.val at *
  go_enter Tryz.func46, Tryz.ntmps46
  go_wp2_with fail
  obtain ⟨B, hB⟩ : ∃ B : Nat, B = w.heap.size := ⟨_, rfl⟩
  have HBW := Lib.hid hB
  rw [← hB] at HX HY HZ ⊢
  clear hB
  generalize (((w.alloc (Obj.cells #[Value.slice s.Ac s.nc s.cc, Value.slice s.Am s.nm s.cm, Value.slice s.Ae s.ne s.ce] 28)).alloc (Obj.cells #[Value.slice none 0 0] 26)).alloc (Obj.cells #[Value.int IntKind.i64 4449, Value.int IntKind.i64 4469, Value.int IntKind.i64 4520, Value.int IntKind.i64 4546] 81)) = W3 at *
  have p0 := cell_of_block (i := 0) HX.out rfl
  have p1 := cell_of_block (i := 1) HX.out rfl
  have p2 := cell_of_block (i := 2) HX.out rfl
  simp only [s4_, s5_, s6_] at p0 p1 p2
  go_wp2_with fail
  refine HPA.out.mono ?_
  rintro e w2 ⟨A, m, c, T, rfl, hle, hmb, hT, hper, hnew, k2⟩
  have HTT := Lib.hid hT
  have HTN := Lib.hid hT.1
  have HPER := Lib.hid hper
  have HNEW := Lib.hid hnew
  have K2 := Lib.hid (Kept.trans HK3.out k2)
  have hb2 : B + 1 + 1 < W3.heap.size := block_lt HZ.out
  have hs2 := k2.size
  have HBS := Lib.hid ((k2.block (B + 1) (by omega)).trans HY.out)
  have HOL : Hid (OwnR w2 (B + 1 + 1) (.slice (some ⟨B + 1 + 1, 0, none⟩) 2 2) (vtR ++ onesT (T.take 0))) := Lib.hid (own_lit ((k2.block (B + 1 + 1) hb2).trans HZ.out) rfl (by decide))
  clear hT hper hnew k2 p0 p1 p2 HPA HX HY HZ
  go_wp2_with fail
  go_loopw [3, 5] (fun p i wr => ∃ k : Nat, k ≤ m ∧ i = .int .i64 k ∧ OwnR wr (B + 1 + 1) p (vtR ++ onesT (T.take k)) ∧ (∀ g, p.ownBlock = some g → g = B + 1 + 1 ∨ w2.heap.size ≤ g) ∧ KeptBut [B + 1 + 1] w2 wr) (fun _ i _ => m - (intOf i).toNat)
  case atStart => exact ⟨0, Nat.zero_le _, rfl, HOL.out, fun g e => by simp only [Value.ownBlock, Option.some.injEq] at e; exact .inl e.symm, KeptBut.refl _ _⟩
  case round =>
    obtain ⟨k, hk, rfl, hown, hob, hkb⟩ := hrel
    have HO := Lib.hid hown
    have HOB := Lib.hid hob
    have HKB := Lib.hid hkb
    have hszr := hkb.size
    have HBL := Lib.hid (show (vtR ++ onesT (T.take k)).length ≤ 1002 by
      rw [List.length_append, onesT_length, List.length_take]
      simp only [vtR, List.length_cons, List.length_nil]
      omega)
    clear hown hob hkb
    by_cases hlt : k < m
    · obtain ⟨b, off, t, rfl, ht, c0, c1, c2⟩ := tri_at (tris_but HTT.out HKB.out (fun p hp => by have := HNEW.out p hp; omega)) hlt
      have HSN := Lib.hid (show vtR ++ onesT (T.take (k + 1)) = (vtR ++ onesT (T.take k)) ++ [⟨t.2.1, t.2.1⟩] by
        rw [take_succ_some ht]
        simp [onesT])
      clear ht c0 c2
      have hll := HBL.out
      generalize vtR ++ onesT (T.take k) = Y at *
      have c1a := Kept.cell (Kept.alloc (Kept.refl wr) (Obj.cells #[Value.int IntKind.i64 t.2.1, Value.int IntKind.i64 t.2.1] 81)) c1
      go_wp2_with fail
      go_region_law (refine step_append_lies _ (by rfl) (.tmp 17) (.tmp 29) 24 (by rfl) (B + 1 + 1) 81 i0 (.agg #[.int .i64 0, .int .i64 0]) 2 16 Tryz.underlying24 HI0.out HZ0.out HZ1.out HZ2.out rfl (by omega) u3 Y.length (Y.flatMap encR) (by rfl) ((HO.out.alloc _).drew) ⟨wr.heap.size, 0, none⟩ 1 1 [.int .i64 t.2.1, .int .i64 t.2.1] (by rfl) (by rfl) (World.news_of_block (cs := #[.int .i64 t.2.1, .int .i64 t.2.1]) (t := 81) (fr := (0, 0)) (heap_alloc_new wr _)) (by simp [Value.oneCell']) (by omega) (by unfold maxLen; omega) (by omega) (by simp; omega) (wr.heap.size + 1) (by simp) ?_; intro gg cap w7 hown7 hgrow hat hlt7)
      all_goals
        have hB4 : KeptBut [B + 1 + 1] w2 w7 := grown_but (KeptBut.trans HKB.out (Kept.but (Kept.drew (Kept.alloc (Kept.refl wr) (Obj.cells #[Value.int IntKind.i64 t.2.1, Value.int IntKind.i64 t.2.1] 81))) _)) hgrow HOB.out
        have HB4 := Lib.hid hB4
        have HO7 := Lib.hid hown7
        have HOB7 := Lib.hid (show gg = B + 1 + 1 ∨ w2.heap.size ≤ gg from by
          rcases hat with h | h
          · exact HOB.out gg h
          · right; omega)
        clear hB4 hown7 hgrow hat hlt7 c1 c1a
        go_wp2_with fail
        go_roundw
        case rel => exact ⟨k + 1, by omega, by go_num, by rw [HSN.out]; simpa [OwnR, encR] using HO7.out, fun g e => by simp only [Value.ownBlock, Option.some.injEq] at e; rw [← e]; exact HOB7.out, HB4.out⟩
        case measure => simp [intOf]; omega
    · have hfull : T.take k = T := List.take_of_length_le (by have := HTN.out; omega)
      have hown := HO.out
      have hll := HBL.out
      rw [hfull] at hown hll
      obtain ⟨A3, c3, hu, hle3, hI3⟩ := Sl.of_own (k := 2) (enc := encR) (fun _ => rfl) hown
      obtain ⟨m3, hm3⟩ : ∃ m3 : Nat, m3 = (vtR ++ onesT T).length := ⟨_, rfl⟩
      rw [← hm3] at hu hle3 hI3 hll
      have HMK := Lib.hid (r02Make A3 m3 c3 (vtR ++ onesT T) wr (by omega) hI3)
      rw [refMake_eq] at HMK
      have HRES := Lib.hid (show ∀ x, hasR (makeR (vtR ++ onesT T)) x = secondB (usableN n) x from fun x => by
        rw [has_make]
        exact has_second_tr HGD.out HPER.out x)
      have HML := Lib.hid (show (makeR (vtR ++ onesT T)).length ≤ 2000 by have := makeR_length (vtR ++ onesT T); omega)
      clear hfull hown hI3 hm3
      generalize vtR ++ onesT T = Y at *
      have HRR := Lib.hid (makeR_again Y)
      have KW := Lib.hid (Below.trans K2.out (KeptBut.below HKB.out (B := w.heap.size) (fun b hb => by simp only [List.mem_singleton] at hb; have := HBW.out; omega) K2.out.size))
      have HBR := Lib.hid ((HKB.out.block (B + 1) (by omega) (by simp)).trans HBS.out)
      subst hu
      go_wp2_with fail
      refine HMK.out.mono ?_
      rintro e w6 ⟨A6, n6, c6, rfl, hle6, hI6, hk6⟩
      have hbs6 := (hk6.block (B + 1) (by omega)).trans HBR.out
      have b0 := cell_of_block (i := 0) hbs6 rfl
      have f0 := frozen_of_block (i := 0) hbs6
      simp only [s4_, s5_] at b0
      have HI6 := Lib.hid hI6
      have HB6 := Lib.hid hbs6
      have HNN := Lib.hid (show n6 ≤ 2000 by rw [hI6.1]; exact HML.out)
      have HK6 := Lib.hid (Kept.trans KW.out hk6)
      clear hI6 hbs6
      go_wp2_with fail
      have hc := heap_setCell_one (v := .slice A6 n6 c6) HB6.out
      have g0 : (w6.setCell ⟨B + 1, 0, none⟩ (.slice A6 n6 c6)).cell? ⟨B + 1, 0, none⟩ = some (.slice A6 n6 c6) := cell_of_block hc rfl
      refine bodyPost_ret (v := .agg #[.slice A6 n6 c6]) (by simp [results, Tryz.results46, go_sem, g0]) rfl ?_
      have hkf : Kept w (w6.setCell ⟨B + 1, 0, none⟩ (.slice A6 n6 c6)) := Kept.setCell HK6.out (by rw [HBW.out]; exact Nat.le_succ _) _
      refine ⟨makeR Y, A6, n6, c6, rfl, hle6, HNN.out, ?_, HRES.out, ?_, hkf⟩
      · exact HI6.out.setCell (block_noInt HB6.out) _
      · rw [← refMake_eq, ← HRR.out]
set_option maxRecDepth 100000 in
set_option maxHeartbeats 4000000 in
theorem r24Boundary (s : Sls) (n : Nrm) (form c : Int) (w : World) (hN : NormAt w s n) (htag : ∀ m ∈ n.decomp, m.tag.size ≤ 1000) : Calls Tryz.prog 34 #[s.val, .int .i64 form, .int .i64 c] w (RetB w (boundB n form c)) := by
  have hk0_ := Kept.alloc (Kept.refl w) (Obj.cells #[Value.slice s.Ac s.nc s.cc, Value.slice s.Am s.nm s.cm, Value.slice s.Ae s.ne s.ce] 28)
  have HK1 := Lib.hid hk0_
  have hb0_ := (box_block w (Obj.cells #[Value.slice s.Ac s.nc s.cc, Value.slice s.Am s.nm s.cm, Value.slice s.Ae s.ne s.ce] 28))
  have x0_ := cell_of_block (i := 0) hb0_ rfl
  have x1_ := cell_of_block (i := 1) hb0_ rfl
  have x2_ := cell_of_block (i := 2) hb0_ rfl
  simp only [s4_, s5_, s6_] at x0_ x1_ x2_
  have HX0 := Lib.hid x0_
  have HX1 := Lib.hid x1_
  have HX2 := Lib.hid x2_
  have HB0 := Lib.hid hb0_
  clear x0_ x1_ x2_ hb0_
  have HSE := Lib.hid (fun w' (hk : Kept w w') => r22Second s n w' (hN.kept hk) htag)
  have HBO := Lib.hid (fun SA sm sc R w' (hk : Kept w w') (h1 : sm ≤ 5000) (h2 : Rngs w' SA sm R) (h3 : ∀ x, hasR R x = secondB (usableN n) x) => r24boundary s n form c SA sm sc R w' (hN.kept hk) htag h1 h2 h3)
  clear hN htag hk0_
  generalize boundB n form c = res at *
  unfold Sls.val at *
  go_enter Tryz.func34, Tryz.ntmps34
  have p0 := HX0.out
  have p1 := HX1.out
  have p2 := HX2.out
  go_wp2_with fail
  refine wp_region_held_drew (S := (fun w' => w'.cell? ⟨w.heap.size, 0, none⟩ = some (.slice s.Ac s.nc s.cc) ∧ w'.cell? ⟨w.heap.size, 1, none⟩ = some (.slice s.Am s.nm s.cm) ∧ w'.cell? ⟨w.heap.size, 2, none⟩ = some (.slice s.Ae s.ne s.ce))) (by kernel_rfl) ⟨p0, p1, p2⟩ (fun hHeld => ?_)
  refine tk_ 0 ?_ rfl ?_; refine tk_ 1 ?_ rfl ?_; refine tk_ 2 ?_ rfl ?_; refine tk_ 3 ?_ rfl ?_
  refine rd_ 4 rfl (fun K hK => ?_)
  go_simp
  (refine (HSE.out _ (Kept.trans HK1.out (Kept.drew (Kept.refl (w.alloc (Obj.cells #[Value.slice s.Ac s.nc s.cc, Value.slice s.Am s.nm s.cm, Value.slice s.Ae s.ne s.ce] 28)))))).mono ?_; rintro e w1 ⟨R1, S1, m1, c1, rfl, le1, lm1, i1, hs1, _, k1⟩; have R1_ := Lib.hid i1; have HS1 := Lib.hid hs1; clear i1 hs1; have KB1 := Lib.hid (Kept.trans (Kept.drew (Kept.refl (w.alloc (Obj.cells #[Value.slice s.Ac s.nc s.cc, Value.slice s.Am s.nm s.cm, Value.slice s.Ae s.ne s.ce] 28)))) k1))
  go_wp2_with fail
  refine hK.out _ _ ⟨Kept.cell KB1.out HX0.out, Kept.cell KB1.out HX1.out, Kept.cell KB1.out HX2.out⟩ (fun hHeld => ?_)
  clear hK K
  (try simp only [Act.put, s1_, s2_, s3_, s4_, s5_, s6_])
  refine rd_ 5 rfl (fun K hK => ?_)
  go_simp
  (refine (HBO.out S1 m1 c1 R1 _ (Kept.trans HK1.out KB1.out) (by omega) R1_.out HS1.out).mono ?_; rintro e w2 ⟨rfl, k2⟩; have KB2 := Lib.hid (Kept.trans KB1.out k2))
  go_wp2_with fail
  refine hK.out _ _ ⟨Kept.cell KB2.out HX0.out, Kept.cell KB2.out HX1.out, Kept.cell KB2.out HX2.out⟩ (fun hHeld => ?_)
  clear hK K
  (try simp only [Act.put, s1_, s2_, s3_, s4_, s5_, s6_])
  refine tk_ 6 ?_ rfl ?_
  refine wpAnyH_done (by kernel_rfl) ?_ _
  clear p0 p1 p2
  go_wp2_with fail
  go_ret
  exact ⟨rfl, (Kept.trans HK1.out KB2.out)⟩
end Go.Proofs.YtomgchfjachedaaGreatDoor
