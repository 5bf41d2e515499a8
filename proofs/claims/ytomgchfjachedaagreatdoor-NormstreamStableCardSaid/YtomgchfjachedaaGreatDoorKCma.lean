/- Pairs of numbers as keys of maps, and that two pairs are compared part by part. hangul.Compose. And more of that kind. -/
import Derived.Test.YtomgchfjachedaaGreatDoorKBase
import Derived.Test.YtomgchfjachedaaGreatDoorKOwn
import Derived.Test.YtomgchfjachedaaGreatDoorKPq
import Derived.Test.YtomgchfjachedaaGreatDoorKSq
import Derived.Test.YtomgchfjachedaaGreatDoorKPl
import Derived.Test.YtomgchfjachedaaGreatDoorKExpC
import Derived.Test.YtomgchfjachedaaGreatDoorKStc
namespace Go.Proofs.YtomgchfjachedaaGreatDoor
open Go Go.RowKit
def encP (p : Int × Int) : Value := .agg #[.int .i64 p.1, .int .i64 p.2]
theorem pair_check (b : Bool) (p : Int × Int) (w : World) : (Instr.checkKey b 10000 139 (encP p)).run Tryz.prog w = .ok () w := by
  kernel_rfl
theorem pair_eqIn (x y a b : Int) (w : World) (d : Nat) : (Op.equalIn (d + 2) 139 (.agg #[.int .i64 x, .int .i64 y]) (.agg #[.int .i64 a, .int .i64 b])).run Tryz.prog w = .ok (decide (x = a ∧ y = b)) w := by
  have hu : Tryz.prog.underlying 139 = some (.array 2 3) := by kernel_rfl
  have hu3 : Tryz.prog.underlying 3 = some (.int .i64) := by kernel_rfl
  have hs : (sizeOf 3).run Tryz.prog w = .ok 1 w := by kernel_rfl
  have hp0 : ∀ x y, (part 3 #[.int .i64 x, .int .i64 y] (0 * 1)).run Tryz.prog w = .ok (.int .i64 x) w := fun x y => by kernel_rfl
  have hp1 : ∀ x y, (part 3 #[.int .i64 x, .int .i64 y] (1 * 1)).run Tryz.prog w = .ok (.int .i64 y) w := fun x y => by kernel_rfl
  rw [Op.equalIn]
  simp only [Sem.run_bind, run_underlying hu, Result.andThen_ok, hs]
  rw [Std.Legacy.Range.forIn_eq_forIn_range']
  by_cases h1 : x = a
  · subst h1
    by_cases h2 : y = b
    · subst h2
      simp [Std.Legacy.Range.size, List.range'_succ, List.forIn_cons, Sem.run_bind, hp0, hp1, run_equalIn_int w d 3 .i64 .i64 _ _ hu3]
    · simp [Std.Legacy.Range.size, List.range'_succ, List.forIn_cons, Sem.run_bind, hp0, hp1, run_equalIn_int w d 3 .i64 .i64 _ _ hu3, h2]
  · simp [Std.Legacy.Range.size, List.range'_succ, List.forIn_cons, Sem.run_bind, hp0, run_equalIn_int w d 3 .i64 .i64 _ _ hu3, h1]
theorem pair_eql (x y a b : Int) (w : World) : (binOp .eql 139 (.agg #[.int .i64 x, .int .i64 y]) (.agg #[.int .i64 a, .int .i64 b])).run Tryz.prog w = .ok (.bool (decide (x = a ∧ y = b))) w := by
  simp only [binOp]
  simp only [Op.equal, Op.maxDepth, Sem.run_bind, pair_eqIn x y a b w 9998, Result.andThen_ok, Sem.run_pure]
theorem pair_eq (p q : Int × Int) (w : World) : (Op.equal 139 (encP p) (encP q)).run Tryz.prog w = .ok (decide (q = p)) w := by
  obtain ⟨x, s⟩ := p
  obtain ⟨y, t⟩ := q
  unfold Op.equal Op.maxDepth encP
  rw [pair_eqIn x s y t w 9998]
  congr 1
  simp only [Prod.mk.injEq]
  by_cases h1 : x = y
  · subst h1
    by_cases h2 : s = t
    · subst h2; simp
    · have : ¬ t = s := fun e => h2 e.symm
      simp [h2, this]
  · have : ¬ y = x := fun e => h1 e.symm
    simp [h1, this]
theorem findAsking_pair (k : Int × Int) (w : World) : ∀ (es : List MapEntry) (M : List ((Int × Int) × Value)) (i : Nat), es.map (fun e => (e.key, e.val)) = M.map (fun p => (encP p.1, p.2)) →
    (Instr.findAsking 139 (encP k) es i).run Tryz.prog w = .ok (findKV M k i) w
  | [], [], _, _ => by simp [Instr.findAsking, findKV]
  | [], _ :: _, _, h => by simp at h
  | _ :: _, [], _, h => by simp at h
  | e :: es, p :: M, i, h => by
    simp only [List.map_cons, List.cons.injEq, Prod.mk.injEq] at h
    simp only [Instr.findAsking, Sem.run_bind, h.1.1, pair_eq, Result.andThen_ok, findKV]
    by_cases hk : p.1 = k
    · simp [hk, h.1.2]
    · simp only [hk, decide_false, Bool.false_eq_true, if_false]
      exact findAsking_pair k w es M (i + 1) h.2
theorem keyOk_pair : KeyOk Tryz.prog 139 encP where
  chk := pair_check
  find := fun k es M w h => by
    have hu : Tryz.prog.underlying 139 = some (.array 2 3) := by kernel_rfl
    cases es with
    | nil =>
      cases M with
      | nil => simp [Instr.findKey, run_underlying hu, Instr.findNow, findKV]
      | cons p M => simp at h
    | cons e es =>
      have hn : ∀ n t v, Instr.sameNow (.array n t) (encP k) v = none := fun n t v => rfl
      simp only [Instr.findKey, Sem.run_bind, run_underlying hu, Result.andThen_ok, Instr.findNow, hn]
      exact findAsking_pair k w (e :: es) M 0 h
  same := fun k => by
    have h : ∀ n : Nat, Instr.sameBits (n + 2) (encP k) (encP k) = true := fun n => by simp [Instr.sameBits, encP]
    exact h 9998
end Go.Proofs.YtomgchfjachedaaGreatDoor
namespace Go.Proofs.YtomgchfjachedaaGreatDoor
open Go Go.RowKit
def RetOI (w : World) (r : Option Int) (e : Ending) (w' : World) : Prop := e = .returned (.tuple #[.int .i64 (r.getD 0), .bool r.isSome]) ∧ Kept w w'
set_option maxHeartbeats 1000000 in
theorem hcompose_any (a b : Int) (w : World) : Calls Tryz.prog 147 #[.int .i64 a, .int .i64 b] w (RetOI w (compH a b)) := by
  have HK := Lib.hid (Kept.alloc (Kept.refl w) (Obj.cells #[Value.int IntKind.i64 (kind a), Value.int IntKind.i64 (kind b)] 139))
  by_cases h1 : kind a = 1 ∧ kind b = 2
  · have HC := Lib.hid (show compH a b = some (44032 + ((a - 4352) * 21 + b - 4449) * 28) from if_pos h1)
    obtain ⟨ha1, ha2⟩ := kind_1 h1.1
    obtain ⟨hb1, hb2⟩ := kind_2 h1.2
    have he : ∀ w, (binOp .eql 139 (.agg #[.int .i64 (kind a), .int .i64 (kind b)]) (.agg #[.int .i64 1, .int .i64 2])).run Tryz.prog w = .ok (.bool true) w := fun w => by rw [pair_eql]; simp [h1]
    clear h1
    go_enter Tryz.func147, Tryz.ntmps147
    go_wp2_with (go_at_call 89; refine (kind_any _ _).mono ?_; rintro e w' ⟨rfl, rfl⟩)
    go_ret2
    rw [HC.out]
    exact ⟨rfl, HK.out⟩
  · have he : ∀ w, (binOp .eql 139 (.agg #[.int .i64 (kind a), .int .i64 (kind b)]) (.agg #[.int .i64 1, .int .i64 2])).run Tryz.prog w = .ok (.bool false) w := fun w => by rw [pair_eql]; simp only [h1, decide_false]
    by_cases h2 : kind a = 4 ∧ kind b = 3
    · have HC := Lib.hid (show compH a b = some (a + 1 + b - 4520) by unfold compH; rw [if_neg h1, if_pos h2])
      obtain ⟨ha1, ha2, _⟩ := kind_4 h2.1
      obtain ⟨hb1, hb2⟩ := kind_3 h2.2
      have he2 : ∀ w, (binOp .eql 139 (.agg #[.int .i64 (kind a), .int .i64 (kind b)]) (.agg #[.int .i64 4, .int .i64 3])).run Tryz.prog w = .ok (.bool true) w := fun w => by rw [pair_eql]; simp [h2]
      clear h1 h2
      go_enter Tryz.func147, Tryz.ntmps147
      go_wp2_with (go_at_call 89; refine (kind_any _ _).mono ?_; rintro e w' ⟨rfl, rfl⟩)
      go_ret2
      rw [HC.out]
      exact ⟨rfl, HK.out⟩
    · have HC := Lib.hid (show compH a b = none by unfold compH; rw [if_neg h1, if_neg h2])
      have he2 : ∀ w, (binOp .eql 139 (.agg #[.int .i64 (kind a), .int .i64 (kind b)]) (.agg #[.int .i64 4, .int .i64 3])).run Tryz.prog w = .ok (.bool false) w := fun w => by rw [pair_eql]; simp only [h2, decide_false]
      clear h1 h2
      go_enter Tryz.func147, Tryz.ntmps147
      go_wp2_with (go_at_call 89; refine (kind_any _ _).mono ?_; rintro e w' ⟨rfl, rfl⟩)
      go_ret2
      rw [HC.out]
      exact ⟨rfl, HK.out⟩
end Go.Proofs.YtomgchfjachedaaGreatDoor
namespace Go.Proofs.YtomgchfjachedaaGreatDoor
open Go Go.RowKit
theorem hasR_snoc {l : List Rng} {k : Nat} {r : Rng} (h : l[k]? = some r) (x : Int) : hasR (l.take (k + 1)) x = (hasR (l.take k) x || inR x r) := any_take_snoc _ h
theorem hasR_at {l : List Rng} {k : Nat} {r : Rng} (h : l[k]? = some r) {x : Int} (hx : inR x r = true) : hasR l x = true := List.any_eq_true.2 ⟨r, mem_of_getElem?_some h, hx⟩
theorem hasR_bad {l : List Rng} {x : Int} (h : validB x = false) : hasR l x = false := by
  unfold hasR
  rw [List.any_eq_false]
  intro r _
  simp [inR, h]
set_option maxHeartbeats 1000000 in
theorem setHas (A : Option Addr) (n c : Nat) (l : List Rng) (x : Int) (w : World) (hn : n ≤ 100000) (hl : Rngs w A n l) :
    Calls Tryz.prog 74 #[.agg #[.slice A n c], .int .i64 x] w (RetB w (hasR l x)) := by
  have HL := Lib.hid hl
  have HN := Lib.hid hl.1
  have HK0 := Lib.hid (Kept.alloc (Kept.refl w) (Obj.cells #[Value.slice A n c] 26))
  clear hl
  cases hv : validB x
  · have HB := Lib.hid (hasR_bad (l := l) hv)
    go_enter Tryz.func74, Tryz.ntmps74
    go_wp2_with (go_at_call 119; refine (valid_any _ _).mono ?_; rintro e w' ⟨rfl, rfl⟩)
    go_ret
    exact ⟨ret_bool HB.out.symm, HK0.out⟩
  · have HV := Lib.hid hv
    go_enter Tryz.func74, Tryz.ntmps74
    go_wp2_with (go_at_call 119; refine (valid_any _ _).mono ?_; rintro e w' ⟨rfl, rfl⟩)
    clear hv
    go_loopw [13] (fun i wr => ∃ k : Nat, k ≤ n ∧ i = .int .i64 k ∧ hasR (l.take k) x = false ∧ Kept w wr) (fun i _ => n - (intOf i).toNat)
    case atStart => exact ⟨0, Nat.zero_le _, rfl, rfl, HK0.out⟩
    case round =>
      obtain ⟨k, hk, rfl, hno, hkw⟩ := hrel
      have HNO := Lib.hid hno
      have HKW := Lib.hid hkw
      clear hno hkw
      by_cases hlt : k < n
      · obtain ⟨b, off, r, hA, hr, c0, c1⟩ := rng_at (HL.out.kept HKW.out) hlt
        have HR := Lib.hid hr
        have HSN := Lib.hid (hasR_snoc hr x)
        have HKA := Lib.hid (Kept.alloc HKW.out (Obj.cells #[Value.int IntKind.i64 r.lo, Value.int IntKind.i64 r.hi] 81))
        subst hA
        clear hr
        by_cases h1 : r.lo ≤ x
        · by_cases h2 : x ≤ r.hi
          · have HIN := Lib.hid (hasR_at HR.out (x := x) (by simp [inR, HV.out, h1, h2]))
            go_wp2_with fail
            go_ret
            exact ⟨ret_bool HIN.out.symm, HKA.out⟩
          · have HIN := Lib.hid (show inR x r = false by simp [inR, h2])
            go_wp2_with fail
            go_roundw
            case rel => exact ⟨k + 1, by omega, by go_num, by rw [HSN.out, HNO.out, HIN.out]; rfl, HKA.out⟩
            case measure => simp [intOf]; omega
        · have HIN := Lib.hid (show inR x r = false by simp [inR, h1])
          go_wp2_with fail
          go_roundw
          case rel => exact ⟨k + 1, by omega, by go_num, by rw [HSN.out, HNO.out, HIN.out]; rfl, HKA.out⟩
          case measure => simp [intOf]; omega
      · have hall : hasR l x = false := by
          have := HNO.out
          rwa [List.take_of_length_le (by have := HN.out; omega)] at this
        have HAL := Lib.hid hall
        clear hall
        go_wp2_with fail
        go_ret
        exact ⟨ret_bool HAL.out.symm, HKW.out⟩
end Go.Proofs.YtomgchfjachedaaGreatDoor
namespace Go.Proofs.YtomgchfjachedaaGreatDoor
open Go
def isPair (n : Nrm) (a b : Int) (m : Mp) : Bool := candB n m && decide (m.to = [a, b])
def CompMap (n : Nrm) (l : List Mp) (M : List ((Int × Int) × Value)) : Prop := ∀ a b, getKV M (a, b) = if (compH a b).isSome then none else (l.find? (isPair n a b)).map fun m => Value.int .i64 m.src
theorem CompMap.nil (n : Nrm) : CompMap n [] [] := fun a b => by simp [getKV]
theorem CompMap.skip {n : Nrm} {l : List Mp} {M : List ((Int × Int) × Value)} (h : CompMap n l M) {m : Mp} (hm : candB n m = false) : CompMap n (l ++ [m]) M := fun a b => by
  rw [h a b, List.find?_append]
  have : [m].find? (isPair n a b) = none := by simp [isPair, hm]
  rw [this, Option.or_none]
theorem CompMap.hangul {n : Nrm} {l : List Mp} {M : List ((Int × Int) × Value)} (h : CompMap n l M) {m : Mp} {x y : Int} (hm : m.to = [x, y]) (hc : (compH x y).isSome = true) : CompMap n (l ++ [m]) M := fun a b => by
  rw [h a b]
  by_cases hab : (compH a b).isSome = true
  · rw [if_pos hab, if_pos hab]
  · rw [if_neg hab, if_neg hab, List.find?_append]
    have : [m].find? (isPair n a b) = none := by
      have hne : ¬ m.to = [a, b] := fun e => by
        rw [hm] at e
        injection e with e1 e2
        injection e2 with e2 _
        subst e1
        subst e2
        exact hab hc
      simp [isPair, hne]
    rw [this, Option.or_none]
theorem CompMap.dup {n : Nrm} {l : List Mp} {M : List ((Int × Int) × Value)} (h : CompMap n l M) {m : Mp} {x y : Int} {v : Value} (hm : m.to = [x, y]) (hv : getKV M (x, y) = some v) : CompMap n (l ++ [m]) M ∧ ∃ m' ∈ l, v = .int .i64 m'.src := by
  have hxy := h x y
  rw [hv] at hxy
  by_cases hc : (compH x y).isSome = true
  · rw [if_pos hc] at hxy; cases hxy
  rw [if_neg hc] at hxy
  cases hf : l.find? (isPair n x y) with
  | none => rw [hf] at hxy; cases hxy
  | some m' =>
    rw [hf] at hxy
    simp only [Option.map_some, Option.some.injEq] at hxy
    refine ⟨fun a b => ?_, m', List.mem_of_find?_eq_some hf, hxy⟩
    rw [h a b]
    by_cases hab : (compH a b).isSome = true
    · rw [if_pos hab, if_pos hab]
    · rw [if_neg hab, if_neg hab, List.find?_append]
      by_cases he : m.to = [a, b]
      · rw [hm] at he
        injection he with e1 e2
        injection e2 with e2 _
        subst e1
        subst e2
        rw [hf]; rfl
      · have : [m].find? (isPair n a b) = none := by simp [isPair, he]
        rw [this, Option.or_none]
theorem CompMap.add {n : Nrm} {l : List Mp} {M : List ((Int × Int) × Value)} (h : CompMap n l M) {m : Mp} {x y : Int} (hm : m.to = [x, y]) (hcand : candB n m = true) (hc : compH x y = none) (hv : getKV M (x, y) = none) : CompMap n (l ++ [m]) (setKV M (x, y) (.int .i64 m.src)) := fun a b => by
  rw [getKV_set]
  by_cases he : (x, y) = (a, b)
  · injection he with e1 e2
    subst e1
    subst e2
    have hxy := h x y
    rw [hv, if_neg (by rw [hc]; simp)] at hxy
    rw [if_pos rfl, if_neg (by rw [hc]; simp), List.find?_append]
    have hn : l.find? (isPair n x y) = none := by
      cases hf : l.find? (isPair n x y) with
      | none => rfl
      | some m' => rw [hf] at hxy; cases hxy
    rw [hn, Option.none_or]
    simp [isPair, hcand, hm]
  · rw [if_neg he, h a b]
    by_cases hab : (compH a b).isSome = true
    · rw [if_pos hab, if_pos hab]
    · rw [if_neg hab, if_neg hab, List.find?_append]
      have : [m].find? (isPair n a b) = none := by
        have hne : ¬ m.to = [a, b] := fun e => by
          rw [hm] at e
          injection e with e1 e2
          injection e2 with e2 _
          exact he (by rw [e1, e2])
        simp [isPair, hne]
      rw [this, Option.or_none]
theorem CompMap.pair {n : Nrm} {M : List ((Int × Int) × Value)} (h : CompMap n n.decomp M) {a b : Int} (hc : compH a b = none) : getKV M (a, b) = (pairOf n a b).map (Value.int .i64) := by
  rw [h a b, if_neg (by rw [hc]; simp)]
  unfold pairOf pairM
  rw [hc]
  simp only [Option.map_map]
  rfl
end Go.Proofs.YtomgchfjachedaaGreatDoor
namespace Go.Proofs.YtomgchfjachedaaGreatDoor
open Go Go.RowKit
noncomputable def fullText (n : Nrm) (cp : Bool) (text : List Int) : List Int := text.flatMap (fullOf (usableN n).decomp cp)
noncomputable def textOf (n : Nrm) (cp : Bool) (text : List Int) : List Int := sortRuns (classOf (usableN n).classes) (fullText n cp text)
theorem usableN_spans (n : Nrm) : usableSpans (usableN n).classes = (usableN n).classes := if_pos (usableN_good n).ord
theorem fullText_length (n : Nrm) (cp : Bool) (text : List Int) : (fullText n cp text).length ≤ 64 * text.length := by
  unfold fullText
  induction text with
  | nil => simp
  | cons x r ih =>
    have := usableN_len n cp x
    rw [List.flatMap_cons, List.length_append, List.length_cons]; omega
theorem textOf_length (n : Nrm) (cp : Bool) (text : List Int) : (textOf n cp text).length ≤ 64 * text.length := by
  unfold textOf
  rw [sortRuns_length]
  exact fullText_length n cp text
set_option maxRecDepth 100000 in
set_option maxHeartbeats 2000000 in
theorem text_new (s : Sls) (n : Nrm) (A : Option Addr) (nt ct : Nat) (text : List Int) (cp : Bool) (w : World) (hN : NormAt w s n) (hG : Glob w) (hnt : nt ≤ 500000) (hT : Ints w A nt text) :
    Calls Tryz.prog 117 #[s.val, .slice A nt ct, .bool cp] w (RetFr w (textOf n cp text)) := by
  have HN0 := Lib.hid hN
  have HG := Lib.hid hG
  have HT := Lib.hid hT
  have HTN := Lib.hid hT.1
  have hkb := Kept.alloc (Kept.refl w) (Obj.cells #[Value.slice s.Ac s.nc s.cc, Value.slice s.Am s.nm s.cm, Value.slice s.Ae s.ne s.ce] 28)
  have HU := Lib.hid (usable_val s n _ (hN.kept hkb) (hG.kept hkb))
  have hbl := box_block w (Obj.cells #[Value.slice s.Ac s.nc s.cc, Value.slice s.Am s.nm s.cm, Value.slice s.Ae s.ne s.ce] 28)
  have HBL := Lib.hid hbl
  have HKB := Lib.hid hkb
  have HNU := Lib.hid (usableS_at hN)
  have HGOOD := Lib.hid (usableN_good n)
  generalize usableS s n = s1 at *
  clear hN hG hT hkb hbl
  unfold Sls.val at *
  go_enter Tryz.func117, Tryz.ntmps117
  go_wp2_with fail
  refine HU.out.mono ?_
  rintro e w1 ⟨rfl, hk1⟩
  have e1 := (hk1.block _ (block_lt HBL.out)).trans HBL.out
  have HE1 := Lib.hid e1
  have a0 := cell_of_block (i := 0) e1 rfl
  have a1 := cell_of_block (i := 1) e1 rfl
  have a2 := cell_of_block (i := 2) e1 rfl
  have f0 := frozen_of_block (i := 0) e1
  have f1 := frozen_of_block (i := 1) e1
  have f2 := frozen_of_block (i := 2) e1
  simp only [s4_, s5_, s6_] at a0 a1 a2
  obtain ⟨bb, hbb⟩ : ∃ bb : Nat, bb = w.heap.size := ⟨_, rfl⟩
  have HBB := Lib.hid hbb
  rw [← hbb] at a0 a1 a2 f0 f1 f2 HE1 ⊢
  clear e1 hbb
  have hc := cells3_set (v0 := .slice s1.Ac s1.nc s1.cc) (v1 := .slice s1.Am s1.nm s1.cm) (v2 := .slice s1.Ae s1.ne s1.ce) HE1.out
  have hk2 : Kept w (((w1.setCell ⟨bb, 0, none⟩ (.slice s1.Ac s1.nc s1.cc)).setCell ⟨bb, 1, none⟩ (.slice s1.Am s1.nm s1.cm)).setCell ⟨bb, 2, none⟩ (.slice s1.Ae s1.ne s1.ce)) :=
    Kept.setCell (Kept.setCell (Kept.setCell (Kept.trans HKB.out hk1) (p := ⟨bb, 0, none⟩) (by rw [HBB.out]; exact Nat.le_refl _) _) (p := ⟨bb, 1, none⟩) (by rw [HBB.out]; exact Nat.le_refl _) _) (p := ⟨bb, 2, none⟩) (by rw [HBB.out]; exact Nat.le_refl _) _
  have g0 := cell_of_block (i := 0) hc rfl
  have g1 := cell_of_block (i := 1) hc rfl
  have g2 := cell_of_block (i := 2) hc rfl
  simp only [s4_, s5_, s6_] at g0 g1 g2
  have HC2 := Lib.hid hc
  have HK2 := Lib.hid hk2
  clear hc hk2
  go_wp2_with fail
  clear a0 a1 a2 f0 f1 f2 g0 g1 g2
  generalize ((w1.setCell ⟨bb, 0, none⟩ (.slice s1.Ac s1.nc s1.cc)).setCell ⟨bb, 1, none⟩ (.slice s1.Am s1.nm s1.cm)).setCell ⟨bb, 2, none⟩ (.slice s1.Ae s1.ne s1.ce) = W2 at *
  have HE := Lib.hid (expander_any s1 cp (fullOf (usableN n).decomp cp) W2)
  unfold Sls.val at HE
  refine HE.out.mono ?_
  rintro e w3 ⟨bs, bn, bc, bx, bm, rfl, hE, hbm, hk3⟩
  have HE3 := Lib.hid hE
  have HC3 := Lib.hid ((hk3.block _ (block_lt HC2.out)).trans HC2.out)
  have hkw3 : Kept w w3 := Kept.trans HK2.out hk3
  obtain ⟨base, hbase⟩ : ∃ base : Nat, base = w3.heap.size := ⟨_, rfl⟩
  have HBASE := Lib.hid hbase
  have hb1 : base ≤ w3.heap.size := by omega
  have hsz3 := hk3.size
  have hszw := HK2.out.size
  have hbbl : bb < W2.heap.size := block_lt HC2.out
  clear hE hbase HE
  go_wp2_with fail
  go_loopw [8, 18] (fun p i wr => ∃ (j : Nat) (Mj : List (Int × Value)), j ≤ nt ∧ i = .int .i64 j ∧ OwnI wr base p ((text.take j).flatMap (fullOf (usableN n).decomp cp)) ∧ ExpAt wr bs bn bc bx bm s1 cp (fullOf (usableN n).decomp cp) Mj ∧ KeptBut [bm] w3 wr ∧ (∀ g, p.ownBlock = some g → AwayM g Mj)) (fun _ i _ => nt - (intOf i).toNat)
  case atStart => exact ⟨0, [], Nat.zero_le _, rfl, (World.ownsRow_nil _ _ _ _ : OwnI w3 base (.slice none 0 0) []), HE3.out, KeptBut.refl _ _, fun g h => by cases h⟩
  case round =>
    obtain ⟨j, Mj, hj, rfl, hown, hEj, hkj, hown2⟩ := hrel
    have HOW := Lib.hid hown
    have HEJ := Lib.hid hEj
    have HOB := Lib.hid hown2
    have hszj := hkj.size
    have hbel : Below W2.heap.size W2 wr := Below.trans hk3 (KeptBut.below hkj (by simpa using hbm) hsz3)
    have hkwr : Kept w wr := Kept.trans HK2.out hbel
    clear hown hEj hown2
    by_cases hjn : j < nt
    · obtain ⟨b2, off2, y, hA, hy, cy⟩ := int_at (HT.out.kept hkwr) hjn
      rw [hA]
      have HCALL := Lib.hid (expand_calls s1 (usableN n) HGOOD.out.sorted cp (fullOf (usableN n).decomp cp) (usableN_full n cp) (fun c => Nat.le_trans (usableN_len n cp c) (by decide)) W2.heap.size bs bn bc bx bm hbm y (ends_any HGOOD.out.ends cp y) Mj wr HEJ.out (fun w' hw' => HNU.out.kept (Kept.trans HK2.out (hbel.trans hw'))) (by omega))
      have HTK := Lib.hid (flatMap_take (F := fullOf (usableN n).decomp cp) hy)
      have hfl := flatMap_length_le (F := fullOf (usableN n).decomp cp) (fun c => Nat.le_trans (usableN_len n cp c) (by decide)) (text.take j)
      have hjl : (text.take j).length ≤ 500000 := by rw [List.length_take]; omega
      have hfy := usableN_len n cp y
      clear hy
      go_wp2_with fail
      refine HCALL.out.mono ?_
      rintro e w4 ⟨A3, n3, c3, M3, rfl, hle3, hI3, hh3, hk4, hE4, haw3⟩
      have hgl : ∀ g, u8.ownBlock = some g → base ≤ g ∧ g < wr.heap.size := World.ownsRow.lt HOW.out
      have hown3 : OwnI w4 base u8 ((text.take j).flatMap (fullOf (usableN n).decomp cp)) := own_keptBut HOW.out hk4 (fun g hg hm => by
        rcases HOW.out.2 with ⟨rfl, _⟩ | ⟨g', cap, cur, rfl, _, hgg, _⟩
        · cases hg
        · simp only [Value.ownBlock, Option.some.injEq] at hg
          simp only [List.mem_cons, List.not_mem_nil, or_false] at hm
          exact HEJ.out.neMap hgg (by rw [hg, hm]))
      have HOW3 := Lib.hid hown3
      have HI3 := Lib.hid hI3
      have HE4 := Lib.hid hE4
      have HA3 := Lib.hid haw3
      have HGL := Lib.hid hgl
      clear hown3 hI3 hE4 haw3 hh3 hgl cy
      have hsz4 := hk4.size
      go_wp2_with (at_builtin; refine app_ints rfl _ _ rfl base _ _ rfl HOW3.out _ _ _ (fullOf (usableN n).decomp cp y) rfl HI3.out (by omega) (by omega) ?_; intro v5 w5 hown5 hgrow5 hat5)
      have hsz5 := hgrow5.size
      have hE5 : ExpAt w5 bs bn bc bx bm s1 cp (fullOf (usableN n).decomp cp) M3 := HE4.out.grown hgrow5 (fun g hg => by
        obtain ⟨g1, g2⟩ := HGL.out g hg
        have hlt : ∀ {b : Nat} {o : Obj}, w3.heap[b]? = some o → g ≠ b := fun hb e => by have := block_lt hb; have := HBASE.out; omega
        obtain ⟨es, cl, hmm, _⟩ := HE3.out.m
        exact ⟨(HA3.out g g2 (HOB.out g hg)).1, hlt HE3.out.fs, hlt HE3.out.n, hlt HE3.out.c, hlt HE3.out.x, hlt hmm⟩)
      have HE5 := Lib.hid hE5
      go_roundw
      case rel =>
        refine ⟨j + 1, M3, by omega, by go_num, by rw [HTK.out]; exact hown5, HE5.out, ⟨hgrow5.os.trans (hk4.os.trans hkj.os), hgrow5.tape.trans (hk4.tape.trans hkj.tape), hgrow5.output.trans (hk4.output.trans hkj.output), by omega, fun i hi hS => ?_⟩, fun g hg => ?_⟩
        · rw [hgrow5.block i (by omega) (fun e => by have := (HGL.out i e.symm).1; have := HBASE.out; omega), hk4.block i (by omega) hS, hkj.block i hi hS]
        · rcases hat5 with h | h
          · rw [h] at hg
            exact (HA3.out g (HGL.out g hg).2 (HOB.out g hg)).1
          · rw [h] at hg
            injection hg with hg
            intro k v hv
            obtain ⟨A', n', c', e, _, _, hin⟩ := HE4.out.vals k v hv
            subst e
            exact Away.of_inHeap hin (by omega)
      case measure => simp [intOf]; omega
    · have hfull : text.take j = text := List.take_of_length_le (by have := HTN.out; omega)
      have hown := HOW.out
      rw [hfull] at hown
      obtain ⟨At, c8, hu, hlet, hIt⟩ := OwnI.sl hown
      have hlf := fullText_length n cp text
      obtain ⟨nf, hnf⟩ : ∃ nf : Nat, nf = (text.flatMap (fullOf (usableN n).decomp cp)).length := ⟨_, rfl⟩
      rw [← hnf] at hu hlet hIt
      have hnf2 : nf ≤ 100000000 := by unfold fullText at hlf; have := HTN.out; omega
      have hC := (hkj.block bb (by omega) (by simp; omega)).trans HC3.out
      have d0 := cell_of_block (i := 0) hC rfl
      simp only [s4_, s5_] at d0
      have hNr := HNU.out.kept hkwr
      have HS := Lib.hid (ordSortN s1.Ac At s1.nc s1.cc nf c8 wr (text.flatMap (fullOf (usableN n).decomp cp)) (usableN n).classes hnf2 hNr.bc hNr.hc hIt hNr.cls (HG.out.kept hkwr))
      rw [usableN_spans] at HS
      clear hfull hown hIt hC hNr hlf hnf
      subst hu
      go_wp2_with fail
      refine HS.out.mono ?_
      rintro e w6 ⟨A6, n6, c6, rfl, hle6, hI6, hfr6, hk6⟩
      have HI6 := Lib.hid hI6
      have HFR6 := Lib.hid hfr6
      clear hI6 hfr6
      go_wp2_with fail
      go_ret
      exact ⟨A6, n6, c6, rfl, hle6, HI6.out, fun a ha => Nat.le_trans hkwr.size (HFR6.out a ha), Kept.trans hkwr hk6⟩
theorem text_any (s : Sls) (n : Nrm) (A : Option Addr) (nt ct : Nat) (text : List Int) (cp : Bool) (w : World) (hN : NormAt w s n) (hG : Glob w) (hnt : nt ≤ 500000) (hT : Ints w A nt text) :
    Calls Tryz.prog 117 #[s.val, .slice A nt ct, .bool cp] w (RetInts w (textOf n cp text)) := (text_new s n A nt ct text cp w hN hG hnt hT).mono fun _ _ h => h.ints
end Go.Proofs.YtomgchfjachedaaGreatDoor
