/- Pairs of numbers as keys of maps, and that two pairs are compared part by part. hangul.Compose. cpset.Has. The map of the primary composites, as it is built. No walk. -/
import Derived.Test.YtdogaaepiddnoaaGreatDoorKMaps
import Derived.Test.YtdogaaepiddnoaaGreatDoorKHan
import Derived.Test.YtdogaaepiddnoaaGreatDoorKPq
import Derived.Test.YtdogaaepiddnoaaGreatDoorKSimA
import Derived.Test.YtdogaaepiddnoaaGreatDoorKOwn
import Derived.Test.YtdogaaepiddnoaaGreatDoorKPl
namespace Go.Proofs.YtdogaaepiddnoaaGreatDoor
open Go Go.RowKit

def encP (p : Int × Int) : Value := .agg #[.int .i64 p.1, .int .i64 p.2]
theorem pair_check (b : Bool) (p : Int × Int) (w : World) : (Instr.checkKey b 10000 134 (encP p)).run Tryz.prog w = .ok () w := by
  kernel_rfl
theorem pair_eqIn (x y a b : Int) (w : World) (d : Nat) : (Op.equalIn (d + 2) 134 (.agg #[.int .i64 x, .int .i64 y]) (.agg #[.int .i64 a, .int .i64 b])).run Tryz.prog w = .ok (decide (x = a ∧ y = b)) w := by
  have hu : Tryz.prog.underlying 134 = some (.array 2 3) := by kernel_rfl
  have hu3 : Tryz.prog.underlying 3 = some (.int .i64) := by kernel_rfl
  have hs : (sizeOf 3).run Tryz.prog w = .ok 1 w := by kernel_rfl
  have hp0 : ∀ x y, (part 3 #[.int .i64 x, .int .i64 y] (0 * 1)).run Tryz.prog w = .ok (.int .i64 x) w := fun x y => by kernel_rfl
  have hp1 : ∀ x y, (part 3 #[.int .i64 x, .int .i64 y] (1 * 1)).run Tryz.prog w = .ok (.int .i64 y) w := fun x y => by kernel_rfl
  rw [Op.equalIn]
  simp only [Sem.run_bind, run_underlying hu, Result.andThen_ok, hs]
  rw [Std.Legacy.Range.forIn_eq_forIn_range']
  by_cases h1 : x = a
  · subst h1
    by_cases h2 : y = b
    · subst h2
      simp [Std.Legacy.Range.size, List.range'_succ, List.forIn_cons, Sem.run_bind, hp0, hp1, run_equalIn_int w d 3 .i64 .i64 _ _ hu3]
    · simp [Std.Legacy.Range.size, List.range'_succ, List.forIn_cons, Sem.run_bind, hp0, hp1, run_equalIn_int w d 3 .i64 .i64 _ _ hu3, h2]
  · simp [Std.Legacy.Range.size, List.range'_succ, List.forIn_cons, Sem.run_bind, hp0, run_equalIn_int w d 3 .i64 .i64 _ _ hu3, h1]
theorem pair_eql (x y a b : Int) (w : World) : (binOp .eql 134 (.agg #[.int .i64 x, .int .i64 y]) (.agg #[.int .i64 a, .int .i64 b])).run Tryz.prog w = .ok (.bool (decide (x = a ∧ y = b))) w := by
  simp only [binOp]
  simp only [Op.equal, Op.maxDepth, Sem.run_bind, pair_eqIn x y a b w 9998, Result.andThen_ok, Sem.run_pure]
theorem pair_eq (p q : Int × Int) (w : World) : (Op.equal 134 (encP p) (encP q)).run Tryz.prog w = .ok (decide (q = p)) w := by
  obtain ⟨x, s⟩ := p
  obtain ⟨y, t⟩ := q
  unfold Op.equal Op.maxDepth encP
  rw [pair_eqIn x s y t w 9998]
  congr 1
  simp only [Prod.mk.injEq]
  by_cases h1 : x = y
  · subst h1
    by_cases h2 : s = t
    · subst h2; simp
    · have : ¬ t = s := fun e => h2 e.symm
      simp [h2, this]
  · have : ¬ y = x := fun e => h1 e.symm
    simp [h1, this]
theorem findAsking_pair (k : Int × Int) (w : World) : ∀ (es : List MapEntry) (M : List ((Int × Int) × Value)) (i : Nat), es.map (fun e => (e.key, e.val)) = M.map (fun p => (encP p.1, p.2)) →
    (Instr.findAsking 134 (encP k) es i).run Tryz.prog w = .ok (findKV M k i) w
  | [], [], _, _ => by simp [Instr.findAsking, findKV]
  | [], _ :: _, _, h => by simp at h
  | _ :: _, [], _, h => by simp at h
  | e :: es, p :: M, i, h => by
    simp only [List.map_cons, List.cons.injEq, Prod.mk.injEq] at h
    simp only [Instr.findAsking, Sem.run_bind, h.1.1, pair_eq, Result.andThen_ok, findKV]
    by_cases hk : p.1 = k
    · simp [hk, h.1.2]
    · simp only [hk, decide_false, Bool.false_eq_true, if_false]
      exact findAsking_pair k w es M (i + 1) h.2
theorem keyOk_pair : KeyOk Tryz.prog 134 encP where
  chk := pair_check
  find := fun k es M w h => by
    have hu : Tryz.prog.underlying 134 = some (.array 2 3) := by kernel_rfl
    cases es with
    | nil =>
      cases M with
      | nil => simp [Instr.findKey, run_underlying hu, Instr.findNow, findKV]
      | cons p M => simp at h
    | cons e es =>
      have hn : ∀ n t v, Instr.sameNow (.array n t) (encP k) v = none := fun n t v => rfl
      simp only [Instr.findKey, Sem.run_bind, run_underlying hu, Result.andThen_ok, Instr.findNow, hn]
      exact findAsking_pair k w (e :: es) M 0 h
  same := fun k => by
    have h : ∀ n : Nat, Instr.sameBits (n + 2) (encP k) (encP k) = true := fun n => by simp [Instr.sameBits, encP]
    exact h 9998
end Go.Proofs.YtdogaaepiddnoaaGreatDoor
namespace Go.Proofs.YtdogaaepiddnoaaGreatDoor
open Go Go.RowKit

def RetOI (w : World) (r : Option Int) (e : Ending) (w' : World) : Prop := e = .returned (.tuple #[.int .i64 (r.getD 0), .bool r.isSome]) ∧ Kept w w'

set_option maxHeartbeats 1000000 in
theorem hcompose_any (a b : Int) (w : World) : Calls Tryz.prog 129 #[.int .i64 a, .int .i64 b] w (RetOI w (compH a b)) := by
  have HK := Lib.hid (Kept.alloc (Kept.refl w) (Obj.cells #[Value.int IntKind.i64 (kind a), Value.int IntKind.i64 (kind b)] 134))
  by_cases h1 : kind a = 1 ∧ kind b = 2
  · have HC := Lib.hid (show compH a b = some (44032 + ((a - 4352) * 21 + b - 4449) * 28) from if_pos h1)
    obtain ⟨ha1, ha2⟩ := kind_1 h1.1
    obtain ⟨hb1, hb2⟩ := kind_2 h1.2
    have he : ∀ w, (binOp .eql 134 (.agg #[.int .i64 (kind a), .int .i64 (kind b)]) (.agg #[.int .i64 1, .int .i64 2])).run Tryz.prog w = .ok (.bool true) w := fun w => by rw [pair_eql]; simp [h1]
    clear h1
    go_enter Tryz.func129, Tryz.ntmps129
    go_wp2_with (go_at_call 53; refine (kind_any _ _).mono ?_; rintro e w' ⟨rfl, rfl⟩)
    go_ret2
    rw [HC.out]
    exact ⟨rfl, HK.out⟩
  · have he : ∀ w, (binOp .eql 134 (.agg #[.int .i64 (kind a), .int .i64 (kind b)]) (.agg #[.int .i64 1, .int .i64 2])).run Tryz.prog w = .ok (.bool false) w := fun w => by rw [pair_eql]; simp only [h1, decide_false]
    by_cases h2 : kind a = 4 ∧ kind b = 3
    · have HC := Lib.hid (show compH a b = some (a + 1 + b - 4520) by unfold compH; rw [if_neg h1, if_pos h2])
      obtain ⟨ha1, ha2, _⟩ := kind_4 h2.1
      obtain ⟨hb1, hb2⟩ := kind_3 h2.2
      have he2 : ∀ w, (binOp .eql 134 (.agg #[.int .i64 (kind a), .int .i64 (kind b)]) (.agg #[.int .i64 4, .int .i64 3])).run Tryz.prog w = .ok (.bool true) w := fun w => by rw [pair_eql]; simp [h2]
      clear h1 h2
      go_enter Tryz.func129, Tryz.ntmps129
      go_wp2_with (go_at_call 53; refine (kind_any _ _).mono ?_; rintro e w' ⟨rfl, rfl⟩)
      go_ret2
      rw [HC.out]
      exact ⟨rfl, HK.out⟩
    · have HC := Lib.hid (show compH a b = none by unfold compH; rw [if_neg h1, if_neg h2])
      have he2 : ∀ w, (binOp .eql 134 (.agg #[.int .i64 (kind a), .int .i64 (kind b)]) (.agg #[.int .i64 4, .int .i64 3])).run Tryz.prog w = .ok (.bool false) w := fun w => by rw [pair_eql]; simp only [h2, decide_false]
      clear h1 h2
      go_enter Tryz.func129, Tryz.ntmps129
      go_wp2_with (go_at_call 53; refine (kind_any _ _).mono ?_; rintro e w' ⟨rfl, rfl⟩)
      go_ret2
      rw [HC.out]
      exact ⟨rfl, HK.out⟩
end Go.Proofs.YtdogaaepiddnoaaGreatDoor
namespace Go.Proofs.YtdogaaepiddnoaaGreatDoor
open Go Go.RowKit

theorem hasR_snoc {l : List Rng} {k : Nat} {r : Rng} (h : l[k]? = some r) (x : Int) : hasR (l.take (k + 1)) x = (hasR (l.take k) x || inR x r) := any_take_snoc _ h
theorem hasR_at {l : List Rng} {k : Nat} {r : Rng} (h : l[k]? = some r) {x : Int} (hx : inR x r = true) : hasR l x = true := List.any_eq_true.2 ⟨r, mem_of_getElem?_some h, hx⟩
theorem hasR_bad {l : List Rng} {x : Int} (h : validB x = false) : hasR l x = false := by
  unfold hasR
  rw [List.any_eq_false]
  intro r _
  simp [inR, h]

set_option maxHeartbeats 1000000 in
theorem setHas (A : Option Addr) (n c : Nat) (l : List Rng) (x : Int) (w : World) (hn : n ≤ 100000) (hl : Rngs w A n l) :
    Calls Tryz.prog 128 #[.agg #[.slice A n c], .int .i64 x] w (RetB w (hasR l x)) := by
  have HL := Lib.hid hl
  have HN := Lib.hid hl.1
  have HK0 := Lib.hid (Kept.alloc (Kept.refl w) (Obj.cells #[Value.slice A n c] 26))
  clear hl
  cases hv : validB x
  · have HB := Lib.hid (hasR_bad (l := l) hv)
    go_enter Tryz.func128, Tryz.ntmps128
    go_wp2_with (go_at_call 113; refine (valid_any _ _).mono ?_; rintro e w' ⟨rfl, rfl⟩)
    go_ret
    exact ⟨ret_bool HB.out.symm, HK0.out⟩
  · have HV := Lib.hid hv
    go_enter Tryz.func128, Tryz.ntmps128
    go_wp2_with (go_at_call 113; refine (valid_any _ _).mono ?_; rintro e w' ⟨rfl, rfl⟩)
    clear hv
    go_loopw [13] (fun i wr => ∃ k : Nat, k ≤ n ∧ i = .int .i64 k ∧ hasR (l.take k) x = false ∧ Kept w wr) (fun i _ => n - (intOf i).toNat)
    case atStart => exact ⟨0, Nat.zero_le _, rfl, rfl, HK0.out⟩
    case round =>
      obtain ⟨k, hk, rfl, hno, hkw⟩ := hrel
      have HNO := Lib.hid hno
      have HKW := Lib.hid hkw
      clear hno hkw
      by_cases hlt : k < n
      · obtain ⟨b, off, r, hA, hr, c0, c1⟩ := rng_at (HL.out.kept HKW.out) hlt
        have HR := Lib.hid hr
        have HSN := Lib.hid (hasR_snoc hr x)
        have HKA := Lib.hid (Kept.alloc HKW.out (Obj.cells #[Value.int IntKind.i64 r.lo, Value.int IntKind.i64 r.hi] 55))
        subst hA
        clear hr
        by_cases h1 : r.lo ≤ x
        · by_cases h2 : x ≤ r.hi
          · have HIN := Lib.hid (hasR_at HR.out (x := x) (by simp [inR, HV.out, h1, h2]))
            go_wp2_with fail
            go_ret
            exact ⟨ret_bool HIN.out.symm, HKA.out⟩
          · have HIN := Lib.hid (show inR x r = false by simp [inR, h2])
            go_wp2_with fail
            go_roundw
            case rel => exact ⟨k + 1, by omega, by go_num, by rw [HSN.out, HNO.out, HIN.out]; rfl, HKA.out⟩
            case measure => simp [intOf]; omega
        · have HIN := Lib.hid (show inR x r = false by simp [inR, h1])
          go_wp2_with fail
          go_roundw
          case rel => exact ⟨k + 1, by omega, by go_num, by rw [HSN.out, HNO.out, HIN.out]; rfl, HKA.out⟩
          case measure => simp [intOf]; omega
      · have hall : hasR l x = false := by
          have := HNO.out
          rwa [List.take_of_length_le (by have := HN.out; omega)] at this
        have HAL := Lib.hid hall
        clear hall
        go_wp2_with fail
        go_ret
        exact ⟨ret_bool HAL.out.symm, HKW.out⟩
end Go.Proofs.YtdogaaepiddnoaaGreatDoor
namespace Go.Proofs.YtdogaaepiddnoaaGreatDoor
open Go

def isPair (n : Nrm) (a b : Int) (m : Mp) : Bool := candB n m && decide (m.to = [a, b])
def CompMap (n : Nrm) (l : List Mp) (M : List ((Int × Int) × Value)) : Prop := ∀ a b, getKV M (a, b) = if (compH a b).isSome then none else (l.find? (isPair n a b)).map fun m => Value.int .i64 m.src
theorem CompMap.nil (n : Nrm) : CompMap n [] [] := fun a b => by simp [getKV]
theorem CompMap.skip {n : Nrm} {l : List Mp} {M : List ((Int × Int) × Value)} (h : CompMap n l M) {m : Mp} (hm : candB n m = false) : CompMap n (l ++ [m]) M := fun a b => by
  rw [h a b, List.find?_append]
  have : [m].find? (isPair n a b) = none := by simp [isPair, hm]
  rw [this, Option.or_none]
theorem CompMap.hangul {n : Nrm} {l : List Mp} {M : List ((Int × Int) × Value)} (h : CompMap n l M) {m : Mp} {x y : Int} (hm : m.to = [x, y]) (hc : (compH x y).isSome = true) : CompMap n (l ++ [m]) M := fun a b => by
  rw [h a b]
  by_cases hab : (compH a b).isSome = true
  · rw [if_pos hab, if_pos hab]
  · rw [if_neg hab, if_neg hab, List.find?_append]
    have : [m].find? (isPair n a b) = none := by
      have hne : ¬ m.to = [a, b] := fun e => by
        rw [hm] at e
        injection e with e1 e2
        injection e2 with e2 _
        subst e1
        subst e2
        exact hab hc
      simp [isPair, hne]
    rw [this, Option.or_none]
theorem CompMap.dup {n : Nrm} {l : List Mp} {M : List ((Int × Int) × Value)} (h : CompMap n l M) {m : Mp} {x y : Int} {v : Value} (hm : m.to = [x, y]) (hv : getKV M (x, y) = some v) : CompMap n (l ++ [m]) M ∧ ∃ m' ∈ l, v = .int .i64 m'.src := by
  have hxy := h x y
  rw [hv] at hxy
  by_cases hc : (compH x y).isSome = true
  · rw [if_pos hc] at hxy; cases hxy
  rw [if_neg hc] at hxy
  cases hf : l.find? (isPair n x y) with
  | none => rw [hf] at hxy; cases hxy
  | some m' =>
    rw [hf] at hxy
    simp only [Option.map_some, Option.some.injEq] at hxy
    refine ⟨fun a b => ?_, m', List.mem_of_find?_eq_some hf, hxy⟩
    rw [h a b]
    by_cases hab : (compH a b).isSome = true
    · rw [if_pos hab, if_pos hab]
    · rw [if_neg hab, if_neg hab, List.find?_append]
      by_cases he : m.to = [a, b]
      · rw [hm] at he
        injection he with e1 e2
        injection e2 with e2 _
        subst e1
        subst e2
        rw [hf]; rfl
      · have : [m].find? (isPair n a b) = none := by simp [isPair, he]
        rw [this, Option.or_none]
theorem CompMap.add {n : Nrm} {l : List Mp} {M : List ((Int × Int) × Value)} (h : CompMap n l M) {m : Mp} {x y : Int} (hm : m.to = [x, y]) (hcand : candB n m = true) (hc : compH x y = none) (hv : getKV M (x, y) = none) : CompMap n (l ++ [m]) (setKV M (x, y) (.int .i64 m.src)) := fun a b => by
  rw [getKV_set]
  by_cases he : (x, y) = (a, b)
  · injection he with e1 e2
    subst e1
    subst e2
    have hxy := h x y
    rw [hv, if_neg (by rw [hc]; simp)] at hxy
    rw [if_pos rfl, if_neg (by rw [hc]; simp), List.find?_append]
    have hn : l.find? (isPair n x y) = none := by
      cases hf : l.find? (isPair n x y) with
      | none => rfl
      | some m' => rw [hf] at hxy; cases hxy
    rw [hn, Option.none_or]
    simp [isPair, hcand, hm]
  · rw [if_neg he, h a b]
    by_cases hab : (compH a b).isSome = true
    · rw [if_pos hab, if_pos hab]
    · rw [if_neg hab, if_neg hab, List.find?_append]
      have : [m].find? (isPair n a b) = none := by
        have hne : ¬ m.to = [a, b] := fun e => by
          rw [hm] at e
          injection e with e1 e2
          injection e2 with e2 _
          exact he (by rw [e1, e2])
        simp [isPair, hne]
      rw [this, Option.or_none]
theorem CompMap.pair {n : Nrm} {M : List ((Int × Int) × Value)} (h : CompMap n n.decomp M) {a b : Int} (hc : compH a b = none) : getKV M (a, b) = (pairOf n a b).map (Value.int .i64) := by
  rw [h a b, if_neg (by rw [hc]; simp)]
  unfold pairOf pairM
  rw [hc]
  simp only [Option.map_map]
  rfl
end Go.Proofs.YtdogaaepiddnoaaGreatDoor
