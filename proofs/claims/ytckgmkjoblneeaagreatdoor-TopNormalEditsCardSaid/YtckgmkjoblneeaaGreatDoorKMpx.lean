/- mapping: compare, isName, parts, keyOf. mapping.parts: the first error of mappings, but for their order. mapping: compare, isName, parts, keyOf. mapping.Check: what it returns for any mappings. -/
import Derived.StillTailTactics
import Derived.Deep.RegionWith
import Derived.Laws.ResultCell
import Derived.Test.YtckgmkjoblneeaaGreatDoorKSq
import Derived.Test.YtckgmkjoblneeaaGreatDoorKMaps
namespace Go.Proofs.YtckgmkjoblneeaaGreatDoor
open Go Go.RowKit
theorem isNaNs_any (s : ByteArray) (w : World) : Calls Tryz.prog 117 #[.string s] w fun e w' => e = .returned (.bool false) ∧ w = w' := by
  go_enter Tryz.func117, Tryz.ntmps117
  go_wp2
  all_goals (go_ret; exact ⟨ret_bool (by simp), rfl⟩)
theorem cmps_any (a b : ByteArray) (w : World) : Calls Tryz.prog 112 #[.string a, .string b] w fun e w' => e = .returned (.int .i64 (cmpS a b)) ∧ w = w' := by
  go_enter Tryz.func112, Tryz.ntmps112
  go_wp2_with (go_at_call 117; refine (isNaNs_any _ _).mono ?_; rintro e w' ⟨rfl, rfl⟩)
  all_goals (go_ret; refine ⟨ret_int ?_, rfl⟩; unfold cmpS; simp only [*]; rfl)
theorem isName_any (s : ByteArray) (w : World) : Calls Tryz.prog 110 #[.string s] w fun e w' => e = .returned (.bool (isNameB s)) ∧ w = w' := by
  by_cases hs : s.toList = []
  · have hf : isNameB s = false := by simp [isNameB, hs]
    have HF := Lib.hid hf
    clear hf
    go_enter Tryz.func110, Tryz.ntmps110
    go_wp2
    go_ret
    exact ⟨ret_bool HF.out.symm, rfl⟩
  · have hs' : s.toList.isEmpty = false := by simpa using hs
    have HS := Lib.hid hs
    clear hs
    by_cases hsz : s.size ≤ 32
    · have hd : decide (32 < (s.size : Int)) = false := by simp; omega
      go_enter Tryz.func110, Tryz.ntmps110
      go_wp2
      go_loop [15] (fun i => ∃ k : Nat, k ≤ s.size ∧ i = .int .i64 k ∧ (s.data.toList.take k).all nameByte = true) (fun i => s.size - (intOf i).toNat)
      case atStart => exact ⟨0, Nat.zero_le _, rfl, by simp⟩
      case round =>
        obtain ⟨k, hk, rfl, hall⟩ := hrel
        have HA := Lib.hid hall
        clear hall
        by_cases hlt : k < s.size
        · have hb := UInt8.toNat_lt s[k]
          go_wp2
          all_goals first
            | (go_ret
               refine ⟨ret_bool (isNameB_false hlt (nameByte_false ?_)).symm, rfl⟩
               go_light
               simp at *
               omega)
            | (go_round
               case rel =>
                 refine ⟨k + 1, by omega, by go_num, ?_⟩
                 rw [take_succ_some (bytes_take hlt), List.all_append, HA.out, Bool.true_and, List.all_cons, List.all_nil, Bool.and_true]
                 refine nameByte_true ?_
                 go_light
                 simp at *
                 omega
               case measure => simp [intOf]; omega)
        · go_wp2
          go_ret
          refine ⟨ret_bool ?_, rfl⟩
          have h := HA.out
          rw [List.take_of_length_le (by simp; omega)] at h
          unfold isNameB
          rw [h]
          simp [HS.out, hsz]
    · have hf : isNameB s = false := by simp [isNameB, hsz]
      have HF := Lib.hid hf
      clear hf
      go_enter Tryz.func110, Tryz.ntmps110
      go_wp2
      all_goals first
        | (exfalso; omega)
        | (go_ret
           exact ⟨ret_bool HF.out.symm, rfl⟩)
theorem keyOf_any (x : Int) (v1 : Value) (s : ByteArray) (w : World) : Calls Tryz.prog 103 #[.agg #[.int .i64 x, v1, .string s]] w fun e w' => e = .returned (.agg #[.int .i64 x, .string s]) ∧ Kept w w' := by
  go_enter Tryz.func103, Tryz.ntmps103
  go_wp2
  exact bodyPost_ret (v := .agg #[.int .i64 x, .string s]) (by simp [results, Tryz.results103, go_sem]) rfl ⟨rfl, by repeat (first | exact Kept.refl _ | refine Kept.drew ?_ | refine Kept.alloc ?_ _)⟩
end Go.Proofs.YtckgmkjoblneeaaGreatDoor
namespace Go.Proofs.YtckgmkjoblneeaaGreatDoor
open Go Go.RowKit
theorem badCode_src {m : Mp} (h : validB m.src = false) : mpBadCode m = true := by simp [mpBadCode, h]
theorem badCode_to {m : Mp} {k : Nat} {x : Int} (hx : m.to[k]? = some x) (h : validB x = false) : mpBadCode m = true := by
  simp only [mpBadCode, Bool.or_eq_true]
  exact .inr (List.any_eq_true.2 ⟨x, mem_of_getElem?_some hx, by simp [h]⟩)
theorem badCode_not {m : Mp} (h : validB m.src = true) (h2 : m.to.any (fun c => !validB c) = false) : mpBadCode m = false := by simp [mpBadCode, h, h2]
set_option maxHeartbeats 1000000 in
theorem mapping_parts (A : Option Addr) (n c : Nat) (l : List Mp) (w : World) (hn : n ≤ 1000) (hl : Mps w A n l) (hto : ∀ m ∈ l, m.to.length ≤ 100000) :
    Calls Tryz.prog 101 #[.slice A n c] w (RetI w (mapParts l)) := by
  have HL := Lib.hid hl
  have HN := Lib.hid hl.1
  have HTO := Lib.hid hto
  clear hl hto
  go_enter Tryz.func101, Tryz.ntmps101
  go_wp2
  go_loopw [13] (fun i wr => ∃ k : Nat, k ≤ n ∧ i = .int .i64 k ∧ (l.take k).any mpBadCode = false ∧ Below w.heap.size w wr) (fun i _ => n - (intOf i).toNat)
  case atStart => exact ⟨0, Nat.zero_le _, rfl, by simp, Below.refl _ _⟩
  case round =>
    obtain ⟨k, hk, rfl, hno, hB⟩ := hrel
    have HNO := Lib.hid hno
    clear hno
    by_cases hlt : k < n
    · obtain ⟨b, off, m, A', n', c', rfl, hm, hle, hI, c0, c1, c2⟩ := mp_at (HL.out.kept hB) hlt
      have hn' : n' ≤ 100000 := by rw [hI.1]; exact HTO.out m (mem_of_getElem?_some hm)
      have HM := Lib.hid hm
      have HI := Lib.hid hI
      clear hm hI
      by_cases hv : validB m.src = true
      · go_wp2_with (go_at_call 85; refine (valid_any _ _).mono ?_; rintro e w' ⟨rfl, rfl⟩)
        have hB1 := hB.alloc hB.size (Obj.cells #[Value.int IntKind.i64 m.src, Value.slice A' n' c', Value.string m.tag] 57)
        have HV := Lib.hid hv
        have HI1 := Lib.hid (HI.out.kept (Kept.alloc (Kept.refl wr) (Obj.cells #[Value.int IntKind.i64 m.src, Value.slice A' n' c', Value.string m.tag] 57)))
        clear c0 c1 c2 hv HI
        generalize wr.alloc (Obj.cells #[Value.int IntKind.i64 m.src, Value.slice A' n' c', Value.string m.tag] 57) = W1 at *
        go_loop [24] (fun i => ∃ j : Nat, j ≤ n' ∧ i = .int .i64 j ∧ (m.to.take j).any (fun c => !validB c) = false) (fun i => n' - (intOf i).toNat)
        case atStart => exact ⟨0, Nat.zero_le _, rfl, by simp⟩
        case round =>
          obtain ⟨j, hj, rfl, hno⟩ := hrel
          have HN2 := Lib.hid hno
          clear hno
          by_cases hjn : j < n'
          · obtain ⟨b2, off2, x, rfl, hx, d0⟩ := int_at HI1.out hjn
            have HX := Lib.hid hx
            clear hx
            cases hvx : validB x
            · go_wp2_with (go_at_call 85; refine (valid_any _ _).mono ?_; rintro e w' ⟨rfl, rfl⟩)
              go_ret
              exact ⟨ret_int (mapParts_code HM.out (badCode_to HX.out hvx)).symm, hB1⟩
            · go_wp2_with (go_at_call 85; refine (valid_any _ _).mono ?_; rintro e w' ⟨rfl, rfl⟩)
              go_round
              case rel => exact ⟨j + 1, by omega, by go_num, by rw [any_take_snoc _ HX.out, HN2.out, hvx]; rfl⟩
              case measure => simp [intOf]; omega
          · go_wp2
            go_roundw
            case rel => exact ⟨k + 1, by omega, by go_num, by
              rw [any_take_snoc _ HM.out, HNO.out, badCode_not HV.out (by have := HN2.out; rwa [List.take_of_length_le (by have := HI1.out.1; omega)] at this)]; rfl, hB1⟩
            case measure => simp [intOf]; omega
      · have hv : validB m.src = false := by simpa using hv
        go_wp2_with (go_at_call 85; refine (valid_any _ _).mono ?_; rintro e w' ⟨rfl, rfl⟩)
        go_ret
        exact ⟨ret_int (mapParts_code HM.out (badCode_src hv)).symm, hB.alloc hB.size _⟩
    · have hall : l.any mpBadCode = false := by
        have := HNO.out
        rwa [List.take_of_length_le (by have := HN.out; omega)] at this
      have HNO1 := Lib.hid hall
      clear hall HNO
      go_wp2
      obtain ⟨w1, rfl⟩ : ∃ w1 : World, w1 = wr := ⟨_, rfl⟩
      go_loopw [35] (fun i wr => ∃ k : Nat, k ≤ n ∧ i = .int .i64 k ∧ (l.take k).any mpLong = false ∧ Below w.heap.size w wr) (fun i _ => n - (intOf i).toNat)
      case atStart => exact ⟨0, Nat.zero_le _, rfl, by simp, hB⟩
      case round =>
        obtain ⟨k, hk, rfl, hno, hB⟩ := hrel
        have HNO := Lib.hid hno
        clear hno
        by_cases hlt : k < n
        · obtain ⟨b, off, m, A', n', c', rfl, hm, hle, hI, c0, c1, c2⟩ := mp_at (HL.out.kept hB) hlt
          have hn' : n' ≤ 100000 := by rw [hI.1]; exact HTO.out m (mem_of_getElem?_some hm)
          have HM := Lib.hid hm
          have HI := Lib.hid hI.1
          clear hm hI
          go_wp2
          all_goals first
            | (go_ret
               exact ⟨ret_int (mapParts_long HNO1.out HM.out (by have := HI.out; simp [mpLong]; omega)).symm, hB.alloc hB.size _⟩)
            | (go_roundw
               case rel => exact ⟨k + 1, by omega, by go_num, by rw [any_take_snoc _ HM.out, HNO.out]; have := HI.out; simp [mpLong]; omega, hB.alloc hB.size _⟩
               case measure => simp [intOf]; omega)
        · have hall : l.any mpLong = false := by
            have := HNO.out
            rwa [List.take_of_length_le (by have := HN.out; omega)] at this
          have HNO2 := Lib.hid hall
          clear hall HNO
          go_wp2
          obtain ⟨w2, rfl⟩ : ∃ w2 : World, w2 = wr := ⟨_, rfl⟩
          go_loopw [46] (fun i wr => ∃ k : Nat, k ≤ n ∧ i = .int .i64 k ∧ (l.take k).any mpBadName = false ∧ Below w.heap.size w wr) (fun i _ => n - (intOf i).toNat)
          case atStart => exact ⟨0, Nat.zero_le _, rfl, by simp, hB⟩
          case round =>
            obtain ⟨k, hk, rfl, hno, hB⟩ := hrel
            have HNO := Lib.hid hno
            clear hno
            by_cases hlt : k < n
            · obtain ⟨b, off, m, A', n', c', rfl, hm, hle, hI, c0, c1, c2⟩ := mp_at (HL.out.kept hB) hlt
              have HM := Lib.hid hm
              clear hm hI
              cases ht : m.tag.toList.isEmpty
              · have hte : ¬ m.tag.toList = [] := by simpa using ht
                cases hv : isNameB m.tag
                · go_wp2_with (go_at_call 110; refine (isName_any _ _).mono ?_; rintro e w' ⟨rfl, rfl⟩)
                  go_ret
                  exact ⟨ret_int (mapParts_name HNO1.out HNO2.out HM.out (by simp [mpBadName, plainTag, ht, hv])).symm, hB.alloc hB.size _⟩
                · go_wp2_with (go_at_call 110; refine (isName_any _ _).mono ?_; rintro e w' ⟨rfl, rfl⟩)
                  go_roundw
                  case rel => exact ⟨k + 1, by omega, by go_num, by rw [any_take_snoc _ HM.out, HNO.out]; simp [mpBadName, hv], hB.alloc hB.size _⟩
                  case measure => simp [intOf]; omega
              · have hte : m.tag.toList = [] := by simpa using ht
                go_wp2
                go_roundw
                case rel => exact ⟨k + 1, by omega, by go_num, by rw [any_take_snoc _ HM.out, HNO.out]; simp [mpBadName, plainTag, ht], hB.alloc hB.size _⟩
                case measure => simp [intOf]; omega
            · go_wp2
              go_ret
              exact ⟨ret_int (mapParts_ok HNO1.out HNO2.out (by have := HNO.out; rwa [List.take_of_length_le (by have := HN.out; omega)] at this)).symm, hB⟩
end Go.Proofs.YtckgmkjoblneeaaGreatDoor
namespace Go.Proofs.YtckgmkjoblneeaaGreatDoor
open Go Go.RowKit
set_option maxHeartbeats 1000000 in
set_option maxRecDepth 100000 in
theorem compare_any (x y : Int) (v1 v2 : Value) (s t : ByteArray) (w : World) : Calls Tryz.prog 102 #[.agg #[.int .i64 x, v1, .string s], .agg #[.int .i64 y, v2, .string t]] w (RetI w (orI (cmpI x y) (cmpS s t))) := by
  go_enter Tryz.func102, Tryz.ntmps102
  go_wp2
  refine region_still_tail 10 (by kernel_rfl) (by kernel_rfl) ?_
  simp only [List.take_succ_cons, List.take_zero, List.drop_succ_cons, List.drop_zero]
  still_step
  still_step
  still_step
  still_step
  still_call (flip_ (cmp_any _ _ _))
  still_step
  still_step
  still_step
  still_step
  still_call (flip_ (cmps_any _ _ _))
  refine wpStill_nil ?_
  go_wp2_with (go_at_call 111; refine (or_two _ _ _ (cmpI x y) (cmpS s t) _ (by go_simp) (by go_simp)).mono ?_; rintro e w' ⟨rfl, rfl⟩)
  go_ret
  exact ⟨rfl, by repeat (first | exact Kept.refl _ | refine Kept.drew ?_ | refine Kept.alloc ?_ _)⟩
end Go.Proofs.YtckgmkjoblneeaaGreatDoor
namespace Go.Proofs.YtckgmkjoblneeaaGreatDoor
open Go Go.RowKit
theorem bytes_ext {a b : ByteArray} (h : a.toList = b.toList) : a = b := by
  rw [ByteArray.toList_eq, ByteArray.toList_eq] at h
  obtain ⟨⟨x⟩⟩ := a
  obtain ⟨⟨y⟩⟩ := b
  simp at h
  rw [h]
def encKey (p : Int × ByteArray) : Value := .agg #[.int .i64 p.1, .string p.2]
theorem key_check (b : Bool) (p : Int × ByteArray) (w : World) : (Instr.checkKey b 10000 170 (encKey p)).run Tryz.prog w = .ok () w := by
  kernel_rfl
theorem key_eq (p q : Int × ByteArray) (w : World) : (Op.equal 170 (encKey p) (encKey q)).run Tryz.prog w = .ok (decide (q = p)) w := by
  obtain ⟨x, s⟩ := p
  obtain ⟨y, t⟩ := q
  unfold Op.equal Op.maxDepth encKey
  rw [run_equalIn_agg w 9999 170 _ _ (by kernel_rfl) (by kernel_rfl)]
  go_simp
  by_cases hx : x = y
  · subst hx
    by_cases hs : s.toList = t.toList
    · have := bytes_ext hs
      subst this
      simp
    · have hne : ¬ t = s := fun e => hs (by rw [e])
      simp [hs, hne]
  · have hne : ¬ y = x := fun e => hx e.symm
    simp [hx, hne]
theorem findAsking_key (k : Int × ByteArray) (w : World) : ∀ (es : List MapEntry) (M : List ((Int × ByteArray) × Value)) (i : Nat), es.map (fun e => (e.key, e.val)) = M.map (fun p => (encKey p.1, p.2)) →
    (Instr.findAsking 170 (encKey k) es i).run Tryz.prog w = .ok (findKV M k i) w
  | [], [], _, _ => by simp [Instr.findAsking, findKV]
  | [], _ :: _, _, h => by simp at h
  | _ :: _, [], _, h => by simp at h
  | e :: es, p :: M, i, h => by
    simp only [List.map_cons, List.cons.injEq, Prod.mk.injEq] at h
    simp only [Instr.findAsking, Sem.run_bind, h.1.1, key_eq, Result.andThen_ok, findKV]
    by_cases hk : p.1 = k
    · simp [hk, h.1.2]
    · simp only [hk, decide_false, Bool.false_eq_true, if_false]
      exact findAsking_key k w es M (i + 1) h.2
theorem keyOk_key : KeyOk Tryz.prog 170 encKey where
  chk := key_check
  find := fun k es M w h => by
    have hu : Tryz.prog.underlying 170 = some (.struct (Tryz.prog.fieldsOf 170)) := by kernel_rfl
    cases es with
    | nil =>
      cases M with
      | nil => simp [Instr.findKey, run_underlying hu, Instr.findNow, findKV]
      | cons p M => simp at h
    | cons e es =>
      have hn : ∀ fs v, Instr.sameNow (.struct fs) (encKey k) v = none := fun fs v => rfl
      simp only [Instr.findKey, Sem.run_bind, run_underlying hu, Result.andThen_ok, Instr.findNow, hn]
      exact findAsking_key k w (e :: es) M 0 h
  same := fun k => by
    have h : ∀ n : Nat, Instr.sameBits (n + 1) (encKey k) (encKey k) = true := fun n => by simp [Instr.sameBits, encKey, beq_toListBytes]
    exact h 9999
def keysOf (l : List Mp) : List ((Int × ByteArray) × Value) := l.map fun m => ((m.src, m.tag), Value.bool true)
theorem getKV_keys (m : Mp) : ∀ l : List Mp, getKV (keysOf l) (m.src, m.tag) = if (l.any fun x => sameKey x m) = true then some (.bool true) else none
  | [] => rfl
  | x :: r => by
    simp only [keysOf, List.map_cons, getKV, List.any_cons]
    have ih := getKV_keys m r
    unfold keysOf at ih
    rw [ih]
    by_cases h1 : x.src = m.src <;> by_cases h2 : x.tag = m.tag <;> simp [sameKey, h1, h2]
theorem keysOf_snoc {l : List Mp} {m : Mp} (h : (l.any fun x => sameKey x m) = false) : setKV (keysOf l) (m.src, m.tag) (.bool true) = keysOf (l ++ [m]) := by
  rw [findKV_none_set _ _ _ 0 (findKV_of_get (by rw [getKV_keys, h]; rfl))]
  simp [keysOf]
set_option maxRecDepth 100000 in
set_option maxHeartbeats 1000000 in
theorem mapping_check (A : Option Addr) (n c : Nat) (l : List Mp) (w : World) (hn : n ≤ 1000) (hl : Mps w A n l) (hto : ∀ m ∈ l, m.to.length ≤ 100000) :
    Calls Tryz.prog 80 #[.slice A n c] w (RetI w (mapCheck l)) := by
  have HL := Lib.hid hl
  have HN := Lib.hid hl.1
  have HP := Lib.hid (mapping_parts A n c l w hn hl hto)
  clear hl hto
  by_cases hp : mapParts l = 0
  · have hp' : (mapParts l != 0) = false := by simp [hp]
    have HPZ := Lib.hid hp
    clear hp
    go_enter Tryz.func80, Tryz.ntmps80
    go_wp2_with (go_at_call 101; refine HP.out.mono ?_; rintro e w0 ⟨rfl, hB0⟩)
    go_loopw [4, 5] (fun a i wr => ∃ k : Nat, k ≤ n ∧ i = .int .i64 (k + 1) ∧ a = .bool (!adjAny mpNotLess (l.take (k + 1))) ∧ Below w.heap.size w wr) (fun _ i _ => n - (intOf i).toNat)
    case atStart => exact ⟨0, Nat.zero_le _, rfl, by cases l <;> simp [adjAny], hB0⟩
    case round =>
      obtain ⟨k, hk, rfl, rfl, hB⟩ := hrel
      by_cases hlt : k + 1 < n
      · obtain ⟨b, off, s, A', n', c', rfl, hs, _, _, c0, c1, c2⟩ := mp_at (i := k) (HL.out.kept hB) (by omega)
        obtain ⟨b', off', s', A'', n'', c'', hA', hs', _, _, c0', c1', c2'⟩ := mp_at (i := k + 1) (HL.out.kept hB) (by omega)
        simp only [Option.some.injEq, Addr.mk.injEq] at hA'
        obtain ⟨rfl, rfl, _⟩ := hA'
        have HS := Lib.hid hs
        have HS' := Lib.hid hs'
        clear hs hs'
        have hb0 : b < wr.heap.size := cell_lt c0
        go_wp2
        have hw1 : IntKind.i64.wrap (k : Int) = (k : Int) := IntWalk.i64_in _ (by omega)
        have hw2 : k < n := by omega
        have hw3 : (0 : Int) ≤ (k : Int) + 1 := by omega
        have hw4 : (k : Int) + 1 < (n : Int) := by omega
        have hw5 : ((k : Int) + 1).toNat = k + 1 := by omega
        refine region_still_tail 9 (by kernel_rfl) (by kernel_rfl) ?_
        simp only [List.take_succ_cons, List.take_zero, List.drop_succ_cons, List.drop_zero]
        iterate 9 still_step
        refine wpStill_nil ?_
        clear hw1 hw2 hw3 hw4 hw5
        cases hcmp : mpNotLess s s'
        · have hz : ¬ 0 ≤ orI (cmpI s.src s'.src) (cmpS s.tag s'.tag) := of_decide_eq_false hcmp
          have HC := Lib.hid hcmp
          clear hcmp
          go_wp2_with (go_at_call 102; refine (compare_any _ _ _ _ _ _ _).mono ?_; rintro e w' ⟨rfl, hk2⟩)
          go_roundw
          case rel => exact ⟨k + 1, by omega, by go_num, by rw [adjAny_take _ HS.out HS'.out, HC.out]; simp, Kept.trans hB (Kept.trans (Kept.drew (Kept.refl _)) hk2)⟩
          case measure => simp [intOf]; omega
        · have hz : 0 ≤ orI (cmpI s.src s'.src) (cmpS s.tag s'.tag) := of_decide_eq_true hcmp
          have HC := Lib.hid hcmp
          clear hcmp
          go_wp2_with (go_at_call 102; refine (compare_any _ _ _ _ _ _ _).mono ?_; rintro e w' ⟨rfl, hk2⟩)
          go_roundw
          case rel => exact ⟨k + 1, by omega, by go_num, by rw [adjAny_take _ HS.out HS'.out, HC.out]; simp, Kept.trans hB (Kept.trans (Kept.drew (Kept.refl _)) hk2)⟩
          case measure => simp [intOf]; omega
      · have hfull : l.take (k + 1) = l := List.take_of_length_le (by have := HN.out; omega)
        rw [hfull]
        have hmm := @run_makeMap Tryz.prog
        cases hadj : adjAny mpNotLess l
        · go_wp2
          go_ret
          exact ⟨ret_int (by unfold mapCheck; rw [if_neg (by simp [HPZ.out]), if_pos hadj]), hB⟩
        · have HADJ := Lib.hid hadj
          clear hadj hfull
          simp only [Bool.not_true]
          go_wp2
          have hB1 := hB.alloc hB.size (Obj.map #[] 0)
          have HM := Lib.hid (MapIs.made wr encKey 0)
          have hbm : w.heap.size ≤ wr.heap.size := hB.size
          obtain ⟨bm, hbm2⟩ : ∃ bm : Nat, bm = wr.heap.size := ⟨_, rfl⟩
          rw [← hbm2] at HM hbm ⊢
          clear hbm2 hmm
          generalize wr.alloc (Obj.map #[] 0) = W1 at *
          clear hB
          obtain ⟨w2, rfl⟩ : ∃ w2 : World, w2 = wr := ⟨_, rfl⟩
          go_loopw [35] (fun i wr => ∃ k : Nat, k ≤ n ∧ i = .int .i64 k ∧ hasDup (l.take k) = false ∧ MapIs wr bm encKey (keysOf (l.take k)) ∧ Below w.heap.size w wr) (fun i _ => n - (intOf i).toNat)
          case atStart => exact ⟨0, Nat.zero_le _, rfl, by simp [hasDup], HM.out, hB1⟩
          case round =>
            obtain ⟨k, hk, rfl, hno, hM, hB⟩ := hrel
            have HNO := Lib.hid hno
            have HMM := Lib.hid hM
            clear hno hM
            by_cases hlt : k < n
            · obtain ⟨b, off, m, A', n', c', rfl, hm, _, _, c0, c1, c2⟩ := mp_at (HL.out.kept hB) hlt
              have HS := Lib.hid hm
              clear hm
              cases hseen : ((l.take k).any fun x => sameKey x m)
              · have HSN := Lib.hid hseen
                clear hseen
                go_wp2_with fail
                refine (keyOf_any _ _ _ _).mono ?_
                rintro e w3 ⟨rfl, hk3⟩
                have hm3 := HMM.out.kept (Kept.trans (Kept.alloc (Kept.refl _) _) hk3)
                have hlk := run_lookup_plain (T := 168) (E := 4) keyOk_key (by kernel_rfl) hm3 (.bool false) (fun w => by kernel_rfl) (m.src, m.tag)
                rw [getKV_keys, HSN.out, if_neg (by decide)] at hlk
                simp only [encKey, Option.getD_none] at hlk
                have hbx := box_cell wr #[Value.int IntKind.i64 m.src, Value.slice A' n' c', Value.string m.tag] 57
                have e0 := hk3.cell (hbx 0)
                have e1 := hk3.cell (hbx 1)
                have e2 := hk3.cell (hbx 2)
                clear hbx
                go_wp2_with fail
                clear hlk e0 e1 e2
                refine (keyOf_any _ _ _ _).mono ?_
                rintro e w4 ⟨rfl, hk4⟩
                obtain ⟨w5, hup, hm5, hg5⟩ := run_update (T := 168) (E := 4) keyOk_key (by kernel_rfl) (hm3.kept hk4) (m.src, m.tag) (.bool true)
                simp only [encKey] at hup
                rw [keysOf_snoc HSN.out, ← take_succ_some HS.out] at hm5
                have HM5 := Lib.hid hm5
                have hB5 : Below w.heap.size w w5 := (Below.trans hB ((Kept.trans (Kept.alloc (Kept.refl _) _) (Kept.trans hk3 hk4)).mono hB.size)).grown hg5 (by have h1 := hk3.size; have h2 := hk4.size; have h3 := hB.size; simp at h1; omega) (fun k e => by cases e; exact hbm)
                clear hm5
                go_wp2
                go_roundw
                case rel => exact ⟨k + 1, by omega, by go_num, by rw [take_succ_some HS.out, hasDup_snoc, HNO.out, HSN.out]; rfl, HM5.out, hB5⟩
                case measure => simp [intOf]; omega
              · have HSN := Lib.hid hseen
                clear hseen
                go_wp2_with fail
                refine (keyOf_any _ _ _ _).mono ?_
                rintro e w3 ⟨rfl, hk3⟩
                have hm3 := HMM.out.kept (Kept.trans (Kept.alloc (Kept.refl _) _) hk3)
                have hlk := run_lookup_plain (T := 168) (E := 4) keyOk_key (by kernel_rfl) hm3 (.bool false) (fun w => by kernel_rfl) (m.src, m.tag)
                rw [getKV_keys, HSN.out, if_pos rfl] at hlk
                simp only [encKey, Option.getD_some] at hlk
                go_wp2_with fail
                go_ret
                have hdup : hasDup l = true := hasDup_of_take (k := k + 1) (by rw [take_succ_some HS.out, hasDup_snoc, HSN.out]; simp)
                exact ⟨ret_int (by unfold mapCheck; rw [if_neg (by simp [HPZ.out]), HADJ.out, if_neg (by decide), if_pos hdup]), Kept.trans hB (Kept.trans (Kept.alloc (Kept.refl _) _) hk3)⟩
            · have hno : hasDup l = false := by
                have := HNO.out
                rwa [List.take_of_length_le (by have := HN.out; omega)] at this
              have HNO1 := Lib.hid hno
              clear hno
              go_wp2
              go_ret
              exact ⟨ret_int (by unfold mapCheck; rw [if_neg (by simp [HPZ.out]), HADJ.out, if_neg (by decide), HNO1.out, if_neg (by decide)]), hB⟩
  · have hp' : (mapParts l != 0) = true := by simp [hp]
    have hc : mapCheck l = mapParts l := by unfold mapCheck; rw [if_pos hp]
    have HC := Lib.hid hc
    clear hc hp
    go_enter Tryz.func80, Tryz.ntmps80
    go_wp2_with (go_at_call 101; refine HP.out.mono ?_; rintro e w0 ⟨rfl, hB0⟩)
    go_ret
    exact ⟨ret_int HC.out.symm, hB0⟩
end Go.Proofs.YtckgmkjoblneeaaGreatDoor
