/- References: Check of layer 11 (mappings). -/
import Derived.Test.YtljkkfohlkhjnaaGreatDoorKRefA
import Derived.Test.YtljkkfohlkhjnaaGreatDoorKMpx
import Derived.Test.YtljkkfohlkhjnaaGreatDoorKPl
namespace Go.Proofs.YtljkkfohlkhjnaaGreatDoor
open Go Go.RowKit

theorem bytes_ext_r {a b : ByteArray} (h : a.toList = b.toList) : a = b := by
  rw [ByteArray.toList_eq, ByteArray.toList_eq] at h
  obtain ⟨⟨x⟩⟩ := a
  obtain ⟨⟨y⟩⟩ := b
  simp at h
  rw [h]

set_option maxHeartbeats 1000000 in
theorem r11codes (m : Mp) (A : Option Addr) (n c : Nat) (w : World) (hn : n ≤ 100000) (hI : Ints w A n m.to) :
    Calls Tryz.prog 101 #[.agg #[.int .i64 m.src, .slice A n c, .string m.tag]] w (RetB w (!mpBadCode m)) := by
  have HI := Lib.hid hI
  clear hI
  go_enter Tryz.func101, Tryz.ntmps101
  go_wp2
  have hk0 := Kept.alloc (Kept.refl w) (Obj.cells #[Value.int IntKind.i64 m.src, Value.slice A n c, Value.string m.tag] 67)
  have hbx := box_cell w #[Value.int IntKind.i64 m.src, Value.slice A n c, Value.string m.tag] 67
  have x0 := hbx 0
  have x1 := hbx 1
  clear hbx
  obtain ⟨bx, hbx⟩ : ∃ bx : Nat, bx = w.heap.size := ⟨_, rfl⟩
  generalize w.alloc (Obj.cells #[Value.int IntKind.i64 m.src, Value.slice A n c, Value.string m.tag] 67) = W1 at *
  rw [← hbx] at x0 x1 ⊢
  clear hbx
  have HI1 := Lib.hid (HI.out.kept hk0)
  go_loop [3] (fun i => ∃ k : Nat, k ≤ n ∧ i = .int .i64 k ∧ (m.to.take k).any (fun c => !validB c) = false) (fun i => n - (intOf i).toNat)
  case atStart => exact ⟨0, Nat.zero_le _, rfl, by simp⟩
  case round =>
    obtain ⟨k, hk, rfl, hno⟩ := hrel
    have HNO := Lib.hid hno
    clear hno
    by_cases hlt : k < n
    · obtain ⟨b, off, x, rfl, hx, c0⟩ := int_at HI1.out hlt
      have HX := Lib.hid hx
      clear hx
      cases hv : validB x
      · have HB := Lib.hid (badCode_to HX.out hv)
        go_wp2_with (go_at_call 77; refine (rvalid_any _ _).mono ?_; rintro e w' ⟨rfl, rfl⟩)
        go_ret
        exact ⟨ret_bool (by rw [HB.out]; rfl), hk0⟩
      · go_wp2_with (go_at_call 77; refine (rvalid_any _ _).mono ?_; rintro e w' ⟨rfl, rfl⟩)
        go_round
        case rel => exact ⟨k + 1, by omega, by go_num, by rw [any_take_snoc _ HX.out, HNO.out, hv]; rfl⟩
        case measure => simp [intOf]; omega
    · have hall : m.to.any (fun c => !validB c) = false := by
        have := HNO.out
        rwa [List.take_of_length_le (by have := HI1.out.1; omega)] at this
      have HA := Lib.hid hall
      clear hall
      go_wp2_with (go_at_call 77; refine (rvalid_any _ _).mono ?_; rintro e w' ⟨rfl, rfl⟩)
      go_ret
      exact ⟨ret_bool (by unfold mpBadCode; rw [HA.out]; simp), hk0⟩

set_option maxHeartbeats 1000000 in
theorem r11Name (s : ByteArray) (w : World) (hs : s.size ≤ 1000000) : Calls Tryz.prog 102 #[.string s] w fun e w' => e = .returned (.bool (isNameB s)) ∧ w = w' := by
  go_enter Tryz.func102, Tryz.ntmps102
  go_wp2
  go_loop [3] (fun i => ∃ k : Nat, k ≤ s.size ∧ i = .int .i64 k ∧ (s.data.toList.take k).all nameByte = true) (fun i => s.size - (intOf i).toNat)
  case atStart => exact ⟨0, Nat.zero_le _, rfl, by simp⟩
  case round =>
    obtain ⟨k, hk, rfl, hall⟩ := hrel
    have HA := Lib.hid hall
    clear hall
    by_cases hlt : k < s.size
    · have hb := UInt8.toNat_lt s[k]
      go_wp2
      all_goals first
        | (go_ret
           refine ⟨ret_bool (isNameB_false hlt (nameByte_false ?_)).symm, rfl⟩
           go_light
           simp at *
           omega)
        | (go_round
           case rel =>
             refine ⟨k + 1, by omega, by go_num, ?_⟩
             rw [take_succ_some (bytes_take hlt), List.all_append, HA.out, Bool.true_and, List.all_cons, List.all_nil, Bool.and_true]
             refine nameByte_true ?_
             go_light
             simp at *
             omega
           case measure => simp [intOf]; omega)
    · have hall : s.data.toList.all nameByte = true := by
        have h := HA.out
        rwa [List.take_of_length_le (by simp; omega)] at h
      have HAL := Lib.hid hall
      clear hall
      have hempty : s.toList = [] ↔ s.size = 0 := by
        rw [ByteArray.toList_eq]
        constructor
        · intro h; have := congrArg List.length h; simpa using this
        · intro h; exact List.eq_nil_of_length_eq_zero (by simpa using h)
      have HE := Lib.hid hempty
      clear hempty
      have hres : isNameB s = (decide (1 ≤ s.size) && decide (s.size ≤ 32)) := by
        unfold isNameB
        rw [HAL.out, Bool.and_true]
        congr 1
        rw [decide_eq_decide]
        simp only [ne_eq, HE.out]
        omega
      have HR := Lib.hid hres
      clear hres
      by_cases h1 : 1 ≤ s.size
      · by_cases h2 : s.size ≤ 32
        · go_wp2
          go_ret
          exact ⟨ret_bool (by rw [HR.out]; simp [h1, h2]; omega), rfl⟩
        · go_wp2
          go_ret
          exact ⟨ret_bool (by rw [HR.out]; simp [h1, h2]; try omega), rfl⟩
      · go_wp2
        go_ret
        exact ⟨ret_bool (by rw [HR.out]; simp [h1]), rfl⟩

theorem before_ne {a b : Mp} (h1 : ¬ a.src < b.src) (h2 : (a.src == b.src) = false) : beforeB a b = false := by
  have : ¬ a.src = b.src := by simpa using h2
  simp [beforeB, h1, this]
theorem before_eq {a b : Mp} (h2 : (a.src == b.src) = true) : beforeB a b = Op.bytesLess a.tag.toList b.tag.toList := by
  have : a.src = b.src := by simpa using h2
  simp [beforeB, this]
theorem sameKey_src {m m' : Mp} (q : (m.src == m'.src) = false) : sameKey m' m = false := by
  have h : ¬ m.src = m'.src := by simpa using q
  have : ¬ m'.src = m.src := fun e => h e.symm
  simp [sameKey, this]
theorem sameKey_tag {m m' : Mp} (q : (m.tag.toList == m'.tag.toList) = false) : sameKey m' m = false := by
  have h : ¬ m.tag.toList = m'.tag.toList := by simpa using q
  have : ¬ m'.tag = m.tag := fun e => h (by rw [e])
  simp [sameKey, this]
theorem sameKey_both {m m' : Mp} (q1 : (m.src == m'.src) = true) (q2 : (m.tag.toList == m'.tag.toList) = true) : sameKey m' m = true := by
  have h : m.tag.toList = m'.tag.toList := by simpa using q2
  have h1 : m.src = m'.src := by simpa using q1
  simp [sameKey, h1, bytes_ext_r h]
theorem r11before (a b : Mp) (v1 v2 : Value) (w : World) : Calls Tryz.prog 80 #[.agg #[.int .i64 a.src, v1, .string a.tag], .agg #[.int .i64 b.src, v2, .string b.tag]] w (RetB w (beforeB a b)) := by
  by_cases h1 : a.src < b.src
  · have HR := Lib.hid (show beforeB a b = true by simp [beforeB, h1])
    go_enter Tryz.func80, Tryz.ntmps80
    go_wp2
    go_ret
    exact ⟨ret_bool HR.out.symm, Kept.alloc (Kept.alloc (Kept.refl _) _) _⟩
  · cases h2 : (a.src == b.src)
    · have HR := Lib.hid (before_ne h1 h2)
      go_enter Tryz.func80, Tryz.ntmps80
      go_wp2
      go_ret
      exact ⟨ret_bool HR.out.symm, Kept.alloc (Kept.alloc (Kept.refl _) _) _⟩
    · have HR := Lib.hid (before_eq h2)
      go_enter Tryz.func80, Tryz.ntmps80
      go_wp2
      go_ret
      exact ⟨ret_bool HR.out.symm, Kept.alloc (Kept.alloc (Kept.refl _) _) _⟩

set_option maxRecDepth 100000 in
set_option maxHeartbeats 2000000 in
theorem r11twice (A : Option Addr) (n c : Nat) (l : List Mp) (w : World) (hn : n ≤ 1000) (hl : Mps w A n l) :
    Calls Tryz.prog 103 #[.slice A n c] w (RetB w (hasDup l)) := by
  have HL := Lib.hid hl
  have HN := Lib.hid hl.1
  clear hl
  go_enter Tryz.func103, Tryz.ntmps103
  go_wp2
  go_loopw [3] (fun i wr => ∃ k : Nat, k ≤ n ∧ i = .int .i64 k ∧ hasDup (l.take k) = false ∧ Below w.heap.size w wr) (fun i _ => n - (intOf i).toNat)
  case atStart => exact ⟨0, Nat.zero_le _, rfl, by simp [hasDup], Below.refl _ _⟩
  case round =>
    obtain ⟨i, hi, rfl, hno, hB⟩ := hrel
    have HNO := Lib.hid hno
    clear hno
    by_cases hlt : i < n
    · obtain ⟨b, off, m, A', n', c', rfl, hm, _, _, c0, c1, c2⟩ := mp_at (HL.out.kept hB) hlt
      have HM := Lib.hid hm
      have HC0 := Lib.hid c0
      have HC2 := Lib.hid c2
      clear hm c0 c1 c2
      go_wp2
      obtain ⟨wo, rfl⟩ : ∃ wo : World, wo = wr := ⟨_, rfl⟩
      go_loopw [4] (fun q wr => ∃ k : Nat, k ≤ i ∧ q = .int .i64 k ∧ ((l.take k).any fun x => sameKey x m) = false ∧ Below wo.heap.size wo wr) (fun q _ => i - (intOf q).toNat)
      case atStart => exact ⟨0, Nat.zero_le _, rfl, by simp, Below.refl _ _⟩
      case round =>
        obtain ⟨k, hk, rfl, hno, hB2⟩ := hrel
        have HN2 := Lib.hid hno
        clear hno
        by_cases hki : k < i
        · obtain ⟨b', off', m', A'', n'', c'', hA', hm', _, _, d0, d1, d2⟩ := mp_at (i := k) (HL.out.kept (Kept.trans hB hB2)) (by omega)
          simp only [Option.some.injEq, Addr.mk.injEq] at hA'
          obtain ⟨rfl, rfl, _⟩ := hA'
          have c0 := Kept.cell hB2 HC0.out
          have c2 := Kept.cell hB2 HC2.out
          have HM' := Lib.hid hm'
          clear hm'
          have g1 : (i : Int) < (n : Int) := by omega
          have g2 : (k : Int) < (n : Int) := by omega
          have g3 : k < n := by omega
          cases q1 : (m.src == m'.src)
          · have HSK := Lib.hid (sameKey_src q1)
            go_wp2
            go_quiet (fail)
            go_wp2
            go_roundw
            case rel => exact ⟨k + 1, by omega, by go_num, by rw [any_take_snoc _ HM'.out, HN2.out, HSK.out]; rfl, Kept.drewN hB2 _⟩
            case measure => simp [intOf]; omega
          · cases q2 : (m.tag.toList == m'.tag.toList)
            · have HSK := Lib.hid (sameKey_tag q2)
              have q2' : ¬ m.tag.toList = m'.tag.toList := by simpa using q2
              go_wp2
              go_quiet (fail)
              go_wp2
              go_roundw
              case rel => exact ⟨k + 1, by omega, by go_num, by rw [any_take_snoc _ HM'.out, HN2.out, HSK.out]; rfl, Kept.drewN hB2 _⟩
              case measure => simp [intOf]; omega
            · have HSK := Lib.hid (sameKey_both q1 q2)
              have hdup : hasDup l = true := hasDup_of_take (k := i + 1) (by
                rw [take_succ_some HM.out, hasDup_snoc]
                have : ((l.take i).any fun x => sameKey x m) = true := List.any_eq_true.2 ⟨m', List.mem_of_getElem? (i := k) (by rw [List.getElem?_take, if_pos hki]; exact HM'.out), HSK.out⟩
                rw [this]; simp)
              have HD := Lib.hid hdup
              clear hdup
              go_wp2
              go_quiet (fail)
              go_wp2
              go_ret
              exact ⟨ret_bool HD.out.symm, Kept.drewN (Kept.trans hB hB2) _⟩
        · obtain rfl : k = i := by omega
          go_wp2
          go_roundw
          case rel => exact ⟨k + 1, by omega, by go_num, by rw [take_succ_some HM.out, hasDup_snoc, HNO.out, HN2.out]; rfl, Kept.trans hB hB2⟩
          case measure => simp [intOf]; omega
    · have hno : hasDup l = false := by
        have := HNO.out
        rwa [List.take_of_length_le (by have := HN.out; omega)] at this
      have HD := Lib.hid hno
      clear hno
      go_wp2
      go_ret
      exact ⟨ret_bool HD.out.symm, hB⟩
end Go.Proofs.YtljkkfohlkhjnaaGreatDoor
