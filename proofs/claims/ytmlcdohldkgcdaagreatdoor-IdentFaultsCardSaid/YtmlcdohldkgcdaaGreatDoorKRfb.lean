/- References: Small of layer 21; hangul, Check and Class of layer 20; find of layer 21. References: Check of layer 11 (mappings). References: unsorted and Check of layer 11; Small of layer 21; Class of layer 20. -/
import Derived.Test.YtmlcdohldkgcdaaGreatDoorKRefA
import Derived.Test.YtmlcdohldkgcdaaGreatDoorKSet
import Derived.Test.YtmlcdohldkgcdaaGreatDoorKMpx
import Derived.Test.YtmlcdohldkgcdaaGreatDoorKPl
namespace Go.Proofs.YtmlcdohldkgcdaaGreatDoor
open Go Go.RowKit
theorem quiet_valid (c : Int) (w : World) (n : Nat) : Calls Tryz.prog 104 #[.int .i64 c] (w.drewN n) fun e w'' => e = .returned (.bool (validB c)) ∧ ∃ m, w'' = w.drewN m :=
  (rvalid_any c (w.drewN n)).mono fun _ _ ⟨he, hw⟩ => ⟨he, n, hw.symm⟩
theorem r20hangul (w : World) : Calls Tryz.prog 208 #[] w (RetRngs w hangulR) := by
  go_enter Tryz.func208, Tryz.ntmps208
  go_wp2
  go_ret
  refine ⟨_, 4, 4, rfl, Nat.le_refl _, ⟨rfl, fun _ => ⟨w.heap.size, 0, rfl, fun i x hx j u hu => ?_⟩⟩, Kept.alloc (Kept.refl _) _⟩
  rw [Nat.zero_add, box_cell]
  have hi := lt_of_getElem?_some hx
  have hj := lt_of_getElem?_some hu
  simp only [hangulR, List.length_cons, List.length_nil] at hi
  have hj2 : j < 2 := hj
  match i, hi, j, hj2, hx, hu with
  | 0, _, 0, _, hx, hu => simp [hangulR] at hx; subst hx; simpa [encR] using hu
  | 0, _, 1, _, hx, hu => simp [hangulR] at hx; subst hx; simpa [encR] using hu
  | 1, _, 0, _, hx, hu => simp [hangulR] at hx; subst hx; simpa [encR] using hu
  | 1, _, 1, _, hx, hu => simp [hangulR] at hx; subst hx; simpa [encR] using hu
  | 2, _, 0, _, hx, hu => simp [hangulR] at hx; subst hx; simpa [encR] using hu
  | 2, _, 1, _, hx, hu => simp [hangulR] at hx; subst hx; simpa [encR] using hu
  | 3, _, 0, _, hx, hu => simp [hangulR] at hx; subst hx; simpa [encR] using hu
  | 3, _, 1, _, hx, hu => simp [hangulR] at hx; subst hx; simpa [encR] using hu
set_option maxHeartbeats 1000000 in
theorem r21find (A : Option Addr) (n c : Nat) (l : List Mp) (x : Int) (compat : Bool) (w : World) (hn : n ≤ 1000) (hl : Mps w A n l) :
    Calls Tryz.prog 203 #[.slice A n c, .int .i64 x, .bool compat] w fun e w' => e = .returned (.int .i64 (fI (findM l x compat))) ∧ w = w' := by
  have HL := Lib.hid hl
  have HN := Lib.hid hl.1
  clear hl
  go_enter Tryz.func203, Tryz.ntmps203
  go_wp2
  go_loop [7] (fun i => ∃ k : Nat, k ≤ n ∧ i = .int .i64 k ∧ (l.take k).any (fits x compat) = false) (fun i => n - (intOf i).toNat)
  case atStart => exact ⟨0, Nat.zero_le _, rfl, by simp⟩
  case round =>
    obtain ⟨k, hk, rfl, hno⟩ := hrel
    have HNO := Lib.hid hno
    clear hno
    by_cases hlt : k < n
    · obtain ⟨b, off, m, A', n', c', rfl, hm, hle, hI, c0, c1, c2⟩ := mp_at HL.out hlt
      have HM := Lib.hid hm
      clear hm hI
      cases hs : (m.src == x)
      · have hs' : ¬ m.src = x := by simpa using hs
        have HF := Lib.hid (show fits x compat m = false by simp [fits, hs'])
        clear hs'
        go_wp2
        go_round
        case rel => exact ⟨k + 1, by omega, by go_num, by rw [any_take_snoc _ HM.out, HNO.out, HF.out]; rfl⟩
        case measure => simp [intOf]; omega
      · have hs' : m.src = x := by simpa using hs
        cases compat
        · cases ht : m.tag.toList.isEmpty
          · have hte : ¬ m.tag.toList = [] := by simpa using ht
            have HF := Lib.hid (show fits x false m = false by simp [fits, plainTag, ht])
            clear hs'
            go_wp2
            go_round
            case rel => exact ⟨k + 1, by omega, by go_num, by rw [any_take_snoc _ HM.out, HNO.out, HF.out]; rfl⟩
            case measure => simp [intOf]; omega
          · have hte : m.tag.toList = [] := by simpa using ht
            have HF := Lib.hid (show fits x false m = true by simp [fits, plainTag, ht, hs'])
            clear hs'
            go_wp2
            go_ret
            exact ⟨ret_int (by rw [findM_hit HNO.out HM.out HF.out]; rfl), rfl⟩
        · have HF := Lib.hid (show fits x true m = true by simp [fits, hs'])
          clear hs'
          go_wp2
          go_ret
          exact ⟨ret_int (by rw [findM_hit HNO.out HM.out HF.out]; rfl), rfl⟩
    · go_wp2
      go_ret
      have hres : findM l x compat = none := findM_miss (by have := HNO.out; rwa [List.take_of_length_le (by have := HN.out; omega)] at this)
      exact ⟨ret_int (by rw [hres]; rfl), rfl⟩
theorem spanBad_valid {s : Span} : spanBad s = true ↔ validB s.lo = false ∨ validB s.hi = false ∨ s.hi < s.lo ∨ s.val < 1 ∨ 254 < s.val := by
  simp [spanBad, validB]; omega
set_option maxRecDepth 100000 in
set_option maxHeartbeats 4000000 in
theorem r20Check (A : Option Addr) (n c : Nat) (l : List Span) (w : World) (hn : n ≤ 1000) (hl : Spans w A n l) :
    Calls Tryz.prog 182 #[.slice A n c] w (RetI w (ordCheck l)) := by
  have HL := Lib.hid hl
  have HN := Lib.hid hl.1
  clear hl
  go_enter Tryz.func182, Tryz.ntmps182
  go_wp2
  go_loopw [3] (fun i wr => ∃ k : Nat, k ≤ n ∧ i = .int .i64 k ∧ (l.take k).any spanBad = false ∧ Below w.heap.size w wr) (fun i _ => n - (intOf i).toNat)
  case atStart => exact ⟨0, Nat.zero_le _, rfl, by simp, Below.refl _ _⟩
  case round =>
    obtain ⟨k, hk, rfl, hno, hB⟩ := hrel
    have HNO := Lib.hid hno
    clear hno
    by_cases hlt : k < n
    · obtain ⟨b, off, s, rfl, hs, c0, c1, c2⟩ := span_at (HL.out.kept hB) hlt
      have HS := Lib.hid hs
      clear hs
      have g1 : (k : Int) < (n : Int) := by omega
      cases v1 : validB s.lo
      · have HBD := Lib.hid (spanBad_valid.2 (.inl v1))
        go_wp2
        go_quiet ((go_at_call 104; exact quiet_valid _ _ _))
        go_wp2
        go_ret
        exact ⟨ret_int (ordCheck_range HS.out HBD.out).symm, Kept.drewN hB _⟩
      · cases v2 : validB s.hi
        · have HBD := Lib.hid (spanBad_valid.2 (.inr (.inl v2)))
          go_wp2
          go_quiet ((go_at_call 104; exact quiet_valid _ _ _))
          go_wp2
          go_ret
          exact ⟨ret_int (ordCheck_range HS.out HBD.out).symm, Kept.drewN hB _⟩
        · by_cases v3 : s.hi < s.lo
          · have v3' : s.lo > s.hi := v3
            have d3 : decide (s.hi < s.lo) = true := by simpa using v3
            have HBD := Lib.hid (spanBad_valid.2 (.inr (.inr (.inl v3))))
            go_wp2
            go_quiet ((go_at_call 104; exact quiet_valid _ _ _))
            go_wp2
            go_ret
            exact ⟨ret_int (ordCheck_range HS.out HBD.out).symm, Kept.drewN hB _⟩
          · have d3 : decide (s.hi < s.lo) = false := by simpa using v3
            by_cases v4 : s.val < 1
            · have d4 : decide (s.val < 1) = true := by simpa using v4
              have HBD := Lib.hid (spanBad_valid.2 (.inr (.inr (.inr (.inl v4)))))
              go_wp2
              go_quiet ((go_at_call 104; exact quiet_valid _ _ _))
              go_wp2
              go_ret
              exact ⟨ret_int (ordCheck_range HS.out HBD.out).symm, Kept.drewN hB _⟩
            · have d4 : decide (s.val < 1) = false := by simpa using v4
              by_cases v5 : 254 < s.val
              · have d5 : decide (254 < s.val) = true := by simpa using v5
                have HBD := Lib.hid (spanBad_valid.2 (.inr (.inr (.inr (.inr v5)))))
                go_wp2
                go_quiet ((go_at_call 104; exact quiet_valid _ _ _))
                go_wp2
                go_ret
                exact ⟨ret_int (ordCheck_range HS.out HBD.out).symm, Kept.drewN hB _⟩
              · have d5 : decide (254 < s.val) = false := by simpa using v5
                have hg : spanBad s = false := by
                  cases hsb : spanBad s
                  · rfl
                  · have := spanBad_valid.1 hsb
                    rw [v1, v2] at this
                    simp at this
                    omega
                have HGD := Lib.hid hg
                clear hg
                go_wp2
                go_quiet ((go_at_call 104; exact quiet_valid _ _ _))
                go_wp2
                go_roundw
                case rel => exact ⟨k + 1, by omega, by go_num, by rw [any_take_snoc _ HS.out, HNO.out, HGD.out]; rfl, Kept.drewN hB _⟩
                case measure => simp [intOf]; omega
    · have hall : l.any spanBad = false := by
        have := HNO.out
        rwa [List.take_of_length_le (by have := HN.out; omega)] at this
      have HNO1 := Lib.hid hall
      clear hall HNO
      go_wp2
      obtain ⟨w1, rfl⟩ : ∃ w1 : World, w1 = wr := ⟨_, rfl⟩
      go_loopw [4] (fun i wr => ∃ k : Nat, k ≤ n ∧ i = .int .i64 (k + 1) ∧ adjAny spanClash (l.take (k + 1)) = false ∧ Below w.heap.size w wr) (fun i _ => n - (intOf i).toNat)
      case atStart => exact ⟨0, Nat.zero_le _, rfl, by cases l <;> simp [adjAny], hB⟩
      case round =>
        obtain ⟨k, hk, rfl, hno, hB⟩ := hrel
        have HNO := Lib.hid hno
        clear hno
        by_cases hlt : k + 1 < n
        · obtain ⟨b, off, s, rfl, hs, c0, c1, c2⟩ := span_at (i := k) (HL.out.kept hB) (by omega)
          obtain ⟨b', off', s', hA', hs', c0', c1', c2'⟩ := span_at (i := k + 1) (HL.out.kept hB) (by omega)
          simp only [Option.some.injEq, Addr.mk.injEq] at hA'
          obtain ⟨rfl, rfl, _⟩ := hA'
          have b1 := spanBad_false (any_false_at HNO1.out hs)
          have HS := Lib.hid hs
          have HS' := Lib.hid hs'
          clear hs hs'
          have hwp : IntKind.i64.wrap (k : Int) = (k : Int) := IntWalk.i64_in _ (by omega)
          have hwp2 : k < n := by omega
          have hwp3 : (0 : Int) ≤ (k : Int) + 1 := by omega
          have hwp4 : (k : Int) + 1 < (n : Int) := by omega
          have hwp5 : ((k : Int) + 1).toNat = k + 1 := by omega
          have hwp6 : IntKind.i64.wrap (s.hi + 1) = s.hi + 1 := IntWalk.i64_in _ (by omega)
          by_cases q1 : s'.lo ≤ s.hi
          · have d1 : decide (s'.lo ≤ s.hi) = true := by simpa using q1
            have HCL := Lib.hid (spanClash_mk (a := s) (b := s') (.inl q1))
            go_wp2
            go_quiet (fail)
            clear hwp hwp2 hwp3 hwp4 hwp5 hwp6
            go_wp2
            go_ret
            exact ⟨ret_int (ordCheck_order HNO1.out HS.out HS'.out HCL.out).symm, Kept.drewN hB _⟩
          · have d1 : decide (s'.lo ≤ s.hi) = false := by simpa using q1
            cases q2 : (s'.lo == s.hi + 1)
            · have q2' : ¬ s'.lo = s.hi + 1 := by simpa using q2
              have HCL := Lib.hid (spanClash_not (a := s) (b := s') ⟨by omega, .inl q2'⟩)
              clear q2'
              go_wp2
              go_quiet (fail)
              clear hwp hwp2 hwp3 hwp4 hwp5 hwp6
              go_wp2
              go_roundw
              case rel => exact ⟨k + 1, by omega, by go_num, by rw [adjAny_take _ HS.out HS'.out, HNO.out, HCL.out]; rfl, Kept.drewN hB _⟩
              case measure => simp [intOf]; omega
            · have q2' : s'.lo = s.hi + 1 := by simpa using q2
              cases q3 : (s'.val == s.val)
              · have q3' : ¬ s'.val = s.val := by simpa using q3
                have HCL := Lib.hid (spanClash_not (a := s) (b := s') ⟨by omega, .inr q3'⟩)
                clear q2' q3'
                go_wp2
                go_quiet (fail)
                clear hwp hwp2 hwp3 hwp4 hwp5 hwp6
                go_wp2
                go_roundw
                case rel => exact ⟨k + 1, by omega, by go_num, by rw [adjAny_take _ HS.out HS'.out, HNO.out, HCL.out]; rfl, Kept.drewN hB _⟩
                case measure => simp [intOf]; omega
              · have q3' : s'.val = s.val := by simpa using q3
                have HCL := Lib.hid (spanClash_mk (a := s) (b := s') (.inr ⟨q2', q3'⟩))
                clear q2' q3'
                go_wp2
                go_quiet (fail)
                clear hwp hwp2 hwp3 hwp4 hwp5 hwp6
                go_wp2
                go_ret
                exact ⟨ret_int (ordCheck_order HNO1.out HS.out HS'.out HCL.out).symm, Kept.drewN hB _⟩
        · have hall : adjAny spanClash l = false := by
            have := HNO.out
            rwa [List.take_of_length_le (by have := HN.out; omega)] at this
          have HNO2 := Lib.hid hall
          clear hall HNO
          go_wp2_with fail
          refine (r20hangul _).mono ?_
          rintro e w2 ⟨Ah, nh, ch, rfl, hleh, hRh, hkh⟩
          have hnh : nh = 4 := hRh.1
          subst hnh
          have HRH := Lib.hid hRh
          have hB2 := Kept.trans hB hkh
          clear hRh
          go_wp2_with fail
          obtain ⟨w3, rfl⟩ : ∃ w3 : World, w3 = wr := ⟨_, rfl⟩
          go_loopw [6] (fun i wr => ∃ k : Nat, k ≤ n ∧ i = .int .i64 k ∧ (l.take k).any spanHangul = false ∧ Below w2.heap.size w2 wr) (fun i _ => n - (intOf i).toNat)
          case atStart => exact ⟨0, Nat.zero_le _, rfl, by simp, Below.refl _ _⟩
          case round =>
            obtain ⟨k, hk, rfl, hno, hB3⟩ := hrel
            have HNO := Lib.hid hno
            clear hno
            by_cases hlt : k < n
            · obtain ⟨b, off, s, rfl, hs, c0, c1, c2⟩ := span_at (HL.out.kept (Kept.trans hB2 hB3)) hlt
              have HS := Lib.hid hs
              have HC0 := Lib.hid c0
              have HC1 := Lib.hid c1
              clear hs c0 c1 c2
              go_wp2_with fail
              obtain ⟨w4, rfl⟩ : ∃ w4 : World, w4 = wr := ⟨_, rfl⟩
              go_loopw [7] (fun i wr => ∃ k : Nat, k ≤ 4 ∧ i = .int .i64 k ∧ (hangulR.take k).any (meets s) = false ∧ Below w4.heap.size w4 wr) (fun i _ => 4 - (intOf i).toNat)
              case atStart => exact ⟨0, by omega, rfl, by simp, Below.refl _ _⟩
              case round =>
                obtain ⟨j, hj, rfl, hno, hB4⟩ := hrel
                have HN2 := Lib.hid hno
                clear hno
                by_cases hj4 : j < 4
                · obtain ⟨b2, off2, r, rfl, hr, e0, e1⟩ := rng_at (HRH.out.kept (Kept.trans hB3 hB4)) hj4
                  have c0 := Kept.cell hB4 HC0.out
                  have c1 := Kept.cell hB4 HC1.out
                  have HR := Lib.hid hr
                  clear hr
                  have g1 : (k : Int) < (n : Int) := by omega
                  have g2 : (j : Int) < 4 := by omega
                  by_cases m1 : s.lo ≤ r.hi
                  · have d1 : decide (s.lo ≤ r.hi) = true := by simpa using m1
                    by_cases m2 : r.lo ≤ s.hi
                    · have d2 : decide (r.lo ≤ s.hi) = true := by simpa using m2
                      go_wp2_with fail
                      go_quiet (fail)
                      go_wp2_with fail
                      go_ret
                      exact ⟨ret_int (ordCheck_hangul HNO1.out HNO2.out HS.out (spanHangul_of HR.out (by simp [meets]; omega))).symm, Kept.drewN (Kept.trans hB2 (Kept.trans hB3 hB4)) _⟩
                    · have d2 : decide (r.lo ≤ s.hi) = false := by simpa using m2
                      go_wp2_with fail
                      go_quiet (fail)
                      go_wp2_with fail
                      go_roundw
                      case rel => exact ⟨j + 1, by omega, by go_num, by rw [any_take_snoc _ HR.out, HN2.out]; simp [meets]; omega, Kept.drewN hB4 _⟩
                      case measure => simp [intOf]; omega
                  · have d1 : decide (s.lo ≤ r.hi) = false := by simpa using m1
                    go_wp2_with fail
                    go_quiet (fail)
                    go_wp2_with fail
                    go_roundw
                    case rel => exact ⟨j + 1, by omega, by go_num, by rw [any_take_snoc _ HR.out, HN2.out]; simp [meets]; omega, Kept.drewN hB4 _⟩
                    case measure => simp [intOf]; omega
                · go_wp2_with fail
                  go_roundw
                  case rel => exact ⟨k + 1, by omega, by go_num, by
                    have h4 : j = 4 := by omega
                    subst h4
                    rw [any_take_snoc _ HS.out, HNO.out]; exact HN2.out, Kept.trans hB3 hB4⟩
                  case measure => simp [intOf]; omega
            · go_wp2_with fail
              go_ret
              exact ⟨ret_int (ordCheck_ok HNO1.out HNO2.out (by have := HNO.out; rwa [List.take_of_length_le (by have := HN.out; omega)] at this)).symm, Kept.trans hB2 hB3⟩
end Go.Proofs.YtmlcdohldkgcdaaGreatDoor
namespace Go.Proofs.YtmlcdohldkgcdaaGreatDoor
open Go Go.RowKit
theorem bytes_ext_r {a b : ByteArray} (h : a.toList = b.toList) : a = b := by
  rw [ByteArray.toList_eq, ByteArray.toList_eq] at h
  obtain ⟨⟨x⟩⟩ := a
  obtain ⟨⟨y⟩⟩ := b
  simp at h
  rw [h]
set_option maxHeartbeats 1000000 in
theorem r11codes (m : Mp) (A : Option Addr) (n c : Nat) (w : World) (hn : n ≤ 100000) (hI : Ints w A n m.to) :
    Calls Tryz.prog 219 #[.agg #[.int .i64 m.src, .slice A n c, .string m.tag]] w (RetB w (!mpBadCode m)) := by
  have HI := Lib.hid hI
  clear hI
  go_enter Tryz.func219, Tryz.ntmps219
  go_wp2
  have hk0 := Kept.alloc (Kept.refl w) (Obj.cells #[Value.int IntKind.i64 m.src, Value.slice A n c, Value.string m.tag] 74)
  have hbx := box_cell w #[Value.int IntKind.i64 m.src, Value.slice A n c, Value.string m.tag] 74
  have x0 := hbx 0
  have x1 := hbx 1
  clear hbx
  obtain ⟨bx, hbx⟩ : ∃ bx : Nat, bx = w.heap.size := ⟨_, rfl⟩
  generalize w.alloc (Obj.cells #[Value.int IntKind.i64 m.src, Value.slice A n c, Value.string m.tag] 74) = W1 at *
  rw [← hbx] at x0 x1 ⊢
  clear hbx
  have HI1 := Lib.hid (HI.out.kept hk0)
  go_loop [3] (fun i => ∃ k : Nat, k ≤ n ∧ i = .int .i64 k ∧ (m.to.take k).any (fun c => !validB c) = false) (fun i => n - (intOf i).toNat)
  case atStart => exact ⟨0, Nat.zero_le _, rfl, by simp⟩
  case round =>
    obtain ⟨k, hk, rfl, hno⟩ := hrel
    have HNO := Lib.hid hno
    clear hno
    by_cases hlt : k < n
    · obtain ⟨b, off, x, rfl, hx, c0⟩ := int_at HI1.out hlt
      have HX := Lib.hid hx
      clear hx
      cases hv : validB x
      · have HB := Lib.hid (badCode_to HX.out hv)
        go_wp2_with (go_at_call 104; refine (rvalid_any _ _).mono ?_; rintro e w' ⟨rfl, rfl⟩)
        go_ret
        exact ⟨ret_bool (by rw [HB.out]; rfl), hk0⟩
      · go_wp2_with (go_at_call 104; refine (rvalid_any _ _).mono ?_; rintro e w' ⟨rfl, rfl⟩)
        go_round
        case rel => exact ⟨k + 1, by omega, by go_num, by rw [any_take_snoc _ HX.out, HNO.out, hv]; rfl⟩
        case measure => simp [intOf]; omega
    · have hall : m.to.any (fun c => !validB c) = false := by
        have := HNO.out
        rwa [List.take_of_length_le (by have := HI1.out.1; omega)] at this
      have HA := Lib.hid hall
      clear hall
      go_wp2_with (go_at_call 104; refine (rvalid_any _ _).mono ?_; rintro e w' ⟨rfl, rfl⟩)
      go_ret
      exact ⟨ret_bool (by unfold mpBadCode; rw [HA.out]; simp), hk0⟩
set_option maxHeartbeats 1000000 in
theorem r11Name (s : ByteArray) (w : World) (hs : s.size ≤ 100000000) : Calls Tryz.prog 220 #[.string s] w fun e w' => e = .returned (.bool (isNameB s)) ∧ w = w' := by
  go_enter Tryz.func220, Tryz.ntmps220
  go_wp2
  go_loop [3] (fun i => ∃ k : Nat, k ≤ s.size ∧ i = .int .i64 k ∧ (s.data.toList.take k).all nameByte = true) (fun i => s.size - (intOf i).toNat)
  case atStart => exact ⟨0, Nat.zero_le _, rfl, by simp⟩
  case round =>
    obtain ⟨k, hk, rfl, hall⟩ := hrel
    have HA := Lib.hid hall
    clear hall
    by_cases hlt : k < s.size
    · have hb := UInt8.toNat_lt s[k]
      go_wp2
      all_goals first
        | (go_ret
           refine ⟨ret_bool (isNameB_false hlt (nameByte_false ?_)).symm, rfl⟩
           go_light
           simp at *
           omega)
        | (go_round
           case rel =>
             refine ⟨k + 1, by omega, by go_num, ?_⟩
             rw [take_succ_some (bytes_take hlt), List.all_append, HA.out, Bool.true_and, List.all_cons, List.all_nil, Bool.and_true]
             refine nameByte_true ?_
             go_light
             simp at *
             omega
           case measure => simp [intOf]; omega)
    · have hall : s.data.toList.all nameByte = true := by
        have h := HA.out
        rwa [List.take_of_length_le (by simp; omega)] at h
      have HAL := Lib.hid hall
      clear hall
      have hempty : s.toList = [] ↔ s.size = 0 := by
        rw [ByteArray.toList_eq]
        constructor
        · intro h; have := congrArg List.length h; simpa using this
        · intro h; exact List.eq_nil_of_length_eq_zero (by simpa using h)
      have HE := Lib.hid hempty
      clear hempty
      have hres : isNameB s = (decide (1 ≤ s.size) && decide (s.size ≤ 32)) := by
        unfold isNameB
        rw [HAL.out, Bool.and_true]
        congr 1
        rw [decide_eq_decide]
        simp only [ne_eq, HE.out]
        omega
      have HR := Lib.hid hres
      clear hres
      by_cases h1 : 1 ≤ s.size
      · by_cases h2 : s.size ≤ 32
        · go_wp2
          go_ret
          exact ⟨ret_bool (by rw [HR.out]; simp [h1, h2]; omega), rfl⟩
        · go_wp2
          go_ret
          exact ⟨ret_bool (by rw [HR.out]; simp [h1, h2]; try omega), rfl⟩
      · go_wp2
        go_ret
        exact ⟨ret_bool (by rw [HR.out]; simp [h1]), rfl⟩
theorem before_ne {a b : Mp} (h1 : ¬ a.src < b.src) (h2 : (a.src == b.src) = false) : beforeB a b = false := by
  have : ¬ a.src = b.src := by simpa using h2
  simp [beforeB, h1, this]
theorem before_eq {a b : Mp} (h2 : (a.src == b.src) = true) : beforeB a b = Op.bytesLess a.tag.toList b.tag.toList := by
  have : a.src = b.src := by simpa using h2
  simp [beforeB, this]
theorem sameKey_src {m m' : Mp} (q : (m.src == m'.src) = false) : sameKey m' m = false := by
  have h : ¬ m.src = m'.src := by simpa using q
  have : ¬ m'.src = m.src := fun e => h e.symm
  simp [sameKey, this]
theorem sameKey_tag {m m' : Mp} (q : (m.tag.toList == m'.tag.toList) = false) : sameKey m' m = false := by
  have h : ¬ m.tag.toList = m'.tag.toList := by simpa using q
  have : ¬ m'.tag = m.tag := fun e => h (by rw [e])
  simp [sameKey, this]
theorem sameKey_both {m m' : Mp} (q1 : (m.src == m'.src) = true) (q2 : (m.tag.toList == m'.tag.toList) = true) : sameKey m' m = true := by
  have h : m.tag.toList = m'.tag.toList := by simpa using q2
  have h1 : m.src = m'.src := by simpa using q1
  simp [sameKey, h1, bytes_ext_r h]
theorem r11before (a b : Mp) (v1 v2 : Value) (w : World) : Calls Tryz.prog 214 #[.agg #[.int .i64 a.src, v1, .string a.tag], .agg #[.int .i64 b.src, v2, .string b.tag]] w (RetB w (beforeB a b)) := by
  by_cases h1 : a.src < b.src
  · have HR := Lib.hid (show beforeB a b = true by simp [beforeB, h1])
    go_enter Tryz.func214, Tryz.ntmps214
    go_wp2
    go_ret
    exact ⟨ret_bool HR.out.symm, Kept.alloc (Kept.alloc (Kept.refl _) _) _⟩
  · cases h2 : (a.src == b.src)
    · have HR := Lib.hid (before_ne h1 h2)
      go_enter Tryz.func214, Tryz.ntmps214
      go_wp2
      go_ret
      exact ⟨ret_bool HR.out.symm, Kept.alloc (Kept.alloc (Kept.refl _) _) _⟩
    · have HR := Lib.hid (before_eq h2)
      go_enter Tryz.func214, Tryz.ntmps214
      go_wp2
      go_ret
      exact ⟨ret_bool HR.out.symm, Kept.alloc (Kept.alloc (Kept.refl _) _) _⟩
set_option maxRecDepth 100000 in
set_option maxHeartbeats 2000000 in
theorem r11twice (A : Option Addr) (n c : Nat) (l : List Mp) (w : World) (hn : n ≤ 1000) (hl : Mps w A n l) :
    Calls Tryz.prog 221 #[.slice A n c] w (RetB w (hasDup l)) := by
  have HL := Lib.hid hl
  have HN := Lib.hid hl.1
  clear hl
  go_enter Tryz.func221, Tryz.ntmps221
  go_wp2
  go_loopw [3] (fun i wr => ∃ k : Nat, k ≤ n ∧ i = .int .i64 k ∧ hasDup (l.take k) = false ∧ Below w.heap.size w wr) (fun i _ => n - (intOf i).toNat)
  case atStart => exact ⟨0, Nat.zero_le _, rfl, by simp [hasDup], Below.refl _ _⟩
  case round =>
    obtain ⟨i, hi, rfl, hno, hB⟩ := hrel
    have HNO := Lib.hid hno
    clear hno
    by_cases hlt : i < n
    · obtain ⟨b, off, m, A', n', c', rfl, hm, _, _, c0, c1, c2⟩ := mp_at (HL.out.kept hB) hlt
      have HM := Lib.hid hm
      have HC0 := Lib.hid c0
      have HC2 := Lib.hid c2
      clear hm c0 c1 c2
      go_wp2
      obtain ⟨wo, rfl⟩ : ∃ wo : World, wo = wr := ⟨_, rfl⟩
      go_loopw [4] (fun q wr => ∃ k : Nat, k ≤ i ∧ q = .int .i64 k ∧ ((l.take k).any fun x => sameKey x m) = false ∧ Below wo.heap.size wo wr) (fun q _ => i - (intOf q).toNat)
      case atStart => exact ⟨0, Nat.zero_le _, rfl, by simp, Below.refl _ _⟩
      case round =>
        obtain ⟨k, hk, rfl, hno, hB2⟩ := hrel
        have HN2 := Lib.hid hno
        clear hno
        by_cases hki : k < i
        · obtain ⟨b', off', m', A'', n'', c'', hA', hm', _, _, d0, d1, d2⟩ := mp_at (i := k) (HL.out.kept (Kept.trans hB hB2)) (by omega)
          simp only [Option.some.injEq, Addr.mk.injEq] at hA'
          obtain ⟨rfl, rfl, _⟩ := hA'
          have c0 := Kept.cell hB2 HC0.out
          have c2 := Kept.cell hB2 HC2.out
          have HM' := Lib.hid hm'
          clear hm'
          have g1 : (i : Int) < (n : Int) := by omega
          have g2 : (k : Int) < (n : Int) := by omega
          have g3 : k < n := by omega
          cases q1 : (m.src == m'.src)
          · have HSK := Lib.hid (sameKey_src q1)
            go_wp2
            go_quiet (fail)
            go_wp2
            go_roundw
            case rel => exact ⟨k + 1, by omega, by go_num, by rw [any_take_snoc _ HM'.out, HN2.out, HSK.out]; rfl, Kept.drewN hB2 _⟩
            case measure => simp [intOf]; omega
          · cases q2 : (m.tag.toList == m'.tag.toList)
            · have HSK := Lib.hid (sameKey_tag q2)
              have q2' : ¬ m.tag.toList = m'.tag.toList := by simpa using q2
              go_wp2
              go_quiet (fail)
              go_wp2
              go_roundw
              case rel => exact ⟨k + 1, by omega, by go_num, by rw [any_take_snoc _ HM'.out, HN2.out, HSK.out]; rfl, Kept.drewN hB2 _⟩
              case measure => simp [intOf]; omega
            · have HSK := Lib.hid (sameKey_both q1 q2)
              have hdup : hasDup l = true := hasDup_of_take (k := i + 1) (by
                rw [take_succ_some HM.out, hasDup_snoc]
                have : ((l.take i).any fun x => sameKey x m) = true := List.any_eq_true.2 ⟨m', List.mem_of_getElem? (i := k) (by rw [List.getElem?_take, if_pos hki]; exact HM'.out), HSK.out⟩
                rw [this]; simp)
              have HD := Lib.hid hdup
              clear hdup
              go_wp2
              go_quiet (fail)
              go_wp2
              go_ret
              exact ⟨ret_bool HD.out.symm, Kept.drewN (Kept.trans hB hB2) _⟩
        · obtain rfl : k = i := by omega
          go_wp2
          go_roundw
          case rel => exact ⟨k + 1, by omega, by go_num, by rw [take_succ_some HM.out, hasDup_snoc, HNO.out, HN2.out]; rfl, Kept.trans hB hB2⟩
          case measure => simp [intOf]; omega
    · have hno : hasDup l = false := by
        have := HNO.out
        rwa [List.take_of_length_le (by have := HN.out; omega)] at this
      have HD := Lib.hid hno
      clear hno
      go_wp2
      go_ret
      exact ⟨ret_bool HD.out.symm, hB⟩
end Go.Proofs.YtmlcdohldkgcdaaGreatDoor
namespace Go.Proofs.YtmlcdohldkgcdaaGreatDoor
open Go Go.RowKit
set_option maxRecDepth 100000 in
set_option maxHeartbeats 2000000 in
theorem r11unsorted (A : Option Addr) (n c : Nat) (l : List Mp) (w : World) (hn : n ≤ 1000) (hl : Mps w A n l) (hto : ∀ m ∈ l, m.to.length ≤ 1000) (htag : ∀ m ∈ l, m.tag.size ≤ 1000) :
    Calls Tryz.prog 213 #[.slice A n c] w (RetI w (refUnsorted l)) := by
  have HL := Lib.hid hl
  have HN := Lib.hid hl.1
  have HTO := Lib.hid hto
  have HTG := Lib.hid htag
  clear hl hto htag
  go_enter Tryz.func213, Tryz.ntmps213
  go_wp2
  go_loopw [3] (fun i wr => ∃ k : Nat, k ≤ n ∧ i = .int .i64 k ∧ (l.take k).any mpBadCode = false ∧ Below w.heap.size w wr) (fun i _ => n - (intOf i).toNat)
  case atStart => exact ⟨0, Nat.zero_le _, rfl, by simp, Below.refl _ _⟩
  case round =>
    obtain ⟨k, hk, rfl, hno, hB⟩ := hrel
    have HNO := Lib.hid hno
    clear hno
    by_cases hlt : k < n
    · obtain ⟨b, off, m, A', n', c', rfl, hm, hle, hI, c0, c1, c2⟩ := mp_at (HL.out.kept hB) hlt
      have hn' : n' ≤ 1000 := by rw [hI.1]; exact HTO.out m (mem_of_getElem?_some hm)
      have HM := Lib.hid hm
      have HC := Lib.hid (r11codes m A' n' c' wr (by omega) hI)
      clear hm hI
      cases hb : mpBadCode m
      · rw [hb] at HC
        simp only [Bool.not_false] at HC
        have HBC := Lib.hid hb
        clear hb
        go_wp2_with (go_at_call 219; refine HC.out.mono ?_; rintro e w' ⟨rfl, hk2⟩)
        go_roundw
        case rel => exact ⟨k + 1, by omega, by go_num, by rw [any_take_snoc _ HM.out, HNO.out, HBC.out]; rfl, Kept.trans hB hk2⟩
        case measure => simp [intOf]; omega
      · rw [hb] at HC
        simp only [Bool.not_true] at HC
        have hres : refUnsorted l = 1 := by unfold refUnsorted; rw [mapParts_code HM.out hb]; rfl
        have HR := Lib.hid hres
        clear hb hres
        go_wp2_with (go_at_call 219; refine HC.out.mono ?_; rintro e w' ⟨rfl, hk2⟩)
        go_ret
        exact ⟨ret_int HR.out.symm, Kept.trans hB hk2⟩
    · have hall : l.any mpBadCode = false := by
        have := HNO.out
        rwa [List.take_of_length_le (by have := HN.out; omega)] at this
      have HNO1 := Lib.hid hall
      clear hall HNO
      go_wp2
      obtain ⟨w1, rfl⟩ : ∃ w1 : World, w1 = wr := ⟨_, rfl⟩
      go_loop [4] (fun i => ∃ k : Nat, k ≤ n ∧ i = .int .i64 k ∧ (l.take k).any mpLong = false) (fun i => n - (intOf i).toNat)
      case atStart => exact ⟨0, Nat.zero_le _, rfl, by simp⟩
      case round =>
        obtain ⟨k, hk, rfl, hno⟩ := hrel
        have HNO := Lib.hid hno
        clear hno
        by_cases hlt : k < n
        · obtain ⟨b, off, m, A', n', c', rfl, hm, hle, hI, c0, c1, c2⟩ := mp_at (HL.out.kept hB) hlt
          have hn' : n' ≤ 1000 := by rw [hI.1]; exact HTO.out m (mem_of_getElem?_some hm)
          have HM := Lib.hid hm
          have HI := Lib.hid hI.1
          clear hm hI
          by_cases h64 : 64 < n'
          · have hres : refUnsorted l = 2 := by unfold refUnsorted; rw [mapParts_long HNO1.out HM.out (by have := HI.out; simp [mpLong]; omega)]; rfl
            have HR := Lib.hid hres
            clear hres
            go_wp2
            go_ret
            exact ⟨ret_int HR.out.symm, hB⟩
          · go_wp2
            go_round
            case rel => exact ⟨k + 1, by omega, by go_num, by rw [any_take_snoc _ HM.out, HNO.out]; have := HI.out; simp [mpLong]; omega⟩
            case measure => simp [intOf]; omega
        · have hall : l.any mpLong = false := by
            have := HNO.out
            rwa [List.take_of_length_le (by have := HN.out; omega)] at this
          have HNO2 := Lib.hid hall
          clear hall HNO
          go_wp2
          go_loop [5] (fun i => ∃ k : Nat, k ≤ n ∧ i = .int .i64 k ∧ (l.take k).any mpBadName = false) (fun i => n - (intOf i).toNat)
          case atStart => exact ⟨0, Nat.zero_le _, rfl, by simp⟩
          case round =>
            obtain ⟨k, hk, rfl, hno⟩ := hrel
            have HNO := Lib.hid hno
            clear hno
            by_cases hlt : k < n
            · obtain ⟨b, off, m, A', n', c', rfl, hm, hle, hI, c0, c1, c2⟩ := mp_at (HL.out.kept hB) hlt
              have htg : m.tag.size ≤ 1000 := HTG.out m (mem_of_getElem?_some hm)
              have HM := Lib.hid hm
              clear hm hI
              cases ht : m.tag.toList.isEmpty
              · have hte : ¬ m.tag.toList = [] := by simpa using ht
                cases hv : isNameB m.tag
                · have hres : refUnsorted l = 6 := by unfold refUnsorted; rw [mapParts_name HNO1.out HNO2.out HM.out (by simp [mpBadName, plainTag, ht, hv])]; rfl
                  have HR := Lib.hid hres
                  clear hres
                  go_wp2_with (go_at_call 220; refine (r11Name _ _ (by omega)).mono ?_; rintro e w' ⟨rfl, rfl⟩)
                  go_ret
                  exact ⟨ret_int HR.out.symm, hB⟩
                · go_wp2_with (go_at_call 220; refine (r11Name _ _ (by omega)).mono ?_; rintro e w' ⟨rfl, rfl⟩)
                  go_round
                  case rel => exact ⟨k + 1, by omega, by go_num, by rw [any_take_snoc _ HM.out, HNO.out]; simp [mpBadName, hv]⟩
                  case measure => simp [intOf]; omega
              · have hte : m.tag.toList = [] := by simpa using ht
                go_wp2
                go_round
                case rel => exact ⟨k + 1, by omega, by go_num, by rw [any_take_snoc _ HM.out, HNO.out]; simp [mpBadName, plainTag, ht]⟩
                case measure => simp [intOf]; omega
            · have hp : mapParts l = 0 := mapParts_ok HNO1.out HNO2.out (by have := HNO.out; rwa [List.take_of_length_le (by have := HN.out; omega)] at this)
              have HP := Lib.hid hp
              clear hp
              have HT := Lib.hid (r11twice A n c l w1 hn (HL.out.kept hB))
              cases hd : hasDup l
              · rw [hd] at HT
                have HD := Lib.hid hd
                clear hd
                go_wp2_with (go_at_call 221; refine HT.out.mono ?_; rintro e w' ⟨rfl, hk2⟩)
                go_ret
                exact ⟨ret_int (by unfold refUnsorted; rw [HP.out, HD.out]; rfl), Kept.trans hB hk2⟩
              · rw [hd] at HT
                have HD := Lib.hid hd
                clear hd
                go_wp2_with (go_at_call 221; refine HT.out.mono ?_; rintro e w' ⟨rfl, hk2⟩)
                go_ret
                exact ⟨ret_int (by unfold refUnsorted; rw [HP.out, HD.out]; rfl), Kept.trans hB hk2⟩
set_option maxRecDepth 100000 in
set_option maxHeartbeats 2000000 in
theorem r11Check (A : Option Addr) (n c : Nat) (l : List Mp) (w : World) (hn : n ≤ 1000) (hl : Mps w A n l) (hto : ∀ m ∈ l, m.to.length ≤ 1000) (htag : ∀ m ∈ l, m.tag.size ≤ 1000) :
    Calls Tryz.prog 200 #[.slice A n c] w (RetI w (refMapCheck l)) := by
  have HL := Lib.hid hl
  have HN := Lib.hid hl.1
  have HU := Lib.hid (r11unsorted A n c l w hn hl hto htag)
  clear hl hto htag
  by_cases hu : refUnsorted l = 0
  · have hb : (refUnsorted l != 0) = false := by simp [hu]
    have HUZ := Lib.hid hu
    clear hu
    go_enter Tryz.func200, Tryz.ntmps200
    go_wp2_with (go_at_call 213; refine HU.out.mono ?_; rintro e w0 ⟨rfl, hB0⟩)
    go_loopw [4] (fun i wr => ∃ k : Nat, k ≤ n ∧ i = .int .i64 (k + 1) ∧ adjAny notBefore (l.take (k + 1)) = false ∧ Below w.heap.size w wr) (fun i _ => n - (intOf i).toNat)
    case atStart => exact ⟨0, Nat.zero_le _, rfl, by cases l <;> simp [adjAny], hB0⟩
    case round =>
      obtain ⟨k, hk, rfl, hno, hB⟩ := hrel
      have HNO := Lib.hid hno
      clear hno
      by_cases hlt : k + 1 < n
      · obtain ⟨b, off, s, A', n', c', rfl, hs, _, _, c0, c1, c2⟩ := mp_at (i := k) (HL.out.kept hB) (by omega)
        obtain ⟨b', off', s', A'', n'', c'', hA', hs', _, _, c0', c1', c2'⟩ := mp_at (i := k + 1) (HL.out.kept hB) (by omega)
        simp only [Option.some.injEq, Addr.mk.injEq] at hA'
        obtain ⟨rfl, rfl, _⟩ := hA'
        have HS := Lib.hid hs
        have HS' := Lib.hid hs'
        clear hs hs'
        go_wp2
        have hw1 : IntKind.i64.wrap (k : Int) = (k : Int) := IntWalk.i64_in _ (by omega)
        have hw2 : k < n := by omega
        have hw3 : (0 : Int) ≤ (k : Int) + 1 := by omega
        have hw4 : (k : Int) + 1 < (n : Int) := by omega
        have hw5 : ((k : Int) + 1).toNat = k + 1 := by omega
        refine region_still_tail 9 (by kernel_rfl) (by kernel_rfl) ?_
        simp only [List.take_succ_cons, List.take_zero, List.drop_succ_cons, List.drop_zero]
        iterate 9 still_step
        refine wpStill_nil ?_
        clear hw1 hw2 hw3 hw4 hw5
        have HBF := Lib.hid (r11before s s' (.slice A' n' c') (.slice A'' n'' c'') wr.drew)
        cases hbf : beforeB s s'
        · rw [hbf] at HBF
          have hres : refMapCheck l = 4 := by
            unfold refMapCheck
            rw [if_neg (by simp [HUZ.out]), if_pos (adjAny_true_of_take _ _ (k + 2) (by rw [adjAny_take _ HS.out HS'.out]; simp [notBefore, hbf]))]
          have HR := Lib.hid hres
          clear hbf hres
          go_wp2_with (go_at_call 214; refine HBF.out.mono ?_; rintro e w' ⟨rfl, hk2⟩)
          go_ret
          exact ⟨ret_int HR.out.symm, Kept.trans hB (Kept.trans (Kept.drew (Kept.refl _)) hk2)⟩
        · rw [hbf] at HBF
          have HC := Lib.hid hbf
          clear hbf
          go_wp2_with (go_at_call 214; refine HBF.out.mono ?_; rintro e w' ⟨rfl, hk2⟩)
          go_roundw
          case rel => exact ⟨k + 1, by omega, by go_num, by rw [adjAny_take _ HS.out HS'.out, HNO.out]; simp [notBefore, HC.out], Kept.trans hB (Kept.trans (Kept.drew (Kept.refl _)) hk2)⟩
          case measure => simp [intOf]; omega
      · have hres : refMapCheck l = 0 := by
          have h := HNO.out
          rw [List.take_of_length_le (by have := HN.out; omega)] at h
          unfold refMapCheck
          rw [if_neg (by simp [HUZ.out]), h]; rfl
        have HR := Lib.hid hres
        clear hres
        go_wp2
        go_ret
        exact ⟨ret_int HR.out.symm, hB⟩
  · have hb : (refUnsorted l != 0) = true := by simp [hu]
    have HR := Lib.hid (show refMapCheck l = refUnsorted l by unfold refMapCheck; rw [if_pos hu])
    clear hu
    go_enter Tryz.func200, Tryz.ntmps200
    go_wp2_with (go_at_call 213; refine HU.out.mono ?_; rintro e w0 ⟨rfl, hB0⟩)
    go_ret
    exact ⟨ret_int HR.out.symm, hB0⟩
theorem r20Class (A : Option Addr) (n c : Nat) (l : List Span) (x : Int) (w : World) (hn : n ≤ 1000) (hl : Spans w A n l) :
    Calls Tryz.prog 139 #[.slice A n c, .int .i64 x] w (RetI w (classOf (usableSpans l) x)) := by
  have HL := Lib.hid hl
  have HN := Lib.hid hl.1
  have HC := Lib.hid (r20Check A n c l w hn hl)
  clear hl
  by_cases h : ordCheck l = 0
  · have hb : (ordCheck l != 0) = false := by simp [h]
    have HU := Lib.hid (show usableSpans l = l from if_pos h)
    clear h
    go_enter Tryz.func139, Tryz.ntmps139
    go_wp2_with (go_at_call 182; refine HC.out.mono ?_; rintro e w1 ⟨rfl, hk1⟩)
    go_loop [5] (fun i => ∃ k : Nat, k ≤ n ∧ i = .int .i64 k ∧ ∀ s ∈ l.take k, ¬ (s.lo ≤ x ∧ x ≤ s.hi)) (fun i => n - (intOf i).toNat)
    case atStart => exact ⟨0, Nat.zero_le _, rfl, by simp⟩
    case round =>
      obtain ⟨k, hk, rfl, hno⟩ := hrel
      have HNO := Lib.hid hno
      clear hno
      by_cases hlt : k < n
      · obtain ⟨b, off, s, rfl, hs, c0, c1, c2⟩ := span_at (HL.out.kept hk1) hlt
        have HS := Lib.hid hs
        clear hs
        by_cases h1 : s.lo ≤ x
        · by_cases h2 : x ≤ s.hi
          · have hres : classOf l x = s.val := classOf_first HNO.out HS.out h1 h2
            have HR := Lib.hid hres
            clear hres
            go_wp2
            go_ret
            exact ⟨ret_int (by rw [HU.out, HR.out]), hk1⟩
          · go_wp2
            go_round
            case rel => exact ⟨k + 1, by omega, by go_num, fun t ht => by
              rw [take_succ_some HS.out, List.mem_append, List.mem_singleton] at ht
              rcases ht with ht | rfl
              · exact HNO.out t ht
              · omega⟩
            case measure => simp [intOf]; omega
        · go_wp2
          go_round
          case rel => exact ⟨k + 1, by omega, by go_num, fun t ht => by
            rw [take_succ_some HS.out, List.mem_append, List.mem_singleton] at ht
            rcases ht with ht | rfl
            · exact HNO.out t ht
            · omega⟩
          case measure => simp [intOf]; omega
      · have hres : classOf l x = 0 := classOf_none (by have := HNO.out; rwa [List.take_of_length_le (by have := HN.out; omega)] at this)
        have HR := Lib.hid hres
        clear hres
        go_wp2
        go_ret
        exact ⟨ret_int (by rw [HU.out, HR.out]), hk1⟩
  · have hb : (ordCheck l != 0) = true := by simp [h]
    have HU := Lib.hid (show usableSpans l = [] from if_neg h)
    clear h
    go_enter Tryz.func139, Tryz.ntmps139
    go_wp2_with (go_at_call 182; refine HC.out.mono ?_; rintro e w1 ⟨rfl, hk1⟩)
    go_ret
    exact ⟨ret_int (by rw [HU.out]; rfl), hk1⟩
end Go.Proofs.YtmlcdohldkgcdaaGreatDoor
