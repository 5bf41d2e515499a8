/- References: Small of layer 21; hangul, Check and Class of layer 20; find of layer 21. -/
import Derived.Test.YtljkkfohlkhjnaaGreatDoorKRefA
import Derived.Test.YtljkkfohlkhjnaaGreatDoorKSetB
namespace Go.Proofs.YtljkkfohlkhjnaaGreatDoor
open Go Go.RowKit

theorem quiet_valid (c : Int) (w : World) (n : Nat) : Calls Tryz.prog 77 #[.int .i64 c] (w.drewN n) fun e w'' => e = .returned (.bool (validB c)) ∧ ∃ m, w'' = w.drewN m :=
  (rvalid_any c (w.drewN n)).mono fun _ _ ⟨he, hw⟩ => ⟨he, n, hw.symm⟩

theorem r20hangul (w : World) : Calls Tryz.prog 78 #[] w (RetRngs w hangulR) := by
  go_enter Tryz.func78, Tryz.ntmps78
  go_wp2
  go_ret
  refine ⟨_, 4, 4, rfl, Nat.le_refl _, ⟨rfl, fun _ => ⟨w.heap.size, 0, rfl, fun i x hx j u hu => ?_⟩⟩, Kept.alloc (Kept.refl _) _⟩
  rw [Nat.zero_add, box_cell]
  have hi := lt_of_getElem?_some hx
  have hj := lt_of_getElem?_some hu
  simp only [hangulR, List.length_cons, List.length_nil] at hi
  have hj2 : j < 2 := hj
  match i, hi, j, hj2, hx, hu with
  | 0, _, 0, _, hx, hu => simp [hangulR] at hx; subst hx; simpa [encR] using hu
  | 0, _, 1, _, hx, hu => simp [hangulR] at hx; subst hx; simpa [encR] using hu
  | 1, _, 0, _, hx, hu => simp [hangulR] at hx; subst hx; simpa [encR] using hu
  | 1, _, 1, _, hx, hu => simp [hangulR] at hx; subst hx; simpa [encR] using hu
  | 2, _, 0, _, hx, hu => simp [hangulR] at hx; subst hx; simpa [encR] using hu
  | 2, _, 1, _, hx, hu => simp [hangulR] at hx; subst hx; simpa [encR] using hu
  | 3, _, 0, _, hx, hu => simp [hangulR] at hx; subst hx; simpa [encR] using hu
  | 3, _, 1, _, hx, hu => simp [hangulR] at hx; subst hx; simpa [encR] using hu

set_option maxHeartbeats 1000000 in
theorem r21find (A : Option Addr) (n c : Nat) (l : List Mp) (x : Int) (compat : Bool) (w : World) (hn : n ≤ 1000) (hl : Mps w A n l) :
    Calls Tryz.prog 52 #[.slice A n c, .int .i64 x, .bool compat] w fun e w' => e = .returned (.int .i64 (fI (findM l x compat))) ∧ w = w' := by
  have HL := Lib.hid hl
  have HN := Lib.hid hl.1
  clear hl
  go_enter Tryz.func52, Tryz.ntmps52
  go_wp2
  go_loop [7] (fun i => ∃ k : Nat, k ≤ n ∧ i = .int .i64 k ∧ (l.take k).any (fits x compat) = false) (fun i => n - (intOf i).toNat)
  case atStart => exact ⟨0, Nat.zero_le _, rfl, by simp⟩
  case round =>
    obtain ⟨k, hk, rfl, hno⟩ := hrel
    have HNO := Lib.hid hno
    clear hno
    by_cases hlt : k < n
    · obtain ⟨b, off, m, A', n', c', rfl, hm, hle, hI, c0, c1, c2⟩ := mp_at HL.out hlt
      have HM := Lib.hid hm
      clear hm hI
      cases hs : (m.src == x)
      · have hs' : ¬ m.src = x := by simpa using hs
        have HF := Lib.hid (show fits x compat m = false by simp [fits, hs'])
        clear hs'
        go_wp2
        go_round
        case rel => exact ⟨k + 1, by omega, by go_num, by rw [any_take_snoc _ HM.out, HNO.out, HF.out]; rfl⟩
        case measure => simp [intOf]; omega
      · have hs' : m.src = x := by simpa using hs
        cases compat
        · cases ht : m.tag.toList.isEmpty
          · have hte : ¬ m.tag.toList = [] := by simpa using ht
            have HF := Lib.hid (show fits x false m = false by simp [fits, plainTag, ht])
            clear hs'
            go_wp2
            go_round
            case rel => exact ⟨k + 1, by omega, by go_num, by rw [any_take_snoc _ HM.out, HNO.out, HF.out]; rfl⟩
            case measure => simp [intOf]; omega
          · have hte : m.tag.toList = [] := by simpa using ht
            have HF := Lib.hid (show fits x false m = true by simp [fits, plainTag, ht, hs'])
            clear hs'
            go_wp2
            go_ret
            exact ⟨ret_int (by rw [findM_hit HNO.out HM.out HF.out]; rfl), rfl⟩
        · have HF := Lib.hid (show fits x true m = true by simp [fits, hs'])
          clear hs'
          go_wp2
          go_ret
          exact ⟨ret_int (by rw [findM_hit HNO.out HM.out HF.out]; rfl), rfl⟩
    · go_wp2
      go_ret
      have hres : findM l x compat = none := findM_miss (by have := HNO.out; rwa [List.take_of_length_le (by have := HN.out; omega)] at this)
      exact ⟨ret_int (by rw [hres]; rfl), rfl⟩

theorem spanBad_valid {s : Span} : spanBad s = true ↔ validB s.lo = false ∨ validB s.hi = false ∨ s.hi < s.lo ∨ s.val < 1 ∨ 254 < s.val := by
  simp [spanBad, validB]; omega

set_option maxRecDepth 100000 in
set_option maxHeartbeats 4000000 in
theorem r20Check (A : Option Addr) (n c : Nat) (l : List Span) (w : World) (hn : n ≤ 1000) (hl : Spans w A n l) :
    Calls Tryz.prog 49 #[.slice A n c] w (RetI w (ordCheck l)) := by
  have HL := Lib.hid hl
  have HN := Lib.hid hl.1
  clear hl
  go_enter Tryz.func49, Tryz.ntmps49
  go_wp2
  go_loopw [3] (fun i wr => ∃ k : Nat, k ≤ n ∧ i = .int .i64 k ∧ (l.take k).any spanBad = false ∧ Below w.heap.size w wr) (fun i _ => n - (intOf i).toNat)
  case atStart => exact ⟨0, Nat.zero_le _, rfl, by simp, Below.refl _ _⟩
  case round =>
    obtain ⟨k, hk, rfl, hno, hB⟩ := hrel
    have HNO := Lib.hid hno
    clear hno
    by_cases hlt : k < n
    · obtain ⟨b, off, s, rfl, hs, c0, c1, c2⟩ := span_at (HL.out.kept hB) hlt
      have HS := Lib.hid hs
      clear hs
      have g1 : (k : Int) < (n : Int) := by omega
      cases v1 : validB s.lo
      · have HBD := Lib.hid (spanBad_valid.2 (.inl v1))
        go_wp2
        go_quiet ((go_at_call 77; exact quiet_valid _ _ _))
        go_wp2
        go_ret
        exact ⟨ret_int (ordCheck_range HS.out HBD.out).symm, Kept.drewN hB _⟩
      · cases v2 : validB s.hi
        · have HBD := Lib.hid (spanBad_valid.2 (.inr (.inl v2)))
          go_wp2
          go_quiet ((go_at_call 77; exact quiet_valid _ _ _))
          go_wp2
          go_ret
          exact ⟨ret_int (ordCheck_range HS.out HBD.out).symm, Kept.drewN hB _⟩
        · by_cases v3 : s.hi < s.lo
          · have v3' : s.lo > s.hi := v3
            have d3 : decide (s.hi < s.lo) = true := by simpa using v3
            have HBD := Lib.hid (spanBad_valid.2 (.inr (.inr (.inl v3))))
            go_wp2
            go_quiet ((go_at_call 77; exact quiet_valid _ _ _))
            go_wp2
            go_ret
            exact ⟨ret_int (ordCheck_range HS.out HBD.out).symm, Kept.drewN hB _⟩
          · have d3 : decide (s.hi < s.lo) = false := by simpa using v3
            by_cases v4 : s.val < 1
            · have d4 : decide (s.val < 1) = true := by simpa using v4
              have HBD := Lib.hid (spanBad_valid.2 (.inr (.inr (.inr (.inl v4)))))
              go_wp2
              go_quiet ((go_at_call 77; exact quiet_valid _ _ _))
              go_wp2
              go_ret
              exact ⟨ret_int (ordCheck_range HS.out HBD.out).symm, Kept.drewN hB _⟩
            · have d4 : decide (s.val < 1) = false := by simpa using v4
              by_cases v5 : 254 < s.val
              · have d5 : decide (254 < s.val) = true := by simpa using v5
                have HBD := Lib.hid (spanBad_valid.2 (.inr (.inr (.inr (.inr v5)))))
                go_wp2
                go_quiet ((go_at_call 77; exact quiet_valid _ _ _))
                go_wp2
                go_ret
                exact ⟨ret_int (ordCheck_range HS.out HBD.out).symm, Kept.drewN hB _⟩
              · have d5 : decide (254 < s.val) = false := by simpa using v5
                have hg : spanBad s = false := by
                  cases hsb : spanBad s
                  · rfl
                  · have := spanBad_valid.1 hsb
                    rw [v1, v2] at this
                    simp at this
                    omega
                have HGD := Lib.hid hg
                clear hg
                go_wp2
                go_quiet ((go_at_call 77; exact quiet_valid _ _ _))
                go_wp2
                go_roundw
                case rel => exact ⟨k + 1, by omega, by go_num, by rw [any_take_snoc _ HS.out, HNO.out, HGD.out]; rfl, Kept.drewN hB _⟩
                case measure => simp [intOf]; omega
    · have hall : l.any spanBad = false := by
        have := HNO.out
        rwa [List.take_of_length_le (by have := HN.out; omega)] at this
      have HNO1 := Lib.hid hall
      clear hall HNO
      go_wp2
      obtain ⟨w1, rfl⟩ : ∃ w1 : World, w1 = wr := ⟨_, rfl⟩
      go_loopw [4] (fun i wr => ∃ k : Nat, k ≤ n ∧ i = .int .i64 (k + 1) ∧ adjAny spanClash (l.take (k + 1)) = false ∧ Below w.heap.size w wr) (fun i _ => n - (intOf i).toNat)
      case atStart => exact ⟨0, Nat.zero_le _, rfl, by cases l <;> simp [adjAny], hB⟩
      case round =>
        obtain ⟨k, hk, rfl, hno, hB⟩ := hrel
        have HNO := Lib.hid hno
        clear hno
        by_cases hlt : k + 1 < n
        · obtain ⟨b, off, s, rfl, hs, c0, c1, c2⟩ := span_at (i := k) (HL.out.kept hB) (by omega)
          obtain ⟨b', off', s', hA', hs', c0', c1', c2'⟩ := span_at (i := k + 1) (HL.out.kept hB) (by omega)
          simp only [Option.some.injEq, Addr.mk.injEq] at hA'
          obtain ⟨rfl, rfl, _⟩ := hA'
          have b1 := spanBad_false (any_false_at HNO1.out hs)
          have HS := Lib.hid hs
          have HS' := Lib.hid hs'
          clear hs hs'
          have hwp : IntKind.i64.wrap (k : Int) = (k : Int) := IntWalk.i64_in _ (by omega)
          have hwp2 : k < n := by omega
          have hwp3 : (0 : Int) ≤ (k : Int) + 1 := by omega
          have hwp4 : (k : Int) + 1 < (n : Int) := by omega
          have hwp5 : ((k : Int) + 1).toNat = k + 1 := by omega
          have hwp6 : IntKind.i64.wrap (s.hi + 1) = s.hi + 1 := IntWalk.i64_in _ (by omega)
          by_cases q1 : s'.lo ≤ s.hi
          · have d1 : decide (s'.lo ≤ s.hi) = true := by simpa using q1
            have HCL := Lib.hid (spanClash_mk (a := s) (b := s') (.inl q1))
            go_wp2
            go_quiet (fail)
            clear hwp hwp2 hwp3 hwp4 hwp5 hwp6
            go_wp2
            go_ret
            exact ⟨ret_int (ordCheck_order HNO1.out HS.out HS'.out HCL.out).symm, Kept.drewN hB _⟩
          · have d1 : decide (s'.lo ≤ s.hi) = false := by simpa using q1
            cases q2 : (s'.lo == s.hi + 1)
            · have q2' : ¬ s'.lo = s.hi + 1 := by simpa using q2
              have HCL := Lib.hid (spanClash_not (a := s) (b := s') ⟨by omega, .inl q2'⟩)
              clear q2'
              go_wp2
              go_quiet (fail)
              clear hwp hwp2 hwp3 hwp4 hwp5 hwp6
              go_wp2
              go_roundw
              case rel => exact ⟨k + 1, by omega, by go_num, by rw [adjAny_take _ HS.out HS'.out, HNO.out, HCL.out]; rfl, Kept.drewN hB _⟩
              case measure => simp [intOf]; omega
            · have q2' : s'.lo = s.hi + 1 := by simpa using q2
              cases q3 : (s'.val == s.val)
              · have q3' : ¬ s'.val = s.val := by simpa using q3
                have HCL := Lib.hid (spanClash_not (a := s) (b := s') ⟨by omega, .inr q3'⟩)
                clear q2' q3'
                go_wp2
                go_quiet (fail)
                clear hwp hwp2 hwp3 hwp4 hwp5 hwp6
                go_wp2
                go_roundw
                case rel => exact ⟨k + 1, by omega, by go_num, by rw [adjAny_take _ HS.out HS'.out, HNO.out, HCL.out]; rfl, Kept.drewN hB _⟩
                case measure => simp [intOf]; omega
              · have q3' : s'.val = s.val := by simpa using q3
                have HCL := Lib.hid (spanClash_mk (a := s) (b := s') (.inr ⟨q2', q3'⟩))
                clear q2' q3'
                go_wp2
                go_quiet (fail)
                clear hwp hwp2 hwp3 hwp4 hwp5 hwp6
                go_wp2
                go_ret
                exact ⟨ret_int (ordCheck_order HNO1.out HS.out HS'.out HCL.out).symm, Kept.drewN hB _⟩
        · have hall : adjAny spanClash l = false := by
            have := HNO.out
            rwa [List.take_of_length_le (by have := HN.out; omega)] at this
          have HNO2 := Lib.hid hall
          clear hall HNO
          go_wp2_with fail
          refine (r20hangul _).mono ?_
          rintro e w2 ⟨Ah, nh, ch, rfl, hleh, hRh, hkh⟩
          have hnh : nh = 4 := hRh.1
          subst hnh
          have HRH := Lib.hid hRh
          have hB2 := Kept.trans hB hkh
          clear hRh
          go_wp2_with fail
          obtain ⟨w3, rfl⟩ : ∃ w3 : World, w3 = wr := ⟨_, rfl⟩
          go_loopw [6] (fun i wr => ∃ k : Nat, k ≤ n ∧ i = .int .i64 k ∧ (l.take k).any spanHangul = false ∧ Below w2.heap.size w2 wr) (fun i _ => n - (intOf i).toNat)
          case atStart => exact ⟨0, Nat.zero_le _, rfl, by simp, Below.refl _ _⟩
          case round =>
            obtain ⟨k, hk, rfl, hno, hB3⟩ := hrel
            have HNO := Lib.hid hno
            clear hno
            by_cases hlt : k < n
            · obtain ⟨b, off, s, rfl, hs, c0, c1, c2⟩ := span_at (HL.out.kept (Kept.trans hB2 hB3)) hlt
              have HS := Lib.hid hs
              have HC0 := Lib.hid c0
              have HC1 := Lib.hid c1
              clear hs c0 c1 c2
              go_wp2_with fail
              obtain ⟨w4, rfl⟩ : ∃ w4 : World, w4 = wr := ⟨_, rfl⟩
              go_loopw [7] (fun i wr => ∃ k : Nat, k ≤ 4 ∧ i = .int .i64 k ∧ (hangulR.take k).any (meets s) = false ∧ Below w4.heap.size w4 wr) (fun i _ => 4 - (intOf i).toNat)
              case atStart => exact ⟨0, by omega, rfl, by simp, Below.refl _ _⟩
              case round =>
                obtain ⟨j, hj, rfl, hno, hB4⟩ := hrel
                have HN2 := Lib.hid hno
                clear hno
                by_cases hj4 : j < 4
                · obtain ⟨b2, off2, r, rfl, hr, e0, e1⟩ := rng_at (HRH.out.kept (Kept.trans hB3 hB4)) hj4
                  have c0 := Kept.cell hB4 HC0.out
                  have c1 := Kept.cell hB4 HC1.out
                  have HR := Lib.hid hr
                  clear hr
                  have g1 : (k : Int) < (n : Int) := by omega
                  have g2 : (j : Int) < 4 := by omega
                  by_cases m1 : s.lo ≤ r.hi
                  · have d1 : decide (s.lo ≤ r.hi) = true := by simpa using m1
                    by_cases m2 : r.lo ≤ s.hi
                    · have d2 : decide (r.lo ≤ s.hi) = true := by simpa using m2
                      go_wp2_with fail
                      go_quiet (fail)
                      go_wp2_with fail
                      go_ret
                      exact ⟨ret_int (ordCheck_hangul HNO1.out HNO2.out HS.out (spanHangul_of HR.out (by simp [meets]; omega))).symm, Kept.drewN (Kept.trans hB2 (Kept.trans hB3 hB4)) _⟩
                    · have d2 : decide (r.lo ≤ s.hi) = false := by simpa using m2
                      go_wp2_with fail
                      go_quiet (fail)
                      go_wp2_with fail
                      go_roundw
                      case rel => exact ⟨j + 1, by omega, by go_num, by rw [any_take_snoc _ HR.out, HN2.out]; simp [meets]; omega, Kept.drewN hB4 _⟩
                      case measure => simp [intOf]; omega
                  · have d1 : decide (s.lo ≤ r.hi) = false := by simpa using m1
                    go_wp2_with fail
                    go_quiet (fail)
                    go_wp2_with fail
                    go_roundw
                    case rel => exact ⟨j + 1, by omega, by go_num, by rw [any_take_snoc _ HR.out, HN2.out]; simp [meets]; omega, Kept.drewN hB4 _⟩
                    case measure => simp [intOf]; omega
                · go_wp2_with fail
                  go_roundw
                  case rel => exact ⟨k + 1, by omega, by go_num, by
                    have h4 : j = 4 := by omega
                    subst h4
                    rw [any_take_snoc _ HS.out, HNO.out]; exact HN2.out, Kept.trans hB3 hB4⟩
                  case measure => simp [intOf]; omega
            · go_wp2_with fail
              go_ret
              exact ⟨ret_int (ordCheck_ok HNO1.out HNO2.out (by have := HNO.out; rwa [List.take_of_length_le (by have := HN.out; omega)] at this)).symm, Kept.trans hB2 hB3⟩
end Go.Proofs.YtljkkfohlkhjnaaGreatDoor
