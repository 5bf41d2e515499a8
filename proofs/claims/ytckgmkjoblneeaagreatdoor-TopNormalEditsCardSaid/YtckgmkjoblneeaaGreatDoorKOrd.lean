/- ordering.Check: what it returns for any classes. ordering.class: the class of a number in valid classes, found by a binary search. -/
import Derived.Test.YtckgmkjoblneeaaGreatDoorKBase
import Derived.Test.YtckgmkjoblneeaaGreatDoorKPl
import Derived.Test.YtckgmkjoblneeaaGreatDoorKSq
namespace Go.Proofs.YtckgmkjoblneeaaGreatDoor
open Go Go.RowKit
def Glob (w : World) : Prop :=
  w.cell? ⟨0, 0, none⟩ = some (.int .i64 4352) ∧ w.cell? ⟨0, 1, none⟩ = some (.int .i64 4370) ∧ w.cell? ⟨0, 2, none⟩ = some (.int .i64 4449) ∧ w.cell? ⟨0, 3, none⟩ = some (.int .i64 4469) ∧
  w.cell? ⟨0, 4, none⟩ = some (.int .i64 4520) ∧ w.cell? ⟨0, 5, none⟩ = some (.int .i64 4546) ∧ w.cell? ⟨0, 6, none⟩ = some (.int .i64 44032) ∧ w.cell? ⟨0, 7, none⟩ = some (.int .i64 55203)
theorem Glob.kept {w w' : World} (h : Glob w) (hk : Kept w w') : Glob w' := by
  obtain ⟨h0, h1, h2, h3, h4, h5, h6, h7⟩ := h
  exact ⟨hk.cell h0, hk.cell h1, hk.cell h2, hk.cell h3, hk.cell h4, hk.cell h5, hk.cell h6, hk.cell h7⟩
set_option maxHeartbeats 1000000 in
theorem ordering_check (A : Option Addr) (n c : Nat) (l : List Span) (w : World) (hn : n ≤ 1000) (hl : Spans w A n l) (hG : Glob w) :
    Calls Tryz.prog 79 #[.slice A n c] w (RetI w (ordCheck l)) := by
  have HL := Lib.hid hl
  have HG := Lib.hid hG
  have HN := Lib.hid hl.1
  clear hl hG
  go_enter Tryz.func79, Tryz.ntmps79
  go_wp2
  go_loopw [14] (fun i wr => ∃ k : Nat, k ≤ n ∧ i = .int .i64 k ∧ (l.take k).any spanBad = false ∧ Below w.heap.size w wr) (fun i _ => n - (intOf i).toNat)
  case atStart => exact ⟨0, Nat.zero_le _, rfl, by simp, Below.refl _ _⟩
  case round =>
    obtain ⟨k, hk, rfl, hno, hB⟩ := hrel
    have HNO := Lib.hid hno
    clear hno
    by_cases hlt : k < n
    · obtain ⟨b, off, s, rfl, hs, c0, c1, c2⟩ := span_at (HL.out.kept hB) hlt
      have HS := Lib.hid hs
      clear hs
      go_wp2
      all_goals first
        | (go_ret
           exact ⟨ret_int (ordCheck_range HS.out (spanBad_mk (by omega))).symm, hB.alloc hB.size _⟩)
        | (go_roundw
           case rel => exact ⟨k + 1, by omega, by go_num, by rw [any_take_snoc _ HS.out, HNO.out, spanBad_not (by omega)]; rfl, hB.alloc hB.size _⟩
           case measure => simp [intOf]; omega)
    · go_wp2
      have hall : l.any spanBad = false := by
        have := HNO.out
        rwa [List.take_of_length_le (by have := HN.out; omega)] at this
      have HNO1 := Lib.hid hall
      clear hall HNO
      obtain ⟨w1, rfl⟩ : ∃ w1 : World, w1 = wr := ⟨_, rfl⟩
      go_loopw [5] (fun i wr => ∃ k : Nat, k ≤ n ∧ i = .int .i64 (k + 1) ∧ adjAny spanClash (l.take (k + 1)) = false ∧ Below w.heap.size w wr) (fun i _ => n - (intOf i).toNat)
      case atStart => exact ⟨0, Nat.zero_le _, rfl, by cases l <;> simp [adjAny], hB⟩
      case round =>
        obtain ⟨k, hk, rfl, hno, hB⟩ := hrel
        have HNO := Lib.hid hno
        clear hno
        by_cases hlt : k + 1 < n
        · obtain ⟨b, off, s, rfl, hs, c0, c1, c2⟩ := span_at (i := k) (HL.out.kept hB) (by omega)
          obtain ⟨b', off', s', hA', hs', c0', c1', c2'⟩ := span_at (i := k + 1) (HL.out.kept hB) (by omega)
          simp only [Option.some.injEq, Addr.mk.injEq] at hA'
          obtain ⟨rfl, rfl, _⟩ := hA'
          have b1 := spanBad_false (any_false_at HNO1.out hs)
          have b2 := spanBad_false (any_false_at HNO1.out hs')
          have HS := Lib.hid hs
          have HS' := Lib.hid hs'
          have hb0 : b < wr.heap.size := cell_lt c0
          clear hs hs'
          go_wp2
          go_region
          go_wp2
          all_goals first
            | (go_ret
               exact ⟨ret_int (ordCheck_order HNO1.out HS.out HS'.out (spanClash_mk (by first | omega | simp_all))).symm, by repeat (first | exact hB | refine Kept.drew ?_ | refine Kept.alloc ?_ _)⟩)
            | (go_roundw
               case rel => exact ⟨k + 1, by omega, by go_num, by rw [adjAny_take _ HS.out HS'.out, HNO.out, spanClash_not (by first | omega | simp_all)]; rfl, by repeat (first | exact hB | refine Kept.drew ?_ | refine Kept.alloc ?_ _)⟩
               case measure => simp [intOf]; omega)
        · have hall : adjAny spanClash l = false := by
            have := HNO.out
            rwa [List.take_of_length_le (by have := HN.out; omega)] at this
          have HNO2 := Lib.hid hall
          clear hall HNO
          go_wp2
          obtain ⟨w2, rfl⟩ : ∃ w2 : World, w2 = wr := ⟨_, rfl⟩
          go_loopw [81] (fun i wr => ∃ k : Nat, k ≤ n ∧ i = .int .i64 k ∧ (l.take k).any spanHangul = false ∧ Below w.heap.size w wr) (fun i _ => n - (intOf i).toNat)
          case atStart => exact ⟨0, Nat.zero_le _, rfl, by simp, hB⟩
          case round =>
            obtain ⟨k, hk, rfl, hno, hB⟩ := hrel
            have HNO := Lib.hid hno
            clear hno
            by_cases hlt : k < n
            · obtain ⟨b, off, s, rfl, hs, c0, c1, c2⟩ := span_at (HL.out.kept hB) hlt
              have HS := Lib.hid hs
              obtain ⟨g0, g1, g2, g3, g4, g5, g6, g7⟩ := HG.out.kept hB
              have hg0 := cell_lt g0
              clear hs
              go_wp2
              have hB1 := hB.alloc hB.size (Obj.cells #[Value.int IntKind.i64 s.lo, Value.int IntKind.i64 s.hi, Value.int IntKind.i64 s.val] 119)
              have d0 := box_cell wr #[Value.int IntKind.i64 s.lo, Value.int IntKind.i64 s.hi, Value.int IntKind.i64 s.val] 119 0
              have d1 := box_cell wr #[Value.int IntKind.i64 s.lo, Value.int IntKind.i64 s.hi, Value.int IntKind.i64 s.val] 119 1
              clear c0 c1 c2 g0 g1 g2 g3 g4 g5 g6 g7
              generalize wr.alloc (Obj.cells #[Value.int IntKind.i64 s.lo, Value.int IntKind.i64 s.hi, Value.int IntKind.i64 s.val] 119) = W1 at *
              obtain ⟨bx, hbx⟩ : ∃ bx : Nat, bx = wr.heap.size := ⟨_, rfl⟩
              rw [← hbx] at d0 d1 ⊢
              clear hbx
              have HD0 := Lib.hid d0
              have HD1 := Lib.hid d1
              clear d0 d1
              obtain ⟨w3, rfl⟩ : ∃ w3 : World, w3 = wr := ⟨_, rfl⟩
              go_loopw [86] (fun i wr => ∃ k : Nat, k ≤ 4 ∧ i = .int .i64 k ∧ (hangulR.take k).any (meets s) = false ∧ Below W1.heap.size W1 wr) (fun i _ => 4 - (intOf i).toNat)
              case atStart => exact ⟨0, by omega, rfl, by simp, Below.refl _ _⟩
              case round =>
                obtain ⟨j, hj, rfl, hno, hB2⟩ := hrel
                have HN2 := Lib.hid hno
                clear hno
                have d0 := Kept.cell hB2 HD0.out
                have d1 := Kept.cell hB2 HD1.out
                have hdb := cell_lt d0
                by_cases hj4 : j < 4
                · obtain ⟨r, hr, hidx⟩ : ∃ r : Rng, hangulR[j]? = some r ∧ ∀ w, (Instr.index 166 (.agg #[Value.int IntKind.i64 4352, Value.int IntKind.i64 4370, Value.int IntKind.i64 4449, Value.int IntKind.i64 4469,
                      Value.int IntKind.i64 4520, Value.int IntKind.i64 4546, Value.int IntKind.i64 44032, Value.int IntKind.i64 55203]) (.int .i64 j)).run Tryz.prog w = .ok (.agg #[.int .i64 r.lo, .int .i64 r.hi]) w := by
                    match j, hj4 with
                    | 0, _ => exact ⟨_, rfl, fun _ => by kernel_rfl⟩
                    | 1, _ => exact ⟨_, rfl, fun _ => by kernel_rfl⟩
                    | 2, _ => exact ⟨_, rfl, fun _ => by kernel_rfl⟩
                    | 3, _ => exact ⟨_, rfl, fun _ => by kernel_rfl⟩
                  have HR := Lib.hid hr
                  clear hr
                  go_wp2
                  all_goals first
                    | (go_ret
                       exact ⟨ret_int (ordCheck_hangul HNO1.out HNO2.out HS.out (spanHangul_of HR.out (by simp [meets]; omega))).symm, Kept.alloc (Below.trans hB1 (hB2.mono hB1.size)) _⟩)
                    | (go_roundw
                       case rel => exact ⟨j + 1, by omega, by go_num, by rw [any_take_snoc _ HR.out, HN2.out]; simp [meets]; omega, hB2.alloc hB2.size _⟩
                       case measure => simp [intOf]; omega)
                · go_wp2
                  go_roundw
                  case rel => exact ⟨k + 1, by omega, by go_num, by
                    have h4 : j = 4 := by omega
                    subst h4
                    rw [any_take_snoc _ HS.out, HNO.out]; exact HN2.out, Below.trans hB1 (hB2.mono hB1.size)⟩
                  case measure => simp [intOf]; omega
            · go_wp2
              go_ret
              exact ⟨ret_int (ordCheck_ok HNO1.out HNO2.out (by have := HNO.out; rwa [List.take_of_length_le (by have := HN.out; omega)] at this)).symm, hB⟩
end Go.Proofs.YtckgmkjoblneeaaGreatDoor
namespace Go.Proofs.YtckgmkjoblneeaaGreatDoor
open Go Go.RowKit
def spanCmp (s : Span) (c : Int) : Int := if s.hi < c then -1 else if c < s.lo then 1 else 0
theorem class1_any (s : Span) (c : Int) (w : World) : Calls Tryz.prog 94 #[.agg #[.int .i64 s.lo, .int .i64 s.hi, .int .i64 s.val], .int .i64 c] w (RetI w (spanCmp s c)) := by
  go_enter Tryz.func94, Tryz.ntmps94
  go_wp2
  all_goals (go_ret; exact ⟨ret_int (by unfold spanCmp; first | rw [if_pos (by omega)] | rw [if_neg (by omega), if_pos (by omega)] | rw [if_neg (by omega), if_neg (by omega)]), Kept.alloc (Kept.refl _) _⟩)
def BsSpan (w : World) (l : List Span) (c : Int) (e : Ending) (w' : World) : Prop :=
  ∃ (i : Nat) (ok : Bool), e = .returned (.tuple #[.int .i64 (i : Int), .bool ok]) ∧ Kept w w' ∧ i ≤ l.length ∧
    (ok = true → ∃ s, l[i]? = some s ∧ s.lo ≤ c ∧ c ≤ s.hi) ∧ (ok = false → ∀ s ∈ l, ¬ (s.lo ≤ c ∧ c ≤ s.hi))
set_option maxRecDepth 100000 in
set_option maxHeartbeats 1000000 in
theorem bs_span (A : Option Addr) (n cp : Nat) (l : List Span) (c : Int) (w : World) (hn : n ≤ 100000) (hl : Spans w A n l) (hs : SpanSorted l) :
    Calls Tryz.prog 93 #[.slice A n cp, .int .i64 c, .func (.func 94) #[] #[]] w (BsSpan w l c) := by
  have HL := Lib.hid hl
  have HN := Lib.hid hl.1
  have HO := Lib.hid hs
  clear hl hs
  go_enter Tryz.func93, Tryz.ntmps93
  go_wp2
  go_loopw [9, 10] (fun a b wr => ∃ i j : Nat, i ≤ j ∧ j ≤ n ∧ a = .int .i64 i ∧ b = .int .i64 j ∧ (∀ k s, k < i → l[k]? = some s → s.hi < c) ∧ (∀ k s, j ≤ k → l[k]? = some s → c ≤ s.hi) ∧ Below w.heap.size w wr) (fun a b _ => (intOf b).toNat - (intOf a).toNat)
  case atStart => exact ⟨0, n, Nat.zero_le _, Nat.le_refl _, rfl, rfl, fun k s h => by omega, fun k s h1 h2 => by have := lt_of_getElem?_some h2; have := HN.out; omega, Below.refl _ _⟩
  case round =>
    obtain ⟨i, j, hij, hjn, rfl, rfl, hlo, hhi, hB⟩ := hrel
    have HLO := Lib.hid hlo
    have HHI := Lib.hid hhi
    clear hlo hhi
    by_cases hlt : i < j
    · obtain ⟨b, off, s, rfl, hs, c0, c1, c2⟩ := span_at (i := (i + j) / 2) (HL.out.kept hB) (by omega)
      have HS := Lib.hid hs
      clear hs
      by_cases hcmp : s.hi < c
      · have hz : spanCmp s c < 0 := by unfold spanCmp; rw [if_pos hcmp]; decide
        go_wp2_with (go_at_call 94; refine (class1_any _ _ _).mono ?_; rintro e w' ⟨rfl, hk2⟩)
        go_roundw
        case rel =>
          refine ⟨(i + j) / 2 + 1, j, by omega, hjn, by go_num, rfl, fun k t hk ht => ?_, HHI.out, Kept.trans hB hk2⟩
          rcases Nat.lt_or_ge k ((i + j) / 2) with h | h
          · have h1 := HO.out.1 k _ t s h ht HS.out
            have h2 := HO.out.2 s (mem_of_getElem?_some HS.out)
            omega
          · obtain rfl : k = (i + j) / 2 := by omega
            have := HS.out
            rw [ht] at this
            injection this with this
            subst this
            exact hcmp
        case measure => simp [intOf]; omega
      · have hz : ¬ spanCmp s c < 0 := by unfold spanCmp; rw [if_neg hcmp]; split <;> decide
        go_wp2_with (go_at_call 94; refine (class1_any _ _ _).mono ?_; rintro e w' ⟨rfl, hk2⟩)
        go_roundw
        case rel =>
          refine ⟨i, (i + j) / 2, by omega, by omega, rfl, by go_num, HLO.out, fun k t hk ht => ?_, Kept.trans hB hk2⟩
          rcases Nat.lt_or_ge ((i + j) / 2) k with h | h
          · have h1 := HO.out.1 _ k s t h HS.out ht
            have h2 := HO.out.2 t (mem_of_getElem?_some ht)
            omega
          · obtain rfl : k = (i + j) / 2 := by omega
            have := HS.out
            rw [ht] at this
            injection this with this
            subst this
            omega
        case measure => simp [intOf]; omega
    · obtain rfl : i = j := by omega
      by_cases hin : i < n
      · obtain ⟨b, off, s, rfl, hs, c0, c1, c2⟩ := span_at (i := i) (HL.out.kept hB) (by omega)
        have HS := Lib.hid hs
        clear hs
        have hnot : ∀ (k : Nat) (t : Span), l[k]? = some t → k ≠ i → ¬ (t.lo ≤ c ∧ c ≤ t.hi) := fun k t ht hki => by
          rcases Nat.lt_or_gt_of_ne hki with h | h
          · have := HLO.out k t h ht; omega
          · have h0 := HO.out.1 i k s t h HS.out ht
            have h1 := HHI.out i s (Nat.le_refl _) HS.out
            omega
        have HNOT := Lib.hid hnot
        clear hnot
        by_cases hz : spanCmp s c = 0
        · have hz' : (spanCmp s c == 0) = true := by simpa using hz
          have HZ := Lib.hid hz
          clear hz
          go_wp2_with (go_at_call 94; refine (class1_any _ _ _).mono ?_; rintro e w' ⟨rfl, hk2⟩)
          go_ret2
          refine ⟨i, true, rfl, Kept.trans hB hk2, by have := HN.out; omega, fun _ => ⟨s, HS.out, ?_⟩, fun h => by cases h⟩
          have := HZ.out
          unfold spanCmp at this
          by_cases h1 : s.hi < c
          · rw [if_pos h1] at this; omega
          · by_cases h2 : c < s.lo
            · rw [if_neg h1, if_pos h2] at this; omega
            · omega
        · have hz' : (spanCmp s c == 0) = false := by simpa using hz
          have HZ := Lib.hid hz
          clear hz
          go_wp2_with (go_at_call 94; refine (class1_any _ _ _).mono ?_; rintro e w' ⟨rfl, hk2⟩)
          go_ret2
          refine ⟨i, false, rfl, Kept.trans hB hk2, by have := HN.out; omega, (fun h => by cases h), fun _ t ht => ?_⟩
          obtain ⟨k, hk, e⟩ := List.getElem_of_mem ht
          have ht' : l[k]? = some t := by rw [List.getElem?_eq_getElem hk, e]
          by_cases hki : k = i
          · subst hki
            have := HS.out
            rw [ht'] at this
            injection this with this
            subst this
            intro hc
            exact HZ.out (by unfold spanCmp; rw [if_neg (by omega), if_neg (by omega)])
          · exact HNOT.out k t ht' hki
      · go_wp2_with fail
        go_ret2
        refine ⟨i, false, rfl, hB, by have := HN.out; omega, (fun h => by cases h), fun _ t ht => ?_⟩
        obtain ⟨k, hk, e⟩ := List.getElem_of_mem ht
        have ht' : l[k]? = some t := by rw [List.getElem?_eq_getElem hk, e]
        have := HLO.out k t (by have := HN.out; omega) ht'
        omega
theorem class_any (A : Option Addr) (n cp : Nat) (l : List Span) (c : Int) (w : World) (hn : n ≤ 100000) (hl : Spans w A n l) (hs : SpanSorted l) :
    Calls Tryz.prog 68 #[.slice A n cp, .int .i64 c] w (RetI w (classOf l c)) := by
  have HL := Lib.hid hl
  have HS := Lib.hid hs
  have HN := Lib.hid hl.1
  have HC := Lib.hid (bs_span A n cp l c w hn hl hs)
  clear hl hs
  go_enter Tryz.func68, Tryz.ntmps68
  go_wp2_with fail
  refine HC.out.mono ?_
  rintro e w1 ⟨i, ok, rfl, hB, hi, hyes, hno⟩
  cases ok
  · have HNO := Lib.hid (hno rfl)
    clear hno hyes
    go_wp2_with fail
    go_ret
    exact ⟨ret_int (classOf_none HNO.out).symm, hB⟩
  · obtain ⟨s, hs, h1, h2⟩ := hyes rfl
    have hin : i < n := by have := lt_of_getElem?_some hs; have := HN.out; omega
    obtain ⟨b, off, s', rfl, hs', c0, c1, c2⟩ := span_at (i := i) (HL.out.kept hB) hin
    have e : s' = s := by rw [hs] at hs'; injection hs' with h; exact h.symm
    subst e
    have HSS := Lib.hid hs
    clear hno hyes hs hs'
    go_wp2_with fail
    go_ret
    exact ⟨ret_int (classOf_some HS.out HSS.out h1 h2).symm, hB⟩
end Go.Proofs.YtckgmkjoblneeaaGreatDoor
