/- ordering.Check: what it returns for any classes. -/
import Derived.Test.YtobcaploncgnbaaDoorKBase
import Derived.Test.YtobcaploncgnbaaDoorKPl
namespace Go.Proofs.YtobcaploncgnbaaDoor
open Go Go.RowKit

/-- The package variable hangulRanges as it lies in memory. -/
def Glob (w : World) : Prop :=
  w.cell? ⟨0, 0, none⟩ = some (.int .i64 4352) ∧ w.cell? ⟨0, 1, none⟩ = some (.int .i64 4370) ∧ w.cell? ⟨0, 2, none⟩ = some (.int .i64 4449) ∧ w.cell? ⟨0, 3, none⟩ = some (.int .i64 4469) ∧
  w.cell? ⟨0, 4, none⟩ = some (.int .i64 4520) ∧ w.cell? ⟨0, 5, none⟩ = some (.int .i64 4546) ∧ w.cell? ⟨0, 6, none⟩ = some (.int .i64 44032) ∧ w.cell? ⟨0, 7, none⟩ = some (.int .i64 55203)
theorem Glob.kept {w w' : World} (h : Glob w) (hk : Kept w w') : Glob w' := by
  obtain ⟨h0, h1, h2, h3, h4, h5, h6, h7⟩ := h
  exact ⟨hk.cell h0, hk.cell h1, hk.cell h2, hk.cell h3, hk.cell h4, hk.cell h5, hk.cell h6, hk.cell h7⟩

set_option maxHeartbeats 1000000 in
theorem ordering_check (A : Option Addr) (n c : Nat) (l : List Span) (w : World) (hn : n ≤ 1000) (hl : Spans w A n l) (hG : Glob w) :
    Calls Tryd.prog 29 #[.slice A n c] w (RetI w (ordCheck l)) := by
  have HL := Lib.hid hl
  have HG := Lib.hid hG
  have HN := Lib.hid hl.1
  clear hl hG
  go_enter Tryd.func29, Tryd.ntmps29
  go_wp2
  go_loopw [14] (fun i wr => ∃ k : Nat, k ≤ n ∧ i = .int .i64 k ∧ (l.take k).any spanBad = false ∧ Below w.heap.size w wr) (fun i _ => n - (intOf i).toNat)
  case atStart => exact ⟨0, Nat.zero_le _, rfl, by simp, Below.refl _ _⟩
  case round =>
    obtain ⟨k, hk, rfl, hno, hB⟩ := hrel
    have HNO := Lib.hid hno
    clear hno
    by_cases hlt : k < n
    · obtain ⟨b, off, s, rfl, hs, c0, c1, c2⟩ := span_at (HL.out.kept hB) hlt
      have HS := Lib.hid hs
      clear hs
      go_wp2
      all_goals first
        | (go_ret
           exact ⟨ret_int (ordCheck_range HS.out (spanBad_mk (by omega))).symm, hB.alloc hB.size _⟩)
        | (go_roundw
           case rel => exact ⟨k + 1, by omega, by go_num, by rw [any_take_snoc _ HS.out, HNO.out, spanBad_not (by omega)]; rfl, hB.alloc hB.size _⟩
           case measure => simp [intOf]; omega)
    · go_wp2
      have hall : l.any spanBad = false := by
        have := HNO.out
        rwa [List.take_of_length_le (by have := HN.out; omega)] at this
      have HNO1 := Lib.hid hall
      clear hall HNO
      obtain ⟨w1, rfl⟩ : ∃ w1 : World, w1 = wr := ⟨_, rfl⟩
      go_loopw [5] (fun i wr => ∃ k : Nat, k ≤ n ∧ i = .int .i64 (k + 1) ∧ adjAny spanClash (l.take (k + 1)) = false ∧ Below w.heap.size w wr) (fun i _ => n - (intOf i).toNat)
      case atStart => exact ⟨0, Nat.zero_le _, rfl, by cases l <;> simp [adjAny], hB⟩
      case round =>
        obtain ⟨k, hk, rfl, hno, hB⟩ := hrel
        have HNO := Lib.hid hno
        clear hno
        by_cases hlt : k + 1 < n
        · obtain ⟨b, off, s, rfl, hs, c0, c1, c2⟩ := span_at (i := k) (HL.out.kept hB) (by omega)
          obtain ⟨b', off', s', hA', hs', c0', c1', c2'⟩ := span_at (i := k + 1) (HL.out.kept hB) (by omega)
          simp only [Option.some.injEq, Addr.mk.injEq] at hA'
          obtain ⟨rfl, rfl, _⟩ := hA'
          have b1 := spanBad_false (any_false_at HNO1.out hs)
          have b2 := spanBad_false (any_false_at HNO1.out hs')
          have HS := Lib.hid hs
          have HS' := Lib.hid hs'
          have hb0 : b < wr.heap.size := cell_lt c0
          clear hs hs'
          go_wp2
          go_region
          go_wp2
          all_goals first
            | (go_ret
               exact ⟨ret_int (ordCheck_order HNO1.out HS.out HS'.out (spanClash_mk (by first | omega | simp_all))).symm, by repeat (first | exact hB | refine Kept.drew ?_ | refine Kept.alloc ?_ _)⟩)
            | (go_roundw
               case rel => exact ⟨k + 1, by omega, by go_num, by rw [adjAny_take _ HS.out HS'.out, HNO.out, spanClash_not (by first | omega | simp_all)]; rfl, by repeat (first | exact hB | refine Kept.drew ?_ | refine Kept.alloc ?_ _)⟩
               case measure => simp [intOf]; omega)
        · have hall : adjAny spanClash l = false := by
            have := HNO.out
            rwa [List.take_of_length_le (by have := HN.out; omega)] at this
          have HNO2 := Lib.hid hall
          clear hall HNO
          go_wp2
          obtain ⟨w2, rfl⟩ : ∃ w2 : World, w2 = wr := ⟨_, rfl⟩
          go_loopw [81] (fun i wr => ∃ k : Nat, k ≤ n ∧ i = .int .i64 k ∧ (l.take k).any spanHangul = false ∧ Below w.heap.size w wr) (fun i _ => n - (intOf i).toNat)
          case atStart => exact ⟨0, Nat.zero_le _, rfl, by simp, hB⟩
          case round =>
            obtain ⟨k, hk, rfl, hno, hB⟩ := hrel
            have HNO := Lib.hid hno
            clear hno
            by_cases hlt : k < n
            · obtain ⟨b, off, s, rfl, hs, c0, c1, c2⟩ := span_at (HL.out.kept hB) hlt
              have HS := Lib.hid hs
              obtain ⟨g0, g1, g2, g3, g4, g5, g6, g7⟩ := HG.out.kept hB
              have hg0 := cell_lt g0
              clear hs
              go_wp2
              have hB1 := hB.alloc hB.size (Obj.cells #[Value.int IntKind.i64 s.lo, Value.int IntKind.i64 s.hi, Value.int IntKind.i64 s.val] 73)
              have d0 := box_cell wr #[Value.int IntKind.i64 s.lo, Value.int IntKind.i64 s.hi, Value.int IntKind.i64 s.val] 73 0
              have d1 := box_cell wr #[Value.int IntKind.i64 s.lo, Value.int IntKind.i64 s.hi, Value.int IntKind.i64 s.val] 73 1
              clear c0 c1 c2 g0 g1 g2 g3 g4 g5 g6 g7
              generalize wr.alloc (Obj.cells #[Value.int IntKind.i64 s.lo, Value.int IntKind.i64 s.hi, Value.int IntKind.i64 s.val] 73) = W1 at *
              obtain ⟨bx, hbx⟩ : ∃ bx : Nat, bx = wr.heap.size := ⟨_, rfl⟩
              rw [← hbx] at d0 d1 ⊢
              clear hbx
              have HD0 := Lib.hid d0
              have HD1 := Lib.hid d1
              clear d0 d1
              obtain ⟨w3, rfl⟩ : ∃ w3 : World, w3 = wr := ⟨_, rfl⟩
              go_loopw [86] (fun i wr => ∃ k : Nat, k ≤ 4 ∧ i = .int .i64 k ∧ (hangulR.take k).any (meets s) = false ∧ Below W1.heap.size W1 wr) (fun i _ => 4 - (intOf i).toNat)
              case atStart => exact ⟨0, by omega, rfl, by simp, Below.refl _ _⟩
              case round =>
                obtain ⟨j, hj, rfl, hno, hB2⟩ := hrel
                have HN2 := Lib.hid hno
                clear hno
                have d0 := Kept.cell hB2 HD0.out
                have d1 := Kept.cell hB2 HD1.out
                have hdb := cell_lt d0
                by_cases hj4 : j < 4
                · obtain ⟨r, hr, hidx⟩ : ∃ r : Rng, hangulR[j]? = some r ∧ ∀ w, (Instr.index 75 (.agg #[Value.int IntKind.i64 4352, Value.int IntKind.i64 4370, Value.int IntKind.i64 4449, Value.int IntKind.i64 4469,
                      Value.int IntKind.i64 4520, Value.int IntKind.i64 4546, Value.int IntKind.i64 44032, Value.int IntKind.i64 55203]) (.int .i64 j)).run Tryd.prog w = .ok (.agg #[.int .i64 r.lo, .int .i64 r.hi]) w := by
                    match j, hj4 with
                    | 0, _ => exact ⟨_, rfl, fun _ => by kernel_rfl⟩
                    | 1, _ => exact ⟨_, rfl, fun _ => by kernel_rfl⟩
                    | 2, _ => exact ⟨_, rfl, fun _ => by kernel_rfl⟩
                    | 3, _ => exact ⟨_, rfl, fun _ => by kernel_rfl⟩
                  have HR := Lib.hid hr
                  clear hr
                  go_wp2
                  all_goals first
                    | (go_ret
                       exact ⟨ret_int (ordCheck_hangul HNO1.out HNO2.out HS.out (spanHangul_of HR.out (by simp [meets]; omega))).symm, Kept.alloc (Below.trans hB1 (hB2.mono hB1.size)) _⟩)
                    | (go_roundw
                       case rel => exact ⟨j + 1, by omega, by go_num, by rw [any_take_snoc _ HR.out, HN2.out]; simp [meets]; omega, hB2.alloc hB2.size _⟩
                       case measure => simp [intOf]; omega)
                · go_wp2
                  go_roundw
                  case rel => exact ⟨k + 1, by omega, by go_num, by
                    have h4 : j = 4 := by omega
                    subst h4
                    rw [any_take_snoc _ HS.out, HNO.out]; exact HN2.out, Below.trans hB1 (hB2.mono hB1.size)⟩
                  case measure => simp [intOf]; omega
            · go_wp2
              go_ret
              exact ⟨ret_int (ordCheck_ok HNO1.out HNO2.out (by have := HNO.out; rwa [List.take_of_length_le (by have := HN.out; omega)] at this)).symm, hB⟩
end Go.Proofs.YtobcaploncgnbaaDoor
