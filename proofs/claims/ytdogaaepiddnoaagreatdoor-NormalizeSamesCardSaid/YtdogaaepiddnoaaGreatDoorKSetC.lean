/- cpset.Valid. -/
import Derived.Laws.StructEq
import Derived.Test.YtdogaaepiddnoaaGreatDoorKSetB
namespace Go.Proofs.YtdogaaepiddnoaaGreatDoor
open Go Go.RowKit

theorem rng_eqIn (r s : Rng) (w : World) : (Op.equalIn 10000 55 (.agg #[.int .i64 r.lo, .int .i64 r.hi]) (.agg #[.int .i64 s.lo, .int .i64 s.hi])).run Tryz.prog w = .ok (decide (r = s)) w := by
  rw [run_equalIn_agg w 9999 55 _ _ (by kernel_rfl) (by kernel_rfl)]
  go_simp
  by_cases h1 : r.lo = s.lo
  · by_cases h2 : r.hi = s.hi
    · have : r = s := Rng.ext' h1 h2
      simp [this]
    · have : ¬ r = s := fun e => h2 (by rw [e])
      simp [h1, h2, this]
  · have : ¬ r = s := fun e => h1 (by rw [e])
    simp [h1, this]
theorem rng_neq (r s : Rng) (w : World) : (binOp .neq 55 (.agg #[.int .i64 r.lo, .int .i64 r.hi]) (.agg #[.int .i64 s.lo, .int .i64 s.hi])).run Tryz.prog w = .ok (.bool (!decide (r = s))) w := by
  rw [run_neq_struct, rng_eqIn]; rfl

theorem take_eq_snoc {l m : List Rng} {k : Nat} {r s : Rng} (h : l.take k = m.take k) (hr : l[k]? = some r) (hs : m[k]? = some s) (e : r = s) : l.take (k + 1) = m.take (k + 1) := by
  rw [take_succ_some hr, take_succ_some hs, h, e]

set_option maxRecDepth 100000 in
set_option maxHeartbeats 1000000 in
theorem setValid_any (A : Option Addr) (n c : Nat) (l : List Rng) (w : World) (hn : n ≤ 100000) (hl : Rngs w A n l) :
    Calls Tryz.prog 52 #[.agg #[.slice A n c]] w (RetB w (decide (makeR l = l))) := by
  have HL := Lib.hid hl
  have HN := Lib.hid hl.1
  clear hl
  go_enter Tryz.func52, Tryz.ntmps52
  go_wp2_with fail
  refine (make_any A n c l _ hn (HL.out.kept (Kept.alloc (Kept.refl _) _))).mono ?_
  rintro e w1 ⟨A1, n1, c1, rfl, hle1, hR1, hk1⟩
  have b1 := hk1.cell (box_cell w #[.slice A n c] 26 0)
  have hlen := hR1.1
  have HR1 := Lib.hid (hR1.kept (Kept.alloc (Kept.refl w1) (Obj.cells #[.slice A1 n1 c1] 26)))
  have hkw : Kept w (w1.alloc (Obj.cells #[.slice A1 n1 c1] 26)) := Kept.alloc (Kept.trans (Kept.alloc (Kept.refl _) _) hk1) _
  have b1' := (Kept.alloc (Kept.refl w1) (Obj.cells #[.slice A1 n1 c1] 26)).cell b1
  have hml : n1 ≤ 100000 := by
    rw [hlen]
    exact Nat.le_trans (makeR_length l) (by have := HN.out; omega)
  have HLEN := Lib.hid hlen
  clear hR1 hlen
  by_cases hnn : n1 = n
  · subst hnn
    go_wp2_with fail
    have HB1 := Lib.hid b1'
    clear b1 b1'
    generalize w1.alloc (Obj.cells #[.slice A1 n1 c1] 26) = W1 at *
    obtain ⟨bx, hbx⟩ : ∃ bx : Nat, bx = w.heap.size := ⟨_, rfl⟩
    rw [← hbx] at HB1 ⊢
    clear hbx
    go_loopw [19] (fun i wr => ∃ k : Nat, k ≤ n1 ∧ i = .int .i64 k ∧ (makeR l).take k = l.take k ∧ Below W1.heap.size W1 wr) (fun i _ => n1 - (intOf i).toNat)
    case atStart => exact ⟨0, Nat.zero_le _, rfl, by simp, Below.refl _ _⟩
    case round =>
      obtain ⟨k, hk, rfl, hsame, hB⟩ := hrel
      have HSA := Lib.hid hsame
      clear hsame
      by_cases hlt : k < n1
      · obtain ⟨b, off, r, hA1, hr, c0, c1'⟩ := rng_at (HR1.out.kept hB) hlt
        obtain ⟨b', off', s, hA, hs, d0, d1⟩ := rng_at ((HL.out.kept hkw).kept hB) hlt
        rw [hA1, hA]
        have g0 := Kept.cell hB HB1.out
        rw [hA] at g0
        have hbw := cell_lt g0
        have hbw2 := cell_lt d0
        simp only at hbw hbw2
        have HR := Lib.hid hr
        have HS := Lib.hid hs
        have hneq := rng_neq r s
        clear hr hs
        have hk2 : (k : Int) < (n1 : Int) := by omega
        cases hd : decide (r = s)
        · have hne : ¬ r = s := of_decide_eq_false hd
          rw [hd] at hneq
          have HNE := Lib.hid hne
          clear hd hne
          go_wp2_with fail
          go_quiet (fail)
          go_wp2_with fail
          go_ret
          refine ⟨ret_bool ?_, ?_⟩
          · refine (decide_eq_false (fun e => HNE.out ?_)).symm
            have h1 := HR.out
            rw [e, HS.out] at h1
            injection h1 with h1
            exact h1.symm
          · exact Kept.drewN (Kept.alloc (Kept.trans hkw hB) _) _
        · have hne : r = s := of_decide_eq_true hd
          rw [hd] at hneq
          have HNE := Lib.hid hne
          clear hd hne
          go_wp2_with fail
          go_quiet (fail)
          go_wp2_with fail
          go_roundw
          case rel => exact ⟨k + 1, by omega, by go_num, take_eq_snoc HSA.out HR.out HS.out HNE.out, Kept.drewN (Kept.alloc hB _) _⟩
          case measure => simp [intOf]; omega
      · go_wp2_with fail
        go_ret
        refine ⟨ret_bool (decide_eq_true ?_).symm, Kept.trans hkw hB⟩
        have := HSA.out
        rwa [List.take_of_length_le (by have := HLEN.out; omega), List.take_of_length_le (by have := HN.out; omega)] at this
  · have hne : ((n1 : Int) != (n : Int)) = true := by rw [bne_iff_ne]; omega
    go_wp2_with fail
    go_ret
    refine ⟨ret_bool (decide_eq_false (fun e => hnn ?_)).symm, hkw⟩
    have h1 := HLEN.out
    have h2 := HN.out
    rw [e] at h1
    omega
end Go.Proofs.YtdogaaepiddnoaaGreatDoor
