/- References: Has, place, Cuts, keeps of layer 2. -/
import Derived.Test.YtobcaploncgnbaaDoorKRefA
import Derived.Test.YtobcaploncgnbaaDoorKSetB
import Derived.Test.YtobcaploncgnbaaDoorKPl
namespace Go.Proofs.YtobcaploncgnbaaDoor
open Go Go.RowKit

set_option maxHeartbeats 1000000 in
theorem r02Has (A : Option Addr) (n c : Nat) (l : List Rng) (x : Int) (w : World) (hn : n ≤ 100000) (hl : Rngs w A n l) :
    Calls Tryd.prog 20 #[.agg #[.slice A n c], .int .i64 x] w (RetB w (hasR l x)) := by
  have HL := Lib.hid hl
  have HN := Lib.hid hl.1
  clear hl
  go_enter Tryd.func20, Tryd.ntmps20
  go_wp2
  have hk0 := Kept.alloc (Kept.refl w) (Obj.cells #[Value.slice A n c] 26)
  have x0 := box_cell w #[Value.slice A n c] 26 0
  obtain ⟨bx, hbx⟩ : ∃ bx : Nat, bx = w.heap.size := ⟨_, rfl⟩
  generalize w.alloc (Obj.cells #[Value.slice A n c] 26) = W1 at *
  rw [← hbx] at x0 ⊢
  clear hbx
  have HL1 := Lib.hid (HL.out.kept hk0)
  go_loop [5] (fun i => ∃ k : Nat, k ≤ n ∧ i = .int .i64 k ∧ (l.take k).any (inR x) = false) (fun i => n - (intOf i).toNat)
  case atStart => exact ⟨0, Nat.zero_le _, rfl, by simp⟩
  case round =>
    obtain ⟨k, hk, rfl, hno⟩ := hrel
    have HNO := Lib.hid hno
    clear hno
    by_cases hlt : k < n
    · obtain ⟨b, off, r, rfl, hr, c0, c1⟩ := rng_at HL1.out hlt
      have HR := Lib.hid hr
      clear hr
      cases hv : validB x
      · go_wp2_with (go_at_call 47; refine (rvalid_any _ _).mono ?_; rintro e w' ⟨rfl, rfl⟩)
        go_round
        case rel => exact ⟨k + 1, by omega, by go_num, by rw [any_take_snoc _ HR.out, HNO.out]; simp [inR, hv]⟩
        case measure => simp [intOf]; omega
      · by_cases h1 : r.lo ≤ x
        · by_cases h2 : x ≤ r.hi
          · have hres : hasR l x = true := List.any_eq_true.2 ⟨r, mem_of_getElem?_some HR.out, by simp [inR, hv, h1, h2]⟩
            have HRES := Lib.hid hres
            clear hres
            go_wp2_with (go_at_call 47; refine (rvalid_any _ _).mono ?_; rintro e w' ⟨rfl, rfl⟩)
            go_ret
            exact ⟨ret_bool HRES.out.symm, hk0⟩
          · go_wp2_with (go_at_call 47; refine (rvalid_any _ _).mono ?_; rintro e w' ⟨rfl, rfl⟩)
            go_round
            case rel => exact ⟨k + 1, by omega, by go_num, by rw [any_take_snoc _ HR.out, HNO.out]; simp [inR]; omega⟩
            case measure => simp [intOf]; omega
        · go_wp2_with (go_at_call 47; refine (rvalid_any _ _).mono ?_; rintro e w' ⟨rfl, rfl⟩)
          go_round
          case rel => exact ⟨k + 1, by omega, by go_num, by rw [any_take_snoc _ HR.out, HNO.out]; simp [inR]; omega⟩
          case measure => simp [intOf]; omega
    · have hres : hasR l x = false := by
        have := HNO.out
        rwa [List.take_of_length_le (by have := HN.out; omega)] at this
      have HRES := Lib.hid hres
      clear hres
      go_wp2
      go_ret
      exact ⟨ret_bool HRES.out.symm, hk0⟩

theorem r02keepsOr (x y : Bool) (w : World) : Calls Tryd.prog 73 #[.int .i64 1, .bool x, .bool y] w fun e w' => e = .returned (.bool (x || y)) ∧ w = w' := by
  cases x
  · go_enter Tryd.func73, Tryd.ntmps73
    go_wp2
    go_ret
    exact ⟨rfl, rfl⟩
  · go_enter Tryd.func73, Tryd.ntmps73
    go_wp2
    go_ret
    exact ⟨rfl, rfl⟩

set_option maxRecDepth 100000 in
set_option maxHeartbeats 2000000 in
theorem r02place (A : Option Addr) (n c : Nat) (l : List Int) (x : Int) (w : World) (hn : n ≤ 100000) (hl : Ints w A n l) :
    Calls Tryd.prog 89 #[.slice A n c, .int .i64 x] w (RetInts w (placeL x l)) := by
  have HL := Lib.hid hl
  have HN := Lib.hid hl.1
  clear hl
  obtain ⟨i0, hi, hz0, hz1, hz2⟩ := info_parts info_int
  have HI0 := Lib.hid hi
  have HZ0 := Lib.hid hz0
  have HZ1 := Lib.hid hz1
  have HZ2 := Lib.hid hz2
  clear hi hz0 hz1 hz2
  go_enter Tryd.func89, Tryd.ntmps89
  go_wp2
  go_loopw [5, 6, 7] (fun p d i wr => ∃ (k : Nat) (dn : Bool) (out : List Int), k ≤ n ∧ i = .int .i64 k ∧ d = .bool dn ∧ dn = (l.take k).any (fun y => decide (x ≤ y)) ∧ out = (if dn then placeL x (l.take k) else l.take k) ∧ out.length ≤ k + 1 ∧ OwnI wr w.heap.size p out ∧ Below w.heap.size w wr) (fun _ _ i _ => n - (intOf i).toNat)
  case atStart => exact ⟨0, false, [], Nat.zero_le _, rfl, rfl, by simp, by simp, by simp, (World.ownsRow_nil _ _ _ _ : OwnI w w.heap.size (.slice none 0 0) []), Below.refl _ _⟩
  case round =>
    obtain ⟨k, dn, out, hk, rfl, rfl, hdn, hout, hol, hown, hB⟩ := hrel
    have HDN := Lib.hid hdn
    have HOUT := Lib.hid hout
    have HOW := Lib.hid hown
    clear hdn hout hown
    by_cases hlt : k < n
    · obtain ⟨b, off, y, rfl, hy, cw⟩ := int_at HL.out hlt
      have HY := Lib.hid hy
      have HCW := Lib.hid cw
      have c0 := Kept.cell hB cw
      have hsz := hB.size
      clear hy cw
      cases dn
      · have hany : (l.take (k + 1)).any (fun y => decide (x ≤ y)) = decide (x ≤ y) := by rw [any_take_snoc _ HY.out, ← HDN.out]; simp
        have HANY := Lib.hid hany
        have ho : out = l.take k := by have := HOUT.out; simpa using this
        have hol2 : out.length ≤ k := by rw [ho]; exact List.length_take_le _ _
        have HO := Lib.hid ho
        clear hany ho
        by_cases h1 : x ≤ y
        · by_cases h2 : x < y
          · go_wp2_with (first
              | (at_builtin; refine wpList_append_own _ rfl (.tmp 30) (.tmp 32) 33 rfl w.heap.size 3 i0 (.int .i64 0) 1 8 Tryd.underlying33 HI0.out HZ0.out HZ1.out HZ2.out rfl (by decide) _ _ _ rfl (by exact World.ownsRow.alloc HOW.out _) ⟨wr.heap.size, 0, none⟩ 1 1 [.int .i64 x] rfl rfl (by exact cell_one_at rfl) (by simp [Value.oneCell']) (by unfold maxLen; omega) (by omega) (by simp; omega) ?_; intro v1 w1 hown1 hg1 _; have hB1 : Below w.heap.size w w1 := (Kept.alloc hB (Obj.cells #[Value.int IntKind.i64 x] 3)).grown hg1 (by simp; omega) (fun q e => (World.ownsRow.lt HOW.out q e).1); have c1 := Kept.cell hB1 HCW.out; have hs1 := hB1.size; clear c0)
              | (at_builtin; refine wpList_append_own _ rfl (.tmp 34) (.tmp 39) 33 rfl w.heap.size 3 i0 (.int .i64 0) 1 8 Tryd.underlying33 HI0.out HZ0.out HZ1.out HZ2.out rfl (by decide) _ _ _ rfl (by exact World.ownsRow.alloc hown1 _) ⟨w1.heap.size, 0, none⟩ 1 1 [.int .i64 y] rfl rfl (by exact cell_one_at rfl) (by simp [Value.oneCell']) (by unfold maxLen; omega) (by omega) (by simp; omega) ?_; intro v2 w2 hown2 hg2 _))
            have hB2 : Below w.heap.size w w2 := (Kept.alloc hB1 (Obj.cells #[Value.int IntKind.i64 y] 3)).grown hg2 (by simp; omega) (fun q e => (World.ownsRow.lt hown1 q e).1)
            have hpl : placeL x (l.take (k + 1)) = out ++ [x] ++ [y] := by
              rw [take_succ_some HY.out, placeL_open _ (by rw [← HDN.out]), HO.out]
              simp [placeL, h1, h2]
            go_roundw
            case rel => exact ⟨k + 1, true, out ++ [x] ++ [y], by omega, by go_num, rfl, by rw [HANY.out]; simp [h1], by rw [if_pos rfl, hpl], by simp; omega, by simpa [OwnI] using hown2, hB2⟩
            case measure => simp [intOf]; omega
          · have hxy : x = y := by omega
            have hpl : placeL x (l.take (k + 1)) = out ++ [y] := by
              rw [take_succ_some HY.out, placeL_open _ (by rw [← HDN.out]), HO.out]
              simp [placeL, h1, h2]
            have HPL := Lib.hid hpl
            clear hpl hxy
            go_wp2_with (at_builtin; refine wpList_append_own _ rfl (.tmp 34) (.tmp 39) 33 rfl w.heap.size 3 i0 (.int .i64 0) 1 8 Tryd.underlying33 HI0.out HZ0.out HZ1.out HZ2.out rfl (by decide) _ _ _ rfl (by exact World.ownsRow.alloc HOW.out _) ⟨wr.heap.size, 0, none⟩ 1 1 [.int .i64 y] rfl rfl (by exact cell_one_at rfl) (by simp [Value.oneCell']) (by unfold maxLen; omega) (by omega) (by simp; omega) ?_; intro v2 w2 hown2 hg2 _)
            have hB2 : Below w.heap.size w w2 := (Kept.alloc hB (Obj.cells #[Value.int IntKind.i64 y] 3)).grown hg2 (by simp; omega) (fun q e => (World.ownsRow.lt HOW.out q e).1)
            go_roundw
            case rel => exact ⟨k + 1, true, out ++ [y], by omega, by go_num, rfl, by rw [HANY.out]; simp [h1], by rw [if_pos rfl, HPL.out], by simp; omega, by simpa [OwnI] using hown2, hB2⟩
            case measure => simp [intOf]; omega
        · go_wp2_with (at_builtin; refine wpList_append_own _ rfl (.tmp 34) (.tmp 39) 33 rfl w.heap.size 3 i0 (.int .i64 0) 1 8 Tryd.underlying33 HI0.out HZ0.out HZ1.out HZ2.out rfl (by decide) _ _ _ rfl (by exact World.ownsRow.alloc HOW.out _) ⟨wr.heap.size, 0, none⟩ 1 1 [.int .i64 y] rfl rfl (by exact cell_one_at rfl) (by simp [Value.oneCell']) (by unfold maxLen; omega) (by omega) (by simp; omega) ?_; intro v2 w2 hown2 hg2 _)
          have hB2 : Below w.heap.size w w2 := (Kept.alloc hB (Obj.cells #[Value.int IntKind.i64 y] 3)).grown hg2 (by simp; omega) (fun q e => (World.ownsRow.lt HOW.out q e).1)
          go_roundw
          case rel => exact ⟨k + 1, false, out ++ [y], by omega, by go_num, rfl, by rw [HANY.out]; simp; omega, by rw [take_succ_some HY.out, HO.out]; simp, by simp; omega, by simpa [OwnI] using hown2, hB2⟩
          case measure => simp [intOf]; omega
      · have hany : (l.take (k + 1)).any (fun y => decide (x ≤ y)) = true := by rw [any_take_snoc _ HY.out, ← HDN.out]; simp
        have HANY := Lib.hid hany
        have hpl : placeL x (l.take (k + 1)) = out ++ [y] := by
          rw [take_succ_some HY.out, placeL_done _ HDN.out.symm, HOUT.out, if_pos rfl]
        have HPL := Lib.hid hpl
        clear hany hpl
        go_wp2_with (at_builtin; refine wpList_append_own _ rfl (.tmp 34) (.tmp 39) 33 rfl w.heap.size 3 i0 (.int .i64 0) 1 8 Tryd.underlying33 HI0.out HZ0.out HZ1.out HZ2.out rfl (by decide) _ _ _ rfl (by exact World.ownsRow.alloc HOW.out _) ⟨wr.heap.size, 0, none⟩ 1 1 [.int .i64 y] rfl rfl (by exact cell_one_at rfl) (by simp [Value.oneCell']) (by unfold maxLen; omega) (by omega) (by simp; omega) ?_; intro v2 w2 hown2 hg2 _)
        have hB2 : Below w.heap.size w w2 := (Kept.alloc hB (Obj.cells #[Value.int IntKind.i64 y] 3)).grown hg2 (by simp; omega) (fun q e => (World.ownsRow.lt HOW.out q e).1)
        go_roundw
        case rel => exact ⟨k + 1, true, out ++ [y], by omega, by go_num, rfl, HANY.out.symm, by rw [if_pos rfl, HPL.out], by simp; omega, by simpa [OwnI] using hown2, hB2⟩
        case measure => simp [intOf]; omega
    · have hfull : l.take k = l := List.take_of_length_le (by have := HN.out; omega)
      have hsz := hB.size
      cases dn
      · have hpl : placeL x l = out ++ [x] := by
          have h1 := HDN.out
          have h2 := HOUT.out
          rw [hfull] at h1 h2
          simp at h2
          have := placeL_open (n := x) (p := l) [] h1.symm
          rw [List.append_nil] at this
          rw [this, h2]; rfl
        have HPL := Lib.hid hpl
        clear hpl
        go_wp2_with (at_builtin; refine wpList_append_own _ rfl (.tmp 43) (.tmp 45) 33 rfl w.heap.size 3 i0 (.int .i64 0) 1 8 Tryd.underlying33 HI0.out HZ0.out HZ1.out HZ2.out rfl (by decide) _ _ _ rfl (by exact World.ownsRow.alloc HOW.out _) ⟨wr.heap.size, 0, none⟩ 1 1 [.int .i64 x] rfl rfl (by exact cell_one_at rfl) (by simp [Value.oneCell']) (by unfold maxLen; omega) (by omega) (by simp; omega) ?_; intro v2 w2 hown2 hg2 _)
        have hB2 : Below w.heap.size w w2 := (Kept.alloc hB (Obj.cells #[Value.int IntKind.i64 x] 3)).grown hg2 (by simp; omega) (fun q e => (World.ownsRow.lt HOW.out q e).1)
        have hown3 : OwnI w2 w.heap.size v2 (placeL x l) := by rw [HPL.out]; simpa [OwnI] using hown2
        obtain ⟨A3, c3, rfl, hle3, hI3⟩ := OwnI.sl hown3
        go_ret
        exact ⟨A3, _, c3, rfl, hle3, hI3, hB2⟩
      · have hpl : placeL x l = out := by
          have h2 := HOUT.out
          rw [hfull] at h2
          simpa using h2.symm
        have hown3 : OwnI wr w.heap.size u5 (placeL x l) := by rw [hpl]; exact HOW.out
        clear hpl
        obtain ⟨A3, c3, rfl, hle3, hI3⟩ := OwnI.sl hown3
        go_wp2
        go_ret
        exact ⟨A3, _, c3, rfl, hle3, hI3, hB⟩
end Go.Proofs.YtobcaploncgnbaaDoor
