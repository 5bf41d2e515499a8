/- References: Has, place, Cuts, keeps of layer 2. References: Cuts and Same of layer 2. References: combine and Make of layer 2. References: Make and Valid of layer 2. -/
import Derived.Deep.RegionHeld3
import Derived.Deep.RegionLaw
import Derived.Test.YtmlcdohldkgcdaaGreatDoorKRefA
import Derived.Test.YtmlcdohldkgcdaaGreatDoorKSet
import Derived.Test.YtmlcdohldkgcdaaGreatDoorKPl
import Derived.Test.YtmlcdohldkgcdaaGreatDoorKSq
namespace Go.Proofs.YtmlcdohldkgcdaaGreatDoor
open Go Go.RowKit
set_option maxHeartbeats 1000000 in
theorem r02Has (A : Option Addr) (n c : Nat) (l : List Rng) (x : Int) (w : World) (hn : n ≤ 100000) (hl : Rngs w A n l) :
    Calls Tryz.prog 74 #[.agg #[.slice A n c], .int .i64 x] w (RetB w (hasR l x)) := by
  have HL := Lib.hid hl
  have HN := Lib.hid hl.1
  clear hl
  go_enter Tryz.func74, Tryz.ntmps74
  go_wp2
  have hk0 := Kept.alloc (Kept.refl w) (Obj.cells #[Value.slice A n c] 26)
  have x0 := box_cell w #[Value.slice A n c] 26 0
  obtain ⟨bx, hbx⟩ : ∃ bx : Nat, bx = w.heap.size := ⟨_, rfl⟩
  generalize w.alloc (Obj.cells #[Value.slice A n c] 26) = W1 at *
  rw [← hbx] at x0 ⊢
  clear hbx
  have HL1 := Lib.hid (HL.out.kept hk0)
  go_loop [5] (fun i => ∃ k : Nat, k ≤ n ∧ i = .int .i64 k ∧ (l.take k).any (inR x) = false) (fun i => n - (intOf i).toNat)
  case atStart => exact ⟨0, Nat.zero_le _, rfl, by simp⟩
  case round =>
    obtain ⟨k, hk, rfl, hno⟩ := hrel
    have HNO := Lib.hid hno
    clear hno
    by_cases hlt : k < n
    · obtain ⟨b, off, r, rfl, hr, c0, c1⟩ := rng_at HL1.out hlt
      have HR := Lib.hid hr
      clear hr
      cases hv : validB x
      · go_wp2_with (go_at_call 104; refine (rvalid_any _ _).mono ?_; rintro e w' ⟨rfl, rfl⟩)
        go_round
        case rel => exact ⟨k + 1, by omega, by go_num, by rw [any_take_snoc _ HR.out, HNO.out]; simp [inR, hv]⟩
        case measure => simp [intOf]; omega
      · by_cases h1 : r.lo ≤ x
        · by_cases h2 : x ≤ r.hi
          · have hres : hasR l x = true := List.any_eq_true.2 ⟨r, mem_of_getElem?_some HR.out, by simp [inR, hv, h1, h2]⟩
            have HRES := Lib.hid hres
            clear hres
            go_wp2_with (go_at_call 104; refine (rvalid_any _ _).mono ?_; rintro e w' ⟨rfl, rfl⟩)
            go_ret
            exact ⟨ret_bool HRES.out.symm, hk0⟩
          · go_wp2_with (go_at_call 104; refine (rvalid_any _ _).mono ?_; rintro e w' ⟨rfl, rfl⟩)
            go_round
            case rel => exact ⟨k + 1, by omega, by go_num, by rw [any_take_snoc _ HR.out, HNO.out]; simp [inR]; omega⟩
            case measure => simp [intOf]; omega
        · go_wp2_with (go_at_call 104; refine (rvalid_any _ _).mono ?_; rintro e w' ⟨rfl, rfl⟩)
          go_round
          case rel => exact ⟨k + 1, by omega, by go_num, by rw [any_take_snoc _ HR.out, HNO.out]; simp [inR]; omega⟩
          case measure => simp [intOf]; omega
    · have hres : hasR l x = false := by
        have := HNO.out
        rwa [List.take_of_length_le (by have := HN.out; omega)] at this
      have HRES := Lib.hid hres
      clear hres
      go_wp2
      go_ret
      exact ⟨ret_bool HRES.out.symm, hk0⟩
theorem r02keepsOr (x y : Bool) (w : World) : Calls Tryz.prog 224 #[.int .i64 1, .bool x, .bool y] w fun e w' => e = .returned (.bool (x || y)) ∧ w = w' := by
  cases x
  · go_enter Tryz.func224, Tryz.ntmps224
    go_wp2
    go_ret
    exact ⟨rfl, rfl⟩
  · go_enter Tryz.func224, Tryz.ntmps224
    go_wp2
    go_ret
    exact ⟨rfl, rfl⟩
set_option maxRecDepth 100000 in
set_option maxHeartbeats 2000000 in
theorem r02place (A : Option Addr) (n c : Nat) (l : List Int) (x : Int) (w : World) (hn : n ≤ 100000) (hl : Ints w A n l) :
    Calls Tryz.prog 225 #[.slice A n c, .int .i64 x] w (RetInts w (placeL x l)) := by
  have HL := Lib.hid hl
  have HN := Lib.hid hl.1
  clear hl
  obtain ⟨i0, hi, hz0, hz1, hz2⟩ := info_parts info_int
  have HI0 := Lib.hid hi
  have HZ0 := Lib.hid hz0
  have HZ1 := Lib.hid hz1
  have HZ2 := Lib.hid hz2
  clear hi hz0 hz1 hz2
  go_enter Tryz.func225, Tryz.ntmps225
  go_wp2
  go_loopw [5, 6, 7] (fun p d i wr => ∃ (k : Nat) (dn : Bool) (out : List Int), k ≤ n ∧ i = .int .i64 k ∧ d = .bool dn ∧ dn = (l.take k).any (fun y => decide (x ≤ y)) ∧ out = (if dn then placeL x (l.take k) else l.take k) ∧ out.length ≤ k + 1 ∧ OwnI wr w.heap.size p out ∧ Below w.heap.size w wr) (fun _ _ i _ => n - (intOf i).toNat)
  case atStart => exact ⟨0, false, [], Nat.zero_le _, rfl, rfl, by simp, by simp, by simp, (World.ownsRow_nil _ _ _ _ : OwnI w w.heap.size (.slice none 0 0) []), Below.refl _ _⟩
  case round =>
    obtain ⟨k, dn, out, hk, rfl, rfl, hdn, hout, hol, hown, hB⟩ := hrel
    have HDN := Lib.hid hdn
    have HOUT := Lib.hid hout
    have HOW := Lib.hid hown
    clear hdn hout hown
    by_cases hlt : k < n
    · obtain ⟨b, off, y, rfl, hy, cw⟩ := int_at HL.out hlt
      have HY := Lib.hid hy
      have HCW := Lib.hid cw
      have c0 := Kept.cell hB cw
      have hsz := hB.size
      clear hy cw
      cases dn
      · have hany : (l.take (k + 1)).any (fun y => decide (x ≤ y)) = decide (x ≤ y) := by rw [any_take_snoc _ HY.out, ← HDN.out]; simp
        have HANY := Lib.hid hany
        have ho : out = l.take k := by have := HOUT.out; simpa using this
        have hol2 : out.length ≤ k := by rw [ho]; exact List.length_take_le _ _
        have HO := Lib.hid ho
        clear hany ho
        by_cases h1 : x ≤ y
        · by_cases h2 : x < y
          · go_wp2_with (first
              | (at_builtin; refine wpList_append_own _ rfl (.tmp 30) (.tmp 32) 32 rfl w.heap.size 3 i0 (.int .i64 0) 1 8 Tryz.underlying32 HI0.out HZ0.out HZ1.out HZ2.out rfl (by decide) _ _ _ rfl (by exact World.ownsRow.alloc HOW.out _) ⟨wr.heap.size, 0, none⟩ 1 1 [.int .i64 x] rfl rfl (by exact cell_one_at rfl) (by simp [Value.oneCell']) (by unfold maxLen; omega) (by omega) (by simp; omega) ?_; intro v1 w1 hown1 hg1 _; have hB1 : Below w.heap.size w w1 := (Kept.alloc hB (Obj.cells #[Value.int IntKind.i64 x] 3)).grown hg1 (by simp; omega) (fun q e => (World.ownsRow.lt HOW.out q e).1); have c1 := Kept.cell hB1 HCW.out; have hs1 := hB1.size; clear c0)
              | (at_builtin; refine wpList_append_own _ rfl (.tmp 34) (.tmp 39) 32 rfl w.heap.size 3 i0 (.int .i64 0) 1 8 Tryz.underlying32 HI0.out HZ0.out HZ1.out HZ2.out rfl (by decide) _ _ _ rfl (by exact World.ownsRow.alloc hown1 _) ⟨w1.heap.size, 0, none⟩ 1 1 [.int .i64 y] rfl rfl (by exact cell_one_at rfl) (by simp [Value.oneCell']) (by unfold maxLen; omega) (by omega) (by simp; omega) ?_; intro v2 w2 hown2 hg2 _))
            have hB2 : Below w.heap.size w w2 := (Kept.alloc hB1 (Obj.cells #[Value.int IntKind.i64 y] 3)).grown hg2 (by simp; omega) (fun q e => (World.ownsRow.lt hown1 q e).1)
            have hpl : placeL x (l.take (k + 1)) = out ++ [x] ++ [y] := by
              rw [take_succ_some HY.out, placeL_open _ (by rw [← HDN.out]), HO.out]
              simp [placeL, h1, h2]
            go_roundw
            case rel => exact ⟨k + 1, true, out ++ [x] ++ [y], by omega, by go_num, rfl, by rw [HANY.out]; simp [h1], by rw [if_pos rfl, hpl], by simp; omega, by simpa [OwnI] using hown2, hB2⟩
            case measure => simp [intOf]; omega
          · have hxy : x = y := by omega
            have hpl : placeL x (l.take (k + 1)) = out ++ [y] := by
              rw [take_succ_some HY.out, placeL_open _ (by rw [← HDN.out]), HO.out]
              simp [placeL, h1, h2]
            have HPL := Lib.hid hpl
            clear hpl hxy
            go_wp2_with (at_builtin; refine wpList_append_own _ rfl (.tmp 34) (.tmp 39) 32 rfl w.heap.size 3 i0 (.int .i64 0) 1 8 Tryz.underlying32 HI0.out HZ0.out HZ1.out HZ2.out rfl (by decide) _ _ _ rfl (by exact World.ownsRow.alloc HOW.out _) ⟨wr.heap.size, 0, none⟩ 1 1 [.int .i64 y] rfl rfl (by exact cell_one_at rfl) (by simp [Value.oneCell']) (by unfold maxLen; omega) (by omega) (by simp; omega) ?_; intro v2 w2 hown2 hg2 _)
            have hB2 : Below w.heap.size w w2 := (Kept.alloc hB (Obj.cells #[Value.int IntKind.i64 y] 3)).grown hg2 (by simp; omega) (fun q e => (World.ownsRow.lt HOW.out q e).1)
            go_roundw
            case rel => exact ⟨k + 1, true, out ++ [y], by omega, by go_num, rfl, by rw [HANY.out]; simp [h1], by rw [if_pos rfl, HPL.out], by simp; omega, by simpa [OwnI] using hown2, hB2⟩
            case measure => simp [intOf]; omega
        · go_wp2_with (at_builtin; refine wpList_append_own _ rfl (.tmp 34) (.tmp 39) 32 rfl w.heap.size 3 i0 (.int .i64 0) 1 8 Tryz.underlying32 HI0.out HZ0.out HZ1.out HZ2.out rfl (by decide) _ _ _ rfl (by exact World.ownsRow.alloc HOW.out _) ⟨wr.heap.size, 0, none⟩ 1 1 [.int .i64 y] rfl rfl (by exact cell_one_at rfl) (by simp [Value.oneCell']) (by unfold maxLen; omega) (by omega) (by simp; omega) ?_; intro v2 w2 hown2 hg2 _)
          have hB2 : Below w.heap.size w w2 := (Kept.alloc hB (Obj.cells #[Value.int IntKind.i64 y] 3)).grown hg2 (by simp; omega) (fun q e => (World.ownsRow.lt HOW.out q e).1)
          go_roundw
          case rel => exact ⟨k + 1, false, out ++ [y], by omega, by go_num, rfl, by rw [HANY.out]; simp; omega, by rw [take_succ_some HY.out, HO.out]; simp, by simp; omega, by simpa [OwnI] using hown2, hB2⟩
          case measure => simp [intOf]; omega
      · have hany : (l.take (k + 1)).any (fun y => decide (x ≤ y)) = true := by rw [any_take_snoc _ HY.out, ← HDN.out]; simp
        have HANY := Lib.hid hany
        have hpl : placeL x (l.take (k + 1)) = out ++ [y] := by
          rw [take_succ_some HY.out, placeL_done _ HDN.out.symm, HOUT.out, if_pos rfl]
        have HPL := Lib.hid hpl
        clear hany hpl
        go_wp2_with (at_builtin; refine wpList_append_own _ rfl (.tmp 34) (.tmp 39) 32 rfl w.heap.size 3 i0 (.int .i64 0) 1 8 Tryz.underlying32 HI0.out HZ0.out HZ1.out HZ2.out rfl (by decide) _ _ _ rfl (by exact World.ownsRow.alloc HOW.out _) ⟨wr.heap.size, 0, none⟩ 1 1 [.int .i64 y] rfl rfl (by exact cell_one_at rfl) (by simp [Value.oneCell']) (by unfold maxLen; omega) (by omega) (by simp; omega) ?_; intro v2 w2 hown2 hg2 _)
        have hB2 : Below w.heap.size w w2 := (Kept.alloc hB (Obj.cells #[Value.int IntKind.i64 y] 3)).grown hg2 (by simp; omega) (fun q e => (World.ownsRow.lt HOW.out q e).1)
        go_roundw
        case rel => exact ⟨k + 1, true, out ++ [y], by omega, by go_num, rfl, HANY.out.symm, by rw [if_pos rfl, HPL.out], by simp; omega, by simpa [OwnI] using hown2, hB2⟩
        case measure => simp [intOf]; omega
    · have hfull : l.take k = l := List.take_of_length_le (by have := HN.out; omega)
      have hsz := hB.size
      cases dn
      · have hpl : placeL x l = out ++ [x] := by
          have h1 := HDN.out
          have h2 := HOUT.out
          rw [hfull] at h1 h2
          simp at h2
          have := placeL_open (n := x) (p := l) [] h1.symm
          rw [List.append_nil] at this
          rw [this, h2]; rfl
        have HPL := Lib.hid hpl
        clear hpl
        go_wp2_with (at_builtin; refine wpList_append_own _ rfl (.tmp 43) (.tmp 45) 32 rfl w.heap.size 3 i0 (.int .i64 0) 1 8 Tryz.underlying32 HI0.out HZ0.out HZ1.out HZ2.out rfl (by decide) _ _ _ rfl (by exact World.ownsRow.alloc HOW.out _) ⟨wr.heap.size, 0, none⟩ 1 1 [.int .i64 x] rfl rfl (by exact cell_one_at rfl) (by simp [Value.oneCell']) (by unfold maxLen; omega) (by omega) (by simp; omega) ?_; intro v2 w2 hown2 hg2 _)
        have hB2 : Below w.heap.size w w2 := (Kept.alloc hB (Obj.cells #[Value.int IntKind.i64 x] 3)).grown hg2 (by simp; omega) (fun q e => (World.ownsRow.lt HOW.out q e).1)
        have hown3 : OwnI w2 w.heap.size v2 (placeL x l) := by rw [HPL.out]; simpa [OwnI] using hown2
        obtain ⟨A3, c3, rfl, hle3, hI3⟩ := OwnI.sl hown3
        go_ret
        exact ⟨A3, _, c3, rfl, hle3, hI3, hB2⟩
      · have hpl : placeL x l = out := by
          have h2 := HOUT.out
          rw [hfull] at h2
          simpa using h2.symm
        have hown3 : OwnI wr w.heap.size u5 (placeL x l) := by rw [hpl]; exact HOW.out
        clear hpl
        obtain ⟨A3, c3, rfl, hle3, hI3⟩ := OwnI.sl hown3
        go_wp2
        go_ret
        exact ⟨A3, _, c3, rfl, hle3, hI3, hB⟩
end Go.Proofs.YtmlcdohldkgcdaaGreatDoor
namespace Go.Proofs.YtmlcdohldkgcdaaGreatDoor
open Go Go.RowKit
set_option maxRecDepth 100000 in
set_option maxHeartbeats 2000000 in
theorem r02Cuts (A : Option Addr) (n c : Nat) (l : List Int) (B : Option Addr) (m d : Nat) (rs : List Rng) (w : World) (hn : n ≤ 10000) (hm : m ≤ 10000) (hl : Ints w A n l) (hr : Rngs w B m rs) :
    Calls Tryz.prog 223 #[.slice A n c, .agg #[.slice B m d]] w (RetInts w (cutsL l rs)) := by
  have HL := Lib.hid hl
  have HLN := Lib.hid hl.1
  have HR := Lib.hid hr
  have HRN := Lib.hid hr.1
  clear hl hr
  go_enter Tryz.func223, Tryz.ntmps223
  go_wp2
  have hk0 := Kept.alloc (Kept.refl w) (Obj.cells #[Value.slice B m d] 26)
  have x0 := box_cell w #[Value.slice B m d] 26 0
  obtain ⟨bx, hbx⟩ : ∃ bx : Nat, bx = w.heap.size := ⟨_, rfl⟩
  generalize w.alloc (Obj.cells #[Value.slice B m d] 26) = W1 at *
  rw [← hbx] at x0 ⊢
  clear hbx
  have HX := Lib.hid x0
  clear x0
  go_loopw [0, 5] (fun p i wr => ∃ (k : Nat) (A' : Option Addr) (n' c' : Nat), k ≤ m ∧ i = .int .i64 k ∧ p = .slice A' n' c' ∧ Ints wr A' n' ((rs.take k).foldl cutStep l) ∧ Below W1.heap.size W1 wr) (fun _ i _ => m - (intOf i).toNat)
  case atStart => exact ⟨0, A, n, c, Nat.zero_le _, rfl, rfl, by simpa using HL.out.kept hk0, Below.refl _ _⟩
  case round =>
    obtain ⟨k, A', n', c', hk, rfl, rfl, hI, hB⟩ := hrel
    have hn' : n' ≤ 50000 := by
      rw [hI.1]
      have h1 := foldl_cutStep_length (rs.take k) l
      have h2 : (rs.take k).length ≤ k := List.length_take_le _ _
      have h3 := HLN.out
      omega
    have HI := Lib.hid hI
    have x0 := Kept.cell hB HX.out
    clear hI
    by_cases hlt : k < m
    · obtain ⟨b, off, r, rfl, hr, c0, c1⟩ := rng_at ((HR.out.kept hk0).kept hB) hlt
      have hfold : (rs.take (k + 1)).foldl cutStep l = cutStep ((rs.take k).foldl cutStep l) r := by rw [take_succ_some hr, List.foldl_append]; rfl
      have HF := Lib.hid hfold
      clear hr hfold
      generalize (rs.take k).foldl cutStep l = cur at *
      have g1 : (k : Int) < (m : Int) := by omega
      have hbl := cell_lt c0
      go_wp2
      go_quiet (fail)
      clear x0 c0 c1
      cases hv : validB r.lo
      · have e1 : (if validB r.lo then placeL r.lo cur else cur) = cur := by rw [hv]; rfl
        by_cases h2 : 0 ≤ r.hi
        · by_cases h3 : r.hi < 1114111
          · have hst : cutStep cur r = placeL (r.hi + 1) cur := by unfold cutStep; rw [e1]; exact if_pos ⟨h2, h3⟩
            have HST := Lib.hid (HF.out.trans hst)
            clear e1 hst
            go_wp2_with (first
              | (go_at_call 104; refine (rvalid_any _ _).mono ?_; rintro e w' ⟨rfl, rfl⟩)
              | (go_at_call 225; refine (r02place _ _ _ cur _ _ (by omega) (by exact HI.out)).mono ?_; rintro e w' ⟨A2, n2, c2, rfl, hle2, hI2, hk2⟩))
            go_roundw
            case rel => exact ⟨k + 1, A2, n2, c2, by omega, by go_num, rfl, by rw [HST.out]; exact hI2, Kept.trans (Kept.drewN hB _) hk2⟩
            case measure => simp [intOf]; omega
          · have hst : cutStep cur r = cur := by unfold cutStep; rw [e1]; exact if_neg (by omega)
            have HST := Lib.hid (HF.out.trans hst)
            clear e1 hst
            go_wp2_with (go_at_call 104; refine (rvalid_any _ _).mono ?_; rintro e w' ⟨rfl, rfl⟩)
            go_roundw
            case rel => exact ⟨k + 1, A', n', c', by omega, by go_num, rfl, by rw [HST.out]; exact HI.out, Kept.drewN hB _⟩
            case measure => simp [intOf]; omega
        · have hst : cutStep cur r = cur := by unfold cutStep; rw [e1]; exact if_neg (by omega)
          have HST := Lib.hid (HF.out.trans hst)
          clear e1 hst
          go_wp2_with (go_at_call 104; refine (rvalid_any _ _).mono ?_; rintro e w' ⟨rfl, rfl⟩)
          go_roundw
          case rel => exact ⟨k + 1, A', n', c', by omega, by go_num, rfl, by rw [HST.out]; exact HI.out, Kept.drewN hB _⟩
          case measure => simp [intOf]; omega
      · have e1 : (if validB r.lo then placeL r.lo cur else cur) = placeL r.lo cur := by rw [hv]; rfl
        have HE1 := Lib.hid e1
        clear e1
        go_wp2_with fail
        refine (rvalid_any _ _).mono ?_
        rintro e w' ⟨rfl, rfl⟩
        rw [hv]
        go_wp2_with fail
        refine (r02place _ _ _ cur _ _ (by omega) (by exact HI.out)).mono ?_
        rintro e w2 ⟨A2, n2, c2, rfl, hle2, hI2, hk2⟩
        have hn2 : n2 ≤ 60000 := by
          rw [hI2.1]
          have h1 := placeL_length r.lo cur
          have h2 := HI.out.1
          omega
        have HI2 := Lib.hid hI2
        clear hI2
        by_cases h2 : 0 ≤ r.hi
        · by_cases h3 : r.hi < 1114111
          · have hst : cutStep cur r = placeL (r.hi + 1) (placeL r.lo cur) := by unfold cutStep; rw [HE1.out]; exact if_pos ⟨h2, h3⟩
            have HST := Lib.hid (HF.out.trans hst)
            clear hst
            go_wp2_with fail
            refine (r02place _ _ _ (placeL r.lo cur) _ _ (by omega) (by exact HI2.out)).mono ?_
            rintro e w3 ⟨A3, n3, c3, rfl, hle3, hI3, hk3⟩
            have HI3 := Lib.hid hI3
            clear hI3
            go_wp2_with fail
            go_roundw
            case rel => exact ⟨k + 1, A3, n3, c3, by omega, by go_num, rfl, by rw [HST.out]; exact HI3.out, Kept.trans (Kept.trans (Kept.drewN hB _) hk2) hk3⟩
            case measure => simp [intOf]; omega
          · have hst : cutStep cur r = placeL r.lo cur := by unfold cutStep; rw [HE1.out]; exact if_neg (by omega)
            have HST := Lib.hid (HF.out.trans hst)
            clear hst
            go_wp2_with fail
            go_roundw
            case rel => exact ⟨k + 1, A2, n2, c2, by omega, by go_num, rfl, by rw [HST.out]; exact HI2.out, Kept.trans (Kept.drewN hB _) hk2⟩
            case measure => simp [intOf]; omega
        · have hst : cutStep cur r = placeL r.lo cur := by unfold cutStep; rw [HE1.out]; exact if_neg (by omega)
          have HST := Lib.hid (HF.out.trans hst)
          clear hst
          go_wp2_with fail
          go_roundw
          case rel => exact ⟨k + 1, A2, n2, c2, by omega, by go_num, rfl, by rw [HST.out]; exact HI2.out, Kept.trans (Kept.drewN hB _) hk2⟩
          case measure => simp [intOf]; omega
    · have hfull : rs.take k = rs := List.take_of_length_le (by have := HRN.out; omega)
      have hI := HI.out
      rw [hfull] at hI
      have HI2 := Lib.hid hI
      clear hI
      go_wp2_with fail
      refine (r02place _ _ _ (rs.foldl cutStep l) _ _ (by omega) (by exact HI2.out)).mono ?_
      rintro e w2 ⟨A2, n2, c2, rfl, hle2, hI2, hk2⟩
      have HI3 := Lib.hid hI2
      clear hI2
      go_wp2_with fail
      go_ret
      exact ⟨A2, n2, c2, rfl, hle2, HI3.out, Kept.trans hk0 (Kept.trans hB hk2)⟩
set_option maxRecDepth 100000 in
set_option maxHeartbeats 1000000 in
theorem r02Same (A B : Option Addr) (n m c d : Nat) (a b : List Rng) (w : World) (hn : n ≤ 100000) (hm : m ≤ 100000) (ha : Rngs w A n a) (hb : Rngs w B m b) :
    Calls Tryz.prog 215 #[.agg #[.slice A n c], .agg #[.slice B m d]] w (RetB w (decide (a = b))) := by
  have HA := Lib.hid ha
  have HAN := Lib.hid ha.1
  have HB := Lib.hid hb
  have HBN := Lib.hid hb.1
  clear ha hb
  by_cases hnn : n = m
  · subst hnn
    go_enter Tryz.func215, Tryz.ntmps215
    go_wp2
    have hk0 := Kept.alloc (Kept.alloc (Kept.refl w) (Obj.cells #[Value.slice A n c] 26)) (Obj.cells #[Value.slice B n d] 26)
    have x0 := (Kept.alloc (Kept.refl _) (Obj.cells #[Value.slice B n d] 26)).cell (box_cell w #[Value.slice A n c] 26 0)
    have x1 := box_cell (w.alloc (Obj.cells #[Value.slice A n c] 26)) #[Value.slice B n d] 26 0
    rw [World.size_alloc] at x1
    obtain ⟨bx, hbx⟩ : ∃ bx : Nat, bx = w.heap.size := ⟨_, rfl⟩
    generalize (w.alloc (Obj.cells #[Value.slice A n c] 26)).alloc (Obj.cells #[Value.slice B n d] 26) = W1 at *
    rw [← hbx] at x0 x1 ⊢
    clear hbx
    obtain ⟨by_, hby⟩ : ∃ by_ : Nat, by_ = bx + 1 := ⟨_, rfl⟩
    rw [← hby] at x1 ⊢
    clear hby
    have HX0 := Lib.hid x0
    have HX1 := Lib.hid x1
    clear x0 x1
    go_loopw [5] (fun i wr => ∃ k : Nat, k ≤ n ∧ i = .int .i64 k ∧ a.take k = b.take k ∧ Below W1.heap.size W1 wr) (fun i _ => n - (intOf i).toNat)
    case atStart => exact ⟨0, Nat.zero_le _, rfl, by simp, Below.refl _ _⟩
    case round =>
      obtain ⟨k, hk, rfl, hsame, hBl⟩ := hrel
      have HSA := Lib.hid hsame
      clear hsame
      have x0 := Kept.cell hBl HX0.out
      have x1 := Kept.cell hBl HX1.out
      by_cases hlt : k < n
      · obtain ⟨b1, off1, r, rfl, hr, c0, c1⟩ := rng_at ((HA.out.kept hk0).kept hBl) hlt
        obtain ⟨b2, off2, s, rfl, hs, d0, d1⟩ := rng_at ((HB.out.kept hk0).kept hBl) hlt
        have HR := Lib.hid hr
        have HS := Lib.hid hs
        have hneq := rng_neq r s
        clear hr hs
        have g1 : (k : Int) < (n : Int) := by omega
        cases hd : decide (r = s)
        · have hne : ¬ r = s := of_decide_eq_false hd
          rw [hd] at hneq
          have HNE := Lib.hid hne
          clear hd hne
          go_wp2_with fail
          go_quiet (fail)
          go_wp2_with fail
          go_ret
          refine ⟨ret_bool ?_, Kept.drewN (Kept.trans hk0 hBl) _⟩
          refine (decide_eq_false (fun e => HNE.out ?_)).symm
          have h1 := HR.out
          rw [e, HS.out] at h1
          injection h1 with h1
          exact h1.symm
        · have hne : r = s := of_decide_eq_true hd
          rw [hd] at hneq
          have HNE := Lib.hid hne
          clear hd hne
          go_wp2_with fail
          go_quiet (fail)
          go_wp2_with fail
          go_roundw
          case rel => exact ⟨k + 1, by omega, by go_num, take_eq_snoc HSA.out HR.out HS.out HNE.out, Kept.drewN hBl _⟩
          case measure => simp [intOf]; omega
      · go_wp2_with fail
        go_ret
        refine ⟨ret_bool (decide_eq_true ?_).symm, Kept.trans hk0 hBl⟩
        have := HSA.out
        rwa [List.take_of_length_le (by have := HAN.out; omega), List.take_of_length_le (by have := HBN.out; omega)] at this
  · have hne : ((n : Int) != (m : Int)) = true := by rw [bne_iff_ne]; omega
    go_enter Tryz.func215, Tryz.ntmps215
    go_wp2
    go_ret
    refine ⟨ret_bool (decide_eq_false (fun e => hnn ?_)).symm, Kept.alloc (Kept.alloc (Kept.refl w) _) _⟩
    have h1 := HAN.out
    have h2 := HBN.out
    rw [e] at h1
    omega
end Go.Proofs.YtmlcdohldkgcdaaGreatDoor
namespace Go.Proofs.YtmlcdohldkgcdaaGreatDoor
open Go Go.RowKit
theorem setLast_snoc (os : List Rng) (q : Rng) (h : Int) : setLast (os ++ [q]) h = os ++ [(⟨q.lo, h⟩ : Rng)] := by
  simp [setLast]
theorem rngs_setSet {w : World} {A : Option Addr} {n b : Nat} {l : List Rng} {v : Value} {t : TypeId} (h : Rngs w A n l) (hb : w.heap[b]? = some (.cells #[.slice none 0 0] t (0, 0))) : Rngs (w.setCell ⟨b, 0, none⟩ v) A n l := by
  refine ⟨h.1, fun hpos => ?_⟩
  obtain ⟨bb, off, e, hcs⟩ := h.2 hpos
  refine ⟨bb, off, e, fun i x hx j u hu => ?_⟩
  have h1 := hcs i x hx j u hu
  refine (World.cell?_setCell_other _ _ _ _ (fun ea => ?_)).trans h1
  have eb : b = bb := by injection ea
  subst eb
  unfold World.cell? at h1
  simp only [hb] at h1
  have : (#[Value.slice none 0 0] : Array Value)[off + i * 2 + j]? = some u := by simpa using h1
  have hlt0 := (Array.getElem?_eq_some_iff.1 this).1
  have h0 : off + i * 2 + j = 0 := by simpa using hlt0
  rw [h0] at this
  have hu2 : u = .slice none 0 0 := by simpa using this.symm
  rw [hu2] at hu
  have := List.mem_of_getElem? hu
  simp [encR] at this
theorem below_drew {B : Nat} {w w' : World} (h : Below B w w') : Below B w w'.drew := ⟨h.os, h.tape, h.output, h.size, h.block⟩
theorem OwnR.kept {w w' : World} {base : Nat} {v : Value} {xs : List Rng} (h : OwnR w base v xs) (hk : Kept w w') : OwnR w' base v xs := by
  refine ⟨h.1, ?_⟩
  rcases h.2 with h0 | ⟨g, cap, cur, rfl, hg, hgg, rest⟩
  · exact .inl h0
  · exact .inr ⟨g, cap, cur, rfl, hg, (hk.block g (block_lt hgg)).trans hgg, rest⟩
set_option maxRecDepth 100000 in
set_option maxHeartbeats 4000000 in
theorem r02combine (o : Int) (kp : Bool → Bool → Bool) (hkp : ∀ (x y : Bool) (w : World), Calls Tryz.prog 224 #[.int .i64 o, .bool x, .bool y] w fun e w' => e = .returned (.bool (kp x y)) ∧ w = w')
    (A : Option Addr) (n c : Nat) (a : List Rng) (B : Option Addr) (m d : Nat) (b : List Rng) (w : World) (hn : n ≤ 4000) (hm : m ≤ 4000) (ha : Rngs w A n a) (hb : Rngs w B m b) :
    Calls Tryz.prog 222 #[.agg #[.slice A n c], .agg #[.slice B m d], .int .i64 o] w (RetSet w (combineR a b kp)) := by
  have HKP := Lib.hid hkp
  have HA := Lib.hid ha
  have HAN := Lib.hid ha.1
  have HB := Lib.hid hb
  have HBN := Lib.hid hb.1
  clear ha hb hkp
  obtain ⟨i0, hi, hz0, hz1, hz2⟩ := info_parts info_rng
  have HI0 := Lib.hid hi
  have HZ0 := Lib.hid hz0
  have HZ1 := Lib.hid hz1
  have HZ2 := Lib.hid hz2
  clear hi hz0 hz1 hz2
  go_enter Tryz.func222, Tryz.ntmps222
  go_wp2_with fail
  have hk0 := Kept.alloc (Kept.alloc (Kept.alloc (Kept.refl w) (Obj.cells #[Value.slice A n c] 26)) (Obj.cells #[Value.slice B m d] 26)) (Obj.cells #[Value.slice none 0 0] 26)
  have x3 : (((w.alloc (Obj.cells #[Value.slice A n c] 26)).alloc (Obj.cells #[Value.slice B m d] 26)).alloc (Obj.cells #[Value.slice none 0 0] 26)).heap[w.heap.size]? = some (Obj.cells #[Value.slice A n c] 26 (0, 0)) := alloc_lift (alloc_lift (alloc_at rfl))
  have x4 : (((w.alloc (Obj.cells #[Value.slice A n c] 26)).alloc (Obj.cells #[Value.slice B m d] 26)).alloc (Obj.cells #[Value.slice none 0 0] 26)).heap[w.heap.size + 1]? = some (Obj.cells #[Value.slice B m d] 26 (0, 0)) := alloc_lift (alloc_at (by simp))
  have x6 : (((w.alloc (Obj.cells #[Value.slice A n c] 26)).alloc (Obj.cells #[Value.slice B m d] 26)).alloc (Obj.cells #[Value.slice none 0 0] 26)).heap[w.heap.size + 1 + 1]? = some (Obj.cells #[Value.slice none 0 0] 26 (0, 0)) := alloc_at (by simp)
  generalize ((w.alloc (Obj.cells #[Value.slice A n c] 26)).alloc (Obj.cells #[Value.slice B m d] 26)).alloc (Obj.cells #[Value.slice none 0 0] 26) = W0 at *
  obtain ⟨b3, hb3⟩ : ∃ b3 : Nat, b3 = w.heap.size := ⟨_, rfl⟩
  have hge : w.heap.size ≤ b3 := by omega
  rw [← hb3] at x3 x4 x6 ⊢
  clear hb3
  obtain ⟨b4, hb4⟩ : ∃ b4 : Nat, b4 = b3 + 1 := ⟨_, rfl⟩
  have hge4 : b3 < b4 := by omega
  rw [← hb4] at x4 x6 ⊢
  clear hb4
  obtain ⟨b6, hb6⟩ : ∃ b6 : Nat, b6 = b4 + 1 := ⟨_, rfl⟩
  have hge6 : b4 < b6 := by omega
  rw [← hb6] at x6 ⊢
  clear hb6
  have y3 : W0.drew.cell? ⟨b3, 0, none⟩ = some (.slice A n c) := cell_of_block (i := 0) x3 rfl
  have y4 : W0.drew.cell? ⟨b4, 0, none⟩ = some (.slice B m d) := cell_of_block (i := 0) x4 rfl
  have HK0 := Lib.hid (Kept.drew hk0)
  have HAK := Lib.hid (HA.out.kept HK0.out)
  have HC1 := Lib.hid (r02Cuts none 0 0 [] A n c a W0.drew (Nat.zero_le _) (by omega) Sl.nil HAK.out)
  have HX6 := Lib.hid x6
  have HY3 := Lib.hid y3
  have HY4 := Lib.hid y4
  clear x3 x4 x6 hk0 y3 y4
  have y3 : W0.cell? ⟨b3, 0, none⟩ = some (.slice A n c) := HY3.out
  have y4 : W0.cell? ⟨b4, 0, none⟩ = some (.slice B m d) := HY4.out
  go_region_held3 (fun w' => w'.cell? ⟨b3, 0, none⟩ = some (.slice A n c) ∧ w'.cell? ⟨b4, 0, none⟩ = some (.slice B m d)) (first | exact ⟨HY3.out, HY4.out⟩ | exact ⟨t3, t4⟩ | exact ⟨z3, z4⟩)
    (first
      | (go_at_call 223; refine (r02Cuts A1 n1 c1 (cutsL [] a) B m d b _ ?_ (by omega) ?_ ?_).mono ?_; (have h1 := cutsL_length [] a; have h2 := HI1.out.1; have h3 := HAN.out; simp at h1; omega); (exact HI1.out); (exact HB.out.kept (Kept.trans HK0.out hk1)); rintro e w2 ⟨A2, n2, c2, rfl, hle2, hI2, hk2⟩; have t3 := Kept.cell hk2 z3; have t4 := Kept.cell hk2 z4; have HI2 := Lib.hid hI2; clear hI2)
      | (go_at_call 223; refine HC1.out.mono ?_; rintro e w1 ⟨A1, n1, c1, rfl, hle1, hI1, hk1⟩; have z3 := Kept.cell hk1 HY3.out; have z4 := Kept.cell hk1 HY4.out; have HI1 := Lib.hid hI1; clear hI1))
  have HKW := Lib.hid (Kept.trans (Kept.trans HK0.out hk1) hk2)
  have h6 : w2.heap[b6]? = some (Obj.cells #[Value.slice none 0 0] 26 (0, 0)) := (hk2.block b6 (Nat.lt_of_lt_of_le (block_lt HX6.out) hk1.size)).trans ((hk1.block b6 (block_lt HX6.out)).trans HX6.out)
  have H6 := Lib.hid h6
  have HT3 := Lib.hid t3
  have HT4 := Lib.hid t4
  have hl2 : n2 ≤ 20000 := by
    have h1 := cutsL_length (cutsL [] a) b
    have h2 := cutsL_length [] a
    have h3 := HI2.out.1
    have h4 := HAN.out
    have h5 := HBN.out
    simp at h2
    omega
  have hcr : combineR a b kp = combL (fun x => kp (hasR a x) (hasR b x)) (cutsL (cutsL [] a) b) [] false := rfl
  have HCR := Lib.hid hcr
  have HIN := Lib.hid HI2.out.1
  rename_i hHeld
  clear hHeld h6 t3 t4 z3 z4 hk1 hk2 y3 y4 HY3 HY4 HX6 HI1 HC1 HAK HK0 hcr
  have hvc : ∀ x ∈ cutsL (cutsL [] a) b, 0 ≤ x ∧ x ≤ 1114111 := cutsL_valid (cutsL_valid (by simp))
  have HVC := Lib.hid hvc
  clear hvc
  generalize cutsL (cutsL [] a) b = cuts at *
  go_wp2_with fail
  have hbx : (w2.alloc (Obj.cells #[Value.slice none 0 0] 26)).heap[w2.heap.size]? = some (.cells #[.slice none 0 0] 26 (0, 0)) := heap_alloc_new _ _
  have hB0 : Below w2.heap.size w2 (w2.alloc (Obj.cells #[Value.slice none 0 0] 26)) := (Below.refl _ w2).alloc (Nat.le_refl _) _
  have HBX := Lib.hid hbx
  have h36 : b6 < w2.heap.size := block_lt H6.out
  clear hbx
  generalize w2.alloc (Obj.cells #[Value.slice none 0 0] 26) = W3 at *
  obtain ⟨b8, hb8⟩ : ∃ b8 : Nat, b8 = w2.heap.size := ⟨_, rfl⟩
  have HB8 := Lib.hid hb8
  rw [← hb8] at HBX hB0 h36 ⊢
  clear hb8
  go_loopw [9, 10] (fun p i wr => ∃ (k : Nat) (op : Bool) (out : List Rng) (v : Value), k ≤ n2 ∧ i = .int .i64 k ∧ p = .bool op ∧ combL (fun x => kp (hasR a x) (hasR b x)) (cuts.drop k) out op = combineR a b kp ∧ (op = true → out ≠ []) ∧ out.length ≤ k ∧ wr.heap[b8]? = some (.cells #[v] 26 (0, 0)) ∧ OwnR wr (b8 + 1) v out ∧ Below b8 w2 wr) (fun _ i _ => n2 - (intOf i).toNat)
  case atStart => exact ⟨0, false, [], .slice none 0 0, Nat.zero_le _, rfl, rfl, HCR.out.symm, (fun h => by cases h), by simp, HBX.out, (World.ownsRow_nil _ _ _ _ : OwnR W3 (b8 + 1) (.slice none 0 0) []), hB0⟩
  case round =>
    obtain ⟨k, op, out, v, hk, rfl, rfl, hcomb, hop, hol, hbv, hown, hB⟩ := hrel
    have HC := Lib.hid hcomb
    have HOP := Lib.hid hop
    have HV := Lib.hid hbv
    have HOW := Lib.hid hown
    clear hcomb hop hbv hown
    have hkw : Kept w2 wr := by have := hB; rw [HB8.out] at this; exact this
    have HKR := Lib.hid hkw
    have s3 := Kept.cell hkw HT3.out
    have s4 := Kept.cell hkw HT4.out
    have s8 := cell_of_block (i := 0) HV.out rfl
    have hsz : b8 + 1 ≤ wr.heap.size := block_lt HV.out
    clear hkw
    by_cases hlt : k < n2
    · obtain ⟨bc, oc, x, hA2, hx, cx⟩ := int_at (HI2.out.kept HKR.out) hlt
      subst hA2
      have hdr : cuts.drop k = x :: cuts.drop (k + 1) := drop_some hx
      have HDR := Lib.hid hdr
      have hcx0 : w2.cell? ⟨bc, oc + k, none⟩ = some (.int .i64 x) := by
        obtain ⟨b', o', x', e', h1', h2'⟩ := int_at HI2.out hlt
        obtain ⟨rfl, rfl⟩ : bc = b' ∧ oc = o' := by injection e' with e; injection e with e1 e2; exact ⟨e1, e2⟩
        rw [hx] at h1'; injection h1' with h1'; subst h1'; exact h2'
      have HCX0 := Lib.hid hcx0
      clear hcx0
      have HS3 := Lib.hid (show wr.drew.cell? ⟨b3, 0, none⟩ = some (.slice A n c) from s3)
      have HS4 := Lib.hid (show wr.drew.cell? ⟨b4, 0, none⟩ = some (.slice B m d) from s4)
      have HCX := Lib.hid (show wr.drew.cell? ⟨bc, oc + k, none⟩ = some (.int .i64 x) from cx)
      clear hdr hx
      by_cases hlt2 : k + 1 < n2
      · obtain ⟨bc', oc', y, hA2', hy, cy⟩ := int_at (HI2.out.kept HKR.out) hlt2
        obtain ⟨rfl, rfl⟩ : bc = bc' ∧ oc = oc' := by injection hA2' with e; injection e with e1 e2; exact ⟨e1, e2⟩
        have hhi : nextHi (cuts.drop (k + 1)) = y - 1 := by rw [drop_some hy]; rfl
        have hyv : 0 ≤ y ∧ y ≤ 1114111 := HVC.out y (mem_of_getElem?_some hy)
        obtain ⟨hy0, hy1⟩ := hyv
        have HHI := Lib.hid hhi
        clear hhi hy hA2'
        have hw1 : IntKind.i64.wrap ((k : Int) + 1) = (k : Int) + 1 := IntWalk.i64_in _ (by omega)
        have g1 : (k : Int) + 1 < (n2 : Int) := by omega
        have g2 : (k : Int) < (n2 : Int) := by omega
        go_wp2_with fail
        clear hw1
        generalize y - 1 = hi at *
        have HA1 := Lib.hid (HA.out.kept (Kept.drew (Kept.trans HKW.out HKR.out)))
        have HC1 := Lib.hid (r02Has A n c a x wr.drew (by omega) HA1.out)
        go_region_held3 (fun w' => w'.cell? ⟨b3, 0, none⟩ = some (.slice A n c) ∧ w'.cell? ⟨b4, 0, none⟩ = some (.slice B m d) ∧ w'.cell? ⟨bc, oc + k, none⟩ = some (.int .i64 x)) (first | exact ⟨p3, p4, p5⟩ | exact ⟨q3, q4, q5⟩ | exact ⟨HS3.out, HS4.out, HCX.out⟩)
          (first
            | (go_at_call 224; refine (HKP.out (hasR a x) (hasR b x) _).mono ?_; rintro e w6 ⟨rfl, rfl⟩)
            | (go_at_call 74; refine (r02Has B m d b x v4 (by omega) (HB.out.kept (Kept.trans (Kept.drew (Kept.trans HKW.out HKR.out)) hk4))).mono ?_; rintro e v5 ⟨rfl, hk5⟩; have p3 := Kept.cell hk5 q3; have p4 := Kept.cell hk5 q4; have p5 := Kept.cell hk5 q5)
            | (go_at_call 74; refine HC1.out.mono ?_; rintro e v4 ⟨rfl, hk4⟩; have q3 := Kept.cell hk4 HS3.out; have q4 := Kept.cell hk4 HS4.out; have q5 := Kept.cell hk4 HCX.out))
        rename_i hHeld
        have hk45 : Kept wr v5 := Kept.trans (Kept.trans (Kept.drew (Kept.refl wr)) hk4) hk5
        have HB5 := Lib.hid (Below.thenKept hB (by omega) hk45)
        have HV5 := Lib.hid ((hk45.block b8 (by omega)).trans HV.out)
        have HO5 := Lib.hid (OwnR.kept HOW.out hk45)
        have hs5 : b8 + 1 ≤ v5.heap.size := Nat.le_trans hsz hk45.size
        have hcm : combL (fun x => kp (hasR a x) (hasR b x)) (cuts.drop (k + 1)) (if kp (hasR a x) (hasR b x) && op then setLast out hi else if kp (hasR a x) (hasR b x) then out ++ [⟨x, hi⟩] else out) (kp (hasR a x) (hasR b x)) = combineR a b kp := by
          have := HC.out
          rw [HDR.out] at this
          simp only [combL, HHI.out] at this
          exact this
        have HCM := Lib.hid hcm
        clear hHeld p3 p4 q3 q4 q5 hk4 hk5 hk45 HA1 HC1 HS3 HS4 HCX s3 s4 s8 cx HV HOW hsz HC hcm hB
        have g3 : 0 ≤ (k : Int) := by omega
        obtain ⟨kv, hkv⟩ : ∃ kv : Bool, kv = kp (hasR a x) (hasR b x) := ⟨_, rfl⟩
        rw [← hkv] at HCM ⊢
        cases kv
        · simp only [Bool.false_and, Bool.false_eq_true, if_false] at HCM
          have HKV := Lib.hid hkv
          clear hkv
          go_wp2_with fail
          go_roundw
          case rel => exact ⟨k + 1, false, out, v, by omega, by go_num, rfl, HCM.out, (fun h => by cases h), by omega, HV5.out, HO5.out, HB5.out⟩
          case measure => simp [intOf]; omega
        · have HKV := Lib.hid hkv
          clear hkv
          cases op
          · simp only [Bool.true_and, Bool.false_eq_true, if_false, if_true] at HCM
            obtain ⟨Ao, co, rfl⟩ := OwnR.form HO5.out
            have hblk := HO5.out.lt
            have hnb8 : some b8 ≠ (Value.slice Ao out.length co).ownBlock := fun e => by have := (hblk b8 e.symm).1; omega
            have hbc8 : bc < b8 := by have := cell_lt HCX0.out; simpa [HB8.out] using this
            have hnbc : some bc ≠ (Value.slice Ao out.length co).ownBlock := fun e => by have := (hblk bc e.symm).1; omega
            clear hblk
            have s8 := cell_of_block (i := 0) HV5.out rfl
            have e3 := frozen_of_block (i := 0) HV5.out
            simp only [s4_, s5_] at s8
            have c5 : v5.cell? ⟨bc, oc + k, none⟩ = some (.int .i64 x) := p5
            clear p5
            go_wp2_with fail
            have HC5 := Lib.hid c5
            have HS8 := Lib.hid s8
            have a8 : (v5.alloc (Obj.cells #[Value.int IntKind.i64 x, Value.int IntKind.i64 hi] 48)).cell? ⟨b8, 0, none⟩ = some (.slice Ao out.length co) := Kept.cell (Kept.alloc (Kept.refl v5) _) HS8.out
            go_region_law (refine step_append_lies _ (by rfl) (.tmp 67) (.tmp 74) 24 (by rfl) (b8 + 1) 48 i0 (.agg #[.int .i64 0, .int .i64 0]) 2 16 Tryz.underlying24 HI0.out HZ0.out HZ1.out HZ2.out rfl (by omega) (.slice Ao out.length co) out.length (out.flatMap encR) (by rfl) ((HO5.out.alloc _).drew) ⟨v5.heap.size, 0, none⟩ 1 1 [.int .i64 x, .int .i64 hi] (by rfl) (by rfl) (World.news_of_block (cs := #[.int .i64 x, .int .i64 hi]) (t := 48) (fr := (0, 0)) (heap_alloc_new v5 _)) (by simp [Value.oneCell']) (by omega) (by unfold maxLen; omega) (by omega) (by simp; omega) (v5.heap.size + 1) (by simp) ?_;intro gg cap w7 hown7 hgrow hat hlt7; have e7 := (hgrow.cell_far ⟨b8, 0, none⟩ (by simp; omega) hnb8).trans (Kept.cell (Kept.alloc (Kept.drew (Kept.refl v5)) _) HS8.out); have f7 := (hgrow.frozen_far ⟨b8, 0, none⟩ (by simp; omega) hnb8).trans (frozen_of_block (i := 0) (alloc_lift (W := v5) HV5.out)))
            all_goals
              have hv7 : w7.heap[b8]? = some (.cells #[.slice Ao out.length co] 26 (0, 0)) := (hgrow.block b8 (by simp; omega) hnb8).trans (alloc_lift (W := v5) HV5.out)
              have HV8 := Lib.hid (heap_setCell_one (v := .slice (some ⟨gg, 0, none⟩) (out.length + 1) cap) hv7)
              have HO8 := Lib.hid (ownsRow_setCell_below hown7 (a := ⟨b8, 0, none⟩) (by simp) (.slice (some ⟨gg, 0, none⟩) (out.length + 1) cap))
              have HB8' := Lib.hid (Below.setCell ((below_drew (HB5.out.alloc (by omega) (Obj.cells #[Value.int IntKind.i64 x, Value.int IntKind.i64 hi] 48))).grown hgrow (by simp; omega) (fun q e => by have := (HO5.out.lt q e).1; omega)) (p := ⟨b8, 0, none⟩) (Nat.le_refl _) (.slice (some ⟨gg, 0, none⟩) (out.length + 1) cap))
              clear hv7 hown7 hgrow hat e7 f7 a8 s8 c5 e3
              go_wp2_with fail
              go_roundw
              case rel => exact ⟨k + 1, true, out ++ [⟨x, hi⟩], _, by omega, by go_num, rfl, HCM.out, (fun _ => by simp), by simp; omega, HV8.out, by simpa [OwnR, encR] using HO8.out, HB8'.out⟩
              case measure => simp [intOf]; omega
          · simp only [Bool.true_and, if_true] at HCM
            clear p5
            rcases nil_or_snoc out with rfl | ⟨os, q, rfl⟩
            · exact absurd rfl (HOP.out rfl)
            · rw [setLast_snoc] at HCM
              have hown' := HO5.out
              simp only [OwnR, List.length_append, List.length_singleton] at hown'
              obtain ⟨g, co, rfl⟩ := ownsRow_succ_ hown'
              have s8 := cell_of_block (i := 0) HV5.out rfl
              simp only [s4_, s5_] at s8
              have d1 : v5.cell? ⟨g, os.length * 2 + 1, none⟩ = some (.int .i64 q.hi) := by
                rw [hown'.cellAt _ (by omega)]
                exact flat_get (k := 2) (f := encR) (fun _ => rfl) _ os.length 1 q _ (by simp) rfl
              have d2 := hown'.frozenAt (os.length * 2 + 1)
              have hgb : b8 + 1 ≤ g := (hown'.lt g rfl).1
              have hol3 : os.length ≤ 20000 := by simp at hol; omega
              have hol4 : os.length + 1 ≤ k := by simpa using hol
              have HO6 := Lib.hid hown'
              clear hown' HO5
              have hw2 : IntKind.i64.wrap (os.length : Int) = (os.length : Int) := IntWalk.i64_in _ (by omega)
              go_wp2_with fail
              have hst := HO6.out.stored (os.length * 2 + 1) (.int .i64 hi)
              rw [flat_set] at hst
              go_roundw
              case rel =>
                refine ⟨k + 1, true, os ++ [(⟨q.lo, hi⟩ : Rng)], Value.slice (some ⟨g, 0, none⟩) (os.length + 1) co, by omega, by go_num, rfl, HCM.out, (fun _ => by simp), by simp; omega, ?_, ?_, ?_⟩
                · exact (Below.heap_setCell _ _ _ _ (by simp; omega)).trans HV5.out
                · simp only [OwnR, List.length_append, List.length_singleton]
                  exact hst.1
                · exact Below.setCell HB5.out (by simp; omega) _
              case measure => simp [intOf]; omega
      · have hhi : nextHi (cuts.drop (k + 1)) = 1114111 := by rw [List.drop_eq_nil_of_le (by have := HIN.out; omega)]; rfl
        have HHI := Lib.hid hhi
        clear hhi
        have g2 : (k : Int) < (n2 : Int) := by omega
        go_wp2_with fail
        obtain ⟨hi, hhi⟩ : ∃ hi : Int, hi = 1114111 := ⟨_, rfl⟩
        rw [← hhi] at HHI
        rw [← hhi]
        clear hhi
        have HA1 := Lib.hid (HA.out.kept (Kept.drew (Kept.trans HKW.out HKR.out)))
        have HC1 := Lib.hid (r02Has A n c a x wr.drew (by omega) HA1.out)
        go_region_held3 (fun w' => w'.cell? ⟨b3, 0, none⟩ = some (.slice A n c) ∧ w'.cell? ⟨b4, 0, none⟩ = some (.slice B m d) ∧ w'.cell? ⟨bc, oc + k, none⟩ = some (.int .i64 x)) (first | exact ⟨p3, p4, p5⟩ | exact ⟨q3, q4, q5⟩ | exact ⟨HS3.out, HS4.out, HCX.out⟩)
          (first
            | (go_at_call 224; refine (HKP.out (hasR a x) (hasR b x) _).mono ?_; rintro e w6 ⟨rfl, rfl⟩)
            | (go_at_call 74; refine (r02Has B m d b x v4 (by omega) (HB.out.kept (Kept.trans (Kept.drew (Kept.trans HKW.out HKR.out)) hk4))).mono ?_; rintro e v5 ⟨rfl, hk5⟩; have p3 := Kept.cell hk5 q3; have p4 := Kept.cell hk5 q4; have p5 := Kept.cell hk5 q5)
            | (go_at_call 74; refine HC1.out.mono ?_; rintro e v4 ⟨rfl, hk4⟩; have q3 := Kept.cell hk4 HS3.out; have q4 := Kept.cell hk4 HS4.out; have q5 := Kept.cell hk4 HCX.out))
        rename_i hHeld
        have hk45 : Kept wr v5 := Kept.trans (Kept.trans (Kept.drew (Kept.refl wr)) hk4) hk5
        have HB5 := Lib.hid (Below.thenKept hB (by omega) hk45)
        have HV5 := Lib.hid ((hk45.block b8 (by omega)).trans HV.out)
        have HO5 := Lib.hid (OwnR.kept HOW.out hk45)
        have hs5 : b8 + 1 ≤ v5.heap.size := Nat.le_trans hsz hk45.size
        have hcm : combL (fun x => kp (hasR a x) (hasR b x)) (cuts.drop (k + 1)) (if kp (hasR a x) (hasR b x) && op then setLast out hi else if kp (hasR a x) (hasR b x) then out ++ [⟨x, hi⟩] else out) (kp (hasR a x) (hasR b x)) = combineR a b kp := by
          have := HC.out
          rw [HDR.out] at this
          simp only [combL, HHI.out] at this
          exact this
        have HCM := Lib.hid hcm
        clear hHeld p3 p4 q3 q4 q5 hk4 hk5 hk45 HA1 HC1 HS3 HS4 HCX s3 s4 s8 cx HV HOW hsz HC hcm hB
        have g3 : 0 ≤ (k : Int) := by omega
        obtain ⟨kv, hkv⟩ : ∃ kv : Bool, kv = kp (hasR a x) (hasR b x) := ⟨_, rfl⟩
        rw [← hkv] at HCM ⊢
        cases kv
        · simp only [Bool.false_and, Bool.false_eq_true, if_false] at HCM
          have HKV := Lib.hid hkv
          clear hkv
          go_wp2_with fail
          go_roundw
          case rel => exact ⟨k + 1, false, out, v, by omega, by go_num, rfl, HCM.out, (fun h => by cases h), by omega, HV5.out, HO5.out, HB5.out⟩
          case measure => simp [intOf]; omega
        · have HKV := Lib.hid hkv
          clear hkv
          cases op
          · simp only [Bool.true_and, Bool.false_eq_true, if_false, if_true] at HCM
            obtain ⟨Ao, co, rfl⟩ := OwnR.form HO5.out
            have hblk := HO5.out.lt
            have hnb8 : some b8 ≠ (Value.slice Ao out.length co).ownBlock := fun e => by have := (hblk b8 e.symm).1; omega
            have hbc8 : bc < b8 := by have := cell_lt HCX0.out; simpa [HB8.out] using this
            have hnbc : some bc ≠ (Value.slice Ao out.length co).ownBlock := fun e => by have := (hblk bc e.symm).1; omega
            clear hblk
            have s8 := cell_of_block (i := 0) HV5.out rfl
            have e3 := frozen_of_block (i := 0) HV5.out
            simp only [s4_, s5_] at s8
            have c5 : v5.cell? ⟨bc, oc + k, none⟩ = some (.int .i64 x) := p5
            clear p5
            go_wp2_with fail
            have HC5 := Lib.hid c5
            have HS8 := Lib.hid s8
            have a8 : (v5.alloc (Obj.cells #[Value.int IntKind.i64 x, Value.int IntKind.i64 hi] 48)).cell? ⟨b8, 0, none⟩ = some (.slice Ao out.length co) := Kept.cell (Kept.alloc (Kept.refl v5) _) HS8.out
            go_region_law (refine step_append_lies _ (by rfl) (.tmp 67) (.tmp 74) 24 (by rfl) (b8 + 1) 48 i0 (.agg #[.int .i64 0, .int .i64 0]) 2 16 Tryz.underlying24 HI0.out HZ0.out HZ1.out HZ2.out rfl (by omega) (.slice Ao out.length co) out.length (out.flatMap encR) (by rfl) ((HO5.out.alloc _).drew) ⟨v5.heap.size, 0, none⟩ 1 1 [.int .i64 x, .int .i64 hi] (by rfl) (by rfl) (World.news_of_block (cs := #[.int .i64 x, .int .i64 hi]) (t := 48) (fr := (0, 0)) (heap_alloc_new v5 _)) (by simp [Value.oneCell']) (by omega) (by unfold maxLen; omega) (by omega) (by simp; omega) (v5.heap.size + 1) (by simp) ?_;intro gg cap w7 hown7 hgrow hat hlt7; have e7 := (hgrow.cell_far ⟨b8, 0, none⟩ (by simp; omega) hnb8).trans (Kept.cell (Kept.alloc (Kept.drew (Kept.refl v5)) _) HS8.out); have f7 := (hgrow.frozen_far ⟨b8, 0, none⟩ (by simp; omega) hnb8).trans (frozen_of_block (i := 0) (alloc_lift (W := v5) HV5.out)))
            all_goals
              have hv7 : w7.heap[b8]? = some (.cells #[.slice Ao out.length co] 26 (0, 0)) := (hgrow.block b8 (by simp; omega) hnb8).trans (alloc_lift (W := v5) HV5.out)
              have HV8 := Lib.hid (heap_setCell_one (v := .slice (some ⟨gg, 0, none⟩) (out.length + 1) cap) hv7)
              have HO8 := Lib.hid (ownsRow_setCell_below hown7 (a := ⟨b8, 0, none⟩) (by simp) (.slice (some ⟨gg, 0, none⟩) (out.length + 1) cap))
              have HB8' := Lib.hid (Below.setCell ((below_drew (HB5.out.alloc (by omega) (Obj.cells #[Value.int IntKind.i64 x, Value.int IntKind.i64 hi] 48))).grown hgrow (by simp; omega) (fun q e => by have := (HO5.out.lt q e).1; omega)) (p := ⟨b8, 0, none⟩) (Nat.le_refl _) (.slice (some ⟨gg, 0, none⟩) (out.length + 1) cap))
              clear hv7 hown7 hgrow hat e7 f7 a8 s8 c5 e3
              go_wp2_with fail
              go_roundw
              case rel => exact ⟨k + 1, true, out ++ [⟨x, hi⟩], _, by omega, by go_num, rfl, HCM.out, (fun _ => by simp), by simp; omega, HV8.out, by simpa [OwnR, encR] using HO8.out, HB8'.out⟩
              case measure => simp [intOf]; omega
          · simp only [Bool.true_and, if_true] at HCM
            clear p5
            rcases nil_or_snoc out with rfl | ⟨os, q, rfl⟩
            · exact absurd rfl (HOP.out rfl)
            · rw [setLast_snoc] at HCM
              have hown' := HO5.out
              simp only [OwnR, List.length_append, List.length_singleton] at hown'
              obtain ⟨g, co, rfl⟩ := ownsRow_succ_ hown'
              have s8 := cell_of_block (i := 0) HV5.out rfl
              simp only [s4_, s5_] at s8
              have d1 : v5.cell? ⟨g, os.length * 2 + 1, none⟩ = some (.int .i64 q.hi) := by
                rw [hown'.cellAt _ (by omega)]
                exact flat_get (k := 2) (f := encR) (fun _ => rfl) _ os.length 1 q _ (by simp) rfl
              have d2 := hown'.frozenAt (os.length * 2 + 1)
              have hgb : b8 + 1 ≤ g := (hown'.lt g rfl).1
              have hol3 : os.length ≤ 20000 := by simp at hol; omega
              have hol4 : os.length + 1 ≤ k := by simpa using hol
              have HO6 := Lib.hid hown'
              clear hown' HO5
              have hw2 : IntKind.i64.wrap (os.length : Int) = (os.length : Int) := IntWalk.i64_in _ (by omega)
              go_wp2_with fail
              have hst := HO6.out.stored (os.length * 2 + 1) (.int .i64 hi)
              rw [flat_set] at hst
              go_roundw
              case rel =>
                refine ⟨k + 1, true, os ++ [(⟨q.lo, hi⟩ : Rng)], Value.slice (some ⟨g, 0, none⟩) (os.length + 1) co, by omega, by go_num, rfl, HCM.out, (fun _ => by simp), by simp; omega, ?_, ?_, ?_⟩
                · exact (Below.heap_setCell _ _ _ _ (by simp; omega)).trans HV5.out
                · simp only [OwnR, List.length_append, List.length_singleton]
                  exact hst.1
                · exact Below.setCell HB5.out (by simp; omega) _
              case measure => simp [intOf]; omega
    · have hdr : cuts.drop k = [] := List.drop_eq_nil_of_le (by have := HIN.out; omega)
      have hfin : out = combineR a b kp := by have := HC.out; rw [hdr] at this; exact this
      subst hfin
      obtain ⟨A4, c4, rfl, hle4, hS4⟩ := Sl.of_own (k := 2) (enc := encR) (fun _ => rfl) HOW.out
      have e1 : wr.heap[b6]? = some (.cells #[.slice none 0 0] 26 (0, 0)) := (hB.block b6 h36).trans H6.out
      have e2 := cell_of_block (i := 0) e1 rfl
      have e3 := frozen_of_block (i := 0) e1
      have HS4 := Lib.hid hS4
      have HE1 := Lib.hid e1
      simp only [s4_, s5_] at s8 e2
      clear hS4 e1 hdr s3 s4
      go_wp2_with fail
      have e4 : (wr.setCell ⟨b6, 0, none⟩ (.slice A4 (combineR a b kp).length c4)).cell? ⟨b6, 0, none⟩ = some (.slice A4 (combineR a b kp).length c4) := cell_of_block (i := 0) (heap_setCell_one HE1.out) rfl
      clear e2 e3
      refine bodyPost_ret (v := .agg #[.slice A4 (combineR a b kp).length c4]) (by simp [results, Tryz.results222, go_sem, e4]) rfl ⟨A4, _, c4, rfl, hle4, ?_, ?_⟩
      · exact rngs_setSet HS4.out HE1.out
      · exact Kept.setCell (Kept.trans HKW.out HKR.out) (by simp; omega) _
end Go.Proofs.YtmlcdohldkgcdaaGreatDoor
namespace Go.Proofs.YtmlcdohldkgcdaaGreatDoor
open Go Go.RowKit
theorem r02Make (A : Option Addr) (n c : Nat) (l : List Rng) (w : World) (hn : n ≤ 4000) (hl : Rngs w A n l) : Calls Tryz.prog 216 #[.slice A n c] w (RetSet w (refMake l)) := by
  have HL := Lib.hid hl
  clear hl
  go_enter Tryz.func216, Tryz.ntmps216
  have hk1 := Kept.alloc (Kept.refl w) (Obj.cells #[Value.slice none 0 0] 26)
  have HC := Lib.hid (r02combine 1 (fun x y => x || y) r02keepsOr A n c l none 0 0 [] (w.alloc (Obj.cells #[Value.slice none 0 0] 26)) hn (by omega) (HL.out.kept hk1) Sl.nil)
  have x2 : (w.alloc (Obj.cells #[Value.slice none 0 0] 26)).heap[w.heap.size]? = some (Obj.cells #[Value.slice none 0 0] 26 (0, 0)) := alloc_at rfl
  have HX2 := Lib.hid x2
  have hk2 : Below w.heap.size w (w.alloc (Obj.cells #[Value.slice none 0 0] 26)) := hk1
  clear x2 hk1
  go_wp2_with fail
  generalize w.alloc (Obj.cells #[Value.slice none 0 0] 26) = W1 at *
  obtain ⟨b2, hb2⟩ : ∃ b2 : Nat, b2 = w.heap.size := ⟨_, rfl⟩
  have HB2 := Lib.hid hb2
  rw [← hb2] at HX2 ⊢
  clear hb2
  refine HC.out.mono ?_
  rintro e w3 ⟨A4, n4, c4, rfl, hle4, hS4, hk4⟩
  have e1 : w3.heap[b2]? = some (.cells #[.slice none 0 0] 26 (0, 0)) := (hk4.block b2 (block_lt HX2.out)).trans HX2.out
  have e2 := cell_of_block (i := 0) e1 rfl
  have e3 := frozen_of_block (i := 0) e1
  have HS4 := Lib.hid hS4
  have HE1 := Lib.hid e1
  simp only [s4_, s5_] at e2
  clear hS4 e1
  go_wp2_with fail
  have e4 : (w3.setCell ⟨b2, 0, none⟩ (.slice A4 n4 c4)).cell? ⟨b2, 0, none⟩ = some (.slice A4 n4 c4) := cell_of_block (i := 0) (heap_setCell_one HE1.out) rfl
  clear e2 e3
  refine bodyPost_ret (v := .agg #[.slice A4 n4 c4]) (by simp [results, Tryz.results216, go_sem, e4]) rfl ⟨A4, _, c4, rfl, hle4, ?_, ?_⟩
  · exact rngs_setSet HS4.out HE1.out
  · exact Kept.setCell (Kept.trans hk2 hk4) (by rw [HB2.out]; exact Nat.le_refl _) _
set_option maxRecDepth 100000 in
theorem r02Valid (A : Option Addr) (n c : Nat) (l : List Rng) (w : World) (hn : n ≤ 4000) (hl : Rngs w A n l) (hlen : (refMake l).length ≤ 100000) : Calls Tryz.prog 202 #[.agg #[.slice A n c]] w (RetB w (decide (l = refMake l))) := by
  have HL := Lib.hid hl
  clear hl
  go_enter Tryz.func202, Tryz.ntmps202
  have HK0 := Lib.hid (Kept.drew (Kept.alloc (Kept.refl w) (Obj.cells #[Value.slice A n c] 26)))
  have x0 : (w.alloc (Obj.cells #[Value.slice A n c] 26)).cell? ⟨w.heap.size, 0, none⟩ = some (.slice A n c) := box_cell _ _ _ _
  have HX0 := Lib.hid x0
  have HC := Lib.hid (r02Make A n c l (w.alloc (Obj.cells #[Value.slice A n c] 26)).drew hn (HL.out.kept HK0.out))
  go_wp2_with fail
  go_region_held3 (fun w' => w'.cell? ⟨w.heap.size, 0, none⟩ = some (.slice A n c)) (first | exact t0 | exact HX0.out)
    (first
      | (go_at_call 215; refine (r02Same A A1 n n1 c c1 l (refMake l) w1 (by omega) ?_ ?_ ?_).mono ?_; (have := HS1.out.1; omega); (exact HL.out.kept (Kept.trans HK0.out hk1)); (exact HS1.out); rintro e w2 ⟨rfl, hk2⟩; have t0 := Kept.cell hk2 (Kept.cell hk1 HX0.out))
      | (go_at_call 216; refine HC.out.mono ?_; rintro e w1 ⟨A1, n1, c1, rfl, hle1, hS1, hk1⟩; have HS1 := Lib.hid hS1; clear hS1; have t0 := Kept.cell hk1 HX0.out))
  go_wp2_with fail
  go_ret
  exact ⟨rfl, Kept.trans (Kept.trans HK0.out hk1) hk2⟩
end Go.Proofs.YtmlcdohldkgcdaaGreatDoor
