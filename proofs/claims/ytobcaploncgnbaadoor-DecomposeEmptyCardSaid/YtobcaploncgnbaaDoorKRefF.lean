/- References: Cuts and Same of layer 2. -/
import Derived.Test.YtobcaploncgnbaaDoorKRefE
import Derived.Test.YtobcaploncgnbaaDoorKSetC
namespace Go.Proofs.YtobcaploncgnbaaDoor
open Go Go.RowKit

set_option maxRecDepth 100000 in
set_option maxHeartbeats 2000000 in
theorem r02Cuts (A : Option Addr) (n c : Nat) (l : List Int) (B : Option Addr) (m d : Nat) (rs : List Rng) (w : World) (hn : n ≤ 10000) (hm : m ≤ 10000) (hl : Ints w A n l) (hr : Rngs w B m rs) :
    Calls Tryd.prog 72 #[.slice A n c, .agg #[.slice B m d]] w (RetInts w (cutsL l rs)) := by
  have HL := Lib.hid hl
  have HLN := Lib.hid hl.1
  have HR := Lib.hid hr
  have HRN := Lib.hid hr.1
  clear hl hr
  go_enter Tryd.func72, Tryd.ntmps72
  go_wp2
  have hk0 := Kept.alloc (Kept.refl w) (Obj.cells #[Value.slice B m d] 26)
  have x0 := box_cell w #[Value.slice B m d] 26 0
  obtain ⟨bx, hbx⟩ : ∃ bx : Nat, bx = w.heap.size := ⟨_, rfl⟩
  generalize w.alloc (Obj.cells #[Value.slice B m d] 26) = W1 at *
  rw [← hbx] at x0 ⊢
  clear hbx
  have HX := Lib.hid x0
  clear x0
  go_loopw [0, 5] (fun p i wr => ∃ (k : Nat) (A' : Option Addr) (n' c' : Nat), k ≤ m ∧ i = .int .i64 k ∧ p = .slice A' n' c' ∧ Ints wr A' n' ((rs.take k).foldl cutStep l) ∧ Below W1.heap.size W1 wr) (fun _ i _ => m - (intOf i).toNat)
  case atStart => exact ⟨0, A, n, c, Nat.zero_le _, rfl, rfl, by simpa using HL.out.kept hk0, Below.refl _ _⟩
  case round =>
    obtain ⟨k, A', n', c', hk, rfl, rfl, hI, hB⟩ := hrel
    have hn' : n' ≤ 50000 := by
      rw [hI.1]
      have h1 := foldl_cutStep_length (rs.take k) l
      have h2 : (rs.take k).length ≤ k := List.length_take_le _ _
      have h3 := HLN.out
      omega
    have HI := Lib.hid hI
    have x0 := Kept.cell hB HX.out
    clear hI
    by_cases hlt : k < m
    · obtain ⟨b, off, r, rfl, hr, c0, c1⟩ := rng_at ((HR.out.kept hk0).kept hB) hlt
      have hfold : (rs.take (k + 1)).foldl cutStep l = cutStep ((rs.take k).foldl cutStep l) r := by rw [take_succ_some hr, List.foldl_append]; rfl
      have HF := Lib.hid hfold
      clear hr hfold
      generalize (rs.take k).foldl cutStep l = cur at *
      have g1 : (k : Int) < (m : Int) := by omega
      have hbl := cell_lt c0
      go_wp2
      go_quiet (fail)
      clear x0 c0 c1
      cases hv : validB r.lo
      · have e1 : (if validB r.lo then placeL r.lo cur else cur) = cur := by rw [hv]; rfl
        by_cases h2 : 0 ≤ r.hi
        · by_cases h3 : r.hi < 1114111
          · have hst : cutStep cur r = placeL (r.hi + 1) cur := by unfold cutStep; rw [e1]; exact if_pos ⟨h2, h3⟩
            have HST := Lib.hid (HF.out.trans hst)
            clear e1 hst
            go_wp2_with (first
              | (go_at_call 47; refine (rvalid_any _ _).mono ?_; rintro e w' ⟨rfl, rfl⟩)
              | (go_at_call 89; refine (r02place _ _ _ cur _ _ (by omega) (by exact HI.out)).mono ?_; rintro e w' ⟨A2, n2, c2, rfl, hle2, hI2, hk2⟩))
            go_roundw
            case rel => exact ⟨k + 1, A2, n2, c2, by omega, by go_num, rfl, by rw [HST.out]; exact hI2, Kept.trans (Kept.drewN hB _) hk2⟩
            case measure => simp [intOf]; omega
          · have hst : cutStep cur r = cur := by unfold cutStep; rw [e1]; exact if_neg (by omega)
            have HST := Lib.hid (HF.out.trans hst)
            clear e1 hst
            go_wp2_with (go_at_call 47; refine (rvalid_any _ _).mono ?_; rintro e w' ⟨rfl, rfl⟩)
            go_roundw
            case rel => exact ⟨k + 1, A', n', c', by omega, by go_num, rfl, by rw [HST.out]; exact HI.out, Kept.drewN hB _⟩
            case measure => simp [intOf]; omega
        · have hst : cutStep cur r = cur := by unfold cutStep; rw [e1]; exact if_neg (by omega)
          have HST := Lib.hid (HF.out.trans hst)
          clear e1 hst
          go_wp2_with (go_at_call 47; refine (rvalid_any _ _).mono ?_; rintro e w' ⟨rfl, rfl⟩)
          go_roundw
          case rel => exact ⟨k + 1, A', n', c', by omega, by go_num, rfl, by rw [HST.out]; exact HI.out, Kept.drewN hB _⟩
          case measure => simp [intOf]; omega
      · have e1 : (if validB r.lo then placeL r.lo cur else cur) = placeL r.lo cur := by rw [hv]; rfl
        have HE1 := Lib.hid e1
        clear e1
        go_wp2_with fail
        refine (rvalid_any _ _).mono ?_
        rintro e w' ⟨rfl, rfl⟩
        rw [hv]
        go_wp2_with fail
        refine (r02place _ _ _ cur _ _ (by omega) (by exact HI.out)).mono ?_
        rintro e w2 ⟨A2, n2, c2, rfl, hle2, hI2, hk2⟩
        have hn2 : n2 ≤ 60000 := by
          rw [hI2.1]
          have h1 := placeL_length r.lo cur
          have h2 := HI.out.1
          omega
        have HI2 := Lib.hid hI2
        clear hI2
        by_cases h2 : 0 ≤ r.hi
        · by_cases h3 : r.hi < 1114111
          · have hst : cutStep cur r = placeL (r.hi + 1) (placeL r.lo cur) := by unfold cutStep; rw [HE1.out]; exact if_pos ⟨h2, h3⟩
            have HST := Lib.hid (HF.out.trans hst)
            clear hst
            go_wp2_with fail
            refine (r02place _ _ _ (placeL r.lo cur) _ _ (by omega) (by exact HI2.out)).mono ?_
            rintro e w3 ⟨A3, n3, c3, rfl, hle3, hI3, hk3⟩
            have HI3 := Lib.hid hI3
            clear hI3
            go_wp2_with fail
            go_roundw
            case rel => exact ⟨k + 1, A3, n3, c3, by omega, by go_num, rfl, by rw [HST.out]; exact HI3.out, Kept.trans (Kept.trans (Kept.drewN hB _) hk2) hk3⟩
            case measure => simp [intOf]; omega
          · have hst : cutStep cur r = placeL r.lo cur := by unfold cutStep; rw [HE1.out]; exact if_neg (by omega)
            have HST := Lib.hid (HF.out.trans hst)
            clear hst
            go_wp2_with fail
            go_roundw
            case rel => exact ⟨k + 1, A2, n2, c2, by omega, by go_num, rfl, by rw [HST.out]; exact HI2.out, Kept.trans (Kept.drewN hB _) hk2⟩
            case measure => simp [intOf]; omega
        · have hst : cutStep cur r = placeL r.lo cur := by unfold cutStep; rw [HE1.out]; exact if_neg (by omega)
          have HST := Lib.hid (HF.out.trans hst)
          clear hst
          go_wp2_with fail
          go_roundw
          case rel => exact ⟨k + 1, A2, n2, c2, by omega, by go_num, rfl, by rw [HST.out]; exact HI2.out, Kept.trans (Kept.drewN hB _) hk2⟩
          case measure => simp [intOf]; omega
    · have hfull : rs.take k = rs := List.take_of_length_le (by have := HRN.out; omega)
      have hI := HI.out
      rw [hfull] at hI
      have HI2 := Lib.hid hI
      clear hI
      go_wp2_with fail
      refine (r02place _ _ _ (rs.foldl cutStep l) _ _ (by omega) (by exact HI2.out)).mono ?_
      rintro e w2 ⟨A2, n2, c2, rfl, hle2, hI2, hk2⟩
      have HI3 := Lib.hid hI2
      clear hI2
      go_wp2_with fail
      go_ret
      exact ⟨A2, n2, c2, rfl, hle2, HI3.out, Kept.trans hk0 (Kept.trans hB hk2)⟩

set_option maxRecDepth 100000 in
set_option maxHeartbeats 1000000 in
theorem r02Same (A B : Option Addr) (n m c d : Nat) (a b : List Rng) (w : World) (hn : n ≤ 100000) (hm : m ≤ 100000) (ha : Rngs w A n a) (hb : Rngs w B m b) :
    Calls Tryd.prog 18 #[.agg #[.slice A n c], .agg #[.slice B m d]] w (RetB w (decide (a = b))) := by
  have HA := Lib.hid ha
  have HAN := Lib.hid ha.1
  have HB := Lib.hid hb
  have HBN := Lib.hid hb.1
  clear ha hb
  by_cases hnn : n = m
  · subst hnn
    go_enter Tryd.func18, Tryd.ntmps18
    go_wp2
    have hk0 := Kept.alloc (Kept.alloc (Kept.refl w) (Obj.cells #[Value.slice A n c] 26)) (Obj.cells #[Value.slice B n d] 26)
    have x0 := (Kept.alloc (Kept.refl _) (Obj.cells #[Value.slice B n d] 26)).cell (box_cell w #[Value.slice A n c] 26 0)
    have x1 := box_cell (w.alloc (Obj.cells #[Value.slice A n c] 26)) #[Value.slice B n d] 26 0
    rw [World.size_alloc] at x1
    obtain ⟨bx, hbx⟩ : ∃ bx : Nat, bx = w.heap.size := ⟨_, rfl⟩
    generalize (w.alloc (Obj.cells #[Value.slice A n c] 26)).alloc (Obj.cells #[Value.slice B n d] 26) = W1 at *
    rw [← hbx] at x0 x1 ⊢
    clear hbx
    obtain ⟨by_, hby⟩ : ∃ by_ : Nat, by_ = bx + 1 := ⟨_, rfl⟩
    rw [← hby] at x1 ⊢
    clear hby
    have HX0 := Lib.hid x0
    have HX1 := Lib.hid x1
    clear x0 x1
    go_loopw [5] (fun i wr => ∃ k : Nat, k ≤ n ∧ i = .int .i64 k ∧ a.take k = b.take k ∧ Below W1.heap.size W1 wr) (fun i _ => n - (intOf i).toNat)
    case atStart => exact ⟨0, Nat.zero_le _, rfl, by simp, Below.refl _ _⟩
    case round =>
      obtain ⟨k, hk, rfl, hsame, hBl⟩ := hrel
      have HSA := Lib.hid hsame
      clear hsame
      have x0 := Kept.cell hBl HX0.out
      have x1 := Kept.cell hBl HX1.out
      by_cases hlt : k < n
      · obtain ⟨b1, off1, r, rfl, hr, c0, c1⟩ := rng_at ((HA.out.kept hk0).kept hBl) hlt
        obtain ⟨b2, off2, s, rfl, hs, d0, d1⟩ := rng_at ((HB.out.kept hk0).kept hBl) hlt
        have HR := Lib.hid hr
        have HS := Lib.hid hs
        have hneq := rng_neq r s
        clear hr hs
        have g1 : (k : Int) < (n : Int) := by omega
        cases hd : decide (r = s)
        · have hne : ¬ r = s := of_decide_eq_false hd
          rw [hd] at hneq
          have HNE := Lib.hid hne
          clear hd hne
          go_wp2_with fail
          go_quiet (fail)
          go_wp2_with fail
          go_ret
          refine ⟨ret_bool ?_, Kept.drewN (Kept.trans hk0 hBl) _⟩
          refine (decide_eq_false (fun e => HNE.out ?_)).symm
          have h1 := HR.out
          rw [e, HS.out] at h1
          injection h1 with h1
          exact h1.symm
        · have hne : r = s := of_decide_eq_true hd
          rw [hd] at hneq
          have HNE := Lib.hid hne
          clear hd hne
          go_wp2_with fail
          go_quiet (fail)
          go_wp2_with fail
          go_roundw
          case rel => exact ⟨k + 1, by omega, by go_num, take_eq_snoc HSA.out HR.out HS.out HNE.out, Kept.drewN hBl _⟩
          case measure => simp [intOf]; omega
      · go_wp2_with fail
        go_ret
        refine ⟨ret_bool (decide_eq_true ?_).symm, Kept.trans hk0 hBl⟩
        have := HSA.out
        rwa [List.take_of_length_le (by have := HAN.out; omega), List.take_of_length_le (by have := HBN.out; omega)] at this
  · have hne : ((n : Int) != (m : Int)) = true := by rw [bne_iff_ne]; omega
    go_enter Tryd.func18, Tryd.ntmps18
    go_wp2
    go_ret
    refine ⟨ret_bool (decide_eq_false (fun e => hnn ?_)).symm, Kept.alloc (Kept.alloc (Kept.refl w) _) _⟩
    have h1 := HAN.out
    have h2 := HBN.out
    rw [e] at h1
    omega
end Go.Proofs.YtobcaploncgnbaaDoor
