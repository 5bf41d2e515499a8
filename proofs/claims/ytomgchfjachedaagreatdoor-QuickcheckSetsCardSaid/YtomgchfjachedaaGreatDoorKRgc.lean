/- The reference's until, cuts and Sets. The reference's Sets (law24). -/
import Derived.Deep.RegionHeld3
import Derived.Test.YtomgchfjachedaaGreatDoorKBase
import Derived.Test.YtomgchfjachedaaGreatDoorKRga
import Derived.Test.YtomgchfjachedaaGreatDoorKQcN
import Derived.Test.YtomgchfjachedaaGreatDoorKRfx
import Derived.Test.YtomgchfjachedaaGreatDoorKRfl
import Derived.Test.YtomgchfjachedaaGreatDoorKQpl
namespace Go.Proofs.YtomgchfjachedaaGreatDoor
open Go Go.RowKit
theorem cell_four_new {w : World} {u v x y : Value} {e : TypeId} {b : Nat} (hb : b = w.heap.size) : ∀ j z, [u, v, x, y][j]? = some z → (w.alloc (.cells #[u, v, x, y] e)).cell? ((⟨b, 0, none⟩ : Addr).add j) = some z := by
  subst hb
  intro j z hz
  rw [add_zero_, box_cell]
  simpa using hz
def untilT (l : List Int) (c : Int) (k : Nat) : Int := (l.take k).foldl (fun out y => if c < y then min out (y - 1) else out) 1114111
theorem untilT_step {l : List Int} {k : Nat} {y : Int} (h : l[k]? = some y) (c : Int) : untilT l c (k + 1) = if c < y then min (untilT l c k) (y - 1) else untilT l c k := by
  unfold untilT
  rw [take_succ_some h, List.foldl_append]
  rfl
set_option maxRecDepth 100000 in
set_option maxHeartbeats 2000000 in
theorem r24until (A : Option Addr) (m d : Nat) (l : List Int) (c : Int) (w : World) (hm : m ≤ 100000) (hI : Ints w A m l) (hb : ∀ y ∈ l, -1000000000 ≤ y ∧ y ≤ 1000000000) : Calls Tryz.prog 49 #[.slice A m d, .int .i64 c] w (RetI w (untilR l c)) := by
  have HI := Lib.hid hI
  have HN := Lib.hid hI.1
  have HB := Lib.hid hb
  clear hI hb
  go_enter Tryz.func49, Tryz.ntmps49
  go_wp2_with fail
  go_loopw [5, 6] (fun o i wr => ∃ k : Nat, k ≤ m ∧ i = .int .i64 k ∧ o = .int .i64 (untilT l c k) ∧ Kept w wr) (fun _ i _ => m - (intOf i).toNat)
  case atStart => exact ⟨0, Nat.zero_le _, rfl, rfl, Kept.refl _⟩
  case round =>
    obtain ⟨k, hk, rfl, rfl, hkw⟩ := hrel
    have HK := Lib.hid hkw
    clear hkw
    by_cases hlt : k < m
    · obtain ⟨b, off, y, rfl, hy, cy⟩ := int_at (HI.out.kept HK.out) hlt
      have HS := Lib.hid (untilT_step hy c)
      obtain ⟨hy1, hy2⟩ := HB.out y (mem_of_getElem?_some hy)
      have hw : IntKind.i64.wrap (y - 1) = y - 1 := IntWalk.i64_in _ (by omega)
      have hw2 : wrap64 (y - 1) = y - 1 := IntWalk.wrap64_in _ (by omega)
      clear hy
      generalize untilT l c k = u at *
      by_cases hc : c < y
      · rw [if_pos hc] at HS
        go_wp2_with fail
        go_roundw
        case rel => exact ⟨k + 1, by omega, by go_num, by rw [HS.out], HK.out⟩
        case measure => simp [intOf]; omega
      · rw [if_neg hc] at HS
        go_wp2_with fail
        go_roundw
        case rel => exact ⟨k + 1, by omega, by go_num, by rw [HS.out], HK.out⟩
        case measure => simp [intOf]; omega
    · have HF := Lib.hid (show untilT l c k = untilR l c by unfold untilT untilR; rw [List.take_of_length_le (by have := HN.out; omega)])
      go_wp2_with fail
      go_ret
      exact ⟨ret_int HF.out, HK.out⟩
def cutA (k : Nat) : List Int := 0 :: blocks k
def cutB (R : List Rng) (k : Nat) : List Int := cutA 20 ++ (R.take k).flatMap fun r => [r.lo, r.hi + 1]
def cutC (R : List Rng) (n : Nrm) (k : Nat) : List Int := (cutA 20 ++ R.flatMap fun r => [r.lo, r.hi + 1]) ++ (n.decomp.take k).flatMap cutMp
theorem cutA_step (k : Nat) : cutA (k + 1) = cutA k ++ [44032 + 588 * (k : Int)] := by
  unfold cutA blocks
  rw [List.range_succ, List.map_append]
  rfl
theorem cutA_length (k : Nat) : (cutA k).length = k + 1 := by simp [cutA, blocks]
theorem cutB_step {R : List Rng} {k : Nat} {r : Rng} (h : R[k]? = some r) : cutB R (k + 1) = cutB R k ++ [r.lo, r.hi + 1] := by
  unfold cutB
  rw [take_succ_some h, List.flatMap_append, ← List.append_assoc]
  simp
theorem cutB_all {R : List Rng} {k : Nat} (h : R.length ≤ k) : cutB R k = cutA 20 ++ R.flatMap fun r => [r.lo, r.hi + 1] := by unfold cutB; rw [List.take_of_length_le h]
theorem pairs_length : ∀ R : List Rng, (R.flatMap fun r => [r.lo, r.hi + 1]).length = 2 * R.length
  | [] => rfl
  | r :: R => by rw [List.flatMap_cons, List.length_append, pairs_length R, List.length_cons]; simp; omega
theorem cutB_length (R : List Rng) (k : Nat) : (cutB R k).length ≤ 21 + 2 * R.length := by
  unfold cutB
  rw [List.length_append, cutA_length, pairs_length]
  have := List.length_take_le' k R
  omega
theorem cutMp_length (m : Mp) : (cutMp m).length ≤ 6 := by
  unfold cutMp
  rw [List.length_append]
  split
  · split <;> simp
  · simp
theorem cutMps_length : ∀ l : List Mp, (l.flatMap cutMp).length ≤ 6 * l.length
  | [] => by simp
  | m :: l => by rw [List.flatMap_cons, List.length_append, List.length_cons]; have := cutMp_length m; have := cutMps_length l; omega
theorem cutC_length (R : List Rng) (n : Nrm) (k : Nat) : (cutC R n k).length ≤ 21 + 2 * R.length + 6 * n.decomp.length := by
  unfold cutC
  rw [List.length_append, List.length_append, cutA_length, pairs_length]
  have h1 := cutMps_length (n.decomp.take k)
  have h2 := List.length_take_le' k n.decomp
  omega
theorem cutC_step {R : List Rng} {n : Nrm} {k : Nat} {m : Mp} (h : n.decomp[k]? = some m) : cutC R n (k + 1) = cutC R n k ++ cutMp m := by
  unfold cutC
  rw [take_succ_some h, List.flatMap_append, ← List.append_assoc]
  simp
theorem cutC_zero (R : List Rng) (n : Nrm) : cutC R n 0 = cutA 20 ++ R.flatMap fun r => [r.lo, r.hi + 1] := by unfold cutC; simp
theorem cutC_all {R : List Rng} {n : Nrm} {k : Nat} (h : n.decomp.length ≤ k) : cutC R n k = cutsR R n := by unfold cutC cutsR cutA; rw [List.take_of_length_le h]
theorem cutMp_one {m : Mp} (h : m.to.length ≠ 2) : cutMp m = [m.src, m.src + 1] := by
  unfold cutMp
  split
  · rename_i e; rw [e] at h; simp at h
  · simp
theorem cutMp_none {m : Mp} {a b : Int} (h : m.to = [a, b]) (hc : compH a b = none) : cutMp m = [m.src, m.src + 1] := by unfold cutMp; rw [h]; simp [hc]
theorem cutMp_some {m : Mp} {a b x : Int} (h : m.to = [a, b]) (hc : compH a b = some x) : cutMp m = [m.src, m.src + 1] ++ [x, x + 1, x - (x - 44032) % 28, x - (x - 44032) % 28 + 28] := by unfold cutMp; rw [h]; simp [hc]
theorem cuts_bound {n : Nrm} (g : Good n) {R : List Rng} (hR : ∀ r ∈ R, 0 ≤ r.lo ∧ r.lo ≤ r.hi ∧ r.hi ≤ 1114111) : ∀ y ∈ cutsR R n, -1000000000 ≤ y ∧ y ≤ 1000000000 := by
  intro y hy
  unfold cutsR at hy
  rcases List.mem_append.1 hy with hy | hy
  · rcases List.mem_append.1 hy with hy | hy
    · rcases List.mem_cons.1 hy with e | hy
      · omega
      · unfold blocks at hy
        obtain ⟨i, hi, e⟩ := List.mem_map.1 hy
        have := List.mem_range.1 hi
        omega
    · obtain ⟨r, hr, h⟩ := List.mem_flatMap.1 hy
      obtain ⟨h1, h2, h3⟩ := hR r hr
      simp only [List.mem_cons, List.not_mem_nil, or_false] at h
      omega
  · obtain ⟨m, hm, h⟩ := List.mem_flatMap.1 hy
    have hv := src_valid g hm
    simp only [validB, Bool.and_eq_true, decide_eq_true_eq] at hv
    unfold cutMp at h
    rcases List.mem_append.1 h with h | h
    · simp only [List.mem_cons, List.not_mem_nil, or_false] at h
      omega
    · split at h
      · split at h
        · rename_i hc
          have := comp_syl hc
          simp only [List.mem_cons, List.not_mem_nil, or_false] at h
          omega
        · cases h
      · cases h
set_option maxRecDepth 100000 in
set_option maxHeartbeats 4000000 in
theorem r24cuts (s : Sls) (n : Nrm) (SA : Option Addr) (sm sc : Nat) (R : List Rng) (w : World) (hN : NormAt w s n) (g : Good n) (hsm : sm ≤ 5000) (hR : Rngs w SA sm R) (hRb : ∀ r ∈ R, 0 ≤ r.lo ∧ r.lo ≤ r.hi ∧ r.hi ≤ 1114111) :
    Calls Tryz.prog 47 #[s.val, .agg #[.slice SA sm sc]] w (RetInts w (cutsR R n)) := by
  have hk2 := Kept.alloc (Kept.alloc (Kept.refl w) (Obj.cells #[Value.slice s.Ac s.nc s.cc, Value.slice s.Am s.nm s.cm, Value.slice s.Ae s.ne s.ce] 28)) (Obj.cells #[Value.slice SA sm sc] 26)
  obtain ⟨B, hB⟩ : ∃ B : Nat, B = w.heap.size := ⟨_, rfl⟩
  have HBB := Lib.hid hB
  have hb0 : ((w.alloc (Obj.cells #[Value.slice s.Ac s.nc s.cc, Value.slice s.Am s.nm s.cm, Value.slice s.Ae s.ne s.ce] 28)).alloc (Obj.cells #[Value.slice SA sm sc] 26)).heap[B]? = some (Obj.cells #[Value.slice s.Ac s.nc s.cc, Value.slice s.Am s.nm s.cm, Value.slice s.Ae s.ne s.ce] 28) := alloc_lift (alloc_at hB)
  have hb1 : ((w.alloc (Obj.cells #[Value.slice s.Ac s.nc s.cc, Value.slice s.Am s.nm s.cm, Value.slice s.Ae s.ne s.ce] 28)).alloc (Obj.cells #[Value.slice SA sm sc] 26)).heap[B + 1]? = some (.cells #[Value.slice SA sm sc] 26 (0, 0)) := alloc_at (by simp [hB])
  have HX1 := Lib.hid (show ((w.alloc (Obj.cells #[Value.slice s.Ac s.nc s.cc, Value.slice s.Am s.nm s.cm, Value.slice s.Ae s.ne s.ce] 28)).alloc (Obj.cells #[Value.slice SA sm sc] 26)).cell? ⟨B, 1, none⟩ = some (.slice s.Am s.nm s.cm) from cell_of_block (i := 1) hb0 rfl)
  have HX3 := Lib.hid (show ((w.alloc (Obj.cells #[Value.slice s.Ac s.nc s.cc, Value.slice s.Am s.nm s.cm, Value.slice s.Ae s.ne s.ce] 28)).alloc (Obj.cells #[Value.slice SA sm sc] 26)).cell? ⟨B + 1, 0, none⟩ = some (.slice SA sm sc) from cell_of_block (i := 0) hb1 rfl)
  have HD := Lib.hid (hN.dec.kept hk2)
  have HDN := Lib.hid hN.dec.1
  have hbm := hN.bm
  have HR := Lib.hid (hR.kept hk2)
  have HRN := Lib.hid hR.1
  have HK2 := Lib.hid hk2
  have HSRC := Lib.hid (fun m hm => src_valid g (m := m) hm)
  have HRB := Lib.hid hRb
  obtain ⟨i0, hi, hz0, hz1, hz2⟩ := info_parts1 info_int
  have HI0 := Lib.hid hi
  have HZ0 := Lib.hid hz0
  have HZ1 := Lib.hid hz1
  have HZ2 := Lib.hid hz2
  have HSZ := Lib.hid (show ((w.alloc (Obj.cells #[Value.slice s.Ac s.nc s.cc, Value.slice s.Am s.nm s.cm, Value.slice s.Ae s.ne s.ce] 28)).alloc (Obj.cells #[Value.slice SA sm sc] 26)).heap.size = B + 1 + 1 by simp [hB])
  clear hi hz0 hz1 hz2 hN g hR hk2 hb0 hb1 hB hRb
  unfold Sls.val at *
  go_enter Tryz.func47, Tryz.ntmps47
  go_wp2_with fail
  rw [← HBB.out]
  generalize (w.alloc (Obj.cells #[Value.slice s.Ac s.nc s.cc, Value.slice s.Am s.nm s.cm, Value.slice s.Ae s.ne s.ce] 28)).alloc (Obj.cells #[Value.slice SA sm sc] 26) = W2 at *
  obtain ⟨b0, hb0⟩ : ∃ b0 : Nat, b0 = W2.heap.size := ⟨_, rfl⟩
  have hb0' : b0 = B + 1 + 1 := hb0.trans HSZ.out
  have hO0 : OwnI (W2.alloc (Obj.cells #[Value.int .i64 0] 3)) b0 (.slice (some ⟨b0, 0, none⟩) 1 1) (cutA 0) := by
    unfold OwnI
    rw [hb0]
    exact ⟨by simp [cutA, blocks], .inr ⟨W2.heap.size, 1, _, by simp [cutA, blocks], Nat.le_refl _, heap_alloc_new _ _, by simp [cutA, blocks], by unfold maxLen; omega, rfl, by simp [cutA, blocks]⟩⟩
  have HO0 := Lib.hid hO0
  have HKA := Lib.hid (Kept.alloc (Kept.refl W2) (Obj.cells #[Value.int .i64 0] 3))
  have HB0 := Lib.hid hb0
  rw [← hb0']
  clear hb0 hO0 hb0'
  generalize W2.alloc (Obj.cells #[Value.int .i64 0] 3) = W3 at *
  have hs3 := HKA.out.size
  go_loopw [5, 6] (fun p i wr => ∃ k : Nat, k ≤ 20 ∧ i = .int .i64 k ∧ OwnI wr b0 p (cutA k) ∧ Kept W2 wr) (fun _ i _ => 20 - (intOf i).toNat)
  case atStart => exact ⟨0, by omega, rfl, HO0.out, HKA.out⟩
  case round =>
    obtain ⟨k, hk, rfl, hown, hkw⟩ := hrel
    have HO := Lib.hid hown
    have HK := Lib.hid hkw
    have hsz := hkw.size
    have hbz : b0 ≤ W2.heap.size := Nat.le_of_eq HB0.out
    have hbz2 : W2.heap.size ≤ b0 := Nat.le_of_eq HB0.out.symm
    clear hown hkw
    by_cases hlt : k < 20
    · have hl := cutA_length k
      have hw1 : IntKind.i64.wrap (588 * (k : Int)) = 588 * (k : Int) := IntWalk.i64_in _ (by omega)
      have hw2 : wrap64 (588 * (k : Int)) = 588 * (k : Int) := IntWalk.wrap64_in _ (by omega)
      have hw3 : IntKind.i64.wrap (44032 + 588 * (k : Int)) = 44032 + 588 * (k : Int) := IntWalk.i64_in _ (by omega)
      have hw4 : wrap64 (44032 + 588 * (k : Int)) = 44032 + 588 * (k : Int) := IntWalk.wrap64_in _ (by omega)
      go_wp2_with (at_builtin; refine wpList_append_own _ rfl _ _ 40 rfl b0 3 i0 (.int .i64 0) 1 8 Tryz.underlying40 HI0.out HZ0.out HZ1.out HZ2.out rfl (by decide) _ _ _ rfl (World.ownsRow.alloc HO.out _) ⟨wr.heap.size, 0, none⟩ 1 1 [.int .i64 (44032 + 588 * (k : Int))] rfl rfl (cell_one_at rfl) (by simp [Value.oneCell']) (by unfold maxLen; omega) (by omega) (by simp; omega) ?_; intro v1 w1 hown1 hg1 _)
      have HO1 := Lib.hid (show OwnI w1 b0 v1 (cutA (k + 1)) by rw [cutA_step]; have := hown1; simpa [OwnI] using this)
      have HK1 := Lib.hid ((Kept.alloc HK.out (Obj.cells #[Value.int .i64 (44032 + 588 * (k : Int))] 3)).grown hg1 (by simp; omega) (fun q e => by have := (World.ownsRow.lt HO.out q e).1; omega))
      clear hown1 hg1 hl hw1 hw2 hw3 hw4
      go_wp2_with fail
      go_roundw
      case rel => exact ⟨k + 1, by omega, by go_num, HO1.out, HK1.out⟩
      case measure => simp [intOf]; omega
    · have HO0' := Lib.hid (show OwnI wr b0 u5 (cutB R 0) by have := HO.out; rw [show k = 20 by omega] at this; unfold cutB; simpa using this)
      go_wp2_with fail
      go_loopw [5, 7] (fun p i wr => ∃ k : Nat, k ≤ sm ∧ i = .int .i64 k ∧ OwnI wr b0 p (cutB R k) ∧ Kept W2 wr) (fun _ i _ => sm - (intOf i).toNat)
      case atStart => exact ⟨0, by omega, rfl, HO0'.out, HK.out⟩
      case round =>
        obtain ⟨k, hk, rfl, hown, hkw⟩ := hrel
        have HO := Lib.hid hown
        have HK := Lib.hid hkw
        have hsz := hkw.size
        have q3 := Kept.cell hkw HX3.out
        clear hown hkw
        by_cases hlt : k < sm
        · obtain ⟨b, off, r, hA, hr, c0, c1⟩ := rng_at (HR.out.kept HK.out) hlt
          have HS := Lib.hid (cutB_step hr)
          obtain ⟨hr1, hr2, hr3⟩ := HRB.out r (mem_of_getElem?_some hr)
          have hl : (cutB R k).length ≤ 20000 := by have := cutB_length R k; have := HRN.out; omega
          have hw3 : IntKind.i64.wrap (r.hi + 1) = r.hi + 1 := IntWalk.i64_in _ (by omega)
          have hw4 : wrap64 (r.hi + 1) = r.hi + 1 := IntWalk.wrap64_in _ (by omega)
          rw [hA] at q3
          clear hr hA
          have hka := Kept.alloc (Kept.refl wr) (Obj.cells #[Value.int .i64 r.lo, Value.int .i64 (r.hi + 1)] 3)
          have c0a := Kept.cell hka c0
          have c1a := Kept.cell hka c1
          have q3a := Kept.cell hka q3
          go_wp2_with fail
          go_region_law (refine step_append_lies _ (by rfl) (.tmp 31) (.tmp 45) 40 (by rfl) b0 3 i0 (.int .i64 0) 1 8 Tryz.underlying40 HI0.out HZ0.out HZ1.out HZ2.out rfl (by omega) u5 (cutB R k).length ((cutB R k).map (Value.int .i64)) (by rfl) ((World.ownsRow.alloc HO.out _).drew) ⟨wr.heap.size, 0, none⟩ 2 2 [.int .i64 r.lo, .int .i64 (r.hi + 1)] (by rfl) (by rfl) (World.news_of_block (cs := #[.int .i64 r.lo, .int .i64 (r.hi + 1)]) (t := 3) (fr := (0, 0)) (heap_alloc_new wr _)) (by simp [Value.oneCell']) (by omega) (by unfold maxLen; omega) (by omega) (by simp; omega) (wr.heap.size + 1) (by simp) ?_; intro gg cap w7 hown7 hgrow hat hlt7)
          all_goals
            have HK7 := Lib.hid ((Kept.drew (Kept.alloc HK.out (Obj.cells #[Value.int .i64 r.lo, Value.int .i64 (r.hi + 1)] 3))).grown hgrow (by simp; omega) (fun q e => by have := (World.ownsRow.lt HO.out q e).1; omega))
            have HO7 := Lib.hid hown7
            clear hown7 hgrow hat hlt7 hka c0a c1a q3a q3 c0 c1 hw3 hw4
            go_wp2_with fail
            go_roundw
            case rel => exact ⟨k + 1, by omega, by go_num, by rw [HS.out]; have := HO7.out; simpa [OwnI] using this, HK7.out⟩
            case measure => simp [intOf]; omega
        · have HO3 := Lib.hid (show OwnI wr b0 u5 (cutC R n 0) by have := HO.out; rw [cutB_all (by have := HRN.out; omega)] at this; rw [cutC_zero]; exact this)
          go_wp2_with fail
          go_loopw [5, 8] (fun p i wr => ∃ k : Nat, k ≤ s.nm ∧ i = .int .i64 k ∧ OwnI wr b0 p (cutC R n k) ∧ Kept W2 wr) (fun _ i _ => s.nm - (intOf i).toNat)
          case atStart => exact ⟨0, by omega, rfl, HO3.out, HK.out⟩
          case round =>
            obtain ⟨k, hk, rfl, hown, hkw⟩ := hrel
            have HO := Lib.hid hown
            have HK := Lib.hid hkw
            have hsz := hkw.size
            have q1 := Kept.cell hkw HX1.out
            clear hown hkw
            by_cases hlt : k < s.nm
            · obtain ⟨b, off, m, A', n', c', hA, hm, hle, hI, c0, c1, c2⟩ := mp_at HD.out hlt
              have c0 := Kept.cell HK.out c0
              have c1 := Kept.cell HK.out c1
              have c2 := Kept.cell HK.out c2
              have HS := Lib.hid (cutC_step (R := R) hm)
              have hv := HSRC.out m (mem_of_getElem?_some hm)
              simp only [validB, Bool.and_eq_true, decide_eq_true_eq] at hv
              obtain ⟨hv1, hv2⟩ := hv
              have hl : (cutC R n k).length ≤ 20000 := by have := cutC_length R n k; have := HRN.out; have := HDN.out; omega
              have hw3 : IntKind.i64.wrap (m.src + 1) = m.src + 1 := IntWalk.i64_in _ (by omega)
              have hw4 : wrap64 (m.src + 1) = m.src + 1 := IntWalk.wrap64_in _ (by omega)
              have HM := Lib.hid hI
              have HMN := Lib.hid hI.1
              rw [hA] at q1
              clear hm hA hI
              obtain ⟨bx, hbx⟩ : ∃ bx : Nat, bx = wr.heap.size := ⟨_, rfl⟩
              have hbox : (wr.alloc (Obj.cells #[Value.int .i64 m.src, Value.slice A' n' c', Value.string m.tag] 90)).heap[bx]? = some (.cells #[Value.int .i64 m.src, Value.slice A' n' c', Value.string m.tag] 90 (0, 0)) := alloc_at hbx
              have x0 := cell_of_block (i := 0) hbox rfl
              have x1 := cell_of_block (i := 1) hbox rfl
              simp only [s4_, s5_, s6_] at x0 x1
              rw [hbx] at x0 x1
              have HKX := Lib.hid (Kept.alloc (Kept.refl wr) (Obj.cells #[Value.int .i64 m.src, Value.slice A' n' c', Value.string m.tag] 90))
              have HX5 := Lib.hid x1
              have HOX := Lib.hid (World.ownsRow.alloc HO.out (Obj.cells #[Value.int .i64 m.src, Value.slice A' n' c', Value.string m.tag] 90))
              clear hbox hbx
              by_cases h2 : n' = 2
              · have HH2 := Lib.hid h2
                have hn0 : 0 < n' := by omega
                have hn1 : 1 < n' := by omega
                have hi0 : (0 : Int) < (n' : Int) := by omega
                have hi1 : (1 : Int) < (n' : Int) := by omega
                have hb2 : ((n' : Int) != 2) = false := by simp; omega
                clear h2
                go_wp2_with (at_builtin; refine wpList_append_own _ rfl _ _ 40 rfl b0 3 i0 (.int .i64 0) 1 8 Tryz.underlying40 HI0.out HZ0.out HZ1.out HZ2.out rfl (by decide) _ _ _ rfl (World.ownsRow.alloc HOX.out _) ⟨wr.heap.size + 1, 0, none⟩ 2 2 [.int .i64 m.src, .int .i64 (m.src + 1)] rfl rfl (cell_two_new (by simp)) (by simp [Value.oneCell']) (by unfold maxLen; omega) (by omega) (by simp; omega) ?_; intro v1 w1 hown1 hg1 _; have hkr : w1.cell? ⟨wr.heap.size, 1, none⟩ = some (.slice A' n' c') := (World.cell?_of_block (hg1.block wr.heap.size (by simp; omega) (fun e => by have := (World.ownsRow.lt HO.out _ e.symm).2; omega))).trans (Kept.cell (Kept.alloc (Kept.refl _) _) HX5.out))
                have HO1 := Lib.hid (show OwnI w1 b0 v1 (cutC R n k ++ [m.src, m.src + 1]) by have := hown1; simpa [OwnI] using this)
                have HK1 := Lib.hid ((Kept.trans HK.out (Kept.alloc HKX.out (Obj.cells #[Value.int .i64 m.src, Value.int .i64 (m.src + 1)] 3))).grown hg1 (by simp; omega) (fun q e => by have := (World.ownsRow.lt HO.out q e).1; omega))
                have HKR := Lib.hid hkr
                have hs1 := HK1.out.size
                clear hown1 hg1 hkr x0 x1 c0 c1 c2 hw3 hw4 q1 HX5 HOX
                obtain ⟨a, b2, hab⟩ := list_two (HMN.out.symm.trans HH2.out)
                have HAB := Lib.hid hab
                obtain ⟨ba, offa, a', hA, ha, ca⟩ := int_at (i := 0) (HM.out.kept HK1.out) (by have := HH2.out; omega)
                obtain ⟨ba2, offa2, b', hA2, hb, cb⟩ := int_at (i := 1) (HM.out.kept HK1.out) (by have := HH2.out; omega)
                rw [hA] at hA2
                injection hA2 with hA2
                injection hA2 with e1 e2
                subst e1 e2
                rw [hab] at ha hb
                simp only [List.getElem?_cons_zero, List.getElem?_cons_succ, Option.some.injEq] at ha hb
                subst ha hb
                simp only [Nat.add_zero] at ca
                have HCA := Lib.hid ca
                have HCB := Lib.hid cb
                have hkr := HKR.out
                rw [hA] at hkr
                have HKR2 := Lib.hid hkr
                have HCM := Lib.hid (r19compose a b2 w1.drew)
                clear hA hab
                refine wp_region_held_drew (S := (fun w' => w'.cell? ⟨wr.heap.size, 1, none⟩ = some (.slice (some ⟨ba, offa, none⟩) n' c') ∧ w'.cell? ⟨ba, offa, none⟩ = some (.int .i64 a) ∧ w'.cell? ⟨ba, offa + 1, none⟩ = some (.int .i64 b2))) (by kernel_rfl) ⟨hkr, ca, cb⟩ (fun hHeld => ?_)
                refine tk_ 0 ?_ rfl ?_; refine tk_ 1 ?_ rfl ?_; refine tk_ 2 ?_ rfl ?_; refine tk_ 3 ?_ rfl ?_; refine tk_ 4 ?_ rfl ?_; refine tk_ 5 ?_ rfl ?_; refine tk_ 6 ?_ rfl ?_; refine tk_ 7 ?_ rfl ?_
                refine rd_ 8 rfl (fun K hK => ?_)
                go_simp
                (refine HCM.out.mono ?_; rintro e w2 ⟨rfl, k2⟩; have K2 := Lib.hid (Kept.trans (Kept.drew (Kept.refl w1)) k2); clear k2)
                go_wp2_with fail
                refine hK.out _ _ ⟨Kept.cell K2.out HKR2.out, Kept.cell K2.out HCA.out, Kept.cell K2.out HCB.out⟩ (fun hHeld => ?_)
                clear hK K
                (try simp only [Act.put, s1_, s2_, s3_, s4_, s5_, s6_])
                refine tk_ 9 ?_ rfl ?_; refine tk_ 10 ?_ rfl ?_; refine tk_ 11 ?_ rfl ?_; refine tk_ 12 ?_ rfl ?_; refine tk_ 13 ?_ rfl ?_
                refine wpAnyH_done (by kernel_rfl) ?_ _
                clear hkr ca cb
                have HK3 := Lib.hid (Kept.trans HK1.out K2.out)
                have HO2 := Lib.hid (show OwnI w2 b0 v1 (cutC R n k ++ [m.src, m.src + 1]) from own_butK HO1.out (K2.out.but []) (by simp))
                have hs2 := HK3.out.size
                cases hcm : compH a b2 with
                | none =>
                  have HE := Lib.hid (cutMp_none HAB.out hcm)
                  clear hcm
                  simp only [Option.isSome_none, Option.getD_none]
                  go_wp2_with fail
                  go_roundw
                  case rel => exact ⟨k + 1, by omega, by go_num, by rw [HS.out, HE.out]; exact HO2.out, HK3.out⟩
                  case measure => simp [intOf]; omega
                | some x =>
                  have HE := Lib.hid (cutMp_some HAB.out hcm)
                  obtain ⟨hx1, hx2⟩ := comp_syl hcm
                  clear hcm
                  simp only [Option.isSome_some, Option.getD_some]
                  have hm1 : IntKind.i64.wrap (x - 44032) = x - 44032 := IntWalk.i64_in _ (by omega)
                  have hm2 : wrap64 (x - 44032) = x - 44032 := IntWalk.wrap64_in _ (by omega)
                  obtain ⟨r, hr⟩ : ∃ r, r = (x - 44032) % 28 := ⟨_, rfl⟩
                  have hr1 : 0 ≤ r := by omega
                  have hr2 : r < 28 := by omega
                  have htm : Int.tmod (x - 44032) 28 = r := by rw [hr]; exact Int.tmod_eq_emod_of_nonneg (by omega)
                  have HR28 := Lib.hid hr
                  have hm3 : IntKind.i64.wrap (x - r) = x - r := IntWalk.i64_in _ (by omega)
                  have hm4 : wrap64 (x - r) = x - r := IntWalk.wrap64_in _ (by omega)
                  have hm5 : IntKind.i64.wrap (x - r + 28) = x - r + 28 := IntWalk.i64_in _ (by omega)
                  have hm6 : wrap64 (x - r + 28) = x - r + 28 := IntWalk.wrap64_in _ (by omega)
                  have hm7 : IntKind.i64.wrap (x + 1) = x + 1 := IntWalk.i64_in _ (by omega)
                  have hm8 : wrap64 (x + 1) = x + 1 := IntWalk.wrap64_in _ (by omega)
                  have hm9 : IntKind.i64.wrap r = r := IntWalk.i64_in _ (by omega)
                  have hm0 : wrap64 r = r := IntWalk.wrap64_in _ (by omega)
                  have hl2 : (cutC R n k ++ [m.src, m.src + 1]).length ≤ 20002 := by simp; omega
                  clear hr
                  go_wp2_with (at_builtin; refine wpList_append_own _ rfl _ _ 40 rfl b0 3 i0 (.int .i64 0) 1 8 Tryz.underlying40 HI0.out HZ0.out HZ1.out HZ2.out rfl (by decide) _ _ _ rfl (World.ownsRow.alloc HO2.out _) ⟨w2.heap.size, 0, none⟩ 4 4 [.int .i64 x, .int .i64 (x + 1), .int .i64 (x - r), .int .i64 (x - r + 28)] rfl rfl (cell_four_new rfl) (by simp [Value.oneCell']) (by unfold maxLen; omega) (by omega) (by simp; omega) ?_; intro v5 w5 hown5 hg5 _)
                  have HO5 := Lib.hid (show OwnI w5 b0 v5 (cutC R n (k + 1)) by rw [HS.out, HE.out, ← HR28.out]; have := hown5; simpa [OwnI] using this)
                  have HK5 := Lib.hid ((Kept.alloc HK3.out (Obj.cells #[Value.int .i64 x, Value.int .i64 (x + 1), Value.int .i64 (x - r), Value.int .i64 (x - r + 28)] 3)).grown hg5 (by simp; omega) (fun q e => by have := (World.ownsRow.lt HO2.out q e).1; omega))
                  clear hown5 hg5 hm1 hm2 hm3 hm4 hm5 hm6 hm7 hm8 hm9 hm0 htm hl2
                  go_wp2_with fail
                  go_roundw
                  case rel => exact ⟨k + 1, by omega, by go_num, HO5.out, HK5.out⟩
                  case measure => simp [intOf]; omega
              · have HE := Lib.hid (cutMp_one (m := m) (by rw [← HMN.out]; exact h2))
                have hb2 : ((n' : Int) != 2) = true := by simp; omega
                go_wp2_with (at_builtin; refine wpList_append_own _ rfl _ _ 40 rfl b0 3 i0 (.int .i64 0) 1 8 Tryz.underlying40 HI0.out HZ0.out HZ1.out HZ2.out rfl (by decide) _ _ _ rfl (World.ownsRow.alloc HOX.out _) ⟨wr.heap.size + 1, 0, none⟩ 2 2 [.int .i64 m.src, .int .i64 (m.src + 1)] rfl rfl (cell_two_new (by simp)) (by simp [Value.oneCell']) (by unfold maxLen; omega) (by omega) (by simp; omega) ?_; intro v1 w1 hown1 hg1 _; have hkr : w1.cell? ⟨wr.heap.size, 1, none⟩ = some (.slice A' n' c') := (World.cell?_of_block (hg1.block wr.heap.size (by simp; omega) (fun e => by have := (World.ownsRow.lt HO.out _ e.symm).2; omega))).trans (Kept.cell (Kept.alloc (Kept.refl _) _) HX5.out))
                have HO1 := Lib.hid (show OwnI w1 b0 v1 (cutC R n k ++ [m.src, m.src + 1]) by have := hown1; simpa [OwnI] using this)
                have HK1 := Lib.hid ((Kept.trans HK.out (Kept.alloc HKX.out (Obj.cells #[Value.int .i64 m.src, Value.int .i64 (m.src + 1)] 3))).grown hg1 (by simp; omega) (fun q e => by have := (World.ownsRow.lt HO.out q e).1; omega))
                have HKR := Lib.hid hkr
                have hs1 := HK1.out.size
                clear hown1 hg1 hkr x0 x1 c0 c1 c2 hw3 hw4 q1 HX5 HOX
                go_roundw
                case rel => exact ⟨k + 1, by omega, by go_num, by rw [HS.out, HE.out]; exact HO1.out, HK1.out⟩
                case measure => simp [intOf]; omega
            · have HF := Lib.hid (show OwnI wr b0 u5 (cutsR R n) by have := HO.out; rw [cutC_all (by have := HDN.out; omega)] at this; exact this)
              obtain ⟨A9, c9, hv9, hle9, hI9⟩ := OwnI.sl HF.out
              have HI9 := Lib.hid hI9
              clear hI9
              subst hv9
              have KW := Lib.hid (Kept.trans HK2.out HK.out)
              generalize hq : (cutsR R n).length = q at *
              have HQQ := Lib.hid hq
              clear hq
              go_wp2_with fail
              go_ret
              exact ⟨A9, q, c9, rfl, hle9, HI9.out, KW.out⟩
end Go.Proofs.YtomgchfjachedaaGreatDoor
namespace Go.Proofs.YtomgchfjachedaaGreatDoor
open Go Go.RowKit
def setT (f : Int → Int) (l : List Int) (k : Nat) (v : Int) : List Rng := ((l.take k).filter fun c => decide (c ≤ 1114111) && decide (f c = v)).map fun c => ⟨c, untilR l c⟩
theorem setT_step {f : Int → Int} {l : List Int} {k : Nat} {x : Int} (h : l[k]? = some x) (v : Int) : setT f l (k + 1) v = setT f l k v ++ if x ≤ 1114111 ∧ f x = v then [⟨x, untilR l x⟩] else [] := by
  unfold setT
  rw [take_succ_some h, List.filter_append, List.map_append]
  congr 1
  by_cases h1 : x ≤ 1114111 <;> by_cases h2 : f x = v <;> simp [h1, h2]
theorem setT_le (f : Int → Int) (l : List Int) (k : Nat) (v : Int) : (setT f l k v).length ≤ k := by
  unfold setT
  rw [List.length_map]
  exact Nat.le_trans (List.length_filter_le _ _) (List.length_take_le _ _)
theorem setT_all {f : Int → Int} {l : List Int} {k : Nat} (h : l.length ≤ k) (v : Int) : setT f l k v = setRef f l v := by unfold setT setRef; rw [List.take_of_length_le h]
theorem cells2_set {w : World} {b : Nat} {u0 u1 : Value} {t : TypeId} (h : w.heap[b]? = some (.cells #[u0, u1] t (0, 0))) (v0 v1 : Value) :
    (w.setCell ⟨b, 0, none⟩ v0).heap[b]? = some (.cells #[v0, u1] t (0, 0)) ∧ ((w.setCell ⟨b, 0, none⟩ v0).setCell ⟨b, 1, none⟩ v1).heap[b]? = some (.cells #[v0, v1] t (0, 0)) := by
  constructor <;> simp [World.setCell, Array.getElem?_modify, h]
set_option maxRecDepth 100000 in
set_option maxHeartbeats 8000000 in
theorem r24Sets (s : Sls) (n : Nrm) (form : Int) (w : World) (hN : NormAt w s n) (htag : ∀ m ∈ n.decomp, m.tag.size ≤ 1000) (hsmall : n.decomp.length ≤ 100) : Calls Tryz.prog 15 #[s.val, .int .i64 form] w (RetSets w (charQ n form)) := by
  have hk3 := Kept.alloc (Kept.alloc (Kept.alloc (Kept.refl w) (Obj.cells #[Value.slice s.Ac s.nc s.cc, Value.slice s.Am s.nm s.cm, Value.slice s.Ae s.ne s.ce] 28)) (Obj.cells #[Value.slice none 0 0] 26)) (Obj.cells #[Value.slice none 0 0] 26)
  have HK3 := Lib.hid hk3
  have HS2 := Lib.hid (r22Second s n _ (hN.kept hk3) htag)
  have HDT := Lib.hid (fun w' (hk : Kept w w') => r21data s n w' (hN.kept hk) htag)
  have HCU := Lib.hid (fun SA sm sc R w' (hk : Kept w w') => r24cuts (usableS s n) (usableN n) SA sm sc R w' ((usableS_at hN).kept hk) (usableN_good n))
  have HCH := Lib.hid (fun c SA sm sc R w' (hk : Kept w w') => r24char s n form c SA sm sc R w' (hN.kept hk) htag)
  have HRF := Lib.hid (fun (R : List Rng) (h : ∀ x, hasR R x = secondB (usableN n) x) => cuts_const n form h)
  have HCB := Lib.hid (fun (R : List Rng) h => cuts_bound (usableN_good n) (R := R) h)
  have HLN := Lib.hid (fun (R : List Rng) => show (cutsR R (usableN n)).length ≤ 21 + 2 * R.length + 600 by
    have h1 := cutC_length R (usableN n) (usableN n).decomp.length
    rw [cutC_all (Nat.le_refl _)] at h1
    have h2 := usableN_lenD n
    omega)
  have HRE := Lib.hid (fun (R : List Rng) (hc : Canon R) (h : ∀ x, hasR R x = secondB (usableN n) x) => show R.length ≤ 148 by
    rw [canon_has hc (secR_canon (usableN n)) (fun x => by rw [h x, secR_has _ (usableN_good n)])]
    have h1 := secR_length (usableN n)
    have h2 := usableN_lenD n
    omega)
  obtain ⟨B, hB⟩ : ∃ B : Nat, B = w.heap.size := ⟨_, rfl⟩
  have HBB := Lib.hid hB
  have hb0 : (((w.alloc (Obj.cells #[Value.slice s.Ac s.nc s.cc, Value.slice s.Am s.nm s.cm, Value.slice s.Ae s.ne s.ce] 28)).alloc (Obj.cells #[Value.slice none 0 0] 26)).alloc (Obj.cells #[Value.slice none 0 0] 26)).heap[B]? = some (Obj.cells #[Value.slice s.Ac s.nc s.cc, Value.slice s.Am s.nm s.cm, Value.slice s.Ae s.ne s.ce] 28) := alloc_lift (alloc_lift (alloc_at hB))
  have HB1 := Lib.hid (show (((w.alloc (Obj.cells #[Value.slice s.Ac s.nc s.cc, Value.slice s.Am s.nm s.cm, Value.slice s.Ae s.ne s.ce] 28)).alloc (Obj.cells #[Value.slice none 0 0] 26)).alloc (Obj.cells #[Value.slice none 0 0] 26)).heap[B + 1]? = some (.cells #[Value.slice none 0 0] 26 (0, 0)) from alloc_lift (alloc_at (by simp [hB])))
  have HB2 := Lib.hid (show (((w.alloc (Obj.cells #[Value.slice s.Ac s.nc s.cc, Value.slice s.Am s.nm s.cm, Value.slice s.Ae s.ne s.ce] 28)).alloc (Obj.cells #[Value.slice none 0 0] 26)).alloc (Obj.cells #[Value.slice none 0 0] 26)).heap[B + 1 + 1]? = some (.cells #[Value.slice none 0 0] 26 (0, 0)) from alloc_at (by simp [hB]))
  have x0 := cell_of_block (i := 0) hb0 rfl
  have x1 := cell_of_block (i := 1) hb0 rfl
  have x2 := cell_of_block (i := 2) hb0 rfl
  simp only [s4_, s5_, s6_] at x0 x1 x2
  have HX0 := Lib.hid x0
  have HX1 := Lib.hid x1
  have HX2 := Lib.hid x2
  have HQC := Lib.hid (charQ_cases n form)
  obtain ⟨i0, hi, hz0, hz1, hz2⟩ := info_parts info_rng
  have HI0 := Lib.hid hi
  have HZ0 := Lib.hid hz0
  have HZ1 := Lib.hid hz1
  have HZ2 := Lib.hid hz2
  clear hi hz0 hz1 hz2 hN htag hk3 hb0 hB
  unfold Sls.val at *
  generalize hcq : charQ n form = f at *
  clear hcq
  generalize usableS s n = s1 at *
  go_enter Tryz.func15, Tryz.ntmps15
  rw [HBB.out] at x0 x1 x2
  go_wp2_with fail
  clear x0 x1 x2
  rw [← HBB.out]
  generalize ((w.alloc (Obj.cells #[Value.slice s.Ac s.nc s.cc, Value.slice s.Am s.nm s.cm, Value.slice s.Ae s.ne s.ce] 28)).alloc (Obj.cells #[Value.slice none 0 0] 26)).alloc (Obj.cells #[Value.slice none 0 0] 26) = W3 at *
  refine HS2.out.mono ?_
  rintro e w1 ⟨R, SA, sm, sc, rfl, hsc, hsm, iR, hsR, hmk, k1⟩
  have IR := Lib.hid iR
  have HSR := Lib.hid hsR
  have HCR := Lib.hid (show Canon R by rw [← hmk]; exact (makeR_spec R).1)
  have HRB := Lib.hid (canonR HCR.out)
  have HRL := Lib.hid (HRE.out R HCR.out hsR)
  have K1 := Lib.hid (Kept.trans HK3.out k1)
  have hka := Kept.alloc (Kept.refl w1) (Obj.cells #[Value.slice SA sm sc] 26)
  have KA := Lib.hid (Kept.trans K1.out hka)
  have KA1 := Lib.hid hka
  have KA3 := Lib.hid (Kept.trans k1 hka)
  obtain ⟨b6, hb6⟩ : ∃ b6 : Nat, b6 = w1.heap.size := ⟨_, rfl⟩
  have HB6 := Lib.hid (show (w1.alloc (Obj.cells #[Value.slice SA sm sc] 26)).heap[b6]? = some (.cells #[Value.slice SA sm sc] 26 (0, 0)) from alloc_at hb6)
  have HBE := Lib.hid hb6
  clear iR hsR hmk k1 hka hb6 HS2
  go_wp2_with fail
  rw [← HBE.out]
  have p0 := Kept.cell KA3.out HX0.out
  have p1 := Kept.cell KA3.out HX1.out
  have p2 := Kept.cell KA3.out HX2.out
  have p3 := cell_of_block (i := 0) HB6.out rfl
  simp only [s4_, s5_] at p3
  have HX3 := Lib.hid p3
  generalize w1.alloc (Obj.cells #[Value.slice SA sm sc] 26) = W4 at *
  refine wp_region_held_drew (S := (fun w' => w'.cell? ⟨B, 0, none⟩ = some (Value.slice s.Ac s.nc s.cc) ∧ w'.cell? ⟨B, 1, none⟩ = some (Value.slice s.Am s.nm s.cm) ∧ w'.cell? ⟨B, 2, none⟩ = some (Value.slice s.Ae s.ne s.ce) ∧ w'.cell? ⟨b6, 0, none⟩ = some (.slice SA sm sc))) (by kernel_rfl) ⟨p0, p1, p2, p3⟩ (fun hHeld => ?_)
  refine tk_ 0 ?_ rfl ?_; refine tk_ 2 ?_ rfl ?_
  refine rd_ 1 rfl (fun K hK => ?_)
  go_simp
  (refine (HDT.out _ (Kept.drew KA.out)).mono ?_; rintro e w5 ⟨rfl, k5⟩; have K5 := Lib.hid (Kept.trans (Kept.drew (Kept.refl W4)) k5); clear k5)
  go_wp2_with fail
  refine hK.out _ _ ⟨Kept.cell (Kept.trans KA3.out K5.out) HX0.out, Kept.cell (Kept.trans KA3.out K5.out) HX1.out, Kept.cell (Kept.trans KA3.out K5.out) HX2.out, Kept.cell K5.out HX3.out⟩ (fun hHeld => ?_)
  clear hK K
  (try simp only [Act.put, s1_, s2_, s3_, s4_, s5_, s6_])
  refine rd_ 3 rfl (fun K hK => ?_)
  go_simp
  (refine (HCU.out SA sm sc R _ (Kept.trans KA.out K5.out) (by omega) (IR.out.kept (Kept.trans KA1.out K5.out)) HRB.out).mono ?_; rintro e w6 ⟨A6, n6, c6, rfl, le6, i6, k6⟩; have I6 := Lib.hid i6; have hn6 : n6 ≤ 1000 := (by rw [i6.1]; have := HLN.out R; have := HRL.out; omega); have HN6 := Lib.hid i6.1; have K6 := Lib.hid (Kept.trans K5.out k6); clear i6 k6)
  go_wp2_with fail
  refine hK.out _ _ ⟨Kept.cell (Kept.trans KA3.out K6.out) HX0.out, Kept.cell (Kept.trans KA3.out K6.out) HX1.out, Kept.cell (Kept.trans KA3.out K6.out) HX2.out, Kept.cell K6.out HX3.out⟩ (fun hHeld => ?_)
  clear hK K
  (try simp only [Act.put, s1_, s2_, s3_, s4_, s5_, s6_])
  refine tk_ 4 ?_ rfl ?_
  refine wpAnyH_done (by kernel_rfl) ?_ _
  clear p0 p1 p2 p3
  have HZC := Lib.hid (zero_cut R (usableN n))
  have HCC := Lib.hid (HRF.out R HSR.out)
  have HBD := Lib.hid (HCB.out R HRB.out)
  have HCH2 := Lib.hid (fun c w' (hk : Kept W4 w') => HCH.out c SA sm sc R w' (Kept.trans KA.out hk) (by omega) (IR.out.kept (Kept.trans KA1.out hk)) HSR.out)
  clear HRF HCB HLN HRE HCU HCH HDT
  generalize cutsR R (usableN n) = L at *
  go_wp2_with fail
  go_loopw [8, 9, 10] (fun p q i wr => ∃ k : Nat, k ≤ n6 ∧ i = .int .i64 k ∧ OwnR wr w6.heap.size p (setT f L k 2) ∧ OwnR wr w6.heap.size q (setT f L k 3) ∧ (∀ g, p.ownBlock = some g → q.ownBlock ≠ some g) ∧ Kept w6 wr) (fun _ _ i _ => n6 - (intOf i).toNat)
  case atStart => exact ⟨0, Nat.zero_le _, rfl, (World.ownsRow_nil _ _ _ _ : OwnR w6 w6.heap.size (.slice none 0 0) []), (World.ownsRow_nil _ _ _ _ : OwnR w6 w6.heap.size (.slice none 0 0) []), (fun g h => by cases h), Kept.refl _⟩
  case round =>
    obtain ⟨k, hk, rfl, hp, hq, hne, hkw⟩ := hrel
    have HO := Lib.hid hp
    have HO2 := Lib.hid hq
    have HNE := Lib.hid hne
    have HKW := Lib.hid hkw
    have hsz := hkw.size
    have hl1 := setT_le f L k 2
    have hl2 := setT_le f L k 3
    clear hp hq hne hkw
    by_cases hlt : k < n6
    · obtain ⟨b, off, x, rfl, hx, cx⟩ := int_at (I6.out.kept HKW.out) hlt
      have HST2 := Lib.hid (setT_step (f := f) hx 2)
      have HST3 := Lib.hid (setT_step (f := f) hx 3)
      have hqx := HQC.out x
      have HCX := Lib.hid cx
      clear hx
      by_cases hbig : x ≤ 1114111
      · have HQ := Lib.hid (HCH2.out x)
        have HUN := Lib.hid (fun w' (hk : Kept wr w') => r24until (some ⟨b, off, none⟩) n6 c6 L x w' (by omega) (I6.out.kept (Kept.trans HKW.out hk)) HBD.out)
        generalize untilR L x = u at *
        have hw : decide (x > 1114111) = false := decide_eq_false (by omega)
        go_wp2_with fail
        refine wp_region_held_drew (S := (fun w' => w'.cell? ⟨b, off + k, none⟩ = some (.int .i64 x))) (by kernel_rfl) cx (fun hHeld => ?_)
        refine tk_ 0 ?_ rfl ?_; refine tk_ 1 ?_ rfl ?_; refine tk_ 2 ?_ rfl ?_; refine tk_ 3 ?_ rfl ?_; refine tk_ 4 ?_ rfl ?_; refine tk_ 5 ?_ rfl ?_; refine tk_ 6 ?_ rfl ?_; refine tk_ 7 ?_ rfl ?_; refine tk_ 8 ?_ rfl ?_
        refine wpAnyH_ready (rs := [9, 11]) (by kernel_rfl) (by simp) ?_
        refine AllReadyH.cons rfl (fun K hK => ?_) (AllReadyH.cons rfl (fun K hK => ?_) AllReadyH.nil)
        rotate_left
        focus
          go_simp
          have HZB := Lib.hid (show ((wr.alloc (Obj.cells #[Value.int .i64 0, Value.int .i64 0] 81)).drew).heap[wr.heap.size]? = some (.cells #[Value.int .i64 0, Value.int .i64 0] 81 (0, 0)) from heap_alloc_new wr _)
          have HZK := Lib.hid (show Kept wr (wr.alloc (Obj.cells #[Value.int .i64 0, Value.int .i64 0] 81)).drew from Kept.drew (Kept.alloc (Kept.refl wr) _))
          refine hK.out _ _ (Kept.cell HZK.out HCX.out) (fun hHeld => ?_)
          clear hK K
          (try simp only [Act.put, s1_, s2_, s3_, s4_, s5_, s6_])
          refine rd_ 9 rfl (fun K hK => ?_)
          go_simp
          (refine (HUN.out _ HZK.out).mono ?_; rintro e w7 ⟨rfl, k7⟩; have K7 := Lib.hid (Kept.trans HZK.out k7); have HZ7 := Lib.hid ((k7.block _ (block_lt HZB.out)).trans HZB.out); clear k7)
          go_wp2_with fail
          refine hK.out _ _ (Kept.cell K7.out HCX.out) (fun hHeld => ?_)
          clear hK K
          (try simp only [Act.put, s1_, s2_, s3_, s4_, s5_, s6_])
          refine tk_ 10 ?_ rfl ?_
          refine rd_ 12 rfl (fun K hK => ?_)
          have f0 := frozen_of_block (i := 0) HZ7.out; have f1 := frozen_of_block (i := 1) HZ7.out; have g0 := cell_of_block (i := 0) HZ7.out rfl; have g1 := cell_of_block (i := 1) HZ7.out rfl; simp only [s4_, s5_, s6_] at g0 g1; have e1 := cells2_set HZ7.out (.int .i64 x) (.int .i64 u); have f2 := frozen_of_block (i := 1) e1.1; have g2 := cell_of_block (i := 1) e1.1 rfl; simp only [s4_, s5_, s6_] at g2; have HTB := Lib.hid e1.2; have K8 := Lib.hid (show Kept wr ((w7.setCell ⟨wr.heap.size, 0, none⟩ (.int .i64 x)).setCell ⟨wr.heap.size, 1, none⟩ (.int .i64 u)) from Kept.setCell (Kept.setCell K7.out (Nat.le_refl _) _) (Nat.le_refl _) _)
          go_simp
          refine hK.out _ _ (Kept.cell K8.out HCX.out) (fun hHeld => ?_)
          clear hK K
          (try simp only [Act.put, s1_, s2_, s3_, s4_, s5_, s6_])
          refine wpAnyH_done (by kernel_rfl) ?_ _
          obtain ⟨bx, hbx⟩ : ∃ bx : Nat, bx = wr.heap.size := ⟨_, rfl⟩
          rw [← hbx] at HTB K8 ⊢
          have hszb : w6.heap.size ≤ bx := by omega
          clear cx hbx hHeld f0 f1 g0 g1 f2 g2 e1 HZ7 HZB HZK K7
          generalize (w7.setCell ⟨bx, 0, none⟩ (.int .i64 x)).setCell ⟨bx, 1, none⟩ (.int .i64 u) = w8 at *
        rotate_left
        focus
          go_simp
          (refine (HUN.out _ (Kept.drew (Kept.refl wr))).mono ?_; rintro e w7 ⟨rfl, k7⟩; have K7 := Lib.hid (Kept.trans (Kept.drew (Kept.refl wr)) k7); clear k7)
          go_wp2_with fail
          refine hK.out _ _ (Kept.cell K7.out HCX.out) (fun hHeld => ?_)
          clear hK K
          (try simp only [Act.put, s1_, s2_, s3_, s4_, s5_, s6_])
          refine tk_ 10 ?_ rfl ?_
          refine rd_ 11 rfl (fun K hK => ?_)
          skip
          go_simp
          refine hK.out _ _ (Kept.cell (Kept.alloc K7.out (Obj.cells #[Value.int .i64 0, Value.int .i64 0] 81)) HCX.out) (fun hHeld => ?_)
          clear hK K
          (try simp only [Act.put, s1_, s2_, s3_, s4_, s5_, s6_])
          refine rd_ 12 rfl (fun K hK => ?_)
          skip
          go_simp
          refine hK.out _ _ (Kept.cell (Kept.alloc K7.out (Obj.cells #[Value.int .i64 x, Value.int .i64 u] 81)) HCX.out) (fun hHeld => ?_)
          clear hK K
          (try simp only [Act.put, s1_, s2_, s3_, s4_, s5_, s6_])
          refine wpAnyH_done (by kernel_rfl) ?_ _
          have HTB := Lib.hid (show (w7.alloc (Obj.cells #[Value.int .i64 x, Value.int .i64 u] 81)).heap[w7.heap.size]? = some (Obj.cells #[Value.int .i64 x, Value.int .i64 u] 81) from alloc_at rfl)
          have K8 := Lib.hid (Kept.alloc K7.out (Obj.cells #[Value.int .i64 x, Value.int .i64 u] 81))
          obtain ⟨bx, hbx⟩ : ∃ bx : Nat, bx = w7.heap.size := ⟨_, rfl⟩
          rw [← hbx] at HTB ⊢
          have hszb : w6.heap.size ≤ bx := by have := K7.out.size; omega
          clear cx hbx hHeld K7
          generalize w7.alloc (Obj.cells #[Value.int .i64 x, Value.int .i64 u] 81) = w8 at *
        all_goals
          have K48 := Lib.hid (Kept.trans K6.out (Kept.trans HKW.out K8.out))
          have p0 := Kept.cell (Kept.trans KA3.out K48.out) HX0.out
          have p1 := Kept.cell (Kept.trans KA3.out K48.out) HX1.out
          have p2 := Kept.cell (Kept.trans KA3.out K48.out) HX2.out
          have p3 := Kept.cell K48.out HX3.out
          have p4 := Kept.cell K8.out HCX.out
          go_wp2_with fail
          refine wp_region_held_drew (S := (fun w' => w'.cell? ⟨B, 0, none⟩ = some (Value.slice s.Ac s.nc s.cc) ∧ w'.cell? ⟨B, 1, none⟩ = some (Value.slice s.Am s.nm s.cm) ∧ w'.cell? ⟨B, 2, none⟩ = some (Value.slice s.Ae s.ne s.ce) ∧ w'.cell? ⟨b6, 0, none⟩ = some (.slice SA sm sc) ∧ w'.cell? ⟨b, off + k, none⟩ = some (.int .i64 x))) (by kernel_rfl) ⟨p0, p1, p2, p3, p4⟩ (fun hHeld => ?_)
          refine tk_ 0 ?_ rfl ?_; refine tk_ 1 ?_ rfl ?_; refine tk_ 2 ?_ rfl ?_; refine tk_ 3 ?_ rfl ?_; refine tk_ 4 ?_ rfl ?_; refine tk_ 5 ?_ rfl ?_; refine tk_ 6 ?_ rfl ?_
          refine rd_ 7 rfl (fun K hK => ?_)
          go_simp
          (refine (HQ.out _ (Kept.drew K48.out)).mono ?_; rintro e w9 ⟨rfl, k9⟩; have K9 := Lib.hid (Kept.trans (Kept.drew (Kept.refl w8)) k9); have K49 := Lib.hid (Kept.trans K48.out K9.out); clear k9)
          go_wp2_with fail
          refine hK.out _ _ ⟨Kept.cell (Kept.trans KA3.out K49.out) HX0.out, Kept.cell (Kept.trans KA3.out K49.out) HX1.out, Kept.cell (Kept.trans KA3.out K49.out) HX2.out, Kept.cell K49.out HX3.out, Kept.cell (Kept.trans K8.out K9.out) HCX.out⟩ (fun hHeld => ?_)
          clear hK K
          (try simp only [Act.put, s1_, s2_, s3_, s4_, s5_, s6_])
          refine wpAnyH_done (by kernel_rfl) ?_ _
          clear p0 p1 p2 p3 p4
          have K69 := Lib.hid (Kept.trans HKW.out (Kept.trans K8.out K9.out))
          have HT9 := Lib.hid ((K9.out.block _ (block_lt HTB.out)).trans HTB.out)
          have HA9 := Lib.hid (show OwnR w9 w6.heap.size u8 (setT f L k 2) from own_butK HO.out ((Kept.trans K8.out K9.out).but []) (by simp))
          have HB9 := Lib.hid (show OwnR w9 w6.heap.size u9 (setT f L k 3) from own_butK HO2.out ((Kept.trans K8.out K9.out).but []) (by simp))
          have hs9 := K69.out.size
          generalize f x = q at *
          rcases hqx with rfl | rfl | rfl
          · go_wp2_with fail
            go_roundw
            case rel => exact ⟨k + 1, by omega, by go_num, by rw [HST2.out, if_neg (by omega), List.append_nil]; exact HA9.out, by rw [HST3.out, if_neg (by omega), List.append_nil]; exact HB9.out, HNE.out, K69.out⟩
            case measure => simp [intOf]; omega
          · have h0 := cell_of_block (i := 0) HT9.out rfl
            have h1 := cell_of_block (i := 1) HT9.out rfl
            simp only [s4_, s5_, s6_] at h0 h1
            go_wp2_with (at_builtin; refine wpList_append_own_at _ rfl _ _ 24 rfl w6.heap.size 81 i0 (.agg #[.int .i64 0, .int .i64 0]) 2 16 Tryz.underlying24 HI0.out HZ0.out HZ1.out HZ2.out rfl (by decide) _ _ _ rfl (HA9.out.alloc _) ⟨w9.heap.size, 0, none⟩ 1 1 [.int .i64 x, .int .i64 u] rfl rfl (cell_two_new rfl) (by simp [Value.oneCell']) (by unfold maxLen; omega) (by omega) (by simp; omega) ?_; intro v1 w2 hown1 hg1 _ hob1)
            have hg1 : (w9.alloc (Obj.cells #[Value.int .i64 x, Value.int .i64 u] 81)).grownBy w2 u8.ownBlock := hg1
            have hOX := own_butK (HB9.out.alloc (Obj.cells #[Value.int .i64 x, Value.int .i64 u] 81)) (grown_butK hg1) (fun g hg hm => HNE.out g (by simpa using hm) hg)
            have hlt2 := World.ownsRow.lt HB9.out
            have hlt1 := World.ownsRow.lt HA9.out
            have HOA := Lib.hid (show OwnR w2 w6.heap.size v1 (setT f L (k + 1) 2) by
              rw [HST2.out, if_pos ⟨hbig, rfl⟩]
              have := hown1
              simpa [OwnR, encR] using this)
            have HOB := Lib.hid (show OwnR w2 w6.heap.size u9 (setT f L (k + 1) 3) by
              rw [HST3.out, if_neg (by omega), List.append_nil]
              exact hOX)
            have HNE2 := Lib.hid (show ∀ g, v1.ownBlock = some g → u9.ownBlock ≠ some g from fun g h1 h2 => by
              rcases hob1 with e | e
              · rw [e] at h1; exact HNE.out g h1 h2
              · rw [e] at h1
                injection h1 with hg
                have := (hlt2 g h2).2
                simp only [World.size_alloc] at hg
                omega)
            have HKW2 := Lib.hid ((Kept.alloc K69.out (Obj.cells #[Value.int .i64 x, Value.int .i64 u] 81)).grown hg1 (by simp; omega) (fun q e => (hlt1 q e).1))
            clear hown1 hg1 hOX hob1 hlt1 hlt2 h0 h1
            go_wp2_with fail
            go_roundw
            case rel => exact ⟨k + 1, by omega, by go_num, HOA.out, HOB.out, HNE2.out, HKW2.out⟩
            case measure => simp [intOf]; omega
          · have h0 := cell_of_block (i := 0) HT9.out rfl
            have h1 := cell_of_block (i := 1) HT9.out rfl
            simp only [s4_, s5_, s6_] at h0 h1
            go_wp2_with (at_builtin; refine wpList_append_own_at _ rfl _ _ 24 rfl w6.heap.size 81 i0 (.agg #[.int .i64 0, .int .i64 0]) 2 16 Tryz.underlying24 HI0.out HZ0.out HZ1.out HZ2.out rfl (by decide) _ _ _ rfl (HB9.out.alloc _) ⟨w9.heap.size, 0, none⟩ 1 1 [.int .i64 x, .int .i64 u] rfl rfl (cell_two_new rfl) (by simp [Value.oneCell']) (by unfold maxLen; omega) (by omega) (by simp; omega) ?_; intro v1 w2 hown1 hg1 _ hob1)
            have hg1 : (w9.alloc (Obj.cells #[Value.int .i64 x, Value.int .i64 u] 81)).grownBy w2 u9.ownBlock := hg1
            have hOX := own_butK (HA9.out.alloc (Obj.cells #[Value.int .i64 x, Value.int .i64 u] 81)) (grown_butK hg1) (fun g hg hm => HNE.out g hg (by simpa using hm))
            have hlt2 := World.ownsRow.lt HB9.out
            have hlt1 := World.ownsRow.lt HA9.out
            have HOA := Lib.hid (show OwnR w2 w6.heap.size u8 (setT f L (k + 1) 2) by
              rw [HST2.out, if_neg (by omega), List.append_nil]
              exact hOX)
            have HOB := Lib.hid (show OwnR w2 w6.heap.size v1 (setT f L (k + 1) 3) by
              rw [HST3.out, if_pos ⟨hbig, rfl⟩]
              have := hown1
              simpa [OwnR, encR] using this)
            have HNE2 := Lib.hid (show ∀ g, u8.ownBlock = some g → v1.ownBlock ≠ some g from fun g h1 h2 => by
              rcases hob1 with e | e
              · rw [e] at h2; exact HNE.out g h1 h2
              · rw [e] at h2
                injection h2 with hg
                have := (hlt1 g h1).2
                simp only [World.size_alloc] at hg
                omega)
            have HKW2 := Lib.hid ((Kept.alloc K69.out (Obj.cells #[Value.int .i64 x, Value.int .i64 u] 81)).grown hg1 (by simp; omega) (fun q e => (hlt2 q e).1))
            clear hown1 hg1 hOX hob1 hlt1 hlt2 h0 h1
            go_wp2_with fail
            go_roundw
            case rel => exact ⟨k + 1, by omega, by go_num, HOA.out, HOB.out, HNE2.out, HKW2.out⟩
            case measure => simp [intOf]; omega
      · have hw : decide (x > 1114111) = true := decide_eq_true (by omega)
        go_wp2_with fail
        go_roundw
        case rel => exact ⟨k + 1, by omega, by go_num, by rw [HST2.out, if_neg (by omega), List.append_nil]; exact HO.out, by rw [HST3.out, if_neg (by omega), List.append_nil]; exact HO2.out, HNE.out, HKW.out⟩
        case measure => simp [intOf]; omega
    · rw [setT_all (by have := HN6.out; omega)] at HO HO2 hl1 hl2
      obtain ⟨X2, hX2⟩ : ∃ X2, X2 = setRef f L 2 := ⟨_, rfl⟩
      obtain ⟨X3, hX3⟩ : ∃ X3, X3 = setRef f L 3 := ⟨_, rfl⟩
      have HH2 := Lib.hid (show ∀ x, hasR (makeR X2) x = (validB x && decide (f x = 2)) from fun x => by rw [has_make, hX2]; exact setRef_has HZC.out HCC.out x 2)
      have HH3 := Lib.hid (show ∀ x, hasR (makeR X3) x = (validB x && decide (f x = 3)) from fun x => by rw [has_make, hX3]; exact setRef_has HZC.out HCC.out x 3)
      rw [← hX2] at HO hl1
      rw [← hX3] at HO2 hl2
      clear hX2 hX3
      obtain ⟨A10, c10, hv10, hle10, hI10⟩ := Sl.of_own (k := 2) (enc := encR) (fun _ => rfl) HO.out
      obtain ⟨A11, c11, hv11, hle11, hI11⟩ := Sl.of_own (k := 2) (enc := encR) (fun _ => rfl) HO2.out
      have HC2 := Lib.hid (makeR_spec X2).1
      have HC3 := Lib.hid (makeR_spec X3).1
      have HL2 := Lib.hid (makeR_length X2)
      have HL3 := Lib.hid (makeR_length X3)
      obtain ⟨q2, hq2⟩ : ∃ q2 : Nat, q2 = X2.length := ⟨_, rfl⟩
      obtain ⟨q3, hq3⟩ : ∃ q3 : Nat, q3 = X3.length := ⟨_, rfl⟩
      rw [← hq2] at hv10 hI10 hl1 HL2
      rw [← hq3] at hv11 hI11 hl2 HL3
      have HM2 := Lib.hid (r02Make A10 q2 c10 X2 wr (by omega) hI10)
      have HM3 := Lib.hid (fun w' (hk : Kept wr w') => r02Make A11 q3 c11 X3 w' (by omega) (hI11.kept hk))
      rw [refMake_eq] at HM2 HM3
      clear hI10 hI11 hq2 hq3 hle10 hle11 HO HO2
      subst hv10
      subst hv11
      generalize makeR X2 = Y2 at *
      generalize makeR X3 = Y3 at *
      go_wp2_with fail
      refine HM2.out.mono ?_
      rintro e w12 ⟨A12, n12, c12, rfl, le12, i12, k12⟩
      have I12 := Lib.hid i12
      have K12 := Lib.hid k12
      clear i12 k12
      go_wp2_with fail
      refine (HM3.out _ K12.out).mono ?_
      rintro e w13 ⟨A13, n13, c13, rfl, le13, i13, k13⟩
      have I13 := Lib.hid i13
      have I12 := Lib.hid (I12.out.kept k13)
      have KK := Lib.hid (Kept.trans (Kept.trans (Kept.trans KA3.out K6.out) HKW.out) (Kept.trans K12.out k13))
      clear i13 k13
      have e1 := (KK.out.block _ (block_lt HB1.out)).trans HB1.out
      have e2 := (KK.out.block _ (block_lt HB2.out)).trans HB2.out
      have HE1 := Lib.hid e1
      have f1 := frozen_of_block (i := 0) e1
      have g1 := cell_of_block (i := 0) e1 rfl
      simp only [s4_, s5_] at g1
      have e3 := (KeptBut.setCell (S := [B + 1]) w13 (p := ⟨B + 1, 0, none⟩) (by simp) (.slice A12 n12 c12)).block (B + 1 + 1) (block_lt e2) (by simp) |>.trans e2
      have f2 := frozen_of_block (i := 0) e3
      have g2 := cell_of_block (i := 0) e3 rfl
      simp only [s4_, s5_] at g2
      have HE3 := Lib.hid e3
      clear e1 e2 e3
      go_wp2_with fail
      have h1 := heap_setCell_one (v := .slice A12 n12 c12) HE1.out
      have h2 := heap_setCell_one (v := .slice A13 n13 c13) HE3.out
      have h3 := (KeptBut.setCell (S := [B + 1 + 1]) (w13.setCell ⟨B + 1, 0, none⟩ (.slice A12 n12 c12)) (p := ⟨B + 1 + 1, 0, none⟩) (by simp) (.slice A13 n13 c13)).block (B + 1) (block_lt h1) (by simp) |>.trans h1
      have y1 := cell_of_block (i := 0) h3 rfl
      have y2 := cell_of_block (i := 0) h2 rfl
      simp only [s4_, s5_] at y1 y2
      clear g1 g2 f1 f2
      refine bodyPost_ret (v := .tuple #[.agg #[.slice A12 n12 c12], .agg #[.slice A13 n13 c13]]) (by simp [results, Tryz.results15, go_sem, y1, y2]) rfl ⟨Y2, A12, n12, c12, Y3, A13, n13, c13, rfl, le12, le13, by rw [I12.out.1]; have := HL2.out; omega, by rw [I13.out.1]; have := HL3.out; omega, rngs_setR (rngs_setR I12.out HE1.out) HE3.out, rngs_setR (rngs_setR I13.out HE1.out) HE3.out, HC2.out, HC3.out, HH2.out, HH3.out, ?_⟩
      exact Kept.setCell (Kept.setCell (Kept.trans HK3.out KK.out) (by rw [← HBB.out]; show B ≤ B + 1; omega) _) (by rw [← HBB.out]; show B ≤ B + 1 + 1; omega) _
end Go.Proofs.YtomgchfjachedaaGreatDoor
