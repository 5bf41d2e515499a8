/- law25.NormstreamLimits returns true. -/
import Derived.Test.YtomgchfjachedaaGreatDoorKSq
import Derived.Test.YtomgchfjachedaaGreatDoorKStrH
namespace Go.Proofs.YtomgchfjachedaaGreatDoor
open Go Go.RowKit
theorem lim_norm (w : World) : let W0 := (w.alloc (Obj.cells #[.int .i64 770, .int .i64 770, .int .i64 230] 64)).alloc (Obj.cells #[.slice (some ⟨w.heap.size, 0, none⟩) 1 1, .slice none 0 0, .slice none 0 0] 28)
    NormAt W0 ⟨some ⟨w.heap.size, 0, none⟩, 1, 1, none, 0, 0, none, 0, 0⟩ limN ∧ Kept w W0 ∧ W0.heap[w.heap.size + 1]? = some (.cells #[.slice (some ⟨w.heap.size, 0, none⟩) 1 1, .slice none 0 0, .slice none 0 0] 28 (0, 0)) := by
  intro W0
  have b0 : W0.heap[w.heap.size]? = some (.cells #[.int .i64 770, .int .i64 770, .int .i64 230] 64 (0, 0)) := alloc_lift (heap_alloc_new _ _)
  refine ⟨⟨Nat.le_refl _, Nat.le_refl _, Nat.le_refl _, show 1 ≤ 1000 by decide, Nat.zero_le _, Nat.zero_le _, aspan_1 b0, ⟨rfl, fun h => by simp at h⟩, Sl.nil, fun m hm => by simp [limN] at hm⟩, Kept.alloc (Kept.alloc (Kept.refl w) _) _, alloc_at (by simp)⟩
theorem lim_new {w w' : World} {e : Ending} (h : RetNS w limN 2 e w') : ∃ (b : Nat) (F : Nat → Prop), e = .returned (.tuple #[.pointer (some ⟨b, 0, none⟩), .int .i64 0]) ∧ StrAt w' w.heap.size b limN 2 [] F ∧ Kept w w' := new_ok (by decide) limN_check h
theorem lim_w1 {w w' : World} {B0 b q : Nat} {F : Nat → Prop} {e : Ending} (h : RetWr w B0 b limN 2 [] (List.replicate q 770) F e w') (hq : q ≤ 65536) : ∃ (A : Option Addr) (c : Nat) (F' : Nat → Prop), e = .returned (.tuple #[.slice A 0 c, .int .i64 0]) ∧ StrAt w' B0 b limN 2 (List.replicate q 770) F' ∧ (∀ i, F' i → F i ∨ w.heap.size ≤ i) ∧ KF F w w' := by
  obtain ⟨A, m, c, F', rfl, _, hI, _, hS, hF, hK⟩ := wr_ok h (by simpa using hq)
  rw [lim_out] at hI
  rw [lim_pend, List.nil_append] at hS
  obtain rfl : m = 0 := hI.1.1
  exact ⟨A, c, F', rfl, hS, hF, hK⟩
theorem lim_w2 {w w' : World} {B0 b q r : Nat} {F : Nat → Prop} {e : Ending} (h : RetWr w B0 b limN 2 (List.replicate q 770) (List.replicate r 770) F e w') (hq : q + r = 65536) : ∃ (A : Option Addr) (c : Nat) (F' : Nat → Prop), e = .returned (.tuple #[.slice A 0 c, .int .i64 0]) ∧ StrAt w' B0 b limN 2 (List.replicate (q + r) 770) F' ∧ (∀ i, F' i → F i ∨ w.heap.size ≤ i) ∧ KF F w w' := by
  obtain ⟨A, m, c, F', rfl, _, hI, _, hS, hF, hK⟩ := wr_ok h (by simp; omega)
  rw [lim_out] at hI
  rw [lim_pend, List.replicate_append_replicate] at hS
  obtain rfl : m = 0 := hI.1.1
  exact ⟨A, c, F', rfl, hS, hF, hK⟩
theorem lim_w3 {w w' : World} {B0 b q r : Nat} {F : Nat → Prop} {e : Ending} (h : RetWr w B0 b limN 2 (List.replicate q 770) (List.replicate r 770) F e w') (hq : q + r = 65537) : e = .returned (.tuple #[.slice none 0 0, .int .i64 13]) ∧ StrOff w' b ∧ KF F w w' := by
  unfold RetWr at h
  rw [if_pos (by rw [lim_pend, List.length_append, List.length_replicate, List.length_replicate]; omega)] at h
  exact h
set_option maxRecDepth 100000 in
set_option maxHeartbeats 8000000 in
theorem law_limits25 (x : Int) (bb : Bool) (w : World) (hx : 0 ≤ x ∧ x ≤ 65535) (hG : Glob w) : Calls Tryz.prog 9 #[.int .u16 x, .bool bb] w (RetB w true) := by
  have HG := Lib.hid hG
  clear hG
  obtain ⟨hx0, hx1⟩ := hx
  by_cases hr : x % 32768 = 0
  · skip
    obtain ⟨q, rfl⟩ := Int.eq_ofNat_of_zero_le hx0
    have hq : q ≤ 65535 := by omega
    cases bb
    · skip
      obtain ⟨N, hNN⟩ : ∃ N : Nat, N = 65536 := ⟨_, rfl⟩
      have HNN := Lib.hid hNN
      clear hNN
      obtain ⟨hN, hK0, hB⟩ := lim_norm w
      have HN := Lib.hid hN
      have HK0 := Lib.hid hK0
      have q0 := cell_of_block (i := 0) hB rfl
      have q1 := cell_of_block (i := 1) hB rfl
      have q2 := cell_of_block (i := 2) hB rfl
      simp only [s4_, s5_, s6_] at q0 q1 q2
      clear hN hK0 hB
      go_enter Tryz.func9, Tryz.ntmps9
      go_wp2_with fail
      have HNE := Lib.hid (new_any _ _ 2 _ HN.out (HG.out.kept HK0.out))
      unfold Sls.val at HNE
      refine HNE.out.mono ?_
      rintro e w1 hr
      obtain ⟨b, F, rfl, hS, hk1⟩ := lim_new hr
      generalize hW0 : (w.alloc (Obj.cells #[.int .i64 770, .int .i64 770, .int .i64 230] 64)).alloc (Obj.cells #[.slice (some ⟨w.heap.size, 0, none⟩) 1 1, .slice none 0 0, .slice none 0 0] 28) = W0 at *
      clear hW0
      obtain ⟨B0, hB0⟩ : ∃ B0 : Nat, B0 = W0.heap.size := ⟨_, rfl⟩
      rw [← hB0] at hS
      have HB0 := Lib.hid (show w.heap.size ≤ B0 by rw [hB0]; exact HK0.out.size)
      have K1 := Lib.hid (Kept.trans HK0.out hk1)
      have HB1 := Lib.hid (show B0 ≤ w1.heap.size by rw [hB0]; exact hk1.size)
      have SN := Lib.hid hS
      clear HNE hr hS hk1 hB0 q0 q1 q2
      obtain ⟨base, hbase⟩ : ∃ base : Nat, base = w1.heap.size := ⟨_, rfl⟩
      have hb1 : base ≤ w1.heap.size := by omega
      have hb2 : w1.heap.size ≤ base := by omega
      clear hbase
      go_wp2_with fail
      go_loopw [9, 10] (fun p i wr => ∃ k : Nat, k ≤ N ∧ i = .int .i64 k ∧ OwnI wr base p (List.replicate k 770) ∧ Kept w1 wr) (fun _ i _ => N - (intOf i).toNat)
      case atStart => exact ⟨0, Nat.zero_le _, rfl, (World.ownsRow_nil _ _ _ _ : OwnI w1 base (.slice none 0 0) []), Kept.refl _⟩
      case round =>
        obtain ⟨k, hk, rfl, hown, hkw⟩ := hrel
        have HO := Lib.hid hown
        have KW := Lib.hid hkw
        have hsz := hkw.size
        clear hown hkw
        by_cases hlt : k < N
        · have hki : (k : Int) < 65536 := by have := HNN.out; omega
          have HKA := Lib.hid (Kept.alloc (Kept.refl wr) (Obj.cells #[.int .i64 770] 3))
          go_wp2_with (at_builtin; refine app_ints rfl _ _ rfl base _ _ rfl (by exact World.ownsRow.alloc HO.out _) _ _ _ [(770 : Int)] rfl (by exact Ints.alloc_ (xs := [(770 : Int)]) rfl rfl) (by have := HNN.out; simp; omega) (by simp; omega) ?_; intro v7 w7 hown7 hgrow7 hat7; have HO7 := Lib.hid hown7; have hk7 : Kept w1 w7 := (Kept.trans KW.out HKA.out).grown hgrow7 (by simp; omega) (fun q e => by have := (World.ownsRow.lt HO.out q e).1; omega); have HK7 := Lib.hid hk7; clear hown7 hgrow7 hat7 hk7)
          go_roundw
          case rel => exact ⟨k + 1, by omega, by go_num, by rw [List.replicate_succ']; exact HO7.out, HK7.out⟩
          case measure => simp [intOf]; omega
        · have hkn : k = N := by omega
          have hki : ¬ (k : Int) < 65536 := by have := HNN.out; omega
          have hqN : q ≤ N := by have := HNN.out; omega
          have hNb : N ≤ 65537 := by have := HNN.out; omega
          rw [hkn] at HO
          clear hkn
          obtain ⟨Al, cl, rfl, hle, hIl⟩ := OwnI.sl HO.out
          rw [List.length_replicate] at hIl hle ⊢
          have hfar := HO.out.far
          have HF := Lib.hid (show ∀ a, Al = some a → w1.heap.size ≤ a.block from fun a ha => by have h1 := (OwnI.inHeap HO.out).2 a ha; omega)
          have HIL := Lib.hid hIl
          have HLE := Lib.hid hle
          have hs1 := run_take1 Al N cl q (by omega)
          have hs2 := run_drop1 Al N cl q (by omega)
          have I1 := Lib.hid (show Ints wr Al q (List.replicate q 770) by have h := Ints.front_ (q := q) hIl (by omega); rw [List.take_replicate, Nat.min_eq_left (by omega)] at h; exact h)
          have I2 := Lib.hid (fun w' (hk : KF F wr w') => show Ints w' (dropA Al cl q) (N - q) (List.replicate (N - q) 770) by have h := Ints.drop_ (k := q) (m := cl) (hIl.kf hk (fun _ a ha hf => by have h1 := HF.out a ha; have h2 := SN.out.lt2 _ hf; omega)) (by omega) hle; rw [List.drop_replicate] at h; exact h)
          have I1b := Lib.hid (show 0 < N - q → ∃ b o, dropA Al cl q = some ⟨b, o, none⟩ ∧ b < wr.heap.size from fun h0 => by
            obtain ⟨b', o', e', hc'⟩ := (Ints.drop_ (k := q) (m := cl) hIl (by omega) hle).2 h0
            exact ⟨b', o', e', cell_lt (hc' 0 770 (by rw [List.drop_replicate, List.getElem?_replicate, if_pos (by omega)]) 0 _ rfl)⟩)
          clear hIl hle hfar
          go_wp2_with fail
          refine (write_any B0 b limN 2 [] F Al q cl (List.replicate q 770) wr (SN.out.kept KW.out) (GlobB.of HG.out (Kept.trans K1.out KW.out) HB0.out) (Nat.le_trans HB1.out KW.out.size) (by simp) (by omega) I1.out (fun _ a ha hf => by have h1 := HF.out a ha; have h2 := SN.out.lt2 _ hf; omega)).mono ?_
          rintro e w2 hr
          obtain ⟨A2, c2, F2, rfl, hS, hsub, hkf⟩ := lim_w1 hr (by omega)
          have S2 := Lib.hid hS
          have K2 := Lib.hid (KF.kept (Kept.trans K1.out KW.out) hkf (fun i hi => SN.out.lo i hi) HB0.out)
          have HI2 := Lib.hid (I2.out w2 hkf)
          have HF2 := Lib.hid (show ∀ a, dropA Al cl q = some a → 0 < N - q → ¬ F2 a.block from fun a ha h0 hf => by
            have h1 := dropA_far HF.out ha
            have h3 := HI2.out.lt h0 a ha
            rcases hsub _ hf with h2 | h2
            · have := SN.out.lt2 _ h2; omega
            · obtain ⟨bq, oq, eq, hcq⟩ := I1b.out h0
              have h4 : a.block < wr.heap.size := by rw [eq] at ha; injection ha with ha; rw [← ha]; exact hcq
              omega)
          have HB2 := Lib.hid (Nat.le_trans (Nat.le_trans HB1.out KW.out.size) hkf.size)
          clear hr hS hsub hkf
          go_wp2_with fail
          refine (write_any B0 b limN 2 (List.replicate q 770) F2 (dropA Al cl q) (N - q) (cl - q) (List.replicate (N - q) 770) w2 S2.out (GlobB.of HG.out K2.out HB0.out) HB2.out (by rw [List.length_replicate]; omega) (by omega) HI2.out (fun h0 a ha => HF2.out a ha h0)).mono ?_
          rintro e w3 hr
          obtain ⟨A3, c3, F3, rfl, hS, hsub, hkf⟩ := lim_w2 hr (by have := HNN.out; omega)
          rw [show q + (N - q) = N by omega] at hS
          have S3 := Lib.hid hS
          have K3 := Lib.hid (KF.kept K2.out hkf (fun i hi => S2.out.lo i hi) HB0.out)
          clear hr hS hsub hkf
          go_wp2_with fail
          refine (pending_any w3 S3.out (by rw [List.length_replicate]; omega)).mono ?_
          rintro e w4 ⟨A4, n4, c4, rfl, le4, i4, fr4, k4⟩
          have hn4 : n4 = N := by rw [i4.1, List.length_replicate]
          have hn4i : (n4 : Int) = 65536 := by have := HNN.out; omega
          have K4 := Lib.hid (Kept.trans K3.out k4)
          clear i4 fr4 k4 hn4
          go_wp2_with fail
          refine (awake25 _ (HG.out.kept K4.out)).mono ?_
          rintro e wz ⟨rfl, kz⟩
          go_wp2_with fail
          go_ret
          exact ⟨rfl, Kept.trans K4.out kz⟩
    · skip
      obtain ⟨N, hNN⟩ : ∃ N : Nat, N = 65537 := ⟨_, rfl⟩
      have HNN := Lib.hid hNN
      clear hNN
      obtain ⟨hN, hK0, hB⟩ := lim_norm w
      have HN := Lib.hid hN
      have HK0 := Lib.hid hK0
      have q0 := cell_of_block (i := 0) hB rfl
      have q1 := cell_of_block (i := 1) hB rfl
      have q2 := cell_of_block (i := 2) hB rfl
      simp only [s4_, s5_, s6_] at q0 q1 q2
      clear hN hK0 hB
      go_enter Tryz.func9, Tryz.ntmps9
      go_wp2_with fail
      have HNE := Lib.hid (new_any _ _ 2 _ HN.out (HG.out.kept HK0.out))
      unfold Sls.val at HNE
      refine HNE.out.mono ?_
      rintro e w1 hr
      obtain ⟨b, F, rfl, hS, hk1⟩ := lim_new hr
      generalize hW0 : (w.alloc (Obj.cells #[.int .i64 770, .int .i64 770, .int .i64 230] 64)).alloc (Obj.cells #[.slice (some ⟨w.heap.size, 0, none⟩) 1 1, .slice none 0 0, .slice none 0 0] 28) = W0 at *
      clear hW0
      obtain ⟨B0, hB0⟩ : ∃ B0 : Nat, B0 = W0.heap.size := ⟨_, rfl⟩
      rw [← hB0] at hS
      have HB0 := Lib.hid (show w.heap.size ≤ B0 by rw [hB0]; exact HK0.out.size)
      have K1 := Lib.hid (Kept.trans HK0.out hk1)
      have HB1 := Lib.hid (show B0 ≤ w1.heap.size by rw [hB0]; exact hk1.size)
      have SN := Lib.hid hS
      clear HNE hr hS hk1 hB0 q0 q1 q2
      obtain ⟨base, hbase⟩ : ∃ base : Nat, base = w1.heap.size := ⟨_, rfl⟩
      have hb1 : base ≤ w1.heap.size := by omega
      have hb2 : w1.heap.size ≤ base := by omega
      clear hbase
      go_wp2_with fail
      go_loopw [9, 10] (fun p i wr => ∃ k : Nat, k ≤ N ∧ i = .int .i64 k ∧ OwnI wr base p (List.replicate k 770) ∧ Kept w1 wr) (fun _ i _ => N - (intOf i).toNat)
      case atStart => exact ⟨0, Nat.zero_le _, rfl, (World.ownsRow_nil _ _ _ _ : OwnI w1 base (.slice none 0 0) []), Kept.refl _⟩
      case round =>
        obtain ⟨k, hk, rfl, hown, hkw⟩ := hrel
        have HO := Lib.hid hown
        have KW := Lib.hid hkw
        have hsz := hkw.size
        clear hown hkw
        by_cases hlt : k < N
        · have hki : (k : Int) < 65537 := by have := HNN.out; omega
          have HKA := Lib.hid (Kept.alloc (Kept.refl wr) (Obj.cells #[.int .i64 770] 3))
          go_wp2_with (at_builtin; refine app_ints rfl _ _ rfl base _ _ rfl (by exact World.ownsRow.alloc HO.out _) _ _ _ [(770 : Int)] rfl (by exact Ints.alloc_ (xs := [(770 : Int)]) rfl rfl) (by have := HNN.out; simp; omega) (by simp; omega) ?_; intro v7 w7 hown7 hgrow7 hat7; have HO7 := Lib.hid hown7; have hk7 : Kept w1 w7 := (Kept.trans KW.out HKA.out).grown hgrow7 (by simp; omega) (fun q e => by have := (World.ownsRow.lt HO.out q e).1; omega); have HK7 := Lib.hid hk7; clear hown7 hgrow7 hat7 hk7)
          go_roundw
          case rel => exact ⟨k + 1, by omega, by go_num, by rw [List.replicate_succ']; exact HO7.out, HK7.out⟩
          case measure => simp [intOf]; omega
        · have hkn : k = N := by omega
          have hki : ¬ (k : Int) < 65537 := by have := HNN.out; omega
          have hqN : q ≤ N := by have := HNN.out; omega
          have hNb : N ≤ 65537 := by have := HNN.out; omega
          rw [hkn] at HO
          clear hkn
          obtain ⟨Al, cl, rfl, hle, hIl⟩ := OwnI.sl HO.out
          rw [List.length_replicate] at hIl hle ⊢
          have hfar := HO.out.far
          have HF := Lib.hid (show ∀ a, Al = some a → w1.heap.size ≤ a.block from fun a ha => by have h1 := (OwnI.inHeap HO.out).2 a ha; omega)
          have HIL := Lib.hid hIl
          have HLE := Lib.hid hle
          have hs1 := run_take1 Al N cl q (by omega)
          have hs2 := run_drop1 Al N cl q (by omega)
          have I1 := Lib.hid (show Ints wr Al q (List.replicate q 770) by have h := Ints.front_ (q := q) hIl (by omega); rw [List.take_replicate, Nat.min_eq_left (by omega)] at h; exact h)
          have I2 := Lib.hid (fun w' (hk : KF F wr w') => show Ints w' (dropA Al cl q) (N - q) (List.replicate (N - q) 770) by have h := Ints.drop_ (k := q) (m := cl) (hIl.kf hk (fun _ a ha hf => by have h1 := HF.out a ha; have h2 := SN.out.lt2 _ hf; omega)) (by omega) hle; rw [List.drop_replicate] at h; exact h)
          have I1b := Lib.hid (show 0 < N - q → ∃ b o, dropA Al cl q = some ⟨b, o, none⟩ ∧ b < wr.heap.size from fun h0 => by
            obtain ⟨b', o', e', hc'⟩ := (Ints.drop_ (k := q) (m := cl) hIl (by omega) hle).2 h0
            exact ⟨b', o', e', cell_lt (hc' 0 770 (by rw [List.drop_replicate, List.getElem?_replicate, if_pos (by omega)]) 0 _ rfl)⟩)
          clear hIl hle hfar
          go_wp2_with fail
          refine (write_any B0 b limN 2 [] F Al q cl (List.replicate q 770) wr (SN.out.kept KW.out) (GlobB.of HG.out (Kept.trans K1.out KW.out) HB0.out) (Nat.le_trans HB1.out KW.out.size) (by simp) (by omega) I1.out (fun _ a ha hf => by have h1 := HF.out a ha; have h2 := SN.out.lt2 _ hf; omega)).mono ?_
          rintro e w2 hr
          obtain ⟨A2, c2, F2, rfl, hS, hsub, hkf⟩ := lim_w1 hr (by omega)
          have S2 := Lib.hid hS
          have K2 := Lib.hid (KF.kept (Kept.trans K1.out KW.out) hkf (fun i hi => SN.out.lo i hi) HB0.out)
          have HI2 := Lib.hid (I2.out w2 hkf)
          have HF2 := Lib.hid (show ∀ a, dropA Al cl q = some a → 0 < N - q → ¬ F2 a.block from fun a ha h0 hf => by
            have h1 := dropA_far HF.out ha
            have h3 := HI2.out.lt h0 a ha
            rcases hsub _ hf with h2 | h2
            · have := SN.out.lt2 _ h2; omega
            · obtain ⟨bq, oq, eq, hcq⟩ := I1b.out h0
              have h4 : a.block < wr.heap.size := by rw [eq] at ha; injection ha with ha; rw [← ha]; exact hcq
              omega)
          have HB2 := Lib.hid (Nat.le_trans (Nat.le_trans HB1.out KW.out.size) hkf.size)
          clear hr hS hsub hkf
          go_wp2_with fail
          refine (write_any B0 b limN 2 (List.replicate q 770) F2 (dropA Al cl q) (N - q) (cl - q) (List.replicate (N - q) 770) w2 S2.out (GlobB.of HG.out K2.out HB0.out) HB2.out (by rw [List.length_replicate]; omega) (by omega) HI2.out (fun h0 a ha => HF2.out a ha h0)).mono ?_
          rintro e w3 hr
          obtain ⟨rfl, hO, hkf⟩ := lim_w3 hr (by have := HNN.out; omega)
          have O3 := Lib.hid hO
          have K3 := Lib.hid (KF.kept K2.out hkf (fun i hi => S2.out.lo i hi) HB0.out)
          clear hr hO hkf
          go_wp2_with fail
          refine (close_off b w3 O3.out).mono ?_
          rintro e w4 ⟨rfl, rfl⟩
          go_wp2_with fail
          refine (pending_off w4 O3.out).mono ?_
          rintro e w5 ⟨A5, n5, c5, rfl, le5, i5, fr5, k5⟩
          obtain rfl : n5 = 0 := i5.1
          have K5 := Lib.hid (Kept.trans K3.out k5)
          clear i5 fr5 k5
          go_wp2_with fail
          refine (awake25 _ (HG.out.kept K5.out)).mono ?_
          rintro e wz ⟨rfl, kz⟩
          go_wp2_with fail
          go_ret
          exact ⟨rfl, Kept.trans K5.out kz⟩
  · go_enter Tryz.func9, Tryz.ntmps9
    go_wp2_with fail
    refine (awake25 _ HG.out).mono ?_
    rintro e wz ⟨rfl, kz⟩
    go_wp2_with fail
    go_ret
    exact ⟨rfl, kz⟩
end Go.Proofs.YtomgchfjachedaaGreatDoor
