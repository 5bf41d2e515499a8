/- law25.awake: the example of the chapter. law25.NormstreamOpens returns true. -/
import Derived.Test.YtomgchfjachedaaGreatDoorKSq
import Derived.Test.YtomgchfjachedaaGreatDoorKStrF
import Derived.Test.YtomgchfjachedaaGreatDoorKPl60
import Derived.Test.YtomgchfjachedaaGreatDoorKApp
namespace Go.Proofs.YtomgchfjachedaaGreatDoor
open Go Go.RowKit
theorem aspan_1 {w : World} {b : Nat} {lo hi v : Int} (h : w.heap[b]? = some (.cells #[.int .i64 lo, .int .i64 hi, .int .i64 v] 64 (0, 0))) : Spans w (some ⟨b, 0, none⟩) 1 [⟨lo, hi, v⟩] := by
  refine ⟨rfl, fun _ => ⟨_, 0, rfl, fun i x hx j u hu => ?_⟩⟩
  have hi0 : i = 0 := by have := lt_of_getElem?_some hx; simpa using this
  subst hi0
  simp at hx
  subst hx
  match j, hu with
  | 0, hu => simp [encS] at hu; subst hu; exact cell_of_block (i := 0) h rfl
  | 1, hu => simp [encS] at hu; subst hu; exact cell_of_block (i := 1) h rfl
  | 2, hu => simp [encS] at hu; subst hu; exact cell_of_block (i := 2) h rfl
  | j + 3, hu => simp [encS] at hu
theorem amps_join {w : World} {b b0 : Nat} (h : w.heap[b]? = some (.cells #[.int .i64 226, .slice (some ⟨b0, 0, none⟩) 2 2, .string ⟨#[]⟩] 90 (0, 0)))
    (h0 : Ints w (some ⟨b0, 0, none⟩) 2 [97, 770]) : Mps w (some ⟨b, 0, none⟩) 1 joinMm := by
  refine ⟨rfl, fun _ => ⟨b, 0, rfl, fun i m hm => ?_⟩⟩
  match i, hm with
  | 0, hm =>
    simp only [joinMm, List.getElem?_cons_zero, Option.some.injEq] at hm
    subst hm
    exact ⟨_, 2, 2, Nat.le_refl _, h0, cell_of_block h rfl, cell_of_block h rfl, cell_of_block h rfl⟩
  | i + 1, hm => simp [joinMm] at hm
theorem awk_norm (w : World) : let W0 := ((((w.alloc (Obj.cells #[.int .i64 770, .int .i64 770, .int .i64 230] 64)).alloc (Obj.cells #[.int .i64 97, .int .i64 770] 3)).alloc (Obj.cells #[.int .i64 226, .slice (some ⟨w.heap.size + 1, 0, none⟩) 2 2, .string ⟨#[]⟩] 90)).alloc (Obj.cells #[.slice (some ⟨w.heap.size, 0, none⟩) 1 1, .slice (some ⟨w.heap.size + 1 + 1, 0, none⟩) 1 1, .slice none 0 0] 28))
    NormAt W0 ⟨some ⟨w.heap.size, 0, none⟩, 1, 1, some ⟨w.heap.size + 1 + 1, 0, none⟩, 1, 1, none, 0, 0⟩ joinN ∧ Kept w W0 ∧ W0.heap[w.heap.size + 1 + 1 + 1]? = some (.cells #[.slice (some ⟨w.heap.size, 0, none⟩) 1 1, .slice (some ⟨w.heap.size + 1 + 1, 0, none⟩) 1 1, .slice none 0 0] 28 (0, 0)) := by
  intro W0
  have b0 : W0.heap[w.heap.size]? = some (.cells #[.int .i64 770, .int .i64 770, .int .i64 230] 64 (0, 0)) := alloc_lift (alloc_lift (alloc_lift (heap_alloc_new _ _)))
  have b1 : W0.heap[w.heap.size + 1]? = some (.cells #[.int .i64 97, .int .i64 770] 3 (0, 0)) := alloc_lift (alloc_lift (alloc_at (by simp)))
  have b2 : W0.heap[w.heap.size + 1 + 1]? = some (.cells #[.int .i64 226, .slice (some ⟨w.heap.size + 1, 0, none⟩) 2 2, .string ⟨#[]⟩] 90 (0, 0)) := alloc_lift (alloc_at (by simp))
  refine ⟨⟨Nat.le_refl _, Nat.le_refl _, Nat.le_refl _, show 1 ≤ 1000 by decide, show 1 ≤ 1000 by decide, Nat.zero_le _, aspan_1 b0, amps_join b2 (Ints.new_ (xs := [97, 770]) b1 rfl), Sl.nil, fun m hm => by
      simp only [joinN, joinMm, List.mem_cons, List.not_mem_nil, or_false] at hm
      rcases hm with rfl
      simp⟩, Kept.alloc (Kept.alloc (Kept.alloc (Kept.alloc (Kept.refl w) _) _) _) _, alloc_at (by simp)⟩
theorem awk_new {w w' : World} {e : Ending} (h : RetNS w joinN 1 e w') : ∃ (b : Nat) (F : Nat → Prop), e = .returned (.tuple #[.pointer (some ⟨b, 0, none⟩), .int .i64 0]) ∧ StrAt w' w.heap.size b joinN 1 [] F ∧ Kept w w' := by
  unfold RetNS at h
  rw [if_neg (by decide), if_pos joinN_check] at h
  exact h
theorem awk_w1 {w w' : World} {B0 b : Nat} {F : Nat → Prop} {e : Ending} (h : RetWr w B0 b joinN 1 [] [97] F e w') : ∃ (A : Option Addr) (c : Nat) (F' : Nat → Prop), e = .returned (.tuple #[.slice A 0 c, .int .i64 0]) ∧ StrAt w' B0 b joinN 1 [97] F' ∧ (∀ i, F' i → F i ∨ w.heap.size ≤ i) ∧ KF F w w' := by
  unfold RetWr at h
  rw [awake_p1, if_neg (by decide), awake_o1] at h
  obtain ⟨A, m, c, F', rfl, _, hI, _, hS, hF, hK⟩ := h
  obtain rfl : m = 0 := hI.1
  exact ⟨A, c, F', rfl, hS, hF, hK⟩
theorem awk_w2 {w w' : World} {B0 b : Nat} {F : Nat → Prop} {e : Ending} (h : RetWr w B0 b joinN 1 [97] [770, 98] F e w') : ∃ (A : Option Addr) (c : Nat) (F' : Nat → Prop), e = .returned (.tuple #[.slice A 1 c, .int .i64 0]) ∧ IntsF F' w' A 1 [226] ∧ StrAt w' B0 b joinN 1 [98] F' ∧ (∀ i, F' i → F i ∨ w.heap.size ≤ i) ∧ KF F w w' := by
  unfold RetWr at h
  rw [awake_p2, if_neg (by decide), awake_o2] at h
  obtain ⟨A, m, c, F', rfl, _, hI, hA, hS, hF, hK⟩ := h
  obtain rfl : m = 1 := hI.1
  exact ⟨A, c, F', rfl, IntsF.new hI (fun a ha => (hA a ha).2), hS, hF, hK⟩
theorem awk_cl {w w' : World} {b : Nat} {F : Nat → Prop} {e : Ending} (h : RetCl w b joinN 1 [98] F e w') : ∃ (A : Option Addr) (c : Nat), e = .returned (.tuple #[.slice A 1 c, .int .i64 0]) ∧ Ints w' A 1 [98] ∧ StrOff w' b ∧ KF F w w' := by
  obtain ⟨A, m, c, rfl, _, hI, _, hO, hK⟩ := h
  rw [joinN_f98] at hI
  obtain rfl : m = 1 := hI.1
  exact ⟨A, c, rfl, hI, hO, hK⟩
set_option maxRecDepth 100000 in
set_option maxHeartbeats 4000000 in
theorem awake25 (w : World) (hG : Glob w) : Calls Tryz.prog 22 #[] w (RetB w true) := by
  obtain ⟨hN, hK0, hB⟩ := awk_norm w
  have HN := Lib.hid hN
  have HK0 := Lib.hid hK0
  have HG := Lib.hid hG
  have q0 := cell_of_block (i := 0) hB rfl
  have q1 := cell_of_block (i := 1) hB rfl
  have q2 := cell_of_block (i := 2) hB rfl
  simp only [s4_, s5_, s6_] at q0 q1 q2
  clear hN hK0 hB hG
  go_enter Tryz.func22, Tryz.ntmps22
  go_wp2_with fail
  have HNE := Lib.hid (new_any _ _ 1 _ HN.out (HG.out.kept HK0.out))
  unfold Sls.val at HNE
  refine HNE.out.mono ?_
  rintro e w1 hr
  obtain ⟨b, F, rfl, hS, hk1⟩ := awk_new hr
  generalize hW0 : (((w.alloc (Obj.cells #[.int .i64 770, .int .i64 770, .int .i64 230] 64)).alloc (Obj.cells #[.int .i64 97, .int .i64 770] 3)).alloc (Obj.cells #[.int .i64 226, .slice (some ⟨w.heap.size + 1, 0, none⟩) 2 2, .string ⟨#[]⟩] 90)).alloc (Obj.cells #[.slice (some ⟨w.heap.size, 0, none⟩) 1 1, .slice (some ⟨w.heap.size + 1 + 1, 0, none⟩) 1 1, .slice none 0 0] 28) = W0 at *
  clear hW0
  obtain ⟨B0, hB0⟩ : ∃ B0 : Nat, B0 = W0.heap.size := ⟨_, rfl⟩
  rw [← hB0] at hS
  have hb0 : w.heap.size ≤ B0 := by rw [hB0]; exact HK0.out.size
  have HB0 := Lib.hid hb0
  have K1 := Lib.hid (Kept.trans HK0.out hk1)
  have hB1 : B0 ≤ w1.heap.size := by rw [hB0]; exact hk1.size
  have HB1 := Lib.hid hB1
  have S1 := Lib.hid hS
  clear HNE hr hS hk1 hB0 hB1 hb0 q0 q1 q2
  go_wp2_with fail
  -- the first writing
  have HA1 := Lib.hid (Kept.alloc (Kept.refl w1) (Obj.cells #[.int .i64 97] 3))
  have KA1 := Lib.hid (Kept.trans K1.out HA1.out)
  have HI1 := Lib.hid (show Ints (w1.alloc (Obj.cells #[.int .i64 97] 3)) (some ⟨w1.heap.size, 0, none⟩) 1 [97] from Ints.alloc_ (xs := [97]) rfl rfl)
  have HW1 := Lib.hid (write_any B0 b joinN 1 [] F (some ⟨w1.heap.size, 0, none⟩) 1 1 [97] _ (S1.out.kept HA1.out) (GlobB.of HG.out KA1.out HB0.out) (Nat.le_trans HB1.out HA1.out.size) (by simp) (by decide) HI1.out (fun _ a ha hf => by injection ha with ha; subst ha; have := (S1.out.lt _ hf).2; simp at this))
  refine HW1.out.mono ?_
  rintro e w2 hr
  obtain ⟨A2, c2, F2, rfl, hS, hF, hk⟩ := awk_w1 hr
  have hlt : ∀ i, F i → B0 ≤ i := fun i hi => (S1.out.lt i hi).1
  have K2 := Lib.hid (KF.kept KA1.out hk hlt HB0.out)
  have HB2 := Lib.hid (Nat.le_trans (Nat.le_trans HB1.out HA1.out.size) hk.size)
  have S2 := Lib.hid hS
  clear HW1 hr hS hF hk hlt HI1 HA1 KA1
  go_wp2_with fail
  -- the second
  have HA2 := Lib.hid (Kept.alloc (Kept.refl w2) (Obj.cells #[.int .i64 770, .int .i64 98] 3))
  have KA2 := Lib.hid (Kept.trans K2.out HA2.out)
  have HI2 := Lib.hid (show Ints (w2.alloc (Obj.cells #[.int .i64 770, .int .i64 98] 3)) (some ⟨w2.heap.size, 0, none⟩) 2 [770, 98] from Ints.alloc_ (xs := [770, 98]) rfl rfl)
  have HW2 := Lib.hid (write_any B0 b joinN 1 [97] F2 (some ⟨w2.heap.size, 0, none⟩) 2 2 [770, 98] _ (S2.out.kept HA2.out) (GlobB.of HG.out KA2.out HB0.out) (Nat.le_trans HB2.out HA2.out.size) (by simp) (by decide) HI2.out (fun _ a ha hf => by injection ha with ha; subst ha; have := (S2.out.lt _ hf).2; simp at this))
  refine HW2.out.mono ?_
  rintro e w3 hr
  obtain ⟨A3, c3, F3, rfl, hI, hS, hF, hk⟩ := awk_w2 hr
  have hlt : ∀ i, F2 i → B0 ≤ i := fun i hi => (S2.out.lt i hi).1
  have K3 := Lib.hid (KF.kept KA2.out hk hlt HB0.out)
  have HB3 := Lib.hid (Nat.le_trans (Nat.le_trans HB2.out HA2.out.size) hk.size)
  have S3 := Lib.hid hS
  have I3 := Lib.hid hI
  clear HW2 hr hS hF hk hlt HI2 HA2 KA2 hI
  go_wp2_with fail
  -- what is pending
  refine (pending_any w3 S3.out (by simp)).mono ?_
  rintro e w4 ⟨A4, n4, c4, rfl, le4, i4, fr4, k4⟩
  obtain rfl : n4 = 1 := i4.1
  have I4 := Lib.hid (IntsF.fresh (F := F3) i4 fr4 (fun i hi => (S3.out.lt i hi).2))
  have I3 := Lib.hid (I3.out.kept k4)
  have S4 := Lib.hid (S3.out.kept k4)
  have K4 := Lib.hid (Kept.trans K3.out k4)
  have HB4 := Lib.hid (Nat.le_trans HB3.out k4.size)
  clear i4 fr4 k4
  go_wp2_with fail
  -- closing
  refine (close_any B0 b joinN 1 [98] F3 w4 S4.out (GlobB.of HG.out K4.out HB0.out) (by simp)).mono ?_
  rintro e w5 hr
  obtain ⟨A5, c5, rfl, hI, hO, hk⟩ := awk_cl hr
  have hlt : ∀ i, F3 i → B0 ≤ i := fun i hi => (S4.out.lt i hi).1
  have K5 := Lib.hid (KF.kept K4.out hk hlt HB0.out)
  have I3 := Lib.hid (I3.out.kf (F' := F3) hk (fun i hi => .inl hi)).1
  have I4 := Lib.hid (I4.out.kf (F' := F3) hk (fun i hi => .inl hi)).1
  have I5 := Lib.hid hI
  have O5 := Lib.hid hO
  clear hr hI hO hk hlt
  go_wp2_with fail
  refine (close_off b w5 O5.out).mono ?_
  rintro e w6 ⟨rfl, rfl⟩
  have EQ := Lib.hid (fun (X : List Int) (A B : Option Addr) (n c d : Nat) (w' : World) (hn : n ≤ 100) (hx : Ints w' A n X) (hy : Ints w' B 1 X) => r01Equal A B n 1 c d X X w' (by omega) (by decide) hx hy)
  simp only [decide_true] at EQ
  go_wp2_with fail
  have KA6 := Lib.hid (Kept.alloc (Kept.refl w6) (Obj.cells #[.int .i64 226] 3))
  refine (EQ.out [226] A3 (some ⟨w6.heap.size, 0, none⟩) 1 c3 1 _ (by decide) (I3.out.kept KA6.out) (Ints.alloc_ (xs := [226]) rfl rfl)).mono ?_
  rintro e w7 ⟨rfl, k7⟩
  have K7 := Lib.hid (Kept.trans KA6.out k7)
  clear k7
  go_wp2_with fail
  have KA7 := Lib.hid (Kept.alloc K7.out (Obj.cells #[.int .i64 98] 3))
  refine (EQ.out [98] A4 (some ⟨w7.heap.size, 0, none⟩) 1 c4 1 _ (by decide) (I4.out.kept KA7.out) (Ints.alloc_ (xs := [98]) rfl rfl)).mono ?_
  rintro e w8 ⟨rfl, k8⟩
  have K8 := Lib.hid (Kept.trans KA7.out k8)
  clear k8
  go_wp2_with fail
  have KA8 := Lib.hid (Kept.alloc K8.out (Obj.cells #[.int .i64 98] 3))
  refine (EQ.out [98] A5 (some ⟨w8.heap.size, 0, none⟩) 1 c5 1 _ (by decide) (I5.out.kept KA8.out) (Ints.alloc_ (xs := [98]) rfl rfl)).mono ?_
  rintro e w9 ⟨rfl, k9⟩
  go_wp2_with fail
  go_ret
  exact ⟨rfl, Kept.trans K5.out (Kept.trans KA8.out k9)⟩
end Go.Proofs.YtomgchfjachedaaGreatDoor
namespace Go.Proofs.YtomgchfjachedaaGreatDoor
open Go Go.RowKit
theorem new_bad {w w' : World} {n : Nrm} {form : Int} {e : Ending} (hf : form < 1 ∨ 4 < form) (h : RetNS w n form e w') : e = .returned (.tuple #[.pointer none, .int .i64 8]) ∧ Kept w w' := by
  unfold RetNS at h; rw [if_pos hf] at h; exact h
theorem new_err {w w' : World} {n : Nrm} {form : Int} {e : Ending} (hf : ¬ (form < 1 ∨ 4 < form)) (hd : ¬ decCheck n = 0) (h : RetNS w n form e w') : e = .returned (.tuple #[.pointer none, .int .i64 11]) ∧ Kept w w' := by
  unfold RetNS at h; rw [if_neg hf, if_neg hd] at h; exact h
theorem new_ok {w w' : World} {n : Nrm} {form : Int} {e : Ending} (hf : ¬ (form < 1 ∨ 4 < form)) (hd : decCheck n = 0) (h : RetNS w n form e w') : ∃ (b : Nat) (F : Nat → Prop), e = .returned (.tuple #[.pointer (some ⟨b, 0, none⟩), .int .i64 0]) ∧ StrAt w' w.heap.size b n form [] F ∧ Kept w w' := by
  unfold RetNS at h; rw [if_neg hf, if_pos hd] at h; exact h
theorem rnew_bad {w w' : World} {n : Nrm} {form : Int} {s : Sls} {e : Ending} (hf : form < 1 ∨ 4 < form) (h : RetRS w n form s e w') : e = .returned (.tuple #[.pointer none, .int .i64 8]) ∧ Kept w w' := by
  unfold RetRS at h; rw [if_pos hf] at h; exact h
theorem rnew_err {w w' : World} {n : Nrm} {form : Int} {s : Sls} {e : Ending} (hf : ¬ (form < 1 ∨ 4 < form)) (hd : ¬ decCheck n = 0) (h : RetRS w n form s e w') : e = .returned (.tuple #[.pointer none, .int .i64 11]) ∧ Kept w w' := by
  unfold RetRS at h; rw [if_neg hf, if_neg hd] at h; exact h
theorem rnew_ok {w w' : World} {n : Nrm} {form : Int} {s : Sls} {e : Ending} (hf : ¬ (form < 1 ∨ 4 < form)) (hd : decCheck n = 0) (h : RetRS w n form s e w') : ∃ b, e = .returned (.tuple #[.pointer (some ⟨b, 0, none⟩), .int .i64 0]) ∧ w.heap.size ≤ b ∧ RfAt w' b n form s [] none 0 0 ∧ Kept w w' := by
  unfold RetRS at h; rw [if_neg hf, if_pos hd] at h; exact h
set_option maxRecDepth 100000 in
set_option maxHeartbeats 8000000 in
theorem law_opens25 (s : Sls) (n : Nrm) (form : Int) (A : Option Addr) (l c : Nat) (xs : List Int) (w : World) (hN : NormIn w s n) (_hx : I64 form) (hI : l ≤ c ∧ c ≤ 9223372036854775807 ∧ Ints w A l xs) (hG : Glob w) : Calls Tryz.prog 5 #[s.val, .int .i64 form, .slice A l c] w (RetB w true) := by
  have hk0_ := Kept.alloc (Kept.refl w) (Obj.cells #[Value.slice s.Ac s.nc s.cc, Value.slice s.Am s.nm s.cm, Value.slice s.Ae s.ne s.ce] 28)
  have HK1 := Lib.hid hk0_
  have hb0_ := (box_block w (Obj.cells #[Value.slice s.Ac s.nc s.cc, Value.slice s.Am s.nm s.cm, Value.slice s.Ae s.ne s.ce] 28))
  have x0_ := cell_of_block (i := 0) hb0_ rfl
  have x1_ := cell_of_block (i := 1) hb0_ rfl
  have x2_ := cell_of_block (i := 2) hb0_ rfl
  simp only [s4_, s5_, s6_] at x0_ x1_ x2_
  have HX0 := Lib.hid x0_
  have HX1 := Lib.hid x1_
  have HX2 := Lib.hid x2_
  have HB0 := Lib.hid hb0_
  clear x0_ x1_ x2_ hb0_
  obtain ⟨hle, hbig, hI⟩ := hI
  have HS := Lib.hid (fun w' (hk : Kept w w') => r22small s n w' (hN.kept hk))
  have HN := Lib.hid hN
  have HG := Lib.hid hG
  clear hN hG hI hk0_
  cases hsm : small22 n
  · rw [hsm] at HS
    clear hsm
    unfold Sls.val at *
    go_enter Tryz.func5, Tryz.ntmps5
    have p0 := HX0.out
    have p1 := HX1.out
    have p2 := HX2.out
    go_wp2_with fail
    refine (HS.out _ HK1.out).mono ?_
    rintro e w1 ⟨rfl, k1⟩
    clear p0 p1 p2
    have K1 := Lib.hid (Kept.trans HK1.out k1)
    clear k1
    go_wp2_with fail
    refine (awake25 _ (HG.out.kept K1.out)).mono ?_
    rintro e wz ⟨rfl, kz⟩
    go_wp2_with fail
    go_ret
    exact ⟨rfl, Kept.trans K1.out kz⟩
  · rw [hsm] at HS
    have HNA := Lib.hid (HN.out.small2 hsm)
    have HTG := Lib.hid (tag22 hsm)
    clear hsm
    by_cases hl : l ≤ 60
    · have HA := Lib.hid (fun w' (hk : Kept w w') => new_any s n form w' (HNA.out.kept hk) (HG.out.kept hk))
      have HR := Lib.hid (fun w' (hk : Kept w w') => r25New s n form w' (HNA.out.kept hk) HTG.out)
      by_cases hf : form < 1 ∨ 4 < form
      · have HF := Lib.hid hf
        clear hf
        unfold Sls.val at *
        go_enter Tryz.func5, Tryz.ntmps5
        have p0 := HX0.out
        have p1 := HX1.out
        have p2 := HX2.out
        go_wp2_with fail
        refine (HS.out _ HK1.out).mono ?_
        rintro e w1 ⟨rfl, k1⟩
        have p0 := Kept.cell k1 HX0.out
        have p1 := Kept.cell k1 HX1.out
        have p2 := Kept.cell k1 HX2.out
        have K1 := Lib.hid (Kept.trans HK1.out k1)
        have X1 := Lib.hid k1
        clear k1
        go_wp2_with fail
        refine (HA.out _ K1.out).mono ?_
        rintro e w2 hr
        obtain ⟨rfl, k2⟩ := new_bad HF.out hr
        have K2 := Lib.hid (Kept.trans K1.out k2)
        have X2 := Lib.hid (Kept.trans X1.out k2)
        have p0 := Kept.cell X2.out HX0.out
        have p1 := Kept.cell X2.out HX1.out
        have p2 := Kept.cell X2.out HX2.out
        clear hr k2
        go_wp2_with fail
        refine (HR.out _ K2.out).mono ?_
        rintro e w3 hr
        obtain ⟨rfl, k3⟩ := rnew_bad HF.out hr
        have K3 := Lib.hid (Kept.trans K2.out k3)
        clear hr k3 p0 p1 p2
        have KZ := Lib.hid (Kept.alloc (Kept.refl w3) (Obj.cells #[.slice none 0 0, .slice none 0 0, .slice none 0 0, .slice none 0 0, .int .i64 0, .bool false] 51))
        have OF := Lib.hid (show StrOff (w3.alloc (Obj.cells #[.slice none 0 0, .slice none 0 0, .slice none 0 0, .slice none 0 0, .int .i64 0, .bool false] 51)) w3.heap.size from heap_alloc_new _ _)
        go_wp2_with fail
        generalize w3.alloc (Obj.cells #[.slice none 0 0, .slice none 0 0, .slice none 0 0, .slice none 0 0, .int .i64 0, .bool false] 51) = w4 at *
        generalize w3.heap.size = bz at *
        refine (write_off bz A l c w4 OF.out).mono ?_
        rintro e w5 ⟨rfl, rfl⟩
        go_wp2_with fail
        refine (close_off bz w5 OF.out).mono ?_
        rintro e w6 ⟨rfl, rfl⟩
        go_wp2_with fail
        refine (write_nil A l c w6).mono ?_
        rintro e w7 ⟨rfl, rfl⟩
        go_wp2_with fail
        refine (close_nil w7).mono ?_
        rintro e w8 ⟨rfl, rfl⟩
        go_wp2_with fail
        refine (pending_off w8 OF.out).mono ?_
        rintro e w9 ⟨A9, n9, c9, rfl, _, i9, _, k9⟩
        obtain rfl : n9 = 0 := i9.1
        have K9 := Lib.hid (Kept.trans K3.out (Kept.trans KZ.out k9))
        clear i9 k9
        go_wp2_with fail
        refine (pending_nil w9).mono ?_
        rintro e w10 ⟨rfl, rfl⟩
        go_wp2_with fail
        refine (awake25 _ (HG.out.kept K9.out)).mono ?_
        rintro e wz ⟨rfl, kz⟩
        go_wp2_with fail
        go_ret
        exact ⟨rfl, Kept.trans K9.out kz⟩
      · have HF := Lib.hid hf
        clear hf
        by_cases hd : decCheck n = 0
        · have HD := Lib.hid hd
          clear hd
          unfold Sls.val at *
          go_enter Tryz.func5, Tryz.ntmps5
          have p0 := HX0.out
          have p1 := HX1.out
          have p2 := HX2.out
          go_wp2_with fail
          refine (HS.out _ HK1.out).mono ?_
          rintro e w1 ⟨rfl, k1⟩
          have p0 := Kept.cell k1 HX0.out
          have p1 := Kept.cell k1 HX1.out
          have p2 := Kept.cell k1 HX2.out
          have K1 := Lib.hid (Kept.trans HK1.out k1)
          have X1 := Lib.hid k1
          clear k1
          go_wp2_with fail
          refine (HA.out _ K1.out).mono ?_
          rintro e w2 hr
          obtain ⟨b, F, rfl, hS, k2⟩ := new_ok HF.out HD.out hr
          have K2 := Lib.hid (Kept.trans K1.out k2)
          have X2 := Lib.hid (Kept.trans X1.out k2)
          have p0 := Kept.cell X2.out HX0.out
          have p1 := Kept.cell X2.out HX1.out
          have p2 := Kept.cell X2.out HX2.out
          clear hr k2 hS
          go_wp2_with fail
          refine (HR.out _ K2.out).mono ?_
          rintro e w3 hr
          obtain ⟨b2, rfl, _, _, k3⟩ := rnew_ok HF.out HD.out hr
          have K3 := Lib.hid (Kept.trans K2.out k3)
          clear hr k3 p0 p1 p2
          have KZ := Lib.hid (Kept.alloc (Kept.refl w3) (Obj.cells #[.slice none 0 0, .slice none 0 0, .slice none 0 0, .slice none 0 0, .int .i64 0, .bool false] 51))
          have OF := Lib.hid (show StrOff (w3.alloc (Obj.cells #[.slice none 0 0, .slice none 0 0, .slice none 0 0, .slice none 0 0, .int .i64 0, .bool false] 51)) w3.heap.size from heap_alloc_new _ _)
          go_wp2_with fail
          generalize w3.alloc (Obj.cells #[.slice none 0 0, .slice none 0 0, .slice none 0 0, .slice none 0 0, .int .i64 0, .bool false] 51) = w4 at *
          generalize w3.heap.size = bz at *
          refine (write_off bz A l c w4 OF.out).mono ?_
          rintro e w5 ⟨rfl, rfl⟩
          go_wp2_with fail
          refine (close_off bz w5 OF.out).mono ?_
          rintro e w6 ⟨rfl, rfl⟩
          go_wp2_with fail
          refine (write_nil A l c w6).mono ?_
          rintro e w7 ⟨rfl, rfl⟩
          go_wp2_with fail
          refine (close_nil w7).mono ?_
          rintro e w8 ⟨rfl, rfl⟩
          go_wp2_with fail
          refine (pending_off w8 OF.out).mono ?_
          rintro e w9 ⟨A9, n9, c9, rfl, _, i9, _, k9⟩
          obtain rfl : n9 = 0 := i9.1
          have K9 := Lib.hid (Kept.trans K3.out (Kept.trans KZ.out k9))
          clear i9 k9
          go_wp2_with fail
          refine (pending_nil w9).mono ?_
          rintro e w10 ⟨rfl, rfl⟩
          go_wp2_with fail
          refine (awake25 _ (HG.out.kept K9.out)).mono ?_
          rintro e wz ⟨rfl, kz⟩
          go_wp2_with fail
          go_ret
          exact ⟨rfl, Kept.trans K9.out kz⟩
        · have HD := Lib.hid hd
          clear hd
          unfold Sls.val at *
          go_enter Tryz.func5, Tryz.ntmps5
          have p0 := HX0.out
          have p1 := HX1.out
          have p2 := HX2.out
          go_wp2_with fail
          refine (HS.out _ HK1.out).mono ?_
          rintro e w1 ⟨rfl, k1⟩
          have p0 := Kept.cell k1 HX0.out
          have p1 := Kept.cell k1 HX1.out
          have p2 := Kept.cell k1 HX2.out
          have K1 := Lib.hid (Kept.trans HK1.out k1)
          have X1 := Lib.hid k1
          clear k1
          go_wp2_with fail
          refine (HA.out _ K1.out).mono ?_
          rintro e w2 hr
          obtain ⟨rfl, k2⟩ := new_err HF.out HD.out hr
          have K2 := Lib.hid (Kept.trans K1.out k2)
          have X2 := Lib.hid (Kept.trans X1.out k2)
          have p0 := Kept.cell X2.out HX0.out
          have p1 := Kept.cell X2.out HX1.out
          have p2 := Kept.cell X2.out HX2.out
          clear hr k2
          go_wp2_with fail
          refine (HR.out _ K2.out).mono ?_
          rintro e w3 hr
          obtain ⟨rfl, k3⟩ := rnew_err HF.out HD.out hr
          have K3 := Lib.hid (Kept.trans K2.out k3)
          clear hr k3 p0 p1 p2
          have KZ := Lib.hid (Kept.alloc (Kept.refl w3) (Obj.cells #[.slice none 0 0, .slice none 0 0, .slice none 0 0, .slice none 0 0, .int .i64 0, .bool false] 51))
          have OF := Lib.hid (show StrOff (w3.alloc (Obj.cells #[.slice none 0 0, .slice none 0 0, .slice none 0 0, .slice none 0 0, .int .i64 0, .bool false] 51)) w3.heap.size from heap_alloc_new _ _)
          go_wp2_with fail
          generalize w3.alloc (Obj.cells #[.slice none 0 0, .slice none 0 0, .slice none 0 0, .slice none 0 0, .int .i64 0, .bool false] 51) = w4 at *
          generalize w3.heap.size = bz at *
          refine (write_off bz A l c w4 OF.out).mono ?_
          rintro e w5 ⟨rfl, rfl⟩
          go_wp2_with fail
          refine (close_off bz w5 OF.out).mono ?_
          rintro e w6 ⟨rfl, rfl⟩
          go_wp2_with fail
          refine (write_nil A l c w6).mono ?_
          rintro e w7 ⟨rfl, rfl⟩
          go_wp2_with fail
          refine (close_nil w7).mono ?_
          rintro e w8 ⟨rfl, rfl⟩
          go_wp2_with fail
          refine (pending_off w8 OF.out).mono ?_
          rintro e w9 ⟨A9, n9, c9, rfl, _, i9, _, k9⟩
          obtain rfl : n9 = 0 := i9.1
          have K9 := Lib.hid (Kept.trans K3.out (Kept.trans KZ.out k9))
          clear i9 k9
          go_wp2_with fail
          refine (pending_nil w9).mono ?_
          rintro e w10 ⟨rfl, rfl⟩
          go_wp2_with fail
          refine (awake25 _ (HG.out.kept K9.out)).mono ?_
          rintro e wz ⟨rfl, kz⟩
          go_wp2_with fail
          go_ret
          exact ⟨rfl, Kept.trans K9.out kz⟩
    · skip
      unfold Sls.val at *
      go_enter Tryz.func5, Tryz.ntmps5
      have p0 := HX0.out
      have p1 := HX1.out
      have p2 := HX2.out
      go_wp2_with fail
      refine (HS.out _ HK1.out).mono ?_
      rintro e w1 ⟨rfl, k1⟩
      clear p0 p1 p2
      have K1 := Lib.hid (Kept.trans HK1.out k1)
      clear k1
      go_wp2_with fail
      refine (awake25 _ (HG.out.kept K1.out)).mono ?_
      rintro e wz ⟨rfl, kz⟩
      go_wp2_with fail
      go_ret
      exact ⟨rfl, Kept.trans K1.out kz⟩
end Go.Proofs.YtomgchfjachedaaGreatDoor
