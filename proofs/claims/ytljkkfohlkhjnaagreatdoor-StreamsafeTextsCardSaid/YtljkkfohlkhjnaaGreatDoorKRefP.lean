/- References: Starter of layer 20, Once of layer 21, Check of layer 27. -/
import Derived.Test.YtljkkfohlkhjnaaGreatDoorKSaf
import Derived.Test.YtljkkfohlkhjnaaGreatDoorKRefM
import Derived.Test.YtljkkfohlkhjnaaGreatDoorKPq
namespace Go.Proofs.YtljkkfohlkhjnaaGreatDoor
open Go Go.RowKit

theorem r20Starter (A : Option Addr) (n c : Nat) (l : List Span) (x : Int) (w : World) (hn : n ≤ 1000) (hl : Spans w A n l) :
    Calls Tryz.prog 28 #[.slice A n c, .int .i64 x] w (RetB w (classOf (usableSpans l) x == 0)) := by
  have HC := Lib.hid (r20Class A n c l x w hn hl)
  clear hl
  generalize classOf (usableSpans l) x = k at *
  go_enter Tryz.func28, Tryz.ntmps28
  go_wp2_with fail
  refine HC.out.mono ?_
  rintro e w1 ⟨rfl, k1⟩
  go_wp2_with fail
  go_ret
  exact ⟨rfl, k1⟩

theorem own_nil {w : World} {base g : Nat} (h : w.heap[g]? = some (.cells #[] 3 (0, 0))) (hb : base ≤ g) : OwnI w base (.slice (some ⟨g, 0, none⟩) 0 0) [] :=
  ⟨rfl, .inr ⟨g, 0, #[], rfl, hb, h, Nat.le_refl _, Nat.zero_le _, rfl, rfl⟩⟩
theorem onceOf_find {l : List Mp} (_hs : MpSorted l) {c : Int} {cp : Bool} (hk : ¬ 4 ≤ kind c) (hf : findM l c cp = none) : onceOf l c cp = none := by
  unfold onceOf
  rw [if_neg hk]
  cases hm : mapOf l c cp with
  | none => rfl
  | some xs =>
    obtain ⟨m, hm1, hm2, _, hm4⟩ := mapOf_mem hm
    have := findM_none_fits hf hm1 hm2
    rw [Bool.or_comm] at this
    rw [this] at hm4; cases hm4
theorem onceOf_found {l : List Mp} (hs : MpSorted l) {c : Int} {cp : Bool} (hk : ¬ 4 ≤ kind c) {i : Nat} {m : Mp} (hf : findM l c cp = some i) (hm : l[i]? = some m) : onceOf l c cp = some m.to := by
  obtain ⟨m', hm', e, hp⟩ := findM_some_fits hf
  rw [hm] at hm'
  injection hm' with hm'
  subst hm'
  unfold onceOf
  rw [if_neg hk, mapOf_some hs hm e, if_pos (by rw [Bool.or_comm]; exact hp)]

set_option maxRecDepth 100000 in
set_option maxHeartbeats 2000000 in
theorem r21once (s : Sls) (n : Nrm) (c : Int) (cp : Bool) (w : World) (hN : NormAt w s n) (hs : MpSorted n.decomp) : Calls Tryz.prog 57 #[s.val, .int .i64 c, .bool cp] w (RetOnceC w (onceOf n.decomp c cp)) := by
  obtain ⟨Ac, nc, cc, Am, nm, cm, Ae, ne, ce⟩ := s
  have hk1 := Kept.alloc (Kept.refl w) (Obj.cells #[Value.slice Ac nc cc, Value.slice Am nm cm, Value.slice Ae ne ce] 28)
  have hbx := box_cell w #[Value.slice Ac nc cc, Value.slice Am nm cm, Value.slice Ae ne ce] 28
  have x1 : (w.alloc (Obj.cells #[Value.slice Ac nc cc, Value.slice Am nm cm, Value.slice Ae ne ce] 28)).cell? ⟨w.heap.size, 1, none⟩ = some (.slice Am nm cm) := hbx 1
  have HK1 := Lib.hid hk1
  have HN := Lib.hid hN
  have HSO := Lib.hid hs
  have HX1 := Lib.hid x1
  clear hN hs hk1 hbx x1
  unfold Sls.val
  by_cases hk : 4 ≤ kind c
  · have HO := Lib.hid (show onceOf n.decomp c cp = some (decompH c) from if_pos hk)
    go_enter Tryz.func57, Tryz.ntmps57
    go_wp2_with (first
      | (go_at_call 53; refine (rkind_any _ _).mono ?_; rintro e w' ⟨rfl, rfl⟩)
      | (go_at_call 83; refine (r19decomp _ _).mono ?_; rintro e w3 ⟨A3, n3, c3, rfl, hle3, hI3, hk3⟩))
    go_ret2
    rw [HO.out]
    exact ⟨A3, n3, c3, rfl, hle3, hI3, Kept.trans HK1.out hk3⟩
  · have HM := Lib.hid (HN.out.kept HK1.out).dec
    have HF := Lib.hid (fun w' (hk : Kept w w') => r21find Am nm cm n.decomp c cp w' (Nat.le_trans HN.out.bm (by decide)) (HN.out.kept hk).dec)
    have hbm : nm ≤ 1000 := HN.out.bm
    have x1 := HX1.out
    cases hf : findM n.decomp c cp with
    | none =>
      have HO := Lib.hid (onceOf_find HSO.out hk hf)
      rw [hf] at HF
      simp only [fI] at HF
      clear hf
      go_enter Tryz.func57, Tryz.ntmps57
      go_wp2_with (first
        | (go_at_call 53; refine (rkind_any _ _).mono ?_; rintro e w' ⟨rfl, rfl⟩)
        | (go_at_call 52; refine (HF.out _ HK1.out).mono ?_; rintro e w' ⟨rfl, rfl⟩))
      go_ret2
      rw [HO.out]
      exact ⟨none, 0, 0, rfl, Nat.le_refl _, Sl.nil, HK1.out⟩
    | some i =>
      have hi := findM_lt hf
      have hin : i < nm := by have := HN.out.dec.1; simp only at this; omega
      obtain ⟨b, off, m, A', n', c', hA, hm, hle, hI, c0, c1, c2⟩ := mp_at (i := i) HM.out hin
      have HO := Lib.hid (onceOf_found HSO.out hk hf hm)
      have hn' : n' ≤ 1000 := by rw [hI.1]; exact HN.out.to m (mem_of_getElem?_some hm)
      have HI' := Lib.hid hI
      rw [hf] at HF
      simp only [fI] at HF
      obtain ⟨base, hbase⟩ : ∃ base : Nat, base = (w.alloc (Obj.cells #[Value.slice Ac nc cc, Value.slice Am nm cm, Value.slice Ae ne ce] 28)).heap.size := ⟨_, rfl⟩
      have HBASE := Lib.hid hbase
      have hka := Kept.alloc (Kept.refl (w.alloc (Obj.cells #[Value.slice Ac nc cc, Value.slice Am nm cm, Value.slice Ae ne ce] 28))) (Obj.cells #[] 3)
      have HKA := Lib.hid (Kept.trans HK1.out hka)
      have HOE := Lib.hid (own_nil (base := base) (g := w.heap.size + 1) (w := (w.alloc (Obj.cells #[Value.slice Ac nc cc, Value.slice Am nm cm, Value.slice Ae ne ce] 28)).alloc (Obj.cells #[] 3)) (alloc_at (by simp)) (by rw [hbase]; simp))
      have x1a := Kept.cell hka x1
      have c1a := Kept.cell hka c1
      have HIa := Lib.hid (hI.kept hka)
      have hsa : ((w.alloc (Obj.cells #[Value.slice Ac nc cc, Value.slice Am nm cm, Value.slice Ae ne ce] 28)).alloc (Obj.cells #[] 3)).heap.size = base + 1 := by simp [hbase]
      have hbw : w.heap.size ≤ base := by rw [hbase]; exact HK1.out.size
      clear hf hm hI hbase hka c0 c2
      subst hA
      go_enter Tryz.func57, Tryz.ntmps57
      go_wp2_with (first
        | (go_at_call 53; refine (rkind_any _ _).mono ?_; rintro e w' ⟨rfl, rfl⟩)
        | (go_at_call 52; refine (HF.out _ HK1.out).mono ?_; rintro e w' ⟨rfl, rfl⟩)
        | (at_builtin; refine app_ints rfl _ _ rfl base _ _ rfl HOE.out _ _ _ m.to rfl HIa.out (by have := HIa.out.1; simp; omega) (by rw [hsa]; omega) ?_; intro v6 w6 hown6 hgrow6 hat6))
      have K6 := Lib.hid (HKA.out.grown hgrow6 (by rw [hsa]; omega) (fun q e => by have := (World.ownsRow.lt HOE.out q e).1; omega))
      obtain ⟨A6, c6, rfl, hle6, hI6⟩ := OwnI.sl hown6
      go_ret2
      rw [HO.out]
      exact ⟨A6, _, c6, rfl, hle6, by simpa using hI6, K6.out⟩

theorem r21onceP (s : Sls) (n : Nrm) (c : Int) (cp : Bool) (w : World) (hN : NormAt w s n) (htag : ∀ m ∈ n.decomp, m.tag.size ≤ 1000) : Calls Tryz.prog 27 #[s.val, .int .i64 c, .bool cp] w (RetOnceC w (onceOf (usableN n).decomp c cp)) := by
  have hk1 := Kept.alloc (Kept.refl w) (Obj.cells #[Value.slice s.Ac s.nc s.cc, Value.slice s.Am s.nm s.cm, Value.slice s.Ae s.ne s.ce] 28)
  have HD := Lib.hid (r21data s n _ (hN.kept hk1) htag)
  have HO := Lib.hid (fun w' (hk : Kept w w') => r21once (usableS s n) (usableN n) c cp w' ((usableS_at hN).kept hk) (usableN_good n).sorted)
  have HK1 := Lib.hid hk1
  clear hN htag hk1
  generalize usableS s n = s1 at *
  generalize onceOf (usableN n).decomp c cp = oo at *
  unfold Sls.val at *
  go_enter Tryz.func27, Tryz.ntmps27
  go_wp2_with fail
  refine HD.out.mono ?_
  rintro e w1 ⟨rfl, k1⟩
  go_wp2_with fail
  refine (HO.out _ (Kept.trans HK1.out k1)).mono ?_
  rintro e w2 ⟨A2, n2, c2, rfl, le2, i2, k2⟩
  have I2 := Lib.hid i2
  clear i2
  go_wp2_with fail
  go_ret2
  exact ⟨A2, n2, c2, rfl, le2, I2.out, Kept.trans (Kept.trans HK1.out k1) k2⟩

set_option maxRecDepth 100000 in
set_option maxHeartbeats 2000000 in
theorem r27check (s : Sls) (n : Nrm) (most : Int) (w : World) (hN : NormAt w s n) (htag : ∀ m ∈ n.decomp, m.tag.size ≤ 1000) : Calls Tryz.prog 10 #[s.val, .int .i64 most] w (RetI w (ssCheck n most)) := by
  have hk1 := Kept.alloc (Kept.refl w) (Obj.cells #[Value.slice s.Ac s.nc s.cc, Value.slice s.Am s.nm s.cm, Value.slice s.Ae s.ne s.ce] 28)
  have hbx := box_cell w #[Value.slice s.Ac s.nc s.cc, Value.slice s.Am s.nm s.cm, Value.slice s.Ae s.ne s.ce] 28
  have x0 : (w.alloc (Obj.cells #[Value.slice s.Ac s.nc s.cc, Value.slice s.Am s.nm s.cm, Value.slice s.Ae s.ne s.ce] 28)).cell? ⟨w.heap.size, 0, none⟩ = some (.slice s.Ac s.nc s.cc) := hbx 0
  have x1 : (w.alloc (Obj.cells #[Value.slice s.Ac s.nc s.cc, Value.slice s.Am s.nm s.cm, Value.slice s.Ae s.ne s.ce] 28)).cell? ⟨w.heap.size, 1, none⟩ = some (.slice s.Am s.nm s.cm) := hbx 1
  have x2 : (w.alloc (Obj.cells #[Value.slice s.Ac s.nc s.cc, Value.slice s.Am s.nm s.cm, Value.slice s.Ae s.ne s.ce] 28)).cell? ⟨w.heap.size, 2, none⟩ = some (.slice s.Ae s.ne s.ce) := hbx 2
  have HX0 := Lib.hid x0
  have HX1 := Lib.hid x1
  have HX2 := Lib.hid x2
  have HK1 := Lib.hid hk1
  have HCK := Lib.hid (fun w' (hk : Kept w w') => r21check s n w' (hN.kept hk) htag)
  rw [refCheck_eq] at HCK
  have HON := Lib.hid (fun w' (hk : Kept w w') => r21onceP s n 847 true w' (hN.kept hk) htag)
  have HST := Lib.hid (fun w' (hk : Kept w w') => r20Starter s.Ac s.nc s.cc n.classes 847 w' (by have := hN.bc; omega) (hN.kept hk).cls)
  clear hN htag hk1 hbx x0 x1 x2
  unfold Sls.val at *
  by_cases hr : most < 1 ∨ 64 < most
  · have HR := Lib.hid (show ssCheck n most = 1 from if_pos hr)
    rcases hr with hr | hr
    · go_enter Tryz.func10, Tryz.ntmps10
      go_wp2_with fail
      go_ret
      exact ⟨ret_int HR.out.symm, HK1.out⟩
    · have hr1 : ¬ most < 1 := by omega
      go_enter Tryz.func10, Tryz.ntmps10
      go_wp2_with fail
      go_ret
      exact ⟨ret_int HR.out.symm, HK1.out⟩
  · have hr1 : ¬ most < 1 := by omega
    have hr2 : ¬ most > 64 := by omega
    have HR0 := Lib.hid hr
    clear hr
    by_cases hd : decCheck n = 0
    · have HD := Lib.hid hd
      have HU := Lib.hid (usable_ok hd)
      rw [hd] at HCK
      rw [HU.out] at HON
      have HSP := Lib.hid (show usableSpans n.classes = n.classes by have := usableN_spans n; rwa [HU.out] at this)
      rw [HSP.out] at HST
      have HR := Lib.hid (show ssCheck n most = if (onceOf n.decomp 847 true).isSome = true ∨ classOf n.classes 847 ≠ 0 then 11 else 0 by unfold ssCheck; rw [if_neg HR0.out, if_neg (by simp [hd])])
      clear hd
      generalize onceOf n.decomp 847 true = oo at *
      generalize classOf n.classes 847 = k at *
      go_enter Tryz.func10, Tryz.ntmps10
      go_wp2_with fail
      refine (HCK.out _ HK1.out).mono ?_
      rintro e w1 ⟨rfl, k1⟩
      have p0 := Kept.cell k1 HX0.out
      have p1 := Kept.cell k1 HX1.out
      have p2 := Kept.cell k1 HX2.out
      have K1 := Lib.hid (Kept.trans HK1.out k1)
      go_wp2_with fail
      refine (HON.out _ K1.out).mono ?_
      rintro e w2 ⟨A2, n2, c2, rfl, le2, i2, k2⟩
      have q0 := Kept.cell k2 p0
      have q1 := Kept.cell k2 p1
      have q2 := Kept.cell k2 p2
      have K2 := Lib.hid (Kept.trans K1.out k2)
      clear p0 p1 p2 i2
      cases ho : oo.isSome
      · rw [ho] at HR
        by_cases hk : k = 0
        · have hb : (k == 0) = true := by simp [hk]
          rw [hb] at HST
          rw [if_neg (by simp [hk])] at HR
          go_wp2_with fail
          refine (HST.out _ K2.out).mono ?_
          rintro e w3 ⟨rfl, k3⟩
          go_wp2_with fail
          go_ret
          exact ⟨ret_int HR.out.symm, Kept.trans K2.out k3⟩
        · have hb : (k == 0) = false := by simp [hk]
          rw [hb] at HST
          rw [if_pos (by simp [hk])] at HR
          go_wp2_with fail
          refine (HST.out _ K2.out).mono ?_
          rintro e w3 ⟨rfl, k3⟩
          go_wp2_with fail
          go_ret
          exact ⟨ret_int HR.out.symm, Kept.trans K2.out k3⟩
      · rw [ho, if_pos (by simp)] at HR
        go_wp2_with fail
        go_ret
        exact ⟨ret_int HR.out.symm, K2.out⟩
    · have hb : (decCheck n != 0) = true := by simp [hd]
      have HR := Lib.hid (show ssCheck n most = decCheck n by unfold ssCheck; rw [if_neg HR0.out, if_pos hd])
      clear hd
      go_enter Tryz.func10, Tryz.ntmps10
      go_wp2_with fail
      refine (HCK.out _ HK1.out).mono ?_
      rintro e w1 ⟨rfl, k1⟩
      go_wp2_with fail
      go_ret
      exact ⟨ret_int HR.out.symm, Kept.trans HK1.out k1⟩
end Go.Proofs.YtljkkfohlkhjnaaGreatDoor
