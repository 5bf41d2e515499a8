/- References: Counted and composite of layer 22, Compose of layer 19. References: pair of layer 22. -/
import Derived.Test.YtmlcdohldkgcdaaGreatDoorKSq
import Derived.Test.YtmlcdohldkgcdaaGreatDoorKRfl
import Derived.Test.YtmlcdohldkgcdaaGreatDoorKRefAK
import Derived.Test.YtmlcdohldkgcdaaGreatDoorKCmb
namespace Go.Proofs.YtmlcdohldkgcdaaGreatDoor
open Go Go.RowKit
set_option maxRecDepth 100000 in
set_option maxHeartbeats 1000000 in
theorem r22counted (s : Sls) (n : Nrm) (w : World) (hN : NormAt w s n) (htag : ∀ m ∈ n.decomp, m.tag.size ≤ 1000) : Calls Tryz.prog 138 #[s.val] w fun e w' => e = .returned (usableS s n).val ∧ Kept w w' := by
  have HN := Lib.hid hN
  have hk1 := Kept.alloc (Kept.refl w) (Obj.cells #[Value.slice s.Ac s.nc s.cc, Value.slice s.Am s.nm s.cm, Value.slice s.Ae s.ne s.ce] 28)
  have hk2 := Kept.alloc hk1 (Obj.cells #[Value.slice none 0 0, Value.slice none 0 0, Value.slice none 0 0] 28)
  have HC := Lib.hid (r21check s n _ (hN.kept hk2) htag)
  rw [refCheck_eq] at HC
  have HK2 := Lib.hid hk2
  have hx := alloc_lift (o := Obj.cells #[Value.slice none 0 0, Value.slice none 0 0, Value.slice none 0 0] 28) (box_block w (Obj.cells #[Value.slice s.Ac s.nc s.cc, Value.slice s.Am s.nm s.cm, Value.slice s.Ae s.ne s.ce] 28))
  have hy := box_block (w.alloc (Obj.cells #[Value.slice s.Ac s.nc s.cc, Value.slice s.Am s.nm s.cm, Value.slice s.Ae s.ne s.ce] 28)) (Obj.cells #[Value.slice none 0 0, Value.slice none 0 0, Value.slice none 0 0] 28)
  rw [show (w.alloc (Obj.cells #[Value.slice s.Ac s.nc s.cc, Value.slice s.Am s.nm s.cm, Value.slice s.Ae s.ne s.ce] 28)).heap.size = w.heap.size + 1 by simp] at hy
  have HX := Lib.hid hx
  have HY := Lib.hid hy
  clear hN htag hk1 hk2 hx hy
  by_cases h0 : decCheck n = 0
  · have hb0 : (decCheck n != 0) = false := by simp [h0]
    have HU := Lib.hid (show usableS s n = s from if_pos h0)
    clear h0
    unfold Sls.val
    go_enter Tryz.func138, Tryz.ntmps138
    go_wp2_with fail
    refine HC.out.mono ?_
    rintro e w1 ⟨rfl, hk3⟩
    have e1 := (hk3.block _ (block_lt HX.out)).trans HX.out
    have e2 := (hk3.block _ (block_lt HY.out)).trans HY.out
    have a0 := cell_of_block (i := 0) e1 rfl
    have a1 := cell_of_block (i := 1) e1 rfl
    have a2 := cell_of_block (i := 2) e1 rfl
    have b0 := cell_of_block (i := 0) e2 rfl
    have b1 := cell_of_block (i := 1) e2 rfl
    have b2 := cell_of_block (i := 2) e2 rfl
    have f0 := frozen_of_block (i := 0) e2
    have f1 := frozen_of_block (i := 1) e2
    have f2 := frozen_of_block (i := 2) e2
    have HE2 := Lib.hid e2
    simp only [s4_, s5_, s6_] at a0 a1 a2 b0 b1 b2
    clear e1 e2
    obtain ⟨bb, hbb⟩ : ∃ bb : Nat, bb = w.heap.size := ⟨_, rfl⟩
    have HBB := Lib.hid hbb
    rw [← hbb] at a0 a1 a2 b0 b1 b2 f0 f1 f2 HE2 ⊢
    clear hbb
    go_wp2_with fail
    have hc := cells3_set (v0 := .slice s.Ac s.nc s.cc) (v1 := .slice s.Am s.nm s.cm) (v2 := .slice s.Ae s.ne s.ce) HE2.out
    have g0 := cell_of_block (i := 0) hc rfl
    have g1 := cell_of_block (i := 1) hc rfl
    have g2 := cell_of_block (i := 2) hc rfl
    simp only [s4_, s5_, s6_] at g0 g1 g2
    clear a0 a1 a2 b0 b1 b2 f0 f1 f2
    refine bodyPost_ret (v := s.val) (by simp [results, Tryz.results138, go_sem, g0, g1, g2, Sls.val]) rfl ?_
    have hk4 := Kept.trans HK2.out hk3
    have hk5 : Kept w _ := Kept.setCell (Kept.setCell (Kept.setCell hk4 (p := ⟨bb + 1, 0, none⟩) (by rw [HBB.out]; exact Nat.le_succ _) (.slice s.Ac s.nc s.cc)) (p := ⟨bb + 1, 1, none⟩) (by rw [HBB.out]; exact Nat.le_succ _) (.slice s.Am s.nm s.cm)) (p := ⟨bb + 1, 2, none⟩) (by rw [HBB.out]; exact Nat.le_succ _) (.slice s.Ae s.ne s.ce)
    exact ⟨by rw [HU.out]; rfl, hk5⟩
  · have hb0 : (decCheck n != 0) = true := by simp [h0]
    have HU := Lib.hid (show usableS s n = emptyS from if_neg h0)
    clear h0
    unfold Sls.val
    go_enter Tryz.func138, Tryz.ntmps138
    go_wp2_with fail
    refine HC.out.mono ?_
    rintro e w1 ⟨rfl, hk3⟩
    have e2 := (hk3.block _ (block_lt HY.out)).trans HY.out
    have b0 := cell_of_block (i := 0) e2 rfl
    have b1 := cell_of_block (i := 1) e2 rfl
    have b2 := cell_of_block (i := 2) e2 rfl
    have f0 := frozen_of_block (i := 0) e2
    have f1 := frozen_of_block (i := 1) e2
    have f2 := frozen_of_block (i := 2) e2
    have HE2 := Lib.hid e2
    simp only [s4_, s5_, s6_] at b0 b1 b2
    clear e2
    obtain ⟨bb, hbb⟩ : ∃ bb : Nat, bb = w.heap.size := ⟨_, rfl⟩
    have HBB := Lib.hid hbb
    rw [← hbb] at b0 b1 b2 f0 f1 f2 HE2 ⊢
    clear hbb
    go_wp2_with fail
    have hc := cells3_set (v0 := .slice none 0 0) (v1 := .slice none 0 0) (v2 := .slice none 0 0) HE2.out
    have g0 := cell_of_block (i := 0) hc rfl
    have g1 := cell_of_block (i := 1) hc rfl
    have g2 := cell_of_block (i := 2) hc rfl
    simp only [s4_, s5_, s6_] at g0 g1 g2
    clear b0 b1 b2 f0 f1 f2
    refine bodyPost_ret (v := emptyS.val) (by simp [results, Tryz.results138, go_sem, g0, g1, g2, Sls.val, emptyS]) rfl ?_
    have hk4 := Kept.trans HK2.out hk3
    have hk5 : Kept w _ := Kept.setCell (Kept.setCell (Kept.setCell hk4 (p := ⟨bb + 1, 0, none⟩) (by rw [HBB.out]; exact Nat.le_succ _) (.slice none 0 0)) (p := ⟨bb + 1, 1, none⟩) (by rw [HBB.out]; exact Nat.le_succ _) (.slice none 0 0)) (p := ⟨bb + 1, 2, none⟩) (by rw [HBB.out]; exact Nat.le_succ _) (.slice none 0 0)
    exact ⟨by rw [HU.out]; rfl, hk5⟩
set_option maxHeartbeats 1000000 in
theorem r19compose (a b : Int) (w : World) : Calls Tryz.prog 183 #[.int .i64 a, .int .i64 b] w (RetOI w (compH a b)) := by
  by_cases h1 : kind a = 1
  · by_cases h2 : kind b = 2
    · have HC := Lib.hid (show compH a b = some (44032 + ((a - 4352) * 21 + b - 4449) * 28) from if_pos ⟨h1, h2⟩)
      obtain ⟨ha1, ha2⟩ := kind_1 h1
      obtain ⟨hb1, hb2⟩ := kind_2 h2
      have g1 : (kind a == 1) = true := by simp [h1]
      have g2 : (kind b == 2) = true := by simp [h2]
      clear h1 h2
      go_enter Tryz.func183, Tryz.ntmps183
      go_wp2_with (go_at_call 204; refine (rkind_any _ _).mono ?_; rintro e w' ⟨rfl, rfl⟩)
      go_ret2
      rw [HC.out]
      refine ⟨?_, Kept.refl _⟩
      rw [Option.getD_some, Option.isSome_some, show 44032 + ((a - 4352) * 21 + b - 4449) * 28 = 44032 + (21 * (a - 4352) + b - 4449) * 28 by omega]
      rfl
    · have HC := Lib.hid (show compH a b = none by unfold compH; rw [if_neg (by simp [h2]), if_neg (by omega)])
      have g1 : (kind a == 1) = true := by simp [h1]
      have g2 : (kind b == 2) = false := by simp [h2]
      have g3 : (kind a == 4) = false := by simp [h1]
      clear h1 h2
      go_enter Tryz.func183, Tryz.ntmps183
      go_wp2_with (go_at_call 204; refine (rkind_any _ _).mono ?_; rintro e w' ⟨rfl, rfl⟩)
      go_ret2
      rw [HC.out]
      exact ⟨rfl, Kept.refl _⟩
  · have g1 : (kind a == 1) = false := by simp [h1]
    by_cases h3 : kind a = 4
    · have g3 : (kind a == 4) = true := by simp [h3]
      by_cases h4 : kind b = 3
      · have HC := Lib.hid (show compH a b = some (a + 1 + b - 4520) by unfold compH; rw [if_neg (by simp [h1]), if_pos ⟨h3, h4⟩])
        obtain ⟨ha1, ha2, _⟩ := kind_4 h3
        obtain ⟨hb1, hb2⟩ := kind_3 h4
        have g4 : (kind b == 3) = true := by simp [h4]
        clear h1 h3 h4
        go_enter Tryz.func183, Tryz.ntmps183
        go_wp2_with (go_at_call 204; refine (rkind_any _ _).mono ?_; rintro e w' ⟨rfl, rfl⟩)
        go_ret2
        rw [HC.out]
        refine ⟨?_, Kept.refl _⟩
        rw [Option.getD_some, Option.isSome_some, show a + 1 + b - 4520 = a + b - 4520 + 1 by omega]
        rfl
      · have HC := Lib.hid (show compH a b = none by unfold compH; rw [if_neg (by simp [h1]), if_neg (by simp [h4])])
        have g4 : (kind b == 3) = false := by simp [h4]
        clear h1 h3 h4
        go_enter Tryz.func183, Tryz.ntmps183
        go_wp2_with (go_at_call 204; refine (rkind_any _ _).mono ?_; rintro e w' ⟨rfl, rfl⟩)
        go_ret2
        rw [HC.out]
        exact ⟨rfl, Kept.refl _⟩
    · have HC := Lib.hid (show compH a b = none by unfold compH; rw [if_neg (by simp [h1]), if_neg (by simp [h3])])
      have g3 : (kind a == 4) = false := by simp [h3]
      clear h1 h3
      go_enter Tryz.func183, Tryz.ntmps183
      go_wp2_with (go_at_call 204; refine (rkind_any _ _).mono ?_; rintro e w' ⟨rfl, rfl⟩)
      go_ret2
      rw [HC.out]
      exact ⟨rfl, Kept.refl _⟩
set_option maxRecDepth 100000 in
set_option maxHeartbeats 4000000 in
theorem r22composite (s : Sls) (n : Nrm) (i : Nat) (m : Mp) (w : World) (hN : NormAt w s n) (hg : Good n) (hm : n.decomp[i]? = some m) : Calls Tryz.prog 184 #[s.val, .int .i64 i] w (RetB w (candB n m)) := by
  obtain ⟨Ac, nc, cc, Am, nm, cm, Ae, ne, ce⟩ := s
  have hi : i < nm := by have h1 := lt_of_getElem?_some hm; have h2 := hN.dec.1; simp only at h2; omega
  have hbm : nm ≤ 1000 := hN.bm
  have HST := Lib.hid (fun (x : Int) w' (hk : Kept w w') => r20Starter Ac nc cc n.classes x w' hN.bc (hN.kept hk).cls)
  rw [good_spans hg] at HST
  have HHAS := Lib.hid (fun (x : Int) w' (hk : Kept w w') => r02Has Ae ne ce n.excl x w' (by have := hN.be; simp only at this; omega) (hN.kept hk).exc)
  obtain ⟨b, off, m', A', n', c', hA, hm', hle, hI, c0, c1, c2⟩ := mp_at hN.dec hi
  simp only at hA
  subst hA
  have em : m' = m := by rw [hm] at hm'; injection hm' with h; exact h.symm
  subst em
  obtain ⟨m, rfl⟩ : ∃ m, m = m' := ⟨_, rfl⟩
  have hn' : n' ≤ 1000 := by rw [hI.1]; exact hN.10 m (mem_of_getElem?_some hm)
  have HI := Lib.hid hI
  have HIL := Lib.hid hI.1
  clear hm hm' hg hI hN
  have hk1 := Kept.alloc (Kept.refl w) (Obj.cells #[Value.slice Ac nc cc, Value.slice (some ⟨b, off, none⟩) nm cm, Value.slice Ae ne ce] 28)
  have x1 : (w.alloc (Obj.cells #[Value.slice Ac nc cc, Value.slice (some ⟨b, off, none⟩) nm cm, Value.slice Ae ne ce] 28)).cell? ⟨w.heap.size, 1, none⟩ = some (.slice (some ⟨b, off, none⟩) nm cm) := box_cell w _ _ 1
  have d0 := Kept.cell hk1 c0
  have d1 := Kept.cell hk1 c1
  have d2 := Kept.cell hk1 c2
  have hi0 : (0 : Int) ≤ (i : Int) := by omega
  have hi1 : (i : Int) < (nm : Int) := by omega
  have hk2 := Kept.alloc hk1 (Obj.cells #[Value.int IntKind.i64 m.src, Value.slice A' n' c', Value.string m.tag] 74)
  have b0 : ((w.alloc (Obj.cells #[Value.slice Ac nc cc, Value.slice (some ⟨b, off, none⟩) nm cm, Value.slice Ae ne ce] 28)).alloc (Obj.cells #[Value.int IntKind.i64 m.src, Value.slice A' n' c', Value.string m.tag] 74)).heap[w.heap.size]? = some (Obj.cells #[Value.slice Ac nc cc, Value.slice (some ⟨b, off, none⟩) nm cm, Value.slice Ae ne ce] 28 (0, 0)) := alloc_lift (alloc_at rfl)
  have b1 : ((w.alloc (Obj.cells #[Value.slice Ac nc cc, Value.slice (some ⟨b, off, none⟩) nm cm, Value.slice Ae ne ce] 28)).alloc (Obj.cells #[Value.int IntKind.i64 m.src, Value.slice A' n' c', Value.string m.tag] 74)).heap[w.heap.size + 1]? = some (Obj.cells #[Value.int IntKind.i64 m.src, Value.slice A' n' c', Value.string m.tag] 74 (0, 0)) := alloc_at (by simp)
  have p0 := cell_of_block (i := 0) b0 rfl
  have p1 := cell_of_block (i := 2) b0 rfl
  have p2 := cell_of_block (i := 0) b1 rfl
  have p3 := cell_of_block (i := 1) b1 rfl
  have p4 := cell_of_block (i := 2) b1 rfl
  simp only [s4_, s5_, s6_] at p0 p1 p2 p3 p4
  have HK2 := Lib.hid hk2
  have HI2 := Lib.hid (HI.out.kept hk2)
  unfold Sls.val
  clear hk1 hk2 b0 b1 c0 c1 c2
  go_enter Tryz.func184, Tryz.ntmps184
  go_wp2_with fail
  clear x1 d0 d1 d2
  obtain ⟨bn, hbn⟩ : ∃ bn : Nat, bn = w.heap.size := ⟨_, rfl⟩
  rw [← hbn] at p0 p1 p2 p3 p4 ⊢
  clear hbn
  generalize (w.alloc (Obj.cells #[Value.slice Ac nc cc, Value.slice (some ⟨b, off, none⟩) nm cm, Value.slice Ae ne ce] 28)).alloc (Obj.cells #[Value.int IntKind.i64 m.src, Value.slice A' n' c', Value.string m.tag] 74) = W at *
  have KD := Lib.hid (Kept.drew HK2.out)
  cases ht : m.tag.toList.isEmpty
  · have hte : ¬ m.tag.toList = [] := by simpa using ht
    have HR := Lib.hid (cand_tag (n := n) ht)
    refine wp_region_held_drew (S := (fun w' => w'.cell? ⟨bn, 0, none⟩ = some (.slice Ac nc cc) ∧ w'.cell? ⟨bn, 2, none⟩ = some (.slice Ae ne ce) ∧ w'.cell? ⟨bn + 1, 0, none⟩ = some (.int .i64 m.src) ∧ w'.cell? ⟨bn + 1, 1, none⟩ = some (.slice A' n' c') ∧ w'.cell? ⟨bn + 1, 2, none⟩ = some (.string m.tag))) (by kernel_rfl) ⟨p0, p1, p2, p3, p4⟩ (fun hHeld => ?_)
    refine tk_ 0 ?_ rfl ?_; refine tk_ 1 ?_ rfl ?_; refine tk_ 2 ?_ rfl ?_; refine tk_ 3 ?_ rfl ?_; refine sk_ 4 rfl ?_; refine sk_ 5 rfl ?_; refine sk_ 6 rfl ?_; refine sk_ 7 rfl ?_; refine tk_ 8 ?_ rfl ?_; refine tk_ 9 ?_ rfl ?_; refine sk_ 10 rfl ?_; refine sk_ 11 rfl ?_; refine sk_ 12 rfl ?_; refine sk_ 13 rfl ?_; refine sk_ 14 rfl ?_; refine tk_ 15 ?_ rfl ?_; refine tk_ 16 ?_ rfl ?_; refine sk_ 17 rfl ?_; refine sk_ 18 rfl ?_; refine sk_ 19 rfl ?_; refine sk_ 20 rfl ?_; refine sk_ 21 rfl ?_; refine sk_ 22 rfl ?_; refine sk_ 23 rfl ?_; refine tk_ 24 ?_ rfl ?_; refine tk_ 25 ?_ rfl ?_; refine sk_ 26 rfl ?_; refine sk_ 27 rfl ?_; refine sk_ 28 rfl ?_; refine sk_ 29 rfl ?_; refine sk_ 30 rfl ?_; refine sk_ 31 rfl ?_; refine tk_ 32 ?_ rfl ?_; refine tk_ 33 ?_ rfl ?_
    refine wpAnyH_done (by kernel_rfl) ?_ _
    go_wp2_with fail
    go_ret
    exact ⟨ret_bool HR.out.symm, KD.out⟩
  · have hte : m.tag.toList = [] := by simpa using ht
    have HTE := Lib.hid ht
    by_cases h2 : n' = 2
    · subst h2
      obtain ⟨b2, off2, x, hA', hx, e0⟩ := int_at (i := 0) HI2.out (by omega)
      obtain ⟨b3, off3, y, hA3, hy, e1⟩ := int_at (i := 1) HI2.out (by omega)
      subst hA'
      have hto : m.to = [x, y] := by
        have h1 := HIL.out
        match hmt : m.to, h1 with
        | [u, v], _ =>
          rw [hmt] at hx hy
          simp only [List.getElem?_cons_zero, List.getElem?_cons_succ, Option.some.injEq] at hx hy
          rw [hx, hy]
      have HTO := Lib.hid hto
      have p5 : W.cell? ⟨b2, off2, none⟩ = some (.int .i64 x) := by simpa using e0
      clear hx hy hto e0 e1 hA3
      have HS1 := Lib.hid (HST.out m.src _ KD.out)
      cases hs1 : (classOf n.classes m.src == 0)
      · rw [hs1] at HS1
        have HR := Lib.hid (cand_src hs1)
        clear hs1
        refine wp_region_held_drew (S := (fun w' => w'.cell? ⟨bn, 0, none⟩ = some (.slice Ac nc cc) ∧ w'.cell? ⟨bn, 2, none⟩ = some (.slice Ae ne ce) ∧ w'.cell? ⟨bn + 1, 0, none⟩ = some (.int .i64 m.src) ∧ w'.cell? ⟨bn + 1, 1, none⟩ = some (.slice (some ⟨b2, off2, none⟩) 2 c') ∧ w'.cell? ⟨bn + 1, 2, none⟩ = some (.string m.tag) ∧ w'.cell? ⟨b2, off2, none⟩ = some (.int .i64 x))) (by kernel_rfl) ⟨p0, p1, p2, p3, p4, p5⟩ (fun hHeld => ?_)
        refine tk_ 0 ?_ rfl ?_; refine tk_ 1 ?_ rfl ?_; refine tk_ 2 ?_ rfl ?_; refine tk_ 3 ?_ rfl ?_; refine tk_ 4 ?_ rfl ?_; refine tk_ 5 ?_ rfl ?_; refine tk_ 6 ?_ rfl ?_; refine tk_ 7 ?_ rfl ?_; refine tk_ 8 ?_ rfl ?_; refine tk_ 9 ?_ rfl ?_; refine tk_ 10 ?_ rfl ?_; refine tk_ 11 ?_ rfl ?_; refine tk_ 12 ?_ rfl ?_; refine tk_ 13 ?_ rfl ?_
        refine rd_ 14 rfl (fun K hK => ?_)
        go_simp
        (refine HS1.out.mono ?_; rintro e w3 ⟨rfl, k3⟩; have q0 := Kept.cell k3 p0; have q1 := Kept.cell k3 p1; have q2 := Kept.cell k3 p2; have q3 := Kept.cell k3 p3; have q4 := Kept.cell k3 p4; have q5 := Kept.cell k3 p5)
        go_wp2_with fail
        refine hK.out _ _ ⟨q0, q1, q2, q3, q4, q5⟩ (fun hHeld => ?_)
        clear hK K
        (try simp only [Act.put, s1_, s2_, s3_, s4_, s5_, s6_])
        refine tk_ 15 ?_ rfl ?_; refine tk_ 16 ?_ rfl ?_; refine sk_ 17 rfl ?_; refine sk_ 18 rfl ?_; refine sk_ 19 rfl ?_; refine sk_ 20 rfl ?_; refine sk_ 21 rfl ?_; refine sk_ 22 rfl ?_; refine sk_ 23 rfl ?_; refine tk_ 24 ?_ rfl ?_; refine tk_ 25 ?_ rfl ?_; refine sk_ 26 rfl ?_; refine sk_ 27 rfl ?_; refine sk_ 28 rfl ?_; refine sk_ 29 rfl ?_; refine sk_ 30 rfl ?_; refine sk_ 31 rfl ?_; refine tk_ 32 ?_ rfl ?_; refine tk_ 33 ?_ rfl ?_
        refine wpAnyH_done (by kernel_rfl) ?_ _
        go_wp2_with fail
        go_ret
        exact ⟨ret_bool HR.out.symm, Kept.trans KD.out k3⟩
      · rw [hs1] at HS1
        have HS1' := Lib.hid hs1
        have HS2 := Lib.hid (HST.out x)
        clear hs1
        cases hs2 : (classOf n.classes x == 0)
        · rw [hs2] at HS2
          have HR := Lib.hid (cand_to HTO.out hs2)
          clear hs2
          refine wp_region_held_drew (S := (fun w' => w'.cell? ⟨bn, 0, none⟩ = some (.slice Ac nc cc) ∧ w'.cell? ⟨bn, 2, none⟩ = some (.slice Ae ne ce) ∧ w'.cell? ⟨bn + 1, 0, none⟩ = some (.int .i64 m.src) ∧ w'.cell? ⟨bn + 1, 1, none⟩ = some (.slice (some ⟨b2, off2, none⟩) 2 c') ∧ w'.cell? ⟨bn + 1, 2, none⟩ = some (.string m.tag) ∧ w'.cell? ⟨b2, off2, none⟩ = some (.int .i64 x))) (by kernel_rfl) ⟨p0, p1, p2, p3, p4, p5⟩ (fun hHeld => ?_)
          refine tk_ 0 ?_ rfl ?_; refine tk_ 1 ?_ rfl ?_; refine tk_ 2 ?_ rfl ?_; refine tk_ 3 ?_ rfl ?_; refine tk_ 4 ?_ rfl ?_; refine tk_ 5 ?_ rfl ?_; refine tk_ 6 ?_ rfl ?_; refine tk_ 7 ?_ rfl ?_; refine tk_ 8 ?_ rfl ?_; refine tk_ 9 ?_ rfl ?_; refine tk_ 10 ?_ rfl ?_; refine tk_ 11 ?_ rfl ?_; refine tk_ 12 ?_ rfl ?_; refine tk_ 13 ?_ rfl ?_
          refine rd_ 14 rfl (fun K hK => ?_)
          go_simp
          (refine HS1.out.mono ?_; rintro e w3 ⟨rfl, k3⟩; have q0 := Kept.cell k3 p0; have q1 := Kept.cell k3 p1; have q2 := Kept.cell k3 p2; have q3 := Kept.cell k3 p3; have q4 := Kept.cell k3 p4; have q5 := Kept.cell k3 p5)
          go_wp2_with fail
          refine hK.out _ _ ⟨q0, q1, q2, q3, q4, q5⟩ (fun hHeld => ?_)
          clear hK K
          (try simp only [Act.put, s1_, s2_, s3_, s4_, s5_, s6_])
          refine tk_ 15 ?_ rfl ?_; refine tk_ 16 ?_ rfl ?_; refine tk_ 17 ?_ rfl ?_; refine tk_ 18 ?_ rfl ?_; refine tk_ 19 ?_ rfl ?_; refine tk_ 20 ?_ rfl ?_; refine tk_ 21 ?_ rfl ?_; refine tk_ 22 ?_ rfl ?_
          refine rd_ 23 rfl (fun K hK => ?_)
          go_simp
          (refine (HS2.out _ (Kept.trans KD.out k3)).mono ?_; rintro e w4 ⟨rfl, k4⟩; have r0 := Kept.cell k4 q0; have r1 := Kept.cell k4 q1; have r2 := Kept.cell k4 q2; have r3 := Kept.cell k4 q3; have r4 := Kept.cell k4 q4; have r5 := Kept.cell k4 q5)
          go_wp2_with fail
          refine hK.out _ _ ⟨r0, r1, r2, r3, r4, r5⟩ (fun hHeld => ?_)
          clear hK K
          (try simp only [Act.put, s1_, s2_, s3_, s4_, s5_, s6_])
          refine tk_ 24 ?_ rfl ?_; refine tk_ 25 ?_ rfl ?_; refine sk_ 26 rfl ?_; refine sk_ 27 rfl ?_; refine sk_ 28 rfl ?_; refine sk_ 29 rfl ?_; refine sk_ 30 rfl ?_; refine sk_ 31 rfl ?_; refine tk_ 32 ?_ rfl ?_; refine tk_ 33 ?_ rfl ?_
          refine wpAnyH_done (by kernel_rfl) ?_ _
          go_wp2_with fail
          go_ret
          exact ⟨ret_bool HR.out.symm, Kept.trans KD.out (Kept.trans k3 k4)⟩
        · rw [hs2] at HS2
          have HS2' := Lib.hid hs2
          have HS3 := Lib.hid (HHAS.out m.src)
          clear hs2
          cases he : hasR n.excl m.src
          · rw [he] at HS3
            have HR := Lib.hid (cand_yes HTE.out HTO.out he HS1'.out HS2'.out)
            clear he
            refine wp_region_held_drew (S := (fun w' => w'.cell? ⟨bn, 0, none⟩ = some (.slice Ac nc cc) ∧ w'.cell? ⟨bn, 2, none⟩ = some (.slice Ae ne ce) ∧ w'.cell? ⟨bn + 1, 0, none⟩ = some (.int .i64 m.src) ∧ w'.cell? ⟨bn + 1, 1, none⟩ = some (.slice (some ⟨b2, off2, none⟩) 2 c') ∧ w'.cell? ⟨bn + 1, 2, none⟩ = some (.string m.tag) ∧ w'.cell? ⟨b2, off2, none⟩ = some (.int .i64 x))) (by kernel_rfl) ⟨p0, p1, p2, p3, p4, p5⟩ (fun hHeld => ?_)
            refine tk_ 0 ?_ rfl ?_; refine tk_ 1 ?_ rfl ?_; refine tk_ 2 ?_ rfl ?_; refine tk_ 3 ?_ rfl ?_; refine tk_ 4 ?_ rfl ?_; refine tk_ 5 ?_ rfl ?_; refine tk_ 6 ?_ rfl ?_; refine tk_ 7 ?_ rfl ?_; refine tk_ 8 ?_ rfl ?_; refine tk_ 9 ?_ rfl ?_; refine tk_ 10 ?_ rfl ?_; refine tk_ 11 ?_ rfl ?_; refine tk_ 12 ?_ rfl ?_; refine tk_ 13 ?_ rfl ?_
            refine rd_ 14 rfl (fun K hK => ?_)
            go_simp
            (refine HS1.out.mono ?_; rintro e w3 ⟨rfl, k3⟩; have q0 := Kept.cell k3 p0; have q1 := Kept.cell k3 p1; have q2 := Kept.cell k3 p2; have q3 := Kept.cell k3 p3; have q4 := Kept.cell k3 p4; have q5 := Kept.cell k3 p5)
            go_wp2_with fail
            refine hK.out _ _ ⟨q0, q1, q2, q3, q4, q5⟩ (fun hHeld => ?_)
            clear hK K
            (try simp only [Act.put, s1_, s2_, s3_, s4_, s5_, s6_])
            refine tk_ 15 ?_ rfl ?_; refine tk_ 16 ?_ rfl ?_; refine tk_ 17 ?_ rfl ?_; refine tk_ 18 ?_ rfl ?_; refine tk_ 19 ?_ rfl ?_; refine tk_ 20 ?_ rfl ?_; refine tk_ 21 ?_ rfl ?_; refine tk_ 22 ?_ rfl ?_
            refine rd_ 23 rfl (fun K hK => ?_)
            go_simp
            (refine (HS2.out _ (Kept.trans KD.out k3)).mono ?_; rintro e w4 ⟨rfl, k4⟩; have r0 := Kept.cell k4 q0; have r1 := Kept.cell k4 q1; have r2 := Kept.cell k4 q2; have r3 := Kept.cell k4 q3; have r4 := Kept.cell k4 q4; have r5 := Kept.cell k4 q5)
            go_wp2_with fail
            refine hK.out _ _ ⟨r0, r1, r2, r3, r4, r5⟩ (fun hHeld => ?_)
            clear hK K
            (try simp only [Act.put, s1_, s2_, s3_, s4_, s5_, s6_])
            refine tk_ 24 ?_ rfl ?_; refine tk_ 25 ?_ rfl ?_; refine tk_ 26 ?_ rfl ?_; refine tk_ 27 ?_ rfl ?_; refine tk_ 28 ?_ rfl ?_; refine tk_ 29 ?_ rfl ?_
            refine rd_ 30 rfl (fun K hK => ?_)
            go_simp
            (refine (HS3.out _ (Kept.trans KD.out (Kept.trans k3 k4))).mono ?_; rintro e w5 ⟨rfl, k5⟩)
            go_wp2_with fail
            refine hK.out _ _ ⟨Kept.cell k5 r0, Kept.cell k5 r1, Kept.cell k5 r2, Kept.cell k5 r3, Kept.cell k5 r4, Kept.cell k5 r5⟩ (fun hHeld => ?_)
            clear hK K
            (try simp only [Act.put, s1_, s2_, s3_, s4_, s5_, s6_])
            refine tk_ 31 ?_ rfl ?_; refine tk_ 32 ?_ rfl ?_; refine tk_ 33 ?_ rfl ?_
            refine wpAnyH_done (by kernel_rfl) ?_ _
            go_wp2_with fail
            go_ret
            exact ⟨ret_bool HR.out.symm, Kept.trans KD.out (Kept.trans k3 (Kept.trans k4 k5))⟩
          · rw [he] at HS3
            have HR := Lib.hid (cand_excl he)
            clear he
            refine wp_region_held_drew (S := (fun w' => w'.cell? ⟨bn, 0, none⟩ = some (.slice Ac nc cc) ∧ w'.cell? ⟨bn, 2, none⟩ = some (.slice Ae ne ce) ∧ w'.cell? ⟨bn + 1, 0, none⟩ = some (.int .i64 m.src) ∧ w'.cell? ⟨bn + 1, 1, none⟩ = some (.slice (some ⟨b2, off2, none⟩) 2 c') ∧ w'.cell? ⟨bn + 1, 2, none⟩ = some (.string m.tag) ∧ w'.cell? ⟨b2, off2, none⟩ = some (.int .i64 x))) (by kernel_rfl) ⟨p0, p1, p2, p3, p4, p5⟩ (fun hHeld => ?_)
            refine tk_ 0 ?_ rfl ?_; refine tk_ 1 ?_ rfl ?_; refine tk_ 2 ?_ rfl ?_; refine tk_ 3 ?_ rfl ?_; refine tk_ 4 ?_ rfl ?_; refine tk_ 5 ?_ rfl ?_; refine tk_ 6 ?_ rfl ?_; refine tk_ 7 ?_ rfl ?_; refine tk_ 8 ?_ rfl ?_; refine tk_ 9 ?_ rfl ?_; refine tk_ 10 ?_ rfl ?_; refine tk_ 11 ?_ rfl ?_; refine tk_ 12 ?_ rfl ?_; refine tk_ 13 ?_ rfl ?_
            refine rd_ 14 rfl (fun K hK => ?_)
            go_simp
            (refine HS1.out.mono ?_; rintro e w3 ⟨rfl, k3⟩; have q0 := Kept.cell k3 p0; have q1 := Kept.cell k3 p1; have q2 := Kept.cell k3 p2; have q3 := Kept.cell k3 p3; have q4 := Kept.cell k3 p4; have q5 := Kept.cell k3 p5)
            go_wp2_with fail
            refine hK.out _ _ ⟨q0, q1, q2, q3, q4, q5⟩ (fun hHeld => ?_)
            clear hK K
            (try simp only [Act.put, s1_, s2_, s3_, s4_, s5_, s6_])
            refine tk_ 15 ?_ rfl ?_; refine tk_ 16 ?_ rfl ?_; refine tk_ 17 ?_ rfl ?_; refine tk_ 18 ?_ rfl ?_; refine tk_ 19 ?_ rfl ?_; refine tk_ 20 ?_ rfl ?_; refine tk_ 21 ?_ rfl ?_; refine tk_ 22 ?_ rfl ?_
            refine rd_ 23 rfl (fun K hK => ?_)
            go_simp
            (refine (HS2.out _ (Kept.trans KD.out k3)).mono ?_; rintro e w4 ⟨rfl, k4⟩; have r0 := Kept.cell k4 q0; have r1 := Kept.cell k4 q1; have r2 := Kept.cell k4 q2; have r3 := Kept.cell k4 q3; have r4 := Kept.cell k4 q4; have r5 := Kept.cell k4 q5)
            go_wp2_with fail
            refine hK.out _ _ ⟨r0, r1, r2, r3, r4, r5⟩ (fun hHeld => ?_)
            clear hK K
            (try simp only [Act.put, s1_, s2_, s3_, s4_, s5_, s6_])
            refine tk_ 24 ?_ rfl ?_; refine tk_ 25 ?_ rfl ?_; refine tk_ 26 ?_ rfl ?_; refine tk_ 27 ?_ rfl ?_; refine tk_ 28 ?_ rfl ?_; refine tk_ 29 ?_ rfl ?_
            refine rd_ 30 rfl (fun K hK => ?_)
            go_simp
            (refine (HS3.out _ (Kept.trans KD.out (Kept.trans k3 k4))).mono ?_; rintro e w5 ⟨rfl, k5⟩)
            go_wp2_with fail
            refine hK.out _ _ ⟨Kept.cell k5 r0, Kept.cell k5 r1, Kept.cell k5 r2, Kept.cell k5 r3, Kept.cell k5 r4, Kept.cell k5 r5⟩ (fun hHeld => ?_)
            clear hK K
            (try simp only [Act.put, s1_, s2_, s3_, s4_, s5_, s6_])
            refine tk_ 31 ?_ rfl ?_; refine tk_ 32 ?_ rfl ?_; refine tk_ 33 ?_ rfl ?_
            refine wpAnyH_done (by kernel_rfl) ?_ _
            go_wp2_with fail
            go_ret
            exact ⟨ret_bool HR.out.symm, Kept.trans KD.out (Kept.trans k3 (Kept.trans k4 k5))⟩
    · have hz : ((n' : Int) == 2) = false := by simp; omega
      have HR := Lib.hid (cand_len (n := n) (m := m) (by rw [← HIL.out]; exact h2))
      clear h2
      refine wp_region_held_drew (S := (fun w' => w'.cell? ⟨bn, 0, none⟩ = some (.slice Ac nc cc) ∧ w'.cell? ⟨bn, 2, none⟩ = some (.slice Ae ne ce) ∧ w'.cell? ⟨bn + 1, 0, none⟩ = some (.int .i64 m.src) ∧ w'.cell? ⟨bn + 1, 1, none⟩ = some (.slice A' n' c') ∧ w'.cell? ⟨bn + 1, 2, none⟩ = some (.string m.tag))) (by kernel_rfl) ⟨p0, p1, p2, p3, p4⟩ (fun hHeld => ?_)
      refine tk_ 0 ?_ rfl ?_; refine tk_ 1 ?_ rfl ?_; refine tk_ 2 ?_ rfl ?_; refine tk_ 3 ?_ rfl ?_; refine tk_ 4 ?_ rfl ?_; refine tk_ 5 ?_ rfl ?_; refine tk_ 6 ?_ rfl ?_; refine tk_ 7 ?_ rfl ?_; refine tk_ 8 ?_ rfl ?_; refine tk_ 9 ?_ rfl ?_; refine sk_ 10 rfl ?_; refine sk_ 11 rfl ?_; refine sk_ 12 rfl ?_; refine sk_ 13 rfl ?_; refine sk_ 14 rfl ?_; refine tk_ 15 ?_ rfl ?_; refine tk_ 16 ?_ rfl ?_; refine sk_ 17 rfl ?_; refine sk_ 18 rfl ?_; refine sk_ 19 rfl ?_; refine sk_ 20 rfl ?_; refine sk_ 21 rfl ?_; refine sk_ 22 rfl ?_; refine sk_ 23 rfl ?_; refine tk_ 24 ?_ rfl ?_; refine tk_ 25 ?_ rfl ?_; refine sk_ 26 rfl ?_; refine sk_ 27 rfl ?_; refine sk_ 28 rfl ?_; refine sk_ 29 rfl ?_; refine sk_ 30 rfl ?_; refine sk_ 31 rfl ?_; refine tk_ 32 ?_ rfl ?_; refine tk_ 33 ?_ rfl ?_
      refine wpAnyH_done (by kernel_rfl) ?_ _
      go_wp2_with fail
      go_ret
      exact ⟨ret_bool HR.out.symm, KD.out⟩
end Go.Proofs.YtmlcdohldkgcdaaGreatDoor
namespace Go.Proofs.YtmlcdohldkgcdaaGreatDoor
open Go Go.RowKit
theorem cand_two {n : Nrm} {m : Mp} (h : candB n m = true) : m.to.length = 2 := by
  simp only [candB, Bool.and_eq_true, decide_eq_true_eq] at h
  exact h.1.1.1.2
theorem find_at {l : List Mp} {p : Mp → Bool} {k : Nat} {m : Mp} (h : (l.take k).find? p = none) (hm : l[k]? = some m) (hp : p m = true) : l.find? p = some m := by
  have e : l = l.take k ++ m :: l.drop (k + 1) := by rw [← drop_some hm, List.take_append_drop]
  rw [e, List.find?_append, h, Option.none_or]
  simp [hp]
theorem find_snoc {l : List Mp} {p : Mp → Bool} {k : Nat} {m : Mp} (h : (l.take k).find? p = none) (hm : l[k]? = some m) (hp : p m = false) : (l.take (k + 1)).find? p = none := by
  rw [take_succ_some hm, List.find?_append, h, Option.none_or]
  simp [hp]
set_option maxRecDepth 100000 in
set_option maxHeartbeats 4000000 in
theorem r22pair (s : Sls) (n : Nrm) (a b : Int) (w : World) (hN : NormAt w s n) (hg : Good n) : Calls Tryz.prog 141 #[s.val, .int .i64 a, .int .i64 b] w (RetOI w (pairOf n a b)) := by
  have hk1 := Kept.alloc (Kept.refl w) (Obj.cells #[Value.slice s.Ac s.nc s.cc, Value.slice s.Am s.nm s.cm, Value.slice s.Ae s.ne s.ce] 28)
  have HCO := Lib.hid (r19compose a b (w.alloc (Obj.cells #[Value.slice s.Ac s.nc s.cc, Value.slice s.Am s.nm s.cm, Value.slice s.Ae s.ne s.ce] 28)))
  have hbx := box_cell w #[Value.slice s.Ac s.nc s.cc, Value.slice s.Am s.nm s.cm, Value.slice s.Ae s.ne s.ce] 28
  have x0 : (w.alloc (Obj.cells #[Value.slice s.Ac s.nc s.cc, Value.slice s.Am s.nm s.cm, Value.slice s.Ae s.ne s.ce] 28)).cell? ⟨w.heap.size, 0, none⟩ = some (.slice s.Ac s.nc s.cc) := hbx 0
  have x1 : (w.alloc (Obj.cells #[Value.slice s.Ac s.nc s.cc, Value.slice s.Am s.nm s.cm, Value.slice s.Ae s.ne s.ce] 28)).cell? ⟨w.heap.size, 1, none⟩ = some (.slice s.Am s.nm s.cm) := hbx 1
  have x2 : (w.alloc (Obj.cells #[Value.slice s.Ac s.nc s.cc, Value.slice s.Am s.nm s.cm, Value.slice s.Ae s.ne s.ce] 28)).cell? ⟨w.heap.size, 2, none⟩ = some (.slice s.Ae s.ne s.ce) := hbx 2
  have HX0 := Lib.hid x0
  have HX1 := Lib.hid x1
  have HX2 := Lib.hid x2
  have HK1 := Lib.hid hk1
  have HN := Lib.hid hN
  have HGD := Lib.hid hg
  have hbm : s.nm ≤ 1000 := hN.bm
  have HNM := Lib.hid hN.dec.1
  have HCM := Lib.hid (fun i m w' (hm : n.decomp[i]? = some m) (hk : Kept w w') => r22composite s n i m w' (hN.kept hk) hg hm)
  clear hN hg hk1 hbx x0 x1 x2
  unfold Sls.val at *
  cases hco : compH a b with
  | some c =>
    have HP := Lib.hid (show pairOf n a b = some c by unfold pairOf; rw [hco])
    rw [hco] at HCO
    clear hco
    go_enter Tryz.func141, Tryz.ntmps141
    go_wp2_with fail
    refine HCO.out.mono ?_
    rintro e w1 ⟨rfl, k1⟩
    go_wp2_with fail
    go_ret2
    rw [HP.out]
    exact ⟨rfl, Kept.trans HK1.out k1⟩
  | none =>
    have HP := Lib.hid (show pairOf n a b = (n.decomp.find? (isPair n a b)).map (·.src) by unfold pairOf pairM; rw [hco]; rfl)
    rw [hco] at HCO
    clear hco
    go_enter Tryz.func141, Tryz.ntmps141
    go_wp2_with fail
    refine HCO.out.mono ?_
    rintro e w1 ⟨rfl, k1⟩
    have KB1 := Lib.hid k1
    obtain ⟨bn, hbn⟩ : ∃ bn : Nat, bn = w.heap.size := ⟨_, rfl⟩
    have HY0 := Lib.hid (Kept.cell k1 HX0.out)
    have HY1 := Lib.hid (Kept.cell k1 HX1.out)
    have HY2 := Lib.hid (Kept.cell k1 HX2.out)
    have K1 := Lib.hid (Kept.trans HK1.out k1)
    go_wp2_with fail
    rw [← hbn] at HY0 HY1 HY2 ⊢
    clear hbn k1
    go_loopw [10] (fun i wr => ∃ k : Nat, k ≤ s.nm ∧ i = .int .i64 k ∧ (n.decomp.take k).find? (isPair n a b) = none ∧ Kept w1 wr) (fun i _ => s.nm - (intOf i).toNat)
    case atStart => exact ⟨0, Nat.zero_le _, rfl, by simp, Kept.refl _⟩
    case round =>
      obtain ⟨k, hk, rfl, hno, hkw⟩ := hrel
      have HNO := Lib.hid hno
      have HKW := Lib.hid hkw
      have KW := Lib.hid (Kept.trans K1.out hkw)
      have q0 := Kept.cell hkw HY0.out
      have q1 := Kept.cell hkw HY1.out
      have q2 := Kept.cell hkw HY2.out
      clear hno hkw
      by_cases hlt : k < s.nm
      · obtain ⟨bb, off, m, A', n', c', hA, hm, hle, hI, c0, c1, c2⟩ := mp_at (HN.out.dec.kept KW.out) hlt
        have HM := Lib.hid hm
        have HI := Lib.hid hI
        have HAm := Lib.hid hA
        have HC := Lib.hid (HCM.out k m wr hm KW.out)
        have hn' : n' ≤ 1000 := by rw [hI.1]; exact HN.out.10 m (mem_of_getElem?_some hm)
        have HNXT := Lib.hid (fun (hp : isPair n a b m = false) w' (hk' : Kept wr w') => (⟨k + 1, by omega, by go_num, find_snoc HNO.out HM.out hp, Kept.trans HKW.out hk'⟩ : ∃ k' : Nat, k' ≤ s.nm ∧ Value.int .i64 ((k : Int) + 1) = .int .i64 k' ∧ (n.decomp.take k').find? (isPair n a b) = none ∧ Kept w1 w'))
        have hk0 : (0 : Int) ≤ (k : Int) := by omega
        have hk1 : (k : Int) < (s.nm : Int) := by omega
        clear hm hI hA
        cases hcd : candB n m
        · rw [hcd] at HC
          have HF := Lib.hid (show isPair n a b m = false by simp [isPair, hcd])
          clear hcd
          go_wp2_with fail
          refine HC.out.mono ?_
          rintro e w4 ⟨rfl, k4⟩
          go_wp2_with fail
          go_roundw
          case rel => exact HNXT.out HF.out _ k4
          case measure => simp [intOf]; omega
        · rw [hcd] at HC
          have h2 : n' = 2 := by rw [HI.out.1]; exact cand_two hcd
          subst h2
          obtain ⟨b2, off2, x, hA', hx, e0⟩ := int_at (i := 0) HI.out (by omega)
          obtain ⟨b3, off3, y, hA3, hy, e1⟩ := int_at (i := 1) HI.out (by omega)
          subst hA'
          simp only [Option.some.injEq, Addr.mk.injEq, and_true] at hA3
          obtain ⟨rfl, rfl⟩ := hA3
          have hto : m.to = [x, y] := by
            have h1 := HI.out.1
            match hmt : m.to, h1 with
            | [u, v], _ =>
              rw [hmt] at hx hy
              simp only [List.getElem?_cons_zero, List.getElem?_cons_succ, Option.some.injEq] at hx hy
              rw [hx, hy]
          have HIP := Lib.hid (show isPair n a b m = decide (x = a ∧ y = b) by
            unfold isPair
            rw [hcd, hto, Bool.true_and]
            simp)
          clear hcd hx hy hto
          go_wp2_with fail
          refine HC.out.mono ?_
          rintro e w4 ⟨rfl, k4⟩
          have r1 := Kept.cell k4 q1
          rw [HAm.out] at r1
          have s0 := Kept.cell k4 c0
          have s1 := Kept.cell k4 c1
          have t0 := Kept.cell k4 e0
          have t1 := Kept.cell k4 e1
          simp only [Nat.add_zero] at t0
          clear q0 q1 q2 c0 c1 c2 e0 e1
          by_cases ha : x = a
          · have ga : (x == a) = true := by simp [ha]
            by_cases hb : y = b
            · have gb : (y == b) = true := by simp [hb]
              have HR := Lib.hid (show pairOf n a b = some m.src by
                rw [HP.out, find_at HNO.out HM.out (by rw [HIP.out]; simp [ha, hb])]; rfl)
              clear ha hb
              go_wp2_with fail
              go_ret2
              rw [HR.out]
              exact ⟨rfl, Kept.trans KW.out k4⟩
            · have gb : (y == b) = false := by simp [hb]
              have HF := Lib.hid (show isPair n a b m = false by rw [HIP.out]; simp [hb])
              clear ha hb
              go_wp2_with fail
              go_roundw
              case rel => exact HNXT.out HF.out _ k4
              case measure => simp [intOf]; omega
          · have ga : (x == a) = false := by simp [ha]
            have HF := Lib.hid (show isPair n a b m = false by rw [HIP.out]; simp [ha])
            clear ha
            go_wp2_with fail
            go_roundw
            case rel => exact HNXT.out HF.out _ k4
            case measure => simp [intOf]; omega
      · have hfull : n.decomp.take k = n.decomp := List.take_of_length_le (by have := HNM.out; omega)
        have HR := Lib.hid (show pairOf n a b = none by rw [HP.out]; have := HNO.out; rw [hfull] at this; rw [this]; rfl)
        have hge : ¬ ((k : Int) < (s.nm : Int)) := by omega
        clear hfull
        go_wp2_with fail
        go_ret2
        rw [HR.out]
        exact ⟨rfl, KW.out⟩
end Go.Proofs.YtmlcdohldkgcdaaGreatDoor
