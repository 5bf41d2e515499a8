/- quickcheck.Sets. -/
import Derived.Deep.RegionHeld3
import Derived.Test.YtomgchfjachedaaGreatDoorKBase
import Derived.Test.YtomgchfjachedaaGreatDoorKQcj
import Derived.Test.YtomgchfjachedaaGreatDoorKCur
import Derived.Test.YtomgchfjachedaaGreatDoorKMemA
import Derived.Test.YtomgchfjachedaaGreatDoorKAlive24
import Derived.Test.YtomgchfjachedaaGreatDoorKQpl
namespace Go.Proofs.YtomgchfjachedaaGreatDoor
open Go Go.RowKit
theorem chg_hasQ (n : Nrm) (cp : Bool) (x : Int) : hasR (changedR n cp) x = (onceOf (usableN n).decomp x cp).isSome := by
  unfold changedR
  rw [has_make, has_chg (usableN_good n)]
theorem hasR_vB {R : List Rng} {x : Int} (h : hasR R x = true) : validB x = true := by
  unfold hasR at h
  obtain ⟨r, _, hr⟩ := List.any_eq_true.1 h
  simp only [inR, Bool.and_eq_true] at hr
  exact hr.1.1
theorem getKV_map {f : Int → Value} {c : Int} : ∀ {l : List Int}, c ∈ l → getKV (l.map fun c => (c, f c)) c = some (f c)
  | [], h => by cases h
  | a :: l, h => by
    rw [List.map_cons, getKV]
    by_cases ha : a = c
    · rw [if_pos ha, ha]
    · rw [if_neg ha]
      rcases List.mem_cons.1 h with e | h
      · exact absurd e.symm ha
      · exact getKV_map h
theorem setOne_step {f : Int → Int} {l : List Int} {k : Nat} {c : Int} (h : l[k]? = some c) (v : Int) : setOne f (l.take (k + 1)) v = setOne f (l.take k) v ++ if f c = v then [⟨c, c⟩] else [] := by
  unfold setOne
  rw [take_succ_some h, List.filter_append, List.map_append]
  congr 1
  by_cases hv : f c = v <;> simp [hv]
theorem setOne_le (f : Int → Int) (l : List Int) (v : Int) : (setOne f l v).length ≤ l.length := by
  unfold setOne
  rw [List.length_map]
  exact List.length_filter_le _ _
def RetSets (w : World) (f : Int → Int) (e : Ending) (w' : World) : Prop := ∃ R1 A1 m1 c1 R2 A2 m2 c2, e = .returned (.tuple #[.agg #[.slice A1 m1 c1], .agg #[.slice A2 m2 c2]]) ∧ m1 ≤ c1 ∧ m2 ≤ c2 ∧ m1 ≤ 100000 ∧ m2 ≤ 100000 ∧ Rngs w' A1 m1 R1 ∧ Rngs w' A2 m2 R2 ∧ Canon R1 ∧ Canon R2 ∧
  (∀ x, hasR R1 x = (validB x && decide (f x = 2))) ∧ (∀ x, hasR R2 x = (validB x && decide (f x = 3))) ∧ Kept w w'
theorem canon_nil : Canon [] := ⟨by simp, .nil⟩
theorem rngs_setR {w : World} {A : Option Addr} {m b : Nat} {R : List Rng} {u v : Value} {t : TypeId} (h : Rngs w A m R) (hb : w.heap[b]? = some (.cells #[u] t (0, 0))) : Rngs (w.setCell ⟨b, 0, none⟩ v) A m R :=
  sl_butK h (KeptBut.setCell (S := [b]) w (by simp) v) (fun p hp h0 => by simpa using rngs_one h hb p hp h0)
theorem canonR {R : List Rng} (h : Canon R) : ∀ r ∈ R, 0 ≤ r.lo ∧ r.lo ≤ r.hi ∧ r.hi ≤ 1114111 := fun r hr => by
  obtain ⟨h1, h2, h3⟩ := h.1 r hr
  exact ⟨h1, h2, h3⟩
theorem setsHas {CR R M : List Rng} {g : Int → Bool} {h : Int → Bool} (h1 : ∀ x, hasR CR x = g x) (h2 : ∀ x, hasR R x = h x) (h3 : ∀ x, hasR M x = (validB x && (hasR CR x || hasR R x))) : ∀ x, hasR M x = (g x || h x) := fun x => by
  rw [h3 x]
  cases ha : hasR CR x
  · cases hb : hasR R x
    · rw [← h1, ← h2, ha, hb]; simp
    · rw [← h1, ← h2, ha, hb, hasR_vB hb]; rfl
  · rw [← h1, ha, hasR_vB ha]; simp
set_option maxRecDepth 100000 in
set_option maxHeartbeats 8000000 in
theorem sets_any (s : Sls) (n : Nrm) (form : Int) (w : World) (hN : NormAt w s n) (hG : Glob w) : Calls Tryz.prog 14 #[s.val, .int .i64 form] w (RetSets w (charQ n form)) := by
  have hk3 := Kept.alloc (Kept.alloc (Kept.alloc (Kept.refl w) (Obj.cells #[Value.slice s.Ac s.nc s.cc, Value.slice s.Am s.nm s.cm, Value.slice s.Ae s.ne s.ce] 28)) (Obj.cells #[Value.slice none 0 0] 26)) (Obj.cells #[Value.slice none 0 0] 26)
  have HK3 := Lib.hid hk3
  have HP := Lib.hid (prepare_any s n form _ (hN.kept hk3) (hG.kept hk3))
  obtain ⟨B, hB⟩ : ∃ B : Nat, B = w.heap.size := ⟨_, rfl⟩
  have HBB := Lib.hid hB
  have hb0 : (((w.alloc (Obj.cells #[Value.slice s.Ac s.nc s.cc, Value.slice s.Am s.nm s.cm, Value.slice s.Ae s.ne s.ce] 28)).alloc (Obj.cells #[Value.slice none 0 0] 26)).alloc (Obj.cells #[Value.slice none 0 0] 26)).heap[B]? = some (Obj.cells #[Value.slice s.Ac s.nc s.cc, Value.slice s.Am s.nm s.cm, Value.slice s.Ae s.ne s.ce] 28) := alloc_lift (alloc_lift (alloc_at hB))
  have HB1 := Lib.hid (show (((w.alloc (Obj.cells #[Value.slice s.Ac s.nc s.cc, Value.slice s.Am s.nm s.cm, Value.slice s.Ae s.ne s.ce] 28)).alloc (Obj.cells #[Value.slice none 0 0] 26)).alloc (Obj.cells #[Value.slice none 0 0] 26)).heap[B + 1]? = some (.cells #[Value.slice none 0 0] 26 (0, 0)) from alloc_lift (alloc_at (by simp [hB])))
  have HB2 := Lib.hid (show (((w.alloc (Obj.cells #[Value.slice s.Ac s.nc s.cc, Value.slice s.Am s.nm s.cm, Value.slice s.Ae s.ne s.ce] 28)).alloc (Obj.cells #[Value.slice none 0 0] 26)).alloc (Obj.cells #[Value.slice none 0 0] 26)).heap[B + 1 + 1]? = some (.cells #[Value.slice none 0 0] 26 (0, 0)) from alloc_at (by simp [hB]))
  have x0 := cell_of_block (i := 0) hb0 rfl
  have x1 := cell_of_block (i := 1) hb0 rfl
  have x2 := cell_of_block (i := 2) hb0 rfl
  simp only [s4_, s5_, s6_] at x0 x1 x2
  have HU := Lib.hid (usableS_at hN)
  have HG := Lib.hid hG
  have HBM := Lib.hid (show (usableN n).decomp.length ≤ 1000 by have h := usableS_at hN; rw [← h.dec.1]; exact h.bm)
  unfold RetChk at HP
  obtain ⟨i0, hi, hz0, hz1, hz2⟩ := info_parts info_rng
  have HI0 := Lib.hid hi
  have HZ0 := Lib.hid hz0
  have HZ1 := Lib.hid hz1
  have HZ2 := Lib.hid hz2
  clear hi hz0 hz1 hz2 hN hG hk3 hb0 hB
  unfold Sls.val at *
  by_cases hf : form < 1 ∨ 4 < form
  · simp only [if_pos hf] at HP
    have HQ := Lib.hid (show ∀ x, charQ n form x = 1 from fun x => by unfold charQ; rw [if_pos hf])
    clear hf
    go_enter Tryz.func14, Tryz.ntmps14
    rw [HBB.out] at x0 x1 x2
    go_wp2_with fail
    clear x0 x1 x2
    rw [← HBB.out]
    generalize ((w.alloc (Obj.cells #[Value.slice s.Ac s.nc s.cc, Value.slice s.Am s.nm s.cm, Value.slice s.Ae s.ne s.ce] 28)).alloc (Obj.cells #[Value.slice none 0 0] 26)).alloc (Obj.cells #[Value.slice none 0 0] 26) = W3 at *
    refine HP.out.mono ?_
    rintro e w1 ⟨rfl, k1⟩
    have K1 := Lib.hid (Kept.trans HK3.out k1)
    have hka := Kept.alloc (Kept.refl w1) (Obj.cells #[Value.slice none 0 0, Value.slice none 0 0, Value.slice none 0 0, Value.int .i64 0, Value.bool false, Value.slice none 0 0] 69)
    have e1 := (hka.block _ (block_lt ((k1.block _ (block_lt HB1.out)).trans HB1.out))).trans ((k1.block _ (block_lt HB1.out)).trans HB1.out)
    have e2 := (hka.block _ (block_lt ((k1.block _ (block_lt HB2.out)).trans HB2.out))).trans ((k1.block _ (block_lt HB2.out)).trans HB2.out)
    have HKA := Lib.hid (Kept.trans K1.out hka)
    have HE1 := Lib.hid e1
    have HE2 := Lib.hid e2
    have f1 := frozen_of_block (i := 0) e1
    have g1 := cell_of_block (i := 0) e1 rfl
    simp only [s4_, s5_] at g1
    have e3 := (KeptBut.setCell (S := [B + 1]) (w1.alloc (Obj.cells #[Value.slice none 0 0, Value.slice none 0 0, Value.slice none 0 0, Value.int .i64 0, Value.bool false, Value.slice none 0 0] 69)) (p := ⟨B + 1, 0, none⟩) (by simp) (.slice none 0 0)).block (B + 1 + 1) (block_lt e2) (by simp) |>.trans e2
    have f2 := frozen_of_block (i := 0) e3
    have g2 := cell_of_block (i := 0) e3 rfl
    simp only [s4_, s5_] at g2
    have HE3 := Lib.hid e3
    clear e1 e2 e3 hka k1
    go_wp2_with fail
    have h1 := heap_setCell_one (v := .slice none 0 0) HE1.out
    have h2 := heap_setCell_one (v := .slice none 0 0) HE3.out
    have h3 := (KeptBut.setCell (S := [B + 1 + 1]) ((w1.alloc (Obj.cells #[Value.slice none 0 0, Value.slice none 0 0, Value.slice none 0 0, Value.int .i64 0, Value.bool false, Value.slice none 0 0] 69)).setCell ⟨B + 1, 0, none⟩ (.slice none 0 0)) (p := ⟨B + 1 + 1, 0, none⟩) (by simp) (.slice none 0 0)).block (B + 1) (block_lt h1) (by simp) |>.trans h1
    have y1 := cell_of_block (i := 0) h3 rfl
    have y2 := cell_of_block (i := 0) h2 rfl
    simp only [s4_, s5_] at y1 y2
    clear g1 g2 f1 f2
    refine bodyPost_ret (v := .tuple #[.agg #[.slice none 0 0], .agg #[.slice none 0 0]]) (by simp [results, Tryz.results14, go_sem, y1, y2]) rfl ⟨[], none, 0, 0, [], none, 0, 0, rfl, Nat.le_refl _, Nat.le_refl _, Nat.zero_le _, Nat.zero_le _, Sl.nil, Sl.nil, canon_nil, canon_nil, fun x => by rw [HQ.out x]; simp [hasR], fun x => by rw [HQ.out x]; simp [hasR], ?_⟩
    exact Kept.setCell (Kept.setCell HKA.out (by rw [← HBB.out]; show B ≤ B + 1; omega) _) (by rw [← HBB.out]; show B ≤ B + 1 + 1; omega) _
  · simp only [if_neg hf] at HP
    have HF := Lib.hid hf
    have HCH := Lib.hid (fun w' (hk : Kept w w') => changed_any (usableS s n) (usableN n) (cpOf form) w' (HU.out.kept hk) (HG.out.kept hk))
    have HRES := Lib.hid (fun AR mR cR R AC nC cC codes w' (hk : Kept w w') => results_any (usableS s n) n form AR mR cR R AC nC cC codes w' (HU.out.kept hk) (HG.out.kept hk) hf)
    have HHS := Lib.hid (fun x => show hasR (changedR (usableN n) (cpOf form)) x = (onceOf (usableN n).decomp x (cpOf form)).isSome by rw [chg_hasQ, usableN_twice])
    have HCL := Lib.hid (show (changedR (usableN n) (cpOf form)).length ≤ 10000 by
      unfold changedR
      have h1 := makeR_length (chgL (usableN (usableN n)).decomp (cpOf form))
      have h2 := chgL_length (usableN (usableN n)).decomp (cpOf form)
      have h3 := HBM.out
      rw [usableN_twice] at h1 h2 ⊢
      omega)
    have HALL2 := Lib.hid (fun (M : List Rng) hc h => codes_all n hf (R := M) hc h (v := 2) (by decide))
    have HALL3 := Lib.hid (fun (M : List Rng) hc h => codes_all n hf (R := M) hc h (v := 3) (by decide))
    have HQC := Lib.hid (charQ_cases n form)
    have HLEN := Lib.hid (fun (M : List Rng) hc h => codes_length (usableN n) (R := M) (cp := cpOf form) (b := comps form) hc h)
    unfold Sls.chk at HP
    unfold resM at HRES
    generalize changedR (usableN n) (cpOf form) = CR at *
    generalize hcq : charQ n form = f at *
    clear hf hcq HU
    generalize usableS s n = s1 at *
    generalize cpOf form = cp at *
    unfold Sls.val at *
    go_enter Tryz.func14, Tryz.ntmps14
    rw [HBB.out] at x0 x1 x2
    go_wp2_with fail
    clear x0 x1 x2
    rw [← HBB.out]
    generalize ((w.alloc (Obj.cells #[Value.slice s.Ac s.nc s.cc, Value.slice s.Am s.nm s.cm, Value.slice s.Ae s.ne s.ce] 28)).alloc (Obj.cells #[Value.slice none 0 0] 26)).alloc (Obj.cells #[Value.slice none 0 0] 26) = W3 at *
    refine HP.out.mono ?_
    rintro e w1 ⟨R, AR, mR, cR, rfl, leR, hmR, iR, hsR, hmk, k1⟩
    have IR := Lib.hid iR
    have HSR := Lib.hid hsR
    have K1 := Lib.hid (Kept.trans HK3.out k1)
    have hka := Kept.alloc (Kept.refl w1) (Obj.cells #[Value.slice s1.Ac s1.nc s1.cc, Value.slice s1.Am s1.nm s1.cm, Value.slice s1.Ae s1.ne s1.ce, Value.int IntKind.i64 form, Value.bool cp, Value.slice AR mR cR] 69)
    have KA := Lib.hid (Kept.trans K1.out hka)
    have KA1 := Lib.hid hka
    have hc1 := block_lt HB2.out
    have hc2 := k1.size
    have E1 := Lib.hid ((hka.block _ (by omega)).trans ((k1.block _ (block_lt HB1.out)).trans HB1.out))
    have E2 := Lib.hid ((hka.block _ (by omega)).trans ((k1.block _ (block_lt HB2.out)).trans HB2.out))
    obtain ⟨bc, hbc⟩ : ∃ bc : Nat, bc = w1.heap.size := ⟨_, rfl⟩
    have hcb : (w1.alloc (Obj.cells #[Value.slice s1.Ac s1.nc s1.cc, Value.slice s1.Am s1.nm s1.cm, Value.slice s1.Ae s1.ne s1.ce, Value.int IntKind.i64 form, Value.bool cp, Value.slice AR mR cR] 69)).heap[bc]? = some (.cells #[Value.slice s1.Ac s1.nc s1.cc, Value.slice s1.Am s1.nm s1.cm, Value.slice s1.Ae s1.ne s1.ce, Value.int IntKind.i64 form, Value.bool cp, Value.slice AR mR cR] 69 (0, 0)) := alloc_at hbc
    have p0 := cell_of_block (i := 0) hcb rfl
    have p1 := cell_of_block (i := 1) hcb rfl
    have p2 := cell_of_block (i := 2) hcb rfl
    have p3 := cell_of_block (i := 3) hcb rfl
    have p4 := cell_of_block (i := 4) hcb rfl
    have p5 := cell_of_block (i := 5) hcb rfl
    simp only [s4_, s5_, s6_] at p0 p1 p2 p3 p4 p5
    have HBC := Lib.hid hbc
    rw [hbc] at p0 p1 p2 p3 p4 p5
    have HX0 := Lib.hid p0
    have HX1 := Lib.hid p1
    have HX2 := Lib.hid p2
    have HX3 := Lib.hid p3
    have HX4 := Lib.hid p4
    have HX5 := Lib.hid p5
    clear iR hsR hmk k1 hka hbc hcb HP HX0 HX1 HX2 HX3 HX4 HX5
    go_wp2_with fail
    rw [← HBC.out] at p0 p1 p2 p3 p4 p5
    rw [← HBC.out]
    have HX0 := Lib.hid p0
    have HX1 := Lib.hid p1
    have HX2 := Lib.hid p2
    have HX3 := Lib.hid p3
    have HX4 := Lib.hid p4
    have HX5 := Lib.hid p5
    generalize w1.alloc (Obj.cells #[Value.slice s1.Ac s1.nc s1.cc, Value.slice s1.Am s1.nm s1.cm, Value.slice s1.Ae s1.ne s1.ce, Value.int IntKind.i64 form, Value.bool cp, Value.slice AR mR cR] 69) = W4 at *
    refine wp_region_held_drew (S := (fun w' => w'.cell? ⟨bc, 0, none⟩ = some (Value.slice s1.Ac s1.nc s1.cc) ∧ w'.cell? ⟨bc, 1, none⟩ = some (Value.slice s1.Am s1.nm s1.cm) ∧ w'.cell? ⟨bc, 2, none⟩ = some (Value.slice s1.Ae s1.ne s1.ce) ∧ w'.cell? ⟨bc, 3, none⟩ = some (Value.int IntKind.i64 form) ∧ w'.cell? ⟨bc, 4, none⟩ = some (Value.bool cp) ∧ w'.cell? ⟨bc, 5, none⟩ = some (Value.slice AR mR cR))) (by kernel_rfl) ⟨p0, p1, p2, p3, p4, p5⟩ (fun hHeld => ?_)
    refine tk_ 0 ?_ rfl ?_; refine tk_ 1 ?_ rfl ?_; refine tk_ 2 ?_ rfl ?_; refine tk_ 3 ?_ rfl ?_; refine tk_ 5 ?_ rfl ?_; refine tk_ 6 ?_ rfl ?_
    refine rd_ 4 rfl (fun K hK => ?_)
    go_simp
    (refine (HCH.out _ (Kept.drew KA.out)).mono ?_; rintro e w5 ⟨A5, n5, c5, rfl, le5, i5, k5⟩; have I5 := Lib.hid i5; have hn5 : n5 ≤ 10000 := (by rw [i5.1]; exact HCL.out); have K5 := Lib.hid (Kept.trans (Kept.drew (Kept.refl W4)) k5); clear i5 k5)
    go_wp2_with fail
    refine hK.out _ _ ⟨Kept.cell K5.out HX0.out, Kept.cell K5.out HX1.out, Kept.cell K5.out HX2.out, Kept.cell K5.out HX3.out, Kept.cell K5.out HX4.out, Kept.cell K5.out HX5.out⟩ (fun hHeld => ?_)
    clear hK K
    (try simp only [Act.put, s1_, s2_, s3_, s4_, s5_, s6_])
    refine rd_ 7 rfl (fun K hK => ?_)
    go_simp
    (refine (or_any A5 n5 c5 CR AR mR cR R _ hn5 (by omega) I5.out (IR.out.kept (Kept.trans KA1.out K5.out))).mono ?_; rintro e w6 ⟨M, A6, n6, c6, rfl, le6, hm6, i6, hcan, hhas, k6⟩; have I6 := Lib.hid i6; have K6 := Lib.hid (Kept.trans K5.out k6); have HCAN := Lib.hid hcan; have HHAS := Lib.hid (setsHas HHS.out HSR.out hhas); have HMR := Lib.hid (canonR hcan); have HLN := Lib.hid (HLEN.out M hcan HHAS.out); clear i6 k6 hcan hhas)
    go_wp2_with fail
    refine hK.out _ _ ⟨Kept.cell K6.out HX0.out, Kept.cell K6.out HX1.out, Kept.cell K6.out HX2.out, Kept.cell K6.out HX3.out, Kept.cell K6.out HX4.out, Kept.cell K6.out HX5.out⟩ (fun hHeld => ?_)
    clear hK K
    (try simp only [Act.put, s1_, s2_, s3_, s4_, s5_, s6_])
    refine rd_ 8 rfl (fun K hK => ?_)
    go_simp
    (obtain ⟨w7, hd7, hk7, hco7⟩ := mems_any A6 n6 c6 M w6 hm6 (by have := HLN.out; have := HBM.out; omega) HMR.out I6.out; have HCO := Lib.hid hco7; have K7 := Lib.hid (Kept.trans K6.out hk7); clear hk7 hco7; refine hd7.mono ?_; rintro e w7' ⟨rfl, rfl⟩)
    go_wp2_with fail
    refine hK.out _ _ ⟨Kept.cell K7.out HX0.out, Kept.cell K7.out HX1.out, Kept.cell K7.out HX2.out, Kept.cell K7.out HX3.out, Kept.cell K7.out HX4.out, Kept.cell K7.out HX5.out⟩ (fun hHeld => ?_)
    clear hK K
    (try simp only [Act.put, s1_, s2_, s3_, s4_, s5_, s6_])
    refine rd_ 9 rfl (fun K hK => ?_)
    go_simp
    (refine HCO.out.mono ?_; rintro e w8 ⟨A8, n8, c8, rfl, le8, i8, k8⟩; have I8 := Lib.hid i8; have hn8 : n8 ≤ 20000 := (by rw [i8.1]; have := HLN.out; have := HBM.out; omega); have HN8 := Lib.hid i8.1; have K8 := Lib.hid (Kept.trans K7.out k8); clear i8 k8)
    go_wp2_with fail
    refine hK.out _ _ ⟨Kept.cell K8.out HX0.out, Kept.cell K8.out HX1.out, Kept.cell K8.out HX2.out, Kept.cell K8.out HX3.out, Kept.cell K8.out HX4.out, Kept.cell K8.out HX5.out⟩ (fun hHeld => ?_)
    clear hK K
    (try simp only [Act.put, s1_, s2_, s3_, s4_, s5_, s6_])
    refine tk_ 10 ?_ rfl ?_
    refine wpAnyH_done (by kernel_rfl) ?_ _
    clear p0 p1 p2 p3 p4 p5
    have p0 := Kept.cell K8.out HX0.out
    have p1 := Kept.cell K8.out HX1.out
    have p2 := Kept.cell K8.out HX2.out
    have p3 := Kept.cell K8.out HX3.out
    have p4 := Kept.cell K8.out HX4.out
    have p5 := Kept.cell K8.out HX5.out
    have HND := Lib.hid (memsL_nodup HCAN.out)
    have HNN := Lib.hid (codes_nonneg HCAN.out)
    have H2 := Lib.hid (HALL2.out M HCAN.out HHAS.out)
    have H3 := Lib.hid (HALL3.out M HCAN.out HHAS.out)
    clear HHAS HCAN HLN HALL2 HALL3 HLEN HMR HCO HHS HCH
    generalize memsL M = codes at *
    have HQ := Lib.hid (HRES.out AR mR cR R A8 n8 c8 codes w8 (Kept.trans KA.out K8.out) hmR (IR.out.kept (Kept.trans KA1.out K8.out)) HSR.out (by omega) I8.out HND.out HNN.out)
    clear HRES
    go_wp2_with fail
    refine HQ.out.mono ?_
    rintro e w9 ⟨bm, rfl, hM9, k9⟩
    have HM9 := Lib.hid hM9
    have K9 := Lib.hid (Kept.trans K8.out k9)
    have I9 := Lib.hid (I8.out.kept k9)
    clear hM9 k9 p0 p1 p2 p3 p4 p5 HQ
    go_wp2_with fail
    go_loopw [10, 11, 39] (fun p q i wr => ∃ k : Nat, k ≤ n8 ∧ i = .int .i64 k ∧ OwnR wr w9.heap.size p (setOne f (codes.take k) 2) ∧ OwnR wr w9.heap.size q (setOne f (codes.take k) 3) ∧ (∀ g, p.ownBlock = some g → q.ownBlock ≠ some g) ∧ Kept w9 wr) (fun _ _ i _ => n8 - (intOf i).toNat)
    case atStart => exact ⟨0, Nat.zero_le _, rfl, (World.ownsRow_nil _ _ _ _ : OwnR w9 w9.heap.size (.slice none 0 0) []), (World.ownsRow_nil _ _ _ _ : OwnR w9 w9.heap.size (.slice none 0 0) []), (fun g h => by cases h), Kept.refl _⟩
    case round =>
      obtain ⟨k, hk, rfl, hp, hq, hne, hkw⟩ := hrel
      have HO := Lib.hid hp
      have HO2 := Lib.hid hq
      have HNE := Lib.hid hne
      have HKW := Lib.hid hkw
      have hsz := hkw.size
      have hl1 : (setOne f (codes.take k) 2).length ≤ 20000 := by have := setOne_le f (codes.take k) 2; have h2 : (codes.take k).length ≤ k := List.length_take_le _ _; omega
      have hl2 : (setOne f (codes.take k) 3).length ≤ 20000 := by have := setOne_le f (codes.take k) 3; have h2 : (codes.take k).length ≤ k := List.length_take_le _ _; omega
      clear hp hq hne hkw
      by_cases hlt : k < n8
      · obtain ⟨b, off, x, rfl, hx, cx⟩ := int_at (I9.out.kept HKW.out) hlt
        have HS2 := Lib.hid (setOne_step (f := f) hx 2)
        have HS3 := Lib.hid (setOne_step (f := f) hx 3)
        have hlk := run_lookup_plain (T := 78) (E := 3) (keyOk_int (P := Tryz.prog) (K := 3) (by kernel_rfl)) (by kernel_rfl) (HM9.out.kept HKW.out) (.int .i64 0) (fun w => by kernel_rfl) x
        rw [getKV_map (mem_of_getElem?_some hx)] at hlk
        have hqx := HQC.out x
        clear hx
        generalize f x = q at *
        simp only [Option.getD_some] at hlk
        rcases hqx with rfl | rfl | rfl
        · go_wp2_with fail
          go_roundw
          case rel => exact ⟨k + 1, by omega, by go_num, by rw [HS2.out, if_neg (by decide), List.append_nil]; exact HO.out, by rw [HS3.out, if_neg (by decide), List.append_nil]; exact HO2.out, HNE.out, HKW.out⟩
          case measure => simp [intOf]; omega
        · go_wp2_with (at_builtin; refine wpList_append_own_at _ rfl _ _ 24 rfl w9.heap.size 81 i0 (.agg #[.int .i64 0, .int .i64 0]) 2 16 Tryz.underlying24 HI0.out HZ0.out HZ1.out HZ2.out rfl (by decide) _ _ _ rfl (HO.out.alloc _) ⟨wr.heap.size, 0, none⟩ 1 1 [.int .i64 x, .int .i64 x] rfl rfl (cell_two_new rfl) (by simp [Value.oneCell']) (by unfold maxLen; omega) (by omega) (by simp; omega) ?_; intro v1 w2 hown1 hg1 _ hob1)
          have hg1 : (wr.alloc (Obj.cells #[Value.int .i64 x, Value.int .i64 x] 81)).grownBy w2 u10.ownBlock := hg1
          have hO2 := own_butK (HO2.out.alloc (Obj.cells #[Value.int .i64 x, Value.int .i64 x] 81)) (grown_butK hg1) (fun g hg hm => HNE.out g (by simpa using hm) hg)
          have hlt2 := World.ownsRow.lt HO2.out
          have hlt1 := World.ownsRow.lt HO.out
          have HOA := Lib.hid (show OwnR w2 w9.heap.size v1 (setOne f (codes.take (k + 1)) 2) by
            rw [HS2.out, if_pos rfl]
            have := hown1
            simpa [OwnR, encR] using this)
          have HOB := Lib.hid (show OwnR w2 w9.heap.size u11 (setOne f (codes.take (k + 1)) 3) by rw [HS3.out, if_neg (by decide), List.append_nil]; exact hO2)
          have HNE2 := Lib.hid (show ∀ g, v1.ownBlock = some g → u11.ownBlock ≠ some g from fun g hg h2 => by
            rcases hob1 with e | e
            · rw [e] at hg; exact HNE.out g hg h2
            · rw [e] at hg
              injection hg with hg
              have := (hlt2 g h2).2
              simp only [World.size_alloc] at hg
              omega)
          have HKW2 := Lib.hid ((Kept.alloc HKW.out (Obj.cells #[Value.int .i64 x, Value.int .i64 x] 81)).grown hg1 (by simp; omega) (fun q e => (hlt1 q e).1))
          clear hown1 hg1 hO2 hob1 hlt1 hlt2 hlk cx
          go_wp2_with fail
          go_roundw
          case rel => exact ⟨k + 1, by omega, by go_num, HOA.out, HOB.out, HNE2.out, HKW2.out⟩
          case measure => simp [intOf]; omega
        · go_wp2_with (at_builtin; refine wpList_append_own_at _ rfl _ _ 24 rfl w9.heap.size 81 i0 (.agg #[.int .i64 0, .int .i64 0]) 2 16 Tryz.underlying24 HI0.out HZ0.out HZ1.out HZ2.out rfl (by decide) _ _ _ rfl (HO2.out.alloc _) ⟨wr.heap.size, 0, none⟩ 1 1 [.int .i64 x, .int .i64 x] rfl rfl (cell_two_new rfl) (by simp [Value.oneCell']) (by unfold maxLen; omega) (by omega) (by simp; omega) ?_; intro v1 w2 hown1 hg1 _ hob1)
          have hg1 : (wr.alloc (Obj.cells #[Value.int .i64 x, Value.int .i64 x] 81)).grownBy w2 u11.ownBlock := hg1
          have hO1 := own_butK (HO.out.alloc (Obj.cells #[Value.int .i64 x, Value.int .i64 x] 81)) (grown_butK hg1) (fun g hg hm => HNE.out g hg (by simpa using hm))
          have hlt2 := World.ownsRow.lt HO2.out
          have hlt1 := World.ownsRow.lt HO.out
          have HOB := Lib.hid (show OwnR w2 w9.heap.size v1 (setOne f (codes.take (k + 1)) 3) by
            rw [HS3.out, if_pos rfl]
            have := hown1
            simpa [OwnR, encR] using this)
          have HOA := Lib.hid (show OwnR w2 w9.heap.size u10 (setOne f (codes.take (k + 1)) 2) by rw [HS2.out, if_neg (by decide), List.append_nil]; exact hO1)
          have HNE2 := Lib.hid (show ∀ g, u10.ownBlock = some g → v1.ownBlock ≠ some g from fun g h2 hg => by
            rcases hob1 with e | e
            · rw [e] at hg; exact HNE.out g h2 hg
            · rw [e] at hg
              injection hg with hg
              have := (hlt1 g h2).2
              simp only [World.size_alloc] at hg
              omega)
          have HKW2 := Lib.hid ((Kept.alloc HKW.out (Obj.cells #[Value.int .i64 x, Value.int .i64 x] 81)).grown hg1 (by simp; omega) (fun q e => (hlt2 q e).1))
          clear hown1 hg1 hO1 hob1 hlt1 hlt2 hlk cx
          go_wp2_with fail
          go_roundw
          case rel => exact ⟨k + 1, by omega, by go_num, HOA.out, HOB.out, HNE2.out, HKW2.out⟩
          case measure => simp [intOf]; omega
      · have hkn : k = n8 := by omega
        have hall : codes.take k = codes := List.take_of_length_le (by have := HN8.out; omega)
        rw [hall] at HO HO2 hl1 hl2
        subst hkn
        clear hall
        obtain ⟨X2, hX2⟩ : ∃ X2, X2 = setOne f codes 2 := ⟨_, rfl⟩
        obtain ⟨X3, hX3⟩ : ∃ X3, X3 = setOne f codes 3 := ⟨_, rfl⟩
        have HH2 := Lib.hid (show ∀ x, hasR (makeR X2) x = (validB x && decide (f x = 2)) from fun x => by rw [has_make, hX2]; exact setOne_has 2 H2.out x)
        have HH3 := Lib.hid (show ∀ x, hasR (makeR X3) x = (validB x && decide (f x = 3)) from fun x => by rw [has_make, hX3]; exact setOne_has 3 H3.out x)
        rw [← hX2] at HO hl1
        rw [← hX3] at HO2 hl2
        clear hX2 hX3
        obtain ⟨A10, c10, hv10, hle10, hI10⟩ := Sl.of_own (k := 2) (enc := encR) (fun _ => rfl) HO.out
        obtain ⟨A11, c11, hv11, hle11, hI11⟩ := Sl.of_own (k := 2) (enc := encR) (fun _ => rfl) HO2.out
        have HC2 := Lib.hid (makeR_spec X2).1
        have HC3 := Lib.hid (makeR_spec X3).1
        have HL2 := Lib.hid (makeR_length X2)
        have HL3 := Lib.hid (makeR_length X3)
        obtain ⟨q2, hq2⟩ : ∃ q2 : Nat, q2 = X2.length := ⟨_, rfl⟩
        obtain ⟨q3, hq3⟩ : ∃ q3 : Nat, q3 = X3.length := ⟨_, rfl⟩
        rw [← hq2] at hv10 hI10 hl1 HL2
        rw [← hq3] at hv11 hI11 hl2 HL3
        have HM2 := Lib.hid (make_any A10 q2 c10 X2 wr (by omega) hI10)
        have HM3 := Lib.hid (fun w' (hk : Kept wr w') => make_any A11 q3 c11 X3 w' (by omega) (hI11.kept hk))
        clear hI10 hI11 hq2 hq3 hle10 hle11 HO HO2
        subst hv10
        subst hv11
        generalize makeR X2 = Y2 at *
        generalize makeR X3 = Y3 at *
        go_wp2_with fail
        refine HM2.out.mono ?_
        rintro e w12 ⟨A12, n12, c12, rfl, le12, i12, k12⟩
        have I12 := Lib.hid i12
        have K12 := Lib.hid k12
        clear i12 k12
        go_wp2_with fail
        refine (HM3.out _ K12.out).mono ?_
        rintro e w13 ⟨A13, n13, c13, rfl, le13, i13, k13⟩
        have I13 := Lib.hid i13
        have I12 := Lib.hid (I12.out.kept k13)
        have KK := Lib.hid (Kept.trans (Kept.trans K9.out HKW.out) (Kept.trans K12.out k13))
        clear i13 k13
        have e1 := (KK.out.block _ (block_lt E1.out)).trans E1.out
        have e2 := (KK.out.block _ (block_lt E2.out)).trans E2.out
        have HE1 := Lib.hid e1
        have HE2 := Lib.hid e2
        have f1 := frozen_of_block (i := 0) e1
        have g1 := cell_of_block (i := 0) e1 rfl
        simp only [s4_, s5_] at g1
        have e3 := (KeptBut.setCell (S := [B + 1]) w13 (p := ⟨B + 1, 0, none⟩) (by simp) (.slice A12 n12 c12)).block (B + 1 + 1) (block_lt e2) (by simp) |>.trans e2
        have f2 := frozen_of_block (i := 0) e3
        have g2 := cell_of_block (i := 0) e3 rfl
        simp only [s4_, s5_] at g2
        have HE3 := Lib.hid e3
        clear e1 e2 e3
        go_wp2_with fail
        have h1 := heap_setCell_one (v := .slice A12 n12 c12) HE1.out
        have h2 := heap_setCell_one (v := .slice A13 n13 c13) HE3.out
        have h3 := (KeptBut.setCell (S := [B + 1 + 1]) (w13.setCell ⟨B + 1, 0, none⟩ (.slice A12 n12 c12)) (p := ⟨B + 1 + 1, 0, none⟩) (by simp) (.slice A13 n13 c13)).block (B + 1) (block_lt h1) (by simp) |>.trans h1
        have y1 := cell_of_block (i := 0) h3 rfl
        have y2 := cell_of_block (i := 0) h2 rfl
        simp only [s4_, s5_] at y1 y2
        clear g1 g2 f1 f2
        refine bodyPost_ret (v := .tuple #[.agg #[.slice A12 n12 c12], .agg #[.slice A13 n13 c13]]) (by simp [results, Tryz.results14, go_sem, y1, y2]) rfl ⟨Y2, A12, n12, c12, Y3, A13, n13, c13, rfl, le12, le13, by rw [I12.out.1]; have := HL2.out; omega, by rw [I13.out.1]; have := HL3.out; omega, rngs_setR (rngs_setR I12.out HE1.out) HE3.out, rngs_setR (rngs_setR I13.out HE1.out) HE3.out, HC2.out, HC3.out, HH2.out, HH3.out, ?_⟩
        exact Kept.setCell (Kept.setCell (Kept.trans KA.out KK.out) (by rw [← HBB.out]; show B ≤ B + 1; omega) _) (by rw [← HBB.out]; show B ≤ B + 1 + 1; omega) _
end Go.Proofs.YtomgchfjachedaaGreatDoor
