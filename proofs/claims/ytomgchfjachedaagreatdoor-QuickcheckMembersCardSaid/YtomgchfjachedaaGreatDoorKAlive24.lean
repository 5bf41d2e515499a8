/- law24.few and alive. The quick check by the first element of the full decomposition. No walk. decompose.Changed. -/
import Derived.Test.YtomgchfjachedaaGreatDoorKBase
import Derived.Test.YtomgchfjachedaaGreatDoorKFew
import Derived.Test.YtomgchfjachedaaGreatDoorKQcj
import Derived.Test.YtomgchfjachedaaGreatDoorKMapR
import Derived.Test.YtomgchfjachedaaGreatDoorKSet
import Derived.Test.YtomgchfjachedaaGreatDoorKPq
namespace Go.Proofs.YtomgchfjachedaaGreatDoor
open Go Go.RowKit
set_option maxRecDepth 100000 in
set_option maxHeartbeats 4000000 in
theorem alive24 (w : World) (hG : Glob w) : Calls Tryz.prog 13 #[] w (RetB w true) := by
  have HG := Lib.hid hG
  clear hG
  have HK0 := Lib.hid (Kept.alloc (Kept.refl w) (Obj.cells #[Value.slice none 0 0, Value.slice none 0 0, Value.slice none 0 0] 28))
  have HB := Lib.hid (box_block w (Obj.cells #[Value.slice none 0 0, Value.slice none 0 0, Value.slice none 0 0] 28))
  have HC1 := Lib.hid (fun w' (hk : Kept w w') => qchar_any emptyS emptyN 1 4449 w' (emptyS_at _) (HG.out.kept hk))
  have HC2 := Lib.hid (fun w' (hk : Kept w w') => qchar_any emptyS emptyN 2 4449 w' (emptyS_at _) (HG.out.kept hk))
  have HC3 := Lib.hid (fun w' (hk : Kept w w') => qchar_any emptyS emptyN 2 44032 w' (emptyS_at _) (HG.out.kept hk))
  have HB1 := Lib.hid (fun w' (hk : Kept w w') => bound_any emptyS emptyN 1 4449 w' (emptyS_at _) (HG.out.kept hk))
  have HB2 := Lib.hid (fun w' (hk : Kept w w') => bound_any emptyS emptyN 2 4449 w' (emptyS_at _) (HG.out.kept hk))
  rw [emptyQ_1] at HC1
  rw [emptyQ_2] at HC2
  rw [emptyQ_3] at HC3
  rw [emptyQ_b1] at HB1
  rw [emptyQ_b2] at HB2
  unfold Sls.val emptyS at *
  go_enter Tryz.func13, Tryz.ntmps13
  go_wp2_with fail
  refine (HC1.out _ HK0.out).mono ?_
  rintro e w1 ⟨rfl, k1⟩
  have K1 := Lib.hid (Kept.trans HK0.out k1)
  have HB := Lib.hid ((k1.block _ (block_lt HB.out)).trans HB.out)
  clear k1
  have p0 := cell_of_block (i := 0) HB.out rfl
  have p1 := cell_of_block (i := 1) HB.out rfl
  have p2 := cell_of_block (i := 2) HB.out rfl
  simp only [s4_, s5_, s6_] at p0 p1 p2
  go_wp2_with fail
  refine (HB1.out _ K1.out).mono ?_
  rintro e w2 ⟨rfl, k2⟩
  clear p0 p1 p2
  have K2 := Lib.hid (Kept.trans K1.out k2)
  have HB := Lib.hid ((k2.block _ (block_lt HB.out)).trans HB.out)
  clear k2
  have p0 := cell_of_block (i := 0) HB.out rfl
  have p1 := cell_of_block (i := 1) HB.out rfl
  have p2 := cell_of_block (i := 2) HB.out rfl
  simp only [s4_, s5_, s6_] at p0 p1 p2
  go_wp2_with fail
  refine (HC2.out _ K2.out).mono ?_
  rintro e w3 ⟨rfl, k3⟩
  clear p0 p1 p2
  have K3 := Lib.hid (Kept.trans K2.out k3)
  have HB := Lib.hid ((k3.block _ (block_lt HB.out)).trans HB.out)
  clear k3
  have p0 := cell_of_block (i := 0) HB.out rfl
  have p1 := cell_of_block (i := 1) HB.out rfl
  have p2 := cell_of_block (i := 2) HB.out rfl
  simp only [s4_, s5_, s6_] at p0 p1 p2
  go_wp2_with fail
  refine (HB2.out _ K3.out).mono ?_
  rintro e w4 ⟨rfl, k4⟩
  clear p0 p1 p2
  have K4 := Lib.hid (Kept.trans K3.out k4)
  have HB := Lib.hid ((k4.block _ (block_lt HB.out)).trans HB.out)
  clear k4
  have p0 := cell_of_block (i := 0) HB.out rfl
  have p1 := cell_of_block (i := 1) HB.out rfl
  have p2 := cell_of_block (i := 2) HB.out rfl
  simp only [s4_, s5_, s6_] at p0 p1 p2
  go_wp2_with fail
  refine (HC3.out _ K4.out).mono ?_
  rintro e w5 ⟨rfl, k5⟩
  go_wp2_with fail
  go_ret
  exact ⟨rfl, Kept.trans K4.out k5⟩
end Go.Proofs.YtomgchfjachedaaGreatDoor
namespace Go.Proofs.YtomgchfjachedaaGreatDoor
section
variable {cls : Int → Int} {pr : Int → Int → Option Int}
def HeadIs (s : Int) (st : List Int × Option Nat) : Prop := (∃ r, st.1 = s :: r) ∧ ∀ k, st.2 = some k → 1 ≤ k
theorem HeadIs.push {s c : Int} {st : List Int × Option Nat} (h : HeadIs s st) : HeadIs s (cpush cls st c) := by
  obtain ⟨⟨r, hr⟩, h2⟩ := h
  refine ⟨⟨r ++ [c], by unfold cpush; rw [hr]; rfl⟩, fun k hk => ?_⟩
  unfold cpush at hk
  simp only at hk
  split at hk
  · injection hk with hk
    rw [hr] at hk
    simp at hk
    omega
  · exact h2 k hk
theorem HeadIs.step {s c : Int} {st : List Int × Option Nat} (h : HeadIs s st) : HeadIs s (cstep cls pr st c) := by
  unfold cstep
  split
  · rename_i k hk
    split
    · exact h.push
    · split
      · obtain ⟨⟨r, hr⟩, h2⟩ := h
        have hk1 := h2 k hk
        refine ⟨?_, fun j hj => by simp only [Option.some.injEq] at hj; omega⟩
        rw [hr]
        obtain ⟨k', rfl⟩ : ∃ k', k = k' + 1 := ⟨k - 1, by omega⟩
        exact ⟨_, by rw [List.set_cons_succ]⟩
      · exact h.push
  · exact h.push
theorem HeadIs.fold {s : Int} : ∀ (t : List Int) {st : List Int × Option Nat}, HeadIs s st → HeadIs s (t.foldl (cstep cls pr) st)
  | [], _, h => h
  | _ :: t, _, h => HeadIs.fold t h.step
theorem comp_head {s : Int} {t : List Int} (h : cls s ≠ 0) : ∃ r, compT cls pr (s :: t) = s :: r := by
  have h0 : HeadIs s (cstep cls pr ([], none) s) := by
    refine ⟨⟨[], by simp [cstep, cpush]⟩, fun k hk => ?_⟩
    simp only [cstep, cpush] at hk
    rw [if_neg h] at hk
    cases hk
  exact (HeadIs.fold t h0).1
end
theorem own_head (n : Nrm) {form c : Int} (h : ¬ (form < 1 ∨ 4 < form)) (hf : formOf n form [c] = [c]) :
    ∃ s t, fullOf (usableN n).decomp (cpOf form) c = s :: t ∧ (textOf n (cpOf form) [c]).headD 0 = s := by
  have ht : textOf n (cpOf form) [c] = sortT (classOf (usableN n).classes) (fullOf (usableN n).decomp (cpOf form) c) := textOf_one n _ c
  cases hF : fullOf (usableN n).decomp (cpOf form) c with
  | nil =>
    exfalso
    rw [formOf_known n h, ht, hF, sortT_nil] at hf
    split at hf
    · cases hf
    · cases hf
  | cons s t =>
    refine ⟨s, t, rfl, ?_⟩
    rw [hF] at ht
    by_cases hs : classOf (usableN n).classes s = 0
    · rw [ht, sortT_start hs]; rfl
    · obtain ⟨s', t', e, h0⟩ := sort_head (cls := classOf (usableN n).classes) (t := t) hs
      have hc : s' = c := by
        rw [formOf_known n h, ht, e] at hf
        split at hf
        · obtain ⟨r, hr⟩ := comp_head (pr := pairOf (usableN n)) (t := t') h0
          unfold compN at hf
          rw [hr] at hf
          injection hf
        · injection hf
      have hno := d_none n (cpOf form) [c] s' (by rw [ht, e]; exact List.mem_cons_self ..)
      rw [hc] at hno
      have hfix := full_fix (usableN_full n (cpOf form)) hno
      rw [hF] at hfix
      rw [ht, hfix, sort_one]
      injection hfix with h1 h2
      rw [h1]; rfl
noncomputable def sndB (n : Nrm) (form c : Int) : Bool := comps form && match (fullOf (usableN n).decomp (cpOf form) c).head? with
  | some x => secondB (usableN n) x
  | none => false
theorem charQ_eq (n : Nrm) (form c : Int) : charQ n form c = if form < 1 ∨ 4 < form then 1 else if formOf n form [c] = [c] then (if sndB n form c = true then 3 else 1) else 2 := by
  unfold charQ
  by_cases h : form < 1 ∨ 4 < form
  · rw [if_pos h, if_pos h]
  · rw [if_neg h, if_neg h]
    by_cases hf : formOf n form [c] = [c]
    · rw [if_pos hf, if_pos hf]
      obtain ⟨s, t, e1, e2⟩ := own_head n h hf
      unfold sndB
      rw [e1, e2]
      rfl
    · rw [if_neg hf, if_neg hf]
end Go.Proofs.YtomgchfjachedaaGreatDoor
namespace Go.Proofs.YtomgchfjachedaaGreatDoor
open Go Go.RowKit
def changedR (n : Nrm) (cp : Bool) : List Rng := makeR (chgL (usableN n).decomp cp)
theorem field_maps (A : Option Addr) (n c : Nat) (u v : Value) (w : World) : Sem.run Tryz.prog (Instr.field 28 (.agg #[u, .slice A n c, v]) 1) w = .ok (.slice A n c) w := by kernel_rfl
set_option maxRecDepth 100000 in
set_option maxHeartbeats 2000000 in
theorem changed_any (s : Sls) (n : Nrm) (cp : Bool) (w : World) (hN : NormAt w s n) (hG : Glob w) : Calls Tryz.prog 43 #[s.val, .bool cp] w (RetSet w (changedR n cp)) := by
  have HN := Lib.hid hN
  have HG := Lib.hid hG
  have HU := Lib.hid (fun w' (hk : Kept w w') => usable_val s n w' (hN.kept hk) (hG.kept hk))
  have HNU := Lib.hid (usableS_at hN)
  clear hN hG
  unfold changedR
  generalize usableN n = n1 at *
  generalize usableS s n = s1 at *
  unfold Sls.val at *
  go_enter Tryz.func43, Tryz.ntmps43
  go_wp2_with fail
  obtain ⟨B, hB⟩ : ∃ B : Nat, B = w.heap.size := ⟨_, rfl⟩
  rw [← hB]
  have b1 : (((w.alloc (Obj.cells #[Value.slice s.Ac s.nc s.cc, Value.slice s.Am s.nm s.cm, Value.slice s.Ae s.ne s.ce] 28)).alloc (Obj.cells #[Value.slice none 0 0] 26)).alloc (Obj.cells #[Value.int IntKind.i64 44032, Value.int IntKind.i64 55203] 81)).heap[B + 1]? = some (Obj.cells #[Value.slice none 0 0] 26) := alloc_lift (alloc_at (by simp [hB]))
  have b2 : (((w.alloc (Obj.cells #[Value.slice s.Ac s.nc s.cc, Value.slice s.Am s.nm s.cm, Value.slice s.Ae s.ne s.ce] 28)).alloc (Obj.cells #[Value.slice none 0 0] 26)).alloc (Obj.cells #[Value.int IntKind.i64 44032, Value.int IntKind.i64 55203] 81)).heap[B + 1 + 1]? = some (Obj.cells #[Value.int IntKind.i64 44032, Value.int IntKind.i64 55203] 81) := alloc_at (by simp [hB])
  have hk0 : Kept w (((w.alloc (Obj.cells #[Value.slice s.Ac s.nc s.cc, Value.slice s.Am s.nm s.cm, Value.slice s.Ae s.ne s.ce] 28)).alloc (Obj.cells #[Value.slice none 0 0] 26)).alloc (Obj.cells #[Value.int IntKind.i64 44032, Value.int IntKind.i64 55203] 81)) := Kept.alloc (Kept.alloc (Kept.alloc (Kept.refl w) _) _) _
  generalize (((w.alloc (Obj.cells #[Value.slice s.Ac s.nc s.cc, Value.slice s.Am s.nm s.cm, Value.slice s.Ae s.ne s.ce] 28)).alloc (Obj.cells #[Value.slice none 0 0] 26)).alloc (Obj.cells #[Value.int IntKind.i64 44032, Value.int IntKind.i64 55203] 81)) = W0 at *
  have HB := Lib.hid hB
  have HB1 := Lib.hid b1
  have HB2 := Lib.hid b2
  have HK0 := Lib.hid hk0
  clear hB b1 b2 hk0
  refine (HU.out _ HK0.out).mono ?_
  rintro e w1 ⟨rfl, k1⟩
  have hfd := fun w' => field_maps s1.Am s1.nm s1.cm (.slice s1.Ac s1.nc s1.cc) (.slice s1.Ae s1.ne s1.ce) w'
  have HK1 := Lib.hid k1
  have hbm := HNU.out.bm
  obtain ⟨i0, hi, hz0, hz1, hz2⟩ := info_parts info_rng
  have HI0 := Lib.hid hi
  have HZ0 := Lib.hid hz0
  have HZ1 := Lib.hid hz1
  have HZ2 := Lib.hid hz2
  clear hi hz0 hz1 hz2
  have hb2 : w1.heap[B + 1 + 1]? = some (.cells #[.int .i64 44032, .int .i64 55203] 81 (0, 0)) := (k1.block _ (block_lt HB2.out)).trans HB2.out
  have hown0 : OwnR w1 (B + 1 + 1) (.slice (some ⟨B + 1 + 1, 0, none⟩) 1 1) (chgL (n1.decomp.take 0) cp) :=
    ⟨by simp [chgL, chgT, encR], .inr ⟨B + 1 + 1, 1, _, by simp [chgL, chgT], Nat.le_refl _, hb2, by simp [chgL, chgT], by unfold maxLen; omega, rfl, by simp [chgL, chgT, encR]⟩⟩
  have HO0 := Lib.hid hown0
  clear hb2 hown0 k1
  go_wp2_with fail
  clear hfd
  go_loopw [5, 14] (fun p i wr => ∃ k : Nat, k ≤ s1.nm ∧ i = .int .i64 k ∧ OwnR wr (B + 1 + 1) p (chgL (n1.decomp.take k) cp) ∧ Below (B + 1 + 1) w1 wr) (fun _ i _ => s1.nm - (intOf i).toNat)
  case atStart => exact ⟨0, Nat.zero_le _, rfl, HO0.out, Below.refl _ _⟩
  case round =>
    obtain ⟨k, hk, rfl, hown, hBl⟩ := hrel
    have HO := Lib.hid hown
    have HBL := Lib.hid hBl
    have hB2w : B + 1 + 1 < W0.heap.size := block_lt HB2.out
    have hs1 := HK1.out.size
    have hsr := hBl.size
    have KW : Hid (Kept w wr) := Lib.hid (Below.trans (Kept.trans HK0.out HK1.out) (hBl.mono (by have := HB.out; omega)))
    clear hown hBl
    by_cases hlt : k < s1.nm
    · obtain ⟨b, off, m, A', n', c', hA, hm, hle, hI, c0, c1, c2⟩ := mp_at (i := k) (HNU.out.kept KW.out).dec hlt
      have HMM := Lib.hid (chgL_snoc hm cp)
      have hl := chgL_length (n1.decomp.take k) cp
      have hl2 : (n1.decomp.take k).length ≤ k := List.length_take_le _ _
      rw [hA]
      clear hm hI
      cases ht : m.tag.toList.isEmpty
      · have hte : ¬ m.tag.toList = [] := by simpa using ht
        have HT := Lib.hid ht
        cases cp
        · go_wp2_with fail
          go_roundw
          case rel => exact ⟨k + 1, by omega, by go_num, by rw [HMM.out, if_neg (by simp [plainTag, HT.out]), List.append_nil]; exact World.ownsRow.alloc HO.out _, HBL.out.alloc (by omega) _⟩
          case measure => simp [intOf]; omega
        · go_wp2_with (at_builtin; refine wpList_append_own _ rfl _ _ 24 rfl (B + 1 + 1) 81 i0 (.agg #[.int .i64 0, .int .i64 0]) 2 16 Tryz.underlying24 HI0.out HZ0.out HZ1.out HZ2.out rfl (by decide) _ _ _ rfl (by exact (HO.out.alloc _).alloc _) ⟨wr.heap.size + 1, 0, none⟩ 1 1 [.int .i64 m.src, .int .i64 m.src] rfl rfl (by exact cell_two_new (w := wr.alloc _) (by simp)) (by simp [Value.oneCell']) (by unfold maxLen; omega) (by omega) (by simp; omega) ?_; intro v' w2 hown' hgrow _)
          have hB4 : Below (B + 1 + 1) w1 w2 := ((HBL.out.alloc (by omega) (Obj.cells #[Value.int IntKind.i64 m.src, Value.slice A' n' c', Value.string m.tag] 90)).alloc (by simp; omega) (Obj.cells #[Value.int IntKind.i64 m.src, Value.int IntKind.i64 m.src] 81)).grown hgrow (by simp; omega) (fun q e => (World.ownsRow.lt HO.out q e).1)
          have HB4 := Lib.hid hB4
          go_roundw
          case rel => exact ⟨k + 1, by omega, by go_num, by rw [HMM.out, if_pos (by simp [plainTag, HT.out])]; simpa [OwnR, encR] using hown', HB4.out⟩
          case measure => simp [intOf]; omega
      · have hte : m.tag.toList = [] := by simpa using ht
        have HT := Lib.hid ht
        go_wp2_with (at_builtin; refine wpList_append_own _ rfl _ _ 24 rfl (B + 1 + 1) 81 i0 (.agg #[.int .i64 0, .int .i64 0]) 2 16 Tryz.underlying24 HI0.out HZ0.out HZ1.out HZ2.out rfl (by decide) _ _ _ rfl (by exact (HO.out.alloc _).alloc _) ⟨wr.heap.size + 1, 0, none⟩ 1 1 [.int .i64 m.src, .int .i64 m.src] rfl rfl (by exact cell_two_new (w := wr.alloc _) (by simp)) (by simp [Value.oneCell']) (by unfold maxLen; omega) (by omega) (by simp; omega) ?_; intro v' w2 hown' hgrow _)
        have hB4 : Below (B + 1 + 1) w1 w2 := ((HBL.out.alloc (by omega) (Obj.cells #[Value.int IntKind.i64 m.src, Value.slice A' n' c', Value.string m.tag] 90)).alloc (by simp; omega) (Obj.cells #[Value.int IntKind.i64 m.src, Value.int IntKind.i64 m.src] 81)).grown hgrow (by simp; omega) (fun q e => (World.ownsRow.lt HO.out q e).1)
        have HB4 := Lib.hid hB4
        go_roundw
        case rel => exact ⟨k + 1, by omega, by go_num, by rw [HMM.out, if_pos (by simp [plainTag, HT.out])]; simpa [OwnR, encR] using hown', HB4.out⟩
        case measure => simp [intOf]; omega
    · have hfull : n1.decomp.take k = n1.decomp := List.take_of_length_le (by have := HNU.out.dec.1; omega)
      have hown := HO.out
      rw [hfull] at hown
      have hl := chgL_length n1.decomp cp
      have hdl := HNU.out.dec.1
      generalize chgL n1.decomp cp = L at *
      obtain ⟨A4, c4, hu, hle4, hS4⟩ := Sl.of_own (k := 2) (enc := encR) (fun _ => rfl) hown
      obtain ⟨nl, hnl⟩ : ∃ nl : Nat, nl = L.length := ⟨_, rfl⟩
      rw [← hnl] at hu hle4 hS4
      have HM := Lib.hid (make_any A4 nl c4 L wr (by omega) hS4)
      have hb1 : B + 1 < W0.heap.size := block_lt HB1.out
      have HE1 := Lib.hid (((HBL.out.block (B + 1) (by omega)).trans (HK1.out.block (B + 1) hb1)).trans HB1.out)
      clear hown hfull hl hdl hnl hS4
      subst hu
      go_wp2_with fail
      refine HM.out.mono ?_
      rintro e w5 ⟨A5, n5, c5, rfl, hle5, hR5, k5⟩
      have e1 : w5.heap[B + 1]? = some (.cells #[.slice none 0 0] 26 (0, 0)) := (k5.block (B + 1) (by omega)).trans HE1.out
      have e2 := cell_of_block (i := 0) e1 rfl
      have e3 := frozen_of_block (i := 0) e1
      simp only [s4_, s5_] at e2
      have HE5 := Lib.hid e1
      have HR5 := Lib.hid hR5
      clear e1 hR5
      go_wp2_with fail
      have e4 : (w5.setCell ⟨B + 1, 0, none⟩ (.slice A5 n5 c5)).cell? ⟨B + 1, 0, none⟩ = some (.slice A5 n5 c5) := cell_of_block (i := 0) (heap_setCell_one HE5.out) rfl
      clear e2 e3
      refine bodyPost_ret (v := .agg #[.slice A5 n5 c5]) (by simp [results, Tryz.results43, go_sem, e4]) rfl ⟨A5, _, c5, rfl, hle5, ?_, ?_⟩
      · refine ⟨HR5.out.1, fun hpos => ?_⟩
        obtain ⟨b, off, e, hcs⟩ := HR5.out.2 hpos
        refine ⟨b, off, e, fun i x hx j u hu => ?_⟩
        have h1 := hcs i x hx j u hu
        refine (World.cell?_setCell_other _ _ _ _ (fun ea => ?_)).trans h1
        have eb : b = B + 1 := by injection ea with e5; exact e5.symm
        subst eb
        unfold World.cell? at h1
        simp only [HE5.out] at h1
        have : (#[Value.slice none 0 0] : Array Value)[off + i * 2 + j]? = some u := by simpa using h1
        have hlt0 := (Array.getElem?_eq_some_iff.1 this).1
        have h0 : off + i * 2 + j = 0 := by simpa using hlt0
        rw [h0] at this
        have hu2 : u = .slice none 0 0 := by simpa using this.symm
        rw [hu2] at hu
        have := List.mem_of_getElem? hu
        simp [encR] at this
      · exact Below.setCell (Kept.trans KW.out k5) (p := ⟨B + 1, 0, none⟩) (by rw [HB.out]; exact Nat.le_succ _) _
end Go.Proofs.YtomgchfjachedaaGreatDoor
