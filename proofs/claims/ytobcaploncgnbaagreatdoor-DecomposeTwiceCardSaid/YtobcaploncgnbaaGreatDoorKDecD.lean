/- decompose.Once and Text. -/
import Derived.Test.YtobcaploncgnbaaGreatDoorKExpC
import Derived.Test.YtobcaploncgnbaaGreatDoorKSrtI
namespace Go.Proofs.YtobcaploncgnbaaGreatDoor
open Go Go.RowKit

/-- Full decompositions, one after the other. -/
noncomputable def fullText (n : Nrm) (cp : Bool) (text : List Int) : List Int := text.flatMap (fullOf (usableN n).decomp cp)
/-- The decomposed text. -/
noncomputable def textOf (n : Nrm) (cp : Bool) (text : List Int) : List Int := sortRuns (classOf (usableN n).classes) (fullText n cp text)
theorem usableN_spans (n : Nrm) : usableSpans (usableN n).classes = (usableN n).classes := if_pos (usableN_good n).ord
theorem fullText_length (n : Nrm) (cp : Bool) (text : List Int) : (fullText n cp text).length ≤ 64 * text.length := by
  unfold fullText
  induction text with
  | nil => simp
  | cons x r ih =>
    have := usableN_len n cp x
    rw [List.flatMap_cons, List.length_append, List.length_cons]; omega
theorem textOf_length (n : Nrm) (cp : Bool) (text : List Int) : (textOf n cp text).length ≤ 64 * text.length := by
  unfold textOf
  rw [sortRuns_length]
  exact fullText_length n cp text

def RetOnceC (w : World) (r : Option (List Int)) (e : Ending) (w' : World) : Prop := ∃ A n c, e = .returned (.tuple #[.slice A n c, .bool r.isSome]) ∧ n ≤ c ∧ Ints w' A n (r.getD []) ∧ Kept w w'

set_option maxRecDepth 100000 in
set_option maxHeartbeats 1000000 in
theorem onceP_any (s : Sls) (n : Nrm) (c : Int) (cp : Bool) (w : World) (hN : NormAt w s n) (hG : Glob w) : Calls Tryz.prog 7 #[s.val, .int .i64 c, .bool cp] w (RetOnceC w (onceOf (usableN n).decomp c cp)) := by
  have hk1 := Kept.alloc (Kept.refl w) (Obj.cells #[Value.slice s.Ac s.nc s.cc, Value.slice s.Am s.nm s.cm, Value.slice s.Ae s.ne s.ce] 28)
  have HU := Lib.hid (usable_any s n _ (hN.kept hk1) (hG.kept hk1))
  have HK1 := Lib.hid hk1
  have HG := Lib.hid (usableN_good n)
  clear hN hG hk1
  unfold Sls.val
  go_enter Tryz.func7, Tryz.ntmps7
  go_wp2_with fail
  refine HU.out.mono ?_
  rintro e w1 ⟨s1, rfl, hN1, hk2⟩
  have HN1 := Lib.hid hN1
  have HO := Lib.hid (once_any s1 (usableN n) c cp w1 hN1 HG.out.sorted)
  have HLE := Lib.hid (show ∀ tt, onceOf (usableN n).decomp c cp = some tt → tt.length ≤ 1000 from fun tt h => onceOf_length hN1.10 h)
  clear hN1
  generalize onceOf (usableN n).decomp c cp = r at *
  unfold Sls.val at *
  go_wp2_with fail
  refine HO.out.mono ?_
  rintro e w2 ⟨hk3, hr⟩
  cases r with
  | none =>
    simp only at hr
    subst hr
    have HCL := Lib.hid (clone_any none 0 0 [] w2 (by omega) Sl.nil)
    go_wp2_with fail
    refine HCL.out.mono ?_
    rintro e w3 ⟨v, rfl, hown, hk4⟩
    obtain ⟨A, cc, rfl, hle, hI⟩ := OwnI.sl hown
    have HI := Lib.hid hI
    clear hown hI
    go_wp2_with fail
    go_ret2
    exact ⟨A, _, cc, rfl, hle, HI.out, Kept.trans HK1.out (Kept.trans hk2 (Kept.trans hk3 hk4))⟩
  | some tt =>
    obtain ⟨A, nn, cc, rfl, hle, hI⟩ := hr
    have hnn : nn ≤ 1000 := by rw [hI.1]; exact HLE.out tt rfl
    have HCL := Lib.hid (clone_any A nn cc tt w2 (by omega) hI)
    clear hI
    go_wp2_with fail
    refine HCL.out.mono ?_
    rintro e w3 ⟨v, rfl, hown, hk4⟩
    obtain ⟨A3, c3, rfl, hle3, hI3⟩ := OwnI.sl hown
    have HI := Lib.hid hI3
    clear hown hI3
    go_wp2_with fail
    go_ret2
    exact ⟨A3, _, c3, rfl, hle3, HI.out, Kept.trans HK1.out (Kept.trans hk2 (Kept.trans hk3 hk4))⟩

set_option maxRecDepth 100000 in
set_option maxHeartbeats 2000000 in
theorem text_any (s : Sls) (n : Nrm) (A : Option Addr) (nt ct : Nat) (text : List Int) (cp : Bool) (w : World) (hN : NormAt w s n) (hG : Glob w) (hnt : nt ≤ 10000) (hT : Ints w A nt text) :
    Calls Tryz.prog 6 #[s.val, .slice A nt ct, .bool cp] w (RetInts w (textOf n cp text)) := by
  have HN0 := Lib.hid hN
  have HG := Lib.hid hG
  have HT := Lib.hid hT
  have HTN := Lib.hid hT.1
  have hkb := Kept.alloc (Kept.refl w) (Obj.cells #[Value.slice s.Ac s.nc s.cc, Value.slice s.Am s.nm s.cm, Value.slice s.Ae s.ne s.ce] 28)
  have HU := Lib.hid (usable_val s n _ (hN.kept hkb) (hG.kept hkb))
  have hbl := box_block w (Obj.cells #[Value.slice s.Ac s.nc s.cc, Value.slice s.Am s.nm s.cm, Value.slice s.Ae s.ne s.ce] 28)
  have HBL := Lib.hid hbl
  have HKB := Lib.hid hkb
  have HNU := Lib.hid (usableS_at hN)
  have HGOOD := Lib.hid (usableN_good n)
  generalize usableS s n = s1 at *
  clear hN hG hT hkb hbl
  unfold Sls.val at *
  go_enter Tryz.func6, Tryz.ntmps6
  go_wp2_with fail
  refine HU.out.mono ?_
  rintro e w1 ⟨rfl, hk1⟩
  have e1 := (hk1.block _ (block_lt HBL.out)).trans HBL.out
  have HE1 := Lib.hid e1
  have a0 := cell_of_block (i := 0) e1 rfl
  have a1 := cell_of_block (i := 1) e1 rfl
  have a2 := cell_of_block (i := 2) e1 rfl
  have f0 := frozen_of_block (i := 0) e1
  have f1 := frozen_of_block (i := 1) e1
  have f2 := frozen_of_block (i := 2) e1
  simp only [List.getElem_toArray, List.getElem_cons_zero, List.getElem_cons_succ] at a0 a1 a2
  obtain ⟨bb, hbb⟩ : ∃ bb : Nat, bb = w.heap.size := ⟨_, rfl⟩
  have HBB := Lib.hid hbb
  rw [← hbb] at a0 a1 a2 f0 f1 f2 HE1 ⊢
  clear e1 hbb
  have hc := cells3_set (v0 := .slice s1.Ac s1.nc s1.cc) (v1 := .slice s1.Am s1.nm s1.cm) (v2 := .slice s1.Ae s1.ne s1.ce) HE1.out
  have hk2 : Kept w (((w1.setCell ⟨bb, 0, none⟩ (.slice s1.Ac s1.nc s1.cc)).setCell ⟨bb, 1, none⟩ (.slice s1.Am s1.nm s1.cm)).setCell ⟨bb, 2, none⟩ (.slice s1.Ae s1.ne s1.ce)) :=
    Kept.setCell (Kept.setCell (Kept.setCell (Kept.trans HKB.out hk1) (p := ⟨bb, 0, none⟩) (by rw [HBB.out]; exact Nat.le_refl _) _) (p := ⟨bb, 1, none⟩) (by rw [HBB.out]; exact Nat.le_refl _) _) (p := ⟨bb, 2, none⟩) (by rw [HBB.out]; exact Nat.le_refl _) _
  have g0 := cell_of_block (i := 0) hc rfl
  have g1 := cell_of_block (i := 1) hc rfl
  have g2 := cell_of_block (i := 2) hc rfl
  simp only [List.getElem_toArray, List.getElem_cons_zero, List.getElem_cons_succ] at g0 g1 g2
  have HC2 := Lib.hid hc
  have HK2 := Lib.hid hk2
  clear hc hk2
  go_wp2_with fail
  clear a0 a1 a2 f0 f1 f2 g0 g1 g2
  generalize ((w1.setCell ⟨bb, 0, none⟩ (.slice s1.Ac s1.nc s1.cc)).setCell ⟨bb, 1, none⟩ (.slice s1.Am s1.nm s1.cm)).setCell ⟨bb, 2, none⟩ (.slice s1.Ae s1.ne s1.ce) = W2 at *
  have HE := Lib.hid (expander_any s1 cp (fullOf (usableN n).decomp cp) W2)
  unfold Sls.val at HE
  refine HE.out.mono ?_
  rintro e w3 ⟨bs, bn, bc, bx, bm, rfl, hE, hbm, hk3⟩
  have HE3 := Lib.hid hE
  have HC3 := Lib.hid ((hk3.block _ (block_lt HC2.out)).trans HC2.out)
  have hkw3 : Kept w w3 := Kept.trans HK2.out hk3
  obtain ⟨base, hbase⟩ : ∃ base : Nat, base = w3.heap.size := ⟨_, rfl⟩
  have HBASE := Lib.hid hbase
  have hb1 : base ≤ w3.heap.size := by omega
  have hsz3 := hk3.size
  have hszw := HK2.out.size
  have hbbl : bb < W2.heap.size := block_lt HC2.out
  clear hE hbase HE
  go_wp2_with fail
  go_loopw [8, 18] (fun p i wr => ∃ (j : Nat) (Mj : List (Int × Value)), j ≤ nt ∧ i = .int .i64 j ∧ OwnI wr base p ((text.take j).flatMap (fullOf (usableN n).decomp cp)) ∧ ExpAt wr bs bn bc bx bm s1 cp (fullOf (usableN n).decomp cp) Mj ∧ KeptBut [bm] w3 wr ∧ (∀ g, p.ownBlock = some g → AwayM g Mj)) (fun _ i _ => nt - (intOf i).toNat)
  case atStart => exact ⟨0, [], Nat.zero_le _, rfl, (World.ownsRow_nil _ _ _ _ : OwnI w3 base (.slice none 0 0) []), HE3.out, KeptBut.refl _ _, fun g h => by cases h⟩
  case round =>
    obtain ⟨j, Mj, hj, rfl, hown, hEj, hkj, hown2⟩ := hrel
    have HOW := Lib.hid hown
    have HEJ := Lib.hid hEj
    have HOB := Lib.hid hown2
    have hszj := hkj.size
    have hbel : Below W2.heap.size W2 wr := Below.trans hk3 (KeptBut.below hkj (by simpa using hbm) hsz3)
    have hkwr : Kept w wr := Kept.trans HK2.out hbel
    clear hown hEj hown2
    by_cases hjn : j < nt
    · obtain ⟨b2, off2, y, hA, hy, cy⟩ := int_at (HT.out.kept hkwr) hjn
      rw [hA]
      have HCALL := Lib.hid (expand_calls s1 (usableN n) HGOOD.out.sorted cp (fullOf (usableN n).decomp cp) (usableN_full n cp) (fun c => Nat.le_trans (usableN_len n cp c) (by decide)) W2.heap.size bs bn bc bx bm hbm y (ends_any HGOOD.out.ends cp y) Mj wr HEJ.out (fun w' hw' => HNU.out.kept (Kept.trans HK2.out (hbel.trans hw'))) (by omega))
      have HTK := Lib.hid (flatMap_take (F := fullOf (usableN n).decomp cp) hy)
      have hfl := flatMap_length_le (F := fullOf (usableN n).decomp cp) (fun c => Nat.le_trans (usableN_len n cp c) (by decide)) (text.take j)
      have hjl : (text.take j).length ≤ 10000 := by rw [List.length_take]; omega
      have hfy := usableN_len n cp y
      clear hy
      go_wp2_with fail
      refine HCALL.out.mono ?_
      rintro e w4 ⟨A3, n3, c3, M3, rfl, hle3, hI3, hh3, hk4, hE4, haw3⟩
      have hgl : ∀ g, u8.ownBlock = some g → base ≤ g ∧ g < wr.heap.size := World.ownsRow.lt HOW.out
      have hown3 : OwnI w4 base u8 ((text.take j).flatMap (fullOf (usableN n).decomp cp)) := own_keptBut HOW.out hk4 (fun g hg hm => by
        rcases HOW.out.2 with ⟨rfl, _⟩ | ⟨g', cap, cur, rfl, _, hgg, _⟩
        · cases hg
        · simp only [Value.ownBlock, Option.some.injEq] at hg
          simp only [List.mem_cons, List.not_mem_nil, or_false] at hm
          exact HEJ.out.neMap hgg (by rw [hg, hm]))
      have HOW3 := Lib.hid hown3
      have HI3 := Lib.hid hI3
      have HE4 := Lib.hid hE4
      have HA3 := Lib.hid haw3
      have HGL := Lib.hid hgl
      clear hown3 hI3 hE4 haw3 hh3 hgl cy
      have hsz4 := hk4.size
      go_wp2_with (at_builtin; refine app_ints rfl _ _ rfl base _ _ rfl HOW3.out _ _ _ (fullOf (usableN n).decomp cp y) rfl HI3.out (by omega) (by omega) ?_; intro v5 w5 hown5 hgrow5 hat5)
      have hsz5 := hgrow5.size
      have hE5 : ExpAt w5 bs bn bc bx bm s1 cp (fullOf (usableN n).decomp cp) M3 := HE4.out.grown hgrow5 (fun g hg => by
        obtain ⟨g1, g2⟩ := HGL.out g hg
        have hlt : ∀ {b : Nat} {o : Obj}, w3.heap[b]? = some o → g ≠ b := fun hb e => by have := block_lt hb; have := HBASE.out; omega
        obtain ⟨es, cl, hmm, _⟩ := HE3.out.m
        exact ⟨(HA3.out g g2 (HOB.out g hg)).1, hlt HE3.out.fs, hlt HE3.out.n, hlt HE3.out.c, hlt HE3.out.x, hlt hmm⟩)
      have HE5 := Lib.hid hE5
      go_roundw
      case rel =>
        refine ⟨j + 1, M3, by omega, by go_num, by rw [HTK.out]; exact hown5, HE5.out, ⟨hgrow5.os.trans (hk4.os.trans hkj.os), hgrow5.tape.trans (hk4.tape.trans hkj.tape), hgrow5.output.trans (hk4.output.trans hkj.output), by omega, fun i hi hS => ?_⟩, fun g hg => ?_⟩
        · rw [hgrow5.block i (by omega) (fun e => by have := (HGL.out i e.symm).1; have := HBASE.out; omega), hk4.block i (by omega) hS, hkj.block i hi hS]
        · rcases hat5 with h | h
          · rw [h] at hg
            exact (HA3.out g (HGL.out g hg).2 (HOB.out g hg)).1
          · rw [h] at hg
            injection hg with hg
            intro k v hv
            obtain ⟨A', n', c', e, _, _, hin⟩ := HE4.out.vals k v hv
            subst e
            exact Away.of_inHeap hin (by omega)
      case measure => simp [intOf]; omega
    · have hfull : text.take j = text := List.take_of_length_le (by have := HTN.out; omega)
      have hown := HOW.out
      rw [hfull] at hown
      obtain ⟨At, c8, hu, hlet, hIt⟩ := OwnI.sl hown
      have hlf := fullText_length n cp text
      obtain ⟨nf, hnf⟩ : ∃ nf : Nat, nf = (text.flatMap (fullOf (usableN n).decomp cp)).length := ⟨_, rfl⟩
      rw [← hnf] at hu hlet hIt
      have hnf2 : nf ≤ 1000000 := by unfold fullText at hlf; have := HTN.out; omega
      have hC := (hkj.block bb (by omega) (by simp; omega)).trans HC3.out
      have d0 := cell_of_block (i := 0) hC rfl
      simp only [List.getElem_toArray, List.getElem_cons_zero] at d0
      have hNr := HNU.out.kept hkwr
      have HS := Lib.hid (ordSort s1.Ac At s1.nc s1.cc nf c8 wr (text.flatMap (fullOf (usableN n).decomp cp)) (usableN n).classes hnf2 hNr.bc hNr.hc hIt hNr.cls (HG.out.kept hkwr))
      rw [usableN_spans] at HS
      clear hfull hown hIt hC hNr hlf hnf
      subst hu
      go_wp2_with fail
      refine HS.out.mono ?_
      rintro e w6 ⟨A6, n6, c6, rfl, hle6, hI6, hk6⟩
      have HI6 := Lib.hid hI6
      clear hI6
      go_wp2_with fail
      go_ret
      exact ⟨A6, n6, c6, rfl, hle6, HI6.out, Kept.trans hkwr hk6⟩
end Go.Proofs.YtobcaploncgnbaaGreatDoor
