/- decompose.measure. -/
import Derived.Laws.EntriesVeiled
import Derived.Test.YtobcaploncgnbaaDoorKMeasB
namespace Go.Proofs.YtobcaploncgnbaaDoor
open Go Go.RowKit

set_option maxRecDepth 100000 in
set_option maxHeartbeats 2000000 in
theorem measure_any (s : Sls) (n : Nrm) (w : World) (hN : NormAt w s n) (hs : MpSorted n.decomp) (f : Nat) (st' : MSt) (hall : mall n.decomp f n.decomp ⟨[], false, false⟩ = some st') :
    Calls Tryd.prog 34 #[s.val] w fun e w' => e = .returned (.tuple #[.bool st'.cyc, .bool st'.long]) ∧ Kept w w' := by
  unfold Sls.val
  have HN := Lib.hid hN
  have HS := Lib.hid hs
  have HA := Lib.hid hall
  have hbm := hN.bm
  clear hN hs hall
  have hmm := @run_makeMap Tryd.prog
  go_enter Tryd.func34, Tryd.ntmps34
  go_wp2
  clear hmm
  obtain ⟨B, hBdef⟩ : ∃ B : Nat, B = w.heap.size := ⟨_, rfl⟩
  have hMA : MeasAt ((((((w.alloc (Obj.cells #[Value.slice s.Ac s.nc s.cc, Value.slice s.Am s.nm s.cm, Value.slice s.Ae s.ne s.ce] 28)).alloc (Obj.cells #[Value.bool false] 4)).alloc (Obj.cells #[Value.bool false] 4)).alloc (Obj.map #[] 0)).alloc (Obj.cells #[Value.map (some (B + 1 + 1 + 1))] 86)).alloc
      (Obj.cells #[Value.func (Fn.func 56) #[] #[Value.pointer (some ⟨B, 0, none⟩), Value.pointer (some ⟨B + 1 + 1 + 1 + 1, 0, none⟩), Value.pointer (some ⟨B + 1, 0, none⟩), Value.pointer (some ⟨B + 1 + 1 + 1 + 1 + 1, 0, none⟩), Value.pointer (some ⟨B + 1 + 1, 0, none⟩)]] 58))
      B (B + 1 + 1 + 1 + 1) (B + 1) (B + 1 + 1 + 1 + 1 + 1) (B + 1 + 1) (B + 1 + 1 + 1) s ⟨[], false, false⟩ := by
    refine ⟨?_, ?_, ?_, ?_, ?_, ?_, by omega⟩
    · exact alloc_lift (alloc_lift (alloc_lift (alloc_lift (alloc_lift (alloc_at hBdef)))))
    · exact alloc_lift (alloc_at (by simp [hBdef]))
    · exact alloc_lift (alloc_lift (alloc_lift (alloc_lift (alloc_at (by simp [hBdef])))))
    · exact alloc_at (by simp [hBdef])
    · exact alloc_lift (alloc_lift (alloc_lift (alloc_at (by simp [hBdef]))))
    · exact ⟨#[], 0, alloc_lift (alloc_lift (alloc_at (by simp [hBdef]))), rfl⟩
  have hk0 : Kept w ((((((w.alloc (Obj.cells #[Value.slice s.Ac s.nc s.cc, Value.slice s.Am s.nm s.cm, Value.slice s.Ae s.ne s.ce] 28)).alloc (Obj.cells #[Value.bool false] 4)).alloc (Obj.cells #[Value.bool false] 4)).alloc (Obj.map #[] 0)).alloc (Obj.cells #[Value.map (some (B + 1 + 1 + 1))] 86)).alloc
      (Obj.cells #[Value.func (Fn.func 56) #[] #[Value.pointer (some ⟨B, 0, none⟩), Value.pointer (some ⟨B + 1 + 1 + 1 + 1, 0, none⟩), Value.pointer (some ⟨B + 1, 0, none⟩), Value.pointer (some ⟨B + 1 + 1 + 1 + 1 + 1, 0, none⟩), Value.pointer (some ⟨B + 1 + 1, 0, none⟩)]] 58)) :=
    Kept.alloc (Kept.alloc (Kept.alloc (Kept.alloc (Kept.alloc (Kept.alloc (Kept.refl _) _) _) _) _) _) _
  rw [← hBdef]
  generalize ((((((w.alloc (Obj.cells #[Value.slice s.Ac s.nc s.cc, Value.slice s.Am s.nm s.cm, Value.slice s.Ae s.ne s.ce] 28)).alloc (Obj.cells #[Value.bool false] 4)).alloc (Obj.cells #[Value.bool false] 4)).alloc (Obj.map #[] 0)).alloc (Obj.cells #[Value.map (some (B + 1 + 1 + 1))] 86)).alloc
      (Obj.cells #[Value.func (Fn.func 56) #[] #[Value.pointer (some ⟨B, 0, none⟩), Value.pointer (some ⟨B + 1 + 1 + 1 + 1, 0, none⟩), Value.pointer (some ⟨B + 1, 0, none⟩), Value.pointer (some ⟨B + 1 + 1 + 1 + 1 + 1, 0, none⟩), Value.pointer (some ⟨B + 1 + 1, 0, none⟩)]] 58)) = W1 at *
  have HMA := Lib.hid hMA
  have hBw : B ≤ w.heap.size := by omega
  have HBD := Lib.hid hBdef
  clear hMA hBdef
  obtain ⟨b1, hb1⟩ : ∃ b : Nat, b = B + 1 := ⟨_, rfl⟩
  obtain ⟨b2, hb2⟩ : ∃ b : Nat, b = B + 1 + 1 := ⟨_, rfl⟩
  obtain ⟨b3, hb3⟩ : ∃ b : Nat, b = B + 1 + 1 + 1 := ⟨_, rfl⟩
  obtain ⟨b4, hb4⟩ : ∃ b : Nat, b = B + 1 + 1 + 1 + 1 := ⟨_, rfl⟩
  obtain ⟨b5, hb5⟩ : ∃ b : Nat, b = B + 1 + 1 + 1 + 1 + 1 := ⟨_, rfl⟩
  have HBS := Lib.hid (show ∀ b ∈ [b1, b2, b3], B ≤ b from fun b hb => by simp only [List.mem_cons, List.not_mem_nil, or_false] at hb; omega)
  rw [← hb5, ← hb4, ← hb3, ← hb2, ← hb1] at HMA ⊢
  clear hb1 hb2 hb3 hb4 hb5
  go_loopw [13] (fun i wr => ∃ (k : Nat) (stk : MSt), k ≤ s.nm ∧ i = .int .i64 k ∧ mall n.decomp f (n.decomp.drop k) stk = some st' ∧ MBound stk ∧ MeasAt wr B b4 b1 b5 b2 b3 s stk ∧ Below B w wr) (fun i _ => s.nm - (intOf i).toNat)
  case atStart => exact ⟨0, _, Nat.zero_le _, rfl, HA.out, fun p hp => by simp at hp, HMA.out, hk0.mono hBw⟩
  case round =>
    obtain ⟨k, stk, hk, rfl, hall, hbk, hMk, hBk⟩ := hrel
    have HAL := Lib.hid hall
    have HBK := Lib.hid hbk
    have HMK := Lib.hid hMk
    have hkw : Kept w wr := by have := hBk; rw [HBD.out] at this; exact this
    clear hall hbk
    by_cases hlt : k < s.nm
    · obtain ⟨b, off, m, A', n', c', hA, hm, hle, hI, c0, c1, c2⟩ := mp_at (HN.out.dec.kept hkw) hlt
      rw [hA]
      have f0 := alloc_lift (o := Obj.cells #[Value.int IntKind.i64 m.src, Value.slice A' n' c', Value.string m.tag] 57) hMk.f
      have f1 := cell_of_block (i := 0) f0 rfl
      obtain ⟨p, hp, hrest⟩ : ∃ p, msize n.decomp f m.src stk = some p ∧ mall n.decomp f (n.decomp.drop (k + 1)) p.2 = some st' := by
        have := HAL.out
        rw [drop_some hm, mall] at this
        cases hg : msize n.decomp f m.src stk with
        | none => rw [hg] at this; cases this
        | some p => rw [hg] at this; exact ⟨p, rfl, this⟩
      obtain ⟨hp0, hp1, hpb⟩ := msize_bound n.decomp f m.src stk p.1 p.2 HBK.out hp
      have hwa := Kept.alloc (Kept.refl wr) (Obj.cells #[Value.int IntKind.i64 m.src, Value.slice A' n' c', Value.string m.tag] 57)
      have hBk1 : Below B w (wr.alloc (Obj.cells #[Value.int IntKind.i64 m.src, Value.slice A' n' c', Value.string m.tag] 57)) := Below.trans hBk (hwa.mono (Nat.le_trans hBw hBk.size))
      have HC := Lib.hid (msize_calls s n HS.out B B b4 b1 b5 b2 b3 HBS.out f m.src stk p.1 p.2 _ hp HBK.out (HMK.out.kept hwa) (fun w' hw' => HN.out.kept (by have := hBk1.trans hw'; rw [HBD.out] at this; exact this)) (Nat.le_trans hBw hBk1.size))
      have HR := Lib.hid hrest
      have HPB := Lib.hid hpb
      clear hm hI hp hrest hpb hMk f0
      go_wp2_with fail
      refine HC.out.mono ?_
      rintro e w3 ⟨rfl, hk3, hM3⟩
      have HM3 := Lib.hid hM3
      have hB3 : Below B w w3 := hBk1.trans (hk3.below HBS.out (Nat.le_trans hBw hBk1.size))
      clear hM3
      go_wp2_with fail
      go_roundw
      case rel => exact ⟨k + 1, p.2, by omega, by go_num, HR.out, HPB.out, HM3.out, hB3⟩
      case measure => simp [intOf]; omega
    · have hst : stk = st' := by
        have := HAL.out
        rw [List.drop_of_length_le (by have := HN.out.dec.1; omega), mall] at this
        injection this
      subst hst
      have e1 := cell_of_block (i := 0) hMk.c rfl
      have e2 := frozen_of_block (i := 0) hMk.c
      have e3 := cell_of_block (i := 0) hMk.l rfl
      have e4 := frozen_of_block (i := 0) hMk.l
      have hne := hMk.ne
      have hne' := Ne.symm hne
      clear hMk
      go_wp2_with fail
      go_region
      go_wp2
      have hMf := (HMK.out.setC stk.cyc).setL stk.long
      have g1 : (((wr.setCell ⟨b1, 0, none⟩ (Value.bool stk.cyc)).setCell ⟨b2, 0, none⟩ (Value.bool stk.long)).drew).cell? ⟨b1, 0, none⟩ = some (Value.bool stk.cyc) := cell_of_block (i := 0) hMf.c rfl
      have g2 : (((wr.setCell ⟨b1, 0, none⟩ (Value.bool stk.cyc)).setCell ⟨b2, 0, none⟩ (Value.bool stk.long)).drew).cell? ⟨b2, 0, none⟩ = some (Value.bool stk.long) := cell_of_block (i := 0) hMf.l rfl
      refine bodyPost_ret (v := .tuple #[.bool stk.cyc, .bool stk.long]) ?_ rfl ⟨rfl, ?_⟩
      · clear e1 e2 e3 e4
        simp [results, Tryd.results34, go_sem, g1, g2]
      · rw [HBD.out] at hBk
        exact Kept.drew (Kept.setCell (Kept.setCell hkw (by have := HBS.out b1 (by simp); rw [HBD.out] at this; exact this) _) (by have := HBS.out b2 (by simp); rw [HBD.out] at this; exact this) _)
end Go.Proofs.YtobcaploncgnbaaDoor
