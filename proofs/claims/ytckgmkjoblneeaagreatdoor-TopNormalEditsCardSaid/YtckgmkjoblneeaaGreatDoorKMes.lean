/- decompose.measure's closure computes msize. decompose.measure. -/
import Derived.Laws.EntriesVeiled
import Derived.Test.YtckgmkjoblneeaaGreatDoorKMeas
namespace Go.Proofs.YtckgmkjoblneeaaGreatDoor
open Go Go.RowKit
def MeasPost (bn bs bc bf bl bm : Nat) (s : Sls) (w : World) (v : Int) (st' : MSt) (e : Ending) (w' : World) : Prop :=
  e = .returned (.int .i64 v) ∧ KeptBut [bc, bl, bm] w w' ∧ MeasAt w' bn bs bc bf bl bm s st'
set_option maxRecDepth 100000 in
set_option maxHeartbeats 2000000 in
theorem msize_calls (s : Sls) (n : Nrm) (hs : MpSorted n.decomp) (B0 bn bs bc bf bl bm : Nat) (hB : ∀ b ∈ [bc, bl, bm], B0 ≤ b) : ∀ (f : Nat) (c : Int) (st : MSt) (v : Int) (st' : MSt) (w : World),
    msize n.decomp f c st = some (v, st') → MBound st → MeasAt w bn bs bc bf bl bm s st → (∀ w', Below B0 w w' → NormAt w' s n) → B0 ≤ w.heap.size →
    Calls Tryz.prog 106 #[.int .i64 c, .pointer (some ⟨bn, 0, none⟩), .pointer (some ⟨bs, 0, none⟩), .pointer (some ⟨bc, 0, none⟩), .pointer (some ⟨bf, 0, none⟩), .pointer (some ⟨bl, 0, none⟩)] w
      (MeasPost bn bs bc bf bl bm s w v st')
  | 0, c, st, v, st', w, h, _, _, _, _ => by simp [msize] at h
  | f + 1, c, st, v, st', w, h, hb, hM, hst, hBw => by
    have IH := Lib.hid (msize_calls s n hs B0 bn bs bc bf bl bm hB f)
    have HM := Lib.hid hM
    have HST := Lib.hid hst
    have HB := Lib.hid hb
    have HH := Lib.hid h
    have HBS := Lib.hid hB
    have n0 := cell_of_block (i := 0) hM.n rfl
    have n1 := cell_of_block (i := 1) hM.n rfl
    have n2 := cell_of_block (i := 2) hM.n rfl
    have HO := Lib.hid (once_any s n c true w (hst w (Below.refl _ _)) hs)
    clear h hb hM hst hB
    go_enter Tryz.func106, Tryz.ntmps106
    go_wp2_with fail
    refine HO.out.mono ?_
    rintro e w1 ⟨hk1, hr⟩
    have hM1 := HM.out.kept hk1
    cases ho : onceOf n.decomp c true with
    | none =>
      rw [ho] at hr
      simp only at hr
      subst hr
      have hv : v = 1 ∧ st' = st := by
        have := HH.out
        simp only [msize, ho, Option.some.injEq, Prod.mk.injEq] at this
        exact ⟨this.1.symm, this.2.symm⟩
      obtain ⟨rfl, rfl⟩ := hv
      clear ho
      go_wp2_with fail
      go_ret
      exact ⟨rfl, hk1.but _, hM1⟩
    | some to =>
      rw [ho] at hr
      obtain ⟨A, nn, cc, rfl, hle, hI⟩ := hr
      cases to with
      | nil =>
        have hv : v = 1 ∧ st' = st := by
          have := HH.out
          simp only [msize, ho, Option.some.injEq, Prod.mk.injEq] at this
          exact ⟨this.1.symm, this.2.symm⟩
        obtain ⟨rfl, rfl⟩ := hv
        obtain rfl : nn = 0 := hI.1
        clear ho hI
        go_wp2_with fail
        go_ret
        exact ⟨rfl, hk1.but _, hM1⟩
      | cons x r =>
        have hnn : nn = (x :: r).length := hI.1
        have hnz : ((nn : Int) == 0) = false := by rw [hnn]; simp; omega
        have HI := Lib.hid hI
        have HM1 := Lib.hid hM1
        have hlk := run_lookup_ok (T := 174) (E := 3) (keyOk_int (P := Tryz.prog) (K := 3) (by kernel_rfl)) (by kernel_rfl) hM1.m (.int .i64 0) (fun w => by kernel_rfl) c
        rw [getKV_mapV] at hlk
        have s0 := cell_of_block (i := 0) hM1.s rfl
        have d0 := cell_of_block (i := 0) hM1.c rfl
        have d1 := frozen_of_block (i := 0) hM1.c
        have hnb : nn ≤ 1000 := by rw [hnn]; exact onceOf_length (HST.out w (Below.refl _ _)).to ho
        clear hM1 hnn hI
        cases hk : getKV st.M c with
        | some k =>
          rw [hk] at hlk
          simp only [Option.map_some] at hlk
          have hv : v = max k 1 ∧ st' = { st with cyc := st.cyc || (k == -1) } := by
            have := HH.out
            simp only [msize, ho, hk, Option.some.injEq, Prod.mk.injEq] at this
            exact ⟨this.1.symm, this.2.symm⟩
          have HV := Lib.hid hv
          clear hv hk ho
          have HE := Lib.hid (show (st.cyc || (k == -1)) = (st.cyc || (k == -1)) from rfl)
          cases hcy : st.cyc
          · rw [hcy] at d0
            cases hk1' : (k == -1)
            · go_wp2_with fail
              all_goals
                go_ret
                obtain ⟨rfl, rfl⟩ := HV.out
                rw [hcy, hk1']
                exact ⟨ret_int (by omega), (hk1.but _).trans (KeptBut.setCell _ (by simp) _), HM1.out.setC false⟩
            · obtain rfl : k = -1 := by simpa using hk1'
              go_wp2_with fail
              go_ret
              obtain ⟨rfl, rfl⟩ := HV.out
              rw [hcy, hk1']
              exact ⟨ret_int (by omega), (hk1.but _).trans (KeptBut.setCell _ (by simp) _), HM1.out.setC true⟩
          · rw [hcy] at d0
            go_wp2_with fail
            all_goals
              go_ret
              obtain ⟨rfl, rfl⟩ := HV.out
              rw [hcy]
              exact ⟨ret_int (by omega), (hk1.but _).trans (KeptBut.setCell _ (by simp) _), HM1.out.setC true⟩
        | none =>
          rw [hk] at hlk
          simp only [Option.map_none] at hlk
          obtain ⟨q, hq, hvq⟩ : ∃ q, mfold (msize n.decomp f) (x :: r) 0 { st with M := setKV st.M c (-1) } = some q ∧ (v = q.1 ∧ st' = { M := setKV q.2.M c q.1, cyc := q.2.cyc, long := q.2.long || decide (64 < q.1) }) := by
            have := HH.out
            simp only [msize, ho, hk] at this
            cases hf : mfold (msize n.decomp f) (x :: r) 0 { st with M := setKV st.M c (-1) } with
            | none => rw [hf] at this; cases this
            | some q =>
              rw [hf] at this
              simp only [Option.some.injEq, Prod.mk.injEq] at this
              exact ⟨q, rfl, this.1.symm, this.2.symm⟩
          have HQ := Lib.hid hq
          have HVQ := Lib.hid hvq
          have hb2 : MBound { st with M := setKV st.M c (-1) } := fun p hp => by
            rcases mem_setKV hp with rfl | hp
            · simp
            · exact HB.out p hp
          have HB2 := Lib.hid hb2
          obtain ⟨w2, hup, hm2, hg2⟩ := run_update (T := 174) (E := 3) (keyOk_int (P := Tryz.prog) (K := 3) (by kernel_rfl)) (by kernel_rfl) HM1.out.m c (.int .i64 (-1))
          rw [setKV_mapV (fun x => Value.int .i64 x)] at hm2
          have HM2 := Lib.hid (HM1.out.mapped hg2 hm2)
          have hkb2 : KeptBut [bc, bl, bm] w w2 := (hk1.but _).trans (KeptBut.of_grown hg2 (by simp))
          have HI2 := Lib.hid (HI.out.keptBut (KeptBut.of_grown hg2 (by simp)) HM1.out.noInt)
          clear hk ho hq hvq hb2 hm2
          go_wp2_with fail
          clear hup hlk s0 d0 d1 n0 n1 n2
          go_loopw [12, 46] (fun sm i wr => ∃ (j : Nat) (a : Int) (stj : MSt), j ≤ nn ∧ i = .int .i64 j ∧ sm = .int .i64 a ∧ 0 ≤ a ∧ a ≤ 65 ∧ mfold (msize n.decomp f) ((x :: r).drop j) a stj = some q ∧ MBound stj ∧ MeasAt wr bn bs bc bf bl bm s stj ∧ KeptBut [bc, bl, bm] w wr ∧ Ints wr A nn (x :: r)) (fun _ i _ => nn - (intOf i).toNat)
          case atStart => exact ⟨0, 0, _, Nat.zero_le _, rfl, rfl, by omega, by omega, HQ.out, HB2.out, HM2.out, hkb2, HI2.out⟩
          case round =>
            obtain ⟨j, a, stj, hj, rfl, rfl, ha0, ha1, hfold, hbj, hMj, hkj, hIj⟩ := hrel
            have HF := Lib.hid hfold
            have HBJ := Lib.hid hbj
            have HMJ := Lib.hid hMj
            have HIJ := Lib.hid hIj
            have f0 := cell_of_block (i := 0) hMj.f rfl
            have s0 := cell_of_block (i := 0) hMj.s rfl
            have l0 := cell_of_block (i := 0) hMj.l rfl
            have l1 := frozen_of_block (i := 0) hMj.l
            clear hfold hbj hMj hIj
            by_cases hjn : j < nn
            · obtain ⟨b2, off2, y, rfl, hy, c0⟩ := int_at HIJ.out hjn
              obtain ⟨p, hp, hrest⟩ : ∃ p, msize n.decomp f y stj = some p ∧ mfold (msize n.decomp f) ((x :: r).drop (j + 1)) (min (a + p.1) 65) p.2 = some q := by
                have := HF.out
                rw [drop_some hy, mfold] at this
                cases hg : msize n.decomp f y stj with
                | none => rw [hg] at this; cases this
                | some p => rw [hg] at this; exact ⟨p, rfl, this⟩
              obtain ⟨hp0, hp1, hpb⟩ := msize_bound n.decomp f y stj p.1 p.2 HBJ.out hp
              have hbel : Below B0 w wr := hkj.below HBS.out hBw
              have HC := Lib.hid (IH.out y stj p.1 p.2 wr hp HBJ.out HMJ.out (fun w' hw' => HST.out w' (hbel.trans hw')) (Nat.le_trans hBw hbel.size))
              have HR := Lib.hid hrest
              have HPB := Lib.hid hpb
              clear hy hp hrest hpb s0 l0 l1
              go_wp2_with fail
              refine HC.out.mono ?_
              rintro e w3 ⟨rfl, hk3, hM3⟩
              have HM3 := Lib.hid hM3
              have HI3 := Lib.hid (HIJ.out.keptBut hk3 HMJ.out.noInt)
              clear hM3 c0 f0
              go_wp2_with fail
              all_goals
                go_roundw
                case rel => exact ⟨j + 1, min (a + p.1) 65, p.2, by omega, by go_num, by rw [show min (a + p.1) 65 = (if 65 < a + p.1 then 65 else a + p.1) from by split <;> omega], by omega, by omega, HR.out, HPB.out, HM3.out, hkj.trans hk3, HI3.out⟩
                case measure => simp [intOf]; omega
            · have hqe : q = (a, stj) := by
                have := HF.out
                rw [List.drop_of_length_le (by have := HIJ.out.1; omega), mfold] at this
                injection this with this
                exact this.symm
              obtain ⟨w4, hup, hm4, hg4⟩ := run_update (T := 174) (E := 3) (keyOk_int (P := Tryz.prog) (K := 3) (by kernel_rfl)) (by kernel_rfl) HMJ.out.m c (.int .i64 a)
              rw [setKV_mapV (fun x => Value.int .i64 x)] at hm4
              have hM4 := HMJ.out.mapped hg4 hm4
              have HM4 := Lib.hid hM4
              have l4 := cell_of_block (i := 0) hM4.l rfl
              have l5 := frozen_of_block (i := 0) hM4.l
              have HQE := Lib.hid hqe
              clear f0 l0 l1 hm4 hM4 hqe
              cases hlo : stj.long
              · simp only [hlo] at l4
                by_cases h64 : 64 < a
                · go_wp2_with fail
                  go_ret
                  obtain ⟨rfl, rfl⟩ := HVQ.out
                  rw [HQE.out]
                  simp only [hlo, decide_eq_true h64, Bool.false_or]
                  exact ⟨rfl, (hkj.trans (KeptBut.of_grown hg4 (by simp))).trans (KeptBut.setCell _ (by simp) _), HM4.out.setL true⟩
                · go_wp2_with fail
                  go_ret
                  obtain ⟨rfl, rfl⟩ := HVQ.out
                  rw [HQE.out]
                  simp only [hlo, decide_eq_false (show ¬ 64 < a by omega), Bool.false_or]
                  exact ⟨rfl, (hkj.trans (KeptBut.of_grown hg4 (by simp))).trans (KeptBut.setCell _ (by simp) _), HM4.out.setL false⟩
              · simp only [hlo] at l4
                go_wp2_with fail
                go_ret
                obtain ⟨rfl, rfl⟩ := HVQ.out
                rw [HQE.out]
                simp only [hlo, Bool.true_or]
                exact ⟨rfl, (hkj.trans (KeptBut.of_grown hg4 (by simp))).trans (KeptBut.setCell _ (by simp) _), HM4.out.setL true⟩
end Go.Proofs.YtckgmkjoblneeaaGreatDoor
namespace Go.Proofs.YtckgmkjoblneeaaGreatDoor
open Go Go.RowKit
set_option maxRecDepth 100000 in
set_option maxHeartbeats 2000000 in
theorem measure_any (s : Sls) (n : Nrm) (w : World) (hN : NormAt w s n) (hs : MpSorted n.decomp) (f : Nat) (st' : MSt) (hall : mall n.decomp f n.decomp ⟨[], false, false⟩ = some st') :
    Calls Tryz.prog 84 #[s.val] w fun e w' => e = .returned (.tuple #[.bool st'.cyc, .bool st'.long]) ∧ Kept w w' := by
  unfold Sls.val
  have HN := Lib.hid hN
  have HS := Lib.hid hs
  have HA := Lib.hid hall
  have hbm := hN.bm
  clear hN hs hall
  have hmm := @run_makeMap Tryz.prog
  go_enter Tryz.func84, Tryz.ntmps84
  go_wp2
  clear hmm
  obtain ⟨B, hBdef⟩ : ∃ B : Nat, B = w.heap.size := ⟨_, rfl⟩
  have hMA : MeasAt ((((((w.alloc (Obj.cells #[Value.slice s.Ac s.nc s.cc, Value.slice s.Am s.nm s.cm, Value.slice s.Ae s.ne s.ce] 28)).alloc (Obj.cells #[Value.bool false] 4)).alloc (Obj.cells #[Value.bool false] 4)).alloc (Obj.map #[] 0)).alloc (Obj.cells #[Value.map (some (B + 1 + 1 + 1))] 174)).alloc
      (Obj.cells #[Value.func (Fn.func 106) #[] #[Value.pointer (some ⟨B, 0, none⟩), Value.pointer (some ⟨B + 1 + 1 + 1 + 1, 0, none⟩), Value.pointer (some ⟨B + 1, 0, none⟩), Value.pointer (some ⟨B + 1 + 1 + 1 + 1 + 1, 0, none⟩), Value.pointer (some ⟨B + 1 + 1, 0, none⟩)]] 123))
      B (B + 1 + 1 + 1 + 1) (B + 1) (B + 1 + 1 + 1 + 1 + 1) (B + 1 + 1) (B + 1 + 1 + 1) s ⟨[], false, false⟩ := by
    refine ⟨?_, ?_, ?_, ?_, ?_, ?_, by omega⟩
    · exact alloc_lift (alloc_lift (alloc_lift (alloc_lift (alloc_lift (alloc_at hBdef)))))
    · exact alloc_lift (alloc_at (by simp [hBdef]))
    · exact alloc_lift (alloc_lift (alloc_lift (alloc_lift (alloc_at (by simp [hBdef])))))
    · exact alloc_at (by simp [hBdef])
    · exact alloc_lift (alloc_lift (alloc_lift (alloc_at (by simp [hBdef]))))
    · exact ⟨#[], 0, alloc_lift (alloc_lift (alloc_at (by simp [hBdef]))), rfl, by simp, by simp⟩
  have hk0 : Kept w ((((((w.alloc (Obj.cells #[Value.slice s.Ac s.nc s.cc, Value.slice s.Am s.nm s.cm, Value.slice s.Ae s.ne s.ce] 28)).alloc (Obj.cells #[Value.bool false] 4)).alloc (Obj.cells #[Value.bool false] 4)).alloc (Obj.map #[] 0)).alloc (Obj.cells #[Value.map (some (B + 1 + 1 + 1))] 174)).alloc
      (Obj.cells #[Value.func (Fn.func 106) #[] #[Value.pointer (some ⟨B, 0, none⟩), Value.pointer (some ⟨B + 1 + 1 + 1 + 1, 0, none⟩), Value.pointer (some ⟨B + 1, 0, none⟩), Value.pointer (some ⟨B + 1 + 1 + 1 + 1 + 1, 0, none⟩), Value.pointer (some ⟨B + 1 + 1, 0, none⟩)]] 123)) :=
    Kept.alloc (Kept.alloc (Kept.alloc (Kept.alloc (Kept.alloc (Kept.alloc (Kept.refl _) _) _) _) _) _) _
  rw [← hBdef]
  generalize ((((((w.alloc (Obj.cells #[Value.slice s.Ac s.nc s.cc, Value.slice s.Am s.nm s.cm, Value.slice s.Ae s.ne s.ce] 28)).alloc (Obj.cells #[Value.bool false] 4)).alloc (Obj.cells #[Value.bool false] 4)).alloc (Obj.map #[] 0)).alloc (Obj.cells #[Value.map (some (B + 1 + 1 + 1))] 174)).alloc
      (Obj.cells #[Value.func (Fn.func 106) #[] #[Value.pointer (some ⟨B, 0, none⟩), Value.pointer (some ⟨B + 1 + 1 + 1 + 1, 0, none⟩), Value.pointer (some ⟨B + 1, 0, none⟩), Value.pointer (some ⟨B + 1 + 1 + 1 + 1 + 1, 0, none⟩), Value.pointer (some ⟨B + 1 + 1, 0, none⟩)]] 123)) = W1 at *
  have HMA := Lib.hid hMA
  have hBw : B ≤ w.heap.size := by omega
  have HBD := Lib.hid hBdef
  clear hMA hBdef
  obtain ⟨b1, hb1⟩ : ∃ b : Nat, b = B + 1 := ⟨_, rfl⟩
  obtain ⟨b2, hb2⟩ : ∃ b : Nat, b = B + 1 + 1 := ⟨_, rfl⟩
  obtain ⟨b3, hb3⟩ : ∃ b : Nat, b = B + 1 + 1 + 1 := ⟨_, rfl⟩
  obtain ⟨b4, hb4⟩ : ∃ b : Nat, b = B + 1 + 1 + 1 + 1 := ⟨_, rfl⟩
  obtain ⟨b5, hb5⟩ : ∃ b : Nat, b = B + 1 + 1 + 1 + 1 + 1 := ⟨_, rfl⟩
  have HBS := Lib.hid (show ∀ b ∈ [b1, b2, b3], B ≤ b from fun b hb => by simp only [List.mem_cons, List.not_mem_nil, or_false] at hb; omega)
  rw [← hb5, ← hb4, ← hb3, ← hb2, ← hb1] at HMA ⊢
  clear hb1 hb2 hb3 hb4 hb5
  go_loopw [13] (fun i wr => ∃ (k : Nat) (stk : MSt), k ≤ s.nm ∧ i = .int .i64 k ∧ mall n.decomp f (n.decomp.drop k) stk = some st' ∧ MBound stk ∧ MeasAt wr B b4 b1 b5 b2 b3 s stk ∧ Below B w wr) (fun i _ => s.nm - (intOf i).toNat)
  case atStart => exact ⟨0, _, Nat.zero_le _, rfl, HA.out, fun p hp => by simp at hp, HMA.out, hk0.mono hBw⟩
  case round =>
    obtain ⟨k, stk, hk, rfl, hall, hbk, hMk, hBk⟩ := hrel
    have HAL := Lib.hid hall
    have HBK := Lib.hid hbk
    have HMK := Lib.hid hMk
    have hkw : Kept w wr := by have := hBk; rw [HBD.out] at this; exact this
    clear hall hbk
    by_cases hlt : k < s.nm
    · obtain ⟨b, off, m, A', n', c', hA, hm, hle, hI, c0, c1, c2⟩ := mp_at (HN.out.dec.kept hkw) hlt
      rw [hA]
      have f0 := alloc_lift (o := Obj.cells #[Value.int IntKind.i64 m.src, Value.slice A' n' c', Value.string m.tag] 57) hMk.f
      have f1 := cell_of_block (i := 0) f0 rfl
      obtain ⟨p, hp, hrest⟩ : ∃ p, msize n.decomp f m.src stk = some p ∧ mall n.decomp f (n.decomp.drop (k + 1)) p.2 = some st' := by
        have := HAL.out
        rw [drop_some hm, mall] at this
        cases hg : msize n.decomp f m.src stk with
        | none => rw [hg] at this; cases this
        | some p => rw [hg] at this; exact ⟨p, rfl, this⟩
      obtain ⟨hp0, hp1, hpb⟩ := msize_bound n.decomp f m.src stk p.1 p.2 HBK.out hp
      have hwa := Kept.alloc (Kept.refl wr) (Obj.cells #[Value.int IntKind.i64 m.src, Value.slice A' n' c', Value.string m.tag] 57)
      have hBk1 : Below B w (wr.alloc (Obj.cells #[Value.int IntKind.i64 m.src, Value.slice A' n' c', Value.string m.tag] 57)) := Below.trans hBk (hwa.mono (Nat.le_trans hBw hBk.size))
      have HC := Lib.hid (msize_calls s n HS.out B B b4 b1 b5 b2 b3 HBS.out f m.src stk p.1 p.2 _ hp HBK.out (HMK.out.kept hwa) (fun w' hw' => HN.out.kept (by have := hBk1.trans hw'; rw [HBD.out] at this; exact this)) (Nat.le_trans hBw hBk1.size))
      have HR := Lib.hid hrest
      have HPB := Lib.hid hpb
      clear hm hI hp hrest hpb hMk f0
      go_wp2_with fail
      refine HC.out.mono ?_
      rintro e w3 ⟨rfl, hk3, hM3⟩
      have HM3 := Lib.hid hM3
      have hB3 : Below B w w3 := hBk1.trans (hk3.below HBS.out (Nat.le_trans hBw hBk1.size))
      clear hM3
      go_wp2_with fail
      go_roundw
      case rel => exact ⟨k + 1, p.2, by omega, by go_num, HR.out, HPB.out, HM3.out, hB3⟩
      case measure => simp [intOf]; omega
    · have hst : stk = st' := by
        have := HAL.out
        rw [List.drop_of_length_le (by have := HN.out.dec.1; omega), mall] at this
        injection this
      subst hst
      have e1 := cell_of_block (i := 0) hMk.c rfl
      have e2 := frozen_of_block (i := 0) hMk.c
      have e3 := cell_of_block (i := 0) hMk.l rfl
      have e4 := frozen_of_block (i := 0) hMk.l
      have hne := hMk.ne
      have hne' := Ne.symm hne
      clear hMk
      go_wp2_with fail
      go_region
      go_wp2
      have hMf := (HMK.out.setC stk.cyc).setL stk.long
      have g1 : (((wr.setCell ⟨b1, 0, none⟩ (Value.bool stk.cyc)).setCell ⟨b2, 0, none⟩ (Value.bool stk.long)).drew).cell? ⟨b1, 0, none⟩ = some (Value.bool stk.cyc) := cell_of_block (i := 0) hMf.c rfl
      have g2 : (((wr.setCell ⟨b1, 0, none⟩ (Value.bool stk.cyc)).setCell ⟨b2, 0, none⟩ (Value.bool stk.long)).drew).cell? ⟨b2, 0, none⟩ = some (Value.bool stk.long) := cell_of_block (i := 0) hMf.l rfl
      refine bodyPost_ret (v := .tuple #[.bool stk.cyc, .bool stk.long]) ?_ rfl ⟨rfl, ?_⟩
      · clear e1 e2 e3 e4
        simp [results, Tryz.results84, go_sem, g1, g2]
      · rw [HBD.out] at hBk
        exact Kept.drew (Kept.setCell (Kept.setCell hkw (by have := HBS.out b1 (by simp); rw [HBD.out] at this; exact this) _) (by have := HBS.out b2 (by simp); rw [HBD.out] at this; exact this) _)
end Go.Proofs.YtckgmkjoblneeaaGreatDoor
