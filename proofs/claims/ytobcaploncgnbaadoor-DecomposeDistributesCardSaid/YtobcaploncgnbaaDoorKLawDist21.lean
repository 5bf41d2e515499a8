/- law21.DecomposeDistributes returns true. -/
import Derived.Deep.AppendLies
import Derived.Test.YtobcaploncgnbaaDoorKFew21
namespace Go.Proofs.YtobcaploncgnbaaDoor
open Go Go.RowKit

theorem once_short {l : List Mp} {c : Int} {compat : Bool} {xs : List Int} (hl : ∀ m ∈ l, m.to.length ≤ 65) (h : onceOf l c compat = some xs) : xs.length ≤ 65 := by
  unfold onceOf at h
  by_cases hk : 4 ≤ kind c
  · rw [if_pos hk] at h
    injection h with h
    have := decompH_length c
    rw [← h]; omega
  · rw [if_neg hk] at h
    obtain ⟨m, hm, _, e, _⟩ := mapOf_mem h
    rw [← e]; exact hl m hm
theorem usable_short {n : Nrm} (h : smallB n = true) : ∀ m ∈ (usableN n).decomp, m.to.length ≤ 65 := fun m hm => by
  unfold usableN at hm
  split at hm
  · exact ((smallB_parts h).2.2.2 m hm).1
  · simp [emptyN] at hm

set_option maxRecDepth 100000 in
set_option maxHeartbeats 2000000 in
theorem law_dist21 (s : Sls) (n : Nrm) (x : Int) (cp : Bool) (w : World) (hN : NormIn w s n) (_hx : I64 x) (hG : Glob w) : Calls Tryd.prog 4 #[s.val, .int .i64 x, .bool cp] w (RetB w true) := by
  have HG := Lib.hid hG
  have hk1 := Kept.alloc (Kept.refl w) (Obj.cells #[Value.slice s.Ac s.nc s.cc, Value.slice s.Am s.nm s.cm, Value.slice s.Ae s.ne s.ce] 28)
  have HK1 := Lib.hid hk1
  have HS := Lib.hid (r21small s n (w.alloc (Obj.cells #[Value.slice s.Ac s.nc s.cc, Value.slice s.Am s.nm s.cm, Value.slice s.Ae s.ne s.ce] 28)) (hN.kept hk1))
  have hbx := box_cell w #[Value.slice s.Ac s.nc s.cc, Value.slice s.Am s.nm s.cm, Value.slice s.Ae s.ne s.ce] 28
  have x0 : (w.alloc (Obj.cells #[Value.slice s.Ac s.nc s.cc, Value.slice s.Am s.nm s.cm, Value.slice s.Ae s.ne s.ce] 28)).cell? ⟨w.heap.size, 0, none⟩ = some (.slice s.Ac s.nc s.cc) := hbx 0
  have x1 : (w.alloc (Obj.cells #[Value.slice s.Ac s.nc s.cc, Value.slice s.Am s.nm s.cm, Value.slice s.Ae s.ne s.ce] 28)).cell? ⟨w.heap.size, 1, none⟩ = some (.slice s.Am s.nm s.cm) := hbx 1
  have x2 : (w.alloc (Obj.cells #[Value.slice s.Ac s.nc s.cc, Value.slice s.Am s.nm s.cm, Value.slice s.Ae s.ne s.ce] 28)).cell? ⟨w.heap.size, 2, none⟩ = some (.slice s.Ae s.ne s.ce) := hbx 2
  have HX0 := Lib.hid x0
  have HX1 := Lib.hid x1
  have HX2 := Lib.hid x2
  have HN := Lib.hid hN
  clear hN hG hk1 hbx x0 x1 x2
  cases hsm : smallB n
  · rw [hsm] at HS
    clear hsm
    unfold Sls.val at *
    go_enter Tryd.func4, Tryd.ntmps4
    go_wp2_with fail
    refine HS.out.mono ?_
    rintro e w1 ⟨rfl, k1⟩
    have HA := Lib.hid (alive21 w1 (HG.out.kept (Kept.trans HK1.out k1)))
    go_wp2_with fail
    refine HA.out.mono ?_
    rintro e w2 ⟨rfl, k2⟩
    go_wp2_with fail
    go_ret
    exact ⟨rfl, Kept.trans HK1.out (Kept.trans k1 k2)⟩
  · rw [hsm] at HS
    have HNA := Lib.hid (HN.out.small hsm)
    have HCH := Lib.hid (fun w' c (hk : Kept w w') => char_any s n c cp w' (HNA.out.kept hk) (HG.out.kept hk))
    have HON := Lib.hid (fun w' (hk : Kept w w') => onceP_any s n x cp w' (HNA.out.kept hk) (HG.out.kept hk))
    have HF := Lib.hid (usableN_full n cp)
    have HLE := Lib.hid (usableN_len n cp)
    have HOL := Lib.hid (show ∀ tt, onceOf (usableN n).decomp x cp = some tt → tt.length ≤ 65 from fun tt h => once_short (usable_short hsm) h)
    clear hsm
    generalize fullOf (usableN n).decomp cp = F at *
    generalize (usableN n).decomp = D at *
    unfold Sls.val at *
    go_enter Tryd.func4, Tryd.ntmps4
    go_wp2_with fail
    refine HS.out.mono ?_
    rintro e w1 ⟨rfl, k1⟩
    have p0 := Kept.cell k1 HX0.out
    have p1 := Kept.cell k1 HX1.out
    have p2 := Kept.cell k1 HX2.out
    have K1 := Lib.hid (Kept.trans HK1.out k1)
    go_wp2_with fail
    refine (HON.out _ K1.out).mono ?_
    rintro e w2 ⟨A2, n2, c2, rfl, le2, i2, k2⟩
    have I2 := Lib.hid i2
    have N2 := Lib.hid i2.1
    have q0 := Kept.cell k2 p0
    have q1 := Kept.cell k2 p1
    have q2 := Kept.cell k2 p2
    have K2 := Lib.hid (Kept.trans K1.out k2)
    clear p0 p1 p2 i2
    cases ho : onceOf D x cp with
    | none =>
      rw [ho] at I2 N2
      simp only [Option.isSome_none, Option.getD_none] at I2 N2 ⊢
      have hn2 : n2 = 0 := by simpa using N2.out
      subst hn2
      have hFx : F x = [x] := by rw [HF.out x, ho]
      have HC := Lib.hid (HCH.out w2 x K2.out)
      rw [hFx] at HC
      clear hFx ho
      go_wp2_with fail
      refine HC.out.mono ?_
      rintro e w3 ⟨A3, n3, c3, rfl, le3, i3, k3⟩
      have hka := Kept.alloc (Kept.refl w3) (Obj.cells #[Value.int IntKind.i64 x] 3)
      have HEQ := Lib.hid (r01_same [x] A3 (some ⟨w3.heap.size, 0, none⟩) n3 1 c3 1 (w3.alloc (Obj.cells #[Value.int IntKind.i64 x] 3)) (by simp) (i3.kept hka) (Ints.alloc_ (xs := [x]) rfl rfl))
      have HKA := Lib.hid hka
      clear hka i3
      go_wp2_with fail
      refine HEQ.out.mono ?_
      rintro e w4 ⟨rfl, k4⟩
      have K4 := Lib.hid (Kept.trans K2.out (Kept.trans k3 (Kept.trans HKA.out k4)))
      have HA := Lib.hid (alive21 w4 (HG.out.kept K4.out))
      go_wp2_with fail
      refine HA.out.mono ?_
      rintro e w5 ⟨rfl, k5⟩
      go_wp2_with fail
      go_ret
      exact ⟨rfl, Kept.trans K4.out k5⟩
    | some tt =>
      rw [ho] at I2 N2
      simp only [Option.isSome_some, Option.getD_some] at I2 N2 ⊢
      have hFx : F x = tt.flatMap F := by rw [HF.out x, ho]
      have HFX := Lib.hid hFx
      have htl := HOL.out tt ho
      clear hFx ho
      obtain ⟨base, hbase⟩ : ∃ base : Nat, base = w2.heap.size := ⟨_, rfl⟩
      have HBASE := Lib.hid hbase
      have hb1 : base ≤ w2.heap.size := by omega
      have hn2 : n2 ≤ 65 := by have := N2.out; omega
      clear hbase htl q0 q1 q2
      go_wp2_with fail
      go_loopw [9, 10] (fun p i wr => ∃ j : Nat, j ≤ n2 ∧ i = .int .i64 j ∧ OwnI wr base p ((tt.take j).flatMap F) ∧ Kept w2 wr) (fun _ i _ => n2 - (intOf i).toNat)
      case atStart => exact ⟨0, Nat.zero_le _, rfl, (World.ownsRow_nil _ _ _ _ : OwnI w2 base (.slice none 0 0) []), Kept.refl _⟩
      case round =>
        obtain ⟨j, hj, rfl, hown, hkj⟩ := hrel
        have HOW := Lib.hid hown
        have HKJ := Lib.hid hkj
        have hszj := hkj.size
        have q0 := Kept.cell (Kept.trans (Kept.trans k1 k2) hkj) HX0.out
        have q1 := Kept.cell (Kept.trans (Kept.trans k1 k2) hkj) HX1.out
        have q2 := Kept.cell (Kept.trans (Kept.trans k1 k2) hkj) HX2.out
        have KW := Lib.hid (Kept.trans K2.out hkj)
        have HI := Lib.hid (I2.out.kept hkj)
        clear hown hkj
        by_cases hjn : j < n2
        · have hj100 : j < 100 := by omega
          obtain ⟨b2, off2, y, hA, hy, cy⟩ := int_at HI.out hjn
          rw [hA]
          have HTK := Lib.hid (flatMap_take (F := F) hy)
          have hfl := flatMap_length_le (F := F) (fun c => Nat.le_trans (HLE.out c) (by decide)) (tt.take j)
          have hjl : (tt.take j).length ≤ 65 := by rw [List.length_take]; omega
          have hfy := HLE.out y
          clear hy
          go_wp2_with fail
          go_region_law (first
            | (refine step_app_ints (by rfl) (.tmp 50) (.tmp 57) (by rfl) base _ _ (by rfl) HOW3.out _ _ _ (F y) (by rfl) I3.out (by omega) (by omega) ?_; intro v5 w5 hown5 hgrow5 hat5)
            | (go_simp; go_at_call 15; refine (HCH.out _ y (Kept.drew KW.out)).mono ?_; rintro e w4 ⟨A3, n3, c3, rfl, le3, i3, k4⟩; have I3 := Lib.hid i3; clear i3; have K4 := Lib.hid (Kept.trans (Kept.drew (Kept.refl wr)) k4); have HOW3 := Lib.hid (own_kept HOW.out K4.out); have hsz4 := K4.out.size))
          all_goals
            have hsz5 := hgrow5.size
            have hk5 : Kept w2 w5 := (Kept.trans HKJ.out K4.out).grown hgrow5 (by omega) (fun q e => by have := (World.ownsRow.lt HOW3.out q e).1; have := HBASE.out; omega)
            have HK5 := Lib.hid hk5
            clear hk5
            go_wp2_with fail
            go_roundw
            case rel => exact ⟨j + 1, by omega, by go_num, by rw [HTK.out]; exact hown5, HK5.out⟩
            case measure => simp [intOf]; omega
        · have hfull : tt.take j = tt := List.take_of_length_le (by have := N2.out; omega)
          have hown := HOW.out
          rw [hfull, ← HFX.out] at hown
          obtain ⟨At, c8, hu, hlet, hIt⟩ := OwnI.sl hown
          obtain ⟨nf, hnf⟩ : ∃ nf : Nat, nf = (F x).length := ⟨_, rfl⟩
          rw [← hnf] at hu hlet hIt
          have hnf2 : nf ≤ 64 := by have := HLE.out x; omega
          have HIT := Lib.hid hIt
          have hFL : (F x).length ≤ 10000 := by omega
          have HFL := Lib.hid hFL
          clear hfull hown hIt hnf hFL
          subst hu
          have HC := Lib.hid (HCH.out wr x KW.out)
          go_wp2_with fail
          refine HC.out.mono ?_
          rintro e w6 ⟨A6, n6, c6, rfl, le6, i6, k6⟩
          have hn6 : n6 ≤ 64 := by have := i6.1; have := HLE.out x; omega
          have HEQ := Lib.hid (r01_same (F x) A6 At n6 nf c6 c8 w6 HFL.out i6 (HIT.out.kept k6))
          clear i6
          go_wp2_with fail
          refine HEQ.out.mono ?_
          rintro e w7 ⟨rfl, k7⟩
          have K7 := Lib.hid (Kept.trans KW.out (Kept.trans k6 k7))
          have HA := Lib.hid (alive21 w7 (HG.out.kept K7.out))
          go_wp2_with fail
          refine HA.out.mono ?_
          rintro e w8 ⟨rfl, k8⟩
          go_wp2_with fail
          go_ret
          exact ⟨rfl, Kept.trans K7.out k8⟩
end Go.Proofs.YtobcaploncgnbaaDoor
