/- decompose.Check: what it returns for any data. -/
import Derived.Test.YtobcaploncgnbaaGreatDoorKMes
import Derived.Test.YtobcaploncgnbaaGreatDoorKSeqC
import Derived.Test.YtobcaploncgnbaaGreatDoorKSetC
import Derived.Test.YtobcaploncgnbaaGreatDoorKMapD
namespace Go.Proofs.YtobcaploncgnbaaGreatDoor
open Go Go.RowKit

theorem tagged_snoc {l : List Mp} {k : Nat} {m : Mp} (h : l[k]? = some m) : taggedOf (l.take (k + 1)) = taggedOf (l.take k) ++ (if plainTag m then [] else [m.src]) := by
  unfold taggedOf
  rw [take_succ_some h, List.filter_append, List.map_append]
  congr 1
  cases ht : plainTag m <;> simp [ht]
theorem tagged_length (l : List Mp) : (taggedOf l).length ≤ l.length := by
  unfold taggedOf
  rw [List.length_map]
  exact List.length_filter_le _ _

theorem decCheck_ord {n : Nrm} (h : ordCheck n.classes ≠ 0) : decCheck n = ordCheck n.classes := if_pos h
theorem decCheck_map {n : Nrm} (h0 : ordCheck n.classes = 0) (h : mapCheck n.decomp ≠ 0) : decCheck n = mapCheck n.decomp := by
  unfold decCheck; rw [if_neg (by simp [h0]), if_pos h]
theorem decCheck_excl {n : Nrm} (h0 : ordCheck n.classes = 0) (h1 : mapCheck n.decomp = 0) (h : ¬ makeR n.excl = n.excl) : decCheck n = 11 := by
  unfold decCheck; rw [if_neg (by simp [h0]), if_neg (by simp [h1]), if_neg h]
theorem decCheck_mid {n : Nrm} (h0 : ordCheck n.classes = 0) (h1 : mapCheck n.decomp = 0) (h : makeR n.excl = n.excl) : decCheck n = decMid n := by
  unfold decCheck; rw [if_neg (by simp [h0]), if_neg (by simp [h1]), if_pos h]

set_option maxRecDepth 100000 in
set_option maxHeartbeats 4000000 in
theorem decCheck_any (s : Sls) (n : Nrm) (w : World) (hN : NormAt w s n) (hG : Glob w) : Calls Tryz.prog 12 #[s.val] w (RetI w (decCheck n)) := by
  unfold Sls.val
  have HN := Lib.hid hN
  have HG := Lib.hid hG
  have hbm := hN.bm
  have hbc := hN.bc
  have hbe := hN.be
  clear hN hG
  by_cases h0 : ordCheck n.classes = 0
  · have hb0 : (ordCheck n.classes != 0) = false := by simp [h0]
    have H0 := Lib.hid h0
    clear h0
    by_cases h1 : mapCheck n.decomp = 0
    · have hb1 : (mapCheck n.decomp != 0) = false := by simp [h1]
      have H1 := Lib.hid h1
      clear h1
      go_enter Tryz.func12, Tryz.ntmps12
      go_wp2_with fail
      refine (ordering_check _ _ _ n.classes _ (by omega) (HN.out.cls.kept (Kept.alloc (Kept.refl _) _)) (HG.out.kept (Kept.alloc (Kept.refl _) _))).mono ?_
      rintro e w1 ⟨rfl, hk1⟩
      have hbx := box_cell w #[Value.slice s.Ac s.nc s.cc, Value.slice s.Am s.nm s.cm, Value.slice s.Ae s.ne s.ce] 28
      have hw1 := Kept.trans (Kept.alloc (Kept.refl w) (Obj.cells #[Value.slice s.Ac s.nc s.cc, Value.slice s.Am s.nm s.cm, Value.slice s.Ae s.ne s.ce] 28)) hk1
      have x0 := hk1.cell (hbx 0)
      have x1 := hk1.cell (hbx 1)
      have x2 := hk1.cell (hbx 2)
      clear hbx
      obtain ⟨bx, hbx⟩ : ∃ bx : Nat, bx = w.heap.size := ⟨_, rfl⟩
      rw [← hbx] at x0 x1 x2 ⊢
      clear hbx
      have HX0 := Lib.hid x0
      have HX1 := Lib.hid x1
      have HX2 := Lib.hid x2
      go_wp2_with fail
      clear x0 x1 x2
      refine (mapping_check _ _ _ n.decomp _ (by omega) (HN.out.dec.kept hw1) (fun m hm => Nat.le_trans (HN.out.to m hm) (by omega))).mono ?_
      rintro e w2 ⟨rfl, hk2⟩
      have x2 := hk2.cell HX2.out
      go_wp2_with fail
      clear x2
      refine (setValid_any _ _ _ n.excl _ (by omega) (HN.out.exc.kept (Kept.trans hw1 hk2))).mono ?_
      rintro e w3 ⟨rfl, hk3⟩
      have hw3 := Kept.trans hw1 (Kept.trans hk2 hk3)
      by_cases h2 : makeR n.excl = n.excl
      · rw [decide_eq_true h2]
        have HMID := Lib.hid (decCheck_mid H0.out H1.out h2)
        have x0 := Kept.cell (Kept.trans hk2 hk3) HX0.out
        have x1 := Kept.cell (Kept.trans hk2 hk3) HX1.out
        have x2 := Kept.cell (Kept.trans hk2 hk3) HX2.out
        have HX0 := Lib.hid x0
        have HX1 := Lib.hid x1
        have HX2 := Lib.hid x2
        clear h2 x0 x1 x2
        go_wp2_with fail
        clear hk1 hk2 hk3
        go_loopw [5] (fun i wr => ∃ k : Nat, k ≤ s.nm ∧ i = .int .i64 (k + 1) ∧ adjAny sameSrc (n.decomp.take (k + 1)) = false ∧ Below w3.heap.size w3 wr) (fun i _ => s.nm - (intOf i).toNat)
        case atStart => exact ⟨0, Nat.zero_le _, rfl, by cases n.decomp <;> simp [adjAny], Below.refl _ _⟩
        case round =>
          obtain ⟨k, hk, rfl, hno, hB⟩ := hrel
          have HNO := Lib.hid hno
          clear hno
          have x1 := Kept.cell hB HX1.out
          by_cases hlt : k + 1 < s.nm
          · obtain ⟨b, off, m, A', n', c', hA, hm, _, _, c0, c1, c2⟩ := mp_at (i := k) ((HN.out.dec.kept hw3).kept hB) (by omega)
            obtain ⟨b', off', m', A'', n'', c'', hA', hm', _, _, c0', c1', c2'⟩ := mp_at (i := k + 1) ((HN.out.dec.kept hw3).kept hB) (by omega)
            rw [hA] at hA'
            simp only [Option.some.injEq, Addr.mk.injEq] at hA'
            obtain ⟨rfl, rfl, _⟩ := hA'
            rw [hA] at x1 ⊢
            have HMM := Lib.hid hm
            have HMM' := Lib.hid hm'
            clear hm hm'
            have hbl := cell_lt c0
            have hwp : IntKind.i64.wrap (k : Int) = (k : Int) := IntWalk.i64_in _ (by omega)
            have hwp2 : k < s.nm := by omega
            have hwp3 : (0 : Int) ≤ (k : Int) + 1 := by omega
            have hwp4 : (k : Int) + 1 < (s.nm : Int) := by omega
            have hwp5 : ((k : Int) + 1).toNat = k + 1 := by omega
            cases hsr : (m'.src == m.src)
            · have hne : ¬ m'.src = m.src := by simpa using hsr
              go_wp2_with fail
              go_quiet (fail)
              clear hwp hwp2 hwp3 hwp4 hwp5
              go_wp2_with fail
              go_roundw
              case rel => exact ⟨k + 1, by omega, by go_num, by rw [adjAny_take _ HMM.out HMM'.out, HNO.out]; simp [sameSrc, hne], Kept.drewN hB _⟩
              case measure => simp [intOf]; omega
            · have hne : m'.src = m.src := by simpa using hsr
              have hres : decMid n = 5 := by
                unfold decMid
                rw [if_pos (adjAny_true_of_take _ _ (k + 2) (by rw [adjAny_take _ HMM.out HMM'.out]; simp [sameSrc, hne]))]
              have HRES := Lib.hid (HMID.out.trans hres)
              clear hne hres
              go_wp2_with fail
              go_quiet (fail)
              clear hwp hwp2 hwp3 hwp4 hwp5
              go_wp2_with fail
              go_ret
              exact ⟨ret_int HRES.out.symm, Kept.drewN (Kept.trans hw3 hB) _⟩
          · have hadj : adjAny sameSrc n.decomp = false := by
              have := HNO.out
              rwa [List.take_of_length_le (by have := HN.out.dec.1; omega)] at this
            have HADJ := Lib.hid hadj
            clear hadj HNO
            go_wp2_with fail
            clear x1
            obtain ⟨wo, rfl⟩ : ∃ wo : World, wo = wr := ⟨_, rfl⟩
            go_loopw [53] (fun i wr => ∃ k : Nat, k ≤ s.nm ∧ i = .int .i64 k ∧ (n.decomp.take k).any kindBad = false ∧ Below w3.heap.size w3 wr) (fun i _ => s.nm - (intOf i).toNat)
            case atStart => exact ⟨0, Nat.zero_le _, rfl, by simp, hB⟩
            case round =>
              obtain ⟨k, hk, rfl, hno, hB⟩ := hrel
              have HNO := Lib.hid hno
              clear hno
              by_cases hlt : k < s.nm
              · obtain ⟨b, off, m, A', n', c', hA, hm, hle, hI, c0, c1, c2⟩ := mp_at (i := k) ((HN.out.dec.kept hw3).kept hB) hlt
                have hml : n' ≤ 1000 := by rw [hI.1]; exact HN.out.to m (mem_of_getElem?_some hm)
                have HL := Lib.hid hI.1
                have HMM := Lib.hid hm
                rw [hA]
                clear hm hI
                cases ht : m.tag.toList.isEmpty
                · have hte : ¬ m.tag.toList = [] := by simpa using ht
                  go_wp2_with fail
                  go_roundw
                  case rel => exact ⟨k + 1, by omega, by go_num, by rw [any_take_snoc _ HMM.out, HNO.out]; simp [kindBad, plainTag, ht], hB.alloc hB.size _⟩
                  case measure => simp [intOf]; omega
                · have hte : m.tag.toList = [] := by simpa using ht
                  by_cases hl1 : n' = 1
                  · subst hl1
                    go_wp2_with fail
                    go_roundw
                    case rel => exact ⟨k + 1, by omega, by go_num, by rw [any_take_snoc _ HMM.out, HNO.out]; simp [kindBad, ← HL.out], hB.alloc hB.size _⟩
                    case measure => simp [intOf]; omega
                  · have hl1' : ((n' : Int) != 1) = true := by rw [bne_iff_ne]; omega
                    by_cases hl2 : n' = 2
                    · subst hl2
                      go_wp2_with fail
                      go_roundw
                      case rel => exact ⟨k + 1, by omega, by go_num, by rw [any_take_snoc _ HMM.out, HNO.out]; simp [kindBad, ← HL.out], hB.alloc hB.size _⟩
                      case measure => simp [intOf]; omega
                    · have hl2' : ((n' : Int) != 2) = true := by rw [bne_iff_ne]; omega
                      have hres : decMid n = 8 := by
                        unfold decMid
                        rw [HADJ.out, if_neg (by decide), if_pos (List.any_eq_true.2 ⟨m, mem_of_getElem?_some HMM.out, by simp [kindBad, plainTag, ht, ← HL.out, hl1, hl2]⟩)]
                      have HRES := Lib.hid (HMID.out.trans hres)
                      clear hres
                      go_wp2_with fail
                      go_ret
                      exact ⟨ret_int HRES.out.symm, Kept.alloc (Kept.trans hw3 hB) _⟩
              · have hkb : n.decomp.any kindBad = false := by
                  have := HNO.out
                  rwa [List.take_of_length_le (by have := HN.out.dec.1; omega)] at this
                have HKB := Lib.hid hkb
                have x1 := Kept.cell hB HX1.out
                clear hkb HNO
                go_wp2_with fail
                clear x1
                obtain ⟨wo2, rfl⟩ : ∃ wo2 : World, wo2 = wr := ⟨_, rfl⟩
                obtain ⟨i0, hi, hz0, hz1, hz2⟩ := info_parts info_int
                have HI0 := Lib.hid hi
                have HZ0 := Lib.hid hz0
                have HZ1 := Lib.hid hz1
                have HZ2 := Lib.hid hz2
                clear hi hz0 hz1 hz2
                go_loopw [8, 76] (fun p i wr => ∃ k : Nat, k ≤ s.nm ∧ i = .int .i64 k ∧ (n.decomp.take k).any srcHangul = false ∧ OwnI wr w3.heap.size p (taggedOf (n.decomp.take k)) ∧ Below w3.heap.size w3 wr) (fun _ i _ => s.nm - (intOf i).toNat)
                case atStart => exact ⟨0, Nat.zero_le _, rfl, by simp, (World.ownsRow_nil _ _ _ _ : OwnI wo2 w3.heap.size (.slice none 0 0) []), hB⟩
                case round =>
                  obtain ⟨k, hk, rfl, hno, hown, hB⟩ := hrel
                  have HNO := Lib.hid hno
                  have HOW := Lib.hid hown
                  clear hno hown
                  by_cases hlt : k < s.nm
                  · obtain ⟨b, off, m, A', n', c', hA, hm, hle, hI, c0, c1, c2⟩ := mp_at (i := k) ((HN.out.dec.kept hw3).kept hB) hlt
                    have HMM := Lib.hid hm
                    rw [hA]
                    have htl : (taggedOf (n.decomp.take k)).length ≤ 1000 := by
                      have h1 := tagged_length (n.decomp.take k)
                      have h2 : (n.decomp.take k).length ≤ k := List.length_take_le _ _
                      omega
                    clear hm hI
                    by_cases hkd : kind m.src = 0
                    · have hkd' : (kind m.src != 0) = false := by simp [hkd]
                      have HKD := Lib.hid hkd
                      clear hkd
                      cases ht : m.tag.toList.isEmpty
                      · have hte : ¬ m.tag.toList = [] := by simpa using ht
                        go_wp2_with (first
                          | (go_at_call 28; refine (kind_any _ _).mono ?_; rintro e w' ⟨rfl, rfl⟩)
                          | (at_builtin; refine wpList_append_own _ rfl _ _ 29 rfl w3.heap.size 3 i0 (.int .i64 0) 1 8 Tryz.underlying29 HI0.out HZ0.out HZ1.out HZ2.out rfl (by decide) _ _ _ rfl (by exact (World.ownsRow.alloc HOW.out _).alloc _) ⟨wr.heap.size + 1, 0, none⟩ 1 1 [.int .i64 m.src] rfl rfl (by exact cell_one_at (w := wr.alloc _) (by simp)) (by simp [Value.oneCell']) (by unfold maxLen; omega) (by omega) (by have := hB.size; simp; omega) ?_; intro v' w1 hown' hgrow _))
                        have hB4 : Below w3.heap.size w3 w1 := (Kept.alloc (Kept.alloc hB (Obj.cells #[Value.int IntKind.i64 m.src, Value.slice A' n' c', Value.string m.tag] 41)) (Obj.cells #[Value.int IntKind.i64 m.src] 3)).grown hgrow (by have := hB.size; simp; omega) (fun q e => (World.ownsRow.lt HOW.out q e).1)
                        go_roundw
                        case rel => exact ⟨k + 1, by omega, by go_num, by rw [any_take_snoc _ HMM.out, HNO.out]; simp [srcHangul, HKD.out], by rw [tagged_snoc HMM.out, if_neg (by simp [plainTag, ht])]; simpa [OwnI] using hown', hB4⟩
                        case measure => simp [intOf]; omega
                      · have hte : m.tag.toList = [] := by simpa using ht
                        go_wp2_with (go_at_call 28; refine (kind_any _ _).mono ?_; rintro e w' ⟨rfl, rfl⟩)
                        go_roundw
                        case rel => exact ⟨k + 1, by omega, by go_num, by rw [any_take_snoc _ HMM.out, HNO.out]; simp [srcHangul, HKD.out], by rw [tagged_snoc HMM.out, if_pos (by simp [plainTag, ht]), List.append_nil]; exact World.ownsRow.alloc HOW.out _, hB.alloc hB.size _⟩
                        case measure => simp [intOf]; omega
                    · have hkd' : (kind m.src != 0) = true := by simp [hkd]
                      have hres : decMid n = 11 := by
                        unfold decMid
                        rw [HADJ.out, if_neg (by decide), HKB.out, if_neg (by decide), if_pos (List.any_eq_true.2 ⟨m, mem_of_getElem?_some HMM.out, by simp [srcHangul, hkd]⟩)]
                      have HRES := Lib.hid (HMID.out.trans hres)
                      clear hres
                      go_wp2_with (go_at_call 28; refine (kind_any _ _).mono ?_; rintro e w' ⟨rfl, rfl⟩)
                      go_ret
                      exact ⟨ret_int HRES.out.symm, Kept.alloc (Kept.trans hw3 hB) _⟩
                  · have hfull : n.decomp.take k = n.decomp := List.take_of_length_le (by have := HN.out.dec.1; omega)
                    have hsh : n.decomp.any srcHangul = false := by have := HNO.out; rwa [hfull] at this
                    have hown := HOW.out
                    rw [hfull] at hown
                    obtain ⟨At, ct, hu8, hlet, hIt⟩ := OwnI.sl hown
                    have htl : (taggedOf n.decomp).length ≤ 1000 := by
                      have h1 := tagged_length n.decomp
                      have h2 := HN.out.dec.1
                      omega
                    have HSH := Lib.hid hsh
                    have HIT := Lib.hid hIt
                    clear hsh hown hIt hfull HNO HOW
                    subst hu8
                    have x0 := Kept.cell hB HX0.out
                    have x1 := Kept.cell hB HX1.out
                    have x2 := Kept.cell hB HX2.out
                    have hkw := Kept.trans hw3 hB
                    have hcc := HN.out.hc
                    go_wp2_with fail
                    refine (ordRuns _ _ _ _ _ _ _ (taggedOf n.decomp) n.classes (by omega) (by omega) hcc HIT.out (HN.out.cls.kept hkw) (HG.out.kept hkw)).mono ?_
                    rintro e w4 ⟨A4, n4, c4, rfl, hle4, hR4, hk4⟩
                    have HR4 := Lib.hid hR4.1
                    have hn4 : n4 ≤ 1000 := by
                      rw [hR4.1]
                      exact Nat.le_trans (runsOf_length _ _) htl
                    have hkw4 := Kept.trans hkw hk4
                    have y0 := hk4.cell x0
                    have y1 := hk4.cell x1
                    have y2 := hk4.cell x2
                    clear hR4 x0 x1 x2
                    by_cases hz : n4 = 0
                    · subst hz
                      have hmid : decMid n = decTail n := by
                        unfold decMid
                        rw [HADJ.out, if_neg (by decide), HKB.out, if_neg (by decide), HSH.out, if_neg (by decide), if_neg (by rw [← HR4.out]; simp)]
                      have HTL := Lib.hid (HMID.out.trans hmid)
                      have hsorted : MpSorted n.decomp := mpSorted_of (mapCheck_zero H1.out).2 HADJ.out
                      have HC := Lib.hid (measure_any s n w4 (HN.out.kept hkw4) hsorted _ _ (measOf_eq n.decomp HSH.out))
                      clear hmid hsorted
                      go_wp2_with fail
                      refine HC.out.mono ?_
                      rintro e w5 ⟨rfl, hk5⟩
                      have hkw5 := Kept.trans hkw4 hk5
                      clear y0 y1 y2
                      cases hcy : (measOf n.decomp).cyc
                      · cases hlo : (measOf n.decomp).long
                        · go_wp2_with fail
                          go_ret
                          exact ⟨ret_int (by rw [HTL.out]; unfold decTail; rw [hcy, hlo]; rfl), hkw5⟩
                        · go_wp2_with fail
                          go_ret
                          exact ⟨ret_int (by rw [HTL.out]; unfold decTail; rw [hcy, hlo]; rfl), hkw5⟩
                      · go_wp2_with fail
                        go_ret
                        exact ⟨ret_int (by rw [HTL.out]; unfold decTail; rw [hcy]; rfl), hkw5⟩
                    · have hres : decMid n = 11 := by
                        unfold decMid
                        rw [HADJ.out, if_neg (by decide), HKB.out, if_neg (by decide), HSH.out, if_neg (by decide), if_pos (by rw [← HR4.out]; exact hz)]
                      have HRES := Lib.hid (HMID.out.trans hres)
                      have hz' : 0 < n4 := by omega
                      clear hres hz y0 y1 y2
                      go_wp2_with fail
                      go_ret
                      exact ⟨ret_int HRES.out.symm, hkw4⟩
      · rw [decide_eq_false h2]
        have HRES := Lib.hid (decCheck_excl H0.out H1.out h2)
        clear h2
        go_wp2_with fail
        go_ret
        exact ⟨ret_int HRES.out.symm, hw3⟩
    · have hb1 : (mapCheck n.decomp != 0) = true := by simp [h1]
      have HRES := Lib.hid (decCheck_map H0.out h1)
      clear h1
      go_enter Tryz.func12, Tryz.ntmps12
      go_wp2_with fail
      refine (ordering_check _ _ _ n.classes _ (by omega) (HN.out.cls.kept (Kept.alloc (Kept.refl _) _)) (HG.out.kept (Kept.alloc (Kept.refl _) _))).mono ?_
      rintro e w1 ⟨rfl, hk1⟩
      have hbx := box_cell w #[Value.slice s.Ac s.nc s.cc, Value.slice s.Am s.nm s.cm, Value.slice s.Ae s.ne s.ce] 28
      have hw1 := Kept.trans (Kept.alloc (Kept.refl w) (Obj.cells #[Value.slice s.Ac s.nc s.cc, Value.slice s.Am s.nm s.cm, Value.slice s.Ae s.ne s.ce] 28)) hk1
      have x1 := hk1.cell (hbx 1)
      clear hbx
      go_wp2_with fail
      clear x1
      refine (mapping_check _ _ _ n.decomp _ (by omega) (HN.out.dec.kept hw1) (fun m hm => Nat.le_trans (HN.out.to m hm) (by omega))).mono ?_
      rintro e w2 ⟨rfl, hk2⟩
      go_wp2_with fail
      go_ret
      exact ⟨ret_int HRES.out.symm, Kept.trans hw1 hk2⟩
  · have hb0 : (ordCheck n.classes != 0) = true := by simp [h0]
    have HRES := Lib.hid (decCheck_ord h0)
    clear h0
    go_enter Tryz.func12, Tryz.ntmps12
    go_wp2_with fail
    refine (ordering_check _ _ _ n.classes _ (by omega) (HN.out.cls.kept (Kept.alloc (Kept.refl _) _)) (HG.out.kept (Kept.alloc (Kept.refl _) _))).mono ?_
    rintro e w1 ⟨rfl, hk1⟩
    go_wp2_with fail
    go_ret
    exact ⟨ret_int HRES.out.symm, Kept.trans (Kept.alloc (Kept.refl _) _) hk1⟩
end Go.Proofs.YtobcaploncgnbaaGreatDoor
