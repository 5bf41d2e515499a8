/- References: Check and Data of layer 21. The reference's Data of layer 21. -/
import Derived.Test.YtmlcdohldkgcdaaGreatDoorKRfj
import Derived.Test.YtmlcdohldkgcdaaGreatDoorKRfb
import Derived.Test.YtmlcdohldkgcdaaGreatDoorKPl
import Derived.Test.YtmlcdohldkgcdaaGreatDoorKSq
import Derived.Test.YtmlcdohldkgcdaaGreatDoorKExpC
namespace Go.Proofs.YtmlcdohldkgcdaaGreatDoor
open Go Go.RowKit
theorem quiet_rkind (c : Int) (w : World) (n : Nat) : Calls Tryz.prog 204 #[.int .i64 c] (w.drewN n) fun e w'' => e = .returned (.int .i64 (kind c)) ∧ ∃ m, w'' = w.drewN m :=
  (rkind_any c (w.drewN n)).mono fun _ _ ⟨he, hw⟩ => ⟨he, n, hw.symm⟩
theorem refCheck_ord {n : Nrm} (h : ordCheck n.classes ≠ 0) : refCheck n = ordCheck n.classes := if_pos h
theorem refCheck_map {n : Nrm} (h0 : ordCheck n.classes = 0) (h : refMapCheck n.decomp ≠ 0) : refCheck n = refMapCheck n.decomp := by
  unfold refCheck; rw [if_neg (by simp [h0]), if_pos h]
theorem refCheck_excl {n : Nrm} (h0 : ordCheck n.classes = 0) (h1 : refMapCheck n.decomp = 0) (h : ¬ n.excl = refMake n.excl) : refCheck n = 11 := by
  unfold refCheck; rw [if_neg (by simp [h0]), if_neg (by simp [h1]), if_neg h]
theorem refCheck_mid {n : Nrm} (h0 : ordCheck n.classes = 0) (h1 : refMapCheck n.decomp = 0) (h : n.excl = refMake n.excl) : refCheck n = refMid n := by
  unfold refCheck; rw [if_neg (by simp [h0]), if_neg (by simp [h1]), if_pos h]
theorem foundEarlier_at {l : List Mp} {k : Nat} {m : Mp} (h : l[k]? = some m) : foundEarlier l k = decide (fI (findM l m.src true) < (k : Int)) := by
  unfold foundEarlier; rw [h]
theorem all_id_take {l : List Bool} {k : Nat} {b : Bool} (h : l[k]? = some b) : (l.take (k + 1)).all id = ((l.take k).all id && b) := by
  rw [take_succ_some h, List.all_append]; simp
theorem bool_at {w : World} {A : Option Addr} {n : Nat} {xs : List Bool} (h : Bools w A n xs) {i : Nat} (hi : i < n) :
    ∃ b off x, A = some ⟨b, off, none⟩ ∧ xs[i]? = some x ∧ w.cell? ⟨b, off + i, none⟩ = some (.bool x) := by
  obtain ⟨b, off, e, hc⟩ := h.2 (by omega)
  obtain ⟨x, hx⟩ := getElem?_some_of_lt (l := xs) (k := i) (by rw [← h.1]; exact hi)
  exact ⟨b, off, x, e, hx, by simpa using hc i x hx 0 _ rfl⟩
theorem mem_all_false {l : List Bool} {k : Nat} (h : l[k]? = some false) : l.all id = false := by
  rw [List.all_eq_false]
  exact ⟨false, mem_of_getElem?_some h, by simp⟩
set_option maxRecDepth 100000 in
set_option maxHeartbeats 4000000 in
theorem r21check (s : Sls) (n : Nrm) (w : World) (hN : NormAt w s n) (htag : ∀ m ∈ n.decomp, m.tag.size ≤ 1000) : Calls Tryz.prog 179 #[s.val] w (RetI w (refCheck n)) := by
  unfold Sls.val
  have HN := Lib.hid hN
  have HTAG := Lib.hid htag
  have hbm := hN.bm
  have hbc := hN.bc
  have hbe := hN.be
  clear hN htag
  by_cases h0 : ordCheck n.classes = 0
  · have hb0 : (ordCheck n.classes != 0) = false := by simp [h0]
    have H0 := Lib.hid h0
    clear h0
    by_cases h1 : refMapCheck n.decomp = 0
    · have hb1 : (refMapCheck n.decomp != 0) = false := by simp [h1]
      have H1 := Lib.hid h1
      clear h1
      go_enter Tryz.func179, Tryz.ntmps179
      go_wp2_with fail
      refine (r20Check _ _ _ n.classes _ (by omega) (HN.out.cls.kept (Kept.alloc (Kept.refl _) _))).mono ?_
      rintro e w1 ⟨rfl, hk1⟩
      have hbx := box_cell w #[Value.slice s.Ac s.nc s.cc, Value.slice s.Am s.nm s.cm, Value.slice s.Ae s.ne s.ce] 28
      have hw1 := Kept.trans (Kept.alloc (Kept.refl w) (Obj.cells #[Value.slice s.Ac s.nc s.cc, Value.slice s.Am s.nm s.cm, Value.slice s.Ae s.ne s.ce] 28)) hk1
      have x0 := hk1.cell (hbx 0)
      have x1 := hk1.cell (hbx 1)
      have x2 := hk1.cell (hbx 2)
      clear hbx
      obtain ⟨bx, hbx⟩ : ∃ bx : Nat, bx = w.heap.size := ⟨_, rfl⟩
      rw [← hbx] at x0 x1 x2 ⊢
      clear hbx
      have HX0 := Lib.hid x0
      have HX1 := Lib.hid x1
      have HX2 := Lib.hid x2
      go_wp2_with fail
      clear x0 x1 x2
      refine (r11Check _ _ _ n.decomp _ (by omega) (HN.out.dec.kept hw1) HN.out.to HTAG.out).mono ?_
      rintro e w2 ⟨rfl, hk2⟩
      have x2 := hk2.cell HX2.out
      go_wp2_with fail
      clear x2
      refine (r02Valid _ _ _ n.excl _ (by omega) (HN.out.exc.kept (Kept.trans hw1 hk2)) (by have h1 := refMake_length n.excl; have h2 := HN.out.exc.1; omega)).mono ?_
      rintro e w3 ⟨rfl, hk3⟩
      have hw3 := Kept.trans hw1 (Kept.trans hk2 hk3)
      by_cases h2 : n.excl = refMake n.excl
      · rw [decide_eq_true h2]
        have HMID := Lib.hid (refCheck_mid H0.out H1.out h2)
        have x0 := Kept.cell (Kept.trans hk2 hk3) HX0.out
        have x1 := Kept.cell (Kept.trans hk2 hk3) HX1.out
        have HX0 := Lib.hid x0
        have HD3 := Lib.hid (HN.out.dec.kept hw3)
        have HLN := Lib.hid HN.out.dec.1
        clear h2 x0
        go_wp2_with fail
        clear x1
        go_loop [6] (fun i => ∃ k : Nat, k ≤ s.nm ∧ i = .int .i64 k ∧ rangeAny (foundEarlier n.decomp) k = false) (fun i => s.nm - (intOf i).toNat)
        case atStart => exact ⟨0, Nat.zero_le _, rfl, rfl⟩
        case round =>
          obtain ⟨k, hk, rfl, hno⟩ := hrel
          have HNO := Lib.hid hno
          clear hno
          by_cases hlt : k < s.nm
          · obtain ⟨b, off, m, A', n', c', hA, hm, hle, hI, c0, c1, c2⟩ := mp_at HD3.out hlt
            have HF := Lib.hid (r21find s.Am s.nm s.cm n.decomp m.src true w3 (by omega) HD3.out)
            have HFE := Lib.hid (foundEarlier_at hm)
            rw [hA] at HF ⊢
            clear hm hI
            obtain ⟨x, hx⟩ : ∃ x : Int, x = fI (findM n.decomp m.src true) := ⟨_, rfl⟩
            rw [← hx] at HF HFE
            clear hx
            by_cases hf : x < (k : Int)
            · have hres : refMid n = 5 := by
                unfold refMid
                rw [if_pos (rangeAny_of (k := k) (by rw [HFE.out]; exact decide_eq_true hf) (by have := HLN.out; omega))]
              have HRES := Lib.hid (HMID.out.trans hres)
              clear hres
              go_wp2_with (go_at_call 203; refine HF.out.mono ?_; rintro e w' ⟨rfl, rfl⟩)
              go_ret
              exact ⟨ret_int HRES.out.symm, hw3⟩
            · go_wp2_with (go_at_call 203; refine HF.out.mono ?_; rintro e w' ⟨rfl, rfl⟩)
              go_round
              case rel => exact ⟨k + 1, by omega, by go_num, by rw [rangeAny_succ, HNO.out, HFE.out]; simpa using hf⟩
              case measure => simp [intOf]; omega
          · have hfe : rangeAny (foundEarlier n.decomp) n.decomp.length = false := by
              have := HNO.out
              have e : k = n.decomp.length := by have := HLN.out; omega
              rw [e] at this; exact this
            have HFE := Lib.hid hfe
            clear hfe HNO
            go_wp2_with fail
            go_loop [7] (fun i => ∃ k : Nat, k ≤ s.nm ∧ i = .int .i64 k ∧ (n.decomp.take k).any kindBad = false) (fun i => s.nm - (intOf i).toNat)
            case atStart => exact ⟨0, Nat.zero_le _, rfl, by simp⟩
            case round =>
              obtain ⟨k, hk, rfl, hno⟩ := hrel
              have HNO := Lib.hid hno
              clear hno
              by_cases hlt : k < s.nm
              · obtain ⟨b, off, m, A', n', c', hA, hm, hle, hI, c0, c1, c2⟩ := mp_at HD3.out hlt
                have hml : n' ≤ 1000 := by rw [hI.1]; exact HN.out.to m (mem_of_getElem?_some hm)
                have HL := Lib.hid hI.1
                have HMM := Lib.hid hm
                rw [hA]
                clear hm hI
                cases ht : m.tag.toList.isEmpty
                · have hte : ¬ m.tag.toList = [] := by simpa using ht
                  go_wp2_with fail
                  go_round
                  case rel => exact ⟨k + 1, by omega, by go_num, by rw [any_take_snoc _ HMM.out, HNO.out]; simp [kindBad, plainTag, ht]⟩
                  case measure => simp [intOf]; omega
                · have hte : m.tag.toList = [] := by simpa using ht
                  by_cases hl1 : n' = 1
                  · subst hl1
                    go_wp2_with fail
                    go_round
                    case rel => exact ⟨k + 1, by omega, by go_num, by rw [any_take_snoc _ HMM.out, HNO.out]; simp [kindBad, ← HL.out]⟩
                    case measure => simp [intOf]; omega
                  · have hl1' : ((n' : Int) != 1) = true := by rw [bne_iff_ne]; omega
                    by_cases hl2 : n' = 2
                    · subst hl2
                      go_wp2_with fail
                      go_round
                      case rel => exact ⟨k + 1, by omega, by go_num, by rw [any_take_snoc _ HMM.out, HNO.out]; simp [kindBad, ← HL.out]⟩
                      case measure => simp [intOf]; omega
                    · have hl2' : ((n' : Int) != 2) = true := by rw [bne_iff_ne]; omega
                      have hres : refMid n = 8 := by
                        unfold refMid
                        rw [HFE.out, if_neg (by decide), if_pos (List.any_eq_true.2 ⟨m, mem_of_getElem?_some HMM.out, by simp [kindBad, plainTag, ht, ← HL.out, hl1, hl2]⟩)]
                      have HRES := Lib.hid (HMID.out.trans hres)
                      clear hres
                      go_wp2_with fail
                      go_ret
                      exact ⟨ret_int HRES.out.symm, hw3⟩
              · have hkb : n.decomp.any kindBad = false := by
                  have := HNO.out
                  rwa [List.take_of_length_le (by have := HLN.out; omega)] at this
                have HKB := Lib.hid hkb
                clear hkb HNO
                go_wp2_with fail
                go_loopw [8] (fun i wr => ∃ k : Nat, k ≤ s.nm ∧ i = .int .i64 k ∧ (n.decomp.take k).any (srcBad n) = false ∧ Below w3.heap.size w3 wr) (fun i _ => s.nm - (intOf i).toNat)
                case atStart => exact ⟨0, Nat.zero_le _, rfl, by simp, Below.refl _ _⟩
                case round =>
                  obtain ⟨k, hk, rfl, hno, hB⟩ := hrel
                  have HNO := Lib.hid hno
                  have HB := Lib.hid hB
                  clear hno
                  by_cases hlt : k < s.nm
                  · obtain ⟨b, off, m, A', n', c', hA, hm, hle, hI, c0, c1, c2⟩ := mp_at (HD3.out.kept hB) hlt
                    have HMM := Lib.hid hm
                    rw [hA]
                    clear hm hI
                    have hwp : IntKind.i64.wrap (k : Int) = (k : Int) := IntWalk.i64_in _ (by omega)
                    have hwp4 : (k : Int) < (s.nm : Int) := by omega
                    by_cases hkd : kind m.src = 0
                    · have hkd' : (kind m.src != 0) = false := by simp [hkd]
                      have HKD := Lib.hid hkd
                      clear hkd
                      cases ht : m.tag.toList.isEmpty
                      · have hte : ¬ m.tag.toList = [] := by simpa using ht
                        have x0 := Kept.cell hB HX0.out
                        have HCL := Lib.hid (fun w' (hk : Kept wr w') => r20Class s.Ac s.nc s.cc n.classes m.src w' (by omega) (HN.out.cls.kept (Kept.trans (Kept.trans hw3 hB) hk)))
                        have HC0 := Lib.hid c0
                        have HC2 := Lib.hid c2
                        have HX := Lib.hid x0
                        by_cases hcl : classOf (usableSpans n.classes) m.src = 0
                        · have hcl' : (classOf (usableSpans n.classes) m.src != 0) = false := by simp [hcl]
                          have HCZ := Lib.hid hcl
                          clear hcl
                          go_wp2_with fail
                          go_region_held3 (fun w' => w'.cell? ⟨bx, 0, none⟩ = some (.slice s.Ac s.nc s.cc) ∧ w'.cell? ⟨b, off + k * 3, none⟩ = some (.int .i64 m.src) ∧ w'.cell? ⟨b, off + k * 3 + 2, none⟩ = some (.string m.tag)) (first | exact ⟨q0, q1, q2⟩ | exact ⟨HX.out, HC0.out, HC2.out⟩)
                            (first
                              | (go_at_call 139; refine (HCL.out _ (Kept.drew (Kept.refl _))).mono ?_; rintro e w4 ⟨rfl, hk4⟩; have q0 := Kept.cell hk4 HX.out; have q1 := Kept.cell hk4 HC0.out; have q2 := Kept.cell hk4 HC2.out)
                              | (go_at_call 204; refine (rkind_any _ _).mono ?_; rintro e w' ⟨rfl, rfl⟩))
                          clear hwp hwp4
                          go_wp2_with fail
                          go_roundw
                          case rel => exact ⟨k + 1, by omega, by go_num, by rw [any_take_snoc _ HMM.out, HNO.out]; simp [srcBad, HKD.out, HCZ.out], Kept.trans HB.out (Kept.trans (Kept.drew (Kept.refl _)) hk4)⟩
                          case measure => simp [intOf]; omega
                        · have hcl' : (classOf (usableSpans n.classes) m.src != 0) = true := by simp [hcl]
                          have hres : refMid n = 11 := by
                            unfold refMid
                            rw [HFE.out, if_neg (by decide), HKB.out, if_neg (by decide), if_pos (List.any_eq_true.2 ⟨m, mem_of_getElem?_some HMM.out, by simp [srcBad, plainTag, ht, hcl]⟩)]
                          have HRES := Lib.hid (HMID.out.trans hres)
                          clear hres hcl
                          go_wp2_with fail
                          go_region_held3 (fun w' => w'.cell? ⟨bx, 0, none⟩ = some (.slice s.Ac s.nc s.cc) ∧ w'.cell? ⟨b, off + k * 3, none⟩ = some (.int .i64 m.src) ∧ w'.cell? ⟨b, off + k * 3 + 2, none⟩ = some (.string m.tag)) (first | exact ⟨q0, q1, q2⟩ | exact ⟨HX.out, HC0.out, HC2.out⟩)
                            (first
                              | (go_at_call 139; refine (HCL.out _ (Kept.drew (Kept.refl _))).mono ?_; rintro e w4 ⟨rfl, hk4⟩; have q0 := Kept.cell hk4 HX.out; have q1 := Kept.cell hk4 HC0.out; have q2 := Kept.cell hk4 HC2.out)
                              | (go_at_call 204; refine (rkind_any _ _).mono ?_; rintro e w' ⟨rfl, rfl⟩))
                          clear hwp hwp4
                          go_wp2_with fail
                          go_ret
                          exact ⟨ret_int HRES.out.symm, Kept.trans hw3 (Kept.trans HB.out (Kept.trans (Kept.drew (Kept.refl _)) hk4))⟩
                      · have hte : m.tag.toList = [] := by simpa using ht
                        go_wp2_with fail
                        go_quiet ((go_at_call 204; exact quiet_rkind _ _ _))
                        clear hwp hwp4
                        go_wp2_with fail
                        go_roundw
                        case rel => exact ⟨k + 1, by omega, by go_num, by rw [any_take_snoc _ HMM.out, HNO.out]; simp [srcBad, HKD.out, plainTag, ht], Kept.drewN HB.out _⟩
                        case measure => simp [intOf]; omega
                    · have hkd' : (kind m.src != 0) = true := by simp [hkd]
                      have hres : refMid n = 11 := by
                        unfold refMid
                        rw [HFE.out, if_neg (by decide), HKB.out, if_neg (by decide), if_pos (List.any_eq_true.2 ⟨m, mem_of_getElem?_some HMM.out, by simp [srcBad, hkd]⟩)]
                      have HRES := Lib.hid (HMID.out.trans hres)
                      clear hres
                      go_wp2_with fail
                      go_quiet ((go_at_call 204; exact quiet_rkind _ _ _))
                      clear hwp hwp4
                      go_wp2_with fail
                      go_ret
                      exact ⟨ret_int HRES.out.symm, Kept.drewN (Kept.trans hw3 HB.out) _⟩
                  · have hsb : n.decomp.any (srcBad n) = false := by
                      have := HNO.out
                      rwa [List.take_of_length_le (by have := HLN.out; omega)] at this
                    have hmid : refMid n = refTail n.decomp := by
                      unfold refMid
                      rw [HFE.out, if_neg (by decide), HKB.out, if_neg (by decide), hsb, if_neg (by decide)]
                    have HTL := Lib.hid (HMID.out.trans hmid)
                    have HEN := Lib.hid (r21ends s.Am s.nm s.cm n.decomp wr (by omega) (HD3.out.kept hB) HN.out.to)
                    clear hsb hmid HNO
                    go_wp2_with fail
                    refine HEN.out.mono ?_
                    rintro e w4 ⟨A4, n4, c4, rfl, hle4, hS4, hk4⟩
                    have HE4 := Lib.hid hS4
                    have hn4 : n4 = s.nm := by rw [hS4.1, refEnds_length]; exact HLN.out.symm
                    subst hn4
                    have hkw4 : Kept w w4 := Kept.trans (Kept.trans hw3 hB) hk4
                    clear hS4
                    go_wp2_with fail
                    go_loop [10] (fun i => ∃ k : Nat, k ≤ s.nm ∧ i = .int .i64 k ∧ ((refEnds n.decomp).take k).all id = true) (fun i => s.nm - (intOf i).toNat)
                    case atStart => exact ⟨0, Nat.zero_le _, rfl, by simp⟩
                    case round =>
                      obtain ⟨k, hk, rfl, hno⟩ := hrel
                      have HNO := Lib.hid hno
                      clear hno
                      by_cases hlt : k < s.nm
                      · obtain ⟨b, off, x, hA, hx, cx⟩ := bool_at HE4.out hlt
                        have HXX := Lib.hid hx
                        rw [hA]
                        clear hx
                        cases x
                        · have hres : refTail n.decomp = 12 := by
                            unfold refTail
                            rw [mem_all_false HXX.out]; rfl
                          have HRES := Lib.hid (HTL.out.trans hres)
                          clear hres
                          go_wp2_with fail
                          go_ret
                          exact ⟨ret_int HRES.out.symm, hkw4⟩
                        · go_wp2_with fail
                          go_round
                          case rel => exact ⟨k + 1, by omega, by go_num, by rw [all_id_take HXX.out, HNO.out]; rfl⟩
                          case measure => simp [intOf]; omega
                      · have hall : (refEnds n.decomp).all id = true := by
                          have := HNO.out
                          rwa [List.take_of_length_le (by rw [refEnds_length]; have := HLN.out; omega)] at this
                        have htl : refTail n.decomp = if rangeAny (longAt n.decomp) n.decomp.length then 13 else 0 := by
                          unfold refTail
                          rw [hall]; rfl
                        have HTL2 := Lib.hid (HTL.out.trans htl)
                        have HL1 := Lib.hid (r21lengths s.Am s.nm s.cm false n.decomp w4 (by omega) (HN.out.dec.kept hkw4) HN.out.to)
                        clear hall htl HNO
                        go_wp2_with fail
                        refine HL1.out.mono ?_
                        rintro e w5 ⟨A5, n5, c5, rfl, hle5, hI5, hk5⟩
                        have HL2 := Lib.hid (r21lengths s.Am s.nm s.cm true n.decomp w5 (by omega) (HN.out.dec.kept (Kept.trans hkw4 hk5)) HN.out.to)
                        have HI5 := Lib.hid hI5
                        clear hI5
                        go_wp2_with fail
                        refine HL2.out.mono ?_
                        rintro e w6 ⟨A6, n6, c6, rfl, hle6, hI6, hk6⟩
                        have HI6 := Lib.hid hI6
                        have HI56 := Lib.hid (HI5.out.kept hk6)
                        have hkw6 : Kept w w6 := Kept.trans (Kept.trans hkw4 hk5) hk6
                        have hn5 : n5 = s.nm := by rw [HI5.out.1, refLengths_length]; exact HLN.out.symm
                        have hn6 : n6 = s.nm := by rw [hI6.1, refLengths_length]; exact HLN.out.symm
                        subst hn5
                        subst hn6
                        clear hI6
                        go_wp2_with fail
                        go_loop [13] (fun i => ∃ k : Nat, k ≤ s.nm ∧ i = .int .i64 k ∧ rangeAny (longAt n.decomp) k = false) (fun i => s.nm - (intOf i).toNat)
                        case atStart => exact ⟨0, Nat.zero_le _, rfl, rfl⟩
                        case round =>
                          obtain ⟨k, hk, rfl, hno⟩ := hrel
                          have HNO := Lib.hid hno
                          clear hno
                          by_cases hlt : k < s.nm
                          · obtain ⟨b5, off5, y5, hA5, hy5, cy5⟩ := int_at HI56.out hlt
                            obtain ⟨b6, off6, y6, hA6, hy6, cy6⟩ := int_at HI6.out hlt
                            have HLA := Lib.hid (show longAt n.decomp k = (decide (64 < y5) || decide (64 < y6)) by unfold longAt; rw [hy5, hy6]; rfl)
                            rw [hA5, hA6]
                            clear hy5 hy6
                            by_cases h5 : 64 < y5
                            · have hres : rangeAny (longAt n.decomp) n.decomp.length = true := rangeAny_of (k := k) (by rw [HLA.out]; simp [h5]) (by have := HLN.out; omega)
                              have HRES := Lib.hid (HTL2.out.trans (if_pos hres))
                              clear hres
                              go_wp2_with fail
                              go_ret
                              exact ⟨ret_int HRES.out.symm, hkw6⟩
                            · by_cases h6 : 64 < y6
                              · have hres : rangeAny (longAt n.decomp) n.decomp.length = true := rangeAny_of (k := k) (by rw [HLA.out]; simp [h6]) (by have := HLN.out; omega)
                                have HRES := Lib.hid (HTL2.out.trans (if_pos hres))
                                clear hres
                                go_wp2_with fail
                                go_ret
                                exact ⟨ret_int HRES.out.symm, hkw6⟩
                              · go_wp2_with fail
                                go_round
                                case rel => exact ⟨k + 1, by omega, by go_num, by rw [rangeAny_succ, HNO.out, HLA.out, decide_eq_false (show ¬ 64 < y5 by omega), decide_eq_false (show ¬ 64 < y6 by omega)]; rfl⟩
                                case measure => simp [intOf]; omega
                          · have hla : rangeAny (longAt n.decomp) n.decomp.length = false := by
                              have := HNO.out
                              have e : k = n.decomp.length := by have := HLN.out; omega
                              rw [e] at this; exact this
                            have HRES := Lib.hid (HTL2.out.trans (show _ = (0 : Int) by rw [hla]; rfl))
                            clear hla
                            go_wp2_with fail
                            go_ret
                            exact ⟨ret_int HRES.out.symm, hkw6⟩
      · rw [decide_eq_false h2]
        have HRES := Lib.hid (refCheck_excl H0.out H1.out h2)
        clear h2
        go_wp2_with fail
        go_ret
        exact ⟨ret_int HRES.out.symm, hw3⟩
    · have hb1 : (refMapCheck n.decomp != 0) = true := by simp [h1]
      have HRES := Lib.hid (refCheck_map H0.out h1)
      clear h1
      go_enter Tryz.func179, Tryz.ntmps179
      go_wp2_with fail
      refine (r20Check _ _ _ n.classes _ (by omega) (HN.out.cls.kept (Kept.alloc (Kept.refl _) _))).mono ?_
      rintro e w1 ⟨rfl, hk1⟩
      have hbx := box_cell w #[Value.slice s.Ac s.nc s.cc, Value.slice s.Am s.nm s.cm, Value.slice s.Ae s.ne s.ce] 28
      have hw1 := Kept.trans (Kept.alloc (Kept.refl w) (Obj.cells #[Value.slice s.Ac s.nc s.cc, Value.slice s.Am s.nm s.cm, Value.slice s.Ae s.ne s.ce] 28)) hk1
      have x1 := hk1.cell (hbx 1)
      clear hbx
      go_wp2_with fail
      clear x1
      refine (r11Check _ _ _ n.decomp _ (by omega) (HN.out.dec.kept hw1) HN.out.to HTAG.out).mono ?_
      rintro e w2 ⟨rfl, hk2⟩
      go_wp2_with fail
      go_ret
      exact ⟨ret_int HRES.out.symm, Kept.trans hw1 hk2⟩
  · have hb0 : (ordCheck n.classes != 0) = true := by simp [h0]
    have HRES := Lib.hid (refCheck_ord h0)
    clear h0
    go_enter Tryz.func179, Tryz.ntmps179
    go_wp2_with fail
    refine (r20Check _ _ _ n.classes _ (by omega) (HN.out.cls.kept (Kept.alloc (Kept.refl _) _))).mono ?_
    rintro e w1 ⟨rfl, hk1⟩
    go_wp2_with fail
    go_ret
    exact ⟨ret_int HRES.out.symm, Kept.trans (Kept.alloc (Kept.refl _) _) hk1⟩
end Go.Proofs.YtmlcdohldkgcdaaGreatDoor
namespace Go.Proofs.YtmlcdohldkgcdaaGreatDoor
open Go Go.RowKit
set_option maxRecDepth 100000 in
set_option maxHeartbeats 1000000 in
theorem r21data (s : Sls) (n : Nrm) (w : World) (hN : NormAt w s n) (htag : ∀ m ∈ n.decomp, m.tag.size ≤ 1000) : Calls Tryz.prog 135 #[s.val] w fun e w' => e = .returned (usableS s n).val ∧ Kept w w' := by
  have HN := Lib.hid hN
  have hk1 := Kept.alloc (Kept.refl w) (Obj.cells #[Value.slice s.Ac s.nc s.cc, Value.slice s.Am s.nm s.cm, Value.slice s.Ae s.ne s.ce] 28)
  have hk2 := Kept.alloc hk1 (Obj.cells #[Value.slice none 0 0, Value.slice none 0 0, Value.slice none 0 0] 28)
  have HC := Lib.hid (r21check s n _ (hN.kept hk2) htag)
  rw [refCheck_eq] at HC
  have HK2 := Lib.hid hk2
  have hx := alloc_lift (o := Obj.cells #[Value.slice none 0 0, Value.slice none 0 0, Value.slice none 0 0] 28) (box_block w (Obj.cells #[Value.slice s.Ac s.nc s.cc, Value.slice s.Am s.nm s.cm, Value.slice s.Ae s.ne s.ce] 28))
  have hy := box_block (w.alloc (Obj.cells #[Value.slice s.Ac s.nc s.cc, Value.slice s.Am s.nm s.cm, Value.slice s.Ae s.ne s.ce] 28)) (Obj.cells #[Value.slice none 0 0, Value.slice none 0 0, Value.slice none 0 0] 28)
  rw [show (w.alloc (Obj.cells #[Value.slice s.Ac s.nc s.cc, Value.slice s.Am s.nm s.cm, Value.slice s.Ae s.ne s.ce] 28)).heap.size = w.heap.size + 1 by simp] at hy
  have HX := Lib.hid hx
  have HY := Lib.hid hy
  clear hN htag hk1 hk2 hx hy
  by_cases h0 : decCheck n = 0
  · have hb0 : (decCheck n != 0) = false := by simp [h0]
    have HU := Lib.hid (show usableS s n = s from if_pos h0)
    clear h0
    unfold Sls.val
    go_enter Tryz.func135, Tryz.ntmps135
    go_wp2_with fail
    refine HC.out.mono ?_
    rintro e w1 ⟨rfl, hk3⟩
    have e1 := (hk3.block _ (block_lt HX.out)).trans HX.out
    have e2 := (hk3.block _ (block_lt HY.out)).trans HY.out
    have a0 := cell_of_block (i := 0) e1 rfl
    have a1 := cell_of_block (i := 1) e1 rfl
    have a2 := cell_of_block (i := 2) e1 rfl
    have b0 := cell_of_block (i := 0) e2 rfl
    have b1 := cell_of_block (i := 1) e2 rfl
    have b2 := cell_of_block (i := 2) e2 rfl
    have f0 := frozen_of_block (i := 0) e2
    have f1 := frozen_of_block (i := 1) e2
    have f2 := frozen_of_block (i := 2) e2
    have HE2 := Lib.hid e2
    simp only [s4_, s5_, s6_] at a0 a1 a2 b0 b1 b2
    clear e1 e2
    obtain ⟨bb, hbb⟩ : ∃ bb : Nat, bb = w.heap.size := ⟨_, rfl⟩
    have HBB := Lib.hid hbb
    rw [← hbb] at a0 a1 a2 b0 b1 b2 f0 f1 f2 HE2 ⊢
    clear hbb
    go_wp2_with fail
    have hc := cells3_set (v0 := .slice s.Ac s.nc s.cc) (v1 := .slice s.Am s.nm s.cm) (v2 := .slice s.Ae s.ne s.ce) HE2.out
    have g0 := cell_of_block (i := 0) hc rfl
    have g1 := cell_of_block (i := 1) hc rfl
    have g2 := cell_of_block (i := 2) hc rfl
    simp only [s4_, s5_, s6_] at g0 g1 g2
    clear a0 a1 a2 b0 b1 b2 f0 f1 f2
    refine bodyPost_ret (v := s.val) (by simp [results, Tryz.results135, go_sem, g0, g1, g2, Sls.val]) rfl ?_
    have hk4 := Kept.trans HK2.out hk3
    have hk5 : Kept w _ := Kept.setCell (Kept.setCell (Kept.setCell hk4 (p := ⟨bb + 1, 0, none⟩) (by rw [HBB.out]; exact Nat.le_succ _) (.slice s.Ac s.nc s.cc)) (p := ⟨bb + 1, 1, none⟩) (by rw [HBB.out]; exact Nat.le_succ _) (.slice s.Am s.nm s.cm)) (p := ⟨bb + 1, 2, none⟩) (by rw [HBB.out]; exact Nat.le_succ _) (.slice s.Ae s.ne s.ce)
    exact ⟨by rw [HU.out]; rfl, hk5⟩
  · have hb0 : (decCheck n != 0) = true := by simp [h0]
    have HU := Lib.hid (show usableS s n = emptyS from if_neg h0)
    clear h0
    unfold Sls.val
    go_enter Tryz.func135, Tryz.ntmps135
    go_wp2_with fail
    refine HC.out.mono ?_
    rintro e w1 ⟨rfl, hk3⟩
    have e2 := (hk3.block _ (block_lt HY.out)).trans HY.out
    have b0 := cell_of_block (i := 0) e2 rfl
    have b1 := cell_of_block (i := 1) e2 rfl
    have b2 := cell_of_block (i := 2) e2 rfl
    have f0 := frozen_of_block (i := 0) e2
    have f1 := frozen_of_block (i := 1) e2
    have f2 := frozen_of_block (i := 2) e2
    have HE2 := Lib.hid e2
    simp only [s4_, s5_, s6_] at b0 b1 b2
    clear e2
    obtain ⟨bb, hbb⟩ : ∃ bb : Nat, bb = w.heap.size := ⟨_, rfl⟩
    have HBB := Lib.hid hbb
    rw [← hbb] at b0 b1 b2 f0 f1 f2 HE2 ⊢
    clear hbb
    go_wp2_with fail
    have hc := cells3_set (v0 := .slice none 0 0) (v1 := .slice none 0 0) (v2 := .slice none 0 0) HE2.out
    have g0 := cell_of_block (i := 0) hc rfl
    have g1 := cell_of_block (i := 1) hc rfl
    have g2 := cell_of_block (i := 2) hc rfl
    simp only [s4_, s5_, s6_] at g0 g1 g2
    clear b0 b1 b2 f0 f1 f2
    refine bodyPost_ret (v := emptyS.val) (by simp [results, Tryz.results135, go_sem, g0, g1, g2, Sls.val, emptyS]) rfl ?_
    have hk4 := Kept.trans HK2.out hk3
    have hk5 : Kept w _ := Kept.setCell (Kept.setCell (Kept.setCell hk4 (p := ⟨bb + 1, 0, none⟩) (by rw [HBB.out]; exact Nat.le_succ _) (.slice none 0 0)) (p := ⟨bb + 1, 1, none⟩) (by rw [HBB.out]; exact Nat.le_succ _) (.slice none 0 0)) (p := ⟨bb + 1, 2, none⟩) (by rw [HBB.out]; exact Nat.le_succ _) (.slice none 0 0)
    exact ⟨by rw [HU.out]; rfl, hk5⟩
end Go.Proofs.YtmlcdohldkgcdaaGreatDoor
