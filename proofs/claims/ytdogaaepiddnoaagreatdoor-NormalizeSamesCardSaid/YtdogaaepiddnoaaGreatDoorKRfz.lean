/- References: Text of layer 22. References: Form, Is, Same and First of layer 23. -/
import Derived.Test.YtdogaaepiddnoaaGreatDoorKRfy
import Derived.Test.YtdogaaepiddnoaaGreatDoorKCmc
import Derived.Test.YtdogaaepiddnoaaGreatDoorKRgx
import Derived.Test.YtdogaaepiddnoaaGreatDoorKNrm
import Derived.Test.YtdogaaepiddnoaaGreatDoorKRefP
namespace Go.Proofs.YtdogaaepiddnoaaGreatDoor
open Go Go.RowKit

theorem CSt.free {cls : Int → Int} {st : List Int × Option Nat} {bf : Int} (h : CSt cls st bf) : CSt cls st (cls (st.1.getLastD 0)) := fun k hk => ⟨(h k hk).1, fun h1 => ⟨rfl, ((h k hk).2 h1).2⟩⟩
theorem getLastD_at {l : List Int} {k : Nat} (h : l.length = k + 1) : l[k]? = some (l.getLastD 0) := by
  rw [List.getLastD_eq_getLast?, List.getLast?_eq_getElem?, h]
  obtain ⟨x, hx⟩ := getElem?_some_of_lt (l := l) (k := k) (by omega)
  simp [hx]

set_option maxRecDepth 100000 in
set_option maxHeartbeats 8000000 in
theorem r22text (s : Sls) (n : Nrm) (A : Option Addr) (nt ct : Nat) (text : List Int) (w : World) (hN : NormAt w s n) (htag : ∀ m ∈ n.decomp, m.tag.size ≤ 1000) (hnt : nt ≤ 1000000) (hT : Ints w A nt text) :
    Calls Tryz.prog 47 #[s.val, .slice A nt ct] w (RetInts w (compN n text)) := by
  have HN0 := Lib.hid hN
  have HT := Lib.hid hT
  have HTN := Lib.hid hT.1
  have hkb := Kept.alloc (Kept.refl w) (Obj.cells #[Value.slice s.Ac s.nc s.cc, Value.slice s.Am s.nm s.cm, Value.slice s.Ae s.ne s.ce] 28)
  have HU := Lib.hid (r22counted s n _ (hN.kept hkb) htag)
  have hbl := box_block w (Obj.cells #[Value.slice s.Ac s.nc s.cc, Value.slice s.Am s.nm s.cm, Value.slice s.Ae s.ne s.ce] 28)
  have HBL := Lib.hid hbl
  have HKB := Lib.hid hkb
  have HNU := Lib.hid (usableS_at hN)
  have HGOOD := Lib.hid (usableN_good n)
  generalize usableS s n = s1 at *
  clear hN htag hT hkb hbl
  unfold Sls.val at *
  go_enter Tryz.func47, Tryz.ntmps47
  go_wp2_with fail
  refine HU.out.mono ?_
  rintro e w1 ⟨rfl, hk1⟩
  have e1 := (hk1.block _ (block_lt HBL.out)).trans HBL.out
  have HE1 := Lib.hid e1
  have a0 := cell_of_block (i := 0) e1 rfl
  have a1 := cell_of_block (i := 1) e1 rfl
  have a2 := cell_of_block (i := 2) e1 rfl
  have f0 := frozen_of_block (i := 0) e1
  have f1 := frozen_of_block (i := 1) e1
  have f2 := frozen_of_block (i := 2) e1
  simp only [List.getElem_toArray, List.getElem_cons_zero, List.getElem_cons_succ] at a0 a1 a2
  obtain ⟨bb, hbb⟩ : ∃ bb : Nat, bb = w.heap.size := ⟨_, rfl⟩
  have HBB := Lib.hid hbb
  rw [← hbb] at a0 a1 a2 f0 f1 f2 HE1 ⊢
  clear e1 hbb
  have hc := cells3_set (v0 := .slice s1.Ac s1.nc s1.cc) (v1 := .slice s1.Am s1.nm s1.cm) (v2 := .slice s1.Ae s1.ne s1.ce) HE1.out
  have hk2 : Kept w (((w1.setCell ⟨bb, 0, none⟩ (.slice s1.Ac s1.nc s1.cc)).setCell ⟨bb, 1, none⟩ (.slice s1.Am s1.nm s1.cm)).setCell ⟨bb, 2, none⟩ (.slice s1.Ae s1.ne s1.ce)) :=
    Kept.setCell (Kept.setCell (Kept.setCell (Kept.trans HKB.out hk1) (p := ⟨bb, 0, none⟩) (by rw [HBB.out]; exact Nat.le_refl _) _) (p := ⟨bb, 1, none⟩) (by rw [HBB.out]; exact Nat.le_refl _) _) (p := ⟨bb, 2, none⟩) (by rw [HBB.out]; exact Nat.le_refl _) _
  have g0 := cell_of_block (i := 0) hc rfl
  have g1 := cell_of_block (i := 1) hc rfl
  have g2 := cell_of_block (i := 2) hc rfl
  simp only [List.getElem_toArray, List.getElem_cons_zero, List.getElem_cons_succ] at g0 g1 g2
  have HC2 := Lib.hid hc
  have HK2 := Lib.hid hk2
  clear hc hk2
  go_wp2_with fail
  clear a0 a1 a2 f0 f1 f2 g0 g1 g2
  generalize ((w1.setCell ⟨bb, 0, none⟩ (.slice s1.Ac s1.nc s1.cc)).setCell ⟨bb, 1, none⟩ (.slice s1.Am s1.nm s1.cm)).setCell ⟨bb, 2, none⟩ (.slice s1.Ae s1.ne s1.ce) = W2 at *
  have HCLS := Lib.hid (fun x w' (hk : Kept w w') => r20Class s1.Ac s1.nc s1.cc (usableN n).classes x w' HNU.out.bc (HNU.out.kept hk).cls)
  have HSTA := Lib.hid (fun x w' (hk : Kept w w') => r20Starter s1.Ac s1.nc s1.cc (usableN n).classes x w' HNU.out.bc (HNU.out.kept hk).cls)
  rw [usableN_spans] at HCLS HSTA
  have HJ := Lib.hid (fun a b w' (hk : Kept W2 w') => r22pair s1 (usableN n) a b w' (HNU.out.kept (Kept.trans HK2.out hk)) HGOOD.out)
  have HR := Lib.hid (show compN n text = compT (classOf (usableN n).classes) (pairOf (usableN n)) text from rfl)
  unfold Sls.val at HJ
  generalize classOf (usableN n).classes = cls at *
  generalize pairOf (usableN n) = pr at *
  obtain ⟨w3, hw3⟩ : ∃ w3 : World, w3 = W2 := ⟨_, rfl⟩
  subst hw3
  have HC3 := Lib.hid HC2.out
  have KW3 := Lib.hid HK2.out
  obtain ⟨base, hbase⟩ : ∃ base : Nat, base = w3.heap.size := ⟨_, rfl⟩
  have hb3 : base ≤ w3.heap.size := by omega
  have hb4 : w3.heap.size ≤ base := by omega
  clear hbase
  go_loopw [5, 6, 7] (fun p la i wr => ∃ j : Nat, j ≤ nt ∧ i = .int .i64 j ∧ la = .int .i64 (lastI (compFold cls pr (text.take j)).2) ∧ OwnI wr base p (compFold cls pr (text.take j)).1 ∧ CSt cls (compFold cls pr (text.take j)) (cls ((compFold cls pr (text.take j)).1.getLastD 0)) ∧ Kept w3 wr) (fun _ _ i _ => nt - (intOf i).toNat)
  case atStart => exact ⟨0, Nat.zero_le _, rfl, rfl, (World.ownsRow_nil _ _ _ _ : OwnI w3 base (.slice none 0 0) []), (CSt.nil cls).free, Kept.refl _⟩
  case round =>
    obtain ⟨j, hj, rfl, rfl, hown, hst, hkj⟩ := hrel
    have hll := compT_length (cls := cls) (pr := pr) (text.take j)
    have hlt0 : (text.take j).length ≤ j := List.length_take_le _ _
    unfold compT at hll
    have HST0 := Lib.hid hst
    have HOW := Lib.hid hown
    have HKJ := Lib.hid hkj
    have KW := Lib.hid (Kept.trans KW3.out hkj)
    have hszj := hkj.size
    clear hown hst hkj
    by_cases hlt : j < nt
    · obtain ⟨b, off, y, hA, hy, cw⟩ := int_at (HT.out.kept KW.out) hlt
      have HFS := Lib.hid (show compFold cls pr (text.take (j + 1)) = cstep cls pr (compFold cls pr (text.take j)) y by rw [take_succ_some hy, compFold_snoc])
      obtain ⟨L, la, hLa⟩ : ∃ L la, compFold cls pr (text.take j) = (L, la) := ⟨_, _, rfl⟩
      rw [hLa] at HFS HST0 HOW hll ⊢
      have HST := HST0
      simp only at hll HOW HST ⊢
      have hL : L.length ≤ 1000000 := by omega
      have hC := (HKJ.out.block bb (block_lt HC3.out)).trans HC3.out
      have d0 := cell_of_block (i := 0) hC rfl
      simp only [List.getElem_toArray, List.getElem_cons_zero] at d0
      have HCY := Lib.hid (HCLS.out y wr KW.out)
      obtain ⟨cy, hcy⟩ : ∃ cy : Int, cls y = cy := ⟨_, rfl⟩
      rw [hcy] at HCY
      have HCYE := Lib.hid hcy
      obtain ⟨ln, hln⟩ : ∃ ln : Nat, ln = L.length := ⟨_, rfl⟩
      have hln2 : ln ≤ 1000000 := by omega
      have HLN7 := Lib.hid (show (L ++ [y]).length = ln + 1 by simp; omega)
      rw [hA]
      clear hA hy hLa hC hcy hll HST0
      cases la with
      | none =>
        rw [lastI_none]
        have HSTEP := Lib.hid (cstep_none (cls := cls) (pr := pr) (L := L) y)
        go_wp2_with fail
        refine HCY.out.mono ?_
        rintro e w4 ⟨rfl, k4⟩
        have HO4 := Lib.hid (own_kept HOW.out k4)
        obtain ⟨A6, c6, hu6, hle6, hI6⟩ := OwnI.sl HO4.out
        rw [← hln] at hu6 hle6
        subst hu6
        have HLN := Lib.hid hln
        have K4 := Lib.hid (Kept.trans HKJ.out k4)
        have hsz4 := k4.size
        have hLL : L.length ≤ 1000000 := hL
        clear hI6 hln d0 cw
        by_cases h0 : cy = 0
        · subst h0
          have hka := Kept.alloc (Kept.refl w4) (Obj.cells #[Value.int IntKind.i64 y] 3)
          have HKA := Lib.hid hka
          clear hka
          have hsb : IntKind.i64.wrap ((ln : Int) + 1 - 1) = (ln : Int) := by rw [show (ln : Int) + 1 - 1 = ln by omega]; exact IntWalk.i64_in _ (by omega)
          go_wp2_with (at_builtin; refine app_ints rfl _ _ rfl base _ _ rfl (by exact own_kept HO4.out HKA.out) _ _ _ [y] rfl (by exact Ints.alloc_ (xs := [y]) rfl rfl) (by simp; omega) (by simp; omega) ?_; intro v7 w7 hown7 hgrow7 hat7; have HO7 := Lib.hid hown7; obtain ⟨A7, c7, hv7, hle7, hI7⟩ := OwnI.sl hown7; rw [HLN7.out] at hv7; subst hv7; clear hown7 hI7)
          have K7 : Hid (Kept w3 w7) := Lib.hid ((Kept.trans K4.out HKA.out).grown hgrow7 (by simp; omega) (fun q e => by have := (World.ownsRow.lt HO4.out q e).1; omega))
          clear hsb
          go_roundw
          case rel => exact ⟨j + 1, by omega, by go_num, by rw [HFS.out, HSTEP.out, cpush_last0 HCYE.out, HLN.out], by rw [HFS.out, HSTEP.out]; exact HO7.out, by rw [HFS.out, HSTEP.out]; exact (HST.out.push y).free, K7.out⟩
          case measure => simp [intOf]; omega
        · have hb0 : (cy == 0) = false := by simpa using h0
          have HNE := Lib.hid h0
          clear h0
          have hka := Kept.alloc (Kept.refl w4) (Obj.cells #[Value.int IntKind.i64 y] 3)
          have HKA := Lib.hid hka
          clear hka
          have hsb : IntKind.i64.wrap ((ln : Int) + 1 - 1) = (ln : Int) := by rw [show (ln : Int) + 1 - 1 = ln by omega]; exact IntWalk.i64_in _ (by omega)
          go_wp2_with (at_builtin; refine app_ints rfl _ _ rfl base _ _ rfl (by exact own_kept HO4.out HKA.out) _ _ _ [y] rfl (by exact Ints.alloc_ (xs := [y]) rfl rfl) (by simp; omega) (by simp; omega) ?_; intro v7 w7 hown7 hgrow7 hat7; have HO7 := Lib.hid hown7; obtain ⟨A7, c7, hv7, hle7, hI7⟩ := OwnI.sl hown7; rw [HLN7.out] at hv7; subst hv7; clear hown7 hI7)
          have K7 : Hid (Kept w3 w7) := Lib.hid ((Kept.trans K4.out HKA.out).grown hgrow7 (by simp; omega) (fun q e => by have := (World.ownsRow.lt HO4.out q e).1; omega))
          clear hsb
          go_roundw
          case rel => exact ⟨j + 1, by omega, by go_num, by rw [HFS.out, HSTEP.out, cpush_last1 (by rw [HCYE.out]; exact HNE.out)]; rfl, by rw [HFS.out, HSTEP.out]; exact HO7.out, by rw [HFS.out, HSTEP.out]; exact (HST.out.push y).free, K7.out⟩
          case measure => simp [intOf]; omega
      | some k =>
        rw [lastI_some]
        have hkl : k < L.length := (HST.out k rfl).1
        obtain ⟨q', hq'⟩ : ∃ q', L.length = q' + 1 := ⟨L.length - 1, by omega⟩
        obtain ⟨x, hx⟩ := getElem?_some_of_lt hkl
        have HX := Lib.hid hx
        go_wp2_with fail
        refine HCY.out.mono ?_
        rintro e w4 ⟨rfl, k4⟩
        have HO4 := Lib.hid (own_kept HOW.out k4)
        have hv2 := HO4.out
        simp only [hq'] at hv2
        obtain ⟨g, co, rfl⟩ := ownsRow_succ_ hv2
        have hgb : base ≤ g := (World.ownsRow.lt hv2 g rfl).1
        have hco : q' + 1 ≤ co := by
          rcases hv2.2 with ⟨h, _⟩ | ⟨g', cap, cur, he, _, _, hle, _⟩
          · cases h
          · injection he with _ _ h3; omega
        have cx : w4.cell? ⟨g, k, none⟩ = some (.int .i64 x) := by
          rw [hv2.cellAt _ (by omega)]
          simp [hx]
        have HZ := Lib.hid (show w4.cell? ⟨g, q', none⟩ = some (.int .i64 (L.getLastD 0)) by
          rw [hv2.cellAt _ (by omega), List.getElem?_map, getLastD_at hq']; rfl)
        have hqq : q' + 1 = ln := by omega
        rw [hqq] at hv2 HO4 HOW hco ⊢
        have HV2 := Lib.hid hv2
        have HLN := Lib.hid hln
        have K4 := Lib.hid (Kept.trans HKJ.out k4)
        have hsz4 := k4.size
        have hLL : L.length ≤ 1000000 := hL
        have hC4 := ((Kept.trans HKJ.out k4).block bb (block_lt HC3.out)).trans HC3.out
        have HC4 := Lib.hid hC4
        have HCX := Lib.hid cx
        have HCO := Lib.hid hco
        clear hv2 hln hq' hx cw d0 cx hC4
        have hw1 : IntKind.i64.wrap ((k : Int) + 1) = (k : Int) + 1 := IntWalk.i64_in _ (by omega)
        have hw2 : ((k : Int) + 1).toNat = k + 1 := by omega
        have hk0 : (0 : Int) ≤ (k : Int) + 1 := by omega
        have hk1 : (k : Int) + 1 ≤ (ln : Int) := by have := HLN.out; omega
        have hk2 : (0 : Int) ≤ (k : Int) := by omega
        have hk3 : (k : Int) < (ln : Int) := by omega
        have hk5 : (ln : Int) ≤ (co : Int) := by omega
        by_cases hb1 : k + 1 < L.length
        · obtain ⟨q, hq⟩ : ∃ q, ln = k + 1 + q + 1 := ⟨ln - (k + 1) - 1, by have := HLN.out; omega⟩
          have hqz : q' = k + 1 + q := by omega
          have cz := HZ.out
          rw [hqz] at cz
          obtain ⟨z, hz⟩ : ∃ z, z = L.getLastD 0 := ⟨_, rfl⟩
          rw [← hz] at cz
          have hnz : ¬ cls z = 0 := by rw [hz]; exact ((HST.out k rfl).2 hb1).2
          have HZE := Lib.hid hz
          have hne : ¬ co = k + 1 := by omega
          have hlq : ln - (k + 1) = q + 1 := by omega
          have HQ := Lib.hid hq
          have HSZ := Lib.hid (HSTA.out z w4.drew (Kept.drew (Kept.trans KW3.out K4.out)))
          rw [show (cls z == 0) = false by simpa using hnz] at HSZ
          have HCZ := Lib.hid (HCLS.out z)
          obtain ⟨cz', hcz'⟩ : ∃ cz' : Int, cls z = cz' := ⟨_, rfl⟩
          rw [hcz'] at HCZ
          have HCZE := Lib.hid hcz'
          clear hz hnz hq hqz hcz' hqq
          have d0 := cell_of_block (i := 0) HC4.out rfl
          simp only [List.getElem_toArray, List.getElem_cons_zero] at d0
          have KZ := Lib.hid (Kept.drew (Kept.trans KW3.out K4.out))
          have gq0 : (0 : Int) ≤ (q : Int) := by omega
          have gq1 : (q : Int) < (q : Int) + 1 := by omega
          have hwq : IntKind.i64.wrap (q : Int) = (q : Int) := IntWalk.i64_in _ (by omega)
          by_cases hbl : cy ≤ cz'
          · have hge : decide (cy ≤ cz') = true := by simpa using hbl
            have HSTEP := Lib.hid (cstep_blocked (cls := cls) (pr := pr) (c := y) HST.out hb1 (by rw [HCYE.out, ← HZE.out, HCZE.out]; exact hbl))
            go_wp2_with fail
            refine wp_region_held_drew (S := (fun w' => w'.cell? ⟨bb, 0, none⟩ = some (.slice s1.Ac s1.nc s1.cc) ∧ w'.cell? ⟨g, k + 1 + q, none⟩ = some (.int .i64 z))) (by kernel_rfl) ⟨d0, cz⟩ (fun hHeld => ?_)
            refine wpAnyH_take (i := 0) (v := ?_) rfl (by kernel_rfl) (by kernel_rfl) (by kernel_rfl) (fun _ _ _ h => h) (Or.inl ⟨by rfl, ?_⟩) (by assumption) ?_
            rotate_left
            · (intro w hSw; (try dsimp only at hSw); go_simp; (try with_reducible rfl))
            simp only [Act.put, List.setIfInBounds_toArray, List.set_cons_zero, List.set_cons_succ, List.getElem_toArray, List.getElem_cons_zero]
            refine wpAnyH_take (i := 1) (v := ?_) rfl (by kernel_rfl) (by kernel_rfl) (by kernel_rfl) (fun _ _ _ h => h) (Or.inl ⟨by rfl, ?_⟩) (by assumption) ?_
            rotate_left
            · (intro w hSw; (try dsimp only at hSw); go_simp; (try with_reducible rfl))
            simp only [Act.put, List.setIfInBounds_toArray, List.set_cons_zero, List.set_cons_succ, List.getElem_toArray, List.getElem_cons_zero, List.getElem_cons_succ]
            refine wpAnyH_take (i := 2) (v := ?_) rfl (by kernel_rfl) (by kernel_rfl) (by kernel_rfl) (fun _ _ _ h => h) (Or.inl ⟨by rfl, ?_⟩) (by assumption) ?_
            rotate_left
            · (intro w hSw; (try dsimp only at hSw); go_simp; (try with_reducible rfl))
            simp only [Act.put, List.setIfInBounds_toArray, List.set_cons_zero, List.set_cons_succ, List.getElem_toArray, List.getElem_cons_zero, List.getElem_cons_succ]
            refine wpAnyH_take (i := 3) (v := ?_) rfl (by kernel_rfl) (by kernel_rfl) (by kernel_rfl) (fun _ _ _ h => h) (Or.inl ⟨by rfl, ?_⟩) (by assumption) ?_
            rotate_left
            · (intro w hSw; (try dsimp only at hSw); go_simp; (try with_reducible rfl))
            simp only [Act.put, List.setIfInBounds_toArray, List.set_cons_zero, List.set_cons_succ, List.getElem_toArray, List.getElem_cons_zero, List.getElem_cons_succ]
            refine wpAnyH_take (i := 4) (v := ?_) rfl (by kernel_rfl) (by kernel_rfl) (by kernel_rfl) (fun _ _ _ h => h) (Or.inl ⟨by rfl, ?_⟩) (by assumption) ?_
            rotate_left
            · (intro w hSw; (try dsimp only at hSw); go_simp; (try with_reducible rfl))
            simp only [Act.put, List.setIfInBounds_toArray, List.set_cons_zero, List.set_cons_succ, List.getElem_toArray, List.getElem_cons_zero, List.getElem_cons_succ]
            refine wpAnyH_take (i := 5) (v := ?_) rfl (by kernel_rfl) (by kernel_rfl) (by kernel_rfl) (fun _ _ _ h => h) (Or.inl ⟨by rfl, ?_⟩) (by assumption) ?_
            rotate_left
            · (intro w hSw; (try dsimp only at hSw); go_simp; (try with_reducible rfl))
            simp only [Act.put, List.setIfInBounds_toArray, List.set_cons_zero, List.set_cons_succ, List.getElem_toArray, List.getElem_cons_zero, List.getElem_cons_succ]
            refine wpAnyH_take (i := 6) (v := ?_) rfl (by kernel_rfl) (by kernel_rfl) (by kernel_rfl) (fun _ _ _ h => h) (Or.inl ⟨by rfl, ?_⟩) (by assumption) ?_
            rotate_left
            · (intro w hSw; (try dsimp only at hSw); go_simp; (try with_reducible rfl))
            simp only [Act.put, List.setIfInBounds_toArray, List.set_cons_zero, List.set_cons_succ, List.getElem_toArray, List.getElem_cons_zero, List.getElem_cons_succ]
            refine wpAnyH_take (i := 7) (v := ?_) rfl (by kernel_rfl) (by kernel_rfl) (by kernel_rfl) (fun _ _ _ h => h) (Or.inl ⟨by rfl, ?_⟩) (by assumption) ?_
            rotate_left
            · (intro w hSw; (try dsimp only at hSw); go_simp; (try with_reducible rfl))
            simp only [Act.put, List.setIfInBounds_toArray, List.set_cons_zero, List.set_cons_succ, List.getElem_toArray, List.getElem_cons_zero, List.getElem_cons_succ]
            refine wpAnyH_take (i := 8) (v := ?_) rfl (by kernel_rfl) (by kernel_rfl) (by kernel_rfl) (fun _ _ _ h => h) (Or.inl ⟨by rfl, ?_⟩) (by assumption) ?_
            rotate_left
            · (intro w hSw; (try dsimp only at hSw); go_simp; (try with_reducible rfl))
            simp only [Act.put, List.setIfInBounds_toArray, List.set_cons_zero, List.set_cons_succ, List.getElem_toArray, List.getElem_cons_zero, List.getElem_cons_succ]
            refine wpAnyH_take (i := 9) (v := ?_) rfl (by kernel_rfl) (by kernel_rfl) (by kernel_rfl) (fun _ _ _ h => h) (Or.inl ⟨by rfl, ?_⟩) (by assumption) ?_
            rotate_left
            · (intro w hSw; (try dsimp only at hSw); go_simp; (try with_reducible rfl))
            simp only [Act.put, List.setIfInBounds_toArray, List.set_cons_zero, List.set_cons_succ, List.getElem_toArray, List.getElem_cons_zero, List.getElem_cons_succ]
            refine wpAnyH_take (i := 10) (v := ?_) rfl (by kernel_rfl) (by kernel_rfl) (by kernel_rfl) (fun _ _ _ h => h) (Or.inl ⟨by rfl, ?_⟩) (by assumption) ?_
            rotate_left
            · (intro w hSw; (try dsimp only at hSw); go_simp; (try with_reducible rfl))
            simp only [Act.put, List.setIfInBounds_toArray, List.set_cons_zero, List.set_cons_succ, List.getElem_toArray, List.getElem_cons_zero, List.getElem_cons_succ]
            refine wpAnyH_take (i := 11) (v := ?_) rfl (by kernel_rfl) (by kernel_rfl) (by kernel_rfl) (fun _ _ _ h => h) (Or.inl ⟨by rfl, ?_⟩) (by assumption) ?_
            rotate_left
            · (intro w hSw; (try dsimp only at hSw); go_simp; (try with_reducible rfl))
            simp only [Act.put, List.setIfInBounds_toArray, List.set_cons_zero, List.set_cons_succ, List.getElem_toArray, List.getElem_cons_zero, List.getElem_cons_succ]
            refine wpAnyH_ready (rs := [12]) (by kernel_rfl) (by simp) ?_
            refine AllReadyH.cons rfl (fun K hK => ?_) AllReadyH.nil
            go_simp
            (refine HSZ.out.mono ?_; rintro e wa ⟨rfl, ka⟩)
            go_wp2_with fail
            refine hK.out _ _ ⟨Kept.cell ka d0, Kept.cell ka cz⟩ (fun hHeld => ?_)
            clear hK K
            (try simp only [Act.put, List.setIfInBounds_toArray, List.set_cons_zero, List.set_cons_succ, List.getElem_toArray, List.getElem_cons_zero, List.getElem_cons_succ])
            refine wpAnyH_take (i := 13) (v := ?_) rfl (by kernel_rfl) (by kernel_rfl) (by kernel_rfl) (fun _ _ _ h => h) (Or.inl ⟨by rfl, ?_⟩) (by assumption) ?_
            rotate_left
            · (intro w hSw; (try dsimp only at hSw); go_simp; (try with_reducible rfl))
            simp only [Act.put, List.setIfInBounds_toArray, List.set_cons_zero, List.set_cons_succ, List.getElem_toArray, List.getElem_cons_zero, List.getElem_cons_succ]
            refine wpAnyH_take (i := 14) (v := ?_) rfl (by kernel_rfl) (by kernel_rfl) (by kernel_rfl) (fun _ _ _ h => h) (Or.inl ⟨by rfl, ?_⟩) (by assumption) ?_
            rotate_left
            · (intro w hSw; (try dsimp only at hSw); go_simp; (try with_reducible rfl))
            simp only [Act.put, List.setIfInBounds_toArray, List.set_cons_zero, List.set_cons_succ, List.getElem_toArray, List.getElem_cons_zero, List.getElem_cons_succ]
            refine wpAnyH_take (i := 15) (v := ?_) rfl (by kernel_rfl) (by kernel_rfl) (by kernel_rfl) (fun _ _ _ h => h) (Or.inl ⟨by rfl, ?_⟩) (by assumption) ?_
            rotate_left
            · (intro w hSw; (try dsimp only at hSw); go_simp; (try with_reducible rfl))
            simp only [Act.put, List.setIfInBounds_toArray, List.set_cons_zero, List.set_cons_succ, List.getElem_toArray, List.getElem_cons_zero, List.getElem_cons_succ]
            refine wpAnyH_take (i := 16) (v := ?_) rfl (by kernel_rfl) (by kernel_rfl) (by kernel_rfl) (fun _ _ _ h => h) (Or.inl ⟨by rfl, ?_⟩) (by assumption) ?_
            rotate_left
            · (intro w hSw; (try dsimp only at hSw); go_simp; (try with_reducible rfl))
            simp only [Act.put, List.setIfInBounds_toArray, List.set_cons_zero, List.set_cons_succ, List.getElem_toArray, List.getElem_cons_zero, List.getElem_cons_succ]
            refine wpAnyH_take (i := 17) (v := ?_) rfl (by kernel_rfl) (by kernel_rfl) (by kernel_rfl) (fun _ _ _ h => h) (Or.inl ⟨by rfl, ?_⟩) (by assumption) ?_
            rotate_left
            · (intro w hSw; (try dsimp only at hSw); go_simp; (try with_reducible rfl))
            simp only [Act.put, List.setIfInBounds_toArray, List.set_cons_zero, List.set_cons_succ, List.getElem_toArray, List.getElem_cons_zero, List.getElem_cons_succ]
            refine wpAnyH_take (i := 18) (v := ?_) rfl (by kernel_rfl) (by kernel_rfl) (by kernel_rfl) (fun _ _ _ h => h) (Or.inl ⟨by rfl, ?_⟩) (by assumption) ?_
            rotate_left
            · (intro w hSw; (try dsimp only at hSw); go_simp; (try with_reducible rfl))
            simp only [Act.put, List.setIfInBounds_toArray, List.set_cons_zero, List.set_cons_succ, List.getElem_toArray, List.getElem_cons_zero, List.getElem_cons_succ]
            refine wpAnyH_take (i := 19) (v := ?_) rfl (by kernel_rfl) (by kernel_rfl) (by kernel_rfl) (fun _ _ _ h => h) (Or.inl ⟨by rfl, ?_⟩) (by assumption) ?_
            rotate_left
            · (intro w hSw; (try dsimp only at hSw); go_simp; (try with_reducible rfl))
            simp only [Act.put, List.setIfInBounds_toArray, List.set_cons_zero, List.set_cons_succ, List.getElem_toArray, List.getElem_cons_zero, List.getElem_cons_succ]
            refine wpAnyH_take (i := 20) (v := ?_) rfl (by kernel_rfl) (by kernel_rfl) (by kernel_rfl) (fun _ _ _ h => h) (Or.inl ⟨by rfl, ?_⟩) (by assumption) ?_
            rotate_left
            · (intro w hSw; (try dsimp only at hSw); go_simp; (try with_reducible rfl))
            simp only [Act.put, List.setIfInBounds_toArray, List.set_cons_zero, List.set_cons_succ, List.getElem_toArray, List.getElem_cons_zero, List.getElem_cons_succ]
            refine wpAnyH_take (i := 21) (v := ?_) rfl (by kernel_rfl) (by kernel_rfl) (by kernel_rfl) (fun _ _ _ h => h) (Or.inl ⟨by rfl, ?_⟩) (by assumption) ?_
            rotate_left
            · (intro w hSw; (try dsimp only at hSw); go_simp; (try with_reducible rfl))
            simp only [Act.put, List.setIfInBounds_toArray, List.set_cons_zero, List.set_cons_succ, List.getElem_toArray, List.getElem_cons_zero, List.getElem_cons_succ]
            refine wpAnyH_take (i := 23) (v := ?_) rfl (by kernel_rfl) (by kernel_rfl) (by kernel_rfl) (fun _ _ _ h => h) (Or.inl ⟨by rfl, ?_⟩) (by assumption) ?_
            rotate_left
            · (intro w hSw; (try dsimp only at hSw); go_simp; (try with_reducible rfl))
            simp only [Act.put, List.setIfInBounds_toArray, List.set_cons_zero, List.set_cons_succ, List.getElem_toArray, List.getElem_cons_zero, List.getElem_cons_succ]
            refine wpAnyH_ready (rs := [22]) (by kernel_rfl) (by simp) ?_
            refine AllReadyH.cons rfl (fun K hK => ?_) AllReadyH.nil
            go_simp
            (refine (HCZ.out wa (Kept.trans KZ.out ka)).mono ?_; rintro e wq ⟨rfl, kq⟩)
            go_wp2_with fail
            refine hK.out _ _ ⟨Kept.cell kq (Kept.cell ka d0), Kept.cell kq (Kept.cell ka cz)⟩ (fun hHeld => ?_)
            clear hK K
            (try simp only [Act.put, List.setIfInBounds_toArray, List.set_cons_zero, List.set_cons_succ, List.getElem_toArray, List.getElem_cons_zero, List.getElem_cons_succ])
            refine wpAnyH_take (i := 24) (v := ?_) rfl (by kernel_rfl) (by kernel_rfl) (by kernel_rfl) (fun _ _ _ h => h) (Or.inl ⟨by rfl, ?_⟩) (by assumption) ?_
            rotate_left
            · (intro w hSw; (try dsimp only at hSw); go_simp; (try with_reducible rfl))
            simp only [Act.put, List.setIfInBounds_toArray, List.set_cons_zero, List.set_cons_succ, List.getElem_toArray, List.getElem_cons_zero, List.getElem_cons_succ]
            refine wpAnyH_take (i := 25) (v := ?_) rfl (by kernel_rfl) (by kernel_rfl) (by kernel_rfl) (fun _ _ _ h => h) (Or.inl ⟨by rfl, ?_⟩) (by assumption) ?_
            rotate_left
            · (intro w hSw; (try dsimp only at hSw); go_simp; (try with_reducible rfl))
            simp only [Act.put, List.setIfInBounds_toArray, List.set_cons_zero, List.set_cons_succ, List.getElem_toArray, List.getElem_cons_zero, List.getElem_cons_succ]
            refine wpAnyH_take (i := 26) (v := ?_) rfl (by kernel_rfl) (by kernel_rfl) (by kernel_rfl) (fun _ _ _ h => h) (Or.inl ⟨by rfl, ?_⟩) (by assumption) ?_
            rotate_left
            · (intro w hSw; (try dsimp only at hSw); go_simp; (try with_reducible rfl))
            simp only [Act.put, List.setIfInBounds_toArray, List.set_cons_zero, List.set_cons_succ, List.getElem_toArray, List.getElem_cons_zero, List.getElem_cons_succ]
            refine wpAnyH_take (i := 27) (v := ?_) rfl (by kernel_rfl) (by kernel_rfl) (by kernel_rfl) (fun _ _ _ h => h) (Or.inl ⟨by rfl, ?_⟩) (by assumption) ?_
            rotate_left
            · (intro w hSw; (try dsimp only at hSw); go_simp; (try with_reducible rfl))
            simp only [Act.put, List.setIfInBounds_toArray, List.set_cons_zero, List.set_cons_succ, List.getElem_toArray, List.getElem_cons_zero, List.getElem_cons_succ]
            refine wpAnyH_done (by kernel_rfl) ?_ _
            have Kq := Lib.hid (Kept.trans (Kept.drew K4.out) (Kept.trans ka kq))
            have KVq := Lib.hid (Kept.trans (Kept.drew (Kept.refl w4)) (Kept.trans ka kq))
            clear d0 cz ka kq hbl hge
            have hCq := (Kq.out.block bb (block_lt HC3.out)).trans HC3.out
            have d0 := cell_of_block (i := 0) hCq rfl
            have d1 := cell_of_block (i := 1) hCq rfl
            have d2 := cell_of_block (i := 2) hCq rfl
            simp only [List.getElem_toArray, List.getElem_cons_zero, List.getElem_cons_succ] at d0 d1 d2
            have cx := Kept.cell KVq.out HCX.out
            clear hCq
            have HJX := Lib.hid (HJ.out x y wq.drew (Kept.drew Kq.out))
            go_wp2_with fail
            cases hpr : pr x y with
            | none =>
              rw [hpr] at HJX
              clear hpr
              refine wp_region_held_drew (S := (fun w' => w'.cell? ⟨bb, 0, none⟩ = some (.slice s1.Ac s1.nc s1.cc) ∧ w'.cell? ⟨bb, 1, none⟩ = some (.slice s1.Am s1.nm s1.cm) ∧ w'.cell? ⟨bb, 2, none⟩ = some (.slice s1.Ae s1.ne s1.ce) ∧ w'.cell? ⟨g, k, none⟩ = some (.int .i64 x))) (by kernel_rfl) ⟨d0, d1, d2, cx⟩ (fun hHeld => ?_)
              refine wpAnyH_take (i := 0) (v := ?_) rfl (by kernel_rfl) (by kernel_rfl) (by kernel_rfl) (fun _ _ _ h => h) (Or.inl ⟨by rfl, ?_⟩) (by assumption) ?_
              rotate_left
              · (intro w hSw; (try dsimp only at hSw); go_simp; (try with_reducible rfl))
              simp only [Act.put, List.setIfInBounds_toArray, List.set_cons_zero, List.set_cons_succ, List.getElem_toArray, List.getElem_cons_zero]
              refine wpAnyH_take (i := 1) (v := ?_) rfl (by kernel_rfl) (by kernel_rfl) (by kernel_rfl) (fun _ _ _ h => h) (Or.inl ⟨by rfl, ?_⟩) (by assumption) ?_
              rotate_left
              · (intro w hSw; (try dsimp only at hSw); go_simp; (try with_reducible rfl))
              simp only [Act.put, List.setIfInBounds_toArray, List.set_cons_zero, List.set_cons_succ, List.getElem_toArray, List.getElem_cons_zero, List.getElem_cons_succ]
              refine wpAnyH_take (i := 2) (v := ?_) rfl (by kernel_rfl) (by kernel_rfl) (by kernel_rfl) (fun _ _ _ h => h) (Or.inl ⟨by rfl, ?_⟩) (by assumption) ?_
              rotate_left
              · (intro w hSw; (try dsimp only at hSw); go_simp; (try with_reducible rfl))
              simp only [Act.put, List.setIfInBounds_toArray, List.set_cons_zero, List.set_cons_succ, List.getElem_toArray, List.getElem_cons_zero, List.getElem_cons_succ]
              refine wpAnyH_take (i := 3) (v := ?_) rfl (by kernel_rfl) (by kernel_rfl) (by kernel_rfl) (fun _ _ _ h => h) (Or.inl ⟨by rfl, ?_⟩) (by assumption) ?_
              rotate_left
              · (intro w hSw; (try dsimp only at hSw); go_simp; (try with_reducible rfl))
              simp only [Act.put, List.setIfInBounds_toArray, List.set_cons_zero, List.set_cons_succ, List.getElem_toArray, List.getElem_cons_zero, List.getElem_cons_succ]
              refine wpAnyH_take (i := 4) (v := ?_) rfl (by kernel_rfl) (by kernel_rfl) (by kernel_rfl) (fun _ _ _ h => h) (Or.inl ⟨by rfl, ?_⟩) (by assumption) ?_
              rotate_left
              · (intro w hSw; (try dsimp only at hSw); go_simp; (try with_reducible rfl))
              simp only [Act.put, List.setIfInBounds_toArray, List.set_cons_zero, List.set_cons_succ, List.getElem_toArray, List.getElem_cons_zero, List.getElem_cons_succ]
              refine wpAnyH_take (i := 5) (v := ?_) rfl (by kernel_rfl) (by kernel_rfl) (by kernel_rfl) (fun _ _ _ h => h) (Or.inl ⟨by rfl, ?_⟩) (by assumption) ?_
              rotate_left
              · (intro w hSw; (try dsimp only at hSw); go_simp; (try with_reducible rfl))
              simp only [Act.put, List.setIfInBounds_toArray, List.set_cons_zero, List.set_cons_succ, List.getElem_toArray, List.getElem_cons_zero, List.getElem_cons_succ]
              refine wpAnyH_ready (rs := [6]) (by kernel_rfl) (by simp) ?_
              refine AllReadyH.cons rfl (fun K hK => ?_) AllReadyH.nil
              go_simp
              (refine HJX.out.mono ?_; rintro e w5 ⟨rfl, k6⟩)
              go_wp2_with fail
              refine hK.out _ _ ⟨Kept.cell k6 d0, Kept.cell k6 d1, Kept.cell k6 d2, Kept.cell k6 cx⟩ (fun hHeld => ?_)
              clear hK K
              (try simp only [Act.put, List.setIfInBounds_toArray, List.set_cons_zero, List.set_cons_succ, List.getElem_toArray, List.getElem_cons_zero, List.getElem_cons_succ])
              refine wpAnyH_take (i := 7) (v := ?_) rfl (by kernel_rfl) (by kernel_rfl) (by kernel_rfl) (fun _ _ _ h => h) (Or.inl ⟨by rfl, ?_⟩) (by assumption) ?_
              rotate_left
              · (intro w hSw; (try dsimp only at hSw); go_simp; (try with_reducible rfl))
              simp only [Act.put, List.setIfInBounds_toArray, List.set_cons_zero, List.set_cons_succ, List.getElem_toArray, List.getElem_cons_zero, List.getElem_cons_succ]
              refine wpAnyH_take (i := 8) (v := ?_) rfl (by kernel_rfl) (by kernel_rfl) (by kernel_rfl) (fun _ _ _ h => h) (Or.inl ⟨by rfl, ?_⟩) (by assumption) ?_
              rotate_left
              · (intro w hSw; (try dsimp only at hSw); go_simp; (try with_reducible rfl))
              simp only [Act.put, List.setIfInBounds_toArray, List.set_cons_zero, List.set_cons_succ, List.getElem_toArray, List.getElem_cons_zero, List.getElem_cons_succ]
              refine wpAnyH_take (i := 9) (v := ?_) rfl (by kernel_rfl) (by kernel_rfl) (by kernel_rfl) (fun _ _ _ h => h) (Or.inl ⟨by rfl, ?_⟩) (by assumption) ?_
              rotate_left
              · (intro w hSw; (try dsimp only at hSw); go_simp; (try with_reducible rfl))
              simp only [Act.put, List.setIfInBounds_toArray, List.set_cons_zero, List.set_cons_succ, List.getElem_toArray, List.getElem_cons_zero, List.getElem_cons_succ]
              refine wpAnyH_take (i := 10) (v := ?_) rfl (by kernel_rfl) (by kernel_rfl) (by kernel_rfl) (fun _ _ _ h => h) (Or.inl ⟨by rfl, ?_⟩) (by assumption) ?_
              rotate_left
              · (intro w hSw; (try dsimp only at hSw); go_simp; (try with_reducible rfl))
              simp only [Act.put, List.setIfInBounds_toArray, List.set_cons_zero, List.set_cons_succ, List.getElem_toArray, List.getElem_cons_zero, List.getElem_cons_succ]
              refine wpAnyH_take (i := 11) (v := ?_) rfl (by kernel_rfl) (by kernel_rfl) (by kernel_rfl) (fun _ _ _ h => h) (Or.inl ⟨by rfl, ?_⟩) (by assumption) ?_
              rotate_left
              · (intro w hSw; (try dsimp only at hSw); go_simp; (try with_reducible rfl))
              simp only [Act.put, List.setIfInBounds_toArray, List.set_cons_zero, List.set_cons_succ, List.getElem_toArray, List.getElem_cons_zero, List.getElem_cons_succ]
              refine wpAnyH_done (by kernel_rfl) ?_ _
              have K5 := Lib.hid (Kept.trans (Kept.drew Kq.out) k6)
              have hsz5 := K5.out.size
              have KV5 := Lib.hid (Kept.trans (Kept.drew KVq.out) k6)
              have HO5 := Lib.hid (own_kept HO4.out KV5.out)
              clear cx d0 d1 d2
              by_cases h0 : cy = 0
              · subst h0
                have hka := Kept.alloc (Kept.refl w5) (Obj.cells #[Value.int IntKind.i64 y] 3)
                have HKA := Lib.hid hka
                clear hka
                have hsb : IntKind.i64.wrap ((ln : Int) + 1 - 1) = (ln : Int) := by rw [show (ln : Int) + 1 - 1 = ln by omega]; exact IntWalk.i64_in _ (by omega)
                go_wp2_with (at_builtin; refine app_ints rfl _ _ rfl base _ _ rfl (by exact own_kept HO5.out HKA.out) _ _ _ [y] rfl (by exact Ints.alloc_ (xs := [y]) rfl rfl) (by simp; omega) (by simp; omega) ?_; intro v7 w7 hown7 hgrow7 hat7; have HO7 := Lib.hid hown7; obtain ⟨A7, c7, hv7, hle7, hI7⟩ := OwnI.sl hown7; rw [HLN7.out] at hv7; subst hv7; clear hown7 hI7)
                have K7 : Hid (Kept w3 w7) := Lib.hid ((Kept.trans K5.out HKA.out).grown hgrow7 (by simp; omega) (fun q e => by have := (World.ownsRow.lt HO5.out q e).1; omega))
                clear hsb
                go_roundw
                case rel => exact ⟨j + 1, by omega, by go_num, by rw [HFS.out, HSTEP.out, cpush_last0 HCYE.out, HLN.out], by rw [HFS.out, HSTEP.out]; exact HO7.out, by rw [HFS.out, HSTEP.out]; exact (HST.out.push y).free, K7.out⟩
                case measure => simp [intOf]; omega
              · have hb0 : (cy == 0) = false := by simpa using h0
                have HNE := Lib.hid h0
                clear h0
                have hka := Kept.alloc (Kept.refl w5) (Obj.cells #[Value.int IntKind.i64 y] 3)
                have HKA := Lib.hid hka
                clear hka
                have hsb : IntKind.i64.wrap ((ln : Int) + 1 - 1) = (ln : Int) := by rw [show (ln : Int) + 1 - 1 = ln by omega]; exact IntWalk.i64_in _ (by omega)
                go_wp2_with (at_builtin; refine app_ints rfl _ _ rfl base _ _ rfl (by exact own_kept HO5.out HKA.out) _ _ _ [y] rfl (by exact Ints.alloc_ (xs := [y]) rfl rfl) (by simp; omega) (by simp; omega) ?_; intro v7 w7 hown7 hgrow7 hat7; have HO7 := Lib.hid hown7; obtain ⟨A7, c7, hv7, hle7, hI7⟩ := OwnI.sl hown7; rw [HLN7.out] at hv7; subst hv7; clear hown7 hI7)
                have K7 : Hid (Kept w3 w7) := Lib.hid ((Kept.trans K5.out HKA.out).grown hgrow7 (by simp; omega) (fun q e => by have := (World.ownsRow.lt HO5.out q e).1; omega))
                clear hsb
                go_roundw
                case rel => exact ⟨j + 1, by omega, by go_num, by rw [HFS.out, HSTEP.out, cpush_last1 (by rw [HCYE.out]; exact HNE.out)]; rfl, by rw [HFS.out, HSTEP.out]; exact HO7.out, by rw [HFS.out, HSTEP.out]; exact (HST.out.push y).free, K7.out⟩
                case measure => simp [intOf]; omega
            | some v =>
              rw [hpr] at HJX
              clear hpr
              refine wp_region_held_drew (S := (fun w' => w'.cell? ⟨bb, 0, none⟩ = some (.slice s1.Ac s1.nc s1.cc) ∧ w'.cell? ⟨bb, 1, none⟩ = some (.slice s1.Am s1.nm s1.cm) ∧ w'.cell? ⟨bb, 2, none⟩ = some (.slice s1.Ae s1.ne s1.ce) ∧ w'.cell? ⟨g, k, none⟩ = some (.int .i64 x))) (by kernel_rfl) ⟨d0, d1, d2, cx⟩ (fun hHeld => ?_)
              refine wpAnyH_take (i := 0) (v := ?_) rfl (by kernel_rfl) (by kernel_rfl) (by kernel_rfl) (fun _ _ _ h => h) (Or.inl ⟨by rfl, ?_⟩) (by assumption) ?_
              rotate_left
              · (intro w hSw; (try dsimp only at hSw); go_simp; (try with_reducible rfl))
              simp only [Act.put, List.setIfInBounds_toArray, List.set_cons_zero, List.set_cons_succ, List.getElem_toArray, List.getElem_cons_zero]
              refine wpAnyH_take (i := 1) (v := ?_) rfl (by kernel_rfl) (by kernel_rfl) (by kernel_rfl) (fun _ _ _ h => h) (Or.inl ⟨by rfl, ?_⟩) (by assumption) ?_
              rotate_left
              · (intro w hSw; (try dsimp only at hSw); go_simp; (try with_reducible rfl))
              simp only [Act.put, List.setIfInBounds_toArray, List.set_cons_zero, List.set_cons_succ, List.getElem_toArray, List.getElem_cons_zero, List.getElem_cons_succ]
              refine wpAnyH_take (i := 2) (v := ?_) rfl (by kernel_rfl) (by kernel_rfl) (by kernel_rfl) (fun _ _ _ h => h) (Or.inl ⟨by rfl, ?_⟩) (by assumption) ?_
              rotate_left
              · (intro w hSw; (try dsimp only at hSw); go_simp; (try with_reducible rfl))
              simp only [Act.put, List.setIfInBounds_toArray, List.set_cons_zero, List.set_cons_succ, List.getElem_toArray, List.getElem_cons_zero, List.getElem_cons_succ]
              refine wpAnyH_take (i := 3) (v := ?_) rfl (by kernel_rfl) (by kernel_rfl) (by kernel_rfl) (fun _ _ _ h => h) (Or.inl ⟨by rfl, ?_⟩) (by assumption) ?_
              rotate_left
              · (intro w hSw; (try dsimp only at hSw); go_simp; (try with_reducible rfl))
              simp only [Act.put, List.setIfInBounds_toArray, List.set_cons_zero, List.set_cons_succ, List.getElem_toArray, List.getElem_cons_zero, List.getElem_cons_succ]
              refine wpAnyH_take (i := 4) (v := ?_) rfl (by kernel_rfl) (by kernel_rfl) (by kernel_rfl) (fun _ _ _ h => h) (Or.inl ⟨by rfl, ?_⟩) (by assumption) ?_
              rotate_left
              · (intro w hSw; (try dsimp only at hSw); go_simp; (try with_reducible rfl))
              simp only [Act.put, List.setIfInBounds_toArray, List.set_cons_zero, List.set_cons_succ, List.getElem_toArray, List.getElem_cons_zero, List.getElem_cons_succ]
              refine wpAnyH_take (i := 5) (v := ?_) rfl (by kernel_rfl) (by kernel_rfl) (by kernel_rfl) (fun _ _ _ h => h) (Or.inl ⟨by rfl, ?_⟩) (by assumption) ?_
              rotate_left
              · (intro w hSw; (try dsimp only at hSw); go_simp; (try with_reducible rfl))
              simp only [Act.put, List.setIfInBounds_toArray, List.set_cons_zero, List.set_cons_succ, List.getElem_toArray, List.getElem_cons_zero, List.getElem_cons_succ]
              refine wpAnyH_ready (rs := [6]) (by kernel_rfl) (by simp) ?_
              refine AllReadyH.cons rfl (fun K hK => ?_) AllReadyH.nil
              go_simp
              (refine HJX.out.mono ?_; rintro e w5 ⟨rfl, k6⟩)
              go_wp2_with fail
              refine hK.out _ _ ⟨Kept.cell k6 d0, Kept.cell k6 d1, Kept.cell k6 d2, Kept.cell k6 cx⟩ (fun hHeld => ?_)
              clear hK K
              (try simp only [Act.put, List.setIfInBounds_toArray, List.set_cons_zero, List.set_cons_succ, List.getElem_toArray, List.getElem_cons_zero, List.getElem_cons_succ])
              refine wpAnyH_take (i := 7) (v := ?_) rfl (by kernel_rfl) (by kernel_rfl) (by kernel_rfl) (fun _ _ _ h => h) (Or.inl ⟨by rfl, ?_⟩) (by assumption) ?_
              rotate_left
              · (intro w hSw; (try dsimp only at hSw); go_simp; (try with_reducible rfl))
              simp only [Act.put, List.setIfInBounds_toArray, List.set_cons_zero, List.set_cons_succ, List.getElem_toArray, List.getElem_cons_zero, List.getElem_cons_succ]
              refine wpAnyH_take (i := 8) (v := ?_) rfl (by kernel_rfl) (by kernel_rfl) (by kernel_rfl) (fun _ _ _ h => h) (Or.inl ⟨by rfl, ?_⟩) (by assumption) ?_
              rotate_left
              · (intro w hSw; (try dsimp only at hSw); go_simp; (try with_reducible rfl))
              simp only [Act.put, List.setIfInBounds_toArray, List.set_cons_zero, List.set_cons_succ, List.getElem_toArray, List.getElem_cons_zero, List.getElem_cons_succ]
              refine wpAnyH_take (i := 9) (v := ?_) rfl (by kernel_rfl) (by kernel_rfl) (by kernel_rfl) (fun _ _ _ h => h) (Or.inl ⟨by rfl, ?_⟩) (by assumption) ?_
              rotate_left
              · (intro w hSw; (try dsimp only at hSw); go_simp; (try with_reducible rfl))
              simp only [Act.put, List.setIfInBounds_toArray, List.set_cons_zero, List.set_cons_succ, List.getElem_toArray, List.getElem_cons_zero, List.getElem_cons_succ]
              refine wpAnyH_take (i := 10) (v := ?_) rfl (by kernel_rfl) (by kernel_rfl) (by kernel_rfl) (fun _ _ _ h => h) (Or.inl ⟨by rfl, ?_⟩) (by assumption) ?_
              rotate_left
              · (intro w hSw; (try dsimp only at hSw); go_simp; (try with_reducible rfl))
              simp only [Act.put, List.setIfInBounds_toArray, List.set_cons_zero, List.set_cons_succ, List.getElem_toArray, List.getElem_cons_zero, List.getElem_cons_succ]
              refine wpAnyH_take (i := 11) (v := ?_) rfl (by kernel_rfl) (by kernel_rfl) (by kernel_rfl) (fun _ _ _ h => h) (Or.inl ⟨by rfl, ?_⟩) (by assumption) ?_
              rotate_left
              · (intro w hSw; (try dsimp only at hSw); go_simp; (try with_reducible rfl))
              simp only [Act.put, List.setIfInBounds_toArray, List.set_cons_zero, List.set_cons_succ, List.getElem_toArray, List.getElem_cons_zero, List.getElem_cons_succ]
              refine wpAnyH_done (by kernel_rfl) ?_ _
              have K5 := Lib.hid (Kept.trans (Kept.drew Kq.out) k6)
              have hsz5 := K5.out.size
              have KV5 := Lib.hid (Kept.trans (Kept.drew KVq.out) k6)
              have HO5 := Lib.hid (own_kept HO4.out KV5.out)
              clear cx d0 d1 d2
              by_cases h0 : cy = 0
              · subst h0
                have hka := Kept.alloc (Kept.refl w5) (Obj.cells #[Value.int IntKind.i64 y] 3)
                have HKA := Lib.hid hka
                clear hka
                have hsb : IntKind.i64.wrap ((ln : Int) + 1 - 1) = (ln : Int) := by rw [show (ln : Int) + 1 - 1 = ln by omega]; exact IntWalk.i64_in _ (by omega)
                go_wp2_with (at_builtin; refine app_ints rfl _ _ rfl base _ _ rfl (by exact own_kept HO5.out HKA.out) _ _ _ [y] rfl (by exact Ints.alloc_ (xs := [y]) rfl rfl) (by simp; omega) (by simp; omega) ?_; intro v7 w7 hown7 hgrow7 hat7; have HO7 := Lib.hid hown7; obtain ⟨A7, c7, hv7, hle7, hI7⟩ := OwnI.sl hown7; rw [HLN7.out] at hv7; subst hv7; clear hown7 hI7)
                have K7 : Hid (Kept w3 w7) := Lib.hid ((Kept.trans K5.out HKA.out).grown hgrow7 (by simp; omega) (fun q e => by have := (World.ownsRow.lt HO5.out q e).1; omega))
                clear hsb
                go_roundw
                case rel => exact ⟨j + 1, by omega, by go_num, by rw [HFS.out, HSTEP.out, cpush_last0 HCYE.out, HLN.out], by rw [HFS.out, HSTEP.out]; exact HO7.out, by rw [HFS.out, HSTEP.out]; exact (HST.out.push y).free, K7.out⟩
                case measure => simp [intOf]; omega
              · have hb0 : (cy == 0) = false := by simpa using h0
                have HNE := Lib.hid h0
                clear h0
                have hka := Kept.alloc (Kept.refl w5) (Obj.cells #[Value.int IntKind.i64 y] 3)
                have HKA := Lib.hid hka
                clear hka
                have hsb : IntKind.i64.wrap ((ln : Int) + 1 - 1) = (ln : Int) := by rw [show (ln : Int) + 1 - 1 = ln by omega]; exact IntWalk.i64_in _ (by omega)
                go_wp2_with (at_builtin; refine app_ints rfl _ _ rfl base _ _ rfl (by exact own_kept HO5.out HKA.out) _ _ _ [y] rfl (by exact Ints.alloc_ (xs := [y]) rfl rfl) (by simp; omega) (by simp; omega) ?_; intro v7 w7 hown7 hgrow7 hat7; have HO7 := Lib.hid hown7; obtain ⟨A7, c7, hv7, hle7, hI7⟩ := OwnI.sl hown7; rw [HLN7.out] at hv7; subst hv7; clear hown7 hI7)
                have K7 : Hid (Kept w3 w7) := Lib.hid ((Kept.trans K5.out HKA.out).grown hgrow7 (by simp; omega) (fun q e => by have := (World.ownsRow.lt HO5.out q e).1; omega))
                clear hsb
                go_roundw
                case rel => exact ⟨j + 1, by omega, by go_num, by rw [HFS.out, HSTEP.out, cpush_last1 (by rw [HCYE.out]; exact HNE.out)]; rfl, by rw [HFS.out, HSTEP.out]; exact HO7.out, by rw [HFS.out, HSTEP.out]; exact (HST.out.push y).free, K7.out⟩
                case measure => simp [intOf]; omega
          · have hge : decide (cy ≤ cz') = false := by simpa using hbl
            have HFR := Lib.hid (cstep_free (cls := cls) (pr := pr) (c := y) HST.out (fun h => hbl (by have h2 := h.2; rw [HCYE.out, ← HZE.out, HCZE.out] at h2; exact h2)) HX.out)
            go_wp2_with fail
            refine wp_region_held_drew (S := (fun w' => w'.cell? ⟨bb, 0, none⟩ = some (.slice s1.Ac s1.nc s1.cc) ∧ w'.cell? ⟨g, k + 1 + q, none⟩ = some (.int .i64 z))) (by kernel_rfl) ⟨d0, cz⟩ (fun hHeld => ?_)
            refine wpAnyH_take (i := 0) (v := ?_) rfl (by kernel_rfl) (by kernel_rfl) (by kernel_rfl) (fun _ _ _ h => h) (Or.inl ⟨by rfl, ?_⟩) (by assumption) ?_
            rotate_left
            · (intro w hSw; (try dsimp only at hSw); go_simp; (try with_reducible rfl))
            simp only [Act.put, List.setIfInBounds_toArray, List.set_cons_zero, List.set_cons_succ, List.getElem_toArray, List.getElem_cons_zero]
            refine wpAnyH_take (i := 1) (v := ?_) rfl (by kernel_rfl) (by kernel_rfl) (by kernel_rfl) (fun _ _ _ h => h) (Or.inl ⟨by rfl, ?_⟩) (by assumption) ?_
            rotate_left
            · (intro w hSw; (try dsimp only at hSw); go_simp; (try with_reducible rfl))
            simp only [Act.put, List.setIfInBounds_toArray, List.set_cons_zero, List.set_cons_succ, List.getElem_toArray, List.getElem_cons_zero, List.getElem_cons_succ]
            refine wpAnyH_take (i := 2) (v := ?_) rfl (by kernel_rfl) (by kernel_rfl) (by kernel_rfl) (fun _ _ _ h => h) (Or.inl ⟨by rfl, ?_⟩) (by assumption) ?_
            rotate_left
            · (intro w hSw; (try dsimp only at hSw); go_simp; (try with_reducible rfl))
            simp only [Act.put, List.setIfInBounds_toArray, List.set_cons_zero, List.set_cons_succ, List.getElem_toArray, List.getElem_cons_zero, List.getElem_cons_succ]
            refine wpAnyH_take (i := 3) (v := ?_) rfl (by kernel_rfl) (by kernel_rfl) (by kernel_rfl) (fun _ _ _ h => h) (Or.inl ⟨by rfl, ?_⟩) (by assumption) ?_
            rotate_left
            · (intro w hSw; (try dsimp only at hSw); go_simp; (try with_reducible rfl))
            simp only [Act.put, List.setIfInBounds_toArray, List.set_cons_zero, List.set_cons_succ, List.getElem_toArray, List.getElem_cons_zero, List.getElem_cons_succ]
            refine wpAnyH_take (i := 4) (v := ?_) rfl (by kernel_rfl) (by kernel_rfl) (by kernel_rfl) (fun _ _ _ h => h) (Or.inl ⟨by rfl, ?_⟩) (by assumption) ?_
            rotate_left
            · (intro w hSw; (try dsimp only at hSw); go_simp; (try with_reducible rfl))
            simp only [Act.put, List.setIfInBounds_toArray, List.set_cons_zero, List.set_cons_succ, List.getElem_toArray, List.getElem_cons_zero, List.getElem_cons_succ]
            refine wpAnyH_take (i := 5) (v := ?_) rfl (by kernel_rfl) (by kernel_rfl) (by kernel_rfl) (fun _ _ _ h => h) (Or.inl ⟨by rfl, ?_⟩) (by assumption) ?_
            rotate_left
            · (intro w hSw; (try dsimp only at hSw); go_simp; (try with_reducible rfl))
            simp only [Act.put, List.setIfInBounds_toArray, List.set_cons_zero, List.set_cons_succ, List.getElem_toArray, List.getElem_cons_zero, List.getElem_cons_succ]
            refine wpAnyH_take (i := 6) (v := ?_) rfl (by kernel_rfl) (by kernel_rfl) (by kernel_rfl) (fun _ _ _ h => h) (Or.inl ⟨by rfl, ?_⟩) (by assumption) ?_
            rotate_left
            · (intro w hSw; (try dsimp only at hSw); go_simp; (try with_reducible rfl))
            simp only [Act.put, List.setIfInBounds_toArray, List.set_cons_zero, List.set_cons_succ, List.getElem_toArray, List.getElem_cons_zero, List.getElem_cons_succ]
            refine wpAnyH_take (i := 7) (v := ?_) rfl (by kernel_rfl) (by kernel_rfl) (by kernel_rfl) (fun _ _ _ h => h) (Or.inl ⟨by rfl, ?_⟩) (by assumption) ?_
            rotate_left
            · (intro w hSw; (try dsimp only at hSw); go_simp; (try with_reducible rfl))
            simp only [Act.put, List.setIfInBounds_toArray, List.set_cons_zero, List.set_cons_succ, List.getElem_toArray, List.getElem_cons_zero, List.getElem_cons_succ]
            refine wpAnyH_take (i := 8) (v := ?_) rfl (by kernel_rfl) (by kernel_rfl) (by kernel_rfl) (fun _ _ _ h => h) (Or.inl ⟨by rfl, ?_⟩) (by assumption) ?_
            rotate_left
            · (intro w hSw; (try dsimp only at hSw); go_simp; (try with_reducible rfl))
            simp only [Act.put, List.setIfInBounds_toArray, List.set_cons_zero, List.set_cons_succ, List.getElem_toArray, List.getElem_cons_zero, List.getElem_cons_succ]
            refine wpAnyH_take (i := 9) (v := ?_) rfl (by kernel_rfl) (by kernel_rfl) (by kernel_rfl) (fun _ _ _ h => h) (Or.inl ⟨by rfl, ?_⟩) (by assumption) ?_
            rotate_left
            · (intro w hSw; (try dsimp only at hSw); go_simp; (try with_reducible rfl))
            simp only [Act.put, List.setIfInBounds_toArray, List.set_cons_zero, List.set_cons_succ, List.getElem_toArray, List.getElem_cons_zero, List.getElem_cons_succ]
            refine wpAnyH_take (i := 10) (v := ?_) rfl (by kernel_rfl) (by kernel_rfl) (by kernel_rfl) (fun _ _ _ h => h) (Or.inl ⟨by rfl, ?_⟩) (by assumption) ?_
            rotate_left
            · (intro w hSw; (try dsimp only at hSw); go_simp; (try with_reducible rfl))
            simp only [Act.put, List.setIfInBounds_toArray, List.set_cons_zero, List.set_cons_succ, List.getElem_toArray, List.getElem_cons_zero, List.getElem_cons_succ]
            refine wpAnyH_take (i := 11) (v := ?_) rfl (by kernel_rfl) (by kernel_rfl) (by kernel_rfl) (fun _ _ _ h => h) (Or.inl ⟨by rfl, ?_⟩) (by assumption) ?_
            rotate_left
            · (intro w hSw; (try dsimp only at hSw); go_simp; (try with_reducible rfl))
            simp only [Act.put, List.setIfInBounds_toArray, List.set_cons_zero, List.set_cons_succ, List.getElem_toArray, List.getElem_cons_zero, List.getElem_cons_succ]
            refine wpAnyH_ready (rs := [12]) (by kernel_rfl) (by simp) ?_
            refine AllReadyH.cons rfl (fun K hK => ?_) AllReadyH.nil
            go_simp
            (refine HSZ.out.mono ?_; rintro e wa ⟨rfl, ka⟩)
            go_wp2_with fail
            refine hK.out _ _ ⟨Kept.cell ka d0, Kept.cell ka cz⟩ (fun hHeld => ?_)
            clear hK K
            (try simp only [Act.put, List.setIfInBounds_toArray, List.set_cons_zero, List.set_cons_succ, List.getElem_toArray, List.getElem_cons_zero, List.getElem_cons_succ])
            refine wpAnyH_take (i := 13) (v := ?_) rfl (by kernel_rfl) (by kernel_rfl) (by kernel_rfl) (fun _ _ _ h => h) (Or.inl ⟨by rfl, ?_⟩) (by assumption) ?_
            rotate_left
            · (intro w hSw; (try dsimp only at hSw); go_simp; (try with_reducible rfl))
            simp only [Act.put, List.setIfInBounds_toArray, List.set_cons_zero, List.set_cons_succ, List.getElem_toArray, List.getElem_cons_zero, List.getElem_cons_succ]
            refine wpAnyH_take (i := 14) (v := ?_) rfl (by kernel_rfl) (by kernel_rfl) (by kernel_rfl) (fun _ _ _ h => h) (Or.inl ⟨by rfl, ?_⟩) (by assumption) ?_
            rotate_left
            · (intro w hSw; (try dsimp only at hSw); go_simp; (try with_reducible rfl))
            simp only [Act.put, List.setIfInBounds_toArray, List.set_cons_zero, List.set_cons_succ, List.getElem_toArray, List.getElem_cons_zero, List.getElem_cons_succ]
            refine wpAnyH_take (i := 15) (v := ?_) rfl (by kernel_rfl) (by kernel_rfl) (by kernel_rfl) (fun _ _ _ h => h) (Or.inl ⟨by rfl, ?_⟩) (by assumption) ?_
            rotate_left
            · (intro w hSw; (try dsimp only at hSw); go_simp; (try with_reducible rfl))
            simp only [Act.put, List.setIfInBounds_toArray, List.set_cons_zero, List.set_cons_succ, List.getElem_toArray, List.getElem_cons_zero, List.getElem_cons_succ]
            refine wpAnyH_take (i := 16) (v := ?_) rfl (by kernel_rfl) (by kernel_rfl) (by kernel_rfl) (fun _ _ _ h => h) (Or.inl ⟨by rfl, ?_⟩) (by assumption) ?_
            rotate_left
            · (intro w hSw; (try dsimp only at hSw); go_simp; (try with_reducible rfl))
            simp only [Act.put, List.setIfInBounds_toArray, List.set_cons_zero, List.set_cons_succ, List.getElem_toArray, List.getElem_cons_zero, List.getElem_cons_succ]
            refine wpAnyH_take (i := 17) (v := ?_) rfl (by kernel_rfl) (by kernel_rfl) (by kernel_rfl) (fun _ _ _ h => h) (Or.inl ⟨by rfl, ?_⟩) (by assumption) ?_
            rotate_left
            · (intro w hSw; (try dsimp only at hSw); go_simp; (try with_reducible rfl))
            simp only [Act.put, List.setIfInBounds_toArray, List.set_cons_zero, List.set_cons_succ, List.getElem_toArray, List.getElem_cons_zero, List.getElem_cons_succ]
            refine wpAnyH_take (i := 18) (v := ?_) rfl (by kernel_rfl) (by kernel_rfl) (by kernel_rfl) (fun _ _ _ h => h) (Or.inl ⟨by rfl, ?_⟩) (by assumption) ?_
            rotate_left
            · (intro w hSw; (try dsimp only at hSw); go_simp; (try with_reducible rfl))
            simp only [Act.put, List.setIfInBounds_toArray, List.set_cons_zero, List.set_cons_succ, List.getElem_toArray, List.getElem_cons_zero, List.getElem_cons_succ]
            refine wpAnyH_take (i := 19) (v := ?_) rfl (by kernel_rfl) (by kernel_rfl) (by kernel_rfl) (fun _ _ _ h => h) (Or.inl ⟨by rfl, ?_⟩) (by assumption) ?_
            rotate_left
            · (intro w hSw; (try dsimp only at hSw); go_simp; (try with_reducible rfl))
            simp only [Act.put, List.setIfInBounds_toArray, List.set_cons_zero, List.set_cons_succ, List.getElem_toArray, List.getElem_cons_zero, List.getElem_cons_succ]
            refine wpAnyH_take (i := 20) (v := ?_) rfl (by kernel_rfl) (by kernel_rfl) (by kernel_rfl) (fun _ _ _ h => h) (Or.inl ⟨by rfl, ?_⟩) (by assumption) ?_
            rotate_left
            · (intro w hSw; (try dsimp only at hSw); go_simp; (try with_reducible rfl))
            simp only [Act.put, List.setIfInBounds_toArray, List.set_cons_zero, List.set_cons_succ, List.getElem_toArray, List.getElem_cons_zero, List.getElem_cons_succ]
            refine wpAnyH_take (i := 21) (v := ?_) rfl (by kernel_rfl) (by kernel_rfl) (by kernel_rfl) (fun _ _ _ h => h) (Or.inl ⟨by rfl, ?_⟩) (by assumption) ?_
            rotate_left
            · (intro w hSw; (try dsimp only at hSw); go_simp; (try with_reducible rfl))
            simp only [Act.put, List.setIfInBounds_toArray, List.set_cons_zero, List.set_cons_succ, List.getElem_toArray, List.getElem_cons_zero, List.getElem_cons_succ]
            refine wpAnyH_take (i := 23) (v := ?_) rfl (by kernel_rfl) (by kernel_rfl) (by kernel_rfl) (fun _ _ _ h => h) (Or.inl ⟨by rfl, ?_⟩) (by assumption) ?_
            rotate_left
            · (intro w hSw; (try dsimp only at hSw); go_simp; (try with_reducible rfl))
            simp only [Act.put, List.setIfInBounds_toArray, List.set_cons_zero, List.set_cons_succ, List.getElem_toArray, List.getElem_cons_zero, List.getElem_cons_succ]
            refine wpAnyH_ready (rs := [22]) (by kernel_rfl) (by simp) ?_
            refine AllReadyH.cons rfl (fun K hK => ?_) AllReadyH.nil
            go_simp
            (refine (HCZ.out wa (Kept.trans KZ.out ka)).mono ?_; rintro e wq ⟨rfl, kq⟩)
            go_wp2_with fail
            refine hK.out _ _ ⟨Kept.cell kq (Kept.cell ka d0), Kept.cell kq (Kept.cell ka cz)⟩ (fun hHeld => ?_)
            clear hK K
            (try simp only [Act.put, List.setIfInBounds_toArray, List.set_cons_zero, List.set_cons_succ, List.getElem_toArray, List.getElem_cons_zero, List.getElem_cons_succ])
            refine wpAnyH_take (i := 24) (v := ?_) rfl (by kernel_rfl) (by kernel_rfl) (by kernel_rfl) (fun _ _ _ h => h) (Or.inl ⟨by rfl, ?_⟩) (by assumption) ?_
            rotate_left
            · (intro w hSw; (try dsimp only at hSw); go_simp; (try with_reducible rfl))
            simp only [Act.put, List.setIfInBounds_toArray, List.set_cons_zero, List.set_cons_succ, List.getElem_toArray, List.getElem_cons_zero, List.getElem_cons_succ]
            refine wpAnyH_take (i := 25) (v := ?_) rfl (by kernel_rfl) (by kernel_rfl) (by kernel_rfl) (fun _ _ _ h => h) (Or.inl ⟨by rfl, ?_⟩) (by assumption) ?_
            rotate_left
            · (intro w hSw; (try dsimp only at hSw); go_simp; (try with_reducible rfl))
            simp only [Act.put, List.setIfInBounds_toArray, List.set_cons_zero, List.set_cons_succ, List.getElem_toArray, List.getElem_cons_zero, List.getElem_cons_succ]
            refine wpAnyH_take (i := 26) (v := ?_) rfl (by kernel_rfl) (by kernel_rfl) (by kernel_rfl) (fun _ _ _ h => h) (Or.inl ⟨by rfl, ?_⟩) (by assumption) ?_
            rotate_left
            · (intro w hSw; (try dsimp only at hSw); go_simp; (try with_reducible rfl))
            simp only [Act.put, List.setIfInBounds_toArray, List.set_cons_zero, List.set_cons_succ, List.getElem_toArray, List.getElem_cons_zero, List.getElem_cons_succ]
            refine wpAnyH_take (i := 27) (v := ?_) rfl (by kernel_rfl) (by kernel_rfl) (by kernel_rfl) (fun _ _ _ h => h) (Or.inl ⟨by rfl, ?_⟩) (by assumption) ?_
            rotate_left
            · (intro w hSw; (try dsimp only at hSw); go_simp; (try with_reducible rfl))
            simp only [Act.put, List.setIfInBounds_toArray, List.set_cons_zero, List.set_cons_succ, List.getElem_toArray, List.getElem_cons_zero, List.getElem_cons_succ]
            refine wpAnyH_done (by kernel_rfl) ?_ _
            have Kq := Lib.hid (Kept.trans (Kept.drew K4.out) (Kept.trans ka kq))
            have KVq := Lib.hid (Kept.trans (Kept.drew (Kept.refl w4)) (Kept.trans ka kq))
            clear d0 cz ka kq hbl hge
            have hCq := (Kq.out.block bb (block_lt HC3.out)).trans HC3.out
            have d0 := cell_of_block (i := 0) hCq rfl
            have d1 := cell_of_block (i := 1) hCq rfl
            have d2 := cell_of_block (i := 2) hCq rfl
            simp only [List.getElem_toArray, List.getElem_cons_zero, List.getElem_cons_succ] at d0 d1 d2
            have cx := Kept.cell KVq.out HCX.out
            clear hCq
            have HJX := Lib.hid (HJ.out x y wq.drew (Kept.drew Kq.out))
            go_wp2_with fail
            cases hpr : pr x y with
            | none =>
              rw [hpr] at HJX
              rw [hpr] at HFR
              simp only at HFR
              clear hpr
              refine wp_region_held_drew (S := (fun w' => w'.cell? ⟨bb, 0, none⟩ = some (.slice s1.Ac s1.nc s1.cc) ∧ w'.cell? ⟨bb, 1, none⟩ = some (.slice s1.Am s1.nm s1.cm) ∧ w'.cell? ⟨bb, 2, none⟩ = some (.slice s1.Ae s1.ne s1.ce) ∧ w'.cell? ⟨g, k, none⟩ = some (.int .i64 x))) (by kernel_rfl) ⟨d0, d1, d2, cx⟩ (fun hHeld => ?_)
              refine wpAnyH_take (i := 0) (v := ?_) rfl (by kernel_rfl) (by kernel_rfl) (by kernel_rfl) (fun _ _ _ h => h) (Or.inl ⟨by rfl, ?_⟩) (by assumption) ?_
              rotate_left
              · (intro w hSw; (try dsimp only at hSw); go_simp; (try with_reducible rfl))
              simp only [Act.put, List.setIfInBounds_toArray, List.set_cons_zero, List.set_cons_succ, List.getElem_toArray, List.getElem_cons_zero]
              refine wpAnyH_take (i := 1) (v := ?_) rfl (by kernel_rfl) (by kernel_rfl) (by kernel_rfl) (fun _ _ _ h => h) (Or.inl ⟨by rfl, ?_⟩) (by assumption) ?_
              rotate_left
              · (intro w hSw; (try dsimp only at hSw); go_simp; (try with_reducible rfl))
              simp only [Act.put, List.setIfInBounds_toArray, List.set_cons_zero, List.set_cons_succ, List.getElem_toArray, List.getElem_cons_zero, List.getElem_cons_succ]
              refine wpAnyH_take (i := 2) (v := ?_) rfl (by kernel_rfl) (by kernel_rfl) (by kernel_rfl) (fun _ _ _ h => h) (Or.inl ⟨by rfl, ?_⟩) (by assumption) ?_
              rotate_left
              · (intro w hSw; (try dsimp only at hSw); go_simp; (try with_reducible rfl))
              simp only [Act.put, List.setIfInBounds_toArray, List.set_cons_zero, List.set_cons_succ, List.getElem_toArray, List.getElem_cons_zero, List.getElem_cons_succ]
              refine wpAnyH_take (i := 3) (v := ?_) rfl (by kernel_rfl) (by kernel_rfl) (by kernel_rfl) (fun _ _ _ h => h) (Or.inl ⟨by rfl, ?_⟩) (by assumption) ?_
              rotate_left
              · (intro w hSw; (try dsimp only at hSw); go_simp; (try with_reducible rfl))
              simp only [Act.put, List.setIfInBounds_toArray, List.set_cons_zero, List.set_cons_succ, List.getElem_toArray, List.getElem_cons_zero, List.getElem_cons_succ]
              refine wpAnyH_take (i := 4) (v := ?_) rfl (by kernel_rfl) (by kernel_rfl) (by kernel_rfl) (fun _ _ _ h => h) (Or.inl ⟨by rfl, ?_⟩) (by assumption) ?_
              rotate_left
              · (intro w hSw; (try dsimp only at hSw); go_simp; (try with_reducible rfl))
              simp only [Act.put, List.setIfInBounds_toArray, List.set_cons_zero, List.set_cons_succ, List.getElem_toArray, List.getElem_cons_zero, List.getElem_cons_succ]
              refine wpAnyH_take (i := 5) (v := ?_) rfl (by kernel_rfl) (by kernel_rfl) (by kernel_rfl) (fun _ _ _ h => h) (Or.inl ⟨by rfl, ?_⟩) (by assumption) ?_
              rotate_left
              · (intro w hSw; (try dsimp only at hSw); go_simp; (try with_reducible rfl))
              simp only [Act.put, List.setIfInBounds_toArray, List.set_cons_zero, List.set_cons_succ, List.getElem_toArray, List.getElem_cons_zero, List.getElem_cons_succ]
              refine wpAnyH_ready (rs := [6]) (by kernel_rfl) (by simp) ?_
              refine AllReadyH.cons rfl (fun K hK => ?_) AllReadyH.nil
              go_simp
              (refine HJX.out.mono ?_; rintro e w5 ⟨rfl, k6⟩)
              go_wp2_with fail
              refine hK.out _ _ ⟨Kept.cell k6 d0, Kept.cell k6 d1, Kept.cell k6 d2, Kept.cell k6 cx⟩ (fun hHeld => ?_)
              clear hK K
              (try simp only [Act.put, List.setIfInBounds_toArray, List.set_cons_zero, List.set_cons_succ, List.getElem_toArray, List.getElem_cons_zero, List.getElem_cons_succ])
              refine wpAnyH_take (i := 7) (v := ?_) rfl (by kernel_rfl) (by kernel_rfl) (by kernel_rfl) (fun _ _ _ h => h) (Or.inl ⟨by rfl, ?_⟩) (by assumption) ?_
              rotate_left
              · (intro w hSw; (try dsimp only at hSw); go_simp; (try with_reducible rfl))
              simp only [Act.put, List.setIfInBounds_toArray, List.set_cons_zero, List.set_cons_succ, List.getElem_toArray, List.getElem_cons_zero, List.getElem_cons_succ]
              refine wpAnyH_take (i := 8) (v := ?_) rfl (by kernel_rfl) (by kernel_rfl) (by kernel_rfl) (fun _ _ _ h => h) (Or.inl ⟨by rfl, ?_⟩) (by assumption) ?_
              rotate_left
              · (intro w hSw; (try dsimp only at hSw); go_simp; (try with_reducible rfl))
              simp only [Act.put, List.setIfInBounds_toArray, List.set_cons_zero, List.set_cons_succ, List.getElem_toArray, List.getElem_cons_zero, List.getElem_cons_succ]
              refine wpAnyH_take (i := 9) (v := ?_) rfl (by kernel_rfl) (by kernel_rfl) (by kernel_rfl) (fun _ _ _ h => h) (Or.inl ⟨by rfl, ?_⟩) (by assumption) ?_
              rotate_left
              · (intro w hSw; (try dsimp only at hSw); go_simp; (try with_reducible rfl))
              simp only [Act.put, List.setIfInBounds_toArray, List.set_cons_zero, List.set_cons_succ, List.getElem_toArray, List.getElem_cons_zero, List.getElem_cons_succ]
              refine wpAnyH_take (i := 10) (v := ?_) rfl (by kernel_rfl) (by kernel_rfl) (by kernel_rfl) (fun _ _ _ h => h) (Or.inl ⟨by rfl, ?_⟩) (by assumption) ?_
              rotate_left
              · (intro w hSw; (try dsimp only at hSw); go_simp; (try with_reducible rfl))
              simp only [Act.put, List.setIfInBounds_toArray, List.set_cons_zero, List.set_cons_succ, List.getElem_toArray, List.getElem_cons_zero, List.getElem_cons_succ]
              refine wpAnyH_take (i := 11) (v := ?_) rfl (by kernel_rfl) (by kernel_rfl) (by kernel_rfl) (fun _ _ _ h => h) (Or.inl ⟨by rfl, ?_⟩) (by assumption) ?_
              rotate_left
              · (intro w hSw; (try dsimp only at hSw); go_simp; (try with_reducible rfl))
              simp only [Act.put, List.setIfInBounds_toArray, List.set_cons_zero, List.set_cons_succ, List.getElem_toArray, List.getElem_cons_zero, List.getElem_cons_succ]
              refine wpAnyH_done (by kernel_rfl) ?_ _
              have K5 := Lib.hid (Kept.trans (Kept.drew Kq.out) k6)
              have hsz5 := K5.out.size
              have KV5 := Lib.hid (Kept.trans (Kept.drew KVq.out) k6)
              have HO5 := Lib.hid (own_kept HO4.out KV5.out)
              clear cx d0 d1 d2
              by_cases h0 : cy = 0
              · subst h0
                have hka := Kept.alloc (Kept.refl w5) (Obj.cells #[Value.int IntKind.i64 y] 3)
                have HKA := Lib.hid hka
                clear hka
                have hsb : IntKind.i64.wrap ((ln : Int) + 1 - 1) = (ln : Int) := by rw [show (ln : Int) + 1 - 1 = ln by omega]; exact IntWalk.i64_in _ (by omega)
                go_wp2_with (at_builtin; refine app_ints rfl _ _ rfl base _ _ rfl (by exact own_kept HO5.out HKA.out) _ _ _ [y] rfl (by exact Ints.alloc_ (xs := [y]) rfl rfl) (by simp; omega) (by simp; omega) ?_; intro v7 w7 hown7 hgrow7 hat7; have HO7 := Lib.hid hown7; obtain ⟨A7, c7, hv7, hle7, hI7⟩ := OwnI.sl hown7; rw [HLN7.out] at hv7; subst hv7; clear hown7 hI7)
                have K7 : Hid (Kept w3 w7) := Lib.hid ((Kept.trans K5.out HKA.out).grown hgrow7 (by simp; omega) (fun q e => by have := (World.ownsRow.lt HO5.out q e).1; omega))
                clear hsb
                go_roundw
                case rel => exact ⟨j + 1, by omega, by go_num, by rw [HFS.out, HFR.out, cpush_last0 HCYE.out, HLN.out], by rw [HFS.out, HFR.out]; exact HO7.out, by rw [HFS.out, HFR.out]; exact (HST.out.push y).free, K7.out⟩
                case measure => simp [intOf]; omega
              · have hb0 : (cy == 0) = false := by simpa using h0
                have HNE := Lib.hid h0
                clear h0
                have hka := Kept.alloc (Kept.refl w5) (Obj.cells #[Value.int IntKind.i64 y] 3)
                have HKA := Lib.hid hka
                clear hka
                have hsb : IntKind.i64.wrap ((ln : Int) + 1 - 1) = (ln : Int) := by rw [show (ln : Int) + 1 - 1 = ln by omega]; exact IntWalk.i64_in _ (by omega)
                go_wp2_with (at_builtin; refine app_ints rfl _ _ rfl base _ _ rfl (by exact own_kept HO5.out HKA.out) _ _ _ [y] rfl (by exact Ints.alloc_ (xs := [y]) rfl rfl) (by simp; omega) (by simp; omega) ?_; intro v7 w7 hown7 hgrow7 hat7; have HO7 := Lib.hid hown7; obtain ⟨A7, c7, hv7, hle7, hI7⟩ := OwnI.sl hown7; rw [HLN7.out] at hv7; subst hv7; clear hown7 hI7)
                have K7 : Hid (Kept w3 w7) := Lib.hid ((Kept.trans K5.out HKA.out).grown hgrow7 (by simp; omega) (fun q e => by have := (World.ownsRow.lt HO5.out q e).1; omega))
                clear hsb
                go_roundw
                case rel => exact ⟨j + 1, by omega, by go_num, by rw [HFS.out, HFR.out, cpush_last1 (by rw [HCYE.out]; exact HNE.out)]; rfl, by rw [HFS.out, HFR.out]; exact HO7.out, by rw [HFS.out, HFR.out]; exact (HST.out.push y).free, K7.out⟩
                case measure => simp [intOf]; omega
            | some v =>
              rw [hpr] at HJX
              rw [hpr] at HFR
              simp only at HFR
              clear hpr
              refine wp_region_held_drew (S := (fun w' => w'.cell? ⟨bb, 0, none⟩ = some (.slice s1.Ac s1.nc s1.cc) ∧ w'.cell? ⟨bb, 1, none⟩ = some (.slice s1.Am s1.nm s1.cm) ∧ w'.cell? ⟨bb, 2, none⟩ = some (.slice s1.Ae s1.ne s1.ce) ∧ w'.cell? ⟨g, k, none⟩ = some (.int .i64 x))) (by kernel_rfl) ⟨d0, d1, d2, cx⟩ (fun hHeld => ?_)
              refine wpAnyH_take (i := 0) (v := ?_) rfl (by kernel_rfl) (by kernel_rfl) (by kernel_rfl) (fun _ _ _ h => h) (Or.inl ⟨by rfl, ?_⟩) (by assumption) ?_
              rotate_left
              · (intro w hSw; (try dsimp only at hSw); go_simp; (try with_reducible rfl))
              simp only [Act.put, List.setIfInBounds_toArray, List.set_cons_zero, List.set_cons_succ, List.getElem_toArray, List.getElem_cons_zero]
              refine wpAnyH_take (i := 1) (v := ?_) rfl (by kernel_rfl) (by kernel_rfl) (by kernel_rfl) (fun _ _ _ h => h) (Or.inl ⟨by rfl, ?_⟩) (by assumption) ?_
              rotate_left
              · (intro w hSw; (try dsimp only at hSw); go_simp; (try with_reducible rfl))
              simp only [Act.put, List.setIfInBounds_toArray, List.set_cons_zero, List.set_cons_succ, List.getElem_toArray, List.getElem_cons_zero, List.getElem_cons_succ]
              refine wpAnyH_take (i := 2) (v := ?_) rfl (by kernel_rfl) (by kernel_rfl) (by kernel_rfl) (fun _ _ _ h => h) (Or.inl ⟨by rfl, ?_⟩) (by assumption) ?_
              rotate_left
              · (intro w hSw; (try dsimp only at hSw); go_simp; (try with_reducible rfl))
              simp only [Act.put, List.setIfInBounds_toArray, List.set_cons_zero, List.set_cons_succ, List.getElem_toArray, List.getElem_cons_zero, List.getElem_cons_succ]
              refine wpAnyH_take (i := 3) (v := ?_) rfl (by kernel_rfl) (by kernel_rfl) (by kernel_rfl) (fun _ _ _ h => h) (Or.inl ⟨by rfl, ?_⟩) (by assumption) ?_
              rotate_left
              · (intro w hSw; (try dsimp only at hSw); go_simp; (try with_reducible rfl))
              simp only [Act.put, List.setIfInBounds_toArray, List.set_cons_zero, List.set_cons_succ, List.getElem_toArray, List.getElem_cons_zero, List.getElem_cons_succ]
              refine wpAnyH_take (i := 4) (v := ?_) rfl (by kernel_rfl) (by kernel_rfl) (by kernel_rfl) (fun _ _ _ h => h) (Or.inl ⟨by rfl, ?_⟩) (by assumption) ?_
              rotate_left
              · (intro w hSw; (try dsimp only at hSw); go_simp; (try with_reducible rfl))
              simp only [Act.put, List.setIfInBounds_toArray, List.set_cons_zero, List.set_cons_succ, List.getElem_toArray, List.getElem_cons_zero, List.getElem_cons_succ]
              refine wpAnyH_take (i := 5) (v := ?_) rfl (by kernel_rfl) (by kernel_rfl) (by kernel_rfl) (fun _ _ _ h => h) (Or.inl ⟨by rfl, ?_⟩) (by assumption) ?_
              rotate_left
              · (intro w hSw; (try dsimp only at hSw); go_simp; (try with_reducible rfl))
              simp only [Act.put, List.setIfInBounds_toArray, List.set_cons_zero, List.set_cons_succ, List.getElem_toArray, List.getElem_cons_zero, List.getElem_cons_succ]
              refine wpAnyH_ready (rs := [6]) (by kernel_rfl) (by simp) ?_
              refine AllReadyH.cons rfl (fun K hK => ?_) AllReadyH.nil
              go_simp
              (refine HJX.out.mono ?_; rintro e w5 ⟨rfl, k6⟩)
              go_wp2_with fail
              refine hK.out _ _ ⟨Kept.cell k6 d0, Kept.cell k6 d1, Kept.cell k6 d2, Kept.cell k6 cx⟩ (fun hHeld => ?_)
              clear hK K
              (try simp only [Act.put, List.setIfInBounds_toArray, List.set_cons_zero, List.set_cons_succ, List.getElem_toArray, List.getElem_cons_zero, List.getElem_cons_succ])
              refine wpAnyH_take (i := 7) (v := ?_) rfl (by kernel_rfl) (by kernel_rfl) (by kernel_rfl) (fun _ _ _ h => h) (Or.inl ⟨by rfl, ?_⟩) (by assumption) ?_
              rotate_left
              · (intro w hSw; (try dsimp only at hSw); go_simp; (try with_reducible rfl))
              simp only [Act.put, List.setIfInBounds_toArray, List.set_cons_zero, List.set_cons_succ, List.getElem_toArray, List.getElem_cons_zero, List.getElem_cons_succ]
              refine wpAnyH_take (i := 8) (v := ?_) rfl (by kernel_rfl) (by kernel_rfl) (by kernel_rfl) (fun _ _ _ h => h) (Or.inl ⟨by rfl, ?_⟩) (by assumption) ?_
              rotate_left
              · (intro w hSw; (try dsimp only at hSw); go_simp; (try with_reducible rfl))
              simp only [Act.put, List.setIfInBounds_toArray, List.set_cons_zero, List.set_cons_succ, List.getElem_toArray, List.getElem_cons_zero, List.getElem_cons_succ]
              refine wpAnyH_take (i := 9) (v := ?_) rfl (by kernel_rfl) (by kernel_rfl) (by kernel_rfl) (fun _ _ _ h => h) (Or.inl ⟨by rfl, ?_⟩) (by assumption) ?_
              rotate_left
              · (intro w hSw; (try dsimp only at hSw); go_simp; (try with_reducible rfl))
              simp only [Act.put, List.setIfInBounds_toArray, List.set_cons_zero, List.set_cons_succ, List.getElem_toArray, List.getElem_cons_zero, List.getElem_cons_succ]
              refine wpAnyH_take (i := 10) (v := ?_) rfl (by kernel_rfl) (by kernel_rfl) (by kernel_rfl) (fun _ _ _ h => h) (Or.inl ⟨by rfl, ?_⟩) (by assumption) ?_
              rotate_left
              · (intro w hSw; (try dsimp only at hSw); go_simp; (try with_reducible rfl))
              simp only [Act.put, List.setIfInBounds_toArray, List.set_cons_zero, List.set_cons_succ, List.getElem_toArray, List.getElem_cons_zero, List.getElem_cons_succ]
              refine wpAnyH_take (i := 11) (v := ?_) rfl (by kernel_rfl) (by kernel_rfl) (by kernel_rfl) (fun _ _ _ h => h) (Or.inl ⟨by rfl, ?_⟩) (by assumption) ?_
              rotate_left
              · (intro w hSw; (try dsimp only at hSw); go_simp; (try with_reducible rfl))
              simp only [Act.put, List.setIfInBounds_toArray, List.set_cons_zero, List.set_cons_succ, List.getElem_toArray, List.getElem_cons_zero, List.getElem_cons_succ]
              refine wpAnyH_done (by kernel_rfl) ?_ _
              have K5 := Lib.hid (Kept.trans (Kept.drew Kq.out) k6)
              have hsz5 := K5.out.size
              have KV5 := Lib.hid (Kept.trans (Kept.drew KVq.out) k6)
              have hv5 : w5.ownsRow base 3 1 (.slice (some ⟨g, 0, none⟩) ln co) ln (L.map (Value.int .i64)) := own_kept HV2.out KV5.out
              have f5 := hv5.frozenAt k
              have c5 := Kept.cell KV5.out HCX.out
              have hst := (hv5.stored k (.int .i64 v)).1
              rw [← List.map_set] at hst
              have HO6 := Lib.hid (show OwnI (w5.setCell ⟨g, k, none⟩ (.int .i64 v)) base (.slice (some ⟨g, 0, none⟩) ln co) (L.set k v) by
                unfold OwnI
                rw [List.length_set, ← HLN.out]
                exact hst)
              have HK6 := Lib.hid (Kept.setCell K5.out (p := ⟨g, k, none⟩) (by simp; omega) (.int .i64 v))
              clear hv5 hst cx d0 d1 d2
              go_wp2_with fail
              go_roundw
              case rel => exact ⟨j + 1, by omega, by go_num, by rw [HFS.out, HFR.out]; rfl, by rw [HFS.out, HFR.out]; exact HO6.out, by rw [HFS.out, HFR.out]; exact (HST.out.set v).free, HK6.out⟩
              case measure => simp [intOf]; omega
        · have hlk : ln = k + 1 := by have := HLN.out; omega
          have HFR := Lib.hid (cstep_free (cls := cls) (pr := pr) (c := y) HST.out (fun h => hb1 h.1) HX.out)
          have hl0 : ln - (k + 1) = 0 := by omega
          clear hlk hqq
          by_cases hne : co = k + 1
          · subst hne
            go_wp2_with fail
            refine wp_region_held_drew (S := (fun _ => True)) (by kernel_rfl) trivial (fun hHeld => ?_)
            refine wpAnyH_take (i := 0) (v := ?_) rfl (by kernel_rfl) (by kernel_rfl) (by kernel_rfl) (fun _ _ _ h => h) (Or.inl ⟨by rfl, ?_⟩) (by assumption) ?_
            rotate_left
            · (intro w hSw; (try dsimp only at hSw); go_simp; (try with_reducible rfl))
            simp only [Act.put, List.setIfInBounds_toArray, List.set_cons_zero, List.set_cons_succ, List.getElem_toArray, List.getElem_cons_zero]
            refine wpAnyH_take (i := 1) (v := ?_) rfl (by kernel_rfl) (by kernel_rfl) (by kernel_rfl) (fun _ _ _ h => h) (Or.inl ⟨by rfl, ?_⟩) (by assumption) ?_
            rotate_left
            · (intro w hSw; (try dsimp only at hSw); go_simp; (try with_reducible rfl))
            simp only [Act.put, List.setIfInBounds_toArray, List.set_cons_zero, List.set_cons_succ, List.getElem_toArray, List.getElem_cons_zero, List.getElem_cons_succ]
            refine wpAnyH_take (i := 2) (v := ?_) rfl (by kernel_rfl) (by kernel_rfl) (by kernel_rfl) (fun _ _ _ h => h) (Or.inl ⟨by rfl, ?_⟩) (by assumption) ?_
            rotate_left
            · (intro w hSw; (try dsimp only at hSw); go_simp; (try with_reducible rfl))
            simp only [Act.put, List.setIfInBounds_toArray, List.set_cons_zero, List.set_cons_succ, List.getElem_toArray, List.getElem_cons_zero, List.getElem_cons_succ]
            refine wpAnyH_take (i := 3) (v := ?_) rfl (by kernel_rfl) (by kernel_rfl) (by kernel_rfl) (fun _ _ _ h => h) (Or.inl ⟨by rfl, ?_⟩) (by assumption) ?_
            rotate_left
            · (intro w hSw; (try dsimp only at hSw); go_simp; (try with_reducible rfl))
            simp only [Act.put, List.setIfInBounds_toArray, List.set_cons_zero, List.set_cons_succ, List.getElem_toArray, List.getElem_cons_zero, List.getElem_cons_succ]
            refine wpAnyH_take (i := 4) (v := undef) rfl (by kernel_rfl) (by kernel_rfl) (by kernel_rfl) (fun _ _ _ h => h) (Or.inr ⟨by rfl, rfl⟩) (by assumption) ?_
            simp only [Act.put, List.setIfInBounds_toArray, List.set_cons_zero, List.set_cons_succ, List.getElem_toArray, List.getElem_cons_zero, List.getElem_cons_succ]
            refine wpAnyH_take (i := 5) (v := undef) rfl (by kernel_rfl) (by kernel_rfl) (by kernel_rfl) (fun _ _ _ h => h) (Or.inr ⟨by rfl, rfl⟩) (by assumption) ?_
            simp only [Act.put, List.setIfInBounds_toArray, List.set_cons_zero, List.set_cons_succ, List.getElem_toArray, List.getElem_cons_zero, List.getElem_cons_succ]
            refine wpAnyH_take (i := 6) (v := undef) rfl (by kernel_rfl) (by kernel_rfl) (by kernel_rfl) (fun _ _ _ h => h) (Or.inr ⟨by rfl, rfl⟩) (by assumption) ?_
            simp only [Act.put, List.setIfInBounds_toArray, List.set_cons_zero, List.set_cons_succ, List.getElem_toArray, List.getElem_cons_zero, List.getElem_cons_succ]
            refine wpAnyH_take (i := 7) (v := undef) rfl (by kernel_rfl) (by kernel_rfl) (by kernel_rfl) (fun _ _ _ h => h) (Or.inr ⟨by rfl, rfl⟩) (by assumption) ?_
            simp only [Act.put, List.setIfInBounds_toArray, List.set_cons_zero, List.set_cons_succ, List.getElem_toArray, List.getElem_cons_zero, List.getElem_cons_succ]
            refine wpAnyH_take (i := 8) (v := undef) rfl (by kernel_rfl) (by kernel_rfl) (by kernel_rfl) (fun _ _ _ h => h) (Or.inr ⟨by rfl, rfl⟩) (by assumption) ?_
            simp only [Act.put, List.setIfInBounds_toArray, List.set_cons_zero, List.set_cons_succ, List.getElem_toArray, List.getElem_cons_zero, List.getElem_cons_succ]
            refine wpAnyH_take (i := 9) (v := undef) rfl (by kernel_rfl) (by kernel_rfl) (by kernel_rfl) (fun _ _ _ h => h) (Or.inr ⟨by rfl, rfl⟩) (by assumption) ?_
            simp only [Act.put, List.setIfInBounds_toArray, List.set_cons_zero, List.set_cons_succ, List.getElem_toArray, List.getElem_cons_zero, List.getElem_cons_succ]
            refine wpAnyH_take (i := 10) (v := undef) rfl (by kernel_rfl) (by kernel_rfl) (by kernel_rfl) (fun _ _ _ h => h) (Or.inr ⟨by rfl, rfl⟩) (by assumption) ?_
            simp only [Act.put, List.setIfInBounds_toArray, List.set_cons_zero, List.set_cons_succ, List.getElem_toArray, List.getElem_cons_zero, List.getElem_cons_succ]
            refine wpAnyH_take (i := 11) (v := undef) rfl (by kernel_rfl) (by kernel_rfl) (by kernel_rfl) (fun _ _ _ h => h) (Or.inr ⟨by rfl, rfl⟩) (by assumption) ?_
            simp only [Act.put, List.setIfInBounds_toArray, List.set_cons_zero, List.set_cons_succ, List.getElem_toArray, List.getElem_cons_zero, List.getElem_cons_succ]
            refine wpAnyH_take (i := 12) (v := undef) rfl (by kernel_rfl) (by kernel_rfl) (by kernel_rfl) (fun _ _ _ h => h) (Or.inr ⟨by rfl, rfl⟩) (by assumption) ?_
            simp only [Act.put, List.setIfInBounds_toArray, List.set_cons_zero, List.set_cons_succ, List.getElem_toArray, List.getElem_cons_zero, List.getElem_cons_succ]
            refine wpAnyH_take (i := 13) (v := undef) rfl (by kernel_rfl) (by kernel_rfl) (by kernel_rfl) (fun _ _ _ h => h) (Or.inr ⟨by rfl, rfl⟩) (by assumption) ?_
            simp only [Act.put, List.setIfInBounds_toArray, List.set_cons_zero, List.set_cons_succ, List.getElem_toArray, List.getElem_cons_zero, List.getElem_cons_succ]
            refine wpAnyH_take (i := 14) (v := undef) rfl (by kernel_rfl) (by kernel_rfl) (by kernel_rfl) (fun _ _ _ h => h) (Or.inr ⟨by rfl, rfl⟩) (by assumption) ?_
            simp only [Act.put, List.setIfInBounds_toArray, List.set_cons_zero, List.set_cons_succ, List.getElem_toArray, List.getElem_cons_zero, List.getElem_cons_succ]
            refine wpAnyH_take (i := 15) (v := undef) rfl (by kernel_rfl) (by kernel_rfl) (by kernel_rfl) (fun _ _ _ h => h) (Or.inr ⟨by rfl, rfl⟩) (by assumption) ?_
            simp only [Act.put, List.setIfInBounds_toArray, List.set_cons_zero, List.set_cons_succ, List.getElem_toArray, List.getElem_cons_zero, List.getElem_cons_succ]
            refine wpAnyH_take (i := 16) (v := undef) rfl (by kernel_rfl) (by kernel_rfl) (by kernel_rfl) (fun _ _ _ h => h) (Or.inr ⟨by rfl, rfl⟩) (by assumption) ?_
            simp only [Act.put, List.setIfInBounds_toArray, List.set_cons_zero, List.set_cons_succ, List.getElem_toArray, List.getElem_cons_zero, List.getElem_cons_succ]
            refine wpAnyH_take (i := 17) (v := undef) rfl (by kernel_rfl) (by kernel_rfl) (by kernel_rfl) (fun _ _ _ h => h) (Or.inr ⟨by rfl, rfl⟩) (by assumption) ?_
            simp only [Act.put, List.setIfInBounds_toArray, List.set_cons_zero, List.set_cons_succ, List.getElem_toArray, List.getElem_cons_zero, List.getElem_cons_succ]
            refine wpAnyH_take (i := 18) (v := undef) rfl (by kernel_rfl) (by kernel_rfl) (by kernel_rfl) (fun _ _ _ h => h) (Or.inr ⟨by rfl, rfl⟩) (by assumption) ?_
            simp only [Act.put, List.setIfInBounds_toArray, List.set_cons_zero, List.set_cons_succ, List.getElem_toArray, List.getElem_cons_zero, List.getElem_cons_succ]
            refine wpAnyH_take (i := 19) (v := undef) rfl (by kernel_rfl) (by kernel_rfl) (by kernel_rfl) (fun _ _ _ h => h) (Or.inr ⟨by rfl, rfl⟩) (by assumption) ?_
            simp only [Act.put, List.setIfInBounds_toArray, List.set_cons_zero, List.set_cons_succ, List.getElem_toArray, List.getElem_cons_zero, List.getElem_cons_succ]
            refine wpAnyH_take (i := 20) (v := undef) rfl (by kernel_rfl) (by kernel_rfl) (by kernel_rfl) (fun _ _ _ h => h) (Or.inr ⟨by rfl, rfl⟩) (by assumption) ?_
            simp only [Act.put, List.setIfInBounds_toArray, List.set_cons_zero, List.set_cons_succ, List.getElem_toArray, List.getElem_cons_zero, List.getElem_cons_succ]
            refine wpAnyH_take (i := 21) (v := undef) rfl (by kernel_rfl) (by kernel_rfl) (by kernel_rfl) (fun _ _ _ h => h) (Or.inr ⟨by rfl, rfl⟩) (by assumption) ?_
            simp only [Act.put, List.setIfInBounds_toArray, List.set_cons_zero, List.set_cons_succ, List.getElem_toArray, List.getElem_cons_zero, List.getElem_cons_succ]
            refine wpAnyH_take (i := 22) (v := undef) rfl (by kernel_rfl) (by kernel_rfl) (by kernel_rfl) (fun _ _ _ h => h) (Or.inr ⟨by rfl, rfl⟩) (by assumption) ?_
            simp only [Act.put, List.setIfInBounds_toArray, List.set_cons_zero, List.set_cons_succ, List.getElem_toArray, List.getElem_cons_zero, List.getElem_cons_succ]
            refine wpAnyH_take (i := 23) (v := undef) rfl (by kernel_rfl) (by kernel_rfl) (by kernel_rfl) (fun _ _ _ h => h) (Or.inr ⟨by rfl, rfl⟩) (by assumption) ?_
            simp only [Act.put, List.setIfInBounds_toArray, List.set_cons_zero, List.set_cons_succ, List.getElem_toArray, List.getElem_cons_zero, List.getElem_cons_succ]
            refine wpAnyH_take (i := 24) (v := undef) rfl (by kernel_rfl) (by kernel_rfl) (by kernel_rfl) (fun _ _ _ h => h) (Or.inr ⟨by rfl, rfl⟩) (by assumption) ?_
            simp only [Act.put, List.setIfInBounds_toArray, List.set_cons_zero, List.set_cons_succ, List.getElem_toArray, List.getElem_cons_zero, List.getElem_cons_succ]
            refine wpAnyH_take (i := 25) (v := undef) rfl (by kernel_rfl) (by kernel_rfl) (by kernel_rfl) (fun _ _ _ h => h) (Or.inr ⟨by rfl, rfl⟩) (by assumption) ?_
            simp only [Act.put, List.setIfInBounds_toArray, List.set_cons_zero, List.set_cons_succ, List.getElem_toArray, List.getElem_cons_zero, List.getElem_cons_succ]
            refine wpAnyH_take (i := 26) (v := ?_) rfl (by kernel_rfl) (by kernel_rfl) (by kernel_rfl) (fun _ _ _ h => h) (Or.inl ⟨by rfl, ?_⟩) (by assumption) ?_
            rotate_left
            · (intro w hSw; (try dsimp only at hSw); go_simp; (try with_reducible rfl))
            simp only [Act.put, List.setIfInBounds_toArray, List.set_cons_zero, List.set_cons_succ, List.getElem_toArray, List.getElem_cons_zero, List.getElem_cons_succ]
            refine wpAnyH_take (i := 27) (v := ?_) rfl (by kernel_rfl) (by kernel_rfl) (by kernel_rfl) (fun _ _ _ h => h) (Or.inl ⟨by rfl, ?_⟩) (by assumption) ?_
            rotate_left
            · (intro w hSw; (try dsimp only at hSw); go_simp; (try with_reducible rfl))
            simp only [Act.put, List.setIfInBounds_toArray, List.set_cons_zero, List.set_cons_succ, List.getElem_toArray, List.getElem_cons_zero, List.getElem_cons_succ]
            refine wpAnyH_done (by kernel_rfl) ?_ _
            have Kq := Lib.hid (Kept.drew K4.out)
            have KVq := Lib.hid (Kept.drew (Kept.refl w4))
            generalize w4.drew = wq at *
            have hCq := (Kq.out.block bb (block_lt HC3.out)).trans HC3.out
            have d0 := cell_of_block (i := 0) hCq rfl
            have d1 := cell_of_block (i := 1) hCq rfl
            have d2 := cell_of_block (i := 2) hCq rfl
            simp only [List.getElem_toArray, List.getElem_cons_zero, List.getElem_cons_succ] at d0 d1 d2
            have cx := Kept.cell KVq.out HCX.out
            clear hCq
            have HJX := Lib.hid (HJ.out x y wq.drew (Kept.drew Kq.out))
            go_wp2_with fail
            cases hpr : pr x y with
            | none =>
              rw [hpr] at HJX
              rw [hpr] at HFR
              simp only at HFR
              clear hpr
              refine wp_region_held_drew (S := (fun w' => w'.cell? ⟨bb, 0, none⟩ = some (.slice s1.Ac s1.nc s1.cc) ∧ w'.cell? ⟨bb, 1, none⟩ = some (.slice s1.Am s1.nm s1.cm) ∧ w'.cell? ⟨bb, 2, none⟩ = some (.slice s1.Ae s1.ne s1.ce) ∧ w'.cell? ⟨g, k, none⟩ = some (.int .i64 x))) (by kernel_rfl) ⟨d0, d1, d2, cx⟩ (fun hHeld => ?_)
              refine wpAnyH_take (i := 0) (v := ?_) rfl (by kernel_rfl) (by kernel_rfl) (by kernel_rfl) (fun _ _ _ h => h) (Or.inl ⟨by rfl, ?_⟩) (by assumption) ?_
              rotate_left
              · (intro w hSw; (try dsimp only at hSw); go_simp; (try with_reducible rfl))
              simp only [Act.put, List.setIfInBounds_toArray, List.set_cons_zero, List.set_cons_succ, List.getElem_toArray, List.getElem_cons_zero]
              refine wpAnyH_take (i := 1) (v := ?_) rfl (by kernel_rfl) (by kernel_rfl) (by kernel_rfl) (fun _ _ _ h => h) (Or.inl ⟨by rfl, ?_⟩) (by assumption) ?_
              rotate_left
              · (intro w hSw; (try dsimp only at hSw); go_simp; (try with_reducible rfl))
              simp only [Act.put, List.setIfInBounds_toArray, List.set_cons_zero, List.set_cons_succ, List.getElem_toArray, List.getElem_cons_zero, List.getElem_cons_succ]
              refine wpAnyH_take (i := 2) (v := ?_) rfl (by kernel_rfl) (by kernel_rfl) (by kernel_rfl) (fun _ _ _ h => h) (Or.inl ⟨by rfl, ?_⟩) (by assumption) ?_
              rotate_left
              · (intro w hSw; (try dsimp only at hSw); go_simp; (try with_reducible rfl))
              simp only [Act.put, List.setIfInBounds_toArray, List.set_cons_zero, List.set_cons_succ, List.getElem_toArray, List.getElem_cons_zero, List.getElem_cons_succ]
              refine wpAnyH_take (i := 3) (v := ?_) rfl (by kernel_rfl) (by kernel_rfl) (by kernel_rfl) (fun _ _ _ h => h) (Or.inl ⟨by rfl, ?_⟩) (by assumption) ?_
              rotate_left
              · (intro w hSw; (try dsimp only at hSw); go_simp; (try with_reducible rfl))
              simp only [Act.put, List.setIfInBounds_toArray, List.set_cons_zero, List.set_cons_succ, List.getElem_toArray, List.getElem_cons_zero, List.getElem_cons_succ]
              refine wpAnyH_take (i := 4) (v := ?_) rfl (by kernel_rfl) (by kernel_rfl) (by kernel_rfl) (fun _ _ _ h => h) (Or.inl ⟨by rfl, ?_⟩) (by assumption) ?_
              rotate_left
              · (intro w hSw; (try dsimp only at hSw); go_simp; (try with_reducible rfl))
              simp only [Act.put, List.setIfInBounds_toArray, List.set_cons_zero, List.set_cons_succ, List.getElem_toArray, List.getElem_cons_zero, List.getElem_cons_succ]
              refine wpAnyH_take (i := 5) (v := ?_) rfl (by kernel_rfl) (by kernel_rfl) (by kernel_rfl) (fun _ _ _ h => h) (Or.inl ⟨by rfl, ?_⟩) (by assumption) ?_
              rotate_left
              · (intro w hSw; (try dsimp only at hSw); go_simp; (try with_reducible rfl))
              simp only [Act.put, List.setIfInBounds_toArray, List.set_cons_zero, List.set_cons_succ, List.getElem_toArray, List.getElem_cons_zero, List.getElem_cons_succ]
              refine wpAnyH_ready (rs := [6]) (by kernel_rfl) (by simp) ?_
              refine AllReadyH.cons rfl (fun K hK => ?_) AllReadyH.nil
              go_simp
              (refine HJX.out.mono ?_; rintro e w5 ⟨rfl, k6⟩)
              go_wp2_with fail
              refine hK.out _ _ ⟨Kept.cell k6 d0, Kept.cell k6 d1, Kept.cell k6 d2, Kept.cell k6 cx⟩ (fun hHeld => ?_)
              clear hK K
              (try simp only [Act.put, List.setIfInBounds_toArray, List.set_cons_zero, List.set_cons_succ, List.getElem_toArray, List.getElem_cons_zero, List.getElem_cons_succ])
              refine wpAnyH_take (i := 7) (v := ?_) rfl (by kernel_rfl) (by kernel_rfl) (by kernel_rfl) (fun _ _ _ h => h) (Or.inl ⟨by rfl, ?_⟩) (by assumption) ?_
              rotate_left
              · (intro w hSw; (try dsimp only at hSw); go_simp; (try with_reducible rfl))
              simp only [Act.put, List.setIfInBounds_toArray, List.set_cons_zero, List.set_cons_succ, List.getElem_toArray, List.getElem_cons_zero, List.getElem_cons_succ]
              refine wpAnyH_take (i := 8) (v := ?_) rfl (by kernel_rfl) (by kernel_rfl) (by kernel_rfl) (fun _ _ _ h => h) (Or.inl ⟨by rfl, ?_⟩) (by assumption) ?_
              rotate_left
              · (intro w hSw; (try dsimp only at hSw); go_simp; (try with_reducible rfl))
              simp only [Act.put, List.setIfInBounds_toArray, List.set_cons_zero, List.set_cons_succ, List.getElem_toArray, List.getElem_cons_zero, List.getElem_cons_succ]
              refine wpAnyH_take (i := 9) (v := ?_) rfl (by kernel_rfl) (by kernel_rfl) (by kernel_rfl) (fun _ _ _ h => h) (Or.inl ⟨by rfl, ?_⟩) (by assumption) ?_
              rotate_left
              · (intro w hSw; (try dsimp only at hSw); go_simp; (try with_reducible rfl))
              simp only [Act.put, List.setIfInBounds_toArray, List.set_cons_zero, List.set_cons_succ, List.getElem_toArray, List.getElem_cons_zero, List.getElem_cons_succ]
              refine wpAnyH_take (i := 10) (v := ?_) rfl (by kernel_rfl) (by kernel_rfl) (by kernel_rfl) (fun _ _ _ h => h) (Or.inl ⟨by rfl, ?_⟩) (by assumption) ?_
              rotate_left
              · (intro w hSw; (try dsimp only at hSw); go_simp; (try with_reducible rfl))
              simp only [Act.put, List.setIfInBounds_toArray, List.set_cons_zero, List.set_cons_succ, List.getElem_toArray, List.getElem_cons_zero, List.getElem_cons_succ]
              refine wpAnyH_take (i := 11) (v := ?_) rfl (by kernel_rfl) (by kernel_rfl) (by kernel_rfl) (fun _ _ _ h => h) (Or.inl ⟨by rfl, ?_⟩) (by assumption) ?_
              rotate_left
              · (intro w hSw; (try dsimp only at hSw); go_simp; (try with_reducible rfl))
              simp only [Act.put, List.setIfInBounds_toArray, List.set_cons_zero, List.set_cons_succ, List.getElem_toArray, List.getElem_cons_zero, List.getElem_cons_succ]
              refine wpAnyH_done (by kernel_rfl) ?_ _
              have K5 := Lib.hid (Kept.trans (Kept.drew Kq.out) k6)
              have hsz5 := K5.out.size
              have KV5 := Lib.hid (Kept.trans (Kept.drew KVq.out) k6)
              have HO5 := Lib.hid (own_kept HO4.out KV5.out)
              clear cx d0 d1 d2
              by_cases h0 : cy = 0
              · subst h0
                have hka := Kept.alloc (Kept.refl w5) (Obj.cells #[Value.int IntKind.i64 y] 3)
                have HKA := Lib.hid hka
                clear hka
                have hsb : IntKind.i64.wrap ((ln : Int) + 1 - 1) = (ln : Int) := by rw [show (ln : Int) + 1 - 1 = ln by omega]; exact IntWalk.i64_in _ (by omega)
                go_wp2_with (at_builtin; refine app_ints rfl _ _ rfl base _ _ rfl (by exact own_kept HO5.out HKA.out) _ _ _ [y] rfl (by exact Ints.alloc_ (xs := [y]) rfl rfl) (by simp; omega) (by simp; omega) ?_; intro v7 w7 hown7 hgrow7 hat7; have HO7 := Lib.hid hown7; obtain ⟨A7, c7, hv7, hle7, hI7⟩ := OwnI.sl hown7; rw [HLN7.out] at hv7; subst hv7; clear hown7 hI7)
                have K7 : Hid (Kept w3 w7) := Lib.hid ((Kept.trans K5.out HKA.out).grown hgrow7 (by simp; omega) (fun q e => by have := (World.ownsRow.lt HO5.out q e).1; omega))
                clear hsb
                go_roundw
                case rel => exact ⟨j + 1, by omega, by go_num, by rw [HFS.out, HFR.out, cpush_last0 HCYE.out, HLN.out], by rw [HFS.out, HFR.out]; exact HO7.out, by rw [HFS.out, HFR.out]; exact (HST.out.push y).free, K7.out⟩
                case measure => simp [intOf]; omega
              · have hb0 : (cy == 0) = false := by simpa using h0
                have HNE := Lib.hid h0
                clear h0
                have hka := Kept.alloc (Kept.refl w5) (Obj.cells #[Value.int IntKind.i64 y] 3)
                have HKA := Lib.hid hka
                clear hka
                have hsb : IntKind.i64.wrap ((ln : Int) + 1 - 1) = (ln : Int) := by rw [show (ln : Int) + 1 - 1 = ln by omega]; exact IntWalk.i64_in _ (by omega)
                go_wp2_with (at_builtin; refine app_ints rfl _ _ rfl base _ _ rfl (by exact own_kept HO5.out HKA.out) _ _ _ [y] rfl (by exact Ints.alloc_ (xs := [y]) rfl rfl) (by simp; omega) (by simp; omega) ?_; intro v7 w7 hown7 hgrow7 hat7; have HO7 := Lib.hid hown7; obtain ⟨A7, c7, hv7, hle7, hI7⟩ := OwnI.sl hown7; rw [HLN7.out] at hv7; subst hv7; clear hown7 hI7)
                have K7 : Hid (Kept w3 w7) := Lib.hid ((Kept.trans K5.out HKA.out).grown hgrow7 (by simp; omega) (fun q e => by have := (World.ownsRow.lt HO5.out q e).1; omega))
                clear hsb
                go_roundw
                case rel => exact ⟨j + 1, by omega, by go_num, by rw [HFS.out, HFR.out, cpush_last1 (by rw [HCYE.out]; exact HNE.out)]; rfl, by rw [HFS.out, HFR.out]; exact HO7.out, by rw [HFS.out, HFR.out]; exact (HST.out.push y).free, K7.out⟩
                case measure => simp [intOf]; omega
            | some v =>
              rw [hpr] at HJX
              rw [hpr] at HFR
              simp only at HFR
              clear hpr
              refine wp_region_held_drew (S := (fun w' => w'.cell? ⟨bb, 0, none⟩ = some (.slice s1.Ac s1.nc s1.cc) ∧ w'.cell? ⟨bb, 1, none⟩ = some (.slice s1.Am s1.nm s1.cm) ∧ w'.cell? ⟨bb, 2, none⟩ = some (.slice s1.Ae s1.ne s1.ce) ∧ w'.cell? ⟨g, k, none⟩ = some (.int .i64 x))) (by kernel_rfl) ⟨d0, d1, d2, cx⟩ (fun hHeld => ?_)
              refine wpAnyH_take (i := 0) (v := ?_) rfl (by kernel_rfl) (by kernel_rfl) (by kernel_rfl) (fun _ _ _ h => h) (Or.inl ⟨by rfl, ?_⟩) (by assumption) ?_
              rotate_left
              · (intro w hSw; (try dsimp only at hSw); go_simp; (try with_reducible rfl))
              simp only [Act.put, List.setIfInBounds_toArray, List.set_cons_zero, List.set_cons_succ, List.getElem_toArray, List.getElem_cons_zero]
              refine wpAnyH_take (i := 1) (v := ?_) rfl (by kernel_rfl) (by kernel_rfl) (by kernel_rfl) (fun _ _ _ h => h) (Or.inl ⟨by rfl, ?_⟩) (by assumption) ?_
              rotate_left
              · (intro w hSw; (try dsimp only at hSw); go_simp; (try with_reducible rfl))
              simp only [Act.put, List.setIfInBounds_toArray, List.set_cons_zero, List.set_cons_succ, List.getElem_toArray, List.getElem_cons_zero, List.getElem_cons_succ]
              refine wpAnyH_take (i := 2) (v := ?_) rfl (by kernel_rfl) (by kernel_rfl) (by kernel_rfl) (fun _ _ _ h => h) (Or.inl ⟨by rfl, ?_⟩) (by assumption) ?_
              rotate_left
              · (intro w hSw; (try dsimp only at hSw); go_simp; (try with_reducible rfl))
              simp only [Act.put, List.setIfInBounds_toArray, List.set_cons_zero, List.set_cons_succ, List.getElem_toArray, List.getElem_cons_zero, List.getElem_cons_succ]
              refine wpAnyH_take (i := 3) (v := ?_) rfl (by kernel_rfl) (by kernel_rfl) (by kernel_rfl) (fun _ _ _ h => h) (Or.inl ⟨by rfl, ?_⟩) (by assumption) ?_
              rotate_left
              · (intro w hSw; (try dsimp only at hSw); go_simp; (try with_reducible rfl))
              simp only [Act.put, List.setIfInBounds_toArray, List.set_cons_zero, List.set_cons_succ, List.getElem_toArray, List.getElem_cons_zero, List.getElem_cons_succ]
              refine wpAnyH_take (i := 4) (v := ?_) rfl (by kernel_rfl) (by kernel_rfl) (by kernel_rfl) (fun _ _ _ h => h) (Or.inl ⟨by rfl, ?_⟩) (by assumption) ?_
              rotate_left
              · (intro w hSw; (try dsimp only at hSw); go_simp; (try with_reducible rfl))
              simp only [Act.put, List.setIfInBounds_toArray, List.set_cons_zero, List.set_cons_succ, List.getElem_toArray, List.getElem_cons_zero, List.getElem_cons_succ]
              refine wpAnyH_take (i := 5) (v := ?_) rfl (by kernel_rfl) (by kernel_rfl) (by kernel_rfl) (fun _ _ _ h => h) (Or.inl ⟨by rfl, ?_⟩) (by assumption) ?_
              rotate_left
              · (intro w hSw; (try dsimp only at hSw); go_simp; (try with_reducible rfl))
              simp only [Act.put, List.setIfInBounds_toArray, List.set_cons_zero, List.set_cons_succ, List.getElem_toArray, List.getElem_cons_zero, List.getElem_cons_succ]
              refine wpAnyH_ready (rs := [6]) (by kernel_rfl) (by simp) ?_
              refine AllReadyH.cons rfl (fun K hK => ?_) AllReadyH.nil
              go_simp
              (refine HJX.out.mono ?_; rintro e w5 ⟨rfl, k6⟩)
              go_wp2_with fail
              refine hK.out _ _ ⟨Kept.cell k6 d0, Kept.cell k6 d1, Kept.cell k6 d2, Kept.cell k6 cx⟩ (fun hHeld => ?_)
              clear hK K
              (try simp only [Act.put, List.setIfInBounds_toArray, List.set_cons_zero, List.set_cons_succ, List.getElem_toArray, List.getElem_cons_zero, List.getElem_cons_succ])
              refine wpAnyH_take (i := 7) (v := ?_) rfl (by kernel_rfl) (by kernel_rfl) (by kernel_rfl) (fun _ _ _ h => h) (Or.inl ⟨by rfl, ?_⟩) (by assumption) ?_
              rotate_left
              · (intro w hSw; (try dsimp only at hSw); go_simp; (try with_reducible rfl))
              simp only [Act.put, List.setIfInBounds_toArray, List.set_cons_zero, List.set_cons_succ, List.getElem_toArray, List.getElem_cons_zero, List.getElem_cons_succ]
              refine wpAnyH_take (i := 8) (v := ?_) rfl (by kernel_rfl) (by kernel_rfl) (by kernel_rfl) (fun _ _ _ h => h) (Or.inl ⟨by rfl, ?_⟩) (by assumption) ?_
              rotate_left
              · (intro w hSw; (try dsimp only at hSw); go_simp; (try with_reducible rfl))
              simp only [Act.put, List.setIfInBounds_toArray, List.set_cons_zero, List.set_cons_succ, List.getElem_toArray, List.getElem_cons_zero, List.getElem_cons_succ]
              refine wpAnyH_take (i := 9) (v := ?_) rfl (by kernel_rfl) (by kernel_rfl) (by kernel_rfl) (fun _ _ _ h => h) (Or.inl ⟨by rfl, ?_⟩) (by assumption) ?_
              rotate_left
              · (intro w hSw; (try dsimp only at hSw); go_simp; (try with_reducible rfl))
              simp only [Act.put, List.setIfInBounds_toArray, List.set_cons_zero, List.set_cons_succ, List.getElem_toArray, List.getElem_cons_zero, List.getElem_cons_succ]
              refine wpAnyH_take (i := 10) (v := ?_) rfl (by kernel_rfl) (by kernel_rfl) (by kernel_rfl) (fun _ _ _ h => h) (Or.inl ⟨by rfl, ?_⟩) (by assumption) ?_
              rotate_left
              · (intro w hSw; (try dsimp only at hSw); go_simp; (try with_reducible rfl))
              simp only [Act.put, List.setIfInBounds_toArray, List.set_cons_zero, List.set_cons_succ, List.getElem_toArray, List.getElem_cons_zero, List.getElem_cons_succ]
              refine wpAnyH_take (i := 11) (v := ?_) rfl (by kernel_rfl) (by kernel_rfl) (by kernel_rfl) (fun _ _ _ h => h) (Or.inl ⟨by rfl, ?_⟩) (by assumption) ?_
              rotate_left
              · (intro w hSw; (try dsimp only at hSw); go_simp; (try with_reducible rfl))
              simp only [Act.put, List.setIfInBounds_toArray, List.set_cons_zero, List.set_cons_succ, List.getElem_toArray, List.getElem_cons_zero, List.getElem_cons_succ]
              refine wpAnyH_done (by kernel_rfl) ?_ _
              have K5 := Lib.hid (Kept.trans (Kept.drew Kq.out) k6)
              have hsz5 := K5.out.size
              have KV5 := Lib.hid (Kept.trans (Kept.drew KVq.out) k6)
              have hv5 : w5.ownsRow base 3 1 (.slice (some ⟨g, 0, none⟩) ln (k + 1)) ln (L.map (Value.int .i64)) := own_kept HV2.out KV5.out
              have f5 := hv5.frozenAt k
              have c5 := Kept.cell KV5.out HCX.out
              have hst := (hv5.stored k (.int .i64 v)).1
              rw [← List.map_set] at hst
              have HO6 := Lib.hid (show OwnI (w5.setCell ⟨g, k, none⟩ (.int .i64 v)) base (.slice (some ⟨g, 0, none⟩) ln (k + 1)) (L.set k v) by
                unfold OwnI
                rw [List.length_set, ← HLN.out]
                exact hst)
              have HK6 := Lib.hid (Kept.setCell K5.out (p := ⟨g, k, none⟩) (by simp; omega) (.int .i64 v))
              clear hv5 hst cx d0 d1 d2
              go_wp2_with fail
              go_roundw
              case rel => exact ⟨j + 1, by omega, by go_num, by rw [HFS.out, HFR.out]; rfl, by rw [HFS.out, HFR.out]; exact HO6.out, by rw [HFS.out, HFR.out]; exact (HST.out.set v).free, HK6.out⟩
              case measure => simp [intOf]; omega
          · go_wp2_with fail
            refine wp_region_held_drew (S := (fun _ => True)) (by kernel_rfl) trivial (fun hHeld => ?_)
            refine wpAnyH_take (i := 0) (v := ?_) rfl (by kernel_rfl) (by kernel_rfl) (by kernel_rfl) (fun _ _ _ h => h) (Or.inl ⟨by rfl, ?_⟩) (by assumption) ?_
            rotate_left
            · (intro w hSw; (try dsimp only at hSw); go_simp; (try with_reducible rfl))
            simp only [Act.put, List.setIfInBounds_toArray, List.set_cons_zero, List.set_cons_succ, List.getElem_toArray, List.getElem_cons_zero]
            refine wpAnyH_take (i := 1) (v := ?_) rfl (by kernel_rfl) (by kernel_rfl) (by kernel_rfl) (fun _ _ _ h => h) (Or.inl ⟨by rfl, ?_⟩) (by assumption) ?_
            rotate_left
            · (intro w hSw; (try dsimp only at hSw); go_simp; (try with_reducible rfl))
            simp only [Act.put, List.setIfInBounds_toArray, List.set_cons_zero, List.set_cons_succ, List.getElem_toArray, List.getElem_cons_zero, List.getElem_cons_succ]
            refine wpAnyH_take (i := 2) (v := ?_) rfl (by kernel_rfl) (by kernel_rfl) (by kernel_rfl) (fun _ _ _ h => h) (Or.inl ⟨by rfl, ?_⟩) (by assumption) ?_
            rotate_left
            · (intro w hSw; (try dsimp only at hSw); go_simp; (try with_reducible rfl))
            simp only [Act.put, List.setIfInBounds_toArray, List.set_cons_zero, List.set_cons_succ, List.getElem_toArray, List.getElem_cons_zero, List.getElem_cons_succ]
            refine wpAnyH_take (i := 3) (v := ?_) rfl (by kernel_rfl) (by kernel_rfl) (by kernel_rfl) (fun _ _ _ h => h) (Or.inl ⟨by rfl, ?_⟩) (by assumption) ?_
            rotate_left
            · (intro w hSw; (try dsimp only at hSw); go_simp; (try with_reducible rfl))
            simp only [Act.put, List.setIfInBounds_toArray, List.set_cons_zero, List.set_cons_succ, List.getElem_toArray, List.getElem_cons_zero, List.getElem_cons_succ]
            refine wpAnyH_take (i := 4) (v := undef) rfl (by kernel_rfl) (by kernel_rfl) (by kernel_rfl) (fun _ _ _ h => h) (Or.inr ⟨by rfl, rfl⟩) (by assumption) ?_
            simp only [Act.put, List.setIfInBounds_toArray, List.set_cons_zero, List.set_cons_succ, List.getElem_toArray, List.getElem_cons_zero, List.getElem_cons_succ]
            refine wpAnyH_take (i := 5) (v := undef) rfl (by kernel_rfl) (by kernel_rfl) (by kernel_rfl) (fun _ _ _ h => h) (Or.inr ⟨by rfl, rfl⟩) (by assumption) ?_
            simp only [Act.put, List.setIfInBounds_toArray, List.set_cons_zero, List.set_cons_succ, List.getElem_toArray, List.getElem_cons_zero, List.getElem_cons_succ]
            refine wpAnyH_take (i := 6) (v := undef) rfl (by kernel_rfl) (by kernel_rfl) (by kernel_rfl) (fun _ _ _ h => h) (Or.inr ⟨by rfl, rfl⟩) (by assumption) ?_
            simp only [Act.put, List.setIfInBounds_toArray, List.set_cons_zero, List.set_cons_succ, List.getElem_toArray, List.getElem_cons_zero, List.getElem_cons_succ]
            refine wpAnyH_take (i := 7) (v := undef) rfl (by kernel_rfl) (by kernel_rfl) (by kernel_rfl) (fun _ _ _ h => h) (Or.inr ⟨by rfl, rfl⟩) (by assumption) ?_
            simp only [Act.put, List.setIfInBounds_toArray, List.set_cons_zero, List.set_cons_succ, List.getElem_toArray, List.getElem_cons_zero, List.getElem_cons_succ]
            refine wpAnyH_take (i := 8) (v := undef) rfl (by kernel_rfl) (by kernel_rfl) (by kernel_rfl) (fun _ _ _ h => h) (Or.inr ⟨by rfl, rfl⟩) (by assumption) ?_
            simp only [Act.put, List.setIfInBounds_toArray, List.set_cons_zero, List.set_cons_succ, List.getElem_toArray, List.getElem_cons_zero, List.getElem_cons_succ]
            refine wpAnyH_take (i := 9) (v := undef) rfl (by kernel_rfl) (by kernel_rfl) (by kernel_rfl) (fun _ _ _ h => h) (Or.inr ⟨by rfl, rfl⟩) (by assumption) ?_
            simp only [Act.put, List.setIfInBounds_toArray, List.set_cons_zero, List.set_cons_succ, List.getElem_toArray, List.getElem_cons_zero, List.getElem_cons_succ]
            refine wpAnyH_take (i := 10) (v := undef) rfl (by kernel_rfl) (by kernel_rfl) (by kernel_rfl) (fun _ _ _ h => h) (Or.inr ⟨by rfl, rfl⟩) (by assumption) ?_
            simp only [Act.put, List.setIfInBounds_toArray, List.set_cons_zero, List.set_cons_succ, List.getElem_toArray, List.getElem_cons_zero, List.getElem_cons_succ]
            refine wpAnyH_take (i := 11) (v := undef) rfl (by kernel_rfl) (by kernel_rfl) (by kernel_rfl) (fun _ _ _ h => h) (Or.inr ⟨by rfl, rfl⟩) (by assumption) ?_
            simp only [Act.put, List.setIfInBounds_toArray, List.set_cons_zero, List.set_cons_succ, List.getElem_toArray, List.getElem_cons_zero, List.getElem_cons_succ]
            refine wpAnyH_take (i := 12) (v := undef) rfl (by kernel_rfl) (by kernel_rfl) (by kernel_rfl) (fun _ _ _ h => h) (Or.inr ⟨by rfl, rfl⟩) (by assumption) ?_
            simp only [Act.put, List.setIfInBounds_toArray, List.set_cons_zero, List.set_cons_succ, List.getElem_toArray, List.getElem_cons_zero, List.getElem_cons_succ]
            refine wpAnyH_take (i := 13) (v := undef) rfl (by kernel_rfl) (by kernel_rfl) (by kernel_rfl) (fun _ _ _ h => h) (Or.inr ⟨by rfl, rfl⟩) (by assumption) ?_
            simp only [Act.put, List.setIfInBounds_toArray, List.set_cons_zero, List.set_cons_succ, List.getElem_toArray, List.getElem_cons_zero, List.getElem_cons_succ]
            refine wpAnyH_take (i := 14) (v := undef) rfl (by kernel_rfl) (by kernel_rfl) (by kernel_rfl) (fun _ _ _ h => h) (Or.inr ⟨by rfl, rfl⟩) (by assumption) ?_
            simp only [Act.put, List.setIfInBounds_toArray, List.set_cons_zero, List.set_cons_succ, List.getElem_toArray, List.getElem_cons_zero, List.getElem_cons_succ]
            refine wpAnyH_take (i := 15) (v := undef) rfl (by kernel_rfl) (by kernel_rfl) (by kernel_rfl) (fun _ _ _ h => h) (Or.inr ⟨by rfl, rfl⟩) (by assumption) ?_
            simp only [Act.put, List.setIfInBounds_toArray, List.set_cons_zero, List.set_cons_succ, List.getElem_toArray, List.getElem_cons_zero, List.getElem_cons_succ]
            refine wpAnyH_take (i := 16) (v := undef) rfl (by kernel_rfl) (by kernel_rfl) (by kernel_rfl) (fun _ _ _ h => h) (Or.inr ⟨by rfl, rfl⟩) (by assumption) ?_
            simp only [Act.put, List.setIfInBounds_toArray, List.set_cons_zero, List.set_cons_succ, List.getElem_toArray, List.getElem_cons_zero, List.getElem_cons_succ]
            refine wpAnyH_take (i := 17) (v := undef) rfl (by kernel_rfl) (by kernel_rfl) (by kernel_rfl) (fun _ _ _ h => h) (Or.inr ⟨by rfl, rfl⟩) (by assumption) ?_
            simp only [Act.put, List.setIfInBounds_toArray, List.set_cons_zero, List.set_cons_succ, List.getElem_toArray, List.getElem_cons_zero, List.getElem_cons_succ]
            refine wpAnyH_take (i := 18) (v := undef) rfl (by kernel_rfl) (by kernel_rfl) (by kernel_rfl) (fun _ _ _ h => h) (Or.inr ⟨by rfl, rfl⟩) (by assumption) ?_
            simp only [Act.put, List.setIfInBounds_toArray, List.set_cons_zero, List.set_cons_succ, List.getElem_toArray, List.getElem_cons_zero, List.getElem_cons_succ]
            refine wpAnyH_take (i := 19) (v := undef) rfl (by kernel_rfl) (by kernel_rfl) (by kernel_rfl) (fun _ _ _ h => h) (Or.inr ⟨by rfl, rfl⟩) (by assumption) ?_
            simp only [Act.put, List.setIfInBounds_toArray, List.set_cons_zero, List.set_cons_succ, List.getElem_toArray, List.getElem_cons_zero, List.getElem_cons_succ]
            refine wpAnyH_take (i := 20) (v := undef) rfl (by kernel_rfl) (by kernel_rfl) (by kernel_rfl) (fun _ _ _ h => h) (Or.inr ⟨by rfl, rfl⟩) (by assumption) ?_
            simp only [Act.put, List.setIfInBounds_toArray, List.set_cons_zero, List.set_cons_succ, List.getElem_toArray, List.getElem_cons_zero, List.getElem_cons_succ]
            refine wpAnyH_take (i := 21) (v := undef) rfl (by kernel_rfl) (by kernel_rfl) (by kernel_rfl) (fun _ _ _ h => h) (Or.inr ⟨by rfl, rfl⟩) (by assumption) ?_
            simp only [Act.put, List.setIfInBounds_toArray, List.set_cons_zero, List.set_cons_succ, List.getElem_toArray, List.getElem_cons_zero, List.getElem_cons_succ]
            refine wpAnyH_take (i := 22) (v := undef) rfl (by kernel_rfl) (by kernel_rfl) (by kernel_rfl) (fun _ _ _ h => h) (Or.inr ⟨by rfl, rfl⟩) (by assumption) ?_
            simp only [Act.put, List.setIfInBounds_toArray, List.set_cons_zero, List.set_cons_succ, List.getElem_toArray, List.getElem_cons_zero, List.getElem_cons_succ]
            refine wpAnyH_take (i := 23) (v := undef) rfl (by kernel_rfl) (by kernel_rfl) (by kernel_rfl) (fun _ _ _ h => h) (Or.inr ⟨by rfl, rfl⟩) (by assumption) ?_
            simp only [Act.put, List.setIfInBounds_toArray, List.set_cons_zero, List.set_cons_succ, List.getElem_toArray, List.getElem_cons_zero, List.getElem_cons_succ]
            refine wpAnyH_take (i := 24) (v := undef) rfl (by kernel_rfl) (by kernel_rfl) (by kernel_rfl) (fun _ _ _ h => h) (Or.inr ⟨by rfl, rfl⟩) (by assumption) ?_
            simp only [Act.put, List.setIfInBounds_toArray, List.set_cons_zero, List.set_cons_succ, List.getElem_toArray, List.getElem_cons_zero, List.getElem_cons_succ]
            refine wpAnyH_take (i := 25) (v := undef) rfl (by kernel_rfl) (by kernel_rfl) (by kernel_rfl) (fun _ _ _ h => h) (Or.inr ⟨by rfl, rfl⟩) (by assumption) ?_
            simp only [Act.put, List.setIfInBounds_toArray, List.set_cons_zero, List.set_cons_succ, List.getElem_toArray, List.getElem_cons_zero, List.getElem_cons_succ]
            refine wpAnyH_take (i := 26) (v := ?_) rfl (by kernel_rfl) (by kernel_rfl) (by kernel_rfl) (fun _ _ _ h => h) (Or.inl ⟨by rfl, ?_⟩) (by assumption) ?_
            rotate_left
            · (intro w hSw; (try dsimp only at hSw); go_simp; (try with_reducible rfl))
            simp only [Act.put, List.setIfInBounds_toArray, List.set_cons_zero, List.set_cons_succ, List.getElem_toArray, List.getElem_cons_zero, List.getElem_cons_succ]
            refine wpAnyH_take (i := 27) (v := ?_) rfl (by kernel_rfl) (by kernel_rfl) (by kernel_rfl) (fun _ _ _ h => h) (Or.inl ⟨by rfl, ?_⟩) (by assumption) ?_
            rotate_left
            · (intro w hSw; (try dsimp only at hSw); go_simp; (try with_reducible rfl))
            simp only [Act.put, List.setIfInBounds_toArray, List.set_cons_zero, List.set_cons_succ, List.getElem_toArray, List.getElem_cons_zero, List.getElem_cons_succ]
            refine wpAnyH_done (by kernel_rfl) ?_ _
            have Kq := Lib.hid (Kept.drew K4.out)
            have KVq := Lib.hid (Kept.drew (Kept.refl w4))
            generalize w4.drew = wq at *
            have hCq := (Kq.out.block bb (block_lt HC3.out)).trans HC3.out
            have d0 := cell_of_block (i := 0) hCq rfl
            have d1 := cell_of_block (i := 1) hCq rfl
            have d2 := cell_of_block (i := 2) hCq rfl
            simp only [List.getElem_toArray, List.getElem_cons_zero, List.getElem_cons_succ] at d0 d1 d2
            have cx := Kept.cell KVq.out HCX.out
            clear hCq
            have HJX := Lib.hid (HJ.out x y wq.drew (Kept.drew Kq.out))
            go_wp2_with fail
            cases hpr : pr x y with
            | none =>
              rw [hpr] at HJX
              rw [hpr] at HFR
              simp only at HFR
              clear hpr
              refine wp_region_held_drew (S := (fun w' => w'.cell? ⟨bb, 0, none⟩ = some (.slice s1.Ac s1.nc s1.cc) ∧ w'.cell? ⟨bb, 1, none⟩ = some (.slice s1.Am s1.nm s1.cm) ∧ w'.cell? ⟨bb, 2, none⟩ = some (.slice s1.Ae s1.ne s1.ce) ∧ w'.cell? ⟨g, k, none⟩ = some (.int .i64 x))) (by kernel_rfl) ⟨d0, d1, d2, cx⟩ (fun hHeld => ?_)
              refine wpAnyH_take (i := 0) (v := ?_) rfl (by kernel_rfl) (by kernel_rfl) (by kernel_rfl) (fun _ _ _ h => h) (Or.inl ⟨by rfl, ?_⟩) (by assumption) ?_
              rotate_left
              · (intro w hSw; (try dsimp only at hSw); go_simp; (try with_reducible rfl))
              simp only [Act.put, List.setIfInBounds_toArray, List.set_cons_zero, List.set_cons_succ, List.getElem_toArray, List.getElem_cons_zero]
              refine wpAnyH_take (i := 1) (v := ?_) rfl (by kernel_rfl) (by kernel_rfl) (by kernel_rfl) (fun _ _ _ h => h) (Or.inl ⟨by rfl, ?_⟩) (by assumption) ?_
              rotate_left
              · (intro w hSw; (try dsimp only at hSw); go_simp; (try with_reducible rfl))
              simp only [Act.put, List.setIfInBounds_toArray, List.set_cons_zero, List.set_cons_succ, List.getElem_toArray, List.getElem_cons_zero, List.getElem_cons_succ]
              refine wpAnyH_take (i := 2) (v := ?_) rfl (by kernel_rfl) (by kernel_rfl) (by kernel_rfl) (fun _ _ _ h => h) (Or.inl ⟨by rfl, ?_⟩) (by assumption) ?_
              rotate_left
              · (intro w hSw; (try dsimp only at hSw); go_simp; (try with_reducible rfl))
              simp only [Act.put, List.setIfInBounds_toArray, List.set_cons_zero, List.set_cons_succ, List.getElem_toArray, List.getElem_cons_zero, List.getElem_cons_succ]
              refine wpAnyH_take (i := 3) (v := ?_) rfl (by kernel_rfl) (by kernel_rfl) (by kernel_rfl) (fun _ _ _ h => h) (Or.inl ⟨by rfl, ?_⟩) (by assumption) ?_
              rotate_left
              · (intro w hSw; (try dsimp only at hSw); go_simp; (try with_reducible rfl))
              simp only [Act.put, List.setIfInBounds_toArray, List.set_cons_zero, List.set_cons_succ, List.getElem_toArray, List.getElem_cons_zero, List.getElem_cons_succ]
              refine wpAnyH_take (i := 4) (v := ?_) rfl (by kernel_rfl) (by kernel_rfl) (by kernel_rfl) (fun _ _ _ h => h) (Or.inl ⟨by rfl, ?_⟩) (by assumption) ?_
              rotate_left
              · (intro w hSw; (try dsimp only at hSw); go_simp; (try with_reducible rfl))
              simp only [Act.put, List.setIfInBounds_toArray, List.set_cons_zero, List.set_cons_succ, List.getElem_toArray, List.getElem_cons_zero, List.getElem_cons_succ]
              refine wpAnyH_take (i := 5) (v := ?_) rfl (by kernel_rfl) (by kernel_rfl) (by kernel_rfl) (fun _ _ _ h => h) (Or.inl ⟨by rfl, ?_⟩) (by assumption) ?_
              rotate_left
              · (intro w hSw; (try dsimp only at hSw); go_simp; (try with_reducible rfl))
              simp only [Act.put, List.setIfInBounds_toArray, List.set_cons_zero, List.set_cons_succ, List.getElem_toArray, List.getElem_cons_zero, List.getElem_cons_succ]
              refine wpAnyH_ready (rs := [6]) (by kernel_rfl) (by simp) ?_
              refine AllReadyH.cons rfl (fun K hK => ?_) AllReadyH.nil
              go_simp
              (refine HJX.out.mono ?_; rintro e w5 ⟨rfl, k6⟩)
              go_wp2_with fail
              refine hK.out _ _ ⟨Kept.cell k6 d0, Kept.cell k6 d1, Kept.cell k6 d2, Kept.cell k6 cx⟩ (fun hHeld => ?_)
              clear hK K
              (try simp only [Act.put, List.setIfInBounds_toArray, List.set_cons_zero, List.set_cons_succ, List.getElem_toArray, List.getElem_cons_zero, List.getElem_cons_succ])
              refine wpAnyH_take (i := 7) (v := ?_) rfl (by kernel_rfl) (by kernel_rfl) (by kernel_rfl) (fun _ _ _ h => h) (Or.inl ⟨by rfl, ?_⟩) (by assumption) ?_
              rotate_left
              · (intro w hSw; (try dsimp only at hSw); go_simp; (try with_reducible rfl))
              simp only [Act.put, List.setIfInBounds_toArray, List.set_cons_zero, List.set_cons_succ, List.getElem_toArray, List.getElem_cons_zero, List.getElem_cons_succ]
              refine wpAnyH_take (i := 8) (v := ?_) rfl (by kernel_rfl) (by kernel_rfl) (by kernel_rfl) (fun _ _ _ h => h) (Or.inl ⟨by rfl, ?_⟩) (by assumption) ?_
              rotate_left
              · (intro w hSw; (try dsimp only at hSw); go_simp; (try with_reducible rfl))
              simp only [Act.put, List.setIfInBounds_toArray, List.set_cons_zero, List.set_cons_succ, List.getElem_toArray, List.getElem_cons_zero, List.getElem_cons_succ]
              refine wpAnyH_take (i := 9) (v := ?_) rfl (by kernel_rfl) (by kernel_rfl) (by kernel_rfl) (fun _ _ _ h => h) (Or.inl ⟨by rfl, ?_⟩) (by assumption) ?_
              rotate_left
              · (intro w hSw; (try dsimp only at hSw); go_simp; (try with_reducible rfl))
              simp only [Act.put, List.setIfInBounds_toArray, List.set_cons_zero, List.set_cons_succ, List.getElem_toArray, List.getElem_cons_zero, List.getElem_cons_succ]
              refine wpAnyH_take (i := 10) (v := ?_) rfl (by kernel_rfl) (by kernel_rfl) (by kernel_rfl) (fun _ _ _ h => h) (Or.inl ⟨by rfl, ?_⟩) (by assumption) ?_
              rotate_left
              · (intro w hSw; (try dsimp only at hSw); go_simp; (try with_reducible rfl))
              simp only [Act.put, List.setIfInBounds_toArray, List.set_cons_zero, List.set_cons_succ, List.getElem_toArray, List.getElem_cons_zero, List.getElem_cons_succ]
              refine wpAnyH_take (i := 11) (v := ?_) rfl (by kernel_rfl) (by kernel_rfl) (by kernel_rfl) (fun _ _ _ h => h) (Or.inl ⟨by rfl, ?_⟩) (by assumption) ?_
              rotate_left
              · (intro w hSw; (try dsimp only at hSw); go_simp; (try with_reducible rfl))
              simp only [Act.put, List.setIfInBounds_toArray, List.set_cons_zero, List.set_cons_succ, List.getElem_toArray, List.getElem_cons_zero, List.getElem_cons_succ]
              refine wpAnyH_done (by kernel_rfl) ?_ _
              have K5 := Lib.hid (Kept.trans (Kept.drew Kq.out) k6)
              have hsz5 := K5.out.size
              have KV5 := Lib.hid (Kept.trans (Kept.drew KVq.out) k6)
              have HO5 := Lib.hid (own_kept HO4.out KV5.out)
              clear cx d0 d1 d2
              by_cases h0 : cy = 0
              · subst h0
                have hka := Kept.alloc (Kept.refl w5) (Obj.cells #[Value.int IntKind.i64 y] 3)
                have HKA := Lib.hid hka
                clear hka
                have hsb : IntKind.i64.wrap ((ln : Int) + 1 - 1) = (ln : Int) := by rw [show (ln : Int) + 1 - 1 = ln by omega]; exact IntWalk.i64_in _ (by omega)
                go_wp2_with (at_builtin; refine app_ints rfl _ _ rfl base _ _ rfl (by exact own_kept HO5.out HKA.out) _ _ _ [y] rfl (by exact Ints.alloc_ (xs := [y]) rfl rfl) (by simp; omega) (by simp; omega) ?_; intro v7 w7 hown7 hgrow7 hat7; have HO7 := Lib.hid hown7; obtain ⟨A7, c7, hv7, hle7, hI7⟩ := OwnI.sl hown7; rw [HLN7.out] at hv7; subst hv7; clear hown7 hI7)
                have K7 : Hid (Kept w3 w7) := Lib.hid ((Kept.trans K5.out HKA.out).grown hgrow7 (by simp; omega) (fun q e => by have := (World.ownsRow.lt HO5.out q e).1; omega))
                clear hsb
                go_roundw
                case rel => exact ⟨j + 1, by omega, by go_num, by rw [HFS.out, HFR.out, cpush_last0 HCYE.out, HLN.out], by rw [HFS.out, HFR.out]; exact HO7.out, by rw [HFS.out, HFR.out]; exact (HST.out.push y).free, K7.out⟩
                case measure => simp [intOf]; omega
              · have hb0 : (cy == 0) = false := by simpa using h0
                have HNE := Lib.hid h0
                clear h0
                have hka := Kept.alloc (Kept.refl w5) (Obj.cells #[Value.int IntKind.i64 y] 3)
                have HKA := Lib.hid hka
                clear hka
                have hsb : IntKind.i64.wrap ((ln : Int) + 1 - 1) = (ln : Int) := by rw [show (ln : Int) + 1 - 1 = ln by omega]; exact IntWalk.i64_in _ (by omega)
                go_wp2_with (at_builtin; refine app_ints rfl _ _ rfl base _ _ rfl (by exact own_kept HO5.out HKA.out) _ _ _ [y] rfl (by exact Ints.alloc_ (xs := [y]) rfl rfl) (by simp; omega) (by simp; omega) ?_; intro v7 w7 hown7 hgrow7 hat7; have HO7 := Lib.hid hown7; obtain ⟨A7, c7, hv7, hle7, hI7⟩ := OwnI.sl hown7; rw [HLN7.out] at hv7; subst hv7; clear hown7 hI7)
                have K7 : Hid (Kept w3 w7) := Lib.hid ((Kept.trans K5.out HKA.out).grown hgrow7 (by simp; omega) (fun q e => by have := (World.ownsRow.lt HO5.out q e).1; omega))
                clear hsb
                go_roundw
                case rel => exact ⟨j + 1, by omega, by go_num, by rw [HFS.out, HFR.out, cpush_last1 (by rw [HCYE.out]; exact HNE.out)]; rfl, by rw [HFS.out, HFR.out]; exact HO7.out, by rw [HFS.out, HFR.out]; exact (HST.out.push y).free, K7.out⟩
                case measure => simp [intOf]; omega
            | some v =>
              rw [hpr] at HJX
              rw [hpr] at HFR
              simp only at HFR
              clear hpr
              refine wp_region_held_drew (S := (fun w' => w'.cell? ⟨bb, 0, none⟩ = some (.slice s1.Ac s1.nc s1.cc) ∧ w'.cell? ⟨bb, 1, none⟩ = some (.slice s1.Am s1.nm s1.cm) ∧ w'.cell? ⟨bb, 2, none⟩ = some (.slice s1.Ae s1.ne s1.ce) ∧ w'.cell? ⟨g, k, none⟩ = some (.int .i64 x))) (by kernel_rfl) ⟨d0, d1, d2, cx⟩ (fun hHeld => ?_)
              refine wpAnyH_take (i := 0) (v := ?_) rfl (by kernel_rfl) (by kernel_rfl) (by kernel_rfl) (fun _ _ _ h => h) (Or.inl ⟨by rfl, ?_⟩) (by assumption) ?_
              rotate_left
              · (intro w hSw; (try dsimp only at hSw); go_simp; (try with_reducible rfl))
              simp only [Act.put, List.setIfInBounds_toArray, List.set_cons_zero, List.set_cons_succ, List.getElem_toArray, List.getElem_cons_zero]
              refine wpAnyH_take (i := 1) (v := ?_) rfl (by kernel_rfl) (by kernel_rfl) (by kernel_rfl) (fun _ _ _ h => h) (Or.inl ⟨by rfl, ?_⟩) (by assumption) ?_
              rotate_left
              · (intro w hSw; (try dsimp only at hSw); go_simp; (try with_reducible rfl))
              simp only [Act.put, List.setIfInBounds_toArray, List.set_cons_zero, List.set_cons_succ, List.getElem_toArray, List.getElem_cons_zero, List.getElem_cons_succ]
              refine wpAnyH_take (i := 2) (v := ?_) rfl (by kernel_rfl) (by kernel_rfl) (by kernel_rfl) (fun _ _ _ h => h) (Or.inl ⟨by rfl, ?_⟩) (by assumption) ?_
              rotate_left
              · (intro w hSw; (try dsimp only at hSw); go_simp; (try with_reducible rfl))
              simp only [Act.put, List.setIfInBounds_toArray, List.set_cons_zero, List.set_cons_succ, List.getElem_toArray, List.getElem_cons_zero, List.getElem_cons_succ]
              refine wpAnyH_take (i := 3) (v := ?_) rfl (by kernel_rfl) (by kernel_rfl) (by kernel_rfl) (fun _ _ _ h => h) (Or.inl ⟨by rfl, ?_⟩) (by assumption) ?_
              rotate_left
              · (intro w hSw; (try dsimp only at hSw); go_simp; (try with_reducible rfl))
              simp only [Act.put, List.setIfInBounds_toArray, List.set_cons_zero, List.set_cons_succ, List.getElem_toArray, List.getElem_cons_zero, List.getElem_cons_succ]
              refine wpAnyH_take (i := 4) (v := ?_) rfl (by kernel_rfl) (by kernel_rfl) (by kernel_rfl) (fun _ _ _ h => h) (Or.inl ⟨by rfl, ?_⟩) (by assumption) ?_
              rotate_left
              · (intro w hSw; (try dsimp only at hSw); go_simp; (try with_reducible rfl))
              simp only [Act.put, List.setIfInBounds_toArray, List.set_cons_zero, List.set_cons_succ, List.getElem_toArray, List.getElem_cons_zero, List.getElem_cons_succ]
              refine wpAnyH_take (i := 5) (v := ?_) rfl (by kernel_rfl) (by kernel_rfl) (by kernel_rfl) (fun _ _ _ h => h) (Or.inl ⟨by rfl, ?_⟩) (by assumption) ?_
              rotate_left
              · (intro w hSw; (try dsimp only at hSw); go_simp; (try with_reducible rfl))
              simp only [Act.put, List.setIfInBounds_toArray, List.set_cons_zero, List.set_cons_succ, List.getElem_toArray, List.getElem_cons_zero, List.getElem_cons_succ]
              refine wpAnyH_ready (rs := [6]) (by kernel_rfl) (by simp) ?_
              refine AllReadyH.cons rfl (fun K hK => ?_) AllReadyH.nil
              go_simp
              (refine HJX.out.mono ?_; rintro e w5 ⟨rfl, k6⟩)
              go_wp2_with fail
              refine hK.out _ _ ⟨Kept.cell k6 d0, Kept.cell k6 d1, Kept.cell k6 d2, Kept.cell k6 cx⟩ (fun hHeld => ?_)
              clear hK K
              (try simp only [Act.put, List.setIfInBounds_toArray, List.set_cons_zero, List.set_cons_succ, List.getElem_toArray, List.getElem_cons_zero, List.getElem_cons_succ])
              refine wpAnyH_take (i := 7) (v := ?_) rfl (by kernel_rfl) (by kernel_rfl) (by kernel_rfl) (fun _ _ _ h => h) (Or.inl ⟨by rfl, ?_⟩) (by assumption) ?_
              rotate_left
              · (intro w hSw; (try dsimp only at hSw); go_simp; (try with_reducible rfl))
              simp only [Act.put, List.setIfInBounds_toArray, List.set_cons_zero, List.set_cons_succ, List.getElem_toArray, List.getElem_cons_zero, List.getElem_cons_succ]
              refine wpAnyH_take (i := 8) (v := ?_) rfl (by kernel_rfl) (by kernel_rfl) (by kernel_rfl) (fun _ _ _ h => h) (Or.inl ⟨by rfl, ?_⟩) (by assumption) ?_
              rotate_left
              · (intro w hSw; (try dsimp only at hSw); go_simp; (try with_reducible rfl))
              simp only [Act.put, List.setIfInBounds_toArray, List.set_cons_zero, List.set_cons_succ, List.getElem_toArray, List.getElem_cons_zero, List.getElem_cons_succ]
              refine wpAnyH_take (i := 9) (v := ?_) rfl (by kernel_rfl) (by kernel_rfl) (by kernel_rfl) (fun _ _ _ h => h) (Or.inl ⟨by rfl, ?_⟩) (by assumption) ?_
              rotate_left
              · (intro w hSw; (try dsimp only at hSw); go_simp; (try with_reducible rfl))
              simp only [Act.put, List.setIfInBounds_toArray, List.set_cons_zero, List.set_cons_succ, List.getElem_toArray, List.getElem_cons_zero, List.getElem_cons_succ]
              refine wpAnyH_take (i := 10) (v := ?_) rfl (by kernel_rfl) (by kernel_rfl) (by kernel_rfl) (fun _ _ _ h => h) (Or.inl ⟨by rfl, ?_⟩) (by assumption) ?_
              rotate_left
              · (intro w hSw; (try dsimp only at hSw); go_simp; (try with_reducible rfl))
              simp only [Act.put, List.setIfInBounds_toArray, List.set_cons_zero, List.set_cons_succ, List.getElem_toArray, List.getElem_cons_zero, List.getElem_cons_succ]
              refine wpAnyH_take (i := 11) (v := ?_) rfl (by kernel_rfl) (by kernel_rfl) (by kernel_rfl) (fun _ _ _ h => h) (Or.inl ⟨by rfl, ?_⟩) (by assumption) ?_
              rotate_left
              · (intro w hSw; (try dsimp only at hSw); go_simp; (try with_reducible rfl))
              simp only [Act.put, List.setIfInBounds_toArray, List.set_cons_zero, List.set_cons_succ, List.getElem_toArray, List.getElem_cons_zero, List.getElem_cons_succ]
              refine wpAnyH_done (by kernel_rfl) ?_ _
              have K5 := Lib.hid (Kept.trans (Kept.drew Kq.out) k6)
              have hsz5 := K5.out.size
              have KV5 := Lib.hid (Kept.trans (Kept.drew KVq.out) k6)
              have hv5 : w5.ownsRow base 3 1 (.slice (some ⟨g, 0, none⟩) ln co) ln (L.map (Value.int .i64)) := own_kept HV2.out KV5.out
              have f5 := hv5.frozenAt k
              have c5 := Kept.cell KV5.out HCX.out
              have hst := (hv5.stored k (.int .i64 v)).1
              rw [← List.map_set] at hst
              have HO6 := Lib.hid (show OwnI (w5.setCell ⟨g, k, none⟩ (.int .i64 v)) base (.slice (some ⟨g, 0, none⟩) ln co) (L.set k v) by
                unfold OwnI
                rw [List.length_set, ← HLN.out]
                exact hst)
              have HK6 := Lib.hid (Kept.setCell K5.out (p := ⟨g, k, none⟩) (by simp; omega) (.int .i64 v))
              clear hv5 hst cx d0 d1 d2
              go_wp2_with fail
              go_roundw
              case rel => exact ⟨j + 1, by omega, by go_num, by rw [HFS.out, HFR.out]; rfl, by rw [HFS.out, HFR.out]; exact HO6.out, by rw [HFS.out, HFR.out]; exact (HST.out.set v).free, HK6.out⟩
              case measure => simp [intOf]; omega
    · have hfull : text.take j = text := List.take_of_length_le (by have := HTN.out; omega)
      have hown := HOW.out
      rw [hfull] at hown
      obtain ⟨A4, c4, hu, hle4, hI4⟩ := OwnI.sl hown
      have HR2 := Lib.hid (show compN n text = (compFold cls pr text).1 from HR.out)
      generalize (compFold cls pr text).1 = R at *
      clear hown hfull
      subst hu
      go_wp2_with fail
      go_ret
      exact ⟨A4, _, c4, rfl, hle4, by rw [HR2.out]; exact hI4, KW.out⟩
end Go.Proofs.YtdogaaepiddnoaaGreatDoor
namespace Go.Proofs.YtdogaaepiddnoaaGreatDoor
open Go Go.RowKit

set_option maxRecDepth 100000 in
set_option maxHeartbeats 4000000 in
theorem r23form (s : Sls) (n : Nrm) (form : Int) (A : Option Addr) (nt ct : Nat) (text : List Int) (w : World) (hN : NormAt w s n) (htag : ∀ m ∈ n.decomp, m.tag.size ≤ 1000) (hnt : nt ≤ 1000) (hT : Ints w A nt text) :
    Calls Tryz.prog 18 #[s.val, .int .i64 form, .slice A nt ct] w (RetInts w (formOf n form text)) := by
  have hk1 := Kept.alloc (Kept.refl w) (Obj.cells #[Value.slice s.Ac s.nc s.cc, Value.slice s.Am s.nm s.cm, Value.slice s.Ae s.ne s.ce] 28)
  have HK1 := Lib.hid hk1
  have hbx := box_cell w #[Value.slice s.Ac s.nc s.cc, Value.slice s.Am s.nm s.cm, Value.slice s.Ae s.ne s.ce] 28
  have x0 : (w.alloc (Obj.cells #[Value.slice s.Ac s.nc s.cc, Value.slice s.Am s.nm s.cm, Value.slice s.Ae s.ne s.ce] 28)).cell? ⟨w.heap.size, 0, none⟩ = some (.slice s.Ac s.nc s.cc) := hbx 0
  have HX0 := Lib.hid x0
  have x1 : (w.alloc (Obj.cells #[Value.slice s.Ac s.nc s.cc, Value.slice s.Am s.nm s.cm, Value.slice s.Ae s.ne s.ce] 28)).cell? ⟨w.heap.size, 1, none⟩ = some (.slice s.Am s.nm s.cm) := hbx 1
  have HX1 := Lib.hid x1
  have x2 : (w.alloc (Obj.cells #[Value.slice s.Ac s.nc s.cc, Value.slice s.Am s.nm s.cm, Value.slice s.Ae s.ne s.ce] 28)).cell? ⟨w.heap.size, 2, none⟩ = some (.slice s.Ae s.ne s.ce) := hbx 2
  have HX2 := Lib.hid x2
  have HTX := Lib.hid (fun cp w' (hk : Kept w w') => r21text s n A nt ct text cp w' (hN.kept hk) htag hnt (hT.kept hk))
  have HTL := Lib.hid (fun cp => show (textOf n cp text).length ≤ 1000000 by have := textOf_length n cp text; have := hT.1; omega)
  have HCX := Lib.hid (fun A2 n2 c2 X w' (hk : Kept w w') (h2 : n2 ≤ 1000000) (hI : Ints w' A2 n2 X) => r22text s n A2 n2 c2 X w' (hN.kept hk) htag h2 hI)
  have HT := Lib.hid hT
  clear hN htag hT hk1 hbx x0 x1 x2
  rcases form_cases form with h | h | h | h | h
  · subst h
    have HR := Lib.hid (formOf_1 n text)
    have HTC := Lib.hid (HTX.out false)
    have HTLC := Lib.hid (HTL.out false)
    clear HTX HTL
    generalize textOf n false text = X at *
    have HCC := Lib.hid (fun A2 n2 c2 w' (hk : Kept w w') (h2 : n2 ≤ 1000000) (hI : Ints w' A2 n2 X) => HCX.out A2 n2 c2 X w' hk h2 hI)
    clear HCX
    generalize compN n X = Y at *
    unfold Sls.val at *
    go_enter Tryz.func18, Tryz.ntmps18
    have p0 := HX0.out
    have p1 := HX1.out
    have p2 := HX2.out
    go_wp2_with fail
    refine wp_region_held_drew (S := (fun w' => w'.cell? ⟨w.heap.size, 0, none⟩ = some (.slice s.Ac s.nc s.cc) ∧ w'.cell? ⟨w.heap.size, 1, none⟩ = some (.slice s.Am s.nm s.cm) ∧ w'.cell? ⟨w.heap.size, 2, none⟩ = some (.slice s.Ae s.ne s.ce))) (by kernel_rfl) ⟨p0, p1, p2⟩ (fun hHeld => ?_)
    refine wpAnyH_take (i := 0) (v := ?_) rfl (by kernel_rfl) (by kernel_rfl) (by kernel_rfl) (fun _ _ _ h => h) (Or.inl ⟨by rfl, ?_⟩) (by assumption) ?_
    rotate_left
    · (intro w hSw; (try dsimp only at hSw); go_simp; (try with_reducible rfl))
    simp only [Act.put, List.setIfInBounds_toArray, List.set_cons_zero, List.set_cons_succ, List.getElem_toArray, List.getElem_cons_zero]
    refine wpAnyH_take (i := 1) (v := ?_) rfl (by kernel_rfl) (by kernel_rfl) (by kernel_rfl) (fun _ _ _ h => h) (Or.inl ⟨by rfl, ?_⟩) (by assumption) ?_
    rotate_left
    · (intro w hSw; (try dsimp only at hSw); go_simp; (try with_reducible rfl))
    simp only [Act.put, List.setIfInBounds_toArray, List.set_cons_zero, List.set_cons_succ, List.getElem_toArray, List.getElem_cons_zero, List.getElem_cons_succ]
    refine wpAnyH_take (i := 2) (v := ?_) rfl (by kernel_rfl) (by kernel_rfl) (by kernel_rfl) (fun _ _ _ h => h) (Or.inl ⟨by rfl, ?_⟩) (by assumption) ?_
    rotate_left
    · (intro w hSw; (try dsimp only at hSw); go_simp; (try with_reducible rfl))
    simp only [Act.put, List.setIfInBounds_toArray, List.set_cons_zero, List.set_cons_succ, List.getElem_toArray, List.getElem_cons_zero, List.getElem_cons_succ]
    refine wpAnyH_ready (rs := [3]) (by kernel_rfl) (by simp) ?_
    refine AllReadyH.cons rfl (fun K hK => ?_) AllReadyH.nil
    go_simp
    (refine (HTC.out _ (Kept.drew HK1.out)).mono ?_; rintro e w1 ⟨A1, n1, c1, rfl, le1, i1, k1⟩; have I1 := Lib.hid i1; have hn1 : n1 ≤ 1000000 := (by rw [i1.1]; exact HTLC.out); clear i1; have KB1 := Lib.hid (Kept.trans (Kept.drew (Kept.refl (w.alloc (Obj.cells #[Value.slice s.Ac s.nc s.cc, Value.slice s.Am s.nm s.cm, Value.slice s.Ae s.ne s.ce] 28)))) k1); clear k1)
    go_wp2_with fail
    refine hK.out _ _ ⟨Kept.cell KB1.out HX0.out, Kept.cell KB1.out HX1.out, Kept.cell KB1.out HX2.out⟩ (fun hHeld => ?_)
    clear hK K
    (try simp only [Act.put, List.setIfInBounds_toArray, List.set_cons_zero, List.set_cons_succ, List.getElem_toArray, List.getElem_cons_zero, List.getElem_cons_succ])
    refine wpAnyH_ready (rs := [4]) (by kernel_rfl) (by simp) ?_
    refine AllReadyH.cons rfl (fun K hK => ?_) AllReadyH.nil
    go_simp
    (refine (HCC.out A1 n1 c1 _ (Kept.trans HK1.out KB1.out) hn1 I1.out).mono ?_; rintro e w2 ⟨A2, n2, c2, rfl, le2, i2, k2⟩; have I2 := Lib.hid i2; clear i2; have KB2 := Lib.hid (Kept.trans KB1.out k2); clear k2)
    go_wp2_with fail
    refine hK.out _ _ ⟨Kept.cell KB2.out HX0.out, Kept.cell KB2.out HX1.out, Kept.cell KB2.out HX2.out⟩ (fun hHeld => ?_)
    clear hK K
    (try simp only [Act.put, List.setIfInBounds_toArray, List.set_cons_zero, List.set_cons_succ, List.getElem_toArray, List.getElem_cons_zero, List.getElem_cons_succ])
    refine wpAnyH_take (i := 5) (v := ?_) rfl (by kernel_rfl) (by kernel_rfl) (by kernel_rfl) (fun _ _ _ h => h) (Or.inl ⟨by rfl, ?_⟩) (by assumption) ?_
    rotate_left
    · (intro w hSw; (try dsimp only at hSw); go_simp; (try with_reducible rfl))
    simp only [Act.put, List.setIfInBounds_toArray, List.set_cons_zero, List.set_cons_succ, List.getElem_toArray, List.getElem_cons_zero, List.getElem_cons_succ]
    refine wpAnyH_done (by kernel_rfl) ?_ _
    clear p0 p1 p2
    go_wp2_with fail
    go_ret
    exact ⟨A2, n2, c2, rfl, le2, by rw [HR.out]; exact I2.out, Kept.trans HK1.out KB2.out⟩
  · subst h
    have HR := Lib.hid (formOf_2 n text)
    have HTC := Lib.hid (HTX.out false)
    clear HTX HTL HCX
    generalize textOf n false text = X at *
    unfold Sls.val at *
    go_enter Tryz.func18, Tryz.ntmps18
    have p0 := HX0.out
    have p1 := HX1.out
    have p2 := HX2.out
    go_wp2_with fail
    refine (HTC.out _ HK1.out).mono ?_
    rintro e w1 ⟨A1, n1, c1, rfl, le1, i1, k1⟩
    have I1 := Lib.hid i1
    clear i1 p0 p1 p2
    go_wp2_with fail
    go_ret
    exact ⟨A1, n1, c1, rfl, le1, by rw [HR.out]; exact I1.out, Kept.trans HK1.out k1⟩
  · subst h
    have HR := Lib.hid (formOf_3 n text)
    have HTC := Lib.hid (HTX.out true)
    have HTLC := Lib.hid (HTL.out true)
    clear HTX HTL
    generalize textOf n true text = X at *
    have HCC := Lib.hid (fun A2 n2 c2 w' (hk : Kept w w') (h2 : n2 ≤ 1000000) (hI : Ints w' A2 n2 X) => HCX.out A2 n2 c2 X w' hk h2 hI)
    clear HCX
    generalize compN n X = Y at *
    unfold Sls.val at *
    go_enter Tryz.func18, Tryz.ntmps18
    have p0 := HX0.out
    have p1 := HX1.out
    have p2 := HX2.out
    go_wp2_with fail
    refine wp_region_held_drew (S := (fun w' => w'.cell? ⟨w.heap.size, 0, none⟩ = some (.slice s.Ac s.nc s.cc) ∧ w'.cell? ⟨w.heap.size, 1, none⟩ = some (.slice s.Am s.nm s.cm) ∧ w'.cell? ⟨w.heap.size, 2, none⟩ = some (.slice s.Ae s.ne s.ce))) (by kernel_rfl) ⟨p0, p1, p2⟩ (fun hHeld => ?_)
    refine wpAnyH_take (i := 0) (v := ?_) rfl (by kernel_rfl) (by kernel_rfl) (by kernel_rfl) (fun _ _ _ h => h) (Or.inl ⟨by rfl, ?_⟩) (by assumption) ?_
    rotate_left
    · (intro w hSw; (try dsimp only at hSw); go_simp; (try with_reducible rfl))
    simp only [Act.put, List.setIfInBounds_toArray, List.set_cons_zero, List.set_cons_succ, List.getElem_toArray, List.getElem_cons_zero]
    refine wpAnyH_take (i := 1) (v := ?_) rfl (by kernel_rfl) (by kernel_rfl) (by kernel_rfl) (fun _ _ _ h => h) (Or.inl ⟨by rfl, ?_⟩) (by assumption) ?_
    rotate_left
    · (intro w hSw; (try dsimp only at hSw); go_simp; (try with_reducible rfl))
    simp only [Act.put, List.setIfInBounds_toArray, List.set_cons_zero, List.set_cons_succ, List.getElem_toArray, List.getElem_cons_zero, List.getElem_cons_succ]
    refine wpAnyH_take (i := 2) (v := ?_) rfl (by kernel_rfl) (by kernel_rfl) (by kernel_rfl) (fun _ _ _ h => h) (Or.inl ⟨by rfl, ?_⟩) (by assumption) ?_
    rotate_left
    · (intro w hSw; (try dsimp only at hSw); go_simp; (try with_reducible rfl))
    simp only [Act.put, List.setIfInBounds_toArray, List.set_cons_zero, List.set_cons_succ, List.getElem_toArray, List.getElem_cons_zero, List.getElem_cons_succ]
    refine wpAnyH_ready (rs := [3]) (by kernel_rfl) (by simp) ?_
    refine AllReadyH.cons rfl (fun K hK => ?_) AllReadyH.nil
    go_simp
    (refine (HTC.out _ (Kept.drew HK1.out)).mono ?_; rintro e w1 ⟨A1, n1, c1, rfl, le1, i1, k1⟩; have I1 := Lib.hid i1; have hn1 : n1 ≤ 1000000 := (by rw [i1.1]; exact HTLC.out); clear i1; have KB1 := Lib.hid (Kept.trans (Kept.drew (Kept.refl (w.alloc (Obj.cells #[Value.slice s.Ac s.nc s.cc, Value.slice s.Am s.nm s.cm, Value.slice s.Ae s.ne s.ce] 28)))) k1); clear k1)
    go_wp2_with fail
    refine hK.out _ _ ⟨Kept.cell KB1.out HX0.out, Kept.cell KB1.out HX1.out, Kept.cell KB1.out HX2.out⟩ (fun hHeld => ?_)
    clear hK K
    (try simp only [Act.put, List.setIfInBounds_toArray, List.set_cons_zero, List.set_cons_succ, List.getElem_toArray, List.getElem_cons_zero, List.getElem_cons_succ])
    refine wpAnyH_ready (rs := [4]) (by kernel_rfl) (by simp) ?_
    refine AllReadyH.cons rfl (fun K hK => ?_) AllReadyH.nil
    go_simp
    (refine (HCC.out A1 n1 c1 _ (Kept.trans HK1.out KB1.out) hn1 I1.out).mono ?_; rintro e w2 ⟨A2, n2, c2, rfl, le2, i2, k2⟩; have I2 := Lib.hid i2; clear i2; have KB2 := Lib.hid (Kept.trans KB1.out k2); clear k2)
    go_wp2_with fail
    refine hK.out _ _ ⟨Kept.cell KB2.out HX0.out, Kept.cell KB2.out HX1.out, Kept.cell KB2.out HX2.out⟩ (fun hHeld => ?_)
    clear hK K
    (try simp only [Act.put, List.setIfInBounds_toArray, List.set_cons_zero, List.set_cons_succ, List.getElem_toArray, List.getElem_cons_zero, List.getElem_cons_succ])
    refine wpAnyH_take (i := 5) (v := ?_) rfl (by kernel_rfl) (by kernel_rfl) (by kernel_rfl) (fun _ _ _ h => h) (Or.inl ⟨by rfl, ?_⟩) (by assumption) ?_
    rotate_left
    · (intro w hSw; (try dsimp only at hSw); go_simp; (try with_reducible rfl))
    simp only [Act.put, List.setIfInBounds_toArray, List.set_cons_zero, List.set_cons_succ, List.getElem_toArray, List.getElem_cons_zero, List.getElem_cons_succ]
    refine wpAnyH_done (by kernel_rfl) ?_ _
    clear p0 p1 p2
    go_wp2_with fail
    go_ret
    exact ⟨A2, n2, c2, rfl, le2, by rw [HR.out]; exact I2.out, Kept.trans HK1.out KB2.out⟩
  · subst h
    have HR := Lib.hid (formOf_4 n text)
    have HTC := Lib.hid (HTX.out true)
    clear HTX HTL HCX
    generalize textOf n true text = X at *
    unfold Sls.val at *
    go_enter Tryz.func18, Tryz.ntmps18
    have p0 := HX0.out
    have p1 := HX1.out
    have p2 := HX2.out
    go_wp2_with fail
    refine (HTC.out _ HK1.out).mono ?_
    rintro e w1 ⟨A1, n1, c1, rfl, le1, i1, k1⟩
    have I1 := Lib.hid i1
    clear i1 p0 p1 p2
    go_wp2_with fail
    go_ret
    exact ⟨A1, n1, c1, rfl, le1, by rw [HR.out]; exact I1.out, Kept.trans HK1.out k1⟩
  · have HR := Lib.hid (formOf_0 n h text)
    have z1 : (form == 1) = false := by simp; omega
    have z2 : (form == 2) = false := by simp; omega
    have z3 : (form == 3) = false := by simp; omega
    have z4 : (form == 4) = false := by simp; omega
    clear HTX HTL HCX h
    unfold Sls.val at *
    have hka := Kept.alloc (Kept.refl (w.alloc (Obj.cells #[Value.slice s.Ac s.nc s.cc, Value.slice s.Am s.nm s.cm, Value.slice s.Ae s.ne s.ce] 28))) (Obj.cells #[] 3)
    have HKA := Lib.hid (Kept.trans HK1.out hka)
    have HOE := Lib.hid (own_nil (base := w.heap.size + 1) (g := w.heap.size + 1) (w := (w.alloc (Obj.cells #[Value.slice s.Ac s.nc s.cc, Value.slice s.Am s.nm s.cm, Value.slice s.Ae s.ne s.ce] 28)).alloc (Obj.cells #[] 3)) (alloc_at (by simp)) (Nat.le_refl _))
    have HIa := Lib.hid ((HT.out.kept HK1.out).kept hka)
    clear hka
    go_enter Tryz.func18, Tryz.ntmps18
    go_wp2_with (at_builtin; refine app_ints rfl _ _ rfl (w.heap.size + 1) _ _ rfl HOE.out _ _ _ text rfl HIa.out (by have := HIa.out.1; simp; omega) (by simp) ?_; intro v6 w6 hown6 hgrow6 hat6)
    have K6 := Lib.hid (HKA.out.grown hgrow6 (by simp; omega) (fun q e => by have := (World.ownsRow.lt HOE.out q e).1; omega))
    obtain ⟨A6, c6, rfl, hle6, hI6⟩ := OwnI.sl hown6
    go_wp2_with fail
    go_ret
    exact ⟨A6, _, c6, rfl, hle6, by rw [HR.out]; simpa using hI6, K6.out⟩

set_option maxRecDepth 100000 in
set_option maxHeartbeats 2000000 in
theorem r23is (s : Sls) (n : Nrm) (form : Int) (A : Option Addr) (nt ct : Nat) (text : List Int) (w : World) (hN : NormAt w s n) (htag : ∀ m ∈ n.decomp, m.tag.size ≤ 1000) (hnt : nt ≤ 1000) (hT : Ints w A nt text) :
    Calls Tryz.prog 21 #[s.val, .int .i64 form, .slice A nt ct] w (RetB w (decide (formOf n form text = text))) := by
  have hk1 := Kept.alloc (Kept.refl w) (Obj.cells #[Value.slice s.Ac s.nc s.cc, Value.slice s.Am s.nm s.cm, Value.slice s.Ae s.ne s.ce] 28)
  have HK1 := Lib.hid hk1
  have hbx := box_cell w #[Value.slice s.Ac s.nc s.cc, Value.slice s.Am s.nm s.cm, Value.slice s.Ae s.ne s.ce] 28
  have x0 : (w.alloc (Obj.cells #[Value.slice s.Ac s.nc s.cc, Value.slice s.Am s.nm s.cm, Value.slice s.Ae s.ne s.ce] 28)).cell? ⟨w.heap.size, 0, none⟩ = some (.slice s.Ac s.nc s.cc) := hbx 0
  have HX0 := Lib.hid x0
  have x1 : (w.alloc (Obj.cells #[Value.slice s.Ac s.nc s.cc, Value.slice s.Am s.nm s.cm, Value.slice s.Ae s.ne s.ce] 28)).cell? ⟨w.heap.size, 1, none⟩ = some (.slice s.Am s.nm s.cm) := hbx 1
  have HX1 := Lib.hid x1
  have x2 : (w.alloc (Obj.cells #[Value.slice s.Ac s.nc s.cc, Value.slice s.Am s.nm s.cm, Value.slice s.Ae s.ne s.ce] 28)).cell? ⟨w.heap.size, 2, none⟩ = some (.slice s.Ae s.ne s.ce) := hbx 2
  have HX2 := Lib.hid x2
  have HF := Lib.hid (r23form s n form A nt ct text _ (hN.kept hk1) htag hnt (hT.kept hk1))
  have HT := Lib.hid hT
  have HL := Lib.hid (show (formOf n form text).length ≤ 1000000 by have := formOf_length n form text; have := hT.1; omega)
  clear hN htag hT hk1 hbx x0 x1 x2
  generalize formOf n form text = X at *
  unfold Sls.val at *
  go_enter Tryz.func21, Tryz.ntmps21
  have p0 := HX0.out
  have p1 := HX1.out
  have p2 := HX2.out
  go_wp2_with fail
  refine HF.out.mono ?_
  rintro e w1 ⟨A1, n1, c1, rfl, le1, i1, k1⟩
  have HE := Lib.hid (r01Equal A1 A n1 nt c1 ct X text w1 (by rw [i1.1]; exact HL.out) (by omega) i1 (HT.out.kept (Kept.trans HK1.out k1)))
  generalize decide (X = text) = bb at *
  have K1 := Lib.hid (Kept.trans HK1.out k1)
  clear i1 k1 p0 p1 p2
  go_wp2_with fail
  refine HE.out.mono ?_
  rintro e w2 ⟨rfl, k2⟩
  go_wp2_with fail
  go_ret
  exact ⟨rfl, Kept.trans K1.out k2⟩

set_option maxRecDepth 100000 in
set_option maxHeartbeats 4000000 in
theorem r23same (s : Sls) (n : Nrm) (cp : Bool) (A : Option Addr) (na ca : Nat) (a : List Int) (B : Option Addr) (nb cb : Nat) (b : List Int) (w : World) (hN : NormAt w s n) (htag : ∀ m ∈ n.decomp, m.tag.size ≤ 1000) (hna : na ≤ 1000) (hnb : nb ≤ 1000) (hA : Ints w A na a) (hB : Ints w B nb b) :
    Calls Tryz.prog 25 #[s.val, .slice A na ca, .slice B nb cb, .bool cp] w (RetB w (decide (formOf n (sameForm cp) a = formOf n (sameForm cp) b))) := by
  have hk1 := Kept.alloc (Kept.refl w) (Obj.cells #[Value.slice s.Ac s.nc s.cc, Value.slice s.Am s.nm s.cm, Value.slice s.Ae s.ne s.ce] 28)
  have HK1 := Lib.hid hk1
  have hbx := box_cell w #[Value.slice s.Ac s.nc s.cc, Value.slice s.Am s.nm s.cm, Value.slice s.Ae s.ne s.ce] 28
  have x0 : (w.alloc (Obj.cells #[Value.slice s.Ac s.nc s.cc, Value.slice s.Am s.nm s.cm, Value.slice s.Ae s.ne s.ce] 28)).cell? ⟨w.heap.size, 0, none⟩ = some (.slice s.Ac s.nc s.cc) := hbx 0
  have HX0 := Lib.hid x0
  have x1 : (w.alloc (Obj.cells #[Value.slice s.Ac s.nc s.cc, Value.slice s.Am s.nm s.cm, Value.slice s.Ae s.ne s.ce] 28)).cell? ⟨w.heap.size, 1, none⟩ = some (.slice s.Am s.nm s.cm) := hbx 1
  have HX1 := Lib.hid x1
  have x2 : (w.alloc (Obj.cells #[Value.slice s.Ac s.nc s.cc, Value.slice s.Am s.nm s.cm, Value.slice s.Ae s.ne s.ce] 28)).cell? ⟨w.heap.size, 2, none⟩ = some (.slice s.Ae s.ne s.ce) := hbx 2
  have HX2 := Lib.hid x2
  have HR := Lib.hid (show decide (formOf n (sameForm cp) a = formOf n (sameForm cp) b) = decide (textOf n cp a = textOf n cp b) by cases cp <;> simp [sameForm, formOf_2, formOf_4])
  have HTA := Lib.hid (fun w' (hk : Kept w w') => r21text s n A na ca a cp w' (hN.kept hk) htag hna (hA.kept hk))
  have HTB := Lib.hid (fun w' (hk : Kept w w') => r21text s n B nb cb b cp w' (hN.kept hk) htag hnb (hB.kept hk))
  have HLA := Lib.hid (show (textOf n cp a).length ≤ 1000000 by have := textOf_length n cp a; have := hA.1; omega)
  have HLB := Lib.hid (show (textOf n cp b).length ≤ 1000000 by have := textOf_length n cp b; have := hB.1; omega)
  clear hN htag hA hB hk1 hbx x0 x1 x2
  generalize decide (formOf n (sameForm cp) a = formOf n (sameForm cp) b) = RR at *
  generalize textOf n cp a = X at *
  generalize textOf n cp b = Y at *
  unfold Sls.val at *
  go_enter Tryz.func25, Tryz.ntmps25
  have p0 := HX0.out
  have p1 := HX1.out
  have p2 := HX2.out
  go_wp2_with fail
  refine wp_region_held_drew (S := (fun w' => w'.cell? ⟨w.heap.size, 0, none⟩ = some (.slice s.Ac s.nc s.cc) ∧ w'.cell? ⟨w.heap.size, 1, none⟩ = some (.slice s.Am s.nm s.cm) ∧ w'.cell? ⟨w.heap.size, 2, none⟩ = some (.slice s.Ae s.ne s.ce))) (by kernel_rfl) ⟨p0, p1, p2⟩ (fun hHeld => ?_)
  refine wpAnyH_take (i := 0) (v := ?_) rfl (by kernel_rfl) (by kernel_rfl) (by kernel_rfl) (fun _ _ _ h => h) (Or.inl ⟨by rfl, ?_⟩) (by assumption) ?_
  rotate_left
  · (intro w hSw; (try dsimp only at hSw); go_simp; (try with_reducible rfl))
  simp only [Act.put, List.setIfInBounds_toArray, List.set_cons_zero, List.set_cons_succ, List.getElem_toArray, List.getElem_cons_zero]
  refine wpAnyH_take (i := 1) (v := ?_) rfl (by kernel_rfl) (by kernel_rfl) (by kernel_rfl) (fun _ _ _ h => h) (Or.inl ⟨by rfl, ?_⟩) (by assumption) ?_
  rotate_left
  · (intro w hSw; (try dsimp only at hSw); go_simp; (try with_reducible rfl))
  simp only [Act.put, List.setIfInBounds_toArray, List.set_cons_zero, List.set_cons_succ, List.getElem_toArray, List.getElem_cons_zero, List.getElem_cons_succ]
  refine wpAnyH_take (i := 2) (v := ?_) rfl (by kernel_rfl) (by kernel_rfl) (by kernel_rfl) (fun _ _ _ h => h) (Or.inl ⟨by rfl, ?_⟩) (by assumption) ?_
  rotate_left
  · (intro w hSw; (try dsimp only at hSw); go_simp; (try with_reducible rfl))
  simp only [Act.put, List.setIfInBounds_toArray, List.set_cons_zero, List.set_cons_succ, List.getElem_toArray, List.getElem_cons_zero, List.getElem_cons_succ]
  refine wpAnyH_take (i := 4) (v := ?_) rfl (by kernel_rfl) (by kernel_rfl) (by kernel_rfl) (fun _ _ _ h => h) (Or.inl ⟨by rfl, ?_⟩) (by assumption) ?_
  rotate_left
  · (intro w hSw; (try dsimp only at hSw); go_simp; (try with_reducible rfl))
  simp only [Act.put, List.setIfInBounds_toArray, List.set_cons_zero, List.set_cons_succ, List.getElem_toArray, List.getElem_cons_zero, List.getElem_cons_succ]
  refine wpAnyH_take (i := 5) (v := ?_) rfl (by kernel_rfl) (by kernel_rfl) (by kernel_rfl) (fun _ _ _ h => h) (Or.inl ⟨by rfl, ?_⟩) (by assumption) ?_
  rotate_left
  · (intro w hSw; (try dsimp only at hSw); go_simp; (try with_reducible rfl))
  simp only [Act.put, List.setIfInBounds_toArray, List.set_cons_zero, List.set_cons_succ, List.getElem_toArray, List.getElem_cons_zero, List.getElem_cons_succ]
  refine wpAnyH_take (i := 6) (v := ?_) rfl (by kernel_rfl) (by kernel_rfl) (by kernel_rfl) (fun _ _ _ h => h) (Or.inl ⟨by rfl, ?_⟩) (by assumption) ?_
  rotate_left
  · (intro w hSw; (try dsimp only at hSw); go_simp; (try with_reducible rfl))
  simp only [Act.put, List.setIfInBounds_toArray, List.set_cons_zero, List.set_cons_succ, List.getElem_toArray, List.getElem_cons_zero, List.getElem_cons_succ]
  refine wpAnyH_ready (rs := [3]) (by kernel_rfl) (by simp) ?_
  refine AllReadyH.cons rfl (fun K hK => ?_) AllReadyH.nil
  go_simp
  (refine (HTA.out _ (Kept.drew HK1.out)).mono ?_; rintro e w1 ⟨A1, n1, c1, rfl, le1, i1, k1⟩; have I1 := Lib.hid i1; have hn1 : n1 ≤ 1000000 := (by rw [i1.1]; exact HLA.out); clear i1; have KB1 := Lib.hid (Kept.trans (Kept.drew (Kept.refl (w.alloc (Obj.cells #[Value.slice s.Ac s.nc s.cc, Value.slice s.Am s.nm s.cm, Value.slice s.Ae s.ne s.ce] 28)))) k1); clear k1)
  go_wp2_with fail
  refine hK.out _ _ ⟨Kept.cell KB1.out HX0.out, Kept.cell KB1.out HX1.out, Kept.cell KB1.out HX2.out⟩ (fun hHeld => ?_)
  clear hK K
  (try simp only [Act.put, List.setIfInBounds_toArray, List.set_cons_zero, List.set_cons_succ, List.getElem_toArray, List.getElem_cons_zero, List.getElem_cons_succ])
  refine wpAnyH_ready (rs := [7]) (by kernel_rfl) (by simp) ?_
  refine AllReadyH.cons rfl (fun K hK => ?_) AllReadyH.nil
  go_simp
  (refine (HTB.out _ (Kept.trans HK1.out KB1.out)).mono ?_; rintro e w2 ⟨A2, n2, c2, rfl, le2, i2, k2⟩; have I2 := Lib.hid i2; have hn2 : n2 ≤ 1000000 := (by rw [i2.1]; exact HLB.out); clear i2; have I1b := Lib.hid (I1.out.kept k2); have KB2 := Lib.hid (Kept.trans KB1.out k2); clear k2; have HE := Lib.hid (r01Equal A1 A2 n1 n2 c1 c2 X Y w2 hn1 hn2 I1b.out I2.out); rw [← HR.out] at HE)
  go_wp2_with fail
  refine hK.out _ _ ⟨Kept.cell KB2.out HX0.out, Kept.cell KB2.out HX1.out, Kept.cell KB2.out HX2.out⟩ (fun hHeld => ?_)
  clear hK K
  (try simp only [Act.put, List.setIfInBounds_toArray, List.set_cons_zero, List.set_cons_succ, List.getElem_toArray, List.getElem_cons_zero, List.getElem_cons_succ])
  refine wpAnyH_ready (rs := [8]) (by kernel_rfl) (by simp) ?_
  refine AllReadyH.cons rfl (fun K hK => ?_) AllReadyH.nil
  go_simp
  (refine HE.out.mono ?_; rintro e w3 ⟨rfl, k3⟩; have KB3 := Lib.hid (Kept.trans KB2.out k3); clear k3)
  go_wp2_with fail
  refine hK.out _ _ ⟨Kept.cell KB3.out HX0.out, Kept.cell KB3.out HX1.out, Kept.cell KB3.out HX2.out⟩ (fun hHeld => ?_)
  clear hK K
  (try simp only [Act.put, List.setIfInBounds_toArray, List.set_cons_zero, List.set_cons_succ, List.getElem_toArray, List.getElem_cons_zero, List.getElem_cons_succ])
  refine wpAnyH_take (i := 9) (v := ?_) rfl (by kernel_rfl) (by kernel_rfl) (by kernel_rfl) (fun _ _ _ h => h) (Or.inl ⟨by rfl, ?_⟩) (by assumption) ?_
  rotate_left
  · (intro w hSw; (try dsimp only at hSw); go_simp; (try with_reducible rfl))
  simp only [Act.put, List.setIfInBounds_toArray, List.set_cons_zero, List.set_cons_succ, List.getElem_toArray, List.getElem_cons_zero, List.getElem_cons_succ]
  refine wpAnyH_done (by kernel_rfl) ?_ _
  clear p0 p1 p2
  go_wp2_with fail
  go_ret
  exact ⟨rfl, Kept.trans HK1.out KB3.out⟩

set_option maxRecDepth 100000 in
set_option maxHeartbeats 4000000 in
theorem r23first (s : Sls) (n : Nrm) (form : Int) (A : Option Addr) (nt ct : Nat) (text : List Int) (w : World) (hN : NormAt w s n) (htag : ∀ m ∈ n.decomp, m.tag.size ≤ 1000) (hnt : nt ≤ 1000) (hT : Ints w A nt text) :
    Calls Tryz.prog 23 #[s.val, .int .i64 form, .slice A nt ct] w (RetI w (firstI (formOf n form text) text)) := by
  have hk1 := Kept.alloc (Kept.refl w) (Obj.cells #[Value.slice s.Ac s.nc s.cc, Value.slice s.Am s.nm s.cm, Value.slice s.Ae s.ne s.ce] 28)
  have HK1 := Lib.hid hk1
  have hbx := box_cell w #[Value.slice s.Ac s.nc s.cc, Value.slice s.Am s.nm s.cm, Value.slice s.Ae s.ne s.ce] 28
  have x0 : (w.alloc (Obj.cells #[Value.slice s.Ac s.nc s.cc, Value.slice s.Am s.nm s.cm, Value.slice s.Ae s.ne s.ce] 28)).cell? ⟨w.heap.size, 0, none⟩ = some (.slice s.Ac s.nc s.cc) := hbx 0
  have HX0 := Lib.hid x0
  have x1 : (w.alloc (Obj.cells #[Value.slice s.Ac s.nc s.cc, Value.slice s.Am s.nm s.cm, Value.slice s.Ae s.ne s.ce] 28)).cell? ⟨w.heap.size, 1, none⟩ = some (.slice s.Am s.nm s.cm) := hbx 1
  have HX1 := Lib.hid x1
  have x2 : (w.alloc (Obj.cells #[Value.slice s.Ac s.nc s.cc, Value.slice s.Am s.nm s.cm, Value.slice s.Ae s.ne s.ce] 28)).cell? ⟨w.heap.size, 2, none⟩ = some (.slice s.Ae s.ne s.ce) := hbx 2
  have HX2 := Lib.hid x2
  have HF := Lib.hid (r23form s n form A nt ct text _ (hN.kept hk1) htag hnt (hT.kept hk1))
  have HY := Lib.hid hT
  have HYN := Lib.hid hT.1
  have HL := Lib.hid (show (formOf n form text).length ≤ 1000000 by have := formOf_length n form text; have := hT.1; omega)
  clear hN htag hT hk1 hbx x0 x1 x2
  generalize formOf n form text = X at *
  unfold Sls.val at *
  go_enter Tryz.func23, Tryz.ntmps23
  have p0 := HX0.out
  have p1 := HX1.out
  have p2 := HX2.out
  go_wp2_with fail
  refine HF.out.mono ?_
  rintro e w1 ⟨A1, n1, c1, rfl, le1, i1, k1⟩
  have HX := Lib.hid i1
  have HXN := Lib.hid i1.1
  have hn1 : n1 ≤ 1000000 := by rw [i1.1]; exact HL.out
  have K1 := Lib.hid (Kept.trans HK1.out k1)
  clear i1 p0 p1 p2
  go_wp2_with fail
  go_loopw [8] (fun i wr => ∃ k : Nat, k ≤ n1 ∧ k ≤ nt ∧ i = .int .i64 k ∧ X.take k = text.take k ∧ Kept w1 wr) (fun i _ => n1 - (intOf i).toNat)
  case atStart => exact ⟨0, Nat.zero_le _, Nat.zero_le _, rfl, rfl, Kept.refl _⟩
  case round =>
    obtain ⟨k, hk, hk2, rfl, ht, hkw⟩ := hrel
    have HTK := Lib.hid ht
    have HKW := Lib.hid hkw
    clear ht
    by_cases h12 : k < n1 ∧ k < nt
    · obtain ⟨h1, h2⟩ := h12
      obtain ⟨b, off, x, rfl, hx, c0⟩ := int_at (HX.out.kept hkw) h1
      obtain ⟨b2, off2, y, rfl, hy, c1'⟩ := int_at (HY.out.kept (Kept.trans K1.out hkw)) h2
      have HXK := Lib.hid hx
      have HYK := Lib.hid hy
      have g1 : (k : Int) < (n1 : Int) := by omega
      have g2 : (k : Int) < (nt : Int) := by omega
      clear hx hy hkw
      by_cases h3 : x = y
      · subst h3
        go_wp2_with fail
        go_quiet (fail)
        go_wp2_with fail
        go_roundw
        case rel => exact ⟨k + 1, by omega, by omega, by go_num, take_eq_succ HTK.out HXK.out HYK.out, Kept.drewN HKW.out _⟩
        case measure => simp [intOf]; omega
      · have h3b : (y != x) = true := by simp; exact fun h => h3 h.symm
        have HRES := Lib.hid (first_at HTK.out HXK.out HYK.out h3)
        clear h3
        go_wp2_with fail
        go_quiet (fail)
        go_wp2_with fail
        go_ret
        exact ⟨ret_int HRES.out.symm, Kept.trans K1.out (Kept.drewN HKW.out _)⟩
    · clear hkw
      rcases Nat.lt_trichotomy nt n1 with h | h | h
      · have HKK := Lib.hid (show k = nt by omega)
        have HRES := Lib.hid (first_end HTK.out (by have := HXN.out; omega) (by have := HYN.out; omega) (by have := HXN.out; have := HYN.out; omega) (by have := HXN.out; have := HYN.out; omega))
        have hez : ((nt : Int) == (n1 : Int)) = false := by simp; omega
        have g1 : ¬ k < nt := by omega
        clear h12
        go_wp2_with fail
        go_ret
        exact ⟨ret_int (by rw [HRES.out]; have := HKK.out; omega), Kept.trans K1.out HKW.out⟩
      · have HRES := Lib.hid (show firstI X text = -1 by
          have h1 := HTK.out
          rw [List.take_of_length_le (by have := HXN.out; omega), List.take_of_length_le (by have := HYN.out; omega)] at h1
          rw [h1, firstI_same])
        have hez : ((nt : Int) == (n1 : Int)) = true := by simp [h]
        have g1 : ¬ k < nt := by omega
        clear h12 h
        go_wp2_with fail
        go_ret
        exact ⟨ret_int HRES.out.symm, Kept.trans K1.out HKW.out⟩
      · have HKK := Lib.hid (show k = n1 by omega)
        have HRES := Lib.hid (first_end HTK.out (by have := HXN.out; omega) (by have := HYN.out; omega) (by have := HXN.out; have := HYN.out; omega) (by have := HXN.out; have := HYN.out; omega))
        have hez : ((nt : Int) == (n1 : Int)) = false := by simp; omega
        have g1 : k < nt := by omega
        have g2 : ¬ k < n1 := by omega
        clear h12
        go_wp2_with fail
        go_ret
        exact ⟨ret_int (by rw [HRES.out]; have := HKK.out; omega), Kept.trans K1.out HKW.out⟩
end Go.Proofs.YtdogaaepiddnoaaGreatDoor
