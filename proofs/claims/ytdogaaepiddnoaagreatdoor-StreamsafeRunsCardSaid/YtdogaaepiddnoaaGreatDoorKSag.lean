/- streamsafe.Text. slices.Equal of numbers; streamsafe.Is and Longest. law27.alive returns true. -/
import Derived.WalkMore
import Derived.Test.YtdogaaepiddnoaaGreatDoorKSaf
import Derived.Test.YtdogaaepiddnoaaGreatDoorKRfj
namespace Go.Proofs.YtdogaaepiddnoaaGreatDoor
open Go Go.RowKit

theorem edgN_le {n : Nrm} (hd : decCheck n = 0) (c : Int) : (edgN n c).lead ≤ 64 ∧ (edgN n c).trail ≤ 64 := by
  have h := usableN_len n true c
  rw [usable_ok hd] at h
  have h1 := leadN_le (cls := classOf n.classes) (fullOf n.decomp true c)
  have h2 := trailN_le (cls := classOf n.classes) (fullOf n.decomp true c)
  unfold edgN edgOf
  exact ⟨by simp only; omega, by simp only; omega⟩
theorem nxtE_le {e : Edg} {k : Nat} (h : e.lead ≤ 64) (h2 : e.trail ≤ 64) : nxtE e k ≤ k + 64 := by
  unfold nxtE; split <;> omega
theorem MesAt.grown {w w' : World} {bk bn bm : Nat} {s : Sls} {n : Nrm} {M : List (Int × Value)} (h : MesAt w bk bn bm s n M) {row : Option Nat} (hg : w.grownBy w' row) (hr : ∀ g, row = some g → g ≠ bk ∧ g ≠ bn ∧ g ≠ bm) : MesAt w' bk bn bm s n M := by
  have ne : ∀ {b : Nat}, (∀ g, row = some g → g ≠ b) → some b ≠ row := fun hb e => hb _ e.symm rfl
  exact ⟨(hg.block _ (block_lt h.k) (ne fun g e => (hr g e).1)).trans h.k, (hg.block _ (block_lt h.nn) (ne fun g e => (hr g e).2.1)).trans h.nn, h.m.block (hg.block _ h.m.lt (ne fun g e => (hr g e).2.2)), h.vals⟩
theorem KeptBut.mono {S S' : List Nat} {w w' : World} (h : KeptBut S w w') (hs : ∀ b ∈ S, b ∈ S') : KeptBut S' w w' := ⟨h.os, h.tape, h.output, h.size, fun i hi hn => h.block i hi (fun hm => hn (hs i hm))⟩
theorem own_but {S : List Nat} {w w' : World} {base : Nat} {v : Value} {xs : List Int} (h : OwnI w base v xs) (hk : KeptBut S w w') (hS : ∀ b ∈ S, b < base) : OwnI w' base v xs :=
  own_keptBut h hk (fun g hg hm => by have := (World.ownsRow.lt h g hg).1; have := hS g hm; omega)

theorem KeptBut.grown {S : List Nat} {W x y : World} {row : Option Nat} (h : KeptBut S W x) (hg : x.grownBy y row) (hr : ∀ g, row = some g → W.heap.size ≤ g) : KeptBut S W y :=
  ⟨hg.os.trans h.os, hg.tape.trans h.tape, hg.output.trans h.output, Nat.le_trans h.size hg.size, fun i hi hn => (hg.block i (Nat.lt_of_lt_of_le hi h.size) (fun e => by have := hr i e.symm; omega)).trans (h.block i hi hn)⟩

set_option maxRecDepth 100000 in
set_option maxHeartbeats 4000000 in
theorem ssText_any (s : Sls) (n : Nrm) (most : Int) (A : Option Addr) (nt ct : Nat) (text : List Int) (w : World) (hN : NormAt w s n) (hG : Glob w) (hx : I64 most) (hnt : nt ≤ 1000) (hT : Ints w A nt text) :
    Calls Tryz.prog 35 #[s.val, .int .i64 most, .slice A nt ct] w (RetInts w (ssText n most text)) := by
  obtain ⟨B, hB⟩ : ∃ B : Nat, B = w.heap.size := ⟨_, rfl⟩
  have hk0 := Kept.alloc (Kept.alloc (Kept.refl w) (Obj.cells #[Value.slice s.Ac s.nc s.cc, Value.slice s.Am s.nm s.cm, Value.slice s.Ae s.ne s.ce] 28)) (Obj.cells #[Value.int IntKind.i64 most] 3)
  have b0 : ((w.alloc (Obj.cells #[Value.slice s.Ac s.nc s.cc, Value.slice s.Am s.nm s.cm, Value.slice s.Ae s.ne s.ce] 28)).alloc (Obj.cells #[Value.int IntKind.i64 most] 3)).heap[B]? = some (.cells #[Value.slice s.Ac s.nc s.cc, Value.slice s.Am s.nm s.cm, Value.slice s.Ae s.ne s.ce] 28 (0, 0)) := alloc_lift (alloc_at hB)
  have b1 : ((w.alloc (Obj.cells #[Value.slice s.Ac s.nc s.cc, Value.slice s.Am s.nm s.cm, Value.slice s.Ae s.ne s.ce] 28)).alloc (Obj.cells #[Value.int IntKind.i64 most] 3)).heap[B + 1]? = some (.cells #[Value.int IntKind.i64 most] 3 (0, 0)) := alloc_at (by simp [hB])
  have HCK := Lib.hid (ssCheck_any s n most _ (hN.kept hk0) (hG.kept hk0))
  have HK0 := Lib.hid hk0
  have HB0 := Lib.hid b0
  have HB1 := Lib.hid b1
  have HBB := Lib.hid hB
  have HN := Lib.hid hN
  have HG := Lib.hid hG
  have HT := Lib.hid hT
  have HTL := Lib.hid hT.1
  have HX := Lib.hid hx
  clear hk0 b0 b1 hN hG hT hx
  by_cases h : ssCheck n most = 0
  · have HR := Lib.hid (ssText_ok h text)
    obtain ⟨hm1, hm2, hd, _, _⟩ := ssCheck_zero h
    have HD := Lib.hid hd
    rw [h] at HCK
    clear h hd
    unfold Sls.val at *
    go_enter Tryz.func35, Tryz.ntmps35
    go_wp2_with fail
    refine wp_scope_straight ?_
    go_wp2_with fail
    generalize (w.alloc (Obj.cells #[Value.slice s.Ac s.nc s.cc, Value.slice s.Am s.nm s.cm, Value.slice s.Ae s.ne s.ce] 28)).alloc (Obj.cells #[Value.int IntKind.i64 most] 3) = W0 at *
    rw [← hB]
    clear hB
    refine HCK.out.mono ?_
    rintro e w1 ⟨rfl, k1⟩
    have e0 := (k1.block _ (block_lt HB0.out)).trans HB0.out
    have a0 := cell_of_block (i := 0) e0 rfl
    have a1 := cell_of_block (i := 1) e0 rfl
    have a2 := cell_of_block (i := 2) e0 rfl
    simp only [List.getElem_toArray, List.getElem_cons_zero, List.getElem_cons_succ] at a0 a1 a2
    have K1 := Lib.hid (Kept.trans HK0.out k1)
    have HE1 := Lib.hid ((k1.block _ (block_lt HB1.out)).trans HB1.out)
    clear e0
    have HM := Lib.hid (measurer_any s n w1)
    unfold Sls.val at HM
    go_wp2_with fail
    refine HM.out.mono ?_
    rintro e w2 ⟨bk, bn, bm, rfl, hM, hbm, k2⟩
    have HM2 := Lib.hid hM
    have K2 := Lib.hid (Kept.trans K1.out k2)
    have HE2 := Lib.hid ((k2.block _ (block_lt HE1.out)).trans HE1.out)
    have hs2 := k2.size
    clear hM a0 a1 a2
    go_wp2_with fail
    refine wp_label ?_
    obtain ⟨b8, hb8⟩ : ∃ b8 : Nat, b8 = w2.heap.size := ⟨_, rfl⟩
    have hk3 := Kept.alloc (Kept.refl w2) (Obj.cells #[Value.int IntKind.i64 0] 3)
    have h8 : (w2.alloc (Obj.cells #[Value.int IntKind.i64 0] 3)).heap[b8]? = some (.cells #[Value.int IntKind.i64 0] 3 (0, 0)) := alloc_at hb8
    have HM3 := Lib.hid (HM2.out.kept hk3)
    have HE3 := Lib.hid ((hk3.block _ (block_lt HE2.out)).trans HE2.out)
    have K3 := Lib.hid (Kept.trans K2.out hk3)
    have H8 := Lib.hid h8
    have hmb : bm < b8 := by have := HM2.out.m.lt; omega
    have hkb : bk < b8 := by have := block_lt HM2.out.k; omega
    have hnb : bn < b8 := by have := block_lt HM2.out.nn; omega
    have hmw : w.heap.size ≤ bm := by have := K1.out.size; omega
    have hB8 : B + 1 < w2.heap.size := block_lt HE2.out
    have hBm : B + 1 < w1.heap.size := block_lt HE1.out
    rw [← hb8]
    have HB8 := Lib.hid hb8
    clear h8 hk3 hb8
    generalize w2.alloc (Obj.cells #[Value.int IntKind.i64 0] 3) = W3 at *
    have hb83 : b8 < W3.heap.size := block_lt H8.out
    obtain ⟨base, hbase⟩ : ∃ base : Nat, base = W3.heap.size := ⟨_, rfl⟩
    have HBASE := Lib.hid hbase
    have hsz3 : w.heap.size ≤ W3.heap.size := K3.out.size
    have hb83' : b8 < base := by omega
    clear hbase
    go_wp2_with fail
    go_loopw [11, 27] (fun p i wr => ∃ (j : Nat) (Mj : List (Int × Value)), j ≤ nt ∧ i = .int .i64 j ∧ OwnI wr base p (ssFrom (edgN n) most 0 (text.take j)) ∧ wr.heap[b8]? = some (.cells #[.int .i64 (ssCount (edgN n) most 0 (text.take j) : Nat)] 3 (0, 0)) ∧ ssCount (edgN n) most 0 (text.take j) ≤ 64 * j ∧ MesAt wr bk bn bm s n Mj ∧ KeptBut [bm, b8] W3 wr) (fun _ i _ => nt - (intOf i).toNat)
    case atStart => exact ⟨0, [], Nat.zero_le _, rfl, (World.ownsRow_nil _ _ _ _ : OwnI W3 base (.slice none 0 0) []), H8.out, by simp [ssCount], HM3.out, KeptBut.refl _ _⟩
    case round =>
      obtain ⟨j, Mj, hj, rfl, hown, h8j, hcj, hMj, hkj⟩ := hrel
      have HOW := Lib.hid hown
      have H8J := Lib.hid h8j
      have HMJ := Lib.hid hMj
      have HKJ := Lib.hid hkj
      have hszj := hkj.size
      have KW : Hid (Kept w wr) := Lib.hid (Below.trans K3.out (hkj.below (by intro b hb; simp at hb; omega) hsz3))
      have HE4 := Lib.hid ((hkj.block (B + 1) (block_lt HE3.out) (by simp; omega)).trans HE3.out)
      have HGL := Lib.hid (show ∀ g, u11.ownBlock = some g → base ≤ g ∧ g < wr.heap.size from World.ownsRow.lt hown)
      clear hown h8j hMj hkj
      by_cases hlt : j < nt
      · obtain ⟨b, off, y, hA, hy, cw⟩ := int_at (HT.out.kept KW.out) hlt
        rw [hA]
        have HSF := Lib.hid (show ssFrom (edgN n) most 0 (text.take (j + 1)) = _ by rw [take_succ_some hy, ssFrom_snoc])
        have HSC := Lib.hid (show ssCount (edgN n) most 0 (text.take (j + 1)) = _ by rw [take_succ_some hy, ssCount_snoc])
        have hsl := (ss_len (E := edgN n) (most := most) (text.take j) 0).2
        have htl : (text.take j).length ≤ j := List.length_take_le _ _
        obtain ⟨hle1, htr1⟩ := edgN_le HD.out y
        have HCALL := Lib.hid (measure_calls s n HD.out w.heap.size bk bn bm hmw y Mj wr HMJ.out (fun w' hw' => ⟨HN.out.kept (Below.trans KW.out hw'), HG.out.kept (Below.trans KW.out hw')⟩) (by omega))
        obtain ⟨le, tr, op, hed⟩ : ∃ le tr op, edgN n y = ⟨le, tr, op⟩ := ⟨_, _, _, rfl⟩
        rw [hed] at hle1 htr1
        have HED := Lib.hid hed
        rw [hed] at HSF HSC
        generalize ssCount (edgN n) most 0 (text.take j) = cnt at *
        generalize ssFrom (edgN n) most 0 (text.take j) = L at *
        simp only at hle1 htr1
        clear hy hed
        go_wp2_with fail
        refine HCALL.out.mono ?_
        rintro e w4 ⟨M4, rfl, hk4, hM4⟩
        rw [HED.out]
        unfold encE
        have HM4 := Lib.hid hM4
        have HK4 := Lib.hid hk4
        have hsz4 := hk4.size
        have h84 := (hk4.block b8 (by omega) (by simp; omega)).trans H8J.out
        have e44 := (hk4.block (B + 1) (by omega) (by simp; omega)).trans HE4.out
        have hka := Kept.alloc (Kept.refl w4) (Obj.cells #[Value.int IntKind.i64 le, Value.int IntKind.i64 tr, Value.bool op] 78)
        have h8a := (hka.block b8 (block_lt h84)).trans h84
        have e4a := (hka.block (B + 1) (block_lt e44)).trans e44
        have d8 := cell_of_block (i := 0) h8a rfl
        have d4 := cell_of_block (i := 0) e4a rfl
        simp only [List.getElem_toArray, List.getElem_cons_zero] at d8 d4
        have HF := Lib.hid (fits_any ⟨le, tr, op⟩ b8 (B + 1) cnt most _ HX.out (by omega) (by simp only; omega) d8 d4)
        unfold encE at HF
        have hbe : (w4.alloc (Obj.cells #[Value.int IntKind.i64 le, Value.int IntKind.i64 tr, Value.bool op] 78)).heap[w4.heap.size]? = some (.cells #[Value.int IntKind.i64 le, Value.int IntKind.i64 tr, Value.bool op] 78 (0, 0)) := alloc_at rfl
        have HBE := Lib.hid hbe
        have H8A := Lib.hid h8a
        have HKA := Lib.hid hka
        have hs4a : (w4.alloc (Obj.cells #[Value.int IntKind.i64 le, Value.int IntKind.i64 tr, Value.bool op] 78)).heap.size = w4.heap.size + 1 := by simp
        obtain ⟨be, hbe'⟩ : ∃ be : Nat, be = w4.heap.size := ⟨_, rfl⟩
        have hwj4 : wr.heap.size ≤ be := by omega
        have HBEE := Lib.hid hbe'
        clear hM4 hk4 h84 e44 hka h8a e4a d8 d4 hbe
        go_wp2_with fail
        rw [← hbe'] at HBE ⊢
        clear hbe'
        refine HF.out.mono ?_
        rintro e w5 ⟨rfl, k5⟩
        have KB5 : Hid (KeptBut [bm, b8] W3 w5) := Lib.hid (((HKJ.out.trans (HK4.out.mono (by simp))).trans (HKA.out.but _)).trans (k5.but _))
        have HO5 := Lib.hid (own_kept (own_kept (own_but HOW.out HK4.out (by intro q hq; simp at hq; omega)) HKA.out) k5)
        have HM5 := Lib.hid ((HM4.out.kept HKA.out).kept k5)
        have H85 := Lib.hid ((k5.block b8 (block_lt H8A.out)).trans H8A.out)
        have HBE5 := Lib.hid ((k5.block be (block_lt HBE.out)).trans HBE.out)
        have hsz5 := k5.size
        rw [hs4a] at hsz5
        have hbb : base ≤ wr.heap.size := by have := HBASE.out; omega
        cases hf : fitsE most ⟨le, tr, op⟩ cnt
        · rw [hf] at HSF HSC
          simp only [Bool.false_eq_true, if_false] at HSF HSC
          clear hf
          have hkc := Kept.alloc (Kept.refl w5) (Obj.cells #[Value.int IntKind.i64 847, Value.int IntKind.i64 y] 3)
          have HKC := Lib.hid hkc
          have hszc : (w5.alloc (Obj.cells #[Value.int IntKind.i64 847, Value.int IntKind.i64 y] 3)).heap.size = w5.heap.size + 1 := by simp
          have HBE6 := Lib.hid ((hkc.block be (block_lt HBE5.out)).trans HBE5.out)
          have H86 := Lib.hid ((hkc.block b8 (block_lt H85.out)).trans H85.out)
          have HO6 := Lib.hid (own_kept HO5.out hkc)
          have hLL : L.length ≤ 2000 := by omega
          clear hkc
          go_wp2_with (at_builtin; refine app_ints rfl _ _ rfl base _ _ rfl HO6.out _ _ _ [847, y] rfl (by exact Ints.alloc_ (xs := [847, y]) rfl rfl) (by simp; omega) (by rw [hszc]; omega) ?_; intro v6 w6 hown6 hgrow6 hat6; have hb6 := (hgrow6.block be (block_lt HBE6.out) (fun e => by have := (HGL.out be e.symm).2; omega)).trans HBE6.out; have h86 := (hgrow6.block b8 (block_lt H86.out) (fun e => by have := (HGL.out b8 e.symm).1; omega)).trans H86.out; have y0 := cell_of_block (i := 0) hb6 rfl; have y1 := cell_of_block (i := 1) hb6 rfl; have y2 := cell_of_block (i := 2) hb6 rfl; have c86 := cell_of_block (i := 0) h86 rfl; have f86 := frozen_of_block (i := 0) h86; simp only [List.getElem_toArray, List.getElem_cons_zero, List.getElem_cons_succ] at y0 y1 y2 c86; have hs0 := KeptBut.setCell (S := [b8]) w6 (p := ⟨b8, 0, none⟩) (by simp) (.int .i64 0); have z0 := hs0.cell y0 (by simp; omega); have z1 := hs0.cell y1 (by simp; omega); have z2 := hs0.cell y2 (by simp; omega))
          have hsz6 := hgrow6.size
          rw [hszc] at hsz6
          have h87 := heap_setCell_one (v := .int .i64 ((0 : Nat) : Int)) h86
          have HP := Lib.hid (pass_any ⟨le, tr, op⟩ b8 0 _ (by omega) (by simp only; omega) h87)
          have KB6 : Hid (KeptBut [bm, b8] W3 (w6.setCell ⟨b8, 0, none⟩ (.int .i64 0))) := Lib.hid (((KB5.out.trans (HKC.out.but _)).grown hgrow6 (fun g e => by have := (HGL.out g e).1; have := HBASE.out; omega)).trans (hs0.mono (by simp)))
          have HO7 := Lib.hid (own_but hown6 hs0 (by intro q hq; simp at hq; omega))
          have HM6 := Lib.hid (((HM5.out.kept HKC.out).grown hgrow6 (fun g e => by have := (HGL.out g e).1; omega)).but hs0 (by omega) (by omega) (by omega))
          unfold encE at HP
          refine HP.out.mono ?_
          rintro e w7 ⟨rfl, hk7, h8f⟩
          have HK7 := Lib.hid hk7
          have H8F := Lib.hid h8f
          clear hown6 hgrow6 hat6 hb6 h86 y0 y1 y2 c86 f86 hk7 h8f hs0 z0 z1 z2 h87
          go_wp2_with fail
          go_roundw
          case rel =>
            refine ⟨j + 1, M4, by omega, by go_num, ?_, ?_, ?_, HM6.out.but HK7.out (by omega) (by omega) (by omega), KB6.out.trans (HK7.out.mono (by simp))⟩
            · rw [HSF.out]; simpa using own_but HO7.out HK7.out (by intro q hq; simp at hq; omega)
            · rw [HSC.out]; exact H8F.out
            · rw [HSC.out]
              have := nxtE_le (e := ⟨le, tr, op⟩) (k := 0) hle1 htr1
              omega
          case measure => simp [intOf]; omega
        · rw [hf] at HSF HSC
          simp only [if_true] at HSF HSC
          clear hf
          have hkc := Kept.alloc (Kept.refl w5) (Obj.cells #[Value.int IntKind.i64 y] 3)
          have HKC := Lib.hid hkc
          have hszc : (w5.alloc (Obj.cells #[Value.int IntKind.i64 y] 3)).heap.size = w5.heap.size + 1 := by simp
          have HBE6 := Lib.hid ((hkc.block be (block_lt HBE5.out)).trans HBE5.out)
          have H86 := Lib.hid ((hkc.block b8 (block_lt H85.out)).trans H85.out)
          have HO6 := Lib.hid (own_kept HO5.out hkc)
          have hLL : L.length ≤ 2000 := by omega
          clear hkc
          go_wp2_with (at_builtin; refine app_ints rfl _ _ rfl base _ _ rfl HO6.out _ _ _ [y] rfl (by exact Ints.alloc_ (xs := [y]) rfl rfl) (by simp; omega) (by rw [hszc]; omega) ?_; intro v6 w6 hown6 hgrow6 hat6; have hb6 := (hgrow6.block be (block_lt HBE6.out) (fun e => by have := (HGL.out be e.symm).2; omega)).trans HBE6.out; have h86 := (hgrow6.block b8 (block_lt H86.out) (fun e => by have := (HGL.out b8 e.symm).1; omega)).trans H86.out; have y0 := cell_of_block (i := 0) hb6 rfl; have y1 := cell_of_block (i := 1) hb6 rfl; have y2 := cell_of_block (i := 2) hb6 rfl; have c86 := cell_of_block (i := 0) h86 rfl; have f86 := frozen_of_block (i := 0) h86; simp only [List.getElem_toArray, List.getElem_cons_zero, List.getElem_cons_succ] at y0 y1 y2 c86)
          have hsz6 := hgrow6.size
          rw [hszc] at hsz6
          have HP := Lib.hid (pass_any ⟨le, tr, op⟩ b8 cnt w6 (by omega) (by simp only; omega) h86)
          have KB6 : Hid (KeptBut [bm, b8] W3 w6) := Lib.hid ((KB5.out.trans (HKC.out.but _)).grown hgrow6 (fun g e => by have := (HGL.out g e).1; have := HBASE.out; omega))
          have HO7 := Lib.hid hown6
          have HM6 := Lib.hid ((HM5.out.kept HKC.out).grown hgrow6 (fun g e => by have := (HGL.out g e).1; omega))
          unfold encE at HP
          refine HP.out.mono ?_
          rintro e w7 ⟨rfl, hk7, h8f⟩
          have HK7 := Lib.hid hk7
          have H8F := Lib.hid h8f
          clear hown6 hgrow6 hat6 hb6 h86 y0 y1 y2 c86 f86 hk7 h8f
          go_wp2_with fail
          go_roundw
          case rel =>
            refine ⟨j + 1, M4, by omega, by go_num, ?_, ?_, ?_, HM6.out.but HK7.out (by omega) (by omega) (by omega), KB6.out.trans (HK7.out.mono (by simp))⟩
            · rw [HSF.out]; simpa using own_but HO7.out HK7.out (by intro q hq; simp at hq; omega)
            · rw [HSC.out]; exact H8F.out
            · rw [HSC.out]
              have := nxtE_le (e := ⟨le, tr, op⟩) (k := cnt) hle1 htr1
              omega
          case measure => simp [intOf]; omega
      · have hfull : text.take j = text := List.take_of_length_le (by have := HTL.out; omega)
        have hown := HOW.out
        rw [hfull, ← HR.out] at hown
        obtain ⟨R, hRR⟩ : ∃ R : List Int, R = ssText n most text := ⟨_, rfl⟩
        rw [← hRR] at hown
        have HRR := Lib.hid hRR
        obtain ⟨A4, c4, hu, hle4, hI4⟩ := OwnI.sl hown
        clear hown hfull hRR
        subst hu
        go_wp2_with fail
        rw [Exit.noGoto_ret]
        go_ret
        exact ⟨A4, _, c4, rfl, hle4, by rw [← HRR.out]; exact hI4, KW.out⟩
  · have hb : (ssCheck n most != 0) = true := by simp [h]
    have HR := Lib.hid (ssText_bad h text)
    clear h
    unfold Sls.val at *
    go_enter Tryz.func35, Tryz.ntmps35
    go_wp2_with fail
    refine wp_scope_straight ?_
    go_wp2_with fail
    refine HCK.out.mono ?_
    rintro e w1 ⟨rfl, k1⟩
    have HCL := Lib.hid (clone_any A nt ct text w1 (by omega) (HT.out.kept (Kept.trans HK0.out k1)))
    go_wp2_with fail
    refine HCL.out.mono ?_
    rintro e w2 ⟨v, rfl, hown, k2⟩
    obtain ⟨A3, c3, rfl, hle3, hI3⟩ := OwnI.sl hown
    have HI := Lib.hid hI3
    clear hown hI3
    go_wp2_with fail
    go_ret
    exact ⟨A3, _, c3, rfl, hle3, by rw [HR.out]; exact HI.out, Kept.trans HK0.out (Kept.trans k1 k2)⟩
end Go.Proofs.YtdogaaepiddnoaaGreatDoor
namespace Go.Proofs.YtdogaaepiddnoaaGreatDoor
open Go Go.RowKit

theorem take_eq_ints {l m : List Int} {k : Nat} {r : Int} (h : l.take k = m.take k) (hr : l[k]? = some r) (hs : m[k]? = some r) : l.take (k + 1) = m.take (k + 1) := by
  rw [take_succ_some hr, take_succ_some hs, h]
set_option maxRecDepth 100000 in
set_option maxHeartbeats 1000000 in
theorem slEqual (A B : Option Addr) (n m c d : Nat) (xs ys : List Int) (w : World) (hn : n ≤ 1000000) (hm : m ≤ 1000000) (hx : Ints w A n xs) (hy : Ints w B m ys) :
    Calls Tryz.prog 70 #[.slice A n c, .slice B m d] w (RetB w (decide (xs = ys))) := by
  have HX := Lib.hid hx
  have HY := Lib.hid hy
  have HN := Lib.hid hx.1
  have HM := Lib.hid hy.1
  clear hx hy
  by_cases hnm : n = m
  · subst hnm
    go_enter Tryz.func70, Tryz.ntmps70
    go_wp2_with fail
    go_loopw [13] (fun i wr => ∃ k : Nat, k ≤ n ∧ i = .int .i64 k ∧ xs.take k = ys.take k ∧ Kept w wr) (fun i _ => n - (intOf i).toNat)
    case atStart => exact ⟨0, Nat.zero_le _, rfl, rfl, Kept.refl _⟩
    case round =>
      obtain ⟨k, hk, rfl, ht, hkw⟩ := hrel
      have HT := Lib.hid ht
      have HKW := Lib.hid hkw
      clear ht
      by_cases hlt : k < n
      · obtain ⟨b, off, x, hA, hx, cx⟩ := int_at (HX.out.kept hkw) hlt
        obtain ⟨b2, off2, y, hB, hy, cy⟩ := int_at (HY.out.kept hkw) hlt
        have HXK := Lib.hid hx
        have HYK := Lib.hid hy
        rw [hA, hB]
        clear hx hy hkw
        by_cases hxy : x = y
        · subst hxy
          go_wp2_with fail
          go_region
          all_goals
            go_wp2_with fail
            go_roundw
            case rel => exact ⟨k + 1, by omega, by go_num, take_eq_ints HT.out HXK.out HYK.out, Kept.drew HKW.out⟩
            case measure => simp [intOf]; omega
        · have hne : ¬ xs = ys := fun e => by
            have h1 := HXK.out
            rw [e, HYK.out] at h1
            injection h1 with h1
            exact hxy h1.symm
          have HNE := Lib.hid hne
          clear hne
          go_wp2_with fail
          go_region
          all_goals
            go_wp2_with fail
            go_ret
            exact ⟨ret_bool (by simp [HNE.out]), Kept.drew HKW.out⟩
      · have he : xs = ys := by
          have := HT.out
          rwa [List.take_of_length_le (by have := HN.out; omega), List.take_of_length_le (by have := HM.out; omega)] at this
        have HE := Lib.hid he
        clear he hkw
        go_wp2_with fail
        go_ret
        exact ⟨ret_bool (by simp [HE.out]), HKW.out⟩
  · have hne : ¬ xs = ys := fun e => hnm (by rw [HN.out, HM.out, e])
    have HNE := Lib.hid hne
    have hnz : ¬ ((n : Int) = (m : Int)) := by omega
    clear hne
    go_enter Tryz.func70, Tryz.ntmps70
    go_wp2_with fail
    go_ret
    exact ⟨ret_bool (by simp [HNE.out]), Kept.refl _⟩

set_option maxRecDepth 100000 in
set_option maxHeartbeats 1000000 in
theorem ssIs_any (s : Sls) (n : Nrm) (most : Int) (A : Option Addr) (nt ct : Nat) (text : List Int) (w : World) (hN : NormAt w s n) (hG : Glob w) (hx : I64 most) (hnt : nt ≤ 1000) (hT : Ints w A nt text) :
    Calls Tryz.prog 36 #[s.val, .int .i64 most, .slice A nt ct] w (RetB w (decide (ssText n most text = text))) := by
  have hk1 := Kept.alloc (Kept.refl w) (Obj.cells #[Value.slice s.Ac s.nc s.cc, Value.slice s.Am s.nm s.cm, Value.slice s.Ae s.ne s.ce] 28)
  have HT := Lib.hid (ssText_any s n most A nt ct text _ (hN.kept hk1) (hG.kept hk1) hx hnt (hT.kept hk1))
  have HTT := Lib.hid hT
  have HL := Lib.hid (show (ssText n most text).length ≤ 2000 by have := ssText_len n most text; have := hT.1; omega)
  have HK1 := Lib.hid hk1
  clear hN hG hx hT hk1
  generalize ssText n most text = X at *
  unfold Sls.val at *
  go_enter Tryz.func36, Tryz.ntmps36
  go_wp2_with fail
  refine HT.out.mono ?_
  rintro e w1 ⟨A1, n1, c1, rfl, le1, i1, k1⟩
  have HEQ := Lib.hid (slEqual A1 A n1 nt c1 ct X text w1 (by rw [i1.1]; have := HL.out; omega) (by omega) i1 (HTT.out.kept (Kept.trans HK1.out k1)))
  clear i1
  go_wp2_with fail
  refine HEQ.out.mono ?_
  rintro e w2 ⟨rfl, k2⟩
  go_wp2_with fail
  go_ret
  exact ⟨rfl, Kept.trans HK1.out (Kept.trans k1 k2)⟩

theorem longR_succ {l : List Rng} {k : Nat} {r : Rng} (h : l[k]? = some r) : longR (l.take (k + 1)) = max (longR (l.take k)) (r.hi - r.lo) := by
  unfold longR
  rw [take_succ_some h, List.foldl_append]; rfl
set_option maxRecDepth 100000 in
set_option maxHeartbeats 2000000 in
theorem ssLong_any (s : Sls) (n : Nrm) (A : Option Addr) (nt ct : Nat) (text : List Int) (w : World) (hN : NormAt w s n) (hG : Glob w) (hnt : nt ≤ 1000) (hT : Ints w A nt text) :
    Calls Tryz.prog 13 #[s.val, .slice A nt ct] w (RetI w (ssLong n text)) := by
  have hk1 := Kept.alloc (Kept.refl w) (Obj.cells #[Value.slice s.Ac s.nc s.cc, Value.slice s.Am s.nm s.cm, Value.slice s.Ae s.ne s.ce] 28)
  have HCK := Lib.hid (decCheck_any s n _ (hN.kept hk1) (hG.kept hk1))
  have hbx := box_cell w #[Value.slice s.Ac s.nc s.cc, Value.slice s.Am s.nm s.cm, Value.slice s.Ae s.ne s.ce] 28
  have x0 : (w.alloc (Obj.cells #[Value.slice s.Ac s.nc s.cc, Value.slice s.Am s.nm s.cm, Value.slice s.Ae s.ne s.ce] 28)).cell? ⟨w.heap.size, 0, none⟩ = some (.slice s.Ac s.nc s.cc) := hbx 0
  have x1 : (w.alloc (Obj.cells #[Value.slice s.Ac s.nc s.cc, Value.slice s.Am s.nm s.cm, Value.slice s.Ae s.ne s.ce] 28)).cell? ⟨w.heap.size, 1, none⟩ = some (.slice s.Am s.nm s.cm) := hbx 1
  have x2 : (w.alloc (Obj.cells #[Value.slice s.Ac s.nc s.cc, Value.slice s.Am s.nm s.cm, Value.slice s.Ae s.ne s.ce] 28)).cell? ⟨w.heap.size, 2, none⟩ = some (.slice s.Ae s.ne s.ce) := hbx 2
  have HX0 := Lib.hid x0
  have HX1 := Lib.hid x1
  have HX2 := Lib.hid x2
  have HK1 := Lib.hid hk1
  have HN := Lib.hid hN
  have HG := Lib.hid hG
  have HT := Lib.hid hT
  have HTL := Lib.hid hT.1
  clear hN hG hT hk1 hbx x0 x1 x2
  by_cases hd : decCheck n = 0
  · have HR := Lib.hid (show ssLong n text = mrun (classOf n.classes) 0 (textOf n true text) from if_neg (by simp [hd]))
    rw [hd] at HCK
    have HSP := Lib.hid (show usableSpans n.classes = n.classes by have := usableN_spans n; rwa [usable_ok hd] at this)
    have HTX := Lib.hid (fun w' (hk : Kept w w') => text_any s n A nt ct text true w' (HN.out.kept hk) (HG.out.kept hk) (by omega) (HT.out.kept hk))
    have HXL := Lib.hid (show (textOf n true text).length ≤ 64000 by have := textOf_length n true text; have := HTL.out; omega)
    have HRN := Lib.hid (fun A2 n2 c2 w' (hk : Kept w w') (h2 : n2 ≤ 64000) (hI : Ints w' A2 n2 (textOf n true text)) => ordRuns s.Ac A2 s.nc s.cc n2 c2 w' (textOf n true text) n.classes (by omega) (by have := HN.out.bc; omega) HN.out.hc hI (HN.out.kept hk).cls (HG.out.kept hk))
    rw [HSP.out] at HRN
    unfold runsOf at HRN
    clear hd
    generalize textOf n true text = X at *
    generalize classOf n.classes = cls at *
    unfold Sls.val at *
    go_enter Tryz.func13, Tryz.ntmps13
    go_wp2_with fail
    refine HCK.out.mono ?_
    rintro e w1 ⟨rfl, k1⟩
    have p0 := Kept.cell k1 HX0.out
    have p1 := Kept.cell k1 HX1.out
    have p2 := Kept.cell k1 HX2.out
    have K1d := Lib.hid (Kept.drew (Kept.trans HK1.out k1))
    go_wp2_with fail
    go_region_held3 (fun w' => w'.cell? ⟨w.heap.size, 0, none⟩ = some (.slice s.Ac s.nc s.cc) ∧ w'.cell? ⟨w.heap.size, 1, none⟩ = some (.slice s.Am s.nm s.cm) ∧ w'.cell? ⟨w.heap.size, 2, none⟩ = some (.slice s.Ae s.ne s.ce)) (first | exact ⟨r0, r1, r2⟩ | exact ⟨q0, q1, q2⟩ | exact ⟨p0, p1, p2⟩)
      (first
        | (go_at_call 37; refine (HRN.out A2 n2 c2 _ K2.out (by rw [I2.out.1]; exact HXL.out) I2.out).mono ?_; rintro e w3 ⟨A3, n3, c3, rfl, le3, i3, k3⟩; have I3 := Lib.hid i3; clear i3; have r0 := Kept.cell k3 q0; have r1 := Kept.cell k3 q1; have r2 := Kept.cell k3 q2; have K3 := Lib.hid (Kept.trans K2.out k3))
        | (go_at_call 38; refine (HTX.out _ K1d.out).mono ?_; rintro e w2 ⟨A2, n2, c2, rfl, le2, i2, k2⟩; have I2 := Lib.hid i2; clear i2; have q0 := Kept.cell k2 p0; have q1 := Kept.cell k2 p1; have q2 := Kept.cell k2 p2; have K2 := Lib.hid (Kept.trans K1d.out k2)))
    have HN3 := Lib.hid I3.out.1
    have hn3 : n3 ≤ 64000 := by have h1 := runsOf_length_ cls X; have h2 := HXL.out; rw [HN3.out]; omega
    clear p0 p1 p2 q0 q1 q2 r0 r1 r2
    go_wp2_with fail
    go_loopw [5, 18] (fun p i wr => ∃ (k : Nat) (a : Int), k ≤ n3 ∧ i = .int .i64 k ∧ p = .int .i64 a ∧ a = longR ((runsFrom cls 0 none X).take k) ∧ 0 ≤ a ∧ a ≤ 64000 ∧ Kept w3 wr) (fun _ i _ => n3 - (intOf i).toNat)
    case atStart => exact ⟨0, 0, Nat.zero_le _, rfl, rfl, by simp [longR], by omega, by omega, Kept.refl _⟩
    case round =>
      obtain ⟨k, a, hk, rfl, rfl, ha, ha0, ha1, hkw⟩ := hrel
      have HA := Lib.hid ha
      have HKW := Lib.hid hkw
      clear ha
      by_cases hlt : k < n3
      · obtain ⟨b6, off6, r, hA5, hr, c60, c61⟩ := rng_at (Sl.kept I3.out hkw) hlt
        have HSS := Lib.hid (longR_succ hr)
        obtain ⟨lo, hi, h1, h2, h3, h4⟩ := runs_lt cls X r (List.mem_of_getElem? hr)
        obtain ⟨rlo, rhi⟩ := r
        simp only at h1 h2 c60 c61
        subst h1
        subst h2
        have hh : hi ≤ 64000 := by have := HXL.out; omega
        rw [hA5]
        have hw : IntKind.i64.wrap ((hi : Int) - (lo : Int)) = (hi : Int) - (lo : Int) := IntWalk.i64_in _ (by omega)
        have HK4 := Lib.hid (Kept.alloc HKW.out (Obj.cells #[Value.int IntKind.i64 lo, Value.int IntKind.i64 hi] 55))
        clear hr h4 hkw
        go_wp2_with fail
        go_roundw
        case rel => exact ⟨k + 1, max a ((hi : Int) - lo), by omega, by go_num, by go_num, by rw [HSS.out, HA.out], by omega, by omega, HK4.out⟩
        case measure => simp [intOf]; omega
      · have hfull : (runsFrom cls 0 none X).take k = runsFrom cls 0 none X := List.take_of_length_le (by have := HN3.out; omega)
        have hv : a = (ssLong n text : Nat) := by rw [HA.out, hfull, HR.out, longR_eq]
        have HV := Lib.hid hv
        clear hfull hv hkw
        go_wp2_with fail
        go_ret
        exact ⟨ret_int HV.out, Kept.trans K3.out HKW.out⟩
  · have hb : (decCheck n != 0) = true := by simp [hd]
    have HR := Lib.hid (show ssLong n text = 0 from if_pos hd)
    clear hd
    unfold Sls.val at *
    go_enter Tryz.func13, Tryz.ntmps13
    go_wp2_with fail
    refine HCK.out.mono ?_
    rintro e w1 ⟨rfl, k1⟩
    go_wp2_with fail
    go_ret
    exact ⟨ret_int (by rw [HR.out]; rfl), Kept.trans HK1.out k1⟩
end Go.Proofs.YtdogaaepiddnoaaGreatDoor
namespace Go.Proofs.YtdogaaepiddnoaaGreatDoor
open Go Go.RowKit

theorem span_new {w : World} {b : Nat} {lo hi v : Int} (h : w.heap[b]? = some (.cells #[.int .i64 lo, .int .i64 hi, .int .i64 v] 51 (0, 0))) : Spans w (some ⟨b, 0, none⟩) 1 [⟨lo, hi, v⟩] := by
  refine ⟨rfl, fun _ => ⟨_, 0, rfl, fun i x hx j u hu => ?_⟩⟩
  have hi0 : i = 0 := by have := lt_of_getElem?_some hx; simpa using this
  subst hi0
  simp at hx
  subst hx
  match j, hu with
  | 0, hu => simp [encS] at hu; subst hu; exact cell_of_block (i := 0) h rfl
  | 1, hu => simp [encS] at hu; subst hu; exact cell_of_block (i := 1) h rfl
  | 2, hu => simp [encS] at hu; subst hu; exact cell_of_block (i := 2) h rfl
  | j + 3, hu => simp [encS] at hu

set_option maxRecDepth 100000 in
set_option maxHeartbeats 2000000 in
theorem alive27 (w : World) (hG : Glob w) : Calls Tryz.prog 11 #[] w (RetB w true) := by
  have HG := Lib.hid hG
  clear hG
  go_enter Tryz.func11, Tryz.ntmps11
  go_wp2_with fail
  obtain ⟨B, hB⟩ : ∃ B : Nat, B = w.heap.size := ⟨_, rfl⟩
  rw [← hB]
  have b0 : (((w.alloc (Obj.cells #[Value.int IntKind.i64 768, Value.int IntKind.i64 768, Value.int IntKind.i64 230] 51)).alloc (Obj.cells #[Value.slice (some ⟨B, 0, none⟩) 1 1, Value.slice none 0 0, Value.slice none 0 0] 28)).alloc (Obj.cells #[Value.int IntKind.i64 97, Value.int IntKind.i64 768, Value.int IntKind.i64 768, Value.int IntKind.i64 768, Value.int IntKind.i64 768] 3)).heap[B]? = some (.cells #[Value.int IntKind.i64 768, Value.int IntKind.i64 768, Value.int IntKind.i64 230] 51 (0, 0)) := alloc_lift (alloc_lift (alloc_at hB))
  have b1 : (((w.alloc (Obj.cells #[Value.int IntKind.i64 768, Value.int IntKind.i64 768, Value.int IntKind.i64 230] 51)).alloc (Obj.cells #[Value.slice (some ⟨B, 0, none⟩) 1 1, Value.slice none 0 0, Value.slice none 0 0] 28)).alloc (Obj.cells #[Value.int IntKind.i64 97, Value.int IntKind.i64 768, Value.int IntKind.i64 768, Value.int IntKind.i64 768, Value.int IntKind.i64 768] 3)).heap[B + 1]? = some (.cells #[Value.slice (some ⟨B, 0, none⟩) 1 1, Value.slice none 0 0, Value.slice none 0 0] 28 (0, 0)) := alloc_lift (alloc_at (by simp [hB]))
  have hT : Ints (((w.alloc (Obj.cells #[Value.int IntKind.i64 768, Value.int IntKind.i64 768, Value.int IntKind.i64 230] 51)).alloc (Obj.cells #[Value.slice (some ⟨B, 0, none⟩) 1 1, Value.slice none 0 0, Value.slice none 0 0] 28)).alloc (Obj.cells #[Value.int IntKind.i64 97, Value.int IntKind.i64 768, Value.int IntKind.i64 768, Value.int IntKind.i64 768, Value.int IntKind.i64 768] 3)) (some ⟨B + 1 + 1, 0, none⟩) 5 [97, 768, 768, 768, 768] := Ints.alloc_ (xs := [97, 768, 768, 768, 768]) (by simp [hB]) rfl
  have hk : Kept w (((w.alloc (Obj.cells #[Value.int IntKind.i64 768, Value.int IntKind.i64 768, Value.int IntKind.i64 230] 51)).alloc (Obj.cells #[Value.slice (some ⟨B, 0, none⟩) 1 1, Value.slice none 0 0, Value.slice none 0 0] 28)).alloc (Obj.cells #[Value.int IntKind.i64 97, Value.int IntKind.i64 768, Value.int IntKind.i64 768, Value.int IntKind.i64 768, Value.int IntKind.i64 768] 3)) := Kept.alloc (Kept.alloc (Kept.alloc (Kept.refl w) _) _) _
  generalize (((w.alloc (Obj.cells #[Value.int IntKind.i64 768, Value.int IntKind.i64 768, Value.int IntKind.i64 230] 51)).alloc (Obj.cells #[Value.slice (some ⟨B, 0, none⟩) 1 1, Value.slice none 0 0, Value.slice none 0 0] 28)).alloc (Obj.cells #[Value.int IntKind.i64 97, Value.int IntKind.i64 768, Value.int IntKind.i64 768, Value.int IntKind.i64 768, Value.int IntKind.i64 768] 3)) = W0 at *
  have HK := Lib.hid hk
  have HB1 := Lib.hid b1
  have hN : NormAt W0 ⟨some ⟨B, 0, none⟩, 1, 1, none, 0, 0, none, 0, 0⟩ aliveS :=
    ⟨Nat.le_refl _, Nat.le_refl _, Nat.le_refl _, show 1 ≤ 1000 by decide, Nat.zero_le _, Nat.zero_le _, span_new b0, ⟨rfl, fun h => absurd (show 0 < 0 from h) (by decide)⟩, Sl.nil, fun m hm => by simp [aliveS] at hm⟩
  have HN := Lib.hid hN
  have HTX := Lib.hid (ssText_any _ aliveS 2 _ 5 5 _ W0 hN (HG.out.kept hk) ⟨by decide, by decide⟩ (by omega) hT)
  rw [aliveS_text] at HTX
  unfold Sls.val at HTX
  clear b0 b1 hN hB hk hT
  refine HTX.out.mono ?_
  rintro e w1 ⟨A1, n1, c1, rfl, le1, i1, k1⟩
  have hn1 : n1 = 6 := i1.1
  subst hn1
  have I1 := Lib.hid i1
  have K1 := Lib.hid (Kept.trans HK.out k1)
  have hka := Kept.alloc (Kept.refl w1) (Obj.cells #[Value.int IntKind.i64 97, Value.int IntKind.i64 768, Value.int IntKind.i64 768, Value.int IntKind.i64 847, Value.int IntKind.i64 768, Value.int IntKind.i64 768] 3)
  have HEQ := Lib.hid (r01_same [97, 768, 768, 847, 768, 768] A1 (some ⟨w1.heap.size, 0, none⟩) 6 6 c1 6 (w1.alloc (Obj.cells #[Value.int IntKind.i64 97, Value.int IntKind.i64 768, Value.int IntKind.i64 768, Value.int IntKind.i64 847, Value.int IntKind.i64 768, Value.int IntKind.i64 768] 3)) (by decide) (i1.kept hka) (Ints.alloc_ (xs := [97, 768, 768, 847, 768, 768]) rfl rfl))
  have HKA := Lib.hid hka
  clear hka i1
  go_wp2_with fail
  refine HEQ.out.mono ?_
  rintro e w2 ⟨rfl, k2⟩
  have k12 : Kept w1 w2 := Kept.trans HKA.out k2
  have e1 := ((Kept.trans k1 k12).block _ (block_lt HB1.out)).trans HB1.out
  have HE1 := Lib.hid e1
  have a0 := cell_of_block (i := 0) e1 rfl
  have a1 := cell_of_block (i := 1) e1 rfl
  have a2 := cell_of_block (i := 2) e1 rfl
  simp only [List.getElem_toArray, List.getElem_cons_zero, List.getElem_cons_succ] at a0 a1 a2
  have K2 := Lib.hid (Kept.trans K1.out k12)
  have HLO := Lib.hid (ssLong_any _ aliveS A1 6 c1 _ w2 (HN.out.kept (Kept.trans k1 k12)) (HG.out.kept K2.out) (by omega) (I1.out.kept k12))
  rw [aliveS_long] at HLO
  unfold Sls.val at HLO
  clear e1
  go_wp2_with fail
  refine HLO.out.mono ?_
  rintro e w3 ⟨rfl, k3⟩
  have e1 := (k3.block _ (block_lt HE1.out)).trans HE1.out
  have d0 := cell_of_block (i := 0) e1 rfl
  have d1 := cell_of_block (i := 1) e1 rfl
  have d2 := cell_of_block (i := 2) e1 rfl
  simp only [List.getElem_toArray, List.getElem_cons_zero, List.getElem_cons_succ] at d0 d1 d2
  have K3 := Lib.hid (Kept.trans K2.out k3)
  have HIS := Lib.hid (ssIs_any _ aliveS 2 A1 6 c1 _ w3 (HN.out.kept (Kept.trans k1 (Kept.trans k12 k3))) (HG.out.kept K3.out) ⟨by decide, by decide⟩ (by omega) (I1.out.kept (Kept.trans k12 k3)))
  have htw := ssText_twice aliveS 2 [97, 768, 768, 768, 768]
  rw [aliveS_text] at htw
  rw [htw, show decide (([97, 768, 768, 847, 768, 768] : List Int) = [97, 768, 768, 847, 768, 768]) = true by decide] at HIS
  unfold Sls.val at HIS
  clear e1 a0 a1 a2 htw
  go_wp2_with fail
  refine HIS.out.mono ?_
  rintro e w4 ⟨rfl, k4⟩
  go_wp2_with fail
  go_ret
  exact ⟨rfl, Kept.trans K3.out k4⟩
end Go.Proofs.YtdogaaepiddnoaaGreatDoor
