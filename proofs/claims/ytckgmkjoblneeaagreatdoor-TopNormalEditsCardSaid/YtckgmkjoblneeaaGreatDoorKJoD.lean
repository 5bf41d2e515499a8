/- joining.Replace. -/
import Derived.Test.YtckgmkjoblneeaaGreatDoorKSq
import Derived.Test.YtckgmkjoblneeaaGreatDoorKJo
namespace Go.Proofs.YtckgmkjoblneeaaGreatDoor
open Go Go.RowKit
def RetRepl (w : World) (n : Nrm) (form : Int) (text : List Int) (ea ed : Int) (ins : List Int) (e : Ending) (w' : World) : Prop :=
  if form < 1 ∨ 4 < form then e = .returned (.tuple #[.slice none 0 0, .agg #[.int .i64 0, .int .i64 0], .int .i64 8]) ∧ Kept w w' else
  if ea < 0 ∨ ed < 0 ∨ (text.length : Int) < ea ∨ (text.length : Int) - ea < ed then e = .returned (.tuple #[.slice none 0 0, .agg #[.int .i64 0, .int .i64 0], .int .i64 1]) ∧ Kept w w' else
  ∃ Q k c, e = .returned (.tuple #[.slice Q k c, .agg #[.int .i64 (jFrom n form (text.take ea.toNat) : Nat), .int .i64 ((jFrom n form (text.take ea.toNat) + (jMid n form (text.take ea.toNat) ins (text.drop (ea + ed).toNat)).length : Nat) : Int)], .int .i64 0]) ∧
    k ≤ c ∧ Ints w' Q k (joinM n form (text.take ea.toNat) ins (text.drop (ea + ed).toNat)) ∧ (∀ x, Q = some x → w.heap.size ≤ x.block) ∧ Kept w w'
set_option maxRecDepth 100000 in
set_option maxHeartbeats 8000000 in
theorem replace_any (s : Sls) (n : Nrm) (form : Int) (A : Option Addr) (nt ct : Nat) (text : List Int) (ea ed : Int) (I : Option Addr) (ni ci : Nat) (ins : List Int) (w : World) (hN : NormAt w s n) (hG : Glob w)
    (hnt : nt ≤ 100000) (hni : ni ≤ 100000) (let_ : nt ≤ ct) (lei : ni ≤ ci) (hT : Ints w A nt text) (hI : Ints w I ni ins) :
    Calls Tryz.prog 13 #[s.val, .int .i64 form, .slice A nt ct, .agg #[.int .i64 ea, .int .i64 ed, .slice I ni ci]] w (RetRepl w n form text ea ed ins) := by
  have hk1 := Kept.alloc (Kept.refl w) (Obj.cells #[Value.slice s.Ac s.nc s.cc, Value.slice s.Am s.nm s.cm, Value.slice s.Ae s.ne s.ce] 28)
  have hk2 := Kept.alloc hk1 (Obj.cells #[Value.int IntKind.i64 ea, Value.int IntKind.i64 ed, Value.slice I ni ci] 42)
  have hk3 := Kept.alloc hk2 (Obj.cells #[Value.int IntKind.i64 0, Value.int IntKind.i64 0] 48)
  have hx := alloc_lift (o := (Obj.cells #[Value.int IntKind.i64 0, Value.int IntKind.i64 0] 48)) (alloc_lift (o := (Obj.cells #[Value.int IntKind.i64 ea, Value.int IntKind.i64 ed, Value.slice I ni ci] 42)) (box_block w (Obj.cells #[Value.slice s.Ac s.nc s.cc, Value.slice s.Am s.nm s.cm, Value.slice s.Ae s.ne s.ce] 28)))
  have hy := alloc_lift (o := (Obj.cells #[Value.int IntKind.i64 0, Value.int IntKind.i64 0] 48)) (box_block (w.alloc (Obj.cells #[Value.slice s.Ac s.nc s.cc, Value.slice s.Am s.nm s.cm, Value.slice s.Ae s.ne s.ce] 28)) (Obj.cells #[Value.int IntKind.i64 ea, Value.int IntKind.i64 ed, Value.slice I ni ci] 42))
  have hz := box_block ((w.alloc (Obj.cells #[Value.slice s.Ac s.nc s.cc, Value.slice s.Am s.nm s.cm, Value.slice s.Ae s.ne s.ce] 28)).alloc (Obj.cells #[Value.int IntKind.i64 ea, Value.int IntKind.i64 ed, Value.slice I ni ci] 42)) (Obj.cells #[Value.int IntKind.i64 0, Value.int IntKind.i64 0] 48)
  rw [World.size_alloc] at hy hz
  rw [World.size_alloc] at hz
  have HX := Lib.hid hx
  have HY := Lib.hid hy
  have HZ := Lib.hid hz
  have HK3 := Lib.hid hk3
  have HTN := Lib.hid hT.1
  have HN := Lib.hid hN
  have HG := Lib.hid hG
  have HT := Lib.hid hT
  have HI := Lib.hid hI
  have G0 := Lib.hid (cell_of_block (i := 0) hz rfl)
  have G1 := Lib.hid (cell_of_block (i := 1) hz rfl)
  simp only [s4_, s5_, s6_] at G0 G1
  clear hx hy hz hk1 hk2 hk3 hT hI hN hG
  rcases form_five form with hf | hf | hf | hf | hf
  · subst hf
    by_cases hb : ea < 0 ∨ ed < 0 ∨ (nt : Int) < ea ∨ (nt : Int) - ea < ed
    · have HB := Lib.hid hb
      have hb2 : ea < 0 ∨ (0 ≤ ea ∧ ed < 0) ∨ (0 ≤ ea ∧ 0 ≤ ed ∧ (nt : Int) < ea) ∨ (0 ≤ ea ∧ 0 ≤ ed ∧ ea ≤ (nt : Int) ∧ (nt : Int) - ea < ed) := by omega
      clear hb
      unfold Sls.val at *
      rcases hb2 with h1 | ⟨h1, h2⟩ | ⟨h1, h2, h3⟩ | ⟨h1, h2, h3, h4⟩
      all_goals
        go_enter Tryz.func13, Tryz.ntmps13
        go_wp2_with fail
        have g0 := G0.out
        have g1 := G1.out
        refine bodyPost_ret (v := .tuple #[.slice none 0 0, .agg #[.int .i64 0, .int .i64 0], .int .i64 1]) (by simp [results, Tryz.results13, go_sem, g0, g1]) rfl ?_
        unfold RetRepl
        rw [if_neg (by omega), if_pos (by rw [← HTN.out]; exact HB.out)]
        exact ⟨rfl, HK3.out⟩
    · have h1 : 0 ≤ ea := by omega
      have h2 : 0 ≤ ed := by omega
      have h3 : ea ≤ (nt : Int) := by omega
      have h4 : ed ≤ (nt : Int) - ea := by omega
      clear hb
      obtain ⟨p, rfl⟩ := Int.eq_ofNat_of_zero_le h1
      obtain ⟨d, rfl⟩ := Int.eq_ofNat_of_zero_le h2
      have hp : p ≤ nt := by omega
      have hd : p + d ≤ nt := by omega
      have HJ := Lib.hid (fun w' (hk : Kept w w') => join_all s n 1 A p p (text.take p) I ni ci ins (dropA A nt (p + d)) (nt - (p + d)) (nt - (p + d)) (text.drop (p + d)) w' (HN.out.kept hk) (HG.out.kept hk) (by omega) hni (by omega) (Nat.le_refl _) lei (Nat.le_refl _) (Ints.front_ (HT.out.kept hk) hp) (HI.out.kept hk) (Ints.drop_ (HT.out.kept hk) hd (Nat.le_refl _)))
      have sl1 := run_take3 A nt ct p (by omega)
      have sl2 := run_drop3 A nt ct (p + d) hd let_
      have HTL := Lib.hid (show ((p : Int) + (d : Int)).toNat = p + d by omega)
      unfold RetJoin at HJ
      suffices hs : Calls Tryz.prog 13 #[s.val, .int .i64 1, .slice A nt ct, .agg #[.int .i64 (p : Int), .int .i64 (d : Int), .slice I ni ci]] w (fun e w' => ∃ Q k c, e = .returned (.tuple #[.slice Q k c, .agg #[.int .i64 (jFrom n 1 (text.take p) : Nat), .int .i64 ((jFrom n 1 (text.take p) + (jMid n 1 (text.take p) ins (text.drop (p + d))).length : Nat) : Int)], .int .i64 0]) ∧
          k ≤ c ∧ Ints w' Q k (joinM n 1 (text.take p) ins (text.drop (p + d))) ∧ (∀ x, Q = some x → w.heap.size ≤ x.block) ∧ Kept w w') from hs.mono (fun e w' hx => by
        unfold RetRepl
        rw [if_neg (by omega), if_neg (by rw [← HTN.out]; omega), HTL.out, Int.toNat_natCast]
        exact hx)
      generalize joinM n 1 (text.take p) ins (text.drop (p + d)) = J at *
      generalize jFrom n 1 (text.take p) + (jMid n 1 (text.take p) ins (text.drop (p + d))).length = hi at *
      generalize jFrom n 1 (text.take p) = lo at *
      rw [Int.natCast_add] at sl2
      unfold Sls.val at *
      go_enter Tryz.func13, Tryz.ntmps13
      have p0 := cell_of_block (i := 0) HX.out rfl
      have p1 := cell_of_block (i := 1) HX.out rfl
      have p2 := cell_of_block (i := 2) HX.out rfl
      have p3 := cell_of_block (i := 0) HY.out rfl
      have p4 := cell_of_block (i := 1) HY.out rfl
      have p5 := cell_of_block (i := 2) HY.out rfl
      simp only [s4_, s5_, s6_] at p0 p1 p2 p3 p4 p5
      go_wp2_with fail
      obtain ⟨bb, hbb⟩ : ∃ bb : Nat, bb = w.heap.size := ⟨_, rfl⟩
      have HBB := Lib.hid hbb
      rw [← hbb] at p0 p1 p2 p3 p4 p5 HZ ⊢
      clear hbb G0 G1 HX HY
      generalize (((w.alloc (Obj.cells #[Value.slice s.Ac s.nc s.cc, Value.slice s.Am s.nm s.cm, Value.slice s.Ae s.ne s.ce] 28)).alloc (Obj.cells #[Value.int IntKind.i64 (p : Int), Value.int IntKind.i64 (d : Int), Value.slice I ni ci] 42)).alloc (Obj.cells #[Value.int IntKind.i64 0, Value.int IntKind.i64 0] 48)) = w3 at *
      have hb3 : bb + 1 + 1 < w3.heap.size := block_lt HZ.out
      have hwb : w.heap.size ≤ bb := by rw [HBB.out]; exact Nat.le_refl _
      refine wp_region_held_drew (S := (fun w' => w'.cell? ⟨bb, 0, none⟩ = some (.slice s.Ac s.nc s.cc) ∧ w'.cell? ⟨bb, 1, none⟩ = some (.slice s.Am s.nm s.cm) ∧ w'.cell? ⟨bb, 2, none⟩ = some (.slice s.Ae s.ne s.ce) ∧ w'.cell? ⟨bb + 1, 0, none⟩ = some (.int .i64 (p : Int)) ∧ w'.cell? ⟨bb + 1, 1, none⟩ = some (.int .i64 (d : Int)) ∧ w'.cell? ⟨bb + 1, 2, none⟩ = some (.slice I ni ci))) (by kernel_rfl) ⟨p0, p1, p2, p3, p4, p5⟩ (fun hHeld => ?_)
      refine tk_ 0 ?_ rfl ?_; refine tk_ 1 ?_ rfl ?_; refine tk_ 2 ?_ rfl ?_; refine tk_ 3 ?_ rfl ?_; refine tk_ 4 ?_ rfl ?_; refine tk_ 5 ?_ rfl ?_; refine tk_ 6 ?_ rfl ?_; refine tk_ 7 ?_ rfl ?_; refine tk_ 8 ?_ rfl ?_; refine tk_ 9 ?_ rfl ?_; refine tk_ 10 ?_ rfl ?_; refine tk_ 11 ?_ rfl ?_; refine tk_ 12 ?_ rfl ?_; refine tk_ 13 ?_ rfl ?_; refine tk_ 14 ?_ rfl ?_
      refine wpAnyH_ready (rs := [15, 19]) (by kernel_rfl) (by simp) ?_
      refine AllReadyH.cons rfl (fun K hK => ?_) (AllReadyH.cons rfl (fun K hK => ?_) AllReadyH.nil)
      · go_simp
        (refine (HJ.out _ (Kept.trans HK3.out (Kept.drew (Kept.refl w3)))).mono ?_; rintro e w1 ⟨Q, k, c, rfl, le1, i1, fr1, k1⟩; have I1 := Lib.hid i1; have FR1 := Lib.hid fr1; have K1 := Lib.hid (Kept.trans (Kept.drew (Kept.refl w3)) k1); have KC := Lib.hid k1; clear i1 fr1 k1)
        go_wp2_with fail
        refine hK.out _ _ ⟨Kept.cell K1.out p0, Kept.cell K1.out p1, Kept.cell K1.out p2, Kept.cell K1.out p3, Kept.cell K1.out p4, Kept.cell K1.out p5⟩ (fun hHeld => ?_)
        clear hK K
        (try simp only [Act.put, s1_, s2_, s3_, s4_, s5_, s6_])
        refine tk_ 16 ?_ rfl ?_; refine tk_ 17 ?_ rfl ?_; refine tk_ 18 ?_ rfl ?_
        refine rd_ 19 rfl (fun K hK => ?_)
        skip
        go_simp
        refine hK.out _ _ ⟨Kept.cell (Kept.alloc K1.out (Obj.cells #[Value.int IntKind.i64 0, Value.int IntKind.i64 0] 48)) p0, Kept.cell (Kept.alloc K1.out (Obj.cells #[Value.int IntKind.i64 0, Value.int IntKind.i64 0] 48)) p1, Kept.cell (Kept.alloc K1.out (Obj.cells #[Value.int IntKind.i64 0, Value.int IntKind.i64 0] 48)) p2, Kept.cell (Kept.alloc K1.out (Obj.cells #[Value.int IntKind.i64 0, Value.int IntKind.i64 0] 48)) p3, Kept.cell (Kept.alloc K1.out (Obj.cells #[Value.int IntKind.i64 0, Value.int IntKind.i64 0] 48)) p4, Kept.cell (Kept.alloc K1.out (Obj.cells #[Value.int IntKind.i64 0, Value.int IntKind.i64 0] 48)) p5⟩ (fun hHeld => ?_)
        clear hK K
        (try simp only [Act.put, s1_, s2_, s3_, s4_, s5_, s6_])
        refine tk_ 20 ?_ rfl ?_
        refine rd_ 21 rfl (fun K hK => ?_)
        skip
        go_simp
        refine hK.out _ _ ⟨Kept.cell (Kept.alloc K1.out (Obj.cells #[Value.int IntKind.i64 (lo : Int), Value.int IntKind.i64 (hi : Int)] 48)) p0, Kept.cell (Kept.alloc K1.out (Obj.cells #[Value.int IntKind.i64 (lo : Int), Value.int IntKind.i64 (hi : Int)] 48)) p1, Kept.cell (Kept.alloc K1.out (Obj.cells #[Value.int IntKind.i64 (lo : Int), Value.int IntKind.i64 (hi : Int)] 48)) p2, Kept.cell (Kept.alloc K1.out (Obj.cells #[Value.int IntKind.i64 (lo : Int), Value.int IntKind.i64 (hi : Int)] 48)) p3, Kept.cell (Kept.alloc K1.out (Obj.cells #[Value.int IntKind.i64 (lo : Int), Value.int IntKind.i64 (hi : Int)] 48)) p4, Kept.cell (Kept.alloc K1.out (Obj.cells #[Value.int IntKind.i64 (lo : Int), Value.int IntKind.i64 (hi : Int)] 48)) p5⟩ (fun hHeld => ?_)
        clear hK K
        (try simp only [Act.put, s1_, s2_, s3_, s4_, s5_, s6_])
        refine wpAnyH_done (by kernel_rfl) ?_ _
        have HN2 : Hid ((w1.alloc (Obj.cells #[Value.int IntKind.i64 (lo : Int), Value.int IntKind.i64 (hi : Int)] 48)).heap[w1.heap.size]? = some (Obj.cells #[Value.int IntKind.i64 (lo : Int), Value.int IntKind.i64 (hi : Int)] 48 (0, 0))) := Lib.hid (alloc_at rfl)
        have ZS := Lib.hid (alloc_lift (o := (Obj.cells #[Value.int IntKind.i64 (lo : Int), Value.int IntKind.i64 (hi : Int)] 48)) ((K1.out.block _ (block_lt HZ.out)).trans HZ.out))
        have HFN := Lib.hid (show ∀ x, Q = some x → w.heap.size ≤ x.block from fun x hx => by have h1 := FR1.out x hx; have h2 := HK3.out.size; simp at h1; omega)
        have I2 := Lib.hid (I1.out.kept (Kept.alloc (Kept.refl w1) (Obj.cells #[Value.int IntKind.i64 (lo : Int), Value.int IntKind.i64 (hi : Int)] 48)))
        have K2 := Lib.hid (Kept.trans HK3.out (Kept.alloc K1.out (Obj.cells #[Value.int IntKind.i64 (lo : Int), Value.int IntKind.i64 (hi : Int)] 48)))
        have HNE := Lib.hid (show w1.heap.size ≠ bb + 1 + 1 by have := K1.out.size; omega)
        have HFQ := Lib.hid (show ∀ x, Q = some x → x.block ≠ bb + 1 + 1 from fun x hx => by have := FR1.out x hx; simp at this; omega)
        generalize w1.alloc (Obj.cells #[Value.int IntKind.i64 (lo : Int), Value.int IntKind.i64 (hi : Int)] 48) = w2 at *
        generalize w1.heap.size = nn at *
        have hne : nn ≠ bb + 1 + 1 := HNE.out
        have hz := ZS.out
        have hn := HN2.out
        have z0 := cell_of_block (i := 0) hz rfl
        have z1 := cell_of_block (i := 1) hz rfl
        have y0 := frozen_of_block (i := 0) hz
        have y1 := frozen_of_block (i := 1) hz
        have n0 := cell_of_block (i := 0) hn rfl
        have n1 := cell_of_block (i := 1) hn rfl
        have hF := cells2_set hz (.int .i64 (lo : Int)) (.int .i64 (hi : Int))
        have g0 := cell_of_block (i := 0) hF rfl
        have g1 := cell_of_block (i := 1) hF rfl
        have hn2 := setCell_other (i := 1) (v := .int .i64 (hi : Int)) (setCell_other (i := 0) (v := .int .i64 (lo : Int)) hn (Ne.symm hne)) (Ne.symm hne)
        have q0 := cell_of_block (i := 0) hn2 rfl
        have q1 := cell_of_block (i := 1) hn2 rfl
        simp only [s4_, s5_, s6_] at z0 z1 n0 n1 g0 g1 q0 q1
        have G0 := Lib.hid g0
        have G1 := Lib.hid g1
        have Q0 := Lib.hid q0
        have Q1 := Lib.hid q1
        clear hz hn hF g0 g1 hn2 q0 q1
        go_wp2_with fail
        clear z0 z1 y0 y1
        refine wp_region_held_drew (S := (fun w' => w'.cell? ⟨nn, 0, none⟩ = some (.int .i64 (lo : Int)) ∧ w'.cell? ⟨nn, 1, none⟩ = some (.int .i64 (hi : Int)))) (by kernel_rfl) ⟨n0, n1⟩ (fun hHeld => ?_)
        refine tk_ 0 ?_ rfl ?_; refine tk_ 1 ?_ rfl ?_; refine tk_ 2 ?_ rfl ?_
        refine rd_ 3 rfl (fun K hK => ?_)
        have z0 := cell_of_block (w := w2) (i := 0) ZS.out rfl
        have z1 := cell_of_block (w := w2) (i := 1) ZS.out rfl
        have y0 := frozen_of_block (w := w2) (i := 0) ZS.out
        have y1 := frozen_of_block (w := w2) (i := 1) ZS.out
        simp only [s4_, s5_, s6_] at z0 z1
        go_simp
        refine hK.out _ _ ⟨Q0.out, Q1.out⟩ (fun hHeld => ?_)
        clear hK K
        (try simp only [Act.put, s1_, s2_, s3_, s4_, s5_, s6_])
        refine tk_ 4 ?_ rfl ?_
        refine wpAnyH_done (by kernel_rfl) ?_ _
        go_wp2_with fail
        have g0 := G0.out
        have g1 := G1.out
        clear z0 z1 y0 y1 n0 n1
        refine bodyPost_ret (v := .tuple #[.slice Q k c, .agg #[.int .i64 (lo : Int), .int .i64 (hi : Int)], .int .i64 0]) (by simp [results, Tryz.results13, go_sem, g0, g1]) rfl ?_
        have hkf := Kept.drew (Kept.setCell (Kept.setCell K2.out (p := ⟨bb + 1 + 1, 0, none⟩) (Nat.le_succ_of_le (Nat.le_succ_of_le hwb)) (.int .i64 (lo : Int))) (p := ⟨bb + 1 + 1, 1, none⟩) (Nat.le_succ_of_le (Nat.le_succ_of_le hwb)) (.int .i64 (hi : Int)))
        exact ⟨Q, k, c, rfl, le1, (Ints.sets (Ints.sets I2.out HFQ.out 0 _) HFQ.out 1 _).kept (Kept.drew (Kept.refl _)), HFN.out, hkf⟩
      · go_simp
        refine hK.out _ _ ⟨Kept.cell (Kept.alloc (Kept.drew (Kept.refl w3)) (Obj.cells #[Value.int IntKind.i64 0, Value.int IntKind.i64 0] 48)) p0, Kept.cell (Kept.alloc (Kept.drew (Kept.refl w3)) (Obj.cells #[Value.int IntKind.i64 0, Value.int IntKind.i64 0] 48)) p1, Kept.cell (Kept.alloc (Kept.drew (Kept.refl w3)) (Obj.cells #[Value.int IntKind.i64 0, Value.int IntKind.i64 0] 48)) p2, Kept.cell (Kept.alloc (Kept.drew (Kept.refl w3)) (Obj.cells #[Value.int IntKind.i64 0, Value.int IntKind.i64 0] 48)) p3, Kept.cell (Kept.alloc (Kept.drew (Kept.refl w3)) (Obj.cells #[Value.int IntKind.i64 0, Value.int IntKind.i64 0] 48)) p4, Kept.cell (Kept.alloc (Kept.drew (Kept.refl w3)) (Obj.cells #[Value.int IntKind.i64 0, Value.int IntKind.i64 0] 48)) p5⟩ (fun hHeld => ?_)
        clear hK K
        (try simp only [Act.put, s1_, s2_, s3_, s4_, s5_, s6_])
        refine rd_ 15 rfl (fun K hK => ?_)
        go_simp
        (refine (HJ.out _ (Kept.trans HK3.out (Kept.alloc (Kept.drew (Kept.refl w3)) (Obj.cells #[Value.int IntKind.i64 0, Value.int IntKind.i64 0] 48)))).mono ?_; rintro e w1 ⟨Q, k, c, rfl, le1, i1, fr1, k1⟩; have I1 := Lib.hid i1; have FR1 := Lib.hid fr1; have K1 := Lib.hid (Kept.trans (Kept.alloc (Kept.drew (Kept.refl w3)) (Obj.cells #[Value.int IntKind.i64 0, Value.int IntKind.i64 0] 48)) k1); have KC := Lib.hid k1; clear i1 fr1 k1)
        go_wp2_with fail
        refine hK.out _ _ ⟨Kept.cell K1.out p0, Kept.cell K1.out p1, Kept.cell K1.out p2, Kept.cell K1.out p3, Kept.cell K1.out p4, Kept.cell K1.out p5⟩ (fun hHeld => ?_)
        clear hK K
        (try simp only [Act.put, s1_, s2_, s3_, s4_, s5_, s6_])
        refine tk_ 16 ?_ rfl ?_; refine tk_ 17 ?_ rfl ?_; refine tk_ 18 ?_ rfl ?_; refine tk_ 20 ?_ rfl ?_
        refine rd_ 21 rfl (fun K hK => ?_)
        have hal := (KC.out.block w3.heap.size (by simp)).trans (alloc_at (W := w3.drew) (o := (Obj.cells #[Value.int IntKind.i64 0, Value.int IntKind.i64 0] 48)) rfl)
        have x0 := cell_of_block (i := 0) hal rfl
        have x1 := cell_of_block (i := 1) hal rfl
        have y0 := frozen_of_block (i := 0) hal
        have y1 := frozen_of_block (i := 1) hal
        simp only [s4_, s5_, s6_] at x0 x1
        have HAL := Lib.hid hal
        clear hal
        go_simp
        refine hK.out _ _ ⟨Kept.cell (Kept.setCell (Kept.setCell K1.out (p := ⟨w3.heap.size, 0, none⟩) (Nat.le_refl _) (.int .i64 (lo : Int))) (p := ⟨w3.heap.size, 1, none⟩) (Nat.le_refl _) (.int .i64 (hi : Int))) p0, Kept.cell (Kept.setCell (Kept.setCell K1.out (p := ⟨w3.heap.size, 0, none⟩) (Nat.le_refl _) (.int .i64 (lo : Int))) (p := ⟨w3.heap.size, 1, none⟩) (Nat.le_refl _) (.int .i64 (hi : Int))) p1, Kept.cell (Kept.setCell (Kept.setCell K1.out (p := ⟨w3.heap.size, 0, none⟩) (Nat.le_refl _) (.int .i64 (lo : Int))) (p := ⟨w3.heap.size, 1, none⟩) (Nat.le_refl _) (.int .i64 (hi : Int))) p2, Kept.cell (Kept.setCell (Kept.setCell K1.out (p := ⟨w3.heap.size, 0, none⟩) (Nat.le_refl _) (.int .i64 (lo : Int))) (p := ⟨w3.heap.size, 1, none⟩) (Nat.le_refl _) (.int .i64 (hi : Int))) p3, Kept.cell (Kept.setCell (Kept.setCell K1.out (p := ⟨w3.heap.size, 0, none⟩) (Nat.le_refl _) (.int .i64 (lo : Int))) (p := ⟨w3.heap.size, 1, none⟩) (Nat.le_refl _) (.int .i64 (hi : Int))) p4, Kept.cell (Kept.setCell (Kept.setCell K1.out (p := ⟨w3.heap.size, 0, none⟩) (Nat.le_refl _) (.int .i64 (lo : Int))) (p := ⟨w3.heap.size, 1, none⟩) (Nat.le_refl _) (.int .i64 (hi : Int))) p5⟩ (fun hHeld => ?_)
        clear hK K
        (try simp only [Act.put, s1_, s2_, s3_, s4_, s5_, s6_])
        refine wpAnyH_done (by kernel_rfl) ?_ _
        clear x0 x1 y0 y1
        have HNE0 : w3.heap.size ≠ bb + 1 + 1 := by omega
        have HN2 := Lib.hid (cells2_set HAL.out (.int .i64 (lo : Int)) (.int .i64 (hi : Int)))
        have ZS := Lib.hid (setCell_other (i := 1) (v := (.int .i64 (hi : Int))) (setCell_other (i := 0) (v := (.int .i64 (lo : Int))) ((K1.out.block _ (block_lt HZ.out)).trans HZ.out) HNE0) HNE0)
        have hfn : ∀ x, Q = some x → x.block ≠ w3.heap.size := fun x hx => by have := FR1.out x hx; simp at this; omega
        have HFQ := Lib.hid (show ∀ x, Q = some x → x.block ≠ bb + 1 + 1 from fun x hx => by have := FR1.out x hx; simp at this; omega)
        have HFN := Lib.hid (show ∀ x, Q = some x → w.heap.size ≤ x.block from fun x hx => by have h1 := FR1.out x hx; have h2 := HK3.out.size; simp at h1; omega)
        have I2 := Lib.hid (Ints.sets (Ints.sets I1.out hfn 0 (.int .i64 (lo : Int))) hfn 1 (.int .i64 (hi : Int)))
        have K2 := Lib.hid (Kept.trans HK3.out (Kept.setCell (Kept.setCell K1.out (p := ⟨w3.heap.size, 0, none⟩) (Nat.le_refl _) (.int .i64 (lo : Int))) (p := ⟨w3.heap.size, 1, none⟩) (Nat.le_refl _) (.int .i64 (hi : Int))))
        have HNE := Lib.hid HNE0
        clear HNE0 hfn
        generalize ((w1.setCell ⟨w3.heap.size, 0, none⟩ (.int .i64 (lo : Int))).setCell ⟨w3.heap.size, 1, none⟩ (.int .i64 (hi : Int))) = w2 at *
        generalize w3.heap.size = nn at *
        have hne : nn ≠ bb + 1 + 1 := HNE.out
        have hz := ZS.out
        have hn := HN2.out
        have z0 := cell_of_block (i := 0) hz rfl
        have z1 := cell_of_block (i := 1) hz rfl
        have y0 := frozen_of_block (i := 0) hz
        have y1 := frozen_of_block (i := 1) hz
        have n0 := cell_of_block (i := 0) hn rfl
        have n1 := cell_of_block (i := 1) hn rfl
        have hF := cells2_set hz (.int .i64 (lo : Int)) (.int .i64 (hi : Int))
        have g0 := cell_of_block (i := 0) hF rfl
        have g1 := cell_of_block (i := 1) hF rfl
        have hn2 := setCell_other (i := 1) (v := .int .i64 (hi : Int)) (setCell_other (i := 0) (v := .int .i64 (lo : Int)) hn (Ne.symm hne)) (Ne.symm hne)
        have q0 := cell_of_block (i := 0) hn2 rfl
        have q1 := cell_of_block (i := 1) hn2 rfl
        simp only [s4_, s5_, s6_] at z0 z1 n0 n1 g0 g1 q0 q1
        have G0 := Lib.hid g0
        have G1 := Lib.hid g1
        have Q0 := Lib.hid q0
        have Q1 := Lib.hid q1
        clear hz hn hF g0 g1 hn2 q0 q1
        go_wp2_with fail
        clear z0 z1 y0 y1
        refine wp_region_held_drew (S := (fun w' => w'.cell? ⟨nn, 0, none⟩ = some (.int .i64 (lo : Int)) ∧ w'.cell? ⟨nn, 1, none⟩ = some (.int .i64 (hi : Int)))) (by kernel_rfl) ⟨n0, n1⟩ (fun hHeld => ?_)
        refine tk_ 0 ?_ rfl ?_; refine tk_ 1 ?_ rfl ?_; refine tk_ 2 ?_ rfl ?_
        refine rd_ 3 rfl (fun K hK => ?_)
        have z0 := cell_of_block (w := w2) (i := 0) ZS.out rfl
        have z1 := cell_of_block (w := w2) (i := 1) ZS.out rfl
        have y0 := frozen_of_block (w := w2) (i := 0) ZS.out
        have y1 := frozen_of_block (w := w2) (i := 1) ZS.out
        simp only [s4_, s5_, s6_] at z0 z1
        go_simp
        refine hK.out _ _ ⟨Q0.out, Q1.out⟩ (fun hHeld => ?_)
        clear hK K
        (try simp only [Act.put, s1_, s2_, s3_, s4_, s5_, s6_])
        refine tk_ 4 ?_ rfl ?_
        refine wpAnyH_done (by kernel_rfl) ?_ _
        go_wp2_with fail
        have g0 := G0.out
        have g1 := G1.out
        clear z0 z1 y0 y1 n0 n1
        refine bodyPost_ret (v := .tuple #[.slice Q k c, .agg #[.int .i64 (lo : Int), .int .i64 (hi : Int)], .int .i64 0]) (by simp [results, Tryz.results13, go_sem, g0, g1]) rfl ?_
        have hkf := Kept.drew (Kept.setCell (Kept.setCell K2.out (p := ⟨bb + 1 + 1, 0, none⟩) (Nat.le_succ_of_le (Nat.le_succ_of_le hwb)) (.int .i64 (lo : Int))) (p := ⟨bb + 1 + 1, 1, none⟩) (Nat.le_succ_of_le (Nat.le_succ_of_le hwb)) (.int .i64 (hi : Int)))
        exact ⟨Q, k, c, rfl, le1, (Ints.sets (Ints.sets I2.out HFQ.out 0 _) HFQ.out 1 _).kept (Kept.drew (Kept.refl _)), HFN.out, hkf⟩
  · subst hf
    by_cases hb : ea < 0 ∨ ed < 0 ∨ (nt : Int) < ea ∨ (nt : Int) - ea < ed
    · have HB := Lib.hid hb
      have hb2 : ea < 0 ∨ (0 ≤ ea ∧ ed < 0) ∨ (0 ≤ ea ∧ 0 ≤ ed ∧ (nt : Int) < ea) ∨ (0 ≤ ea ∧ 0 ≤ ed ∧ ea ≤ (nt : Int) ∧ (nt : Int) - ea < ed) := by omega
      clear hb
      unfold Sls.val at *
      rcases hb2 with h1 | ⟨h1, h2⟩ | ⟨h1, h2, h3⟩ | ⟨h1, h2, h3, h4⟩
      all_goals
        go_enter Tryz.func13, Tryz.ntmps13
        go_wp2_with fail
        have g0 := G0.out
        have g1 := G1.out
        refine bodyPost_ret (v := .tuple #[.slice none 0 0, .agg #[.int .i64 0, .int .i64 0], .int .i64 1]) (by simp [results, Tryz.results13, go_sem, g0, g1]) rfl ?_
        unfold RetRepl
        rw [if_neg (by omega), if_pos (by rw [← HTN.out]; exact HB.out)]
        exact ⟨rfl, HK3.out⟩
    · have h1 : 0 ≤ ea := by omega
      have h2 : 0 ≤ ed := by omega
      have h3 : ea ≤ (nt : Int) := by omega
      have h4 : ed ≤ (nt : Int) - ea := by omega
      clear hb
      obtain ⟨p, rfl⟩ := Int.eq_ofNat_of_zero_le h1
      obtain ⟨d, rfl⟩ := Int.eq_ofNat_of_zero_le h2
      have hp : p ≤ nt := by omega
      have hd : p + d ≤ nt := by omega
      have HJ := Lib.hid (fun w' (hk : Kept w w') => join_all s n 2 A p p (text.take p) I ni ci ins (dropA A nt (p + d)) (nt - (p + d)) (nt - (p + d)) (text.drop (p + d)) w' (HN.out.kept hk) (HG.out.kept hk) (by omega) hni (by omega) (Nat.le_refl _) lei (Nat.le_refl _) (Ints.front_ (HT.out.kept hk) hp) (HI.out.kept hk) (Ints.drop_ (HT.out.kept hk) hd (Nat.le_refl _)))
      have sl1 := run_take3 A nt ct p (by omega)
      have sl2 := run_drop3 A nt ct (p + d) hd let_
      have HTL := Lib.hid (show ((p : Int) + (d : Int)).toNat = p + d by omega)
      unfold RetJoin at HJ
      suffices hs : Calls Tryz.prog 13 #[s.val, .int .i64 2, .slice A nt ct, .agg #[.int .i64 (p : Int), .int .i64 (d : Int), .slice I ni ci]] w (fun e w' => ∃ Q k c, e = .returned (.tuple #[.slice Q k c, .agg #[.int .i64 (jFrom n 2 (text.take p) : Nat), .int .i64 ((jFrom n 2 (text.take p) + (jMid n 2 (text.take p) ins (text.drop (p + d))).length : Nat) : Int)], .int .i64 0]) ∧
          k ≤ c ∧ Ints w' Q k (joinM n 2 (text.take p) ins (text.drop (p + d))) ∧ (∀ x, Q = some x → w.heap.size ≤ x.block) ∧ Kept w w') from hs.mono (fun e w' hx => by
        unfold RetRepl
        rw [if_neg (by omega), if_neg (by rw [← HTN.out]; omega), HTL.out, Int.toNat_natCast]
        exact hx)
      generalize joinM n 2 (text.take p) ins (text.drop (p + d)) = J at *
      generalize jFrom n 2 (text.take p) + (jMid n 2 (text.take p) ins (text.drop (p + d))).length = hi at *
      generalize jFrom n 2 (text.take p) = lo at *
      rw [Int.natCast_add] at sl2
      unfold Sls.val at *
      go_enter Tryz.func13, Tryz.ntmps13
      have p0 := cell_of_block (i := 0) HX.out rfl
      have p1 := cell_of_block (i := 1) HX.out rfl
      have p2 := cell_of_block (i := 2) HX.out rfl
      have p3 := cell_of_block (i := 0) HY.out rfl
      have p4 := cell_of_block (i := 1) HY.out rfl
      have p5 := cell_of_block (i := 2) HY.out rfl
      simp only [s4_, s5_, s6_] at p0 p1 p2 p3 p4 p5
      go_wp2_with fail
      obtain ⟨bb, hbb⟩ : ∃ bb : Nat, bb = w.heap.size := ⟨_, rfl⟩
      have HBB := Lib.hid hbb
      rw [← hbb] at p0 p1 p2 p3 p4 p5 HZ ⊢
      clear hbb G0 G1 HX HY
      generalize (((w.alloc (Obj.cells #[Value.slice s.Ac s.nc s.cc, Value.slice s.Am s.nm s.cm, Value.slice s.Ae s.ne s.ce] 28)).alloc (Obj.cells #[Value.int IntKind.i64 (p : Int), Value.int IntKind.i64 (d : Int), Value.slice I ni ci] 42)).alloc (Obj.cells #[Value.int IntKind.i64 0, Value.int IntKind.i64 0] 48)) = w3 at *
      have hb3 : bb + 1 + 1 < w3.heap.size := block_lt HZ.out
      have hwb : w.heap.size ≤ bb := by rw [HBB.out]; exact Nat.le_refl _
      refine wp_region_held_drew (S := (fun w' => w'.cell? ⟨bb, 0, none⟩ = some (.slice s.Ac s.nc s.cc) ∧ w'.cell? ⟨bb, 1, none⟩ = some (.slice s.Am s.nm s.cm) ∧ w'.cell? ⟨bb, 2, none⟩ = some (.slice s.Ae s.ne s.ce) ∧ w'.cell? ⟨bb + 1, 0, none⟩ = some (.int .i64 (p : Int)) ∧ w'.cell? ⟨bb + 1, 1, none⟩ = some (.int .i64 (d : Int)) ∧ w'.cell? ⟨bb + 1, 2, none⟩ = some (.slice I ni ci))) (by kernel_rfl) ⟨p0, p1, p2, p3, p4, p5⟩ (fun hHeld => ?_)
      refine tk_ 0 ?_ rfl ?_; refine tk_ 1 ?_ rfl ?_; refine tk_ 2 ?_ rfl ?_; refine tk_ 3 ?_ rfl ?_; refine tk_ 4 ?_ rfl ?_; refine tk_ 5 ?_ rfl ?_; refine tk_ 6 ?_ rfl ?_; refine tk_ 7 ?_ rfl ?_; refine tk_ 8 ?_ rfl ?_; refine tk_ 9 ?_ rfl ?_; refine tk_ 10 ?_ rfl ?_; refine tk_ 11 ?_ rfl ?_; refine tk_ 12 ?_ rfl ?_; refine tk_ 13 ?_ rfl ?_; refine tk_ 14 ?_ rfl ?_
      refine wpAnyH_ready (rs := [15, 19]) (by kernel_rfl) (by simp) ?_
      refine AllReadyH.cons rfl (fun K hK => ?_) (AllReadyH.cons rfl (fun K hK => ?_) AllReadyH.nil)
      · go_simp
        (refine (HJ.out _ (Kept.trans HK3.out (Kept.drew (Kept.refl w3)))).mono ?_; rintro e w1 ⟨Q, k, c, rfl, le1, i1, fr1, k1⟩; have I1 := Lib.hid i1; have FR1 := Lib.hid fr1; have K1 := Lib.hid (Kept.trans (Kept.drew (Kept.refl w3)) k1); have KC := Lib.hid k1; clear i1 fr1 k1)
        go_wp2_with fail
        refine hK.out _ _ ⟨Kept.cell K1.out p0, Kept.cell K1.out p1, Kept.cell K1.out p2, Kept.cell K1.out p3, Kept.cell K1.out p4, Kept.cell K1.out p5⟩ (fun hHeld => ?_)
        clear hK K
        (try simp only [Act.put, s1_, s2_, s3_, s4_, s5_, s6_])
        refine tk_ 16 ?_ rfl ?_; refine tk_ 17 ?_ rfl ?_; refine tk_ 18 ?_ rfl ?_
        refine rd_ 19 rfl (fun K hK => ?_)
        skip
        go_simp
        refine hK.out _ _ ⟨Kept.cell (Kept.alloc K1.out (Obj.cells #[Value.int IntKind.i64 0, Value.int IntKind.i64 0] 48)) p0, Kept.cell (Kept.alloc K1.out (Obj.cells #[Value.int IntKind.i64 0, Value.int IntKind.i64 0] 48)) p1, Kept.cell (Kept.alloc K1.out (Obj.cells #[Value.int IntKind.i64 0, Value.int IntKind.i64 0] 48)) p2, Kept.cell (Kept.alloc K1.out (Obj.cells #[Value.int IntKind.i64 0, Value.int IntKind.i64 0] 48)) p3, Kept.cell (Kept.alloc K1.out (Obj.cells #[Value.int IntKind.i64 0, Value.int IntKind.i64 0] 48)) p4, Kept.cell (Kept.alloc K1.out (Obj.cells #[Value.int IntKind.i64 0, Value.int IntKind.i64 0] 48)) p5⟩ (fun hHeld => ?_)
        clear hK K
        (try simp only [Act.put, s1_, s2_, s3_, s4_, s5_, s6_])
        refine tk_ 20 ?_ rfl ?_
        refine rd_ 21 rfl (fun K hK => ?_)
        skip
        go_simp
        refine hK.out _ _ ⟨Kept.cell (Kept.alloc K1.out (Obj.cells #[Value.int IntKind.i64 (lo : Int), Value.int IntKind.i64 (hi : Int)] 48)) p0, Kept.cell (Kept.alloc K1.out (Obj.cells #[Value.int IntKind.i64 (lo : Int), Value.int IntKind.i64 (hi : Int)] 48)) p1, Kept.cell (Kept.alloc K1.out (Obj.cells #[Value.int IntKind.i64 (lo : Int), Value.int IntKind.i64 (hi : Int)] 48)) p2, Kept.cell (Kept.alloc K1.out (Obj.cells #[Value.int IntKind.i64 (lo : Int), Value.int IntKind.i64 (hi : Int)] 48)) p3, Kept.cell (Kept.alloc K1.out (Obj.cells #[Value.int IntKind.i64 (lo : Int), Value.int IntKind.i64 (hi : Int)] 48)) p4, Kept.cell (Kept.alloc K1.out (Obj.cells #[Value.int IntKind.i64 (lo : Int), Value.int IntKind.i64 (hi : Int)] 48)) p5⟩ (fun hHeld => ?_)
        clear hK K
        (try simp only [Act.put, s1_, s2_, s3_, s4_, s5_, s6_])
        refine wpAnyH_done (by kernel_rfl) ?_ _
        have HN2 : Hid ((w1.alloc (Obj.cells #[Value.int IntKind.i64 (lo : Int), Value.int IntKind.i64 (hi : Int)] 48)).heap[w1.heap.size]? = some (Obj.cells #[Value.int IntKind.i64 (lo : Int), Value.int IntKind.i64 (hi : Int)] 48 (0, 0))) := Lib.hid (alloc_at rfl)
        have ZS := Lib.hid (alloc_lift (o := (Obj.cells #[Value.int IntKind.i64 (lo : Int), Value.int IntKind.i64 (hi : Int)] 48)) ((K1.out.block _ (block_lt HZ.out)).trans HZ.out))
        have HFN := Lib.hid (show ∀ x, Q = some x → w.heap.size ≤ x.block from fun x hx => by have h1 := FR1.out x hx; have h2 := HK3.out.size; simp at h1; omega)
        have I2 := Lib.hid (I1.out.kept (Kept.alloc (Kept.refl w1) (Obj.cells #[Value.int IntKind.i64 (lo : Int), Value.int IntKind.i64 (hi : Int)] 48)))
        have K2 := Lib.hid (Kept.trans HK3.out (Kept.alloc K1.out (Obj.cells #[Value.int IntKind.i64 (lo : Int), Value.int IntKind.i64 (hi : Int)] 48)))
        have HNE := Lib.hid (show w1.heap.size ≠ bb + 1 + 1 by have := K1.out.size; omega)
        have HFQ := Lib.hid (show ∀ x, Q = some x → x.block ≠ bb + 1 + 1 from fun x hx => by have := FR1.out x hx; simp at this; omega)
        generalize w1.alloc (Obj.cells #[Value.int IntKind.i64 (lo : Int), Value.int IntKind.i64 (hi : Int)] 48) = w2 at *
        generalize w1.heap.size = nn at *
        have hne : nn ≠ bb + 1 + 1 := HNE.out
        have hz := ZS.out
        have hn := HN2.out
        have z0 := cell_of_block (i := 0) hz rfl
        have z1 := cell_of_block (i := 1) hz rfl
        have y0 := frozen_of_block (i := 0) hz
        have y1 := frozen_of_block (i := 1) hz
        have n0 := cell_of_block (i := 0) hn rfl
        have n1 := cell_of_block (i := 1) hn rfl
        have hF := cells2_set hz (.int .i64 (lo : Int)) (.int .i64 (hi : Int))
        have g0 := cell_of_block (i := 0) hF rfl
        have g1 := cell_of_block (i := 1) hF rfl
        have hn2 := setCell_other (i := 1) (v := .int .i64 (hi : Int)) (setCell_other (i := 0) (v := .int .i64 (lo : Int)) hn (Ne.symm hne)) (Ne.symm hne)
        have q0 := cell_of_block (i := 0) hn2 rfl
        have q1 := cell_of_block (i := 1) hn2 rfl
        simp only [s4_, s5_, s6_] at z0 z1 n0 n1 g0 g1 q0 q1
        have G0 := Lib.hid g0
        have G1 := Lib.hid g1
        have Q0 := Lib.hid q0
        have Q1 := Lib.hid q1
        clear hz hn hF g0 g1 hn2 q0 q1
        go_wp2_with fail
        clear z0 z1 y0 y1
        refine wp_region_held_drew (S := (fun w' => w'.cell? ⟨nn, 0, none⟩ = some (.int .i64 (lo : Int)) ∧ w'.cell? ⟨nn, 1, none⟩ = some (.int .i64 (hi : Int)))) (by kernel_rfl) ⟨n0, n1⟩ (fun hHeld => ?_)
        refine tk_ 0 ?_ rfl ?_; refine tk_ 1 ?_ rfl ?_; refine tk_ 2 ?_ rfl ?_
        refine rd_ 3 rfl (fun K hK => ?_)
        have z0 := cell_of_block (w := w2) (i := 0) ZS.out rfl
        have z1 := cell_of_block (w := w2) (i := 1) ZS.out rfl
        have y0 := frozen_of_block (w := w2) (i := 0) ZS.out
        have y1 := frozen_of_block (w := w2) (i := 1) ZS.out
        simp only [s4_, s5_, s6_] at z0 z1
        go_simp
        refine hK.out _ _ ⟨Q0.out, Q1.out⟩ (fun hHeld => ?_)
        clear hK K
        (try simp only [Act.put, s1_, s2_, s3_, s4_, s5_, s6_])
        refine tk_ 4 ?_ rfl ?_
        refine wpAnyH_done (by kernel_rfl) ?_ _
        go_wp2_with fail
        have g0 := G0.out
        have g1 := G1.out
        clear z0 z1 y0 y1 n0 n1
        refine bodyPost_ret (v := .tuple #[.slice Q k c, .agg #[.int .i64 (lo : Int), .int .i64 (hi : Int)], .int .i64 0]) (by simp [results, Tryz.results13, go_sem, g0, g1]) rfl ?_
        have hkf := Kept.drew (Kept.setCell (Kept.setCell K2.out (p := ⟨bb + 1 + 1, 0, none⟩) (Nat.le_succ_of_le (Nat.le_succ_of_le hwb)) (.int .i64 (lo : Int))) (p := ⟨bb + 1 + 1, 1, none⟩) (Nat.le_succ_of_le (Nat.le_succ_of_le hwb)) (.int .i64 (hi : Int)))
        exact ⟨Q, k, c, rfl, le1, (Ints.sets (Ints.sets I2.out HFQ.out 0 _) HFQ.out 1 _).kept (Kept.drew (Kept.refl _)), HFN.out, hkf⟩
      · go_simp
        refine hK.out _ _ ⟨Kept.cell (Kept.alloc (Kept.drew (Kept.refl w3)) (Obj.cells #[Value.int IntKind.i64 0, Value.int IntKind.i64 0] 48)) p0, Kept.cell (Kept.alloc (Kept.drew (Kept.refl w3)) (Obj.cells #[Value.int IntKind.i64 0, Value.int IntKind.i64 0] 48)) p1, Kept.cell (Kept.alloc (Kept.drew (Kept.refl w3)) (Obj.cells #[Value.int IntKind.i64 0, Value.int IntKind.i64 0] 48)) p2, Kept.cell (Kept.alloc (Kept.drew (Kept.refl w3)) (Obj.cells #[Value.int IntKind.i64 0, Value.int IntKind.i64 0] 48)) p3, Kept.cell (Kept.alloc (Kept.drew (Kept.refl w3)) (Obj.cells #[Value.int IntKind.i64 0, Value.int IntKind.i64 0] 48)) p4, Kept.cell (Kept.alloc (Kept.drew (Kept.refl w3)) (Obj.cells #[Value.int IntKind.i64 0, Value.int IntKind.i64 0] 48)) p5⟩ (fun hHeld => ?_)
        clear hK K
        (try simp only [Act.put, s1_, s2_, s3_, s4_, s5_, s6_])
        refine rd_ 15 rfl (fun K hK => ?_)
        go_simp
        (refine (HJ.out _ (Kept.trans HK3.out (Kept.alloc (Kept.drew (Kept.refl w3)) (Obj.cells #[Value.int IntKind.i64 0, Value.int IntKind.i64 0] 48)))).mono ?_; rintro e w1 ⟨Q, k, c, rfl, le1, i1, fr1, k1⟩; have I1 := Lib.hid i1; have FR1 := Lib.hid fr1; have K1 := Lib.hid (Kept.trans (Kept.alloc (Kept.drew (Kept.refl w3)) (Obj.cells #[Value.int IntKind.i64 0, Value.int IntKind.i64 0] 48)) k1); have KC := Lib.hid k1; clear i1 fr1 k1)
        go_wp2_with fail
        refine hK.out _ _ ⟨Kept.cell K1.out p0, Kept.cell K1.out p1, Kept.cell K1.out p2, Kept.cell K1.out p3, Kept.cell K1.out p4, Kept.cell K1.out p5⟩ (fun hHeld => ?_)
        clear hK K
        (try simp only [Act.put, s1_, s2_, s3_, s4_, s5_, s6_])
        refine tk_ 16 ?_ rfl ?_; refine tk_ 17 ?_ rfl ?_; refine tk_ 18 ?_ rfl ?_; refine tk_ 20 ?_ rfl ?_
        refine rd_ 21 rfl (fun K hK => ?_)
        have hal := (KC.out.block w3.heap.size (by simp)).trans (alloc_at (W := w3.drew) (o := (Obj.cells #[Value.int IntKind.i64 0, Value.int IntKind.i64 0] 48)) rfl)
        have x0 := cell_of_block (i := 0) hal rfl
        have x1 := cell_of_block (i := 1) hal rfl
        have y0 := frozen_of_block (i := 0) hal
        have y1 := frozen_of_block (i := 1) hal
        simp only [s4_, s5_, s6_] at x0 x1
        have HAL := Lib.hid hal
        clear hal
        go_simp
        refine hK.out _ _ ⟨Kept.cell (Kept.setCell (Kept.setCell K1.out (p := ⟨w3.heap.size, 0, none⟩) (Nat.le_refl _) (.int .i64 (lo : Int))) (p := ⟨w3.heap.size, 1, none⟩) (Nat.le_refl _) (.int .i64 (hi : Int))) p0, Kept.cell (Kept.setCell (Kept.setCell K1.out (p := ⟨w3.heap.size, 0, none⟩) (Nat.le_refl _) (.int .i64 (lo : Int))) (p := ⟨w3.heap.size, 1, none⟩) (Nat.le_refl _) (.int .i64 (hi : Int))) p1, Kept.cell (Kept.setCell (Kept.setCell K1.out (p := ⟨w3.heap.size, 0, none⟩) (Nat.le_refl _) (.int .i64 (lo : Int))) (p := ⟨w3.heap.size, 1, none⟩) (Nat.le_refl _) (.int .i64 (hi : Int))) p2, Kept.cell (Kept.setCell (Kept.setCell K1.out (p := ⟨w3.heap.size, 0, none⟩) (Nat.le_refl _) (.int .i64 (lo : Int))) (p := ⟨w3.heap.size, 1, none⟩) (Nat.le_refl _) (.int .i64 (hi : Int))) p3, Kept.cell (Kept.setCell (Kept.setCell K1.out (p := ⟨w3.heap.size, 0, none⟩) (Nat.le_refl _) (.int .i64 (lo : Int))) (p := ⟨w3.heap.size, 1, none⟩) (Nat.le_refl _) (.int .i64 (hi : Int))) p4, Kept.cell (Kept.setCell (Kept.setCell K1.out (p := ⟨w3.heap.size, 0, none⟩) (Nat.le_refl _) (.int .i64 (lo : Int))) (p := ⟨w3.heap.size, 1, none⟩) (Nat.le_refl _) (.int .i64 (hi : Int))) p5⟩ (fun hHeld => ?_)
        clear hK K
        (try simp only [Act.put, s1_, s2_, s3_, s4_, s5_, s6_])
        refine wpAnyH_done (by kernel_rfl) ?_ _
        clear x0 x1 y0 y1
        have HNE0 : w3.heap.size ≠ bb + 1 + 1 := by omega
        have HN2 := Lib.hid (cells2_set HAL.out (.int .i64 (lo : Int)) (.int .i64 (hi : Int)))
        have ZS := Lib.hid (setCell_other (i := 1) (v := (.int .i64 (hi : Int))) (setCell_other (i := 0) (v := (.int .i64 (lo : Int))) ((K1.out.block _ (block_lt HZ.out)).trans HZ.out) HNE0) HNE0)
        have hfn : ∀ x, Q = some x → x.block ≠ w3.heap.size := fun x hx => by have := FR1.out x hx; simp at this; omega
        have HFQ := Lib.hid (show ∀ x, Q = some x → x.block ≠ bb + 1 + 1 from fun x hx => by have := FR1.out x hx; simp at this; omega)
        have HFN := Lib.hid (show ∀ x, Q = some x → w.heap.size ≤ x.block from fun x hx => by have h1 := FR1.out x hx; have h2 := HK3.out.size; simp at h1; omega)
        have I2 := Lib.hid (Ints.sets (Ints.sets I1.out hfn 0 (.int .i64 (lo : Int))) hfn 1 (.int .i64 (hi : Int)))
        have K2 := Lib.hid (Kept.trans HK3.out (Kept.setCell (Kept.setCell K1.out (p := ⟨w3.heap.size, 0, none⟩) (Nat.le_refl _) (.int .i64 (lo : Int))) (p := ⟨w3.heap.size, 1, none⟩) (Nat.le_refl _) (.int .i64 (hi : Int))))
        have HNE := Lib.hid HNE0
        clear HNE0 hfn
        generalize ((w1.setCell ⟨w3.heap.size, 0, none⟩ (.int .i64 (lo : Int))).setCell ⟨w3.heap.size, 1, none⟩ (.int .i64 (hi : Int))) = w2 at *
        generalize w3.heap.size = nn at *
        have hne : nn ≠ bb + 1 + 1 := HNE.out
        have hz := ZS.out
        have hn := HN2.out
        have z0 := cell_of_block (i := 0) hz rfl
        have z1 := cell_of_block (i := 1) hz rfl
        have y0 := frozen_of_block (i := 0) hz
        have y1 := frozen_of_block (i := 1) hz
        have n0 := cell_of_block (i := 0) hn rfl
        have n1 := cell_of_block (i := 1) hn rfl
        have hF := cells2_set hz (.int .i64 (lo : Int)) (.int .i64 (hi : Int))
        have g0 := cell_of_block (i := 0) hF rfl
        have g1 := cell_of_block (i := 1) hF rfl
        have hn2 := setCell_other (i := 1) (v := .int .i64 (hi : Int)) (setCell_other (i := 0) (v := .int .i64 (lo : Int)) hn (Ne.symm hne)) (Ne.symm hne)
        have q0 := cell_of_block (i := 0) hn2 rfl
        have q1 := cell_of_block (i := 1) hn2 rfl
        simp only [s4_, s5_, s6_] at z0 z1 n0 n1 g0 g1 q0 q1
        have G0 := Lib.hid g0
        have G1 := Lib.hid g1
        have Q0 := Lib.hid q0
        have Q1 := Lib.hid q1
        clear hz hn hF g0 g1 hn2 q0 q1
        go_wp2_with fail
        clear z0 z1 y0 y1
        refine wp_region_held_drew (S := (fun w' => w'.cell? ⟨nn, 0, none⟩ = some (.int .i64 (lo : Int)) ∧ w'.cell? ⟨nn, 1, none⟩ = some (.int .i64 (hi : Int)))) (by kernel_rfl) ⟨n0, n1⟩ (fun hHeld => ?_)
        refine tk_ 0 ?_ rfl ?_; refine tk_ 1 ?_ rfl ?_; refine tk_ 2 ?_ rfl ?_
        refine rd_ 3 rfl (fun K hK => ?_)
        have z0 := cell_of_block (w := w2) (i := 0) ZS.out rfl
        have z1 := cell_of_block (w := w2) (i := 1) ZS.out rfl
        have y0 := frozen_of_block (w := w2) (i := 0) ZS.out
        have y1 := frozen_of_block (w := w2) (i := 1) ZS.out
        simp only [s4_, s5_, s6_] at z0 z1
        go_simp
        refine hK.out _ _ ⟨Q0.out, Q1.out⟩ (fun hHeld => ?_)
        clear hK K
        (try simp only [Act.put, s1_, s2_, s3_, s4_, s5_, s6_])
        refine tk_ 4 ?_ rfl ?_
        refine wpAnyH_done (by kernel_rfl) ?_ _
        go_wp2_with fail
        have g0 := G0.out
        have g1 := G1.out
        clear z0 z1 y0 y1 n0 n1
        refine bodyPost_ret (v := .tuple #[.slice Q k c, .agg #[.int .i64 (lo : Int), .int .i64 (hi : Int)], .int .i64 0]) (by simp [results, Tryz.results13, go_sem, g0, g1]) rfl ?_
        have hkf := Kept.drew (Kept.setCell (Kept.setCell K2.out (p := ⟨bb + 1 + 1, 0, none⟩) (Nat.le_succ_of_le (Nat.le_succ_of_le hwb)) (.int .i64 (lo : Int))) (p := ⟨bb + 1 + 1, 1, none⟩) (Nat.le_succ_of_le (Nat.le_succ_of_le hwb)) (.int .i64 (hi : Int)))
        exact ⟨Q, k, c, rfl, le1, (Ints.sets (Ints.sets I2.out HFQ.out 0 _) HFQ.out 1 _).kept (Kept.drew (Kept.refl _)), HFN.out, hkf⟩
  · subst hf
    by_cases hb : ea < 0 ∨ ed < 0 ∨ (nt : Int) < ea ∨ (nt : Int) - ea < ed
    · have HB := Lib.hid hb
      have hb2 : ea < 0 ∨ (0 ≤ ea ∧ ed < 0) ∨ (0 ≤ ea ∧ 0 ≤ ed ∧ (nt : Int) < ea) ∨ (0 ≤ ea ∧ 0 ≤ ed ∧ ea ≤ (nt : Int) ∧ (nt : Int) - ea < ed) := by omega
      clear hb
      unfold Sls.val at *
      rcases hb2 with h1 | ⟨h1, h2⟩ | ⟨h1, h2, h3⟩ | ⟨h1, h2, h3, h4⟩
      all_goals
        go_enter Tryz.func13, Tryz.ntmps13
        go_wp2_with fail
        have g0 := G0.out
        have g1 := G1.out
        refine bodyPost_ret (v := .tuple #[.slice none 0 0, .agg #[.int .i64 0, .int .i64 0], .int .i64 1]) (by simp [results, Tryz.results13, go_sem, g0, g1]) rfl ?_
        unfold RetRepl
        rw [if_neg (by omega), if_pos (by rw [← HTN.out]; exact HB.out)]
        exact ⟨rfl, HK3.out⟩
    · have h1 : 0 ≤ ea := by omega
      have h2 : 0 ≤ ed := by omega
      have h3 : ea ≤ (nt : Int) := by omega
      have h4 : ed ≤ (nt : Int) - ea := by omega
      clear hb
      obtain ⟨p, rfl⟩ := Int.eq_ofNat_of_zero_le h1
      obtain ⟨d, rfl⟩ := Int.eq_ofNat_of_zero_le h2
      have hp : p ≤ nt := by omega
      have hd : p + d ≤ nt := by omega
      have HJ := Lib.hid (fun w' (hk : Kept w w') => join_all s n 3 A p p (text.take p) I ni ci ins (dropA A nt (p + d)) (nt - (p + d)) (nt - (p + d)) (text.drop (p + d)) w' (HN.out.kept hk) (HG.out.kept hk) (by omega) hni (by omega) (Nat.le_refl _) lei (Nat.le_refl _) (Ints.front_ (HT.out.kept hk) hp) (HI.out.kept hk) (Ints.drop_ (HT.out.kept hk) hd (Nat.le_refl _)))
      have sl1 := run_take3 A nt ct p (by omega)
      have sl2 := run_drop3 A nt ct (p + d) hd let_
      have HTL := Lib.hid (show ((p : Int) + (d : Int)).toNat = p + d by omega)
      unfold RetJoin at HJ
      suffices hs : Calls Tryz.prog 13 #[s.val, .int .i64 3, .slice A nt ct, .agg #[.int .i64 (p : Int), .int .i64 (d : Int), .slice I ni ci]] w (fun e w' => ∃ Q k c, e = .returned (.tuple #[.slice Q k c, .agg #[.int .i64 (jFrom n 3 (text.take p) : Nat), .int .i64 ((jFrom n 3 (text.take p) + (jMid n 3 (text.take p) ins (text.drop (p + d))).length : Nat) : Int)], .int .i64 0]) ∧
          k ≤ c ∧ Ints w' Q k (joinM n 3 (text.take p) ins (text.drop (p + d))) ∧ (∀ x, Q = some x → w.heap.size ≤ x.block) ∧ Kept w w') from hs.mono (fun e w' hx => by
        unfold RetRepl
        rw [if_neg (by omega), if_neg (by rw [← HTN.out]; omega), HTL.out, Int.toNat_natCast]
        exact hx)
      generalize joinM n 3 (text.take p) ins (text.drop (p + d)) = J at *
      generalize jFrom n 3 (text.take p) + (jMid n 3 (text.take p) ins (text.drop (p + d))).length = hi at *
      generalize jFrom n 3 (text.take p) = lo at *
      rw [Int.natCast_add] at sl2
      unfold Sls.val at *
      go_enter Tryz.func13, Tryz.ntmps13
      have p0 := cell_of_block (i := 0) HX.out rfl
      have p1 := cell_of_block (i := 1) HX.out rfl
      have p2 := cell_of_block (i := 2) HX.out rfl
      have p3 := cell_of_block (i := 0) HY.out rfl
      have p4 := cell_of_block (i := 1) HY.out rfl
      have p5 := cell_of_block (i := 2) HY.out rfl
      simp only [s4_, s5_, s6_] at p0 p1 p2 p3 p4 p5
      go_wp2_with fail
      obtain ⟨bb, hbb⟩ : ∃ bb : Nat, bb = w.heap.size := ⟨_, rfl⟩
      have HBB := Lib.hid hbb
      rw [← hbb] at p0 p1 p2 p3 p4 p5 HZ ⊢
      clear hbb G0 G1 HX HY
      generalize (((w.alloc (Obj.cells #[Value.slice s.Ac s.nc s.cc, Value.slice s.Am s.nm s.cm, Value.slice s.Ae s.ne s.ce] 28)).alloc (Obj.cells #[Value.int IntKind.i64 (p : Int), Value.int IntKind.i64 (d : Int), Value.slice I ni ci] 42)).alloc (Obj.cells #[Value.int IntKind.i64 0, Value.int IntKind.i64 0] 48)) = w3 at *
      have hb3 : bb + 1 + 1 < w3.heap.size := block_lt HZ.out
      have hwb : w.heap.size ≤ bb := by rw [HBB.out]; exact Nat.le_refl _
      refine wp_region_held_drew (S := (fun w' => w'.cell? ⟨bb, 0, none⟩ = some (.slice s.Ac s.nc s.cc) ∧ w'.cell? ⟨bb, 1, none⟩ = some (.slice s.Am s.nm s.cm) ∧ w'.cell? ⟨bb, 2, none⟩ = some (.slice s.Ae s.ne s.ce) ∧ w'.cell? ⟨bb + 1, 0, none⟩ = some (.int .i64 (p : Int)) ∧ w'.cell? ⟨bb + 1, 1, none⟩ = some (.int .i64 (d : Int)) ∧ w'.cell? ⟨bb + 1, 2, none⟩ = some (.slice I ni ci))) (by kernel_rfl) ⟨p0, p1, p2, p3, p4, p5⟩ (fun hHeld => ?_)
      refine tk_ 0 ?_ rfl ?_; refine tk_ 1 ?_ rfl ?_; refine tk_ 2 ?_ rfl ?_; refine tk_ 3 ?_ rfl ?_; refine tk_ 4 ?_ rfl ?_; refine tk_ 5 ?_ rfl ?_; refine tk_ 6 ?_ rfl ?_; refine tk_ 7 ?_ rfl ?_; refine tk_ 8 ?_ rfl ?_; refine tk_ 9 ?_ rfl ?_; refine tk_ 10 ?_ rfl ?_; refine tk_ 11 ?_ rfl ?_; refine tk_ 12 ?_ rfl ?_; refine tk_ 13 ?_ rfl ?_; refine tk_ 14 ?_ rfl ?_
      refine wpAnyH_ready (rs := [15, 19]) (by kernel_rfl) (by simp) ?_
      refine AllReadyH.cons rfl (fun K hK => ?_) (AllReadyH.cons rfl (fun K hK => ?_) AllReadyH.nil)
      · go_simp
        (refine (HJ.out _ (Kept.trans HK3.out (Kept.drew (Kept.refl w3)))).mono ?_; rintro e w1 ⟨Q, k, c, rfl, le1, i1, fr1, k1⟩; have I1 := Lib.hid i1; have FR1 := Lib.hid fr1; have K1 := Lib.hid (Kept.trans (Kept.drew (Kept.refl w3)) k1); have KC := Lib.hid k1; clear i1 fr1 k1)
        go_wp2_with fail
        refine hK.out _ _ ⟨Kept.cell K1.out p0, Kept.cell K1.out p1, Kept.cell K1.out p2, Kept.cell K1.out p3, Kept.cell K1.out p4, Kept.cell K1.out p5⟩ (fun hHeld => ?_)
        clear hK K
        (try simp only [Act.put, s1_, s2_, s3_, s4_, s5_, s6_])
        refine tk_ 16 ?_ rfl ?_; refine tk_ 17 ?_ rfl ?_; refine tk_ 18 ?_ rfl ?_
        refine rd_ 19 rfl (fun K hK => ?_)
        skip
        go_simp
        refine hK.out _ _ ⟨Kept.cell (Kept.alloc K1.out (Obj.cells #[Value.int IntKind.i64 0, Value.int IntKind.i64 0] 48)) p0, Kept.cell (Kept.alloc K1.out (Obj.cells #[Value.int IntKind.i64 0, Value.int IntKind.i64 0] 48)) p1, Kept.cell (Kept.alloc K1.out (Obj.cells #[Value.int IntKind.i64 0, Value.int IntKind.i64 0] 48)) p2, Kept.cell (Kept.alloc K1.out (Obj.cells #[Value.int IntKind.i64 0, Value.int IntKind.i64 0] 48)) p3, Kept.cell (Kept.alloc K1.out (Obj.cells #[Value.int IntKind.i64 0, Value.int IntKind.i64 0] 48)) p4, Kept.cell (Kept.alloc K1.out (Obj.cells #[Value.int IntKind.i64 0, Value.int IntKind.i64 0] 48)) p5⟩ (fun hHeld => ?_)
        clear hK K
        (try simp only [Act.put, s1_, s2_, s3_, s4_, s5_, s6_])
        refine tk_ 20 ?_ rfl ?_
        refine rd_ 21 rfl (fun K hK => ?_)
        skip
        go_simp
        refine hK.out _ _ ⟨Kept.cell (Kept.alloc K1.out (Obj.cells #[Value.int IntKind.i64 (lo : Int), Value.int IntKind.i64 (hi : Int)] 48)) p0, Kept.cell (Kept.alloc K1.out (Obj.cells #[Value.int IntKind.i64 (lo : Int), Value.int IntKind.i64 (hi : Int)] 48)) p1, Kept.cell (Kept.alloc K1.out (Obj.cells #[Value.int IntKind.i64 (lo : Int), Value.int IntKind.i64 (hi : Int)] 48)) p2, Kept.cell (Kept.alloc K1.out (Obj.cells #[Value.int IntKind.i64 (lo : Int), Value.int IntKind.i64 (hi : Int)] 48)) p3, Kept.cell (Kept.alloc K1.out (Obj.cells #[Value.int IntKind.i64 (lo : Int), Value.int IntKind.i64 (hi : Int)] 48)) p4, Kept.cell (Kept.alloc K1.out (Obj.cells #[Value.int IntKind.i64 (lo : Int), Value.int IntKind.i64 (hi : Int)] 48)) p5⟩ (fun hHeld => ?_)
        clear hK K
        (try simp only [Act.put, s1_, s2_, s3_, s4_, s5_, s6_])
        refine wpAnyH_done (by kernel_rfl) ?_ _
        have HN2 : Hid ((w1.alloc (Obj.cells #[Value.int IntKind.i64 (lo : Int), Value.int IntKind.i64 (hi : Int)] 48)).heap[w1.heap.size]? = some (Obj.cells #[Value.int IntKind.i64 (lo : Int), Value.int IntKind.i64 (hi : Int)] 48 (0, 0))) := Lib.hid (alloc_at rfl)
        have ZS := Lib.hid (alloc_lift (o := (Obj.cells #[Value.int IntKind.i64 (lo : Int), Value.int IntKind.i64 (hi : Int)] 48)) ((K1.out.block _ (block_lt HZ.out)).trans HZ.out))
        have HFN := Lib.hid (show ∀ x, Q = some x → w.heap.size ≤ x.block from fun x hx => by have h1 := FR1.out x hx; have h2 := HK3.out.size; simp at h1; omega)
        have I2 := Lib.hid (I1.out.kept (Kept.alloc (Kept.refl w1) (Obj.cells #[Value.int IntKind.i64 (lo : Int), Value.int IntKind.i64 (hi : Int)] 48)))
        have K2 := Lib.hid (Kept.trans HK3.out (Kept.alloc K1.out (Obj.cells #[Value.int IntKind.i64 (lo : Int), Value.int IntKind.i64 (hi : Int)] 48)))
        have HNE := Lib.hid (show w1.heap.size ≠ bb + 1 + 1 by have := K1.out.size; omega)
        have HFQ := Lib.hid (show ∀ x, Q = some x → x.block ≠ bb + 1 + 1 from fun x hx => by have := FR1.out x hx; simp at this; omega)
        generalize w1.alloc (Obj.cells #[Value.int IntKind.i64 (lo : Int), Value.int IntKind.i64 (hi : Int)] 48) = w2 at *
        generalize w1.heap.size = nn at *
        have hne : nn ≠ bb + 1 + 1 := HNE.out
        have hz := ZS.out
        have hn := HN2.out
        have z0 := cell_of_block (i := 0) hz rfl
        have z1 := cell_of_block (i := 1) hz rfl
        have y0 := frozen_of_block (i := 0) hz
        have y1 := frozen_of_block (i := 1) hz
        have n0 := cell_of_block (i := 0) hn rfl
        have n1 := cell_of_block (i := 1) hn rfl
        have hF := cells2_set hz (.int .i64 (lo : Int)) (.int .i64 (hi : Int))
        have g0 := cell_of_block (i := 0) hF rfl
        have g1 := cell_of_block (i := 1) hF rfl
        have hn2 := setCell_other (i := 1) (v := .int .i64 (hi : Int)) (setCell_other (i := 0) (v := .int .i64 (lo : Int)) hn (Ne.symm hne)) (Ne.symm hne)
        have q0 := cell_of_block (i := 0) hn2 rfl
        have q1 := cell_of_block (i := 1) hn2 rfl
        simp only [s4_, s5_, s6_] at z0 z1 n0 n1 g0 g1 q0 q1
        have G0 := Lib.hid g0
        have G1 := Lib.hid g1
        have Q0 := Lib.hid q0
        have Q1 := Lib.hid q1
        clear hz hn hF g0 g1 hn2 q0 q1
        go_wp2_with fail
        clear z0 z1 y0 y1
        refine wp_region_held_drew (S := (fun w' => w'.cell? ⟨nn, 0, none⟩ = some (.int .i64 (lo : Int)) ∧ w'.cell? ⟨nn, 1, none⟩ = some (.int .i64 (hi : Int)))) (by kernel_rfl) ⟨n0, n1⟩ (fun hHeld => ?_)
        refine tk_ 0 ?_ rfl ?_; refine tk_ 1 ?_ rfl ?_; refine tk_ 2 ?_ rfl ?_
        refine rd_ 3 rfl (fun K hK => ?_)
        have z0 := cell_of_block (w := w2) (i := 0) ZS.out rfl
        have z1 := cell_of_block (w := w2) (i := 1) ZS.out rfl
        have y0 := frozen_of_block (w := w2) (i := 0) ZS.out
        have y1 := frozen_of_block (w := w2) (i := 1) ZS.out
        simp only [s4_, s5_, s6_] at z0 z1
        go_simp
        refine hK.out _ _ ⟨Q0.out, Q1.out⟩ (fun hHeld => ?_)
        clear hK K
        (try simp only [Act.put, s1_, s2_, s3_, s4_, s5_, s6_])
        refine tk_ 4 ?_ rfl ?_
        refine wpAnyH_done (by kernel_rfl) ?_ _
        go_wp2_with fail
        have g0 := G0.out
        have g1 := G1.out
        clear z0 z1 y0 y1 n0 n1
        refine bodyPost_ret (v := .tuple #[.slice Q k c, .agg #[.int .i64 (lo : Int), .int .i64 (hi : Int)], .int .i64 0]) (by simp [results, Tryz.results13, go_sem, g0, g1]) rfl ?_
        have hkf := Kept.drew (Kept.setCell (Kept.setCell K2.out (p := ⟨bb + 1 + 1, 0, none⟩) (Nat.le_succ_of_le (Nat.le_succ_of_le hwb)) (.int .i64 (lo : Int))) (p := ⟨bb + 1 + 1, 1, none⟩) (Nat.le_succ_of_le (Nat.le_succ_of_le hwb)) (.int .i64 (hi : Int)))
        exact ⟨Q, k, c, rfl, le1, (Ints.sets (Ints.sets I2.out HFQ.out 0 _) HFQ.out 1 _).kept (Kept.drew (Kept.refl _)), HFN.out, hkf⟩
      · go_simp
        refine hK.out _ _ ⟨Kept.cell (Kept.alloc (Kept.drew (Kept.refl w3)) (Obj.cells #[Value.int IntKind.i64 0, Value.int IntKind.i64 0] 48)) p0, Kept.cell (Kept.alloc (Kept.drew (Kept.refl w3)) (Obj.cells #[Value.int IntKind.i64 0, Value.int IntKind.i64 0] 48)) p1, Kept.cell (Kept.alloc (Kept.drew (Kept.refl w3)) (Obj.cells #[Value.int IntKind.i64 0, Value.int IntKind.i64 0] 48)) p2, Kept.cell (Kept.alloc (Kept.drew (Kept.refl w3)) (Obj.cells #[Value.int IntKind.i64 0, Value.int IntKind.i64 0] 48)) p3, Kept.cell (Kept.alloc (Kept.drew (Kept.refl w3)) (Obj.cells #[Value.int IntKind.i64 0, Value.int IntKind.i64 0] 48)) p4, Kept.cell (Kept.alloc (Kept.drew (Kept.refl w3)) (Obj.cells #[Value.int IntKind.i64 0, Value.int IntKind.i64 0] 48)) p5⟩ (fun hHeld => ?_)
        clear hK K
        (try simp only [Act.put, s1_, s2_, s3_, s4_, s5_, s6_])
        refine rd_ 15 rfl (fun K hK => ?_)
        go_simp
        (refine (HJ.out _ (Kept.trans HK3.out (Kept.alloc (Kept.drew (Kept.refl w3)) (Obj.cells #[Value.int IntKind.i64 0, Value.int IntKind.i64 0] 48)))).mono ?_; rintro e w1 ⟨Q, k, c, rfl, le1, i1, fr1, k1⟩; have I1 := Lib.hid i1; have FR1 := Lib.hid fr1; have K1 := Lib.hid (Kept.trans (Kept.alloc (Kept.drew (Kept.refl w3)) (Obj.cells #[Value.int IntKind.i64 0, Value.int IntKind.i64 0] 48)) k1); have KC := Lib.hid k1; clear i1 fr1 k1)
        go_wp2_with fail
        refine hK.out _ _ ⟨Kept.cell K1.out p0, Kept.cell K1.out p1, Kept.cell K1.out p2, Kept.cell K1.out p3, Kept.cell K1.out p4, Kept.cell K1.out p5⟩ (fun hHeld => ?_)
        clear hK K
        (try simp only [Act.put, s1_, s2_, s3_, s4_, s5_, s6_])
        refine tk_ 16 ?_ rfl ?_; refine tk_ 17 ?_ rfl ?_; refine tk_ 18 ?_ rfl ?_; refine tk_ 20 ?_ rfl ?_
        refine rd_ 21 rfl (fun K hK => ?_)
        have hal := (KC.out.block w3.heap.size (by simp)).trans (alloc_at (W := w3.drew) (o := (Obj.cells #[Value.int IntKind.i64 0, Value.int IntKind.i64 0] 48)) rfl)
        have x0 := cell_of_block (i := 0) hal rfl
        have x1 := cell_of_block (i := 1) hal rfl
        have y0 := frozen_of_block (i := 0) hal
        have y1 := frozen_of_block (i := 1) hal
        simp only [s4_, s5_, s6_] at x0 x1
        have HAL := Lib.hid hal
        clear hal
        go_simp
        refine hK.out _ _ ⟨Kept.cell (Kept.setCell (Kept.setCell K1.out (p := ⟨w3.heap.size, 0, none⟩) (Nat.le_refl _) (.int .i64 (lo : Int))) (p := ⟨w3.heap.size, 1, none⟩) (Nat.le_refl _) (.int .i64 (hi : Int))) p0, Kept.cell (Kept.setCell (Kept.setCell K1.out (p := ⟨w3.heap.size, 0, none⟩) (Nat.le_refl _) (.int .i64 (lo : Int))) (p := ⟨w3.heap.size, 1, none⟩) (Nat.le_refl _) (.int .i64 (hi : Int))) p1, Kept.cell (Kept.setCell (Kept.setCell K1.out (p := ⟨w3.heap.size, 0, none⟩) (Nat.le_refl _) (.int .i64 (lo : Int))) (p := ⟨w3.heap.size, 1, none⟩) (Nat.le_refl _) (.int .i64 (hi : Int))) p2, Kept.cell (Kept.setCell (Kept.setCell K1.out (p := ⟨w3.heap.size, 0, none⟩) (Nat.le_refl _) (.int .i64 (lo : Int))) (p := ⟨w3.heap.size, 1, none⟩) (Nat.le_refl _) (.int .i64 (hi : Int))) p3, Kept.cell (Kept.setCell (Kept.setCell K1.out (p := ⟨w3.heap.size, 0, none⟩) (Nat.le_refl _) (.int .i64 (lo : Int))) (p := ⟨w3.heap.size, 1, none⟩) (Nat.le_refl _) (.int .i64 (hi : Int))) p4, Kept.cell (Kept.setCell (Kept.setCell K1.out (p := ⟨w3.heap.size, 0, none⟩) (Nat.le_refl _) (.int .i64 (lo : Int))) (p := ⟨w3.heap.size, 1, none⟩) (Nat.le_refl _) (.int .i64 (hi : Int))) p5⟩ (fun hHeld => ?_)
        clear hK K
        (try simp only [Act.put, s1_, s2_, s3_, s4_, s5_, s6_])
        refine wpAnyH_done (by kernel_rfl) ?_ _
        clear x0 x1 y0 y1
        have HNE0 : w3.heap.size ≠ bb + 1 + 1 := by omega
        have HN2 := Lib.hid (cells2_set HAL.out (.int .i64 (lo : Int)) (.int .i64 (hi : Int)))
        have ZS := Lib.hid (setCell_other (i := 1) (v := (.int .i64 (hi : Int))) (setCell_other (i := 0) (v := (.int .i64 (lo : Int))) ((K1.out.block _ (block_lt HZ.out)).trans HZ.out) HNE0) HNE0)
        have hfn : ∀ x, Q = some x → x.block ≠ w3.heap.size := fun x hx => by have := FR1.out x hx; simp at this; omega
        have HFQ := Lib.hid (show ∀ x, Q = some x → x.block ≠ bb + 1 + 1 from fun x hx => by have := FR1.out x hx; simp at this; omega)
        have HFN := Lib.hid (show ∀ x, Q = some x → w.heap.size ≤ x.block from fun x hx => by have h1 := FR1.out x hx; have h2 := HK3.out.size; simp at h1; omega)
        have I2 := Lib.hid (Ints.sets (Ints.sets I1.out hfn 0 (.int .i64 (lo : Int))) hfn 1 (.int .i64 (hi : Int)))
        have K2 := Lib.hid (Kept.trans HK3.out (Kept.setCell (Kept.setCell K1.out (p := ⟨w3.heap.size, 0, none⟩) (Nat.le_refl _) (.int .i64 (lo : Int))) (p := ⟨w3.heap.size, 1, none⟩) (Nat.le_refl _) (.int .i64 (hi : Int))))
        have HNE := Lib.hid HNE0
        clear HNE0 hfn
        generalize ((w1.setCell ⟨w3.heap.size, 0, none⟩ (.int .i64 (lo : Int))).setCell ⟨w3.heap.size, 1, none⟩ (.int .i64 (hi : Int))) = w2 at *
        generalize w3.heap.size = nn at *
        have hne : nn ≠ bb + 1 + 1 := HNE.out
        have hz := ZS.out
        have hn := HN2.out
        have z0 := cell_of_block (i := 0) hz rfl
        have z1 := cell_of_block (i := 1) hz rfl
        have y0 := frozen_of_block (i := 0) hz
        have y1 := frozen_of_block (i := 1) hz
        have n0 := cell_of_block (i := 0) hn rfl
        have n1 := cell_of_block (i := 1) hn rfl
        have hF := cells2_set hz (.int .i64 (lo : Int)) (.int .i64 (hi : Int))
        have g0 := cell_of_block (i := 0) hF rfl
        have g1 := cell_of_block (i := 1) hF rfl
        have hn2 := setCell_other (i := 1) (v := .int .i64 (hi : Int)) (setCell_other (i := 0) (v := .int .i64 (lo : Int)) hn (Ne.symm hne)) (Ne.symm hne)
        have q0 := cell_of_block (i := 0) hn2 rfl
        have q1 := cell_of_block (i := 1) hn2 rfl
        simp only [s4_, s5_, s6_] at z0 z1 n0 n1 g0 g1 q0 q1
        have G0 := Lib.hid g0
        have G1 := Lib.hid g1
        have Q0 := Lib.hid q0
        have Q1 := Lib.hid q1
        clear hz hn hF g0 g1 hn2 q0 q1
        go_wp2_with fail
        clear z0 z1 y0 y1
        refine wp_region_held_drew (S := (fun w' => w'.cell? ⟨nn, 0, none⟩ = some (.int .i64 (lo : Int)) ∧ w'.cell? ⟨nn, 1, none⟩ = some (.int .i64 (hi : Int)))) (by kernel_rfl) ⟨n0, n1⟩ (fun hHeld => ?_)
        refine tk_ 0 ?_ rfl ?_; refine tk_ 1 ?_ rfl ?_; refine tk_ 2 ?_ rfl ?_
        refine rd_ 3 rfl (fun K hK => ?_)
        have z0 := cell_of_block (w := w2) (i := 0) ZS.out rfl
        have z1 := cell_of_block (w := w2) (i := 1) ZS.out rfl
        have y0 := frozen_of_block (w := w2) (i := 0) ZS.out
        have y1 := frozen_of_block (w := w2) (i := 1) ZS.out
        simp only [s4_, s5_, s6_] at z0 z1
        go_simp
        refine hK.out _ _ ⟨Q0.out, Q1.out⟩ (fun hHeld => ?_)
        clear hK K
        (try simp only [Act.put, s1_, s2_, s3_, s4_, s5_, s6_])
        refine tk_ 4 ?_ rfl ?_
        refine wpAnyH_done (by kernel_rfl) ?_ _
        go_wp2_with fail
        have g0 := G0.out
        have g1 := G1.out
        clear z0 z1 y0 y1 n0 n1
        refine bodyPost_ret (v := .tuple #[.slice Q k c, .agg #[.int .i64 (lo : Int), .int .i64 (hi : Int)], .int .i64 0]) (by simp [results, Tryz.results13, go_sem, g0, g1]) rfl ?_
        have hkf := Kept.drew (Kept.setCell (Kept.setCell K2.out (p := ⟨bb + 1 + 1, 0, none⟩) (Nat.le_succ_of_le (Nat.le_succ_of_le hwb)) (.int .i64 (lo : Int))) (p := ⟨bb + 1 + 1, 1, none⟩) (Nat.le_succ_of_le (Nat.le_succ_of_le hwb)) (.int .i64 (hi : Int)))
        exact ⟨Q, k, c, rfl, le1, (Ints.sets (Ints.sets I2.out HFQ.out 0 _) HFQ.out 1 _).kept (Kept.drew (Kept.refl _)), HFN.out, hkf⟩
  · subst hf
    by_cases hb : ea < 0 ∨ ed < 0 ∨ (nt : Int) < ea ∨ (nt : Int) - ea < ed
    · have HB := Lib.hid hb
      have hb2 : ea < 0 ∨ (0 ≤ ea ∧ ed < 0) ∨ (0 ≤ ea ∧ 0 ≤ ed ∧ (nt : Int) < ea) ∨ (0 ≤ ea ∧ 0 ≤ ed ∧ ea ≤ (nt : Int) ∧ (nt : Int) - ea < ed) := by omega
      clear hb
      unfold Sls.val at *
      rcases hb2 with h1 | ⟨h1, h2⟩ | ⟨h1, h2, h3⟩ | ⟨h1, h2, h3, h4⟩
      all_goals
        go_enter Tryz.func13, Tryz.ntmps13
        go_wp2_with fail
        have g0 := G0.out
        have g1 := G1.out
        refine bodyPost_ret (v := .tuple #[.slice none 0 0, .agg #[.int .i64 0, .int .i64 0], .int .i64 1]) (by simp [results, Tryz.results13, go_sem, g0, g1]) rfl ?_
        unfold RetRepl
        rw [if_neg (by omega), if_pos (by rw [← HTN.out]; exact HB.out)]
        exact ⟨rfl, HK3.out⟩
    · have h1 : 0 ≤ ea := by omega
      have h2 : 0 ≤ ed := by omega
      have h3 : ea ≤ (nt : Int) := by omega
      have h4 : ed ≤ (nt : Int) - ea := by omega
      clear hb
      obtain ⟨p, rfl⟩ := Int.eq_ofNat_of_zero_le h1
      obtain ⟨d, rfl⟩ := Int.eq_ofNat_of_zero_le h2
      have hp : p ≤ nt := by omega
      have hd : p + d ≤ nt := by omega
      have HJ := Lib.hid (fun w' (hk : Kept w w') => join_all s n 4 A p p (text.take p) I ni ci ins (dropA A nt (p + d)) (nt - (p + d)) (nt - (p + d)) (text.drop (p + d)) w' (HN.out.kept hk) (HG.out.kept hk) (by omega) hni (by omega) (Nat.le_refl _) lei (Nat.le_refl _) (Ints.front_ (HT.out.kept hk) hp) (HI.out.kept hk) (Ints.drop_ (HT.out.kept hk) hd (Nat.le_refl _)))
      have sl1 := run_take3 A nt ct p (by omega)
      have sl2 := run_drop3 A nt ct (p + d) hd let_
      have HTL := Lib.hid (show ((p : Int) + (d : Int)).toNat = p + d by omega)
      unfold RetJoin at HJ
      suffices hs : Calls Tryz.prog 13 #[s.val, .int .i64 4, .slice A nt ct, .agg #[.int .i64 (p : Int), .int .i64 (d : Int), .slice I ni ci]] w (fun e w' => ∃ Q k c, e = .returned (.tuple #[.slice Q k c, .agg #[.int .i64 (jFrom n 4 (text.take p) : Nat), .int .i64 ((jFrom n 4 (text.take p) + (jMid n 4 (text.take p) ins (text.drop (p + d))).length : Nat) : Int)], .int .i64 0]) ∧
          k ≤ c ∧ Ints w' Q k (joinM n 4 (text.take p) ins (text.drop (p + d))) ∧ (∀ x, Q = some x → w.heap.size ≤ x.block) ∧ Kept w w') from hs.mono (fun e w' hx => by
        unfold RetRepl
        rw [if_neg (by omega), if_neg (by rw [← HTN.out]; omega), HTL.out, Int.toNat_natCast]
        exact hx)
      generalize joinM n 4 (text.take p) ins (text.drop (p + d)) = J at *
      generalize jFrom n 4 (text.take p) + (jMid n 4 (text.take p) ins (text.drop (p + d))).length = hi at *
      generalize jFrom n 4 (text.take p) = lo at *
      rw [Int.natCast_add] at sl2
      unfold Sls.val at *
      go_enter Tryz.func13, Tryz.ntmps13
      have p0 := cell_of_block (i := 0) HX.out rfl
      have p1 := cell_of_block (i := 1) HX.out rfl
      have p2 := cell_of_block (i := 2) HX.out rfl
      have p3 := cell_of_block (i := 0) HY.out rfl
      have p4 := cell_of_block (i := 1) HY.out rfl
      have p5 := cell_of_block (i := 2) HY.out rfl
      simp only [s4_, s5_, s6_] at p0 p1 p2 p3 p4 p5
      go_wp2_with fail
      obtain ⟨bb, hbb⟩ : ∃ bb : Nat, bb = w.heap.size := ⟨_, rfl⟩
      have HBB := Lib.hid hbb
      rw [← hbb] at p0 p1 p2 p3 p4 p5 HZ ⊢
      clear hbb G0 G1 HX HY
      generalize (((w.alloc (Obj.cells #[Value.slice s.Ac s.nc s.cc, Value.slice s.Am s.nm s.cm, Value.slice s.Ae s.ne s.ce] 28)).alloc (Obj.cells #[Value.int IntKind.i64 (p : Int), Value.int IntKind.i64 (d : Int), Value.slice I ni ci] 42)).alloc (Obj.cells #[Value.int IntKind.i64 0, Value.int IntKind.i64 0] 48)) = w3 at *
      have hb3 : bb + 1 + 1 < w3.heap.size := block_lt HZ.out
      have hwb : w.heap.size ≤ bb := by rw [HBB.out]; exact Nat.le_refl _
      refine wp_region_held_drew (S := (fun w' => w'.cell? ⟨bb, 0, none⟩ = some (.slice s.Ac s.nc s.cc) ∧ w'.cell? ⟨bb, 1, none⟩ = some (.slice s.Am s.nm s.cm) ∧ w'.cell? ⟨bb, 2, none⟩ = some (.slice s.Ae s.ne s.ce) ∧ w'.cell? ⟨bb + 1, 0, none⟩ = some (.int .i64 (p : Int)) ∧ w'.cell? ⟨bb + 1, 1, none⟩ = some (.int .i64 (d : Int)) ∧ w'.cell? ⟨bb + 1, 2, none⟩ = some (.slice I ni ci))) (by kernel_rfl) ⟨p0, p1, p2, p3, p4, p5⟩ (fun hHeld => ?_)
      refine tk_ 0 ?_ rfl ?_; refine tk_ 1 ?_ rfl ?_; refine tk_ 2 ?_ rfl ?_; refine tk_ 3 ?_ rfl ?_; refine tk_ 4 ?_ rfl ?_; refine tk_ 5 ?_ rfl ?_; refine tk_ 6 ?_ rfl ?_; refine tk_ 7 ?_ rfl ?_; refine tk_ 8 ?_ rfl ?_; refine tk_ 9 ?_ rfl ?_; refine tk_ 10 ?_ rfl ?_; refine tk_ 11 ?_ rfl ?_; refine tk_ 12 ?_ rfl ?_; refine tk_ 13 ?_ rfl ?_; refine tk_ 14 ?_ rfl ?_
      refine wpAnyH_ready (rs := [15, 19]) (by kernel_rfl) (by simp) ?_
      refine AllReadyH.cons rfl (fun K hK => ?_) (AllReadyH.cons rfl (fun K hK => ?_) AllReadyH.nil)
      · go_simp
        (refine (HJ.out _ (Kept.trans HK3.out (Kept.drew (Kept.refl w3)))).mono ?_; rintro e w1 ⟨Q, k, c, rfl, le1, i1, fr1, k1⟩; have I1 := Lib.hid i1; have FR1 := Lib.hid fr1; have K1 := Lib.hid (Kept.trans (Kept.drew (Kept.refl w3)) k1); have KC := Lib.hid k1; clear i1 fr1 k1)
        go_wp2_with fail
        refine hK.out _ _ ⟨Kept.cell K1.out p0, Kept.cell K1.out p1, Kept.cell K1.out p2, Kept.cell K1.out p3, Kept.cell K1.out p4, Kept.cell K1.out p5⟩ (fun hHeld => ?_)
        clear hK K
        (try simp only [Act.put, s1_, s2_, s3_, s4_, s5_, s6_])
        refine tk_ 16 ?_ rfl ?_; refine tk_ 17 ?_ rfl ?_; refine tk_ 18 ?_ rfl ?_
        refine rd_ 19 rfl (fun K hK => ?_)
        skip
        go_simp
        refine hK.out _ _ ⟨Kept.cell (Kept.alloc K1.out (Obj.cells #[Value.int IntKind.i64 0, Value.int IntKind.i64 0] 48)) p0, Kept.cell (Kept.alloc K1.out (Obj.cells #[Value.int IntKind.i64 0, Value.int IntKind.i64 0] 48)) p1, Kept.cell (Kept.alloc K1.out (Obj.cells #[Value.int IntKind.i64 0, Value.int IntKind.i64 0] 48)) p2, Kept.cell (Kept.alloc K1.out (Obj.cells #[Value.int IntKind.i64 0, Value.int IntKind.i64 0] 48)) p3, Kept.cell (Kept.alloc K1.out (Obj.cells #[Value.int IntKind.i64 0, Value.int IntKind.i64 0] 48)) p4, Kept.cell (Kept.alloc K1.out (Obj.cells #[Value.int IntKind.i64 0, Value.int IntKind.i64 0] 48)) p5⟩ (fun hHeld => ?_)
        clear hK K
        (try simp only [Act.put, s1_, s2_, s3_, s4_, s5_, s6_])
        refine tk_ 20 ?_ rfl ?_
        refine rd_ 21 rfl (fun K hK => ?_)
        skip
        go_simp
        refine hK.out _ _ ⟨Kept.cell (Kept.alloc K1.out (Obj.cells #[Value.int IntKind.i64 (lo : Int), Value.int IntKind.i64 (hi : Int)] 48)) p0, Kept.cell (Kept.alloc K1.out (Obj.cells #[Value.int IntKind.i64 (lo : Int), Value.int IntKind.i64 (hi : Int)] 48)) p1, Kept.cell (Kept.alloc K1.out (Obj.cells #[Value.int IntKind.i64 (lo : Int), Value.int IntKind.i64 (hi : Int)] 48)) p2, Kept.cell (Kept.alloc K1.out (Obj.cells #[Value.int IntKind.i64 (lo : Int), Value.int IntKind.i64 (hi : Int)] 48)) p3, Kept.cell (Kept.alloc K1.out (Obj.cells #[Value.int IntKind.i64 (lo : Int), Value.int IntKind.i64 (hi : Int)] 48)) p4, Kept.cell (Kept.alloc K1.out (Obj.cells #[Value.int IntKind.i64 (lo : Int), Value.int IntKind.i64 (hi : Int)] 48)) p5⟩ (fun hHeld => ?_)
        clear hK K
        (try simp only [Act.put, s1_, s2_, s3_, s4_, s5_, s6_])
        refine wpAnyH_done (by kernel_rfl) ?_ _
        have HN2 : Hid ((w1.alloc (Obj.cells #[Value.int IntKind.i64 (lo : Int), Value.int IntKind.i64 (hi : Int)] 48)).heap[w1.heap.size]? = some (Obj.cells #[Value.int IntKind.i64 (lo : Int), Value.int IntKind.i64 (hi : Int)] 48 (0, 0))) := Lib.hid (alloc_at rfl)
        have ZS := Lib.hid (alloc_lift (o := (Obj.cells #[Value.int IntKind.i64 (lo : Int), Value.int IntKind.i64 (hi : Int)] 48)) ((K1.out.block _ (block_lt HZ.out)).trans HZ.out))
        have HFN := Lib.hid (show ∀ x, Q = some x → w.heap.size ≤ x.block from fun x hx => by have h1 := FR1.out x hx; have h2 := HK3.out.size; simp at h1; omega)
        have I2 := Lib.hid (I1.out.kept (Kept.alloc (Kept.refl w1) (Obj.cells #[Value.int IntKind.i64 (lo : Int), Value.int IntKind.i64 (hi : Int)] 48)))
        have K2 := Lib.hid (Kept.trans HK3.out (Kept.alloc K1.out (Obj.cells #[Value.int IntKind.i64 (lo : Int), Value.int IntKind.i64 (hi : Int)] 48)))
        have HNE := Lib.hid (show w1.heap.size ≠ bb + 1 + 1 by have := K1.out.size; omega)
        have HFQ := Lib.hid (show ∀ x, Q = some x → x.block ≠ bb + 1 + 1 from fun x hx => by have := FR1.out x hx; simp at this; omega)
        generalize w1.alloc (Obj.cells #[Value.int IntKind.i64 (lo : Int), Value.int IntKind.i64 (hi : Int)] 48) = w2 at *
        generalize w1.heap.size = nn at *
        have hne : nn ≠ bb + 1 + 1 := HNE.out
        have hz := ZS.out
        have hn := HN2.out
        have z0 := cell_of_block (i := 0) hz rfl
        have z1 := cell_of_block (i := 1) hz rfl
        have y0 := frozen_of_block (i := 0) hz
        have y1 := frozen_of_block (i := 1) hz
        have n0 := cell_of_block (i := 0) hn rfl
        have n1 := cell_of_block (i := 1) hn rfl
        have hF := cells2_set hz (.int .i64 (lo : Int)) (.int .i64 (hi : Int))
        have g0 := cell_of_block (i := 0) hF rfl
        have g1 := cell_of_block (i := 1) hF rfl
        have hn2 := setCell_other (i := 1) (v := .int .i64 (hi : Int)) (setCell_other (i := 0) (v := .int .i64 (lo : Int)) hn (Ne.symm hne)) (Ne.symm hne)
        have q0 := cell_of_block (i := 0) hn2 rfl
        have q1 := cell_of_block (i := 1) hn2 rfl
        simp only [s4_, s5_, s6_] at z0 z1 n0 n1 g0 g1 q0 q1
        have G0 := Lib.hid g0
        have G1 := Lib.hid g1
        have Q0 := Lib.hid q0
        have Q1 := Lib.hid q1
        clear hz hn hF g0 g1 hn2 q0 q1
        go_wp2_with fail
        clear z0 z1 y0 y1
        refine wp_region_held_drew (S := (fun w' => w'.cell? ⟨nn, 0, none⟩ = some (.int .i64 (lo : Int)) ∧ w'.cell? ⟨nn, 1, none⟩ = some (.int .i64 (hi : Int)))) (by kernel_rfl) ⟨n0, n1⟩ (fun hHeld => ?_)
        refine tk_ 0 ?_ rfl ?_; refine tk_ 1 ?_ rfl ?_; refine tk_ 2 ?_ rfl ?_
        refine rd_ 3 rfl (fun K hK => ?_)
        have z0 := cell_of_block (w := w2) (i := 0) ZS.out rfl
        have z1 := cell_of_block (w := w2) (i := 1) ZS.out rfl
        have y0 := frozen_of_block (w := w2) (i := 0) ZS.out
        have y1 := frozen_of_block (w := w2) (i := 1) ZS.out
        simp only [s4_, s5_, s6_] at z0 z1
        go_simp
        refine hK.out _ _ ⟨Q0.out, Q1.out⟩ (fun hHeld => ?_)
        clear hK K
        (try simp only [Act.put, s1_, s2_, s3_, s4_, s5_, s6_])
        refine tk_ 4 ?_ rfl ?_
        refine wpAnyH_done (by kernel_rfl) ?_ _
        go_wp2_with fail
        have g0 := G0.out
        have g1 := G1.out
        clear z0 z1 y0 y1 n0 n1
        refine bodyPost_ret (v := .tuple #[.slice Q k c, .agg #[.int .i64 (lo : Int), .int .i64 (hi : Int)], .int .i64 0]) (by simp [results, Tryz.results13, go_sem, g0, g1]) rfl ?_
        have hkf := Kept.drew (Kept.setCell (Kept.setCell K2.out (p := ⟨bb + 1 + 1, 0, none⟩) (Nat.le_succ_of_le (Nat.le_succ_of_le hwb)) (.int .i64 (lo : Int))) (p := ⟨bb + 1 + 1, 1, none⟩) (Nat.le_succ_of_le (Nat.le_succ_of_le hwb)) (.int .i64 (hi : Int)))
        exact ⟨Q, k, c, rfl, le1, (Ints.sets (Ints.sets I2.out HFQ.out 0 _) HFQ.out 1 _).kept (Kept.drew (Kept.refl _)), HFN.out, hkf⟩
      · go_simp
        refine hK.out _ _ ⟨Kept.cell (Kept.alloc (Kept.drew (Kept.refl w3)) (Obj.cells #[Value.int IntKind.i64 0, Value.int IntKind.i64 0] 48)) p0, Kept.cell (Kept.alloc (Kept.drew (Kept.refl w3)) (Obj.cells #[Value.int IntKind.i64 0, Value.int IntKind.i64 0] 48)) p1, Kept.cell (Kept.alloc (Kept.drew (Kept.refl w3)) (Obj.cells #[Value.int IntKind.i64 0, Value.int IntKind.i64 0] 48)) p2, Kept.cell (Kept.alloc (Kept.drew (Kept.refl w3)) (Obj.cells #[Value.int IntKind.i64 0, Value.int IntKind.i64 0] 48)) p3, Kept.cell (Kept.alloc (Kept.drew (Kept.refl w3)) (Obj.cells #[Value.int IntKind.i64 0, Value.int IntKind.i64 0] 48)) p4, Kept.cell (Kept.alloc (Kept.drew (Kept.refl w3)) (Obj.cells #[Value.int IntKind.i64 0, Value.int IntKind.i64 0] 48)) p5⟩ (fun hHeld => ?_)
        clear hK K
        (try simp only [Act.put, s1_, s2_, s3_, s4_, s5_, s6_])
        refine rd_ 15 rfl (fun K hK => ?_)
        go_simp
        (refine (HJ.out _ (Kept.trans HK3.out (Kept.alloc (Kept.drew (Kept.refl w3)) (Obj.cells #[Value.int IntKind.i64 0, Value.int IntKind.i64 0] 48)))).mono ?_; rintro e w1 ⟨Q, k, c, rfl, le1, i1, fr1, k1⟩; have I1 := Lib.hid i1; have FR1 := Lib.hid fr1; have K1 := Lib.hid (Kept.trans (Kept.alloc (Kept.drew (Kept.refl w3)) (Obj.cells #[Value.int IntKind.i64 0, Value.int IntKind.i64 0] 48)) k1); have KC := Lib.hid k1; clear i1 fr1 k1)
        go_wp2_with fail
        refine hK.out _ _ ⟨Kept.cell K1.out p0, Kept.cell K1.out p1, Kept.cell K1.out p2, Kept.cell K1.out p3, Kept.cell K1.out p4, Kept.cell K1.out p5⟩ (fun hHeld => ?_)
        clear hK K
        (try simp only [Act.put, s1_, s2_, s3_, s4_, s5_, s6_])
        refine tk_ 16 ?_ rfl ?_; refine tk_ 17 ?_ rfl ?_; refine tk_ 18 ?_ rfl ?_; refine tk_ 20 ?_ rfl ?_
        refine rd_ 21 rfl (fun K hK => ?_)
        have hal := (KC.out.block w3.heap.size (by simp)).trans (alloc_at (W := w3.drew) (o := (Obj.cells #[Value.int IntKind.i64 0, Value.int IntKind.i64 0] 48)) rfl)
        have x0 := cell_of_block (i := 0) hal rfl
        have x1 := cell_of_block (i := 1) hal rfl
        have y0 := frozen_of_block (i := 0) hal
        have y1 := frozen_of_block (i := 1) hal
        simp only [s4_, s5_, s6_] at x0 x1
        have HAL := Lib.hid hal
        clear hal
        go_simp
        refine hK.out _ _ ⟨Kept.cell (Kept.setCell (Kept.setCell K1.out (p := ⟨w3.heap.size, 0, none⟩) (Nat.le_refl _) (.int .i64 (lo : Int))) (p := ⟨w3.heap.size, 1, none⟩) (Nat.le_refl _) (.int .i64 (hi : Int))) p0, Kept.cell (Kept.setCell (Kept.setCell K1.out (p := ⟨w3.heap.size, 0, none⟩) (Nat.le_refl _) (.int .i64 (lo : Int))) (p := ⟨w3.heap.size, 1, none⟩) (Nat.le_refl _) (.int .i64 (hi : Int))) p1, Kept.cell (Kept.setCell (Kept.setCell K1.out (p := ⟨w3.heap.size, 0, none⟩) (Nat.le_refl _) (.int .i64 (lo : Int))) (p := ⟨w3.heap.size, 1, none⟩) (Nat.le_refl _) (.int .i64 (hi : Int))) p2, Kept.cell (Kept.setCell (Kept.setCell K1.out (p := ⟨w3.heap.size, 0, none⟩) (Nat.le_refl _) (.int .i64 (lo : Int))) (p := ⟨w3.heap.size, 1, none⟩) (Nat.le_refl _) (.int .i64 (hi : Int))) p3, Kept.cell (Kept.setCell (Kept.setCell K1.out (p := ⟨w3.heap.size, 0, none⟩) (Nat.le_refl _) (.int .i64 (lo : Int))) (p := ⟨w3.heap.size, 1, none⟩) (Nat.le_refl _) (.int .i64 (hi : Int))) p4, Kept.cell (Kept.setCell (Kept.setCell K1.out (p := ⟨w3.heap.size, 0, none⟩) (Nat.le_refl _) (.int .i64 (lo : Int))) (p := ⟨w3.heap.size, 1, none⟩) (Nat.le_refl _) (.int .i64 (hi : Int))) p5⟩ (fun hHeld => ?_)
        clear hK K
        (try simp only [Act.put, s1_, s2_, s3_, s4_, s5_, s6_])
        refine wpAnyH_done (by kernel_rfl) ?_ _
        clear x0 x1 y0 y1
        have HNE0 : w3.heap.size ≠ bb + 1 + 1 := by omega
        have HN2 := Lib.hid (cells2_set HAL.out (.int .i64 (lo : Int)) (.int .i64 (hi : Int)))
        have ZS := Lib.hid (setCell_other (i := 1) (v := (.int .i64 (hi : Int))) (setCell_other (i := 0) (v := (.int .i64 (lo : Int))) ((K1.out.block _ (block_lt HZ.out)).trans HZ.out) HNE0) HNE0)
        have hfn : ∀ x, Q = some x → x.block ≠ w3.heap.size := fun x hx => by have := FR1.out x hx; simp at this; omega
        have HFQ := Lib.hid (show ∀ x, Q = some x → x.block ≠ bb + 1 + 1 from fun x hx => by have := FR1.out x hx; simp at this; omega)
        have HFN := Lib.hid (show ∀ x, Q = some x → w.heap.size ≤ x.block from fun x hx => by have h1 := FR1.out x hx; have h2 := HK3.out.size; simp at h1; omega)
        have I2 := Lib.hid (Ints.sets (Ints.sets I1.out hfn 0 (.int .i64 (lo : Int))) hfn 1 (.int .i64 (hi : Int)))
        have K2 := Lib.hid (Kept.trans HK3.out (Kept.setCell (Kept.setCell K1.out (p := ⟨w3.heap.size, 0, none⟩) (Nat.le_refl _) (.int .i64 (lo : Int))) (p := ⟨w3.heap.size, 1, none⟩) (Nat.le_refl _) (.int .i64 (hi : Int))))
        have HNE := Lib.hid HNE0
        clear HNE0 hfn
        generalize ((w1.setCell ⟨w3.heap.size, 0, none⟩ (.int .i64 (lo : Int))).setCell ⟨w3.heap.size, 1, none⟩ (.int .i64 (hi : Int))) = w2 at *
        generalize w3.heap.size = nn at *
        have hne : nn ≠ bb + 1 + 1 := HNE.out
        have hz := ZS.out
        have hn := HN2.out
        have z0 := cell_of_block (i := 0) hz rfl
        have z1 := cell_of_block (i := 1) hz rfl
        have y0 := frozen_of_block (i := 0) hz
        have y1 := frozen_of_block (i := 1) hz
        have n0 := cell_of_block (i := 0) hn rfl
        have n1 := cell_of_block (i := 1) hn rfl
        have hF := cells2_set hz (.int .i64 (lo : Int)) (.int .i64 (hi : Int))
        have g0 := cell_of_block (i := 0) hF rfl
        have g1 := cell_of_block (i := 1) hF rfl
        have hn2 := setCell_other (i := 1) (v := .int .i64 (hi : Int)) (setCell_other (i := 0) (v := .int .i64 (lo : Int)) hn (Ne.symm hne)) (Ne.symm hne)
        have q0 := cell_of_block (i := 0) hn2 rfl
        have q1 := cell_of_block (i := 1) hn2 rfl
        simp only [s4_, s5_, s6_] at z0 z1 n0 n1 g0 g1 q0 q1
        have G0 := Lib.hid g0
        have G1 := Lib.hid g1
        have Q0 := Lib.hid q0
        have Q1 := Lib.hid q1
        clear hz hn hF g0 g1 hn2 q0 q1
        go_wp2_with fail
        clear z0 z1 y0 y1
        refine wp_region_held_drew (S := (fun w' => w'.cell? ⟨nn, 0, none⟩ = some (.int .i64 (lo : Int)) ∧ w'.cell? ⟨nn, 1, none⟩ = some (.int .i64 (hi : Int)))) (by kernel_rfl) ⟨n0, n1⟩ (fun hHeld => ?_)
        refine tk_ 0 ?_ rfl ?_; refine tk_ 1 ?_ rfl ?_; refine tk_ 2 ?_ rfl ?_
        refine rd_ 3 rfl (fun K hK => ?_)
        have z0 := cell_of_block (w := w2) (i := 0) ZS.out rfl
        have z1 := cell_of_block (w := w2) (i := 1) ZS.out rfl
        have y0 := frozen_of_block (w := w2) (i := 0) ZS.out
        have y1 := frozen_of_block (w := w2) (i := 1) ZS.out
        simp only [s4_, s5_, s6_] at z0 z1
        go_simp
        refine hK.out _ _ ⟨Q0.out, Q1.out⟩ (fun hHeld => ?_)
        clear hK K
        (try simp only [Act.put, s1_, s2_, s3_, s4_, s5_, s6_])
        refine tk_ 4 ?_ rfl ?_
        refine wpAnyH_done (by kernel_rfl) ?_ _
        go_wp2_with fail
        have g0 := G0.out
        have g1 := G1.out
        clear z0 z1 y0 y1 n0 n1
        refine bodyPost_ret (v := .tuple #[.slice Q k c, .agg #[.int .i64 (lo : Int), .int .i64 (hi : Int)], .int .i64 0]) (by simp [results, Tryz.results13, go_sem, g0, g1]) rfl ?_
        have hkf := Kept.drew (Kept.setCell (Kept.setCell K2.out (p := ⟨bb + 1 + 1, 0, none⟩) (Nat.le_succ_of_le (Nat.le_succ_of_le hwb)) (.int .i64 (lo : Int))) (p := ⟨bb + 1 + 1, 1, none⟩) (Nat.le_succ_of_le (Nat.le_succ_of_le hwb)) (.int .i64 (hi : Int)))
        exact ⟨Q, k, c, rfl, le1, (Ints.sets (Ints.sets I2.out HFQ.out 0 _) HFQ.out 1 _).kept (Kept.drew (Kept.refl _)), HFN.out, hkf⟩
  · have HF := Lib.hid hf
    have h1 : (form == 1) = false := by simp; omega
    have h2 : (form == 2) = false := by simp; omega
    have h3 : (form == 3) = false := by simp; omega
    have h4 : (form == 4) = false := by simp; omega
    clear hf
    unfold Sls.val at *
    go_enter Tryz.func13, Tryz.ntmps13
    go_wp2_with fail
    have g0 := G0.out
    have g1 := G1.out
    refine bodyPost_ret (v := .tuple #[.slice none 0 0, .agg #[.int .i64 0, .int .i64 0], .int .i64 8]) (by simp [results, Tryz.results13, go_sem, g0, g1]) rfl ?_
    unfold RetRepl
    rw [if_pos HF.out]
    exact ⟨rfl, HK3.out⟩
end Go.Proofs.YtckgmkjoblneeaaGreatDoor
