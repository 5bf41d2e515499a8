/- The reference's stream. -/
import Derived.Test.YtomgchfjachedaaGreatDoorKSq
import Derived.Test.YtomgchfjachedaaGreatDoorKRfz
import Derived.Test.YtomgchfjachedaaGreatDoorKRga
import Derived.Test.YtomgchfjachedaaGreatDoorKRfl
import Derived.Test.YtomgchfjachedaaGreatDoorKPl60
import Derived.Test.YtomgchfjachedaaGreatDoorKApp
import Derived.Test.YtomgchfjachedaaGreatDoorKFar
namespace Go.Proofs.YtomgchfjachedaaGreatDoor
open Go Go.RowKit
set_option maxRecDepth 100000 in
set_option maxHeartbeats 4000000 in
theorem r25Last (s : Sls) (n : Nrm) (form : Int) (A : Option Addr) (nt ct : Nat) (text : List Int) (w : World) (hN : NormAt w s n) (htag : ∀ m ∈ n.decomp, m.tag.size ≤ 1000) (hnt : nt ≤ 1000) (hT : Ints w A nt text) :
    Calls Tryz.prog 62 #[s.val, .int .i64 form, .slice A nt ct] w (RetI w (lastBd (boundB n form) text : Nat)) := by
  have hk0_ := Kept.alloc (Kept.refl w) (Obj.cells #[Value.slice s.Ac s.nc s.cc, Value.slice s.Am s.nm s.cm, Value.slice s.Ae s.ne s.ce] 28)
  have HK1 := Lib.hid hk0_
  have hb0_ := (box_block w (Obj.cells #[Value.slice s.Ac s.nc s.cc, Value.slice s.Am s.nm s.cm, Value.slice s.Ae s.ne s.ce] 28))
  have x0_ := cell_of_block (i := 0) hb0_ rfl
  have x1_ := cell_of_block (i := 1) hb0_ rfl
  have x2_ := cell_of_block (i := 2) hb0_ rfl
  simp only [s4_, s5_, s6_] at x0_ x1_ x2_
  have HX0 := Lib.hid x0_
  have HX1 := Lib.hid x1_
  have HX2 := Lib.hid x2_
  have HB0 := Lib.hid hb0_
  clear x0_ x1_ x2_ hb0_
  have HBO := Lib.hid (fun x w' (hk : Kept w w') => r24Boundary s n form x w' (hN.kept hk) htag)
  have HT := Lib.hid hT
  have HTN := Lib.hid hT.1
  clear hN htag hT hk0_
  have hw0 : IntKind.i64.wrap ((nt : Int) - 1) = (nt : Int) - 1 := IntWalk.i64_in _ (by omega)
  have hw0' : wrap64 ((nt : Int) - 1) = (nt : Int) - 1 := IntWalk.wrap64_in _ (by omega)
  unfold Sls.val at *
  go_enter Tryz.func62, Tryz.ntmps62
  go_wp2_with fail
  clear hw0 hw0'
  go_loopw [7] (fun i wr => ∃ j : Int, i = .int .i64 j ∧ -1 ≤ j ∧ j < nt ∧ (∀ (q : Nat) (d : Int), j < q → text[q]? = some d → boundB n form d = false) ∧ Kept (w.alloc (Obj.cells #[Value.slice s.Ac s.nc s.cc, Value.slice s.Am s.nm s.cm, Value.slice s.Ae s.ne s.ce] 28)) wr) (fun i _ => (intOf i).toNat)
  case atStart => exact ⟨_, rfl, by omega, by omega, fun q d hq hd => by have := lt_of_getElem?_some hd; have := HTN.out; omega, Kept.refl _⟩
  case round =>
    obtain ⟨j, rfl, hj1, hj2, hno, hkr⟩ := hrel
    have HNO := Lib.hid hno
    have KR := Lib.hid hkr
    clear hno hkr
    by_cases hj0 : 0 < j
    · obtain ⟨k, rfl⟩ := Int.eq_ofNat_of_zero_le (show 0 ≤ j by omega)
      have hkn : k < nt := by omega
      obtain ⟨b, off, x, rfl, hx, cx⟩ := int_at (HT.out.kept (Kept.trans HK1.out KR.out)) hkn
      have HBX := Lib.hid (fun w' hk => HBO.out x w' hk)
      have HXX := Lib.hid hx
      have HBB := Lib.hid (show ∀ y, y = boundB n form x → y = boundB n form x from fun _ h => h)
      obtain ⟨bb, hbb⟩ : ∃ bb, bb = boundB n form x := ⟨_, rfl⟩
      have HB := Lib.hid hbb
      rw [← hbb] at HBX
      have hw1 : IntKind.i64.wrap ((k : Int) - 1) = (k : Int) - 1 := IntWalk.i64_in _ (by omega)
      have hw2 : wrap64 ((k : Int) - 1) = (k : Int) - 1 := IntWalk.wrap64_in _ (by omega)
      clear hx hbb HBB
      cases bb
      · skip
        have q0 := Kept.cell KR.out HX0.out
        have q1 := Kept.cell KR.out HX1.out
        have q2 := Kept.cell KR.out HX2.out
        have q3 := cx
        go_wp2_with fail
        refine wp_region_held_drew (S := (fun w' => w'.cell? ⟨w.heap.size, 0, none⟩ = some (.slice s.Ac s.nc s.cc) ∧ w'.cell? ⟨w.heap.size, 1, none⟩ = some (.slice s.Am s.nm s.cm) ∧ w'.cell? ⟨w.heap.size, 2, none⟩ = some (.slice s.Ae s.ne s.ce) ∧ w'.cell? ⟨b, off + k, none⟩ = some (.int .i64 x))) (by kernel_rfl) ⟨q0, q1, q2, q3⟩ (fun hHeld => ?_)
        refine tk_ 0 ?_ rfl ?_; refine tk_ 1 ?_ rfl ?_; refine tk_ 2 ?_ rfl ?_; refine tk_ 3 ?_ rfl ?_; refine tk_ 4 ?_ rfl ?_; refine tk_ 5 ?_ rfl ?_
        refine rd_ 6 rfl (fun K hK => ?_)
        go_simp
        (refine (HBX.out _ (Kept.trans HK1.out (Kept.trans KR.out (Kept.drew (Kept.refl wr))))).mono ?_; rintro e w6 ⟨rfl, k6⟩; have K6 := Lib.hid (Kept.trans (Kept.drew (Kept.refl wr)) k6); clear k6)
        go_wp2_with fail
        refine hK.out _ _ ⟨Kept.cell K6.out q0, Kept.cell K6.out q1, Kept.cell K6.out q2, Kept.cell K6.out q3⟩ (fun hHeld => ?_)
        clear hK K
        (try simp only [Act.put, s1_, s2_, s3_, s4_, s5_, s6_])
        refine wpAnyH_done (by kernel_rfl) ?_ _
        clear q0 q1 q2 q3
        go_wp2_with fail
        go_roundw
        case rel => exact ⟨(k : Int) - 1, by first | rfl | go_num, by omega, by omega, fun q d hq hd => by
          by_cases hqk : q = k
          · subst hqk; rw [HXX.out] at hd; injection hd with hd; rw [← hd, ← HB.out]
          · exact HNO.out q d (by omega) hd, Kept.trans KR.out K6.out⟩
        case measure => simp [intOf]; omega
      · skip
        have q0 := Kept.cell KR.out HX0.out
        have q1 := Kept.cell KR.out HX1.out
        have q2 := Kept.cell KR.out HX2.out
        have q3 := cx
        go_wp2_with fail
        refine wp_region_held_drew (S := (fun w' => w'.cell? ⟨w.heap.size, 0, none⟩ = some (.slice s.Ac s.nc s.cc) ∧ w'.cell? ⟨w.heap.size, 1, none⟩ = some (.slice s.Am s.nm s.cm) ∧ w'.cell? ⟨w.heap.size, 2, none⟩ = some (.slice s.Ae s.ne s.ce) ∧ w'.cell? ⟨b, off + k, none⟩ = some (.int .i64 x))) (by kernel_rfl) ⟨q0, q1, q2, q3⟩ (fun hHeld => ?_)
        refine tk_ 0 ?_ rfl ?_; refine tk_ 1 ?_ rfl ?_; refine tk_ 2 ?_ rfl ?_; refine tk_ 3 ?_ rfl ?_; refine tk_ 4 ?_ rfl ?_; refine tk_ 5 ?_ rfl ?_
        refine rd_ 6 rfl (fun K hK => ?_)
        go_simp
        (refine (HBX.out _ (Kept.trans HK1.out (Kept.trans KR.out (Kept.drew (Kept.refl wr))))).mono ?_; rintro e w6 ⟨rfl, k6⟩; have K6 := Lib.hid (Kept.trans (Kept.drew (Kept.refl wr)) k6); clear k6)
        go_wp2_with fail
        refine hK.out _ _ ⟨Kept.cell K6.out q0, Kept.cell K6.out q1, Kept.cell K6.out q2, Kept.cell K6.out q3⟩ (fun hHeld => ?_)
        clear hK K
        (try simp only [Act.put, s1_, s2_, s3_, s4_, s5_, s6_])
        refine wpAnyH_done (by kernel_rfl) ?_ _
        clear q0 q1 q2 q3
        go_wp2_with fail
        go_ret
        exact ⟨ret_int (by rw [lastBd_at (by omega) HXX.out HB.out.symm (fun q d hq hd => HNO.out q d (by omega) hd)]), Kept.trans HK1.out (Kept.trans KR.out K6.out)⟩
    · have HR := Lib.hid (lastBd_none (p := boundB n form) (t := text) (fun q d hq hd => HNO.out q d (by omega) hd))
      go_wp2_with fail
      go_ret
      exact ⟨ret_int (by rw [HR.out]; rfl), Kept.trans HK1.out KR.out⟩
structure RfAt (w : World) (b : Nat) (n : Nrm) (form : Int) (s : Sls) (wait : List Int) (A : Option Addr) (k c : Nat) : Prop where
  cell : w.heap[b]? = some (.cells #[.slice s.Ac s.nc s.cc, .slice s.Am s.nm s.cm, .slice s.Ae s.ne s.ce, .int .i64 form, .slice A k c, .bool true] 93 (0, 0))
  le : k ≤ c
  ints : Ints w A k wait
  ne : 0 < k → ∀ a, A = some a → a.block ≠ b
theorem own_formR {w : World} {base : Nat} {v : Value} {xs : List Int} (h : OwnI w base v xs) : ∃ A n c, v = .slice A n c := by
  obtain ⟨A, c, e, _⟩ := OwnI.sl h
  exact ⟨A, _, c, e⟩
theorem dropA_far {A : Option Addr} {m k B : Nat} {a : Addr} (h : ∀ a, A = some a → B ≤ a.block) (ha : dropA A m k = some a) : B ≤ a.block := by
  unfold dropA at ha
  split at ha
  · exact h a ha
  · cases A with
    | none => cases ha
    | some q =>
      simp only [Option.map_some, Option.some.injEq] at ha
      have := h q rfl
      subst ha
      unfold Addr.add
      split <;> simpa using this
theorem Ints.setOther {w : World} {p : Addr} {u : Value} {A : Option Addr} {n : Nat} {xs : List Int} (h : Ints w A n xs) (hc : w.cell? p = some u) (hu : ∀ x, u ≠ .int .i64 x) (v : Value) : Ints (w.setCell p v) A n xs :=
  ⟨h.1, fun hn => by
    obtain ⟨b, off, e, hcs⟩ := h.2 hn
    refine ⟨b, off, e, fun i x hx j y hy => ?_⟩
    have h1 := hcs i x hx j y hy
    have hy2 : y = .int .i64 x := by
      have hj := lt_of_getElem?_some hy
      simp [encI] at hj
      subst hj
      simpa [encI] using hy.symm
    refine (World.cell?_setCell_other w p ⟨b, off + i * 1 + j, none⟩ v (fun e2 => ?_)).trans h1
    rw [e2, h1] at hc
    injection hc with hc
    exact hu x (by rw [← hc, hy2])⟩
theorem KeptBut.dropW {S : List Nat} {a w w' : World} (h : Kept a w) (k : KeptBut S w w') (hb : ∀ b ∈ S, a.heap.size ≤ b) : Kept a w' := KeptBut.dropK ((h.but S).trans k) hb
def RfOff (w : World) (b : Nat) : Prop := ∃ v0 v1 v2 v3, w.heap[b]? = some (.cells #[v0, v1, v2, v3, .slice none 0 0, .bool false] 93 (0, 0))
def RetRS (w : World) (n : Nrm) (form : Int) (s : Sls) (e : Ending) (w' : World) : Prop :=
  if form < 1 ∨ 4 < form then e = .returned (.tuple #[.pointer none, .int .i64 8]) ∧ Kept w w' else
  if decCheck n = 0 then ∃ b, e = .returned (.tuple #[.pointer (some ⟨b, 0, none⟩), .int .i64 0]) ∧ w.heap.size ≤ b ∧ RfAt w' b n form s [] none 0 0 ∧ Kept w w' else
  e = .returned (.tuple #[.pointer none, .int .i64 11]) ∧ Kept w w'
theorem cells6_set4r {w : World} {b : Nat} {v0 v1 v2 v3 v4 v5 : Value} {t : TypeId} (h : w.heap[b]? = some (.cells #[v0, v1, v2, v3, v4, v5] t (0, 0))) (a4 : Value) :
    (w.setCell ⟨b, 4, none⟩ a4).heap[b]? = some (.cells #[v0, v1, v2, v3, a4, v5] t (0, 0)) := by
  simp [World.setCell, Array.getElem?_modify, h]
theorem cells6_set5r {w : World} {b : Nat} {v0 v1 v2 v3 v4 v5 : Value} {t : TypeId} (h : w.heap[b]? = some (.cells #[v0, v1, v2, v3, v4, v5] t (0, 0))) (a5 : Value) :
    (w.setCell ⟨b, 5, none⟩ a5).heap[b]? = some (.cells #[v0, v1, v2, v3, v4, a5] t (0, 0)) := by
  simp [World.setCell, Array.getElem?_modify, h]
set_option maxRecDepth 100000 in
set_option maxHeartbeats 2000000 in
theorem r25New (s : Sls) (n : Nrm) (form : Int) (w : World) (hN : NormAt w s n) (htag : ∀ m ∈ n.decomp, m.tag.size ≤ 1000) : Calls Tryz.prog 24 #[s.val, .int .i64 form] w (RetRS w n form s) := by
  have hk1 := Kept.alloc (Kept.refl w) (Obj.cells #[Value.slice s.Ac s.nc s.cc, Value.slice s.Am s.nm s.cm, Value.slice s.Ae s.ne s.ce] 28)
  have hbx := box_cell w #[Value.slice s.Ac s.nc s.cc, Value.slice s.Am s.nm s.cm, Value.slice s.Ae s.ne s.ce] 28
  have x0 := hbx 0
  have x1 := hbx 1
  have x2 := hbx 2
  simp only [List.getElem?_toArray, List.getElem?_cons_zero, List.getElem?_cons_succ] at x0 x1 x2
  have HX0 := Lib.hid x0
  have HX1 := Lib.hid x1
  have HX2 := Lib.hid x2
  have HC := Lib.hid (r21check s n _ (hN.kept hk1) htag)
  rw [refCheck_eq] at HC
  have HK1 := Lib.hid hk1
  clear hN htag hk1 hbx
  by_cases hf : form < 1 ∨ 4 < form
  · have HDE := Lib.hid (show RetRS w n form s = fun e w' => e = .returned (.tuple #[.pointer none, .int .i64 8]) ∧ Kept w w' from by funext e w'; unfold RetRS; rw [if_pos hf])
    rw [HDE.out]
    rcases hf with hf | hf
    · unfold Sls.val at *
      go_enter Tryz.func24, Tryz.ntmps24
      go_wp2_with fail
      go_ret2
      exact ⟨rfl, HK1.out⟩
    · have hf2 : ¬ form < 1 := by omega
      unfold Sls.val at *
      go_enter Tryz.func24, Tryz.ntmps24
      go_wp2_with fail
      go_ret2
      exact ⟨rfl, HK1.out⟩
  · have hf1 : ¬ form < 1 := by omega
    have hf2 : ¬ 4 < form := by omega
    have HF := Lib.hid hf
    clear hf
    by_cases hd : decCheck n = 0
    · have HD := Lib.hid hd
      rw [hd] at HC
      clear hd
      unfold Sls.val at *
      go_enter Tryz.func24, Tryz.ntmps24
      go_wp2_with fail
      refine HC.out.mono ?_
      rintro e w1 ⟨rfl, k1⟩
      have q0 := Kept.cell k1 HX0.out
      have q1 := Kept.cell k1 HX1.out
      have q2 := Kept.cell k1 HX2.out
      have K1 := Lib.hid (Kept.trans HK1.out k1)
      clear k1
      go_wp2_with fail
      go_ret2
      unfold RetRS
      rw [if_neg HF.out, if_pos HD.out]
      exact ⟨_, rfl, K1.out.size, ⟨heap_alloc_new _ _, Nat.le_refl _, Sl.nil, fun h => by omega⟩, Kept.alloc K1.out _⟩
    · have hb0 : (decCheck n == 0) = false := by simp [hd]
      have HDE := Lib.hid (show RetRS w n form s = fun e w' => e = .returned (.tuple #[.pointer none, .int .i64 11]) ∧ Kept w w' from by funext e w'; unfold RetRS; rw [if_neg HF.out, if_neg hd])
      rw [HDE.out]
      clear hd
      generalize decCheck n = d at *
      unfold Sls.val at *
      go_enter Tryz.func24, Tryz.ntmps24
      go_wp2_with fail
      refine HC.out.mono ?_
      rintro e w1 ⟨rfl, k1⟩
      go_wp2_with fail
      go_ret2
      exact ⟨rfl, Kept.trans HK1.out k1⟩
set_option maxRecDepth 100000 in
set_option maxHeartbeats 1000000 in
theorem r25Pending {b : Nat} {n : Nrm} {form : Int} {s : Sls} {wait : List Int} {A : Option Addr} {k c : Nat} (w : World) (h : RfAt w b n form s wait A k c) :
    Calls Tryz.prog 31 #[.pointer (some ⟨b, 0, none⟩)] w fun e w' => e = .returned (.slice A k c) ∧ w' = w := by
  have p4 := cell_of_block (i := 4) h.cell rfl
  simp only [s4_, s5_, s6_] at p4
  clear h
  go_enter Tryz.func31, Tryz.ntmps31
  go_wp2
  go_ret
  exact ⟨rfl, rfl⟩
def RetRC (w : World) (b : Nat) (n : Nrm) (form : Int) (wait : List Int) (e : Ending) (w' : World) : Prop :=
  ∃ (A : Option Addr) (m c : Nat), e = .returned (.tuple #[.slice A m c, .int .i64 0]) ∧ m ≤ c ∧ Ints w' A m (formOf n form wait) ∧ RfOff w' b ∧ KeptBut [b] w w'
set_option maxRecDepth 100000 in
set_option maxHeartbeats 4000000 in
theorem r25Close {b : Nat} {n : Nrm} {form : Int} {s : Sls} {wait : List Int} {A : Option Addr} {k c : Nat} (w wd : World) (h : RfAt w b n form s wait A k c) (hD : NormAt wd s n) (hkw : Kept wd w) (htag : ∀ m ∈ n.decomp, m.tag.size ≤ 1000) (hk : k ≤ 1000) :
    Calls Tryz.prog 32 #[.pointer (some ⟨b, 0, none⟩)] w (RetRC w b n form wait) := by
  have hN := hD.kept hkw
  have HFO := Lib.hid (fun w' (hk1 : Kept w w') => r23form s n form A k c wait w' (hN.kept hk1) htag hk (h.ints.kept hk1))
  have p0 := cell_of_block (i := 0) h.cell rfl
  have p1 := cell_of_block (i := 1) h.cell rfl
  have p2 := cell_of_block (i := 2) h.cell rfl
  have p3 := cell_of_block (i := 3) h.cell rfl
  have p4 := cell_of_block (i := 4) h.cell rfl
  have p5 := cell_of_block (i := 5) h.cell rfl
  simp only [s4_, s5_, s6_] at p0 p1 p2 p3 p4 p5
  have HP := Lib.hid (And.intro p0 (And.intro p1 (And.intro p2 (And.intro p3 p4))))
  have HB := Lib.hid h.cell
  clear h hN htag hD
  go_enter Tryz.func32, Tryz.ntmps32
  go_wp2_with fail
  refine wp_region_held_drew (S := (fun w' => w'.cell? ⟨b, 0, none⟩ = some (.slice s.Ac s.nc s.cc) ∧ w'.cell? ⟨b, 1, none⟩ = some (.slice s.Am s.nm s.cm) ∧ w'.cell? ⟨b, 2, none⟩ = some (.slice s.Ae s.ne s.ce) ∧ w'.cell? ⟨b, 3, none⟩ = some (.int .i64 form) ∧ w'.cell? ⟨b, 4, none⟩ = some (.slice A k c))) (by kernel_rfl) ⟨p0, p1, p2, p3, p4⟩ (fun hHeld => ?_)
  refine tk_ 0 ?_ rfl ?_; refine tk_ 1 ?_ rfl ?_; refine tk_ 2 ?_ rfl ?_; refine tk_ 3 ?_ rfl ?_; refine tk_ 4 ?_ rfl ?_; refine tk_ 5 ?_ rfl ?_; refine tk_ 6 ?_ rfl ?_; refine tk_ 7 ?_ rfl ?_; refine tk_ 8 ?_ rfl ?_; refine tk_ 9 ?_ rfl ?_; refine tk_ 10 ?_ rfl ?_; refine tk_ 11 ?_ rfl ?_
  refine rd_ 12 rfl (fun K hK => ?_)
  go_simp
  (refine (HFO.out _ (Kept.drew (Kept.refl w))).mono ?_; rintro e w6 ⟨A6, n6, c6, rfl, le6, i6, k6⟩; have I6 := Lib.hid i6; have K6 := Lib.hid (Kept.trans (Kept.drew (Kept.refl w)) k6); clear i6 k6)
  go_wp2_with fail
  refine hK.out _ _ ⟨Kept.cell K6.out HP.out.1, Kept.cell K6.out HP.out.2.1, Kept.cell K6.out HP.out.2.2.1, Kept.cell K6.out HP.out.2.2.2.1, Kept.cell K6.out HP.out.2.2.2.2⟩ (fun hHeld => ?_)
  clear hK K
  (try simp only [Act.put, s1_, s2_, s3_, s4_, s5_, s6_])
  refine tk_ 13 ?_ rfl ?_
  refine wpAnyH_done (by kernel_rfl) ?_ _
  clear p0 p1 p2 p3 p4 p5
  have hb6 := (K6.out.block b (block_lt HB.out)).trans HB.out
  have hb7 := cells6_set5r hb6 (.bool false)
  have hb8 := cells6_set4r hb7 (.slice none 0 0)
  have HB8 := Lib.hid hb8
  have e5 := cell_of_block (i := 5) hb6 rfl
  have f5 := frozen_of_block (i := 5) hb6
  have e4 := cell_of_block (i := 4) hb7 rfl
  have f4 := frozen_of_block (i := 4) hb7
  simp only [s4_, s5_, s6_] at e4 e5
  have KZ := Lib.hid (show KeptBut [b] w6 ((w6.setCell ⟨b, 5, none⟩ (.bool false)).setCell ⟨b, 4, none⟩ (.slice none 0 0)) from KeptBut.trans (KeptBut.setCell w6 (by simp) _) (KeptBut.setCell _ (by simp) _))
  have HI8 := Lib.hid (Ints.setOther (Ints.setOther I6.out e5 (fun x h => by cases h) (.bool false)) e4 (fun x h => by cases h) (.slice none 0 0))
  clear hb6 hb7 hb8
  go_wp2_with fail
  go_ret2
  exact ⟨A6, n6, c6, rfl, le6, HI8.out, ⟨_, _, _, _, HB8.out⟩, KeptBut.trans (K6.out.but [b]) KZ.out⟩
def RetRW (w : World) (b : Nat) (n : Nrm) (form : Int) (s : Sls) (wait text : List Int) (e : Ending) (w' : World) : Prop :=
  ∃ (A : Option Addr) (m c : Nat) (A2 : Option Addr) (k2 c2 : Nat), e = .returned (.tuple #[.slice A m c, .int .i64 0]) ∧ m ≤ c ∧ Ints w' A m (wrOut n form wait text) ∧ RfAt w' b n form s (wrPend (boundB n form) wait text) A2 k2 c2 ∧ (∀ a, A2 = some a → w.heap.size ≤ a.block) ∧ KeptBut [b] w w'
set_option maxRecDepth 100000 in
set_option maxHeartbeats 8000000 in
theorem r25Write {b : Nat} {n : Nrm} {form : Int} {s : Sls} {wait : List Int} {A : Option Addr} {k c : Nat} (At : Option Addr) (nt ct : Nat) (text : List Int) (w wd : World) (h : RfAt w b n form s wait A k c) (hD : NormAt wd s n) (hkw : Kept wd w) (hbd : wd.heap.size ≤ b) (htag : ∀ m ∈ n.decomp, m.tag.size ≤ 1000) (hk : k ≤ 500) (hnt : nt ≤ 100) (hT : Ints w At nt text) (hl : lastBd (boundB n form) wait = 0) :
    Calls Tryz.prog 29 #[.pointer (some ⟨b, 0, none⟩), .slice At nt ct] w (RetRW w b n form s wait text) := by
  have HLS := Lib.hid (last_step text hl)
  have HL0 := Lib.hid (lastBd_spec (boundB n form) (wait ++ text).length (wait ++ text) rfl).1
  have hN := hD.kept hkw
  have HN := Lib.hid hN
  have HD := Lib.hid (fun w' (hk1 : Kept wd w') => hD.kept hk1)
  have HKD := Lib.hid hkw
  have HBD := Lib.hid hbd
  have HTG := Lib.hid htag
  have HT := Lib.hid hT
  have HTN := Lib.hid hT.1
  have HW := Lib.hid h.ints
  have HWN := Lib.hid h.ints.1
  have HB := Lib.hid h.cell
  have p0 := cell_of_block (i := 0) h.cell rfl
  have p1 := cell_of_block (i := 1) h.cell rfl
  have p2 := cell_of_block (i := 2) h.cell rfl
  have p3 := cell_of_block (i := 3) h.cell rfl
  have p4 := cell_of_block (i := 4) h.cell rfl
  have p5 := cell_of_block (i := 5) h.cell rfl
  simp only [s4_, s5_, s6_] at p0 p1 p2 p3 p4 p5
  have HP := Lib.hid (And.intro p0 (And.intro p1 (And.intro p2 p3)))
  have hbw := block_lt h.cell
  have HBW := Lib.hid hbw
  clear h hN htag hT hl hbw hD hkw hbd
  go_enter Tryz.func29, Tryz.ntmps29
  go_wp2_with (first
    | (at_builtin; refine app_ints rfl _ _ rfl w.heap.size _ wait rfl (by exact HO1.out) _ _ _ text rfl (by exact HT1.out) (by have := HWN.out; have := HTN.out; omega) (by exact HK1.out.size) ?_; intro v2 w2 hown2 hgrow2 hat2; obtain ⟨A2', n2', c2', hv2⟩ := own_formR hown2; have HV2 := Lib.hid hv2; have HO2 := Lib.hid hown2; have HG2 := Lib.hid hgrow2; clear hown2 hgrow2 hat2 hv2)
    | (at_builtin; refine app_ints rfl _ _ rfl w.heap.size _ [] rfl (by exact (World.ownsRow_nil _ _ _ _ : OwnI w w.heap.size (.slice none 0 0) [])) _ _ _ wait rfl (by exact HW.out) (by have := HWN.out; simp; omega) (Nat.le_refl _) ?_; intro v1 w1 hown1 hgrow1 hat1; obtain ⟨A1', n1', c1', rfl⟩ := own_formR hown1; have HO1 := Lib.hid (show OwnI w1 w.heap.size (.slice A1' n1' c1') wait by simpa using hown1); have HK1 := Lib.hid ((Kept.refl w).grown (show w.grownBy w1 none from hgrow1) (Nat.le_refl _) (fun q e => by cases e)); have HT1 := Lib.hid (HT.out.kept HK1.out); clear hown1 hgrow1 hat1))
  have hown2 := HO2.out
  have hgrow2 := HG2.out
  clear HV2
  obtain ⟨Aa, ca, rfl, hla, hIa⟩ := OwnI.sl hown2
  have HFA := Lib.hid hown2.far
  obtain ⟨na, hna⟩ : ∃ na : Nat, na = (wait ++ text).length := ⟨_, rfl⟩
  rw [← hna] at hIa hla HL0 ⊢
  have hna6 : na ≤ 600 := by rw [hna, List.length_append]; have := HWN.out; have := HTN.out; omega
  have HNA := Lib.hid hna
  have HK2 := Lib.hid (HK1.out.grown hgrow2 HK1.out.size (fun q e => (World.ownsRow.lt HO1.out q e).1))
  have IA := Lib.hid hIa
  have LA := Lib.hid hla
  have q0 := Kept.cell HK2.out p0
  have q1 := Kept.cell HK2.out p1
  have q2 := Kept.cell HK2.out p2
  have q3 := Kept.cell HK2.out p3
  have HLA := Lib.hid (fun w' (hk1 : Kept w2 w') => r25Last s n form Aa na ca (wait ++ text) w' ((HN.out.kept HK2.out).kept hk1) HTG.out (by omega) (IA.out.kept hk1))
  obtain ⟨li, hli⟩ : ∃ li : Nat, li = lastBd (boundB n form) (wait ++ text) := ⟨_, rfl⟩
  rw [← hli] at HLA HL0 HLS
  have hli2 : li ≤ na := HL0.out
  have HLI := Lib.hid hli
  have s1 := run_take1 Aa na ca li (by omega)
  have s2 := run_drop1 Aa na ca li hli2
  have HFO := Lib.hid (fun w' (hN' : NormAt w' s n) (hI' : Ints w' Aa li ((wait ++ text).take li)) => r23form s n form Aa li ca ((wait ++ text).take li) w' hN' HTG.out (by omega) hI')
  clear hown2 hgrow2 hna hIa hla hli
  go_wp2_with fail
  refine wp_region_held_drew (S := (fun w' => w'.cell? ⟨b, 0, none⟩ = some (.slice s.Ac s.nc s.cc) ∧ w'.cell? ⟨b, 1, none⟩ = some (.slice s.Am s.nm s.cm) ∧ w'.cell? ⟨b, 2, none⟩ = some (.slice s.Ae s.ne s.ce) ∧ w'.cell? ⟨b, 3, none⟩ = some (.int .i64 form))) (by kernel_rfl) ⟨q0, q1, q2, q3⟩ (fun hHeld => ?_)
  refine tk_ 0 ?_ rfl ?_; refine tk_ 1 ?_ rfl ?_; refine tk_ 2 ?_ rfl ?_; refine tk_ 3 ?_ rfl ?_; refine tk_ 4 ?_ rfl ?_; refine tk_ 5 ?_ rfl ?_; refine tk_ 6 ?_ rfl ?_; refine tk_ 7 ?_ rfl ?_; refine tk_ 8 ?_ rfl ?_
  refine rd_ 9 rfl (fun K hK => ?_)
  go_simp
  (refine (HLA.out _ (Kept.drew (Kept.refl w2))).mono ?_; rintro e w6 ⟨rfl, k6⟩; have K6 := Lib.hid (Kept.trans (Kept.drew (Kept.refl w2)) k6); clear k6)
  go_wp2_with fail
  refine hK.out _ _ ⟨Kept.cell K6.out q0, Kept.cell K6.out q1, Kept.cell K6.out q2, Kept.cell K6.out q3⟩ (fun hHeld => ?_)
  clear hK K
  (try simp only [Act.put, s1_, s2_, s3_, s4_, s5_, s6_])
  refine tk_ 10 ?_ rfl ?_
  refine wpAnyH_done (by kernel_rfl) ?_ _
  clear q0 q1 q2 q3 p0 p1 p2 p3 p4 p5
  have K3 := Lib.hid (Kept.trans HK2.out K6.out)
  have hb6 := (K3.out.block b HBW.out).trans HB.out
  have e4 := cell_of_block (i := 4) hb6 rfl
  have f4 := frozen_of_block (i := 4) hb6
  simp only [s4_, s5_, s6_] at e4
  have HB7 := Lib.hid (cells6_set4r hb6 (.slice (dropA Aa ca li) (na - li) (ca - li)))
  have KB7 := Lib.hid (show KeptBut [b] w (w6.setCell ⟨b, 4, none⟩ (.slice (dropA Aa ca li) (na - li) (ca - li))) from KeptBut.trans (K3.out.but [b]) (KeptBut.setCell w6 (by simp) _))
  have HAB := Lib.hid (fun a (h : Aa = some a) => show a.block ∉ [b] by have := HFA.out a h; have := HBW.out; simp; omega)
  have IA7 := Lib.hid (sl_butK (IA.out.kept K6.out) (KeptBut.setCell (S := [b]) w6 (p := ⟨b, 4, none⟩) (by simp) (.slice (dropA Aa ca li) (na - li) (ca - li))) (fun p hp _ => HAB.out p hp))
  have HN7 := Lib.hid (HD.out _ (KeptBut.dropW HKD.out KB7.out (by have := HBD.out; simpa using this)))
  clear hb6
  go_wp2_with fail
  clear e4 f4
  generalize w6.setCell ⟨b, 4, none⟩ (.slice (dropA Aa ca li) (na - li) (ca - li)) = w7 at *
  have q0 := cell_of_block (i := 0) HB7.out rfl
  have q1 := cell_of_block (i := 1) HB7.out rfl
  have q2 := cell_of_block (i := 2) HB7.out rfl
  have q3 := cell_of_block (i := 3) HB7.out rfl
  simp only [s4_, s5_, s6_] at q0 q1 q2 q3
  go_wp2_with fail
  refine wp_region_held_drew (S := (fun w' => w'.cell? ⟨b, 0, none⟩ = some (.slice s.Ac s.nc s.cc) ∧ w'.cell? ⟨b, 1, none⟩ = some (.slice s.Am s.nm s.cm) ∧ w'.cell? ⟨b, 2, none⟩ = some (.slice s.Ae s.ne s.ce) ∧ w'.cell? ⟨b, 3, none⟩ = some (.int .i64 form))) (by kernel_rfl) ⟨q0, q1, q2, q3⟩ (fun hHeld => ?_)
  refine tk_ 0 ?_ rfl ?_; refine tk_ 1 ?_ rfl ?_; refine tk_ 2 ?_ rfl ?_; refine tk_ 3 ?_ rfl ?_; refine tk_ 4 ?_ rfl ?_; refine tk_ 5 ?_ rfl ?_; refine tk_ 6 ?_ rfl ?_; refine tk_ 7 ?_ rfl ?_; refine tk_ 8 ?_ rfl ?_; refine tk_ 9 ?_ rfl ?_; refine tk_ 10 ?_ rfl ?_
  refine rd_ 11 rfl (fun K hK => ?_)
  go_simp
  (refine (HFO.out _ (HN7.out.kept (Kept.drew (Kept.refl w7))) (Ints.front_ (IA7.out.kept (Kept.drew (Kept.refl w7))) hli2)).mono ?_; rintro e w8 ⟨A8, n8, c8, rfl, le8, i8, k8⟩; have I8 := Lib.hid i8; have K8 := Lib.hid (Kept.trans (Kept.drew (Kept.refl w7)) k8); clear i8 k8)
  go_wp2_with fail
  refine hK.out _ _ ⟨Kept.cell K8.out q0, Kept.cell K8.out q1, Kept.cell K8.out q2, Kept.cell K8.out q3⟩ (fun hHeld => ?_)
  clear hK K
  (try simp only [Act.put, s1_, s2_, s3_, s4_, s5_, s6_])
  refine tk_ 12 ?_ rfl ?_; refine tk_ 13 ?_ rfl ?_
  refine wpAnyH_done (by kernel_rfl) ?_ _
  go_wp2_with fail
  go_ret2
  have ID := Ints.drop_ (IA7.out.kept K8.out) hli2 LA.out
  refine ⟨A8, n8, c8, dropA Aa ca li, na - li, ca - li, rfl, le8, ?_, ⟨(K8.out.block b (block_lt HB7.out)).trans HB7.out, by have := LA.out; omega, ?_, fun _ a ha => ?_⟩, fun a ha => ?_, KeptBut.trans KB7.out (K8.out.but [b])⟩
  · unfold wrOut; rw [← HLS.out]; exact I8.out
  · unfold wrPend; rw [← HLS.out]; exact ID
  · have := dropA_far HFA.out ha; have := HBW.out; omega
  · exact dropA_far HFA.out ha
end Go.Proofs.YtomgchfjachedaaGreatDoor
