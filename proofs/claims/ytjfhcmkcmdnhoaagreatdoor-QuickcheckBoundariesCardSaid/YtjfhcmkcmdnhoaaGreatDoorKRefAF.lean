/- References: Boundaries and Text of layer 24. -/
import Derived.Test.YtjfhcmkcmdnhoaaGreatDoorKSq
import Derived.Test.YtjfhcmkcmdnhoaaGreatDoorKRga
import Derived.Test.YtjfhcmkcmdnhoaaGreatDoorKExpC
import Derived.Test.YtjfhcmkcmdnhoaaGreatDoorKQcf
import Derived.Test.YtjfhcmkcmdnhoaaGreatDoorKPl51
namespace Go.Proofs.YtjfhcmkcmdnhoaaGreatDoor
open Go Go.RowKit
set_option maxHeartbeats 2000000 in
theorem r20SortedB (A : Option Addr) (n c : Nat) (l : List Span) (B : Option Addr) (m d : Nat) (text : List Int) (w : World) (hn : n ≤ 1000) (hm : m ≤ 10000) (hl : Spans w A n l) (hI : Ints w B m text) :
    Calls Tryz.prog 67 #[.slice A n c, .slice B m d] w (RetB w (decide (refSort (classOf (usableSpans l)) text = text))) := by
  have HS := Lib.hid (r20Sort A n c l B m d text w hn (by omega) hl hI)
  have HI := Lib.hid hI
  have HL := Lib.hid (show (refSort (classOf (usableSpans l)) text).length ≤ 10000 by rw [refSort_length]; have := hI.1; omega)
  clear hl hI
  generalize refSort (classOf (usableSpans l)) text = X at *
  go_enter Tryz.func67, Tryz.ntmps67
  go_wp2_with fail
  refine HS.out.mono ?_
  rintro e w1 ⟨A1, n1, c1, rfl, le1, i1, k1⟩
  have HEQ := Lib.hid (r01Equal A1 B n1 m c1 d X text w1 (by rw [i1.1]; have := HL.out; omega) (by omega) i1 (HI.out.kept k1))
  generalize decide (X = text) = bb at *
  clear i1
  go_wp2_with fail
  refine HEQ.out.mono ?_
  rintro e w2 ⟨rfl, k2⟩
  go_wp2_with fail
  go_ret
  exact ⟨rfl, Kept.trans k1 k2⟩
set_option maxRecDepth 100000 in
set_option maxHeartbeats 4000000 in
theorem r24Boundaries (s : Sls) (n : Nrm) (form : Int) (A : Option Addr) (nt ct : Nat) (text : List Int) (w : World) (hN : NormAt w s n) (htag : ∀ m ∈ n.decomp, m.tag.size ≤ 1000) (hnt : nt ≤ 1000) (hT : Ints w A nt text) :
    Calls Tryz.prog 36 #[s.val, .int .i64 form, .slice A nt ct] w (RetInts w (bndI n form text)) := by
  have hk0_ := Kept.alloc (Kept.refl w) (Obj.cells #[Value.slice s.Ac s.nc s.cc, Value.slice s.Am s.nm s.cm, Value.slice s.Ae s.ne s.ce] 28)
  have HK1 := Lib.hid hk0_
  have hb0_ := (box_block w (Obj.cells #[Value.slice s.Ac s.nc s.cc, Value.slice s.Am s.nm s.cm, Value.slice s.Ae s.ne s.ce] 28))
  have x0_ := cell_of_block (i := 0) hb0_ rfl
  have x1_ := cell_of_block (i := 1) hb0_ rfl
  have x2_ := cell_of_block (i := 2) hb0_ rfl
  simp only [s4_, s5_, s6_] at x0_ x1_ x2_
  have HX0 := Lib.hid x0_
  have HX1 := Lib.hid x1_
  have HX2 := Lib.hid x2_
  have HB0 := Lib.hid hb0_
  clear x0_ x1_ x2_ hb0_
  have HSE := Lib.hid (fun w' (hk : Kept w w') => r22Second s n w' (hN.kept hk) htag)
  have HBO := Lib.hid (fun x SA sm sc R w' (hk : Kept w w') (h1 : sm ≤ 5000) (h2 : Rngs w' SA sm R) (h3 : ∀ x, hasR R x = secondB (usableN n) x) => r24boundary s n form x SA sm sc R w' (hN.kept hk) htag h1 h2 h3)
  have HT := Lib.hid hT
  have HTN := Lib.hid hT.1
  clear hN htag hT hk0_
  unfold Sls.val at *
  go_enter Tryz.func36, Tryz.ntmps36
  have p0 := HX0.out
  have p1 := HX1.out
  have p2 := HX2.out
  go_wp2_with fail
  refine (HSE.out _ (Kept.trans HK1.out (Kept.refl (w.alloc (Obj.cells #[Value.slice s.Ac s.nc s.cc, Value.slice s.Am s.nm s.cm, Value.slice s.Ae s.ne s.ce] 28))))).mono ?_
  rintro e w1 ⟨R1, S1, m1, c1, rfl, le1, lm1, i1, hs1, _, k1⟩
  have R1_ := Lib.hid i1
  have HS1 := Lib.hid hs1
  clear i1 hs1
  clear p0 p1 p2
  have KB1 := Lib.hid (Kept.trans (Kept.refl (w.alloc (Obj.cells #[Value.slice s.Ac s.nc s.cc, Value.slice s.Am s.nm s.cm, Value.slice s.Ae s.ne s.ce] 28))) k1)
  have KS := Lib.hid (Kept.trans KB1.out (Kept.alloc (Kept.refl w1) (Obj.cells #[Value.slice S1 m1 c1] 26)))
  have KA := Lib.hid (Kept.alloc (Kept.refl w1) (Obj.cells #[Value.slice S1 m1 c1] 26))
  have HSB := Lib.hid (cell_of_block (i := 0) (alloc_at (W := w1) (o := (Obj.cells #[Value.slice S1 m1 c1] 26)) rfl) rfl)
  simp only [s4_, s5_] at HSB
  have RS := Lib.hid (R1_.out.kept KA.out)
  have KX := Lib.hid (Kept.trans (Kept.trans HK1.out KB1.out) KA.out)
  go_wp2_with fail
  obtain ⟨bs, hbs⟩ : ∃ bs : Nat, bs = w1.heap.size := ⟨_, rfl⟩
  rw [← hbs] at HSB ⊢
  clear hbs
  generalize w1.alloc (Obj.cells #[Value.slice S1 m1 c1] 26) = w9 at *
  go_loopw [8, 9] (fun p i wr => ∃ k : Nat, k ≤ nt ∧ i = .int .i64 k ∧ OwnI wr w9.heap.size p (bndI n form (text.take k)) ∧ Kept w9 wr) (fun _ i _ => nt - (intOf i).toNat)
  case atStart => exact ⟨0, Nat.zero_le _, rfl, (World.ownsRow_nil _ _ _ _ : OwnI w9 w9.heap.size (.slice none 0 0) []), Kept.refl _⟩
  case round =>
    obtain ⟨k, hk, rfl, hown, hkr⟩ := hrel
    have HO := Lib.hid hown
    have KR := Lib.hid hkr
    have hszr := hkr.size
    clear hown hkr
    by_cases hlt : k < nt
    · obtain ⟨b, off, x, rfl, hx, cx⟩ := int_at (HT.out.kept (Kept.trans KX.out KR.out)) hlt
      have HBS := Lib.hid (bndI_step (n := n) (form := form) hx)
      have HLN := Lib.hid (show (bndI n form (text.take k)).length ≤ 1000 by have h1 := bndI_le n form (text.take k); have h2 : (text.take k).length ≤ k := List.length_take_le _ _; omega)
      have HBX := Lib.hid (fun w' hk h2 => HBO.out x S1 m1 c1 R1 w' hk (by omega) h2 HS1.out)
      generalize boundB n form x = bb at *
      clear hx
      cases bb
      · skip
        have q0 := Kept.cell (Kept.trans KS.out KR.out) HX0.out
        have q1 := Kept.cell (Kept.trans KS.out KR.out) HX1.out
        have q2 := Kept.cell (Kept.trans KS.out KR.out) HX2.out
        have q3 := Kept.cell KR.out HSB.out
        have q4 := cx
        go_wp2_with fail
        refine wp_region_held_drew (S := (fun w' => w'.cell? ⟨w.heap.size, 0, none⟩ = some (.slice s.Ac s.nc s.cc) ∧ w'.cell? ⟨w.heap.size, 1, none⟩ = some (.slice s.Am s.nm s.cm) ∧ w'.cell? ⟨w.heap.size, 2, none⟩ = some (.slice s.Ae s.ne s.ce) ∧ w'.cell? ⟨bs, 0, none⟩ = some (.slice S1 m1 c1) ∧ w'.cell? ⟨b, off + k, none⟩ = some (.int .i64 x))) (by kernel_rfl) ⟨q0, q1, q2, q3, q4⟩ (fun hHeld => ?_)
        refine tk_ 0 ?_ rfl ?_; refine tk_ 1 ?_ rfl ?_; refine tk_ 2 ?_ rfl ?_; refine tk_ 3 ?_ rfl ?_; refine tk_ 4 ?_ rfl ?_; refine tk_ 5 ?_ rfl ?_; refine tk_ 6 ?_ rfl ?_
        refine rd_ 7 rfl (fun K hK => ?_)
        go_simp
        (refine (HBX.out _ (Kept.trans KX.out (Kept.trans KR.out (Kept.drew (Kept.refl wr)))) (RS.out.kept (Kept.trans KR.out (Kept.drew (Kept.refl wr))))).mono ?_; rintro e w6 ⟨rfl, k6⟩; have K6 := Lib.hid (Kept.trans (Kept.drew (Kept.refl wr)) k6); clear k6)
        go_wp2_with fail
        refine hK.out _ _ ⟨Kept.cell K6.out q0, Kept.cell K6.out q1, Kept.cell K6.out q2, Kept.cell K6.out q3, Kept.cell K6.out q4⟩ (fun hHeld => ?_)
        clear hK K
        (try simp only [Act.put, s1_, s2_, s3_, s4_, s5_, s6_])
        refine wpAnyH_done (by kernel_rfl) ?_ _
        clear q0 q1 q2 q3 q4
        go_wp2_with fail
        go_roundw
        case rel => exact ⟨k + 1, by omega, by go_num, by rw [HBS.out, if_neg (by simp), List.append_nil]; exact own_kept HO.out K6.out, Kept.trans KR.out K6.out⟩
        case measure => simp [intOf]; omega
      · skip
        have q0 := Kept.cell (Kept.trans KS.out KR.out) HX0.out
        have q1 := Kept.cell (Kept.trans KS.out KR.out) HX1.out
        have q2 := Kept.cell (Kept.trans KS.out KR.out) HX2.out
        have q3 := Kept.cell KR.out HSB.out
        have q4 := cx
        go_wp2_with fail
        refine wp_region_held_drew (S := (fun w' => w'.cell? ⟨w.heap.size, 0, none⟩ = some (.slice s.Ac s.nc s.cc) ∧ w'.cell? ⟨w.heap.size, 1, none⟩ = some (.slice s.Am s.nm s.cm) ∧ w'.cell? ⟨w.heap.size, 2, none⟩ = some (.slice s.Ae s.ne s.ce) ∧ w'.cell? ⟨bs, 0, none⟩ = some (.slice S1 m1 c1) ∧ w'.cell? ⟨b, off + k, none⟩ = some (.int .i64 x))) (by kernel_rfl) ⟨q0, q1, q2, q3, q4⟩ (fun hHeld => ?_)
        refine tk_ 0 ?_ rfl ?_; refine tk_ 1 ?_ rfl ?_; refine tk_ 2 ?_ rfl ?_; refine tk_ 3 ?_ rfl ?_; refine tk_ 4 ?_ rfl ?_; refine tk_ 5 ?_ rfl ?_; refine tk_ 6 ?_ rfl ?_
        refine rd_ 7 rfl (fun K hK => ?_)
        go_simp
        (refine (HBX.out _ (Kept.trans KX.out (Kept.trans KR.out (Kept.drew (Kept.refl wr)))) (RS.out.kept (Kept.trans KR.out (Kept.drew (Kept.refl wr))))).mono ?_; rintro e w6 ⟨rfl, k6⟩; have K6 := Lib.hid (Kept.trans (Kept.drew (Kept.refl wr)) k6); clear k6)
        go_wp2_with fail
        refine hK.out _ _ ⟨Kept.cell K6.out q0, Kept.cell K6.out q1, Kept.cell K6.out q2, Kept.cell K6.out q3, Kept.cell K6.out q4⟩ (fun hHeld => ?_)
        clear hK K
        (try simp only [Act.put, s1_, s2_, s3_, s4_, s5_, s6_])
        refine wpAnyH_done (by kernel_rfl) ?_ _
        clear q0 q1 q2 q3 q4
        go_wp2_with (at_builtin; refine app_ints rfl _ _ rfl w9.heap.size _ _ rfl (own_kept HO.out (Kept.alloc K6.out (Obj.cells #[Value.int IntKind.i64 (k : Int)] 3))) _ _ _ [(k : Int)] rfl (Ints.alloc_ (xs := [(k : Int)]) rfl rfl) (by have := HLN.out; simp; omega) (Kept.alloc (Kept.trans KR.out K6.out) (Obj.cells #[Value.int IntKind.i64 (k : Int)] 3)).size ?_; intro v7 w7 hown7 hgrow7 hat7)
        have HO7 := Lib.hid hown7
        have K7 := Lib.hid ((Kept.alloc (Kept.trans KR.out K6.out) (Obj.cells #[Value.int IntKind.i64 (k : Int)] 3)).grown hgrow7 (Kept.alloc (Kept.trans KR.out K6.out) (Obj.cells #[Value.int IntKind.i64 (k : Int)] 3)).size (fun q e => (World.ownsRow.lt HO.out q e).1))
        clear hown7 hgrow7 hat7
        go_roundw
        case rel => exact ⟨k + 1, by omega, by go_num, by rw [HBS.out]; exact HO7.out, K7.out⟩
        case measure => simp [intOf]; omega
    · have hfull : text.take k = text := List.take_of_length_le (by have := HTN.out; omega)
      have hown := HO.out
      rw [hfull] at hown
      obtain ⟨A4, c4, hu, hle4, hI4⟩ := OwnI.sl hown
      generalize bndI n form text = X at *
      obtain ⟨m4, hm4⟩ : ∃ m4 : Nat, m4 = X.length := ⟨_, rfl⟩
      rw [← hm4] at hu hle4 hI4
      have HI4 := Lib.hid hI4
      clear hown hfull hm4 hI4
      subst hu
      go_wp2_with fail
      go_ret
      exact ⟨A4, m4, c4, rfl, hle4, HI4.out, Kept.trans KX.out KR.out⟩
set_option maxRecDepth 100000 in
set_option maxHeartbeats 4000000 in
theorem r24Text (s : Sls) (n : Nrm) (form : Int) (A : Option Addr) (nt ct : Nat) (text : List Int) (w : World) (hN : NormAt w s n) (htag : ∀ m ∈ n.decomp, m.tag.size ≤ 1000) (hnt : nt ≤ 1000) (hT : Ints w A nt text) :
    Calls Tryz.prog 38 #[s.val, .int .i64 form, .slice A nt ct] w (RetI w (textQ n form text)) := by
  have hk0_ := Kept.alloc (Kept.refl w) (Obj.cells #[Value.slice s.Ac s.nc s.cc, Value.slice s.Am s.nm s.cm, Value.slice s.Ae s.ne s.ce] 28)
  have HK1 := Lib.hid hk0_
  have hb0_ := (box_block w (Obj.cells #[Value.slice s.Ac s.nc s.cc, Value.slice s.Am s.nm s.cm, Value.slice s.Ae s.ne s.ce] 28))
  have x0_ := cell_of_block (i := 0) hb0_ rfl
  have x1_ := cell_of_block (i := 1) hb0_ rfl
  have x2_ := cell_of_block (i := 2) hb0_ rfl
  simp only [s4_, s5_, s6_] at x0_ x1_ x2_
  have HX0 := Lib.hid x0_
  have HX1 := Lib.hid x1_
  have HX2 := Lib.hid x2_
  have HB0 := Lib.hid hb0_
  clear x0_ x1_ x2_ hb0_
  have HSE := Lib.hid (fun w' (hk : Kept w w') => r22Second s n w' (hN.kept hk) htag)
  have HCH := Lib.hid (fun x SA sm sc R w' (hk : Kept w w') (h1 : sm ≤ 5000) (h2 : Rngs w' SA sm R) (h3 : ∀ x, hasR R x = secondB (usableN n) x) => r24char s n form x SA sm sc R w' (hN.kept hk) htag h1 h2 h3)
  have HDA := Lib.hid (fun w' (hk : Kept w w') => r21data s n w' (hN.kept hk) htag)
  have HKN := Lib.hid (fun w' => r24known form w')
  have HNU := Lib.hid (usableS_at hN)
  have HT := Lib.hid hT
  have HTN := Lib.hid hT.1
  clear hN htag hT hk0_
  by_cases hf : form < 1 ∨ 4 < form
  · have HR := Lib.hid (textQ_unknown n text hf)
    rw [decide_eq_true hf] at HKN
    clear hf
    unfold Sls.val at *
    go_enter Tryz.func38, Tryz.ntmps38
    have p0 := HX0.out
    have p1 := HX1.out
    have p2 := HX2.out
    go_wp2_with fail
    refine (HKN.out _).mono ?_
    rintro e w1 ⟨rfl, k1⟩
    clear p0 p1 p2
    have KB1 := Lib.hid (Kept.trans (Kept.refl (w.alloc (Obj.cells #[Value.slice s.Ac s.nc s.cc, Value.slice s.Am s.nm s.cm, Value.slice s.Ae s.ne s.ce] 28))) k1)
    go_wp2_with fail
    go_ret
    exact ⟨ret_int HR.out.symm, (Kept.trans HK1.out KB1.out)⟩
  · have HF := Lib.hid hf
    rw [decide_eq_false hf] at HKN
    clear hf
    unfold Sls.val at *
    go_enter Tryz.func38, Tryz.ntmps38
    have p0 := HX0.out
    have p1 := HX1.out
    have p2 := HX2.out
    go_wp2_with fail
    refine (HKN.out _).mono ?_
    rintro e w1 ⟨rfl, k1⟩
    clear p0 p1 p2
    have KB1 := Lib.hid (Kept.trans (Kept.refl (w.alloc (Obj.cells #[Value.slice s.Ac s.nc s.cc, Value.slice s.Am s.nm s.cm, Value.slice s.Ae s.ne s.ce] 28))) k1)
    have p0 := Kept.cell KB1.out HX0.out
    have p1 := Kept.cell KB1.out HX1.out
    have p2 := Kept.cell KB1.out HX2.out
    go_wp2_with fail
    refine (HSE.out _ (Kept.trans HK1.out KB1.out)).mono ?_
    rintro e w2 ⟨R2, S2, m2, c2, rfl, le2, lm2, i2, hs2, _, k2⟩
    have R2_ := Lib.hid i2
    have HS2 := Lib.hid hs2
    clear i2 hs2
    clear p0 p1 p2
    have KB2 := Lib.hid (Kept.trans KB1.out k2)
    have KS := Lib.hid (Kept.trans KB2.out (Kept.alloc (Kept.refl w2) (Obj.cells #[Value.slice S2 m2 c2] 26)))
    have KA := Lib.hid (Kept.alloc (Kept.refl w2) (Obj.cells #[Value.slice S2 m2 c2] 26))
    have HSB := Lib.hid (cell_of_block (i := 0) (alloc_at (W := w2) (o := (Obj.cells #[Value.slice S2 m2 c2] 26)) rfl) rfl)
    simp only [s4_, s5_] at HSB
    have RS := Lib.hid (R2_.out.kept KA.out)
    have KX := Lib.hid (Kept.trans (Kept.trans HK1.out KB2.out) KA.out)
    go_wp2_with fail
    obtain ⟨bs, hbs⟩ : ∃ bs : Nat, bs = w2.heap.size := ⟨_, rfl⟩
    rw [← hbs] at HSB ⊢
    clear hbs
    generalize w2.alloc (Obj.cells #[Value.slice S2 m2 c2] 26) = w9 at *
    go_loopw [8, 9] (fun p i wr => ∃ (k : Nat) (q : Int), k ≤ nt ∧ i = .int .i64 k ∧ p = .int .i64 q ∧ q = allQ (charQ n form) (text.take k) ∧ q ≠ 2 ∧ Kept w9 wr) (fun _ i _ => nt - (intOf i).toNat)
    case atStart => exact ⟨0, 1, Nat.zero_le _, rfl, rfl, by rw [List.take_zero, allQ_nilR], by omega, Kept.refl _⟩
    case round =>
      obtain ⟨k, q, hk, rfl, rfl, hq, hq2, hkr⟩ := hrel
      have HQ := Lib.hid hq
      have HQ2 := Lib.hid hq2
      have KR := Lib.hid hkr
      have hszr := hkr.size
      clear hkr hq hq2
      by_cases hlt : k < nt
      · obtain ⟨b, off, x, rfl, hx, cx⟩ := int_at (HT.out.kept (Kept.trans KX.out KR.out)) hlt
        have HTS := Lib.hid (take_succ_some hx)
        have HMX := Lib.hid (mem_of_getElem?_some hx)
        have HCX := Lib.hid (fun w' hk h2 => HCH.out x S2 m2 c2 R2 w' hk (by omega) h2 HS2.out)
        obtain ⟨y, hy⟩ : ∃ y, y = charQ n form x := ⟨_, rfl⟩
        have HY := Lib.hid hy
        have hcs := charQ_cases n form x
        rw [← hy] at HCX hcs
        clear hx hy
        rcases hcs with rfl | rfl | rfl
        · skip
          have q0 := Kept.cell (Kept.trans KS.out KR.out) HX0.out
          have q1 := Kept.cell (Kept.trans KS.out KR.out) HX1.out
          have q2 := Kept.cell (Kept.trans KS.out KR.out) HX2.out
          have q3 := Kept.cell KR.out HSB.out
          have q4 := cx
          go_wp2_with fail
          refine wp_region_held_drew (S := (fun w' => w'.cell? ⟨w.heap.size, 0, none⟩ = some (.slice s.Ac s.nc s.cc) ∧ w'.cell? ⟨w.heap.size, 1, none⟩ = some (.slice s.Am s.nm s.cm) ∧ w'.cell? ⟨w.heap.size, 2, none⟩ = some (.slice s.Ae s.ne s.ce) ∧ w'.cell? ⟨bs, 0, none⟩ = some (.slice S2 m2 c2) ∧ w'.cell? ⟨b, off + k, none⟩ = some (.int .i64 x))) (by kernel_rfl) ⟨q0, q1, q2, q3, q4⟩ (fun hHeld => ?_)
          refine tk_ 0 ?_ rfl ?_; refine tk_ 1 ?_ rfl ?_; refine tk_ 2 ?_ rfl ?_; refine tk_ 3 ?_ rfl ?_; refine tk_ 4 ?_ rfl ?_; refine tk_ 5 ?_ rfl ?_; refine tk_ 6 ?_ rfl ?_
          refine rd_ 7 rfl (fun K hK => ?_)
          go_simp
          (refine (HCX.out _ (Kept.trans KX.out (Kept.trans KR.out (Kept.drew (Kept.refl wr)))) (RS.out.kept (Kept.trans KR.out (Kept.drew (Kept.refl wr))))).mono ?_; rintro e w6 ⟨rfl, k6⟩; have K6 := Lib.hid (Kept.trans (Kept.drew (Kept.refl wr)) k6); clear k6)
          go_wp2_with fail
          refine hK.out _ _ ⟨Kept.cell K6.out q0, Kept.cell K6.out q1, Kept.cell K6.out q2, Kept.cell K6.out q3, Kept.cell K6.out q4⟩ (fun hHeld => ?_)
          clear hK K
          (try simp only [Act.put, s1_, s2_, s3_, s4_, s5_, s6_])
          refine wpAnyH_done (by kernel_rfl) ?_ _
          clear q0 q1 q2 q3 q4
          go_wp2_with fail
          go_roundw
          case rel => exact ⟨k + 1, q, by omega, by go_num, rfl, by rw [HTS.out, allQ_snocR (by rw [← HQ.out]; exact HQ2.out) (by rw [← HY.out]; omega), ← HY.out]; rw [if_neg (by omega)]; exact HQ.out, HQ2.out, Kept.trans KR.out K6.out⟩
          case measure => simp [intOf]; omega
        · skip
          have q0 := Kept.cell (Kept.trans KS.out KR.out) HX0.out
          have q1 := Kept.cell (Kept.trans KS.out KR.out) HX1.out
          have q2 := Kept.cell (Kept.trans KS.out KR.out) HX2.out
          have q3 := Kept.cell KR.out HSB.out
          have q4 := cx
          go_wp2_with fail
          refine wp_region_held_drew (S := (fun w' => w'.cell? ⟨w.heap.size, 0, none⟩ = some (.slice s.Ac s.nc s.cc) ∧ w'.cell? ⟨w.heap.size, 1, none⟩ = some (.slice s.Am s.nm s.cm) ∧ w'.cell? ⟨w.heap.size, 2, none⟩ = some (.slice s.Ae s.ne s.ce) ∧ w'.cell? ⟨bs, 0, none⟩ = some (.slice S2 m2 c2) ∧ w'.cell? ⟨b, off + k, none⟩ = some (.int .i64 x))) (by kernel_rfl) ⟨q0, q1, q2, q3, q4⟩ (fun hHeld => ?_)
          refine tk_ 0 ?_ rfl ?_; refine tk_ 1 ?_ rfl ?_; refine tk_ 2 ?_ rfl ?_; refine tk_ 3 ?_ rfl ?_; refine tk_ 4 ?_ rfl ?_; refine tk_ 5 ?_ rfl ?_; refine tk_ 6 ?_ rfl ?_
          refine rd_ 7 rfl (fun K hK => ?_)
          go_simp
          (refine (HCX.out _ (Kept.trans KX.out (Kept.trans KR.out (Kept.drew (Kept.refl wr)))) (RS.out.kept (Kept.trans KR.out (Kept.drew (Kept.refl wr))))).mono ?_; rintro e w6 ⟨rfl, k6⟩; have K6 := Lib.hid (Kept.trans (Kept.drew (Kept.refl wr)) k6); clear k6)
          go_wp2_with fail
          refine hK.out _ _ ⟨Kept.cell K6.out q0, Kept.cell K6.out q1, Kept.cell K6.out q2, Kept.cell K6.out q3, Kept.cell K6.out q4⟩ (fun hHeld => ?_)
          clear hK K
          (try simp only [Act.put, s1_, s2_, s3_, s4_, s5_, s6_])
          refine wpAnyH_done (by kernel_rfl) ?_ _
          clear q0 q1 q2 q3 q4
          go_wp2_with fail
          go_ret
          exact ⟨ret_int (textQ_two n HF.out HMX.out HY.out.symm).symm, Kept.trans KX.out (Kept.trans KR.out K6.out)⟩
        · skip
          have q0 := Kept.cell (Kept.trans KS.out KR.out) HX0.out
          have q1 := Kept.cell (Kept.trans KS.out KR.out) HX1.out
          have q2 := Kept.cell (Kept.trans KS.out KR.out) HX2.out
          have q3 := Kept.cell KR.out HSB.out
          have q4 := cx
          go_wp2_with fail
          refine wp_region_held_drew (S := (fun w' => w'.cell? ⟨w.heap.size, 0, none⟩ = some (.slice s.Ac s.nc s.cc) ∧ w'.cell? ⟨w.heap.size, 1, none⟩ = some (.slice s.Am s.nm s.cm) ∧ w'.cell? ⟨w.heap.size, 2, none⟩ = some (.slice s.Ae s.ne s.ce) ∧ w'.cell? ⟨bs, 0, none⟩ = some (.slice S2 m2 c2) ∧ w'.cell? ⟨b, off + k, none⟩ = some (.int .i64 x))) (by kernel_rfl) ⟨q0, q1, q2, q3, q4⟩ (fun hHeld => ?_)
          refine tk_ 0 ?_ rfl ?_; refine tk_ 1 ?_ rfl ?_; refine tk_ 2 ?_ rfl ?_; refine tk_ 3 ?_ rfl ?_; refine tk_ 4 ?_ rfl ?_; refine tk_ 5 ?_ rfl ?_; refine tk_ 6 ?_ rfl ?_
          refine rd_ 7 rfl (fun K hK => ?_)
          go_simp
          (refine (HCX.out _ (Kept.trans KX.out (Kept.trans KR.out (Kept.drew (Kept.refl wr)))) (RS.out.kept (Kept.trans KR.out (Kept.drew (Kept.refl wr))))).mono ?_; rintro e w6 ⟨rfl, k6⟩; have K6 := Lib.hid (Kept.trans (Kept.drew (Kept.refl wr)) k6); clear k6)
          go_wp2_with fail
          refine hK.out _ _ ⟨Kept.cell K6.out q0, Kept.cell K6.out q1, Kept.cell K6.out q2, Kept.cell K6.out q3, Kept.cell K6.out q4⟩ (fun hHeld => ?_)
          clear hK K
          (try simp only [Act.put, s1_, s2_, s3_, s4_, s5_, s6_])
          refine wpAnyH_done (by kernel_rfl) ?_ _
          clear q0 q1 q2 q3 q4
          go_wp2_with fail
          go_roundw
          case rel => exact ⟨k + 1, 3, by omega, by go_num, rfl, by rw [HTS.out, allQ_snocR (by rw [← HQ.out]; exact HQ2.out) (by rw [← HY.out]; omega), ← HY.out]; rw [if_pos rfl], by omega, Kept.trans KR.out K6.out⟩
          case measure => simp [intOf]; omega
      · have hfull : text.take k = text := List.take_of_length_le (by have := HTN.out; omega)
        have hq := HQ.out
        rw [hfull] at hq
        have HEND := Lib.hid (textQ_end n HF.out (by rw [← hq]; exact HQ2.out))
        rw [← hq] at HEND
        have HSO := Lib.hid (fun w' (hk : Kept w w') => r20SortedB (usableS s n).Ac (usableS s n).nc (usableS s n).cc (usableN n).classes A nt ct text w' (HNU.out.kept hk).bc (by omega) (HNU.out.kept hk).cls (HT.out.kept hk))
        rw [usableN_spans n, refSort_eq (d_nonneg n)] at HSO
        have HFD := Lib.hid (fun u v w' => field_clsC (usableS s n).Ac (usableS s n).nc (usableS s n).cc u v w')
        have hfl := HFD.out (.slice (usableS s n).Am (usableS s n).nm (usableS s n).cm) (.slice (usableS s n).Ae (usableS s n).ne (usableS s n).ce)
        unfold Sls.val at *
        generalize usableS s n = s1 at *
        have KW := Lib.hid (Kept.trans KX.out KR.out)
        clear hfull hq
        by_cases hs : sortT (classOf (usableN n).classes) text = text
        · rw [decide_eq_true hs] at HSO
          rw [if_pos hs] at HEND
          clear hs
          have q0 := Kept.cell (Kept.trans KS.out KR.out) HX0.out
          have q1 := Kept.cell (Kept.trans KS.out KR.out) HX1.out
          have q2 := Kept.cell (Kept.trans KS.out KR.out) HX2.out
          go_wp2_with fail
          refine (HDA.out _ KW.out).mono ?_
          rintro e w5 ⟨rfl, k5⟩
          go_wp2_with fail
          refine (HSO.out _ (Kept.trans KW.out k5)).mono ?_
          rintro e w6 ⟨rfl, k6⟩
          go_wp2_with fail
          go_ret
          exact ⟨ret_int HEND.out.symm, Kept.trans KW.out (Kept.trans k5 k6)⟩
        · rw [decide_eq_false hs] at HSO
          rw [if_neg hs] at HEND
          clear hs
          have q0 := Kept.cell (Kept.trans KS.out KR.out) HX0.out
          have q1 := Kept.cell (Kept.trans KS.out KR.out) HX1.out
          have q2 := Kept.cell (Kept.trans KS.out KR.out) HX2.out
          go_wp2_with fail
          refine (HDA.out _ KW.out).mono ?_
          rintro e w5 ⟨rfl, k5⟩
          go_wp2_with fail
          refine (HSO.out _ (Kept.trans KW.out k5)).mono ?_
          rintro e w6 ⟨rfl, k6⟩
          go_wp2_with fail
          go_ret
          exact ⟨ret_int HEND.out.symm, Kept.trans KW.out (Kept.trans k5 k6)⟩
end Go.Proofs.YtjfhcmkcmdnhoaaGreatDoor
