/- References: the edges, joining and replacing of layer 26. -/
import Derived.Test.YtjfhcmkcmdnhoaaGreatDoorKSq
import Derived.Test.YtjfhcmkcmdnhoaaGreatDoorKRga
import Derived.Test.YtjfhcmkcmdnhoaaGreatDoorKJo
import Derived.Test.YtjfhcmkcmdnhoaaGreatDoorKPq1
namespace Go.Proofs.YtjfhcmkcmdnhoaaGreatDoor
open Go Go.RowKit
theorem Tab.two {w : World} {b : Nat} {A1 A2 : Option Addr} {n1 n2 c1 c2 : Nat} {X1 X2 : List Int} {t : TypeId} (h : w.heap[b]? = some (.cells #[.slice A1 n1 c1, .slice A2 n2 c2] t (0, 0)))
    (l1 : n1 ≤ c1) (l2 : n2 ≤ c2) (i1 : Ints w A1 n1 X1) (i2 : Ints w A2 n2 X2) : Tab w (some ⟨b, 0, none⟩) 2 [X1, X2] := by
  refine ⟨rfl, fun _ => ⟨b, 0, rfl, fun i X hX => ?_⟩⟩
  match i, hX with
  | 0, hX => exact ⟨A1, n1, c1, cell_of_block h rfl, l1, by rw [← Option.some.inj hX]; exact i1⟩
  | 1, hX => exact ⟨A2, n2, c2, cell_of_block h rfl, l2, by rw [← Option.some.inj hX]; exact i2⟩
  | k + 2, hX => simp at hX
set_option maxRecDepth 100000 in
set_option maxHeartbeats 2000000 in
theorem r26join (B : Option Addr) (m d : Nat) (T : List (List Int)) (w : World) (hm : m ≤ 1000) (hlen : T.flatten.length ≤ 100000000) (hT : Tab w B m T) : Calls Tryz.prog 44 #[.slice B m d] w (RetNew w T.flatten) := by
  have HT := Lib.hid hT
  have HTN := Lib.hid hT.1
  have HLEN := Lib.hid hlen
  clear hT hlen
  go_enter Tryz.func44, Tryz.ntmps44
  go_wp2_with fail
  go_loopw [3, 4] (fun p i wr => ∃ k : Nat, k ≤ m ∧ i = .int .i64 k ∧ OwnI wr w.heap.size p (T.take k).flatten ∧ Kept w wr) (fun _ i _ => m - (intOf i).toNat)
  case atStart => exact ⟨0, Nat.zero_le _, rfl, (World.ownsRow_nil _ _ _ _ : OwnI w w.heap.size (.slice none 0 0) []), Kept.refl _⟩
  case round =>
    obtain ⟨k, hk, rfl, hown, hkw⟩ := hrel
    have HO := Lib.hid hown
    have HKW := Lib.hid hkw
    clear hown
    by_cases hlt : k < m
    · obtain ⟨b, off, X, A1, n1, c1, rfl, hX, c0, le1, i1⟩ := (HT.out.kept hkw).at_ hlt
      have HTK := Lib.hid (show (T.take (k + 1)).flatten = (T.take k).flatten ++ X by rw [take_succ_some hX]; simp)
      have HI1 := Lib.hid i1
      have HL2 := Lib.hid (show (T.take k).flatten.length + X.length ≤ 1000000000 by
        have h1 := flatten_le T (k + 1)
        rw [HTK.out, List.length_append] at h1
        have := HLEN.out
        omega)
      clear hX hkw i1
      go_wp2_with (at_builtin; refine app_ints rfl _ _ rfl w.heap.size _ _ rfl (by exact HO.out) _ _ _ X rfl (by exact HI1.out) (by exact HL2.out) (by exact HKW.out.size) ?_; intro v7 w7 hown7 hgrow7 hat7)
      have HO7 := Lib.hid hown7
      have hk7 : Kept w w7 := HKW.out.grown hgrow7 HKW.out.size (fun q e => (World.ownsRow.lt HO.out q e).1)
      clear hown7 hgrow7 hat7
      go_roundw
      case rel => exact ⟨k + 1, by omega, by go_num, by rw [HTK.out]; exact HO7.out, hk7⟩
      case measure => simp [intOf]; omega
    · have hkm : k = m := by omega
      have hall : (T.take k).flatten = T.flatten := by rw [List.take_of_length_le (by have := HTN.out; omega)]
      have hown3 := HO.out
      rw [hall] at hown3
      obtain ⟨A3, c3, rfl, hle, hI⟩ := OwnI.sl hown3
      have HFR := Lib.hid (fun a (h : A3 = some a) => ((OwnI.inHeap hown3).2 a h).2)
      have HI := Lib.hid hI
      have HLE := Lib.hid hle
      obtain ⟨m1, hm1⟩ : ∃ m1 : Nat, m1 = T.flatten.length := ⟨_, rfl⟩
      rw [← hm1] at HI HLE ⊢
      clear hown3 hI hle hm1 hall HO
      subst hkm
      go_wp2_with fail
      go_ret
      exact ⟨A3, m1, c3, rfl, HLE.out, HI.out, HFR.out, HKW.out⟩
set_option maxRecDepth 100000 in
set_option maxHeartbeats 4000000 in
theorem r26last (s : Sls) (n : Nrm) (form : Int) (A : Option Addr) (nt ct : Nat) (text : List Int) (w : World) (hN : NormAt w s n) (htag : ∀ m ∈ n.decomp, m.tag.size ≤ 1000) (hnt : nt ≤ 1000) (hT : Ints w A nt text) :
    Calls Tryz.prog 40 #[s.val, .int .i64 form, .slice A nt ct] w (RetI w (lastBd (boundB n form) text : Nat)) := by
  have hk0_ := Kept.alloc (Kept.refl w) (Obj.cells #[Value.slice s.Ac s.nc s.cc, Value.slice s.Am s.nm s.cm, Value.slice s.Ae s.ne s.ce] 28)
  have HK1 := Lib.hid hk0_
  have hb0_ := (box_block w (Obj.cells #[Value.slice s.Ac s.nc s.cc, Value.slice s.Am s.nm s.cm, Value.slice s.Ae s.ne s.ce] 28))
  have x0_ := cell_of_block (i := 0) hb0_ rfl
  have x1_ := cell_of_block (i := 1) hb0_ rfl
  have x2_ := cell_of_block (i := 2) hb0_ rfl
  simp only [s4_, s5_, s6_] at x0_ x1_ x2_
  have HX0 := Lib.hid x0_
  have HX1 := Lib.hid x1_
  have HX2 := Lib.hid x2_
  have HB0 := Lib.hid hb0_
  clear x0_ x1_ x2_ hb0_
  have HBO := Lib.hid (fun x w' (hk : Kept w w') => r24Boundary s n form x w' (hN.kept hk) htag)
  have HT := Lib.hid hT
  have HTN := Lib.hid hT.1
  clear hN htag hT hk0_
  have hw0 : IntKind.i64.wrap ((nt : Int) - 1) = (nt : Int) - 1 := IntWalk.i64_in _ (by omega)
  have hw0' : wrap64 ((nt : Int) - 1) = (nt : Int) - 1 := IntWalk.wrap64_in _ (by omega)
  unfold Sls.val at *
  go_enter Tryz.func40, Tryz.ntmps40
  go_wp2_with fail
  clear hw0 hw0'
  go_loopw [7] (fun i wr => ∃ j : Int, i = .int .i64 j ∧ -1 ≤ j ∧ j < nt ∧ (∀ (q : Nat) (d : Int), j < q → text[q]? = some d → boundB n form d = false) ∧ Kept (w.alloc (Obj.cells #[Value.slice s.Ac s.nc s.cc, Value.slice s.Am s.nm s.cm, Value.slice s.Ae s.ne s.ce] 28)) wr) (fun i _ => (intOf i).toNat)
  case atStart => exact ⟨_, rfl, by omega, by omega, fun q d hq hd => by have := lt_of_getElem?_some hd; have := HTN.out; omega, Kept.refl _⟩
  case round =>
    obtain ⟨j, rfl, hj1, hj2, hno, hkr⟩ := hrel
    have HNO := Lib.hid hno
    have KR := Lib.hid hkr
    clear hno hkr
    by_cases hj0 : 0 < j
    · obtain ⟨k, rfl⟩ := Int.eq_ofNat_of_zero_le (show 0 ≤ j by omega)
      have hkn : k < nt := by omega
      obtain ⟨b, off, x, rfl, hx, cx⟩ := int_at (HT.out.kept (Kept.trans HK1.out KR.out)) hkn
      have HBX := Lib.hid (fun w' hk => HBO.out x w' hk)
      have HXX := Lib.hid hx
      have HBB := Lib.hid (show ∀ y, y = boundB n form x → y = boundB n form x from fun _ h => h)
      obtain ⟨bb, hbb⟩ : ∃ bb, bb = boundB n form x := ⟨_, rfl⟩
      have HB := Lib.hid hbb
      rw [← hbb] at HBX
      have hw1 : IntKind.i64.wrap ((k : Int) - 1) = (k : Int) - 1 := IntWalk.i64_in _ (by omega)
      have hw2 : wrap64 ((k : Int) - 1) = (k : Int) - 1 := IntWalk.wrap64_in _ (by omega)
      clear hx hbb HBB
      cases bb
      · skip
        have q0 := Kept.cell KR.out HX0.out
        have q1 := Kept.cell KR.out HX1.out
        have q2 := Kept.cell KR.out HX2.out
        have q3 := cx
        go_wp2_with fail
        refine wp_region_held_drew (S := (fun w' => w'.cell? ⟨w.heap.size, 0, none⟩ = some (.slice s.Ac s.nc s.cc) ∧ w'.cell? ⟨w.heap.size, 1, none⟩ = some (.slice s.Am s.nm s.cm) ∧ w'.cell? ⟨w.heap.size, 2, none⟩ = some (.slice s.Ae s.ne s.ce) ∧ w'.cell? ⟨b, off + k, none⟩ = some (.int .i64 x))) (by kernel_rfl) ⟨q0, q1, q2, q3⟩ (fun hHeld => ?_)
        refine tk_ 0 ?_ rfl ?_; refine tk_ 1 ?_ rfl ?_; refine tk_ 2 ?_ rfl ?_; refine tk_ 3 ?_ rfl ?_; refine tk_ 4 ?_ rfl ?_; refine tk_ 5 ?_ rfl ?_
        refine rd_ 6 rfl (fun K hK => ?_)
        go_simp
        (refine (HBX.out _ (Kept.trans HK1.out (Kept.trans KR.out (Kept.drew (Kept.refl wr))))).mono ?_; rintro e w6 ⟨rfl, k6⟩; have K6 := Lib.hid (Kept.trans (Kept.drew (Kept.refl wr)) k6); clear k6)
        go_wp2_with fail
        refine hK.out _ _ ⟨Kept.cell K6.out q0, Kept.cell K6.out q1, Kept.cell K6.out q2, Kept.cell K6.out q3⟩ (fun hHeld => ?_)
        clear hK K
        (try simp only [Act.put, s1_, s2_, s3_, s4_, s5_, s6_])
        refine wpAnyH_done (by kernel_rfl) ?_ _
        clear q0 q1 q2 q3
        go_wp2_with fail
        go_roundw
        case rel => exact ⟨(k : Int) - 1, by first | rfl | go_num, by omega, by omega, fun q d hq hd => by
          by_cases hqk : q = k
          · subst hqk; rw [HXX.out] at hd; injection hd with hd; rw [← hd, ← HB.out]
          · exact HNO.out q d (by omega) hd, Kept.trans KR.out K6.out⟩
        case measure => simp [intOf]; omega
      · skip
        have q0 := Kept.cell KR.out HX0.out
        have q1 := Kept.cell KR.out HX1.out
        have q2 := Kept.cell KR.out HX2.out
        have q3 := cx
        go_wp2_with fail
        refine wp_region_held_drew (S := (fun w' => w'.cell? ⟨w.heap.size, 0, none⟩ = some (.slice s.Ac s.nc s.cc) ∧ w'.cell? ⟨w.heap.size, 1, none⟩ = some (.slice s.Am s.nm s.cm) ∧ w'.cell? ⟨w.heap.size, 2, none⟩ = some (.slice s.Ae s.ne s.ce) ∧ w'.cell? ⟨b, off + k, none⟩ = some (.int .i64 x))) (by kernel_rfl) ⟨q0, q1, q2, q3⟩ (fun hHeld => ?_)
        refine tk_ 0 ?_ rfl ?_; refine tk_ 1 ?_ rfl ?_; refine tk_ 2 ?_ rfl ?_; refine tk_ 3 ?_ rfl ?_; refine tk_ 4 ?_ rfl ?_; refine tk_ 5 ?_ rfl ?_
        refine rd_ 6 rfl (fun K hK => ?_)
        go_simp
        (refine (HBX.out _ (Kept.trans HK1.out (Kept.trans KR.out (Kept.drew (Kept.refl wr))))).mono ?_; rintro e w6 ⟨rfl, k6⟩; have K6 := Lib.hid (Kept.trans (Kept.drew (Kept.refl wr)) k6); clear k6)
        go_wp2_with fail
        refine hK.out _ _ ⟨Kept.cell K6.out q0, Kept.cell K6.out q1, Kept.cell K6.out q2, Kept.cell K6.out q3⟩ (fun hHeld => ?_)
        clear hK K
        (try simp only [Act.put, s1_, s2_, s3_, s4_, s5_, s6_])
        refine wpAnyH_done (by kernel_rfl) ?_ _
        clear q0 q1 q2 q3
        go_wp2_with fail
        go_ret
        exact ⟨ret_int (by rw [lastBd_at (by omega) HXX.out HB.out.symm (fun q d hq hd => HNO.out q d (by omega) hd)]), Kept.trans HK1.out (Kept.trans KR.out K6.out)⟩
    · have HR := Lib.hid (lastBd_none (p := boundB n form) (t := text) (fun q d hq hd => HNO.out q d (by omega) hd))
      go_wp2_with fail
      go_ret
      exact ⟨ret_int (by rw [HR.out]; rfl), Kept.trans HK1.out KR.out⟩
set_option maxRecDepth 100000 in
set_option maxHeartbeats 4000000 in
theorem r26first (s : Sls) (n : Nrm) (form : Int) (A : Option Addr) (nt ct : Nat) (text : List Int) (w : World) (hN : NormAt w s n) (htag : ∀ m ∈ n.decomp, m.tag.size ≤ 1000) (hnt : nt ≤ 1000) (hT : Ints w A nt text) :
    Calls Tryz.prog 41 #[s.val, .int .i64 form, .slice A nt ct] w (RetI w (firstBd (boundB n form) text : Nat)) := by
  have hk0_ := Kept.alloc (Kept.refl w) (Obj.cells #[Value.slice s.Ac s.nc s.cc, Value.slice s.Am s.nm s.cm, Value.slice s.Ae s.ne s.ce] 28)
  have HK1 := Lib.hid hk0_
  have hb0_ := (box_block w (Obj.cells #[Value.slice s.Ac s.nc s.cc, Value.slice s.Am s.nm s.cm, Value.slice s.Ae s.ne s.ce] 28))
  have x0_ := cell_of_block (i := 0) hb0_ rfl
  have x1_ := cell_of_block (i := 1) hb0_ rfl
  have x2_ := cell_of_block (i := 2) hb0_ rfl
  simp only [s4_, s5_, s6_] at x0_ x1_ x2_
  have HX0 := Lib.hid x0_
  have HX1 := Lib.hid x1_
  have HX2 := Lib.hid x2_
  have HB0 := Lib.hid hb0_
  clear x0_ x1_ x2_ hb0_
  have HBO := Lib.hid (fun x w' (hk : Kept w w') => r24Boundary s n form x w' (hN.kept hk) htag)
  have HT := Lib.hid hT
  have HTN := Lib.hid hT.1
  clear hN htag hT hk0_
  unfold Sls.val at *
  go_enter Tryz.func41, Tryz.ntmps41
  go_wp2_with fail
  go_loopw [7] (fun i wr => ∃ k : Nat, k ≤ nt ∧ i = .int .i64 k ∧ (∀ (q : Nat) (d : Int), q < k → text[q]? = some d → boundB n form d = false) ∧ Kept (w.alloc (Obj.cells #[Value.slice s.Ac s.nc s.cc, Value.slice s.Am s.nm s.cm, Value.slice s.Ae s.ne s.ce] 28)) wr) (fun i _ => nt - (intOf i).toNat)
  case atStart => exact ⟨0, Nat.zero_le _, rfl, fun q d hq => absurd hq (by omega), Kept.refl _⟩
  case round =>
    obtain ⟨k, hk, rfl, hno, hkr⟩ := hrel
    have HNO := Lib.hid hno
    have KR := Lib.hid hkr
    clear hno hkr
    by_cases hlt : k < nt
    · obtain ⟨b, off, x, rfl, hx, cx⟩ := int_at (HT.out.kept (Kept.trans HK1.out KR.out)) hlt
      have HBX := Lib.hid (fun w' hk => HBO.out x w' hk)
      have HXX := Lib.hid hx
      obtain ⟨bb, hbb⟩ : ∃ bb, bb = boundB n form x := ⟨_, rfl⟩
      have HB := Lib.hid hbb
      rw [← hbb] at HBX
      clear hx hbb
      cases bb
      · skip
        have q0 := Kept.cell KR.out HX0.out
        have q1 := Kept.cell KR.out HX1.out
        have q2 := Kept.cell KR.out HX2.out
        have q3 := cx
        go_wp2_with fail
        refine wp_region_held_drew (S := (fun w' => w'.cell? ⟨w.heap.size, 0, none⟩ = some (.slice s.Ac s.nc s.cc) ∧ w'.cell? ⟨w.heap.size, 1, none⟩ = some (.slice s.Am s.nm s.cm) ∧ w'.cell? ⟨w.heap.size, 2, none⟩ = some (.slice s.Ae s.ne s.ce) ∧ w'.cell? ⟨b, off + k, none⟩ = some (.int .i64 x))) (by kernel_rfl) ⟨q0, q1, q2, q3⟩ (fun hHeld => ?_)
        refine tk_ 0 ?_ rfl ?_; refine tk_ 1 ?_ rfl ?_; refine tk_ 2 ?_ rfl ?_; refine tk_ 3 ?_ rfl ?_; refine tk_ 4 ?_ rfl ?_; refine tk_ 5 ?_ rfl ?_
        refine rd_ 6 rfl (fun K hK => ?_)
        go_simp
        (refine (HBX.out _ (Kept.trans HK1.out (Kept.trans KR.out (Kept.drew (Kept.refl wr))))).mono ?_; rintro e w6 ⟨rfl, k6⟩; have K6 := Lib.hid (Kept.trans (Kept.drew (Kept.refl wr)) k6); clear k6)
        go_wp2_with fail
        refine hK.out _ _ ⟨Kept.cell K6.out q0, Kept.cell K6.out q1, Kept.cell K6.out q2, Kept.cell K6.out q3⟩ (fun hHeld => ?_)
        clear hK K
        (try simp only [Act.put, s1_, s2_, s3_, s4_, s5_, s6_])
        refine wpAnyH_done (by kernel_rfl) ?_ _
        clear q0 q1 q2 q3
        go_wp2_with fail
        go_roundw
        case rel => exact ⟨k + 1, by omega, by go_num, fun q d hq hd => by
          by_cases hqk : q = k
          · subst hqk; rw [HXX.out] at hd; injection hd with hd; rw [← hd, ← HB.out]
          · exact HNO.out q d (by omega) hd, Kept.trans KR.out K6.out⟩
        case measure => simp [intOf]; omega
      · skip
        have q0 := Kept.cell KR.out HX0.out
        have q1 := Kept.cell KR.out HX1.out
        have q2 := Kept.cell KR.out HX2.out
        have q3 := cx
        go_wp2_with fail
        refine wp_region_held_drew (S := (fun w' => w'.cell? ⟨w.heap.size, 0, none⟩ = some (.slice s.Ac s.nc s.cc) ∧ w'.cell? ⟨w.heap.size, 1, none⟩ = some (.slice s.Am s.nm s.cm) ∧ w'.cell? ⟨w.heap.size, 2, none⟩ = some (.slice s.Ae s.ne s.ce) ∧ w'.cell? ⟨b, off + k, none⟩ = some (.int .i64 x))) (by kernel_rfl) ⟨q0, q1, q2, q3⟩ (fun hHeld => ?_)
        refine tk_ 0 ?_ rfl ?_; refine tk_ 1 ?_ rfl ?_; refine tk_ 2 ?_ rfl ?_; refine tk_ 3 ?_ rfl ?_; refine tk_ 4 ?_ rfl ?_; refine tk_ 5 ?_ rfl ?_
        refine rd_ 6 rfl (fun K hK => ?_)
        go_simp
        (refine (HBX.out _ (Kept.trans HK1.out (Kept.trans KR.out (Kept.drew (Kept.refl wr))))).mono ?_; rintro e w6 ⟨rfl, k6⟩; have K6 := Lib.hid (Kept.trans (Kept.drew (Kept.refl wr)) k6); clear k6)
        go_wp2_with fail
        refine hK.out _ _ ⟨Kept.cell K6.out q0, Kept.cell K6.out q1, Kept.cell K6.out q2, Kept.cell K6.out q3⟩ (fun hHeld => ?_)
        clear hK K
        (try simp only [Act.put, s1_, s2_, s3_, s4_, s5_, s6_])
        refine wpAnyH_done (by kernel_rfl) ?_ _
        clear q0 q1 q2 q3
        go_wp2_with fail
        go_ret
        exact ⟨ret_int (by rw [firstBd_at HXX.out HB.out.symm HNO.out]), Kept.trans HK1.out (Kept.trans KR.out K6.out)⟩
    · have HR := Lib.hid (firstBd_none (p := boundB n form) (t := text) (fun q d hq hd => HNO.out q d (by have := HTN.out; omega) hd))
      go_wp2_with fail
      go_ret
      exact ⟨ret_int (by rw [HR.out, ← HTN.out]), Kept.trans HK1.out KR.out⟩
set_option maxRecDepth 100000 in
set_option maxHeartbeats 4000000 in
theorem r26Edges (s : Sls) (n : Nrm) (form : Int) (A : Option Addr) (na ca : Nat) (a : List Int) (B : Option Addr) (nb cb : Nat) (b : List Int) (w : World) (hN : NormAt w s n) (htag : ∀ m ∈ n.decomp, m.tag.size ≤ 1000) (hna : na ≤ 300) (hnb : nb ≤ 300) (hA : Ints w A na a) (hB : Ints w B nb b) :
    Calls Tryz.prog 18 #[s.val, .int .i64 form, .slice A na ca, .slice B nb cb] w (fun e w' => e = .returned (.tuple #[.int .i64 (jFrom n form a : Nat), .int .i64 (jTo n form b : Nat)]) ∧ Kept w w') := by
  have hk0_ := Kept.alloc (Kept.refl w) (Obj.cells #[Value.slice s.Ac s.nc s.cc, Value.slice s.Am s.nm s.cm, Value.slice s.Ae s.ne s.ce] 28)
  have HK1 := Lib.hid hk0_
  have hb0_ := (box_block w (Obj.cells #[Value.slice s.Ac s.nc s.cc, Value.slice s.Am s.nm s.cm, Value.slice s.Ae s.ne s.ce] 28))
  have x0_ := cell_of_block (i := 0) hb0_ rfl
  have x1_ := cell_of_block (i := 1) hb0_ rfl
  have x2_ := cell_of_block (i := 2) hb0_ rfl
  simp only [s4_, s5_, s6_] at x0_ x1_ x2_
  have HX0 := Lib.hid x0_
  have HX1 := Lib.hid x1_
  have HX2 := Lib.hid x2_
  have HB0 := Lib.hid hb0_
  clear x0_ x1_ x2_ hb0_
  have HLA := Lib.hid (fun w' (hk : Kept w w') => r26last s n form A na ca a w' (hN.kept hk) htag (by omega) (hA.kept hk))
  have HFI := Lib.hid (fun w' (hk : Kept w w') => r26first s n form B nb cb b w' (hN.kept hk) htag (by omega) (hB.kept hk))
  rw [show lastBd (boundB n form) a = jFrom n form a from rfl] at HLA
  rw [show firstBd (boundB n form) b = jTo n form b from rfl] at HFI
  generalize jFrom n form a = f at *
  generalize jTo n form b = t at *
  clear hN htag hA hB hk0_
  unfold Sls.val at *
  go_enter Tryz.func18, Tryz.ntmps18
  have p0 := HX0.out
  have p1 := HX1.out
  have p2 := HX2.out
  go_wp2_with fail
  refine wp_region_held_drew (S := (fun w' => w'.cell? ⟨w.heap.size, 0, none⟩ = some (.slice s.Ac s.nc s.cc) ∧ w'.cell? ⟨w.heap.size, 1, none⟩ = some (.slice s.Am s.nm s.cm) ∧ w'.cell? ⟨w.heap.size, 2, none⟩ = some (.slice s.Ae s.ne s.ce))) (by kernel_rfl) ⟨p0, p1, p2⟩ (fun hHeld => ?_)
  refine tk_ 0 ?_ rfl ?_; refine tk_ 1 ?_ rfl ?_; refine tk_ 2 ?_ rfl ?_; refine tk_ 4 ?_ rfl ?_; refine tk_ 5 ?_ rfl ?_; refine tk_ 6 ?_ rfl ?_
  refine rd_ 3 rfl (fun K hK => ?_)
  go_simp
  (refine (HLA.out _ (Kept.trans HK1.out (Kept.drew (Kept.refl (w.alloc (Obj.cells #[Value.slice s.Ac s.nc s.cc, Value.slice s.Am s.nm s.cm, Value.slice s.Ae s.ne s.ce] 28)))))).mono ?_; rintro e w1 ⟨rfl, k1⟩; have KB1 := Lib.hid (Kept.trans (Kept.drew (Kept.refl (w.alloc (Obj.cells #[Value.slice s.Ac s.nc s.cc, Value.slice s.Am s.nm s.cm, Value.slice s.Ae s.ne s.ce] 28)))) k1))
  go_wp2_with fail
  refine hK.out _ _ ⟨Kept.cell KB1.out HX0.out, Kept.cell KB1.out HX1.out, Kept.cell KB1.out HX2.out⟩ (fun hHeld => ?_)
  clear hK K
  (try simp only [Act.put, s1_, s2_, s3_, s4_, s5_, s6_])
  refine rd_ 7 rfl (fun K hK => ?_)
  go_simp
  (refine (HFI.out _ (Kept.trans HK1.out KB1.out)).mono ?_; rintro e w2 ⟨rfl, k2⟩; have KB2 := Lib.hid (Kept.trans KB1.out k2))
  go_wp2_with fail
  refine hK.out _ _ ⟨Kept.cell KB2.out HX0.out, Kept.cell KB2.out HX1.out, Kept.cell KB2.out HX2.out⟩ (fun hHeld => ?_)
  clear hK K
  (try simp only [Act.put, s1_, s2_, s3_, s4_, s5_, s6_])
  refine tk_ 8 ?_ rfl ?_; refine tk_ 9 ?_ rfl ?_
  refine wpAnyH_done (by kernel_rfl) ?_ _
  clear p0 p1 p2
  go_wp2_with fail
  go_ret2
  exact ⟨rfl, (Kept.trans HK1.out KB2.out)⟩
set_option maxRecDepth 100000 in
set_option maxHeartbeats 4000000 in
theorem r26Join (s : Sls) (n : Nrm) (form : Int) (A : Option Addr) (na ca : Nat) (a : List Int) (B : Option Addr) (nb cb : Nat) (b : List Int) (w : World) (hN : NormAt w s n) (htag : ∀ m ∈ n.decomp, m.tag.size ≤ 1000) (hna : na ≤ 300) (hnb : nb ≤ 300) (hA : Ints w A na a) (hB : Ints w B nb b) (lea : na ≤ ca) (leb : nb ≤ cb) :
    Calls Tryz.prog 21 #[s.val, .int .i64 form, .slice A na ca, .slice B nb cb] w (RetInts w (joinM n form a [] b)) := by
  have hk0_ := Kept.alloc (Kept.refl w) (Obj.cells #[Value.slice s.Ac s.nc s.cc, Value.slice s.Am s.nm s.cm, Value.slice s.Ae s.ne s.ce] 28)
  have HK1 := Lib.hid hk0_
  have hb0_ := (box_block w (Obj.cells #[Value.slice s.Ac s.nc s.cc, Value.slice s.Am s.nm s.cm, Value.slice s.Ae s.ne s.ce] 28))
  have x0_ := cell_of_block (i := 0) hb0_ rfl
  have x1_ := cell_of_block (i := 1) hb0_ rfl
  have x2_ := cell_of_block (i := 2) hb0_ rfl
  simp only [s4_, s5_, s6_] at x0_ x1_ x2_
  have HX0 := Lib.hid x0_
  have HX1 := Lib.hid x1_
  have HX2 := Lib.hid x2_
  have HB0 := Lib.hid hb0_
  clear x0_ x1_ x2_ hb0_
  have HED := Lib.hid (fun w' (hk : Kept w w') => r26Edges s n form A na ca a B nb cb b w' (hN.kept hk) htag hna hnb (hA.kept hk) (hB.kept hk))
  have HFO := Lib.hid (fun A' n' c' X w' (hk : Kept w w') (h1 : n' ≤ 1000) (hX : Ints w' A' n' X) => r23form s n form A' n' c' X w' (hN.kept hk) htag h1 hX)
  have HA := Lib.hid hA
  have HB := Lib.hid hB
  have HAN := Lib.hid hA.1
  have HBN := Lib.hid hB.1
  have hfa := jFrom_le n form a
  have htb := jTo_le n form b
  rw [← hA.1] at hfa
  rw [← hB.1] at htb
  have HJ := Lib.hid (show joinM n form a [] b = [a.take (jFrom n form a), formOf n form [a.drop (jFrom n form a), b.take (jTo n form b)].flatten, b.drop (jTo n form b)].flatten by simp [joinM_eq, jMid])
  have HML := Lib.hid (fun X => formOf_length n form X)
  generalize joinM n form a [] b = J at *
  generalize jFrom n form a = f at *
  generalize jTo n form b = t at *
  have HL2 := Lib.hid (show [a.drop f, b.take t].flatten.length ≤ 1000 by simp; have := HAN.out; have := HBN.out; omega)
  have HL3 := Lib.hid (show [a.take f, formOf n form [a.drop f, b.take t].flatten, b.drop t].flatten.length ≤ 1000000 by
    have h1 := HML.out [a.drop f, b.take t].flatten
    have h2 := HL2.out
    have h3 : (a.take f).length ≤ a.length := by rw [List.length_take]; omega
    have h4 : (b.drop t).length ≤ b.length := by simp
    have := HAN.out
    have := HBN.out
    simp only [List.flatten_cons, List.flatten_nil, List.append_nil, List.length_append] at *
    omega)
  clear hN htag hA hB hk0_
  have HFX := Lib.hid (fun A' n' c' w' hk h1 hX => HFO.out A' n' c' [a.drop f, b.take t].flatten w' hk h1 hX)
  generalize formOf n form [a.drop f, b.take t].flatten = Z at *
  unfold Sls.val at *
  go_enter Tryz.func21, Tryz.ntmps21
  have p0 := HX0.out
  have p1 := HX1.out
  have p2 := HX2.out
  go_wp2_with fail
  refine (HED.out _ (Kept.trans HK1.out (Kept.refl (w.alloc (Obj.cells #[Value.slice s.Ac s.nc s.cc, Value.slice s.Am s.nm s.cm, Value.slice s.Ae s.ne s.ce] 28))))).mono ?_
  rintro e w1 ⟨rfl, k1⟩
  clear p0 p1 p2
  have KB1 := Lib.hid (Kept.trans (Kept.refl (w.alloc (Obj.cells #[Value.slice s.Ac s.nc s.cc, Value.slice s.Am s.nm s.cm, Value.slice s.Ae s.ne s.ce] 28))) k1)
  have s1 := run_take1 A na ca f (by omega)
  have s2 := run_drop1 A na ca f hfa
  have s3 := run_take1 B nb cb t (by omega)
  have s4 := run_drop1 B nb cb t htb
  have p0 := Kept.cell KB1.out HX0.out
  have p1 := Kept.cell KB1.out HX1.out
  have p2 := Kept.cell KB1.out HX2.out
  go_wp2_with fail
  refine wp_region_held_drew (S := (fun w' => w'.cell? ⟨w.heap.size, 0, none⟩ = some (.slice s.Ac s.nc s.cc) ∧ w'.cell? ⟨w.heap.size, 1, none⟩ = some (.slice s.Am s.nm s.cm) ∧ w'.cell? ⟨w.heap.size, 2, none⟩ = some (.slice s.Ae s.ne s.ce))) (by kernel_rfl) ⟨p0, p1, p2⟩ (fun hHeld => ?_)
  refine tk_ 0 ?_ rfl ?_; refine tk_ 1 ?_ rfl ?_; refine tk_ 2 ?_ rfl ?_; refine tk_ 3 ?_ rfl ?_; refine tk_ 4 ?_ rfl ?_; refine tk_ 5 ?_ rfl ?_; refine tk_ 6 ?_ rfl ?_; refine tk_ 7 ?_ rfl ?_; refine tk_ 8 ?_ rfl ?_; refine tk_ 9 ?_ rfl ?_; refine tk_ 10 ?_ rfl ?_; refine tk_ 14 ?_ rfl ?_; refine tk_ 15 ?_ rfl ?_; refine tk_ 16 ?_ rfl ?_
  refine rd_ 11 rfl (fun K hK => ?_)
  skip
  go_simp
  refine hK.out _ _ ⟨Kept.cell (Kept.alloc (Kept.drew (Kept.refl w1)) (Obj.cells #[Value.slice (dropA A ca f) (na - f) (ca - f), Value.slice B t cb] 29)) p0, Kept.cell (Kept.alloc (Kept.drew (Kept.refl w1)) (Obj.cells #[Value.slice (dropA A ca f) (na - f) (ca - f), Value.slice B t cb] 29)) p1, Kept.cell (Kept.alloc (Kept.drew (Kept.refl w1)) (Obj.cells #[Value.slice (dropA A ca f) (na - f) (ca - f), Value.slice B t cb] 29)) p2⟩ (fun hHeld => ?_)
  clear hK K
  (try simp only [Act.put, s1_, s2_, s3_, s4_, s5_, s6_])
  refine rd_ 12 rfl (fun K hK => ?_)
  go_simp
  (refine (r26join _ 2 2 [a.drop f, b.take t] _ (by omega) (by have := HL2.out; omega) (Tab.two (w := w1.drew.alloc (Obj.cells #[Value.slice (dropA A ca f) (na - f) (ca - f), Value.slice B t cb] 29)) (alloc_at (W := w1.drew) (o := (Obj.cells #[Value.slice (dropA A ca f) (na - f) (ca - f), Value.slice B t cb] 29)) rfl) (by omega) (by omega) (Ints.drop_ (HA.out.kept (Kept.trans HK1.out (Kept.trans KB1.out (Kept.alloc (Kept.drew (Kept.refl w1)) (Obj.cells #[Value.slice (dropA A ca f) (na - f) (ca - f), Value.slice B t cb] 29))))) hfa lea) (Ints.front_ (HB.out.kept (Kept.trans HK1.out (Kept.trans KB1.out (Kept.alloc (Kept.drew (Kept.refl w1)) (Obj.cells #[Value.slice (dropA A ca f) (na - f) (ca - f), Value.slice B t cb] 29))))) htb))).mono ?_; rintro e w3 ⟨A3, n3, c3, rfl, le3, i3, fr3, k3⟩; have I3 := Lib.hid i3; have K3 := Lib.hid (Kept.trans (Kept.alloc (Kept.drew (Kept.refl w1)) (Obj.cells #[Value.slice (dropA A ca f) (na - f) (ca - f), Value.slice B t cb] 29)) k3); have hn3 : n3 ≤ 1000 := (by rw [i3.1]; exact HL2.out); clear i3 fr3 k3)
  go_wp2_with fail
  refine hK.out _ _ ⟨Kept.cell K3.out p0, Kept.cell K3.out p1, Kept.cell K3.out p2⟩ (fun hHeld => ?_)
  clear hK K
  (try simp only [Act.put, s1_, s2_, s3_, s4_, s5_, s6_])
  refine rd_ 13 rfl (fun K hK => ?_)
  go_simp
  (refine (HFX.out A3 n3 c3 _ (Kept.trans HK1.out (Kept.trans KB1.out K3.out)) hn3 I3.out).mono ?_; rintro e w4 ⟨A4, n4, c4, rfl, le4, i4, k4⟩; have I4 := Lib.hid i4; have K4 := Lib.hid (Kept.trans K3.out k4); clear i4 k4)
  go_wp2_with fail
  refine hK.out _ _ ⟨Kept.cell K4.out p0, Kept.cell K4.out p1, Kept.cell K4.out p2⟩ (fun hHeld => ?_)
  clear hK K
  (try simp only [Act.put, s1_, s2_, s3_, s4_, s5_, s6_])
  refine rd_ 17 rfl (fun K hK => ?_)
  skip
  go_simp
  refine hK.out _ _ ⟨Kept.cell (Kept.alloc K4.out (Obj.cells #[Value.slice A f ca, Value.slice A4 n4 c4, Value.slice (dropA B cb t) (nb - t) (cb - t)] 29)) p0, Kept.cell (Kept.alloc K4.out (Obj.cells #[Value.slice A f ca, Value.slice A4 n4 c4, Value.slice (dropA B cb t) (nb - t) (cb - t)] 29)) p1, Kept.cell (Kept.alloc K4.out (Obj.cells #[Value.slice A f ca, Value.slice A4 n4 c4, Value.slice (dropA B cb t) (nb - t) (cb - t)] 29)) p2⟩ (fun hHeld => ?_)
  clear hK K
  (try simp only [Act.put, s1_, s2_, s3_, s4_, s5_, s6_])
  refine rd_ 18 rfl (fun K hK => ?_)
  go_simp
  (refine (r26join _ 3 3 [a.take f, Z, b.drop t] _ (by omega) (by have := HL3.out; omega) (Tab.three (w := w4.alloc (Obj.cells #[Value.slice A f ca, Value.slice A4 n4 c4, Value.slice (dropA B cb t) (nb - t) (cb - t)] 29)) (alloc_at (W := w4) (o := (Obj.cells #[Value.slice A f ca, Value.slice A4 n4 c4, Value.slice (dropA B cb t) (nb - t) (cb - t)] 29)) rfl) (by omega) le4 (by omega) (Ints.front_ (HA.out.kept (Kept.trans HK1.out (Kept.trans KB1.out (Kept.alloc K4.out (Obj.cells #[Value.slice A f ca, Value.slice A4 n4 c4, Value.slice (dropA B cb t) (nb - t) (cb - t)] 29))))) hfa) (I4.out.kept (Kept.alloc (Kept.refl w4) (Obj.cells #[Value.slice A f ca, Value.slice A4 n4 c4, Value.slice (dropA B cb t) (nb - t) (cb - t)] 29))) (Ints.drop_ (HB.out.kept (Kept.trans HK1.out (Kept.trans KB1.out (Kept.alloc K4.out (Obj.cells #[Value.slice A f ca, Value.slice A4 n4 c4, Value.slice (dropA B cb t) (nb - t) (cb - t)] 29))))) htb leb))).mono ?_; rintro e w6 ⟨A6, n6, c6, rfl, le6, i6, fr6, k6⟩; have I6 := Lib.hid i6; have K6 := Lib.hid (Kept.trans (Kept.alloc K4.out (Obj.cells #[Value.slice A f ca, Value.slice A4 n4 c4, Value.slice (dropA B cb t) (nb - t) (cb - t)] 29)) k6); clear i6 fr6 k6)
  go_wp2_with fail
  refine hK.out _ _ ⟨Kept.cell K6.out p0, Kept.cell K6.out p1, Kept.cell K6.out p2⟩ (fun hHeld => ?_)
  clear hK K
  (try simp only [Act.put, s1_, s2_, s3_, s4_, s5_, s6_])
  refine tk_ 19 ?_ rfl ?_
  refine wpAnyH_done (by kernel_rfl) ?_ _
  clear p0 p1 p2
  go_wp2_with fail
  go_ret
  exact ⟨A6, n6, c6, rfl, le6, by rw [HJ.out]; exact I6.out, Kept.trans HK1.out (Kept.trans KB1.out K6.out)⟩
set_option maxRecDepth 100000 in
set_option maxHeartbeats 4000000 in
theorem r26Replace (s : Sls) (n : Nrm) (form : Int) (A : Option Addr) (nt ct : Nat) (text : List Int) (ea ed : Int) (I : Option Addr) (ni ci : Nat) (ins : List Int) (w : World) (hN : NormAt w s n) (htag : ∀ m ∈ n.decomp, m.tag.size ≤ 1000)
    (hnt : nt ≤ 300) (hni : ni ≤ 300) (let_ : nt ≤ ct) (lei : ni ≤ ci) (hT : Ints w A nt text) (hI : Ints w I ni ins) :
    Calls Tryz.prog 23 #[s.val, .int .i64 form, .slice A nt ct, .agg #[.int .i64 ea, .int .i64 ed, .slice I ni ci]] w (RetRepl w n form text ea ed ins) := by
  have hk0_ := Kept.alloc (Kept.refl w) (Obj.cells #[Value.slice s.Ac s.nc s.cc, Value.slice s.Am s.nm s.cm, Value.slice s.Ae s.ne s.ce] 28)
  have hk1_ := Kept.alloc hk0_ (Obj.cells #[Value.int IntKind.i64 ea, Value.int IntKind.i64 ed, Value.slice I ni ci] 38)
  have hk2_ := Kept.alloc hk1_ (Obj.cells #[Value.int IntKind.i64 0, Value.int IntKind.i64 0] 40)
  have HK1 := Lib.hid hk2_
  have hb0_ := (alloc_lift (o := (Obj.cells #[Value.int IntKind.i64 0, Value.int IntKind.i64 0] 40)) (alloc_lift (o := (Obj.cells #[Value.int IntKind.i64 ea, Value.int IntKind.i64 ed, Value.slice I ni ci] 38)) (box_block w (Obj.cells #[Value.slice s.Ac s.nc s.cc, Value.slice s.Am s.nm s.cm, Value.slice s.Ae s.ne s.ce] 28))))
  have x0_ := cell_of_block (i := 0) hb0_ rfl
  have x1_ := cell_of_block (i := 1) hb0_ rfl
  have x2_ := cell_of_block (i := 2) hb0_ rfl
  have hb1_ := (alloc_lift (o := (Obj.cells #[Value.int IntKind.i64 0, Value.int IntKind.i64 0] 40)) (box_block (w.alloc (Obj.cells #[Value.slice s.Ac s.nc s.cc, Value.slice s.Am s.nm s.cm, Value.slice s.Ae s.ne s.ce] 28)) (Obj.cells #[Value.int IntKind.i64 ea, Value.int IntKind.i64 ed, Value.slice I ni ci] 38)))
  simp only [World.size_alloc] at hb1_
  have x3_ := cell_of_block (i := 0) hb1_ rfl
  have x4_ := cell_of_block (i := 1) hb1_ rfl
  have x5_ := cell_of_block (i := 2) hb1_ rfl
  have hb2_ := (box_block ((w.alloc (Obj.cells #[Value.slice s.Ac s.nc s.cc, Value.slice s.Am s.nm s.cm, Value.slice s.Ae s.ne s.ce] 28)).alloc (Obj.cells #[Value.int IntKind.i64 ea, Value.int IntKind.i64 ed, Value.slice I ni ci] 38)) (Obj.cells #[Value.int IntKind.i64 0, Value.int IntKind.i64 0] 40))
  simp only [World.size_alloc] at hb2_
  have x6_ := cell_of_block (i := 0) hb2_ rfl
  have x7_ := cell_of_block (i := 1) hb2_ rfl
  simp only [s4_, s5_, s6_] at x0_ x1_ x2_ x3_ x4_ x5_ x6_ x7_
  have HX0 := Lib.hid x0_
  have HX1 := Lib.hid x1_
  have HX2 := Lib.hid x2_
  have HX3 := Lib.hid x3_
  have HX4 := Lib.hid x4_
  have HX5 := Lib.hid x5_
  have HX6 := Lib.hid x6_
  have HX7 := Lib.hid x7_
  have HB0 := Lib.hid hb0_
  have HB1 := Lib.hid hb1_
  have HB2 := Lib.hid hb2_
  clear x0_ x1_ x2_ x3_ x4_ x5_ x6_ x7_ hb0_ hb1_ hb2_
  have HN := Lib.hid hN
  have HTG := Lib.hid htag
  have HT := Lib.hid hT
  have HI := Lib.hid hI
  have HTN := Lib.hid hT.1
  have HIN := Lib.hid hI.1
  clear hN htag hT hI hk0_ hk1_ hk2_
  by_cases hf : form < 1 ∨ 4 < form
  · have HF := Lib.hid hf
    have h1 : form < 1 ∨ (¬ form < 1 ∧ 4 < form) := by omega
    clear hf
    rcases h1 with h1 | ⟨h1, h2⟩
    all_goals
      unfold Sls.val at *
      go_enter Tryz.func23, Tryz.ntmps23
      have g0 := HX6.out
      have g1 := HX7.out
      go_wp2_with fail
      refine bodyPost_ret (v := .tuple #[.slice none 0 0, .agg #[.int .i64 0, .int .i64 0], .int .i64 8]) (by simp [results, Tryz.results23, go_sem, g0, g1]) rfl ?_
      unfold RetRepl
      rw [if_pos HF.out]
      exact ⟨rfl, HK1.out⟩
  · have HF := Lib.hid hf
    have hf1 : ¬ form < 1 := by omega
    have hf2 : ¬ 4 < form := by omega
    clear hf
    by_cases hb : ea < 0 ∨ ed < 0 ∨ (nt : Int) < ea ∨ (nt : Int) - ea < ed
    · have HB := Lib.hid hb
      have hb2 : ea < 0 ∨ (0 ≤ ea ∧ ed < 0) ∨ (0 ≤ ea ∧ 0 ≤ ed ∧ (nt : Int) < ea) ∨ (0 ≤ ea ∧ 0 ≤ ed ∧ ea ≤ (nt : Int) ∧ (nt : Int) - ea < ed) := by omega
      clear hb
      unfold Sls.val at *
      rcases hb2 with h1 | ⟨h1, h2⟩ | ⟨h1, h2, h3⟩ | ⟨h1, h2, h3, h4⟩
      all_goals
        go_enter Tryz.func23, Tryz.ntmps23
        have g0 := HX6.out
        have g1 := HX7.out
        have g2 := HX3.out
        have g3 := HX4.out
        go_wp2_with fail
        refine bodyPost_ret (v := .tuple #[.slice none 0 0, .agg #[.int .i64 0, .int .i64 0], .int .i64 1]) (by simp [results, Tryz.results23, go_sem, g0, g1]) rfl ?_
        unfold RetRepl
        rw [if_neg HF.out, if_pos (by rw [← HTN.out]; exact HB.out)]
        exact ⟨rfl, HK1.out⟩
    · have h1 : 0 ≤ ea := by omega
      have h2 : 0 ≤ ed := by omega
      have h3 : ea ≤ (nt : Int) := by omega
      have h4 : ed ≤ (nt : Int) - ea := by omega
      clear hb
      obtain ⟨p, rfl⟩ := Int.eq_ofNat_of_zero_le h1
      obtain ⟨d, rfl⟩ := Int.eq_ofNat_of_zero_le h2
      have hp : p ≤ nt := by omega
      have hd : p + d ≤ nt := by omega
      have HED := Lib.hid (fun w' (hk : Kept w w') => r26Edges s n form A p ct (text.take p) (dropA A ct (p + d)) (nt - (p + d)) (ct - (p + d)) (text.drop (p + d)) w' (HN.out.kept hk) HTG.out (by omega) (by omega) (Ints.front_ (HT.out.kept hk) hp) (Ints.drop_ (HT.out.kept hk) hd let_))
      have HFO := Lib.hid (fun A' n' c' X w' (hk : Kept w w') (h1 : n' ≤ 1000) (hX : Ints w' A' n' X) => r23form s n form A' n' c' X w' (HN.out.kept hk) HTG.out h1 hX)
      have HTL := Lib.hid (show ((p : Int) + (d : Int)).toNat = p + d by omega)
      suffices hs : Calls Tryz.prog 23 #[s.val, .int .i64 form, .slice A nt ct, .agg #[.int .i64 (p : Int), .int .i64 (d : Int), .slice I ni ci]] w (fun e w' => ∃ Q k c, e = .returned (.tuple #[.slice Q k c, .agg #[.int .i64 (jFrom n form (text.take p) : Nat), .int .i64 ((jFrom n form (text.take p) + (jMid n form (text.take p) ins (text.drop (p + d))).length : Nat) : Int)], .int .i64 0]) ∧
          k ≤ c ∧ Ints w' Q k (joinM n form (text.take p) ins (text.drop (p + d))) ∧ (∀ x, Q = some x → w.heap.size ≤ x.block) ∧ Kept w w') from hs.mono (fun e w' hx => by
        unfold RetRepl
        rw [if_neg HF.out, if_neg (by rw [← HTN.out]; omega), HTL.out, Int.toNat_natCast]
        exact hx)
      have HXL := Lib.hid (Ints.front_ HT.out hp)
      have HYL := Lib.hid (Ints.drop_ HT.out hd let_)
      have hfa := jFrom_le n form (text.take p)
      have htb := jTo_le n form (text.drop (p + d))
      rw [← HXL.out.1] at hfa
      rw [← HYL.out.1] at htb
      have HJ := Lib.hid (show joinM n form (text.take p) ins (text.drop (p + d)) = [(text.take p).take (jFrom n form (text.take p)), formOf n form [(text.take p).drop (jFrom n form (text.take p)), ins, (text.drop (p + d)).take (jTo n form (text.drop (p + d)))].flatten, (text.drop (p + d)).drop (jTo n form (text.drop (p + d)))].flatten by simp [joinM_eq, jMid])
      have HM := Lib.hid (show jMid n form (text.take p) ins (text.drop (p + d)) = formOf n form [(text.take p).drop (jFrom n form (text.take p)), ins, (text.drop (p + d)).take (jTo n form (text.drop (p + d)))].flatten by simp [jMid])
      have HML := Lib.hid (fun X => formOf_length n form X)
      have s1 := run_take1 A nt ct p (by omega)
      have s2 := run_drop1 A nt ct (p + d) hd
      rw [Int.natCast_add] at s2
      have z1 : IntKind.i64.wrap ((p : Int) + (d : Int)) = (p : Int) + (d : Int) := IntWalk.i64_in _ (by omega)
      have HXA := Lib.hid (fun w' (hk : Kept w w') => Ints.front_ (HT.out.kept hk) hp)
      have HYA := Lib.hid (fun w' (hk : Kept w w') => Ints.drop_ (HT.out.kept hk) hd let_)
      have hlp : p ≤ ct := by omega
      have hll : nt - (p + d) ≤ ct - (p + d) := by omega
      have hl1 : nt - (p + d) ≤ 300 := by omega
      rw [HM.out] at *
      clear HM HXL HYL
      generalize joinM n form (text.take p) ins (text.drop (p + d)) = J at *
      generalize jFrom n form (text.take p) = f at *
      generalize jTo n form (text.drop (p + d)) = t at *
      generalize text.take p = xs at *
      generalize text.drop (p + d) = ys at *
      have HXN := Lib.hid (HXA.out w (Kept.refl w)).1
      have HYN := Lib.hid (HYA.out w (Kept.refl w)).1
      have HL2 := Lib.hid (show [xs.drop f, ins, ys.take t].flatten.length ≤ 1000 by simp; have := HXN.out; have := HYN.out; have := HIN.out; omega)
      have HLZ := Lib.hid (show (formOf n form [xs.drop f, ins, ys.take t].flatten).length ≤ 64000 by have h1 := HML.out [xs.drop f, ins, ys.take t].flatten; have h2 := HL2.out; omega)
      have HFX := Lib.hid (fun A' n' c' w' hk h1 hX => HFO.out A' n' c' [xs.drop f, ins, ys.take t].flatten w' hk h1 hX)
      have HL3 := Lib.hid (show [xs.take f, formOf n form [xs.drop f, ins, ys.take t].flatten, ys.drop t].flatten.length ≤ 1000000 by
        have h1 := HLZ.out
        have h3 : (xs.take f).length ≤ xs.length := by rw [List.length_take]; omega
        have h4 : (ys.drop t).length ≤ ys.length := by simp
        have := HXN.out
        have := HYN.out
        simp only [List.flatten_cons, List.flatten_nil, List.append_nil, List.length_append] at *
        omega)
      generalize formOf n form [xs.drop f, ins, ys.take t].flatten = Z at *
      clear HFO HTL h1 h2 h3 h4
      unfold Sls.val at *
      go_enter Tryz.func23, Tryz.ntmps23
      have p0 := HX0.out
      have p1 := HX1.out
      have p2 := HX2.out
      have p3 := HX3.out
      have p4 := HX4.out
      have p5 := HX5.out
      have p6 := HX6.out
      have p7 := HX7.out
      go_wp2_with fail
      refine wp_region_held_drew (S := (fun w' => w'.cell? ⟨w.heap.size, 0, none⟩ = some (.slice s.Ac s.nc s.cc) ∧ w'.cell? ⟨w.heap.size, 1, none⟩ = some (.slice s.Am s.nm s.cm) ∧ w'.cell? ⟨w.heap.size, 2, none⟩ = some (.slice s.Ae s.ne s.ce) ∧ w'.cell? ⟨w.heap.size + 1, 0, none⟩ = some (.int .i64 (p : Int)) ∧ w'.cell? ⟨w.heap.size + 1, 1, none⟩ = some (.int .i64 (d : Int)) ∧ w'.cell? ⟨w.heap.size + 1, 2, none⟩ = some (.slice I ni ci) ∧ w'.cell? ⟨w.heap.size + 1 + 1, 0, none⟩ = some (.int .i64 0) ∧ w'.cell? ⟨w.heap.size + 1 + 1, 1, none⟩ = some (.int .i64 0))) (by kernel_rfl) ⟨p0, p1, p2, p3, p4, p5, p6, p7⟩ (fun hHeld => ?_)
      refine tk_ 0 ?_ rfl ?_; refine tk_ 1 ?_ rfl ?_; refine tk_ 2 ?_ rfl ?_; refine tk_ 3 ?_ rfl ?_; refine tk_ 4 ?_ rfl ?_; refine tk_ 5 ?_ rfl ?_; refine tk_ 6 ?_ rfl ?_; refine tk_ 7 ?_ rfl ?_; refine tk_ 8 ?_ rfl ?_; refine tk_ 9 ?_ rfl ?_; refine tk_ 10 ?_ rfl ?_; refine tk_ 11 ?_ rfl ?_; refine tk_ 12 ?_ rfl ?_
      refine wpAnyH_done (by kernel_rfl) ?_ _
      clear p0 p1 p2 p3 p4 p5 p6 p7
      clear s1 s2 z1
      have p0 := HX0.out
      have p1 := HX1.out
      have p2 := HX2.out
      have p3 := HX3.out
      have p4 := HX4.out
      have p5 := HX5.out
      have p6 := HX6.out
      have p7 := HX7.out
      go_wp2_with fail
      refine (HED.out _ (Kept.trans HK1.out (Kept.drew (Kept.refl (((w.alloc (Obj.cells #[Value.slice s.Ac s.nc s.cc, Value.slice s.Am s.nm s.cm, Value.slice s.Ae s.ne s.ce] 28)).alloc (Obj.cells #[Value.int IntKind.i64 (p : Int), Value.int IntKind.i64 (d : Int), Value.slice I ni ci] 38)).alloc (Obj.cells #[Value.int IntKind.i64 0, Value.int IntKind.i64 0] 40)))))).mono ?_
      rintro e w1 ⟨rfl, k1⟩
      clear p0 p1 p2 p3 p4 p5 p6 p7
      have KB1 := Lib.hid (Kept.trans (Kept.drew (Kept.refl (((w.alloc (Obj.cells #[Value.slice s.Ac s.nc s.cc, Value.slice s.Am s.nm s.cm, Value.slice s.Ae s.ne s.ce] 28)).alloc (Obj.cells #[Value.int IntKind.i64 (p : Int), Value.int IntKind.i64 (d : Int), Value.slice I ni ci] 38)).alloc (Obj.cells #[Value.int IntKind.i64 0, Value.int IntKind.i64 0] 40)))) k1)
      generalize hdA : dropA A ct (p + d) = D at *
      generalize hly : nt - (p + d) = ly at *
      generalize hcy : ct - (p + d) = cy at *
      clear hdA hly hcy
      have s1 := run_take1 A p ct f (by omega)
      have s2 := run_drop1 A p ct f hfa
      have s3 := run_take1 D ly cy t (by omega)
      have s4 := run_drop1 D ly cy t htb
      have p0 := Kept.cell KB1.out HX0.out
      have p1 := Kept.cell KB1.out HX1.out
      have p2 := Kept.cell KB1.out HX2.out
      have p3 := Kept.cell KB1.out HX3.out
      have p4 := Kept.cell KB1.out HX4.out
      have p5 := Kept.cell KB1.out HX5.out
      have p6 := Kept.cell KB1.out HX6.out
      have p7 := Kept.cell KB1.out HX7.out
      go_wp2_with fail
      refine wp_region_held_drew (S := (fun w' => w'.cell? ⟨w.heap.size, 0, none⟩ = some (.slice s.Ac s.nc s.cc) ∧ w'.cell? ⟨w.heap.size, 1, none⟩ = some (.slice s.Am s.nm s.cm) ∧ w'.cell? ⟨w.heap.size, 2, none⟩ = some (.slice s.Ae s.ne s.ce) ∧ w'.cell? ⟨w.heap.size + 1, 0, none⟩ = some (.int .i64 (p : Int)) ∧ w'.cell? ⟨w.heap.size + 1, 1, none⟩ = some (.int .i64 (d : Int)) ∧ w'.cell? ⟨w.heap.size + 1, 2, none⟩ = some (.slice I ni ci) ∧ w'.cell? ⟨w.heap.size + 1 + 1, 0, none⟩ = some (.int .i64 0) ∧ w'.cell? ⟨w.heap.size + 1 + 1, 1, none⟩ = some (.int .i64 0))) (by kernel_rfl) ⟨p0, p1, p2, p3, p4, p5, p6, p7⟩ (fun hHeld => ?_)
      refine tk_ 0 ?_ rfl ?_; refine tk_ 1 ?_ rfl ?_; refine tk_ 2 ?_ rfl ?_; refine tk_ 3 ?_ rfl ?_; refine tk_ 4 ?_ rfl ?_; refine tk_ 5 ?_ rfl ?_; refine tk_ 6 ?_ rfl ?_; refine tk_ 7 ?_ rfl ?_; refine tk_ 8 ?_ rfl ?_; refine tk_ 9 ?_ rfl ?_
      refine rd_ 10 rfl (fun K hK => ?_)
      skip
      go_simp
      refine hK.out _ _ ⟨Kept.cell (Kept.alloc (Kept.drew (Kept.refl w1)) (Obj.cells #[Value.slice (dropA A ct f) (p - f) (ct - f), Value.slice I ni ci, Value.slice D t cy] 29)) p0, Kept.cell (Kept.alloc (Kept.drew (Kept.refl w1)) (Obj.cells #[Value.slice (dropA A ct f) (p - f) (ct - f), Value.slice I ni ci, Value.slice D t cy] 29)) p1, Kept.cell (Kept.alloc (Kept.drew (Kept.refl w1)) (Obj.cells #[Value.slice (dropA A ct f) (p - f) (ct - f), Value.slice I ni ci, Value.slice D t cy] 29)) p2, Kept.cell (Kept.alloc (Kept.drew (Kept.refl w1)) (Obj.cells #[Value.slice (dropA A ct f) (p - f) (ct - f), Value.slice I ni ci, Value.slice D t cy] 29)) p3, Kept.cell (Kept.alloc (Kept.drew (Kept.refl w1)) (Obj.cells #[Value.slice (dropA A ct f) (p - f) (ct - f), Value.slice I ni ci, Value.slice D t cy] 29)) p4, Kept.cell (Kept.alloc (Kept.drew (Kept.refl w1)) (Obj.cells #[Value.slice (dropA A ct f) (p - f) (ct - f), Value.slice I ni ci, Value.slice D t cy] 29)) p5, Kept.cell (Kept.alloc (Kept.drew (Kept.refl w1)) (Obj.cells #[Value.slice (dropA A ct f) (p - f) (ct - f), Value.slice I ni ci, Value.slice D t cy] 29)) p6, Kept.cell (Kept.alloc (Kept.drew (Kept.refl w1)) (Obj.cells #[Value.slice (dropA A ct f) (p - f) (ct - f), Value.slice I ni ci, Value.slice D t cy] 29)) p7⟩ (fun hHeld => ?_)
      clear hK K
      (try simp only [Act.put, s1_, s2_, s3_, s4_, s5_, s6_])
      refine rd_ 11 rfl (fun K hK => ?_)
      go_simp
      (refine (r26join _ 3 3 [xs.drop f, ins, ys.take t] _ (by omega) (by have := HL2.out; omega) (Tab.three (w := w1.drew.alloc (Obj.cells #[Value.slice (dropA A ct f) (p - f) (ct - f), Value.slice I ni ci, Value.slice D t cy] 29)) (alloc_at (W := w1.drew) (o := (Obj.cells #[Value.slice (dropA A ct f) (p - f) (ct - f), Value.slice I ni ci, Value.slice D t cy] 29)) rfl) (by omega) lei (by omega) (Ints.drop_ (HXA.out _ (Kept.trans HK1.out (Kept.trans KB1.out (Kept.alloc (Kept.drew (Kept.refl w1)) (Obj.cells #[Value.slice (dropA A ct f) (p - f) (ct - f), Value.slice I ni ci, Value.slice D t cy] 29))))) hfa hlp) (HI.out.kept (Kept.trans HK1.out (Kept.trans KB1.out (Kept.alloc (Kept.drew (Kept.refl w1)) (Obj.cells #[Value.slice (dropA A ct f) (p - f) (ct - f), Value.slice I ni ci, Value.slice D t cy] 29))))) (Ints.front_ (HYA.out _ (Kept.trans HK1.out (Kept.trans KB1.out (Kept.alloc (Kept.drew (Kept.refl w1)) (Obj.cells #[Value.slice (dropA A ct f) (p - f) (ct - f), Value.slice I ni ci, Value.slice D t cy] 29))))) htb))).mono ?_; rintro e w3 ⟨A3, n3, c3, rfl, le3, i3, fr3, k3⟩; have I3 := Lib.hid i3; have K3 := Lib.hid (Kept.trans (Kept.alloc (Kept.drew (Kept.refl w1)) (Obj.cells #[Value.slice (dropA A ct f) (p - f) (ct - f), Value.slice I ni ci, Value.slice D t cy] 29)) k3); have hn3 : n3 ≤ 1000 := (by rw [i3.1]; exact HL2.out); clear i3 fr3 k3)
      go_wp2_with fail
      refine hK.out _ _ ⟨Kept.cell K3.out p0, Kept.cell K3.out p1, Kept.cell K3.out p2, Kept.cell K3.out p3, Kept.cell K3.out p4, Kept.cell K3.out p5, Kept.cell K3.out p6, Kept.cell K3.out p7⟩ (fun hHeld => ?_)
      clear hK K
      (try simp only [Act.put, s1_, s2_, s3_, s4_, s5_, s6_])
      refine rd_ 12 rfl (fun K hK => ?_)
      go_simp
      (refine (HFX.out A3 n3 c3 _ (Kept.trans HK1.out (Kept.trans KB1.out K3.out)) hn3 I3.out).mono ?_; rintro e w4 ⟨A4, n4, c4, rfl, le4, i4, k4⟩; have I4 := Lib.hid i4; have K4 := Lib.hid (Kept.trans K3.out k4); have hn4 : n4 ≤ 64000 := (by rw [i4.1]; exact HLZ.out); clear i4 k4)
      go_wp2_with fail
      refine hK.out _ _ ⟨Kept.cell K4.out p0, Kept.cell K4.out p1, Kept.cell K4.out p2, Kept.cell K4.out p3, Kept.cell K4.out p4, Kept.cell K4.out p5, Kept.cell K4.out p6, Kept.cell K4.out p7⟩ (fun hHeld => ?_)
      clear hK K
      (try simp only [Act.put, s1_, s2_, s3_, s4_, s5_, s6_])
      refine tk_ 13 ?_ rfl ?_
      refine wpAnyH_done (by kernel_rfl) ?_ _
      clear p0 p1 p2 p3 p4 p5 p6 p7
      obtain ⟨hi, hhi⟩ : ∃ hi : Nat, hi = f + n4 := ⟨_, rfl⟩
      have HHI := Lib.hid hhi
      have z2 : (f : Int) + (n4 : Int) = (hi : Int) := by omega
      have z3 : IntKind.i64.wrap (hi : Int) = (hi : Int) := IntWalk.i64_in _ (by omega)
      clear hhi
      have KW4 := Lib.hid (Kept.trans HK1.out (Kept.trans KB1.out K4.out))
      have HZB := Lib.hid (((Kept.trans KB1.out K4.out).block _ (block_lt HB2.out)).trans HB2.out)
      go_wp2_with fail
      refine wp_region_held_drew (S := (fun _ => True)) (by kernel_rfl) trivial (fun hHeld => ?_)
      refine tk_ 0 ?_ rfl ?_; refine tk_ 1 ?_ rfl ?_; refine tk_ 2 ?_ rfl ?_; refine tk_ 3 ?_ rfl ?_; refine tk_ 4 ?_ rfl ?_; refine tk_ 5 ?_ rfl ?_; refine tk_ 6 ?_ rfl ?_; refine tk_ 9 ?_ rfl ?_; refine tk_ 10 ?_ rfl ?_; refine tk_ 11 ?_ rfl ?_; refine tk_ 12 ?_ rfl ?_; refine tk_ 13 ?_ rfl ?_; refine tk_ 14 ?_ rfl ?_
      refine rd_ 7 rfl (fun K hK => ?_)
      skip
      go_simp
      refine hK.out _ _ trivial (fun hHeld => ?_)
      clear hK K
      (try simp only [Act.put, s1_, s2_, s3_, s4_, s5_, s6_])
      refine rd_ 8 rfl (fun K hK => ?_)
      go_simp
      (refine (r26join _ 3 3 [xs.take f, Z, ys.drop t] _ (by omega) (by have := HL3.out; omega) (Tab.three (w := w4.drew.alloc (Obj.cells #[Value.slice A f ct, Value.slice A4 n4 c4, Value.slice (dropA D cy t) (ly - t) (cy - t)] 29)) (alloc_at (W := w4.drew) (o := (Obj.cells #[Value.slice A f ct, Value.slice A4 n4 c4, Value.slice (dropA D cy t) (ly - t) (cy - t)] 29)) rfl) (by omega) le4 (by omega) (Ints.front_ (HXA.out _ (Kept.trans KW4.out (Kept.alloc (Kept.drew (Kept.refl w4)) (Obj.cells #[Value.slice A f ct, Value.slice A4 n4 c4, Value.slice (dropA D cy t) (ly - t) (cy - t)] 29)))) hfa) (I4.out.kept (Kept.alloc (Kept.drew (Kept.refl w4)) (Obj.cells #[Value.slice A f ct, Value.slice A4 n4 c4, Value.slice (dropA D cy t) (ly - t) (cy - t)] 29))) (Ints.drop_ (HYA.out _ (Kept.trans KW4.out (Kept.alloc (Kept.drew (Kept.refl w4)) (Obj.cells #[Value.slice A f ct, Value.slice A4 n4 c4, Value.slice (dropA D cy t) (ly - t) (cy - t)] 29)))) htb hll))).mono ?_; rintro e w6 ⟨A6, n6, c6, rfl, le6, i6, fr6, k6⟩; have I6 := Lib.hid i6; have K6 := Lib.hid (Kept.trans (Kept.alloc (Kept.drew (Kept.refl w4)) (Obj.cells #[Value.slice A f ct, Value.slice A4 n4 c4, Value.slice (dropA D cy t) (ly - t) (cy - t)] 29)) k6); have HFR := Lib.hid fr6; clear i6 fr6 k6; have HZ6 := Lib.hid ((K6.out.block _ (block_lt HZB.out)).trans HZB.out))
      go_wp2_with fail
      refine hK.out _ _ trivial (fun hHeld => ?_)
      clear hK K
      (try simp only [Act.put, s1_, s2_, s3_, s4_, s5_, s6_])
      refine tk_ 15 ?_ rfl ?_
      refine rd_ 16 rfl (fun K hK => ?_)
      have z0 := cell_of_block (w := w6) (i := 0) HZ6.out rfl
      have z1 := cell_of_block (w := w6) (i := 1) HZ6.out rfl
      have y0 := frozen_of_block (w := w6) (i := 0) HZ6.out
      have y1 := frozen_of_block (w := w6) (i := 1) HZ6.out
      simp only [s4_, s5_, s6_] at z0 z1
      go_simp
      refine hK.out _ _ trivial (fun hHeld => ?_)
      clear hK K
      (try simp only [Act.put, s1_, s2_, s3_, s4_, s5_, s6_])
      refine tk_ 17 ?_ rfl ?_
      refine wpAnyH_done (by kernel_rfl) ?_ _
      go_wp2_with fail
      have hF := cells2_set HZ6.out (.int .i64 (f : Int)) (.int .i64 (hi : Int))
      have g0 := cell_of_block (i := 0) hF rfl
      have g1 := cell_of_block (i := 1) hF rfl
      simp only [s4_, s5_, s6_] at g0 g1
      clear z0 z1 y0 y1
      refine bodyPost_ret (v := .tuple #[.slice A6 n6 c6, .agg #[.int .i64 (f : Int), .int .i64 (hi : Int)], .int .i64 0]) (by simp [results, Tryz.results23, go_sem, g0, g1]) rfl ?_
      have hbb : w.heap.size + 1 + 1 < w4.heap.size := block_lt HZB.out
      have hne : ∀ x, A6 = some x → x.block ≠ w.heap.size + 1 + 1 := fun x hx => by have h1 := HFR.out x hx; simp at h1; omega
      have hkf := Kept.setCell (Kept.setCell (Kept.trans KW4.out K6.out) (p := ⟨w.heap.size + 1 + 1, 0, none⟩) (by simp; omega) (.int .i64 (f : Int))) (p := ⟨w.heap.size + 1 + 1, 1, none⟩) (by simp; omega) (.int .i64 (hi : Int))
      exact ⟨A6, n6, c6, by rw [HHI.out, I4.out.1], le6, by rw [HJ.out]; exact Ints.sets (Ints.sets I6.out hne 0 _) hne 1 _, fun x hx => by have h1 := HFR.out x hx; have h2 := KW4.out.size; simp at h1; omega, hkf⟩
end Go.Proofs.YtjfhcmkcmdnhoaaGreatDoor
