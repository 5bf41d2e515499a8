/- normalize.Form. The reference's Sort of layer 20. codepoint.Compare and Equal. normalize.Is, Same and First. -/
import Derived.Deep.RegionHeld3
import Derived.Test.YtomgchfjachedaaGreatDoorKCmc
import Derived.Test.YtomgchfjachedaaGreatDoorKCma
import Derived.Test.YtomgchfjachedaaGreatDoorKRfb
import Derived.Test.YtomgchfjachedaaGreatDoorKApp
import Derived.Test.YtomgchfjachedaaGreatDoorKFar
import Derived.Test.YtomgchfjachedaaGreatDoorKRfj
import Derived.Test.YtomgchfjachedaaGreatDoorKSet
import Derived.Test.YtomgchfjachedaaGreatDoorKPq
import Derived.Test.YtomgchfjachedaaGreatDoorKRefA
namespace Go.Proofs.YtomgchfjachedaaGreatDoor
open Go Go.RowKit
set_option maxHeartbeats 1000000 in
theorem stepD_any (s : Sls) (n : Nrm) (A : Option Addr) (nt ct : Nat) (text : List Int) (w : World) (hN : NormAt w s n) (hG : Glob w) (hnt : nt ≤ 500000) (hT : Ints w A nt text) :
    Calls Tryz.prog 104 #[s.val, .slice A nt ct] w (RetFr w (textOf n false text)) := by
  have hk1 := Kept.alloc (Kept.refl w) (Obj.cells #[Value.slice s.Ac s.nc s.cc, Value.slice s.Am s.nm s.cm, Value.slice s.Ae s.ne s.ce] 134)
  have HT := Lib.hid (text_new s n A nt ct text false _ (hN.kept hk1) (hG.kept hk1) hnt (hT.kept hk1))
  have HK1 := Lib.hid hk1
  clear hN hG hT hk1
  generalize textOf n false text = X at *
  unfold Sls.val at *
  go_enter Tryz.func104, Tryz.ntmps104
  go_wp2_with fail
  refine HT.out.mono ?_
  rintro e w1 ⟨A1, n1, c1, rfl, le1, i1, fr1, k1⟩
  have I1 := Lib.hid i1
  have FR1 := Lib.hid fr1
  clear i1 fr1
  go_wp2_with fail
  go_ret
  exact ⟨A1, n1, c1, rfl, le1, I1.out, fun a ha => Nat.le_trans HK1.out.size (FR1.out a ha), Kept.trans HK1.out k1⟩
set_option maxHeartbeats 1000000 in
theorem stepK_any (s : Sls) (n : Nrm) (A : Option Addr) (nt ct : Nat) (text : List Int) (w : World) (hN : NormAt w s n) (hG : Glob w) (hnt : nt ≤ 500000) (hT : Ints w A nt text) :
    Calls Tryz.prog 105 #[s.val, .slice A nt ct] w (RetFr w (textOf n true text)) := by
  have hk1 := Kept.alloc (Kept.refl w) (Obj.cells #[Value.slice s.Ac s.nc s.cc, Value.slice s.Am s.nm s.cm, Value.slice s.Ae s.ne s.ce] 134)
  have HT := Lib.hid (text_new s n A nt ct text true _ (hN.kept hk1) (hG.kept hk1) hnt (hT.kept hk1))
  have HK1 := Lib.hid hk1
  clear hN hG hT hk1
  generalize textOf n true text = X at *
  unfold Sls.val at *
  go_enter Tryz.func105, Tryz.ntmps105
  go_wp2_with fail
  refine HT.out.mono ?_
  rintro e w1 ⟨A1, n1, c1, rfl, le1, i1, fr1, k1⟩
  have I1 := Lib.hid i1
  have FR1 := Lib.hid fr1
  clear i1 fr1
  go_wp2_with fail
  go_ret
  exact ⟨A1, n1, c1, rfl, le1, I1.out, fun a ha => Nat.le_trans HK1.out.size (FR1.out a ha), Kept.trans HK1.out k1⟩
set_option maxHeartbeats 1000000 in
theorem stepC_any (s : Sls) (n : Nrm) (A : Option Addr) (nt ct : Nat) (text : List Int) (w : World) (hN : NormAt w s n) (hG : Glob w) (hnt : nt ≤ 100000000) (hT : Ints w A nt text) :
    Calls Tryz.prog 103 #[s.val, .slice A nt ct] w (RetFr w (compN n text)) := by
  have hk1 := Kept.alloc (Kept.refl w) (Obj.cells #[Value.slice s.Ac s.nc s.cc, Value.slice s.Am s.nm s.cm, Value.slice s.Ae s.ne s.ce] 134)
  have HT := Lib.hid (ctext_new s n A nt ct text _ (hN.kept hk1) (hG.kept hk1) hnt (hT.kept hk1))
  have HK1 := Lib.hid hk1
  clear hN hG hT hk1
  generalize compN n text = X at *
  unfold Sls.val at *
  go_enter Tryz.func103, Tryz.ntmps103
  go_wp2_with fail
  refine HT.out.mono ?_
  rintro e w1 ⟨A1, n1, c1, rfl, le1, i1, fr1, k1⟩
  have I1 := Lib.hid i1
  have FR1 := Lib.hid fr1
  clear i1 fr1
  go_wp2_with fail
  go_ret
  exact ⟨A1, n1, c1, rfl, le1, I1.out, fun a ha => Nat.le_trans HK1.out.size (FR1.out a ha), Kept.trans HK1.out k1⟩
theorem fn_some (fn : Fn) (a b : Array Value) (w : World) : (binOp .neq 96 (.func fn a b) .nilFunc).run Tryz.prog w = .ok (.bool true) w := by kernel_rfl
theorem fn_none (w : World) : (binOp .neq 96 .nilFunc .nilFunc).run Tryz.prog w = .ok (.bool false) w := by kernel_rfl
set_option maxRecDepth 100000 in
set_option maxHeartbeats 4000000 in
theorem form_new (s : Sls) (n : Nrm) (form : Int) (A : Option Addr) (nt ct : Nat) (text : List Int) (w : World) (hN : NormAt w s n) (hG : Glob w) (hnt : nt ≤ 500000) (hT : Ints w A nt text) :
    Calls Tryz.prog 60 #[s.val, .int .i64 form, .slice A nt ct] w (RetFr w (formOf n form text)) := by
  have hk1 := Kept.alloc (Kept.refl w) (Obj.cells #[Value.slice s.Ac s.nc s.cc, Value.slice s.Am s.nm s.cm, Value.slice s.Ae s.ne s.ce] 28)
  have hk2 := Kept.alloc hk1 (Obj.cells #[Value.slice s.Ac s.nc s.cc, Value.slice s.Am s.nm s.cm, Value.slice s.Ae s.ne s.ce] 134)
  have HK2 := Lib.hid hk2
  have HN := Lib.hid hN
  have HG := Lib.hid hG
  have HT := Lib.hid hT
  have HTN := Lib.hid hT.1
  clear hN hG hT hk1 hk2
  rcases form_cases form with h | h | h | h | h
  · subst h
    have HR := Lib.hid (formOf_1 n text)
    have H1 := Lib.hid (stepD_any s n A nt ct text _ (HN.out.kept HK2.out) (HG.out.kept HK2.out) hnt (HT.out.kept HK2.out))
    have HL := Lib.hid (show (textOf n false text).length ≤ 100000000 by have := textOf_length n false text; have := HTN.out; omega)
    have H2 := Lib.hid (fun A1 n1 c1 w' (hk : Kept w w') (h1 : n1 ≤ 100000000) (hI : Ints w' A1 n1 (textOf n false text)) => stepC_any s n A1 n1 c1 _ w' (HN.out.kept hk) (HG.out.kept hk) h1 hI)
    generalize textOf n false text = X at *
    generalize compN n X = Y at *
    have hf1 := fn_some
    have hf2 := fn_none
    unfold Sls.val at *
    go_enter Tryz.func60, Tryz.ntmps60
    go_wp2_with fail
    refine H1.out.mono ?_
    rintro e w1 ⟨A1, n1, c1, rfl, le1, i1, fr1, k1⟩
    have hn1 : n1 ≤ 100000000 := by rw [i1.1]; exact HL.out
    have K1 := Lib.hid (Kept.trans HK2.out k1)
    have H3 := Lib.hid (H2.out A1 n1 c1 w1 K1.out hn1 i1)
    clear i1 fr1
    go_wp2_with fail
    refine H3.out.mono ?_
    rintro e w2 ⟨A2, n2, c2, rfl, le2, i2, fr2, k2⟩
    have I2 := Lib.hid i2
    have FR2 := Lib.hid fr2
    clear i2 fr2
    go_wp2_with fail
    go_ret
    rw [HR.out]
    exact ⟨A2, n2, c2, rfl, le2, I2.out, fun a ha => Nat.le_trans K1.out.size (FR2.out a ha), Kept.trans K1.out k2⟩
  · subst h
    have HR := Lib.hid (formOf_2 n text)
    have H1 := Lib.hid (stepD_any s n A nt ct text _ (HN.out.kept HK2.out) (HG.out.kept HK2.out) hnt (HT.out.kept HK2.out))
    generalize textOf n false text = X at *
    have hf1 := fn_some
    have hf2 := fn_none
    unfold Sls.val at *
    go_enter Tryz.func60, Tryz.ntmps60
    go_wp2_with fail
    refine H1.out.mono ?_
    rintro e w1 ⟨A1, n1, c1, rfl, le1, i1, fr1, k1⟩
    have I1 := Lib.hid i1
    have FR1 := Lib.hid fr1
    clear i1 fr1
    go_wp2_with fail
    go_ret
    rw [HR.out]
    exact ⟨A1, n1, c1, rfl, le1, I1.out, fun a ha => Nat.le_trans HK2.out.size (FR1.out a ha), Kept.trans HK2.out k1⟩
  · subst h
    have HR := Lib.hid (formOf_3 n text)
    have H1 := Lib.hid (stepK_any s n A nt ct text _ (HN.out.kept HK2.out) (HG.out.kept HK2.out) hnt (HT.out.kept HK2.out))
    have HL := Lib.hid (show (textOf n true text).length ≤ 100000000 by have := textOf_length n true text; have := HTN.out; omega)
    have H2 := Lib.hid (fun A1 n1 c1 w' (hk : Kept w w') (h1 : n1 ≤ 100000000) (hI : Ints w' A1 n1 (textOf n true text)) => stepC_any s n A1 n1 c1 _ w' (HN.out.kept hk) (HG.out.kept hk) h1 hI)
    generalize textOf n true text = X at *
    generalize compN n X = Y at *
    have hf1 := fn_some
    have hf2 := fn_none
    unfold Sls.val at *
    go_enter Tryz.func60, Tryz.ntmps60
    go_wp2_with fail
    refine H1.out.mono ?_
    rintro e w1 ⟨A1, n1, c1, rfl, le1, i1, fr1, k1⟩
    have hn1 : n1 ≤ 100000000 := by rw [i1.1]; exact HL.out
    have K1 := Lib.hid (Kept.trans HK2.out k1)
    have H3 := Lib.hid (H2.out A1 n1 c1 w1 K1.out hn1 i1)
    clear i1 fr1
    go_wp2_with fail
    refine H3.out.mono ?_
    rintro e w2 ⟨A2, n2, c2, rfl, le2, i2, fr2, k2⟩
    have I2 := Lib.hid i2
    have FR2 := Lib.hid fr2
    clear i2 fr2
    go_wp2_with fail
    go_ret
    rw [HR.out]
    exact ⟨A2, n2, c2, rfl, le2, I2.out, fun a ha => Nat.le_trans K1.out.size (FR2.out a ha), Kept.trans K1.out k2⟩
  · subst h
    have HR := Lib.hid (formOf_4 n text)
    have H1 := Lib.hid (stepK_any s n A nt ct text _ (HN.out.kept HK2.out) (HG.out.kept HK2.out) hnt (HT.out.kept HK2.out))
    generalize textOf n true text = X at *
    have hf1 := fn_some
    have hf2 := fn_none
    unfold Sls.val at *
    go_enter Tryz.func60, Tryz.ntmps60
    go_wp2_with fail
    refine H1.out.mono ?_
    rintro e w1 ⟨A1, n1, c1, rfl, le1, i1, fr1, k1⟩
    have I1 := Lib.hid i1
    have FR1 := Lib.hid fr1
    clear i1 fr1
    go_wp2_with fail
    go_ret
    rw [HR.out]
    exact ⟨A1, n1, c1, rfl, le1, I1.out, fun a ha => Nat.le_trans HK2.out.size (FR1.out a ha), Kept.trans HK2.out k1⟩
  · have HR := Lib.hid (formOf_0 n h text)
    have h1 : (form == 1) = false := by simp; omega
    have h2 : (form == 2) = false := by simp; omega
    have h3 : (form == 3) = false := by simp; omega
    have h4 : (form == 4) = false := by simp; omega
    have HCL := Lib.hid (clone_any A nt ct text _ (by omega) (HT.out.kept HK2.out))
    clear h
    have hf1 := fn_some
    have hf2 := fn_none
    unfold Sls.val at *
    go_enter Tryz.func60, Tryz.ntmps60
    go_wp2_with fail
    refine HCL.out.mono ?_
    rintro e w3 ⟨v, rfl, hown, hk4⟩
    obtain ⟨A3, cc, rfl, hle, hI⟩ := OwnI.sl hown
    have HI := Lib.hid hI
    have HFR := Lib.hid hown.far
    clear hown hI
    go_wp2_with fail
    go_ret
    rw [HR.out]
    exact ⟨A3, _, cc, rfl, hle, HI.out, fun a ha => Nat.le_trans HK2.out.size (HFR.out a ha), Kept.trans HK2.out hk4⟩
end Go.Proofs.YtomgchfjachedaaGreatDoor
namespace Go.Proofs.YtomgchfjachedaaGreatDoor
open Go Go.RowKit
set_option maxRecDepth 100000 in
set_option maxHeartbeats 2000000 in
theorem r20Sort_far (A : Option Addr) (n c : Nat) (l : List Span) (B : Option Addr) (m d : Nat) (text : List Int) (w : World) (hn : n ≤ 1000) (hm : m ≤ 100000) (hl : Spans w A n l) (hI : Ints w B m text) :
    Calls Tryz.prog 106 #[.slice A n c, .slice B m d] w (RetFar w (refSort (classOf (usableSpans l)) text)) := by
  have HC := Lib.hid (fun (x : Int) w' (hk : Kept w w') => r20Class A n c l x w' hn (hl.kept hk))
  have HI := Lib.hid hI
  have HML := Lib.hid hI.1
  clear hl hI
  generalize classOf (usableSpans l) = cls at *
  obtain ⟨base, hbase⟩ : ∃ base : Nat, base = w.heap.size := ⟨_, rfl⟩
  have HBASE := Lib.hid hbase
  clear hbase
  go_enter Tryz.func106, Tryz.ntmps106
  go_wp2_with fail
  go_loopw [5, 6] (fun p i wr => ∃ k : Nat, k ≤ m ∧ i = .int .i64 k ∧ OwnI wr base p (refSort cls (text.take k)) ∧ Kept w wr) (fun _ i _ => m - (intOf i).toNat)
  case atStart => exact ⟨0, Nat.zero_le _, rfl, (World.ownsRow_nil _ _ _ _ : OwnI w base (.slice none 0 0) []), Kept.refl _⟩
  case round =>
    obtain ⟨k, hk, rfl, hown, hkw⟩ := hrel
    have HOW := Lib.hid hown
    have HKW := Lib.hid hkw
    have hsz := hkw.size
    clear hown hkw
    by_cases hlt : k < m
    · obtain ⟨b, off, x, hA, hx, cw⟩ := int_at HI.out hlt
      rw [hA]
      have HSN := Lib.hid (show refSort cls (text.take (k + 1)) = insR cls x (refSort cls (text.take k)) by rw [take_succ_some hx, refSort_snoc])
      have hLl : (refSort cls (text.take k)).length ≤ 100000 := by rw [refSort_length, List.length_take]; omega
      generalize refSort cls (text.take k) = L at *
      have HXC := Lib.hid cw
      have cx := Kept.cell HKW.out cw
      clear hx
      have hka := Kept.alloc (Kept.refl wr) (Obj.cells #[Value.int IntKind.i64 x] 3)
      have HKA := Lib.hid hka
      clear hka
      go_wp2_with (at_builtin; refine app_ints rfl _ _ rfl base _ _ rfl (by exact own_kept HOW.out HKA.out) _ _ _ [x] rfl (by exact Ints.alloc_ (xs := [x]) rfl rfl) (by simp; omega) (by simp; have := HBASE.out; omega) ?_; intro v2 w2 hown2 hgrow2 hat2; have hs2 := hgrow2.size; have K2 : Hid (Kept w w2) := Lib.hid ((Kept.trans HKW.out HKA.out).grown hgrow2 (by simp; have := HBASE.out; omega) (fun q e => by have := (World.ownsRow.lt HOW.out q e).1; have := HBASE.out; omega)); have cx2 := Kept.cell K2.out HXC.out)
      have HO2 := Lib.hid hown2
      have HCX := Lib.hid (HC.out x w2 K2.out)
      have hv2 := hown2
      simp only [OwnI, List.length_append, List.length_singleton] at hv2
      obtain ⟨g, co, rfl⟩ := ownsRow_succ_ hv2
      clear hv2 hown2 hgrow2 hat2 cx cx2
      refine HCX.out.mono ?_
      rintro e w3 ⟨rfl, k3⟩
      have K3 := Lib.hid (Kept.trans K2.out k3)
      have HO3 := Lib.hid (own_kept HO2.out k3)
      have hsb : IntKind.i64.wrap ((L.length : Int) + 1 - 1) = (L.length : Int) := by rw [show (L.length : Int) + 1 - 1 = L.length by omega]; exact IntWalk.i64_in _ (by omega)
      go_wp2_with fail
      clear hsb hs2
      go_loopw [8] (fun kk wq => ∃ (j : Nat) (P Q : List Int), kk = .int .i64 j ∧ P.length = j ∧ (P ++ x :: Q).length = L.length + 1 ∧ OwnI wq base (.slice (some ⟨g, 0, none⟩) (L.length + 1) co) (P ++ x :: Q) ∧ insR cls x P ++ Q = insR cls x L ∧ Kept w wq) (fun kk _ => (intOf kk).toNat)
      case atStart => exact ⟨L.length, L, [], rfl, rfl, by simp, HO3.out, by simp, K3.out⟩
      case round =>
        obtain ⟨j, P, Q, rfl, hP, hlen, hownq, hins, hkq⟩ := hrel
        have HOQ := Lib.hid hownq
        have HINS := Lib.hid hins
        have HKQ := Lib.hid hkq
        have HLEN := Lib.hid hlen
        have hgb : base ≤ g := (World.ownsRow.lt hownq g rfl).1
        have hszq := hkq.size
        -- out of the inner loop
        have HOUT := Lib.hid (show insR cls x P = P ++ [x] → ∀ w' : World, Kept wr w' → ∃ k' : Nat, k' ≤ m ∧ Value.int .i64 ((k : Int) + 1) = .int .i64 k' ∧ OwnI w' base (.slice (some ⟨g, 0, none⟩) (L.length + 1) co) (refSort cls (text.take k')) ∧ Kept w w' from fun e w' hk' => by
          refine ⟨k + 1, by omega, by go_num, ?_, Kept.trans HKQ.out hk'⟩
          rw [HSN.out, ← HINS.out, e]
          have := own_kept HOQ.out hk'
          simpa [OwnI] using this)
        clear hownq hins hkq hlen
        rcases Nat.eq_zero_or_pos j with hj | hj
        · subst hj
          obtain rfl : P = [] := List.length_eq_zero_iff.1 hP
          go_wp2_with fail
          go_roundw
          case rel => exact HOUT.out rfl _ (Kept.refl _)
          case measure => simp [intOf]; omega
        · obtain ⟨P', y, rfl⟩ := split_last (xs := P) (by omega)
          obtain ⟨jp, rfl⟩ : ∃ jp, j = jp + 1 := ⟨j - 1, by omega⟩
          have hjp : P'.length = jp := by simp at hP; omega
          have hjl : jp + 1 < L.length + 1 := by have := HLEN.out; simp at this; omega
          have hj0 : (0 : Int) < (jp : Int) + 1 := by omega
          by_cases hx0 : 0 < cls x
          · have eL : P' ++ [y] ++ x :: Q = P' ++ y :: x :: Q := by simp
            have hown' := HOQ.out
            have hll := HLEN.out
            rw [eL] at hown' hll
            simp only [OwnI, hll] at hown'
            have cy : wr.cell? ⟨g, jp, none⟩ = some (.int .i64 y) := by
              rw [hown'.cellAt _ (by omega)]
              simp [← hjp]
            have HCY := Lib.hid (HC.out y wr HKQ.out)
            have hw1 : IntKind.i64.wrap ((jp : Int) + 1 - 1) = (jp : Int) := by rw [show (jp : Int) + 1 - 1 = jp by omega]; exact IntWalk.i64_in _ (by omega)
            have HO' := Lib.hid hown'
            have HCW := Lib.hid cy
            clear hown' eL
            by_cases hxy : cls x < cls y
            · go_wp2_with fail
              refine HCY.out.mono ?_
              rintro e w4 ⟨rfl, k4⟩
              have hown4 := own_kept HO'.out k4
              have cy4 := Kept.cell k4 HCW.out
              have f1 := hown4.frozenAt (jp + 1)
              have f0 := hown4.frozenAt jp
              have hst1 := hown4.stored (jp + 1) (.int .i64 y)
              have K5 := Kept.setCell (Kept.trans HKQ.out k4) (p := ⟨g, jp + 1, none⟩) (by have := HBASE.out; simp; omega) (.int .i64 y)
              have cx5 := Kept.cell K5 HXC.out
              have f2 := hst1.1.frozenAt jp
              have cz4 : w4.cell? ⟨g, jp + 1, none⟩ = some (.int .i64 x) := by
                rw [hown4.cellAt _ (by omega)]
                simp [← hjp]
              have cy5 : (w4.setCell ⟨g, jp + 1, none⟩ (.int .i64 y)).cell? ⟨g, jp, none⟩ = some (.int .i64 y) := by
                rw [hst1.1.cellAt _ (by omega)]
                simp [← hjp]
              have hst2 := hst1.1.stored jp (.int .i64 x)
              have HK6 := Lib.hid (Kept.setCell K5 (p := ⟨g, jp, none⟩) (by have := HBASE.out; simp; omega) (.int .i64 x))
              have e6 : ((List.map (Value.int IntKind.i64) (P' ++ y :: x :: Q)).set (jp + 1) (Value.int IntKind.i64 y)).set jp (Value.int IntKind.i64 x) = List.map (Value.int IntKind.i64) (P' ++ x :: (y :: Q)) := by
                rw [← hjp, ← List.map_set, ← List.map_set, swap_adj rfl]
              have HO6 := Lib.hid hst2.1
              rw [e6] at HO6
              have hll2 : (P' ++ x :: (y :: Q)).length = L.length + 1 := by rw [← hll]; simp
              have HLL2 := Lib.hid hll2
              clear hst1 hst2 hown4 e6 K5 hll hll2
              have jz : (jp : Int) + 1 < (L.length : Int) + 1 := by omega
              have jz1 : (jp : Int) < (L.length : Int) + 1 := by omega
              go_wp2_with fail
              go_roundw
              case rel =>
                refine ⟨jp, P', y :: Q, by go_num, hjp, HLL2.out, ?_, ?_, HK6.out⟩
                · simp only [OwnI, HLL2.out]; exact HO6.out
                · have := HINS.out
                  rw [insR_move hx0 hxy] at this
                  simpa using this
              case measure => simp [intOf]
            · go_wp2_with fail
              refine HCY.out.mono ?_
              rintro e w4 ⟨rfl, k4⟩
              go_wp2_with fail
              go_roundw
              case rel => exact HOUT.out (insR_stay (by omega)) _ k4
              case measure => simp [intOf]; omega
          · go_wp2_with fail
            go_roundw
            case rel => exact HOUT.out (insR_low hx0 _) _ (Kept.refl _)
            case measure => simp [intOf]; omega
    · have hfull : text.take k = text := List.take_of_length_le (by have := HML.out; omega)
      have hown := HOW.out
      rw [hfull] at hown
      obtain ⟨A4, c4, hu, hle4, hI4⟩ := OwnI.sl hown
      have HFAR := Lib.hid (fun a (ha : A4 = some a) => ((OwnI.inHeap hown).2 a (by rw [hu]; exact ha)).2)
      generalize refSort cls text = R at *
      clear hown hfull
      subst hu
      go_wp2_with fail
      go_ret
      exact ⟨A4, _, c4, rfl, hle4, hI4, fun a ha => by have h1 := HFAR.out a ha; have h2 := HBASE.out; omega, HKW.out⟩
end Go.Proofs.YtomgchfjachedaaGreatDoor
namespace Go.Proofs.YtomgchfjachedaaGreatDoor
open Go Go.RowKit
end Go.Proofs.YtomgchfjachedaaGreatDoor
namespace Go.Proofs.YtomgchfjachedaaGreatDoor
open Go Go.RowKit
end Go.Proofs.YtomgchfjachedaaGreatDoor
