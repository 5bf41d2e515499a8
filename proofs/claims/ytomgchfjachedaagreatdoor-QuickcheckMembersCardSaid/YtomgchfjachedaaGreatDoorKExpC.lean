/- decompose.usable, expander, Char. The reference's Sort of layer 20. -/
import Derived.Test.YtomgchfjachedaaGreatDoorKBase
import Derived.Test.YtomgchfjachedaaGreatDoorKExp
import Derived.Test.YtomgchfjachedaaGreatDoorKDecC
import Derived.Test.YtomgchfjachedaaGreatDoorKRfb
import Derived.Test.YtomgchfjachedaaGreatDoorKMeas
import Derived.Test.YtomgchfjachedaaGreatDoorKRfj
import Derived.Test.YtomgchfjachedaaGreatDoorKSet
import Derived.Test.YtomgchfjachedaaGreatDoorKPq
namespace Go.Proofs.YtomgchfjachedaaGreatDoor
open Go Go.RowKit
def emptyN : Nrm := ⟨[], [], []⟩
def usableN (n : Nrm) : Nrm := if decCheck n = 0 then n else emptyN
def emptyS : Sls := ⟨none, 0, 0, none, 0, 0, none, 0, 0⟩
theorem emptyS_at (w : World) : NormAt w emptyS emptyN :=
  ⟨Nat.le_refl _, Nat.le_refl _, Nat.le_refl _, Nat.zero_le _, Nat.zero_le _, Nat.zero_le _, Sl.nil, ⟨rfl, fun h => absurd h (by decide)⟩, Sl.nil, fun m hm => by simp [emptyN] at hm⟩
theorem box_block (w : World) (o : Obj) : (w.alloc o).heap[w.heap.size]? = some o := heap_alloc_new _ _
theorem cells3_set {w : World} {b : Nat} {u0 u1 u2 v0 v1 v2 : Value} {t : TypeId} (h : w.heap[b]? = some (.cells #[u0, u1, u2] t (0, 0))) :
    (((w.setCell ⟨b, 0, none⟩ v0).setCell ⟨b, 1, none⟩ v1).setCell ⟨b, 2, none⟩ v2).heap[b]? = some (.cells #[v0, v1, v2] t (0, 0)) := by
  simp [World.setCell, Array.getElem?_modify, h]
def usableS (s : Sls) (n : Nrm) : Sls := if decCheck n = 0 then s else emptyS
theorem usableS_at {w : World} {s : Sls} {n : Nrm} (h : NormAt w s n) : NormAt w (usableS s n) (usableN n) := by
  unfold usableS usableN
  split
  · exact h
  · exact emptyS_at w
set_option maxRecDepth 100000 in
set_option maxHeartbeats 1000000 in
theorem usable_val (s : Sls) (n : Nrm) (w : World) (hN : NormAt w s n) (hG : Glob w) : Calls Tryz.prog 71 #[s.val] w fun e w' => e = .returned (usableS s n).val ∧ Kept w w' := by
  have HN := Lib.hid hN
  have hk1 := Kept.alloc (Kept.refl w) (Obj.cells #[Value.slice s.Ac s.nc s.cc, Value.slice s.Am s.nm s.cm, Value.slice s.Ae s.ne s.ce] 28)
  have hk2 := Kept.alloc hk1 (Obj.cells #[Value.slice none 0 0, Value.slice none 0 0, Value.slice none 0 0] 28)
  have HC := Lib.hid (decCheck_any s n _ (hN.kept hk2) (hG.kept hk2))
  have HK2 := Lib.hid hk2
  have hx := alloc_lift (o := Obj.cells #[Value.slice none 0 0, Value.slice none 0 0, Value.slice none 0 0] 28) (box_block w (Obj.cells #[Value.slice s.Ac s.nc s.cc, Value.slice s.Am s.nm s.cm, Value.slice s.Ae s.ne s.ce] 28))
  have hy := box_block (w.alloc (Obj.cells #[Value.slice s.Ac s.nc s.cc, Value.slice s.Am s.nm s.cm, Value.slice s.Ae s.ne s.ce] 28)) (Obj.cells #[Value.slice none 0 0, Value.slice none 0 0, Value.slice none 0 0] 28)
  rw [show (w.alloc (Obj.cells #[Value.slice s.Ac s.nc s.cc, Value.slice s.Am s.nm s.cm, Value.slice s.Ae s.ne s.ce] 28)).heap.size = w.heap.size + 1 by simp] at hy
  have HX := Lib.hid hx
  have HY := Lib.hid hy
  clear hN hG hk1 hk2 hx hy
  by_cases h0 : decCheck n = 0
  · have hb0 : (decCheck n != 0) = false := by simp [h0]
    have HU := Lib.hid (show usableS s n = s from if_pos h0)
    clear h0
    unfold Sls.val
    go_enter Tryz.func71, Tryz.ntmps71
    go_wp2_with fail
    refine HC.out.mono ?_
    rintro e w1 ⟨rfl, hk3⟩
    have e1 := (hk3.block _ (block_lt HX.out)).trans HX.out
    have e2 := (hk3.block _ (block_lt HY.out)).trans HY.out
    have a0 := cell_of_block (i := 0) e1 rfl
    have a1 := cell_of_block (i := 1) e1 rfl
    have a2 := cell_of_block (i := 2) e1 rfl
    have b0 := cell_of_block (i := 0) e2 rfl
    have b1 := cell_of_block (i := 1) e2 rfl
    have b2 := cell_of_block (i := 2) e2 rfl
    have f0 := frozen_of_block (i := 0) e2
    have f1 := frozen_of_block (i := 1) e2
    have f2 := frozen_of_block (i := 2) e2
    have HE2 := Lib.hid e2
    simp only [s4_, s5_, s6_] at a0 a1 a2 b0 b1 b2
    clear e1 e2
    obtain ⟨bb, hbb⟩ : ∃ bb : Nat, bb = w.heap.size := ⟨_, rfl⟩
    have HBB := Lib.hid hbb
    rw [← hbb] at a0 a1 a2 b0 b1 b2 f0 f1 f2 HE2 ⊢
    clear hbb
    go_wp2_with fail
    have hc := cells3_set (v0 := .slice s.Ac s.nc s.cc) (v1 := .slice s.Am s.nm s.cm) (v2 := .slice s.Ae s.ne s.ce) HE2.out
    have g0 := cell_of_block (i := 0) hc rfl
    have g1 := cell_of_block (i := 1) hc rfl
    have g2 := cell_of_block (i := 2) hc rfl
    simp only [s4_, s5_, s6_] at g0 g1 g2
    clear a0 a1 a2 b0 b1 b2 f0 f1 f2
    refine bodyPost_ret (v := s.val) (by simp [results, Tryz.results71, go_sem, g0, g1, g2, Sls.val]) rfl ?_
    have hk4 := Kept.trans HK2.out hk3
    have hk5 : Kept w _ := Kept.setCell (Kept.setCell (Kept.setCell hk4 (p := ⟨bb + 1, 0, none⟩) (by rw [HBB.out]; exact Nat.le_succ _) (.slice s.Ac s.nc s.cc)) (p := ⟨bb + 1, 1, none⟩) (by rw [HBB.out]; exact Nat.le_succ _) (.slice s.Am s.nm s.cm)) (p := ⟨bb + 1, 2, none⟩) (by rw [HBB.out]; exact Nat.le_succ _) (.slice s.Ae s.ne s.ce)
    exact ⟨by rw [HU.out]; rfl, hk5⟩
  · have hb0 : (decCheck n != 0) = true := by simp [h0]
    have HU := Lib.hid (show usableS s n = emptyS from if_neg h0)
    clear h0
    unfold Sls.val
    go_enter Tryz.func71, Tryz.ntmps71
    go_wp2_with fail
    refine HC.out.mono ?_
    rintro e w1 ⟨rfl, hk3⟩
    have e2 := (hk3.block _ (block_lt HY.out)).trans HY.out
    have b0 := cell_of_block (i := 0) e2 rfl
    have b1 := cell_of_block (i := 1) e2 rfl
    have b2 := cell_of_block (i := 2) e2 rfl
    have f0 := frozen_of_block (i := 0) e2
    have f1 := frozen_of_block (i := 1) e2
    have f2 := frozen_of_block (i := 2) e2
    have HE2 := Lib.hid e2
    simp only [s4_, s5_, s6_] at b0 b1 b2
    clear e2
    obtain ⟨bb, hbb⟩ : ∃ bb : Nat, bb = w.heap.size := ⟨_, rfl⟩
    have HBB := Lib.hid hbb
    rw [← hbb] at b0 b1 b2 f0 f1 f2 HE2 ⊢
    clear hbb
    go_wp2_with fail
    have hc := cells3_set (v0 := .slice none 0 0) (v1 := .slice none 0 0) (v2 := .slice none 0 0) HE2.out
    have g0 := cell_of_block (i := 0) hc rfl
    have g1 := cell_of_block (i := 1) hc rfl
    have g2 := cell_of_block (i := 2) hc rfl
    simp only [s4_, s5_, s6_] at g0 g1 g2
    clear b0 b1 b2 f0 f1 f2
    refine bodyPost_ret (v := emptyS.val) (by simp [results, Tryz.results71, go_sem, g0, g1, g2, Sls.val, emptyS]) rfl ?_
    have hk4 := Kept.trans HK2.out hk3
    have hk5 : Kept w _ := Kept.setCell (Kept.setCell (Kept.setCell hk4 (p := ⟨bb + 1, 0, none⟩) (by rw [HBB.out]; exact Nat.le_succ _) (.slice none 0 0)) (p := ⟨bb + 1, 1, none⟩) (by rw [HBB.out]; exact Nat.le_succ _) (.slice none 0 0)) (p := ⟨bb + 1, 2, none⟩) (by rw [HBB.out]; exact Nat.le_succ _) (.slice none 0 0)
    exact ⟨by rw [HU.out]; rfl, hk5⟩
def RetExp (w : World) (s : Sls) (cp : Bool) (F : Int → List Int) (e : Ending) (w' : World) : Prop := ∃ bs bn bc bx bm : Nat,
  e = .returned (.func (.func 174) #[] #[.pointer (some ⟨bs, 0, none⟩), .pointer (some ⟨bn, 0, none⟩), .pointer (some ⟨bc, 0, none⟩), .pointer (some ⟨bx, 0, none⟩)]) ∧
  ExpAt w' bs bn bc bx bm s cp F [] ∧ w.heap.size ≤ bm ∧ Kept w w'
set_option maxRecDepth 100000 in
set_option maxHeartbeats 1000000 in
theorem expander_any (s : Sls) (cp : Bool) (F : Int → List Int) (w : World) : Calls Tryz.prog 149 #[s.val, .bool cp] w (RetExp w s cp F) := by
  unfold Sls.val
  have hmm := @run_makeMap Tryz.prog
  go_enter Tryz.func149, Tryz.ntmps149
  go_wp2
  clear hmm
  go_ret
  obtain ⟨B, hB⟩ : ∃ B : Nat, B = w.heap.size := ⟨_, rfl⟩
  rw [← hB]
  refine ⟨B + 1 + 1 + 1, B, B + 1, B + 1 + 1 + 1 + 1, B + 1 + 1, rfl, ?_, by omega, Kept.alloc (Kept.alloc (Kept.alloc (Kept.alloc (Kept.alloc (Kept.refl w) _) _) _) _) _⟩
  refine ⟨?_, ?_, ?_, ?_, ?_, fun k v hv => by simp [getKV] at hv⟩
  · exact alloc_lift (alloc_at (by simp [hB]))
  · exact alloc_lift (alloc_lift (alloc_lift (alloc_lift (alloc_at hB))))
  · exact alloc_lift (alloc_lift (alloc_lift (alloc_at (by simp [hB]))))
  · exact alloc_at (by simp [hB])
  · exact ⟨#[], 0, alloc_lift (alloc_lift (alloc_at (by simp [hB]))), rfl, by simp, by simp⟩
theorem emptyN_check : decCheck emptyN = 0 := by
  simp [decCheck, emptyN, ordCheck, adjAny, mapCheck, mapParts, makeR, sortR, clipped, decMid, usableSpans, taggedOf, runsOf, runsFrom, decTail, measOf, mall]
theorem usableN_good (n : Nrm) : Good (usableN n) := by
  unfold usableN
  split
  · rename_i h; exact good_of h
  · exact good_of emptyN_check
theorem usableN_full (n : Nrm) (cp : Bool) : FullEq (usableN n).decomp cp (fullOf (usableN n).decomp cp) := fullOf_eq (ends_any (usableN_good n).ends cp)
theorem usableN_len (n : Nrm) (cp : Bool) (c : Int) : (fullOf (usableN n).decomp cp c).length ≤ 64 :=
  have h := usableN_good n
  full_length h.sorted h.hangul h.ends h.short cp (usableN_full n cp) c
end Go.Proofs.YtomgchfjachedaaGreatDoor
namespace Go.Proofs.YtomgchfjachedaaGreatDoor
open Go Go.RowKit
set_option maxRecDepth 100000 in
set_option maxHeartbeats 2000000 in
theorem r20Sort (A : Option Addr) (n c : Nat) (l : List Span) (B : Option Addr) (m d : Nat) (text : List Int) (w : World) (hn : n ≤ 1000) (hm : m ≤ 100000) (hl : Spans w A n l) (hI : Ints w B m text) :
    Calls Tryz.prog 106 #[.slice A n c, .slice B m d] w (RetInts w (refSort (classOf (usableSpans l)) text)) := by
  have HC := Lib.hid (fun (x : Int) w' (hk : Kept w w') => r20Class A n c l x w' hn (hl.kept hk))
  have HI := Lib.hid hI
  have HML := Lib.hid hI.1
  clear hl hI
  generalize classOf (usableSpans l) = cls at *
  obtain ⟨base, hbase⟩ : ∃ base : Nat, base = w.heap.size := ⟨_, rfl⟩
  have HBASE := Lib.hid hbase
  clear hbase
  go_enter Tryz.func106, Tryz.ntmps106
  go_wp2_with fail
  go_loopw [5, 6] (fun p i wr => ∃ k : Nat, k ≤ m ∧ i = .int .i64 k ∧ OwnI wr base p (refSort cls (text.take k)) ∧ Kept w wr) (fun _ i _ => m - (intOf i).toNat)
  case atStart => exact ⟨0, Nat.zero_le _, rfl, (World.ownsRow_nil _ _ _ _ : OwnI w base (.slice none 0 0) []), Kept.refl _⟩
  case round =>
    obtain ⟨k, hk, rfl, hown, hkw⟩ := hrel
    have HOW := Lib.hid hown
    have HKW := Lib.hid hkw
    have hsz := hkw.size
    clear hown hkw
    by_cases hlt : k < m
    · obtain ⟨b, off, x, hA, hx, cw⟩ := int_at HI.out hlt
      rw [hA]
      have HSN := Lib.hid (show refSort cls (text.take (k + 1)) = insR cls x (refSort cls (text.take k)) by rw [take_succ_some hx, refSort_snoc])
      have hLl : (refSort cls (text.take k)).length ≤ 100000 := by rw [refSort_length, List.length_take]; omega
      generalize refSort cls (text.take k) = L at *
      have HXC := Lib.hid cw
      have cx := Kept.cell HKW.out cw
      clear hx
      have hka := Kept.alloc (Kept.refl wr) (Obj.cells #[Value.int IntKind.i64 x] 3)
      have HKA := Lib.hid hka
      clear hka
      go_wp2_with (at_builtin; refine app_ints rfl _ _ rfl base _ _ rfl (by exact own_kept HOW.out HKA.out) _ _ _ [x] rfl (by exact Ints.alloc_ (xs := [x]) rfl rfl) (by simp; omega) (by simp; have := HBASE.out; omega) ?_; intro v2 w2 hown2 hgrow2 hat2; have hs2 := hgrow2.size; have K2 : Hid (Kept w w2) := Lib.hid ((Kept.trans HKW.out HKA.out).grown hgrow2 (by simp; have := HBASE.out; omega) (fun q e => by have := (World.ownsRow.lt HOW.out q e).1; have := HBASE.out; omega)); have cx2 := Kept.cell K2.out HXC.out)
      have HO2 := Lib.hid hown2
      have HCX := Lib.hid (HC.out x w2 K2.out)
      have hv2 := hown2
      simp only [OwnI, List.length_append, List.length_singleton] at hv2
      obtain ⟨g, co, rfl⟩ := ownsRow_succ_ hv2
      clear hv2 hown2 hgrow2 hat2 cx cx2
      refine HCX.out.mono ?_
      rintro e w3 ⟨rfl, k3⟩
      have K3 := Lib.hid (Kept.trans K2.out k3)
      have HO3 := Lib.hid (own_kept HO2.out k3)
      have hsb : IntKind.i64.wrap ((L.length : Int) + 1 - 1) = (L.length : Int) := by rw [show (L.length : Int) + 1 - 1 = L.length by omega]; exact IntWalk.i64_in _ (by omega)
      go_wp2_with fail
      clear hsb hs2
      go_loopw [8] (fun kk wq => ∃ (j : Nat) (P Q : List Int), kk = .int .i64 j ∧ P.length = j ∧ (P ++ x :: Q).length = L.length + 1 ∧ OwnI wq base (.slice (some ⟨g, 0, none⟩) (L.length + 1) co) (P ++ x :: Q) ∧ insR cls x P ++ Q = insR cls x L ∧ Kept w wq) (fun kk _ => (intOf kk).toNat)
      case atStart => exact ⟨L.length, L, [], rfl, rfl, by simp, HO3.out, by simp, K3.out⟩
      case round =>
        obtain ⟨j, P, Q, rfl, hP, hlen, hownq, hins, hkq⟩ := hrel
        have HOQ := Lib.hid hownq
        have HINS := Lib.hid hins
        have HKQ := Lib.hid hkq
        have HLEN := Lib.hid hlen
        have hgb : base ≤ g := (World.ownsRow.lt hownq g rfl).1
        have hszq := hkq.size
        -- out of the inner loop
        have HOUT := Lib.hid (show insR cls x P = P ++ [x] → ∀ w' : World, Kept wr w' → ∃ k' : Nat, k' ≤ m ∧ Value.int .i64 ((k : Int) + 1) = .int .i64 k' ∧ OwnI w' base (.slice (some ⟨g, 0, none⟩) (L.length + 1) co) (refSort cls (text.take k')) ∧ Kept w w' from fun e w' hk' => by
          refine ⟨k + 1, by omega, by go_num, ?_, Kept.trans HKQ.out hk'⟩
          rw [HSN.out, ← HINS.out, e]
          have := own_kept HOQ.out hk'
          simpa [OwnI] using this)
        clear hownq hins hkq hlen
        rcases Nat.eq_zero_or_pos j with hj | hj
        · subst hj
          obtain rfl : P = [] := List.length_eq_zero_iff.1 hP
          go_wp2_with fail
          go_roundw
          case rel => exact HOUT.out rfl _ (Kept.refl _)
          case measure => simp [intOf]; omega
        · obtain ⟨P', y, rfl⟩ := split_last (xs := P) (by omega)
          obtain ⟨jp, rfl⟩ : ∃ jp, j = jp + 1 := ⟨j - 1, by omega⟩
          have hjp : P'.length = jp := by simp at hP; omega
          have hjl : jp + 1 < L.length + 1 := by have := HLEN.out; simp at this; omega
          have hj0 : (0 : Int) < (jp : Int) + 1 := by omega
          by_cases hx0 : 0 < cls x
          · have eL : P' ++ [y] ++ x :: Q = P' ++ y :: x :: Q := by simp
            have hown' := HOQ.out
            have hll := HLEN.out
            rw [eL] at hown' hll
            simp only [OwnI, hll] at hown'
            have cy : wr.cell? ⟨g, jp, none⟩ = some (.int .i64 y) := by
              rw [hown'.cellAt _ (by omega)]
              simp [← hjp]
            have HCY := Lib.hid (HC.out y wr HKQ.out)
            have hw1 : IntKind.i64.wrap ((jp : Int) + 1 - 1) = (jp : Int) := by rw [show (jp : Int) + 1 - 1 = jp by omega]; exact IntWalk.i64_in _ (by omega)
            have HO' := Lib.hid hown'
            have HCW := Lib.hid cy
            clear hown' eL
            by_cases hxy : cls x < cls y
            · go_wp2_with fail
              refine HCY.out.mono ?_
              rintro e w4 ⟨rfl, k4⟩
              have hown4 := own_kept HO'.out k4
              have cy4 := Kept.cell k4 HCW.out
              have f1 := hown4.frozenAt (jp + 1)
              have f0 := hown4.frozenAt jp
              have hst1 := hown4.stored (jp + 1) (.int .i64 y)
              have K5 := Kept.setCell (Kept.trans HKQ.out k4) (p := ⟨g, jp + 1, none⟩) (by have := HBASE.out; simp; omega) (.int .i64 y)
              have cx5 := Kept.cell K5 HXC.out
              have f2 := hst1.1.frozenAt jp
              have cz4 : w4.cell? ⟨g, jp + 1, none⟩ = some (.int .i64 x) := by
                rw [hown4.cellAt _ (by omega)]
                simp [← hjp]
              have cy5 : (w4.setCell ⟨g, jp + 1, none⟩ (.int .i64 y)).cell? ⟨g, jp, none⟩ = some (.int .i64 y) := by
                rw [hst1.1.cellAt _ (by omega)]
                simp [← hjp]
              have hst2 := hst1.1.stored jp (.int .i64 x)
              have HK6 := Lib.hid (Kept.setCell K5 (p := ⟨g, jp, none⟩) (by have := HBASE.out; simp; omega) (.int .i64 x))
              have e6 : ((List.map (Value.int IntKind.i64) (P' ++ y :: x :: Q)).set (jp + 1) (Value.int IntKind.i64 y)).set jp (Value.int IntKind.i64 x) = List.map (Value.int IntKind.i64) (P' ++ x :: (y :: Q)) := by
                rw [← hjp, ← List.map_set, ← List.map_set, swap_adj rfl]
              have HO6 := Lib.hid hst2.1
              rw [e6] at HO6
              have hll2 : (P' ++ x :: (y :: Q)).length = L.length + 1 := by rw [← hll]; simp
              have HLL2 := Lib.hid hll2
              clear hst1 hst2 hown4 e6 K5 hll hll2
              have jz : (jp : Int) + 1 < (L.length : Int) + 1 := by omega
              have jz1 : (jp : Int) < (L.length : Int) + 1 := by omega
              go_wp2_with fail
              go_roundw
              case rel =>
                refine ⟨jp, P', y :: Q, by go_num, hjp, HLL2.out, ?_, ?_, HK6.out⟩
                · simp only [OwnI, HLL2.out]; exact HO6.out
                · have := HINS.out
                  rw [insR_move hx0 hxy] at this
                  simpa using this
              case measure => simp [intOf]
            · go_wp2_with fail
              refine HCY.out.mono ?_
              rintro e w4 ⟨rfl, k4⟩
              go_wp2_with fail
              go_roundw
              case rel => exact HOUT.out (insR_stay (by omega)) _ k4
              case measure => simp [intOf]; omega
          · go_wp2_with fail
            go_roundw
            case rel => exact HOUT.out (insR_low hx0 _) _ (Kept.refl _)
            case measure => simp [intOf]; omega
    · have hfull : text.take k = text := List.take_of_length_le (by have := HML.out; omega)
      have hown := HOW.out
      rw [hfull] at hown
      obtain ⟨A4, c4, hu, hle4, hI4⟩ := OwnI.sl hown
      generalize refSort cls text = R at *
      clear hown hfull
      subst hu
      go_wp2_with fail
      go_ret
      exact ⟨A4, _, c4, rfl, hle4, hI4, HKW.out⟩
end Go.Proofs.YtomgchfjachedaaGreatDoor
