/- Worlds in which all blocks but some are as they were: small facts. cpset.cursor's closure. cpset.cursor, combine and Or. -/
import Derived.Deep.RegionHeld3
import Derived.Test.YtmlcdohldkgcdaaGreatDoorKRefA
import Derived.Test.YtmlcdohldkgcdaaGreatDoorKExp
import Derived.Test.YtmlcdohldkgcdaaGreatDoorKSq
import Derived.Test.YtmlcdohldkgcdaaGreatDoorKBase
import Derived.Test.YtmlcdohldkgcdaaGreatDoorKSet
namespace Go.Proofs.YtmlcdohldkgcdaaGreatDoor
open Go Go.RowKit
theorem sl_butK {α : Type} {k : Nat} {enc : α → List Value} {S : List Nat} {w w' : World} {A : Option Addr} {n : Nat} {xs : List α} (h : Sl k enc w A n xs) (hk : KeptBut S w w') (ha : ∀ p, A = some p → 0 < n → p.block ∉ S) : Sl k enc w' A n xs := by
  refine ⟨h.1, fun h0 => ?_⟩
  obtain ⟨b', off, eA, hc⟩ := h.2 h0
  refine ⟨b', off, eA, fun i x hx j u hu => ?_⟩
  have hb := ha _ eA h0
  exact hk.cell (hc i x hx j u hu) hb
theorem KeptBut.monoK {S S' : List Nat} {w w' : World} (h : KeptBut S w w') (hs : ∀ b ∈ S, b ∈ S') : KeptBut S' w w' := ⟨h.os, h.tape, h.output, h.size, fun i hi hn => h.block i hi (fun hm => hn (hs i hm))⟩
theorem own_butK {S : List Nat} {w w' : World} {base : Nat} {e : TypeId} {size n : Nat} {v : Value} {xs : List Value} (h : w.ownsRow base e size v n xs) (hk : KeptBut S w w') (hS : ∀ g, v.ownBlock = some g → g ∉ S) : w'.ownsRow base e size v n xs := by
  refine ⟨h.1, ?_⟩
  rcases h.2 with hn | ⟨g, cap, cur, rfl, hb, hgg, rest⟩
  · exact .inl hn
  · exact .inr ⟨g, cap, cur, rfl, hb, (hk.block g (block_lt hgg) (hS g rfl)).trans hgg, rest⟩
theorem KeptBut.grownK {S : List Nat} {W x y : World} {row : Option Nat} (h : KeptBut S W x) (hg : x.grownBy y row) (hr : ∀ g, row = some g → W.heap.size ≤ g ∨ g ∈ S) : KeptBut S W y :=
  ⟨hg.os.trans h.os, hg.tape.trans h.tape, hg.output.trans h.output, Nat.le_trans h.size hg.size, fun i hi hn => (hg.block i (Nat.lt_of_lt_of_le hi h.size) (fun e => by
    rcases hr i e.symm with h1 | h1
    · omega
    · exact hn h1)).trans (h.block i hi hn)⟩
theorem grown_butK {w w' : World} {row : Option Nat} (h : w.grownBy w' row) : KeptBut row.toList w w' :=
  ⟨h.os, h.tape, h.output, h.size, fun i hi hn => h.block i hi (fun e => hn (by rw [← e]; simp))⟩
theorem KeptBut.keptK {S : List Nat} {W x y : World} (h : KeptBut S W x) (k : Kept x y) : KeptBut S W y := h.trans (k.but S)
theorem KeptBut.drewK {S : List Nat} {w w' : World} (h : KeptBut S w w') : KeptBut S w w'.drew := ⟨h.os, h.tape, h.output, h.size, h.block⟩
end Go.Proofs.YtmlcdohldkgcdaaGreatDoor
namespace Go.Proofs.YtmlcdohldkgcdaaGreatDoor
open Go Go.RowKit
structure CurAt (w : World) (bl bi : Nat) (A : Option Addr) (n c : Nat) (L : List Rng) (i : Nat) : Prop where
  l : w.heap[bl]? = some (.cells #[.slice A n c] 24 (0, 0))
  i : w.heap[bi]? = some (.cells #[.int .i64 i] 3 (0, 0))
  rs : Rngs w A n L
  aw : ∀ p, A = some p → 0 < n → p.block ≠ bi
section
variable {w w' : World} {bl bi : Nat} {A : Option Addr} {n c : Nat} {L : List Rng} {i : Nat}
theorem CurAt.ne (h : CurAt w bl bi A n c L i) : bl ≠ bi := fun e => by
  have h1 := h.l
  rw [e, h.i] at h1
  simp at h1
theorem CurAt.but {S : List Nat} (h : CurAt w bl bi A n c L i) (hk : KeptBut S w w') (hl : bl ∉ S) (hi : bi ∉ S) (ha : ∀ p, A = some p → 0 < n → p.block ∉ S) : CurAt w' bl bi A n c L i :=
  ⟨(hk.block _ (block_lt h.l) hl).trans h.l, (hk.block _ (block_lt h.i) hi).trans h.i, sl_butK h.rs hk ha, h.aw⟩
theorem CurAt.kept (h : CurAt w bl bi A n c L i) (hk : Kept w w') : CurAt w' bl bi A n c L i := h.but (hk.but []) (by simp) (by simp) (by simp)
theorem CurAt.above {S : List Nat} {B : Nat} (h : CurAt w bl bi A n c L i) (hk : KeptBut S w w') (hS : ∀ b ∈ S, B ≤ b) (h1 : bl < B) (h2 : bi < B) (h3 : ∀ p, A = some p → 0 < n → p.block < B) : CurAt w' bl bi A n c L i :=
  h.but hk (fun hm => by have := hS _ hm; omega) (fun hm => by have := hS _ hm; omega) (fun p hp h0 hm => by have := hS _ hm; have := h3 p hp h0; omega)
theorem CurAt.moved (h : CurAt w bl bi A n c L i) (j : Nat) : CurAt (w.setCell ⟨bi, 0, none⟩ (.int .i64 (j : Nat))) bl bi A n c L j := by
  have hk := KeptBut.setCell (S := [bi]) w (p := ⟨bi, 0, none⟩) (by simp) (.int .i64 (j : Nat))
  refine ⟨(hk.block _ (block_lt h.l) (by simpa using h.ne)).trans h.l, ?_, sl_butK h.rs hk (fun p hp h0 => by simpa using h.aw p hp h0), h.aw⟩
  simp [World.setCell, Array.getElem?_modify, h.i]
end
def curPos (w : World) (bi : Nat) : Nat := match w.cell? ⟨bi, 0, none⟩ with
  | some (.int _ j) => j.toNat
  | _ => 0
theorem CurAt.pos {w : World} {bl bi : Nat} {A : Option Addr} {n c : Nat} {L : List Rng} {i : Nat} (h : CurAt w bl bi A n c L i) : curPos w bi = i := by
  have c1 : w.cell? ⟨bi, 0, none⟩ = some (.int .i64 (i : Int)) := cell_of_block (i := 0) h.i rfl
  unfold curPos
  rw [c1]
  simp
def CurPost (bl bi : Nat) (A : Option Addr) (n c : Nat) (L : List Rng) (x : Int) (w : World) (e : Ending) (w' : World) : Prop :=
  ∃ j, e = .returned (.tuple #[.bool (curR L j x).1, .int .i64 (curR L j x).2]) ∧ KeptBut [bi] w w' ∧ CurAt w' bl bi A n c L j ∧ Rest L j x
set_option maxRecDepth 100000 in
set_option maxHeartbeats 2000000 in
theorem cursor_calls (bl bi : Nat) (A : Option Addr) (n c : Nat) (L : List Rng) (i : Nat) (x : Int) (w : World) (hn : n ≤ 100000) (hC : CurAt w bl bi A n c L i) (hP : Past L i x) (hL : ∀ r ∈ L, 0 ≤ r.lo ∧ r.lo ≤ 1114111) :
    Calls Tryz.prog 175 #[.int .i64 x, .pointer (some ⟨bi, 0, none⟩), .pointer (some ⟨bl, 0, none⟩)] w (CurPost bl bi A n c L x w) := by
  have HC := Lib.hid hC
  have HP := Lib.hid hP
  have HL := Lib.hid hL
  have HN := Lib.hid hC.rs.1
  clear hC hP hL
  go_enter Tryz.func175, Tryz.ntmps175
  go_wp2_with fail
  go_loopw [] (fun wr => ∃ j : Nat, j ≤ n ∧ KeptBut [bi] w wr ∧ CurAt wr bl bi A n c L j ∧ Past L j x) (fun wr => n - curPos wr bi)
  case atStart => exact ⟨i, by have := HP.out.1; have := HN.out; omega, KeptBut.refl _ _, HC.out, HP.out⟩
  case round =>
    obtain ⟨j, hj, hk, hC, hP⟩ := hrel
    have HK := Lib.hid hk
    have HCJ := Lib.hid hC
    have HPJ := Lib.hid hP
    have c0 := cell_of_block (i := 0) hC.l rfl
    have c1 := cell_of_block (i := 0) hC.i rfl
    have f1 := frozen_of_block (i := 0) hC.i
    simp only [s4_, s5_] at c0 c1
    clear hk hC hP
    by_cases hlt : j < n
    · obtain ⟨b, off, r, rfl, hr, d0, d1⟩ := rng_at HCJ.out.rs hlt
      have HR := Lib.hid hr
      have hrl := HL.out r (mem_of_getElem?_some hr)
      clear hr
      by_cases hc : r.hi < x
      · go_wp2_with fail
        go_roundw
        case rel =>
          refine ⟨j + 1, by omega, HK.out.trans (KeptBut.setCell _ (by simp) _), ?_, HPJ.out.next HR.out hc⟩
          have := HCJ.out.moved (j + 1)
          simpa using this
        case measure =>
          have h1 := HCJ.out.pos
          have h2 := (HCJ.out.moved (j + 1)).pos
          simp only [Int.natCast_add, Int.cast_ofNat_Int] at h2
          rw [h1, h2]
          omega
      · have hne : ¬ (j : Int) = (n : Int) := by omega
        have hne' : ¬ j = n := by omega
        have HREST := Lib.hid (show Rest L j x from ⟨HPJ.out, fun s hs => by rw [HR.out] at hs; injection hs with hs; rw [← hs]; omega⟩)
        by_cases hx : x < r.lo
        · have HCR := Lib.hid (show curR L j x = (false, r.lo - 1) by unfold curR; rw [HR.out]; exact if_pos hx)
          have hw : IntKind.i64.wrap (r.lo - 1) = r.lo - 1 := IntWalk.i64_in _ (by omega)
          have hw2 : wrap64 (r.lo - 1) = r.lo - 1 := IntWalk.wrap64_in _ (by omega)
          go_wp2_with fail
          go_region
          go_wp2_with fail
          go_ret2
          exact ⟨j, by rw [HCR.out]; rfl, HK.out.drewK, HCJ.out.kept (Kept.drew (Kept.refl _)), HREST.out⟩
        · have HCR := Lib.hid (show curR L j x = (true, r.hi) by unfold curR; rw [HR.out]; exact if_neg hx)
          go_wp2_with fail
          go_region
          go_wp2_with fail
          go_ret2
          exact ⟨j, by rw [HCR.out]; rfl, HK.out.drewK, HCJ.out.kept (Kept.drew (Kept.refl _)), HREST.out⟩
    · have hje : j = n := by omega
      subst hje
      have HREST := Lib.hid (show Rest L j x from ⟨HPJ.out, fun s hs => by have := lt_of_getElem?_some hs; have := HN.out; omega⟩)
      have HCR := Lib.hid (show curR L j x = (false, 1114111) by unfold curR; rw [List.getElem?_eq_none (by have := HN.out; omega)])
      go_wp2_with fail
      go_ret2
      exact ⟨j, by rw [HCR.out]; rfl, HK.out, HCJ.out, HREST.out⟩
end Go.Proofs.YtmlcdohldkgcdaaGreatDoor
namespace Go.Proofs.YtmlcdohldkgcdaaGreatDoor
open Go Go.RowKit
theorem rngs_one {w : World} {A : Option Addr} {n b : Nat} {rs : List Rng} {v : Value} {t : TypeId} (h : Rngs w A n rs) (hb : w.heap[b]? = some (.cells #[v] t (0, 0))) : ∀ p, A = some p → 0 < n → p.block ≠ b := by
  intro p hp h0 e
  obtain ⟨b', off, eA, hc⟩ := h.2 h0
  rw [hp] at eA
  injection eA with eA
  subst eA
  simp only at e
  subst e
  obtain ⟨r, hr0⟩ := getElem?_some_of_lt (l := rs) (k := 0) (by have := h.1; omega)
  have c1 := hc 0 r hr0 1 (.int .i64 r.hi) rfl
  unfold World.cell? at c1
  simp only [hb] at c1
  have hlt := (Array.getElem?_eq_some_iff.1 c1).1
  simp at hlt
theorem field_setR (A : Option Addr) (n c : Nat) (w : World) : Sem.run Tryz.prog (Instr.field 26 (.agg #[.slice A n c]) 0) w = .ok (.slice A n c) w := by kernel_rfl
def RetCur (w : World) (L : List Rng) (e : Ending) (w' : World) : Prop :=
  ∃ bl bi A n c, e = .returned (.func (.func 175) #[] #[.pointer (some ⟨bi, 0, none⟩), .pointer (some ⟨bl, 0, none⟩)]) ∧ CurAt w' bl bi A n c L 0 ∧ w.heap.size ≤ bl ∧ w.heap.size ≤ bi ∧ Kept w w'
set_option maxRecDepth 100000 in
set_option maxHeartbeats 2000000 in
theorem cursor_any (A : Option Addr) (n c : Nat) (R : List Rng) (w : World) (hn : n ≤ 100000) (hR : Rngs w A n R) : Calls Tryz.prog 132 #[.agg #[.slice A n c]] w (RetCur w (makeR R)) := by
  have hk1 := Kept.alloc (Kept.refl w) (Obj.cells #[Value.slice A n c] 26)
  have HM := Lib.hid (make_any A n c R _ hn (hR.kept hk1))
  have HK1 := Lib.hid hk1
  have b0 := box_cell w #[Value.slice A n c] 26 0
  simp only [List.getElem?_toArray, List.getElem?_cons_zero] at b0
  clear hk1 hR
  generalize makeR R = L at *
  go_enter Tryz.func132, Tryz.ntmps132
  go_wp2_with fail
  refine HM.out.mono ?_
  rintro e w1 ⟨A1, n1, c1, rfl, le1, i1, k1⟩
  have K1 := Lib.hid (Kept.trans HK1.out k1)
  have I1 := Lib.hid i1
  have hfs := field_setR A1 n1 c1 w1
  clear i1
  go_wp2
  go_ret
  obtain ⟨B, hB⟩ : ∃ B : Nat, B = w1.heap.size := ⟨_, rfl⟩
  rw [← hB]
  have hs := K1.out.size
  have e1 : ((w1.alloc (Obj.cells #[Value.slice A1 n1 c1] 24)).alloc (Obj.cells #[Value.int .i64 0] 3)).heap[B]? = some (.cells #[Value.slice A1 n1 c1] 24 (0, 0)) := alloc_lift (alloc_at hB)
  have e2 : ((w1.alloc (Obj.cells #[Value.slice A1 n1 c1] 24)).alloc (Obj.cells #[Value.int .i64 0] 3)).heap[B + 1]? = some (.cells #[Value.int .i64 0] 3 (0, 0)) := alloc_at (by simp [hB])
  have hkk := Kept.alloc (Kept.alloc (Kept.refl w1) (Obj.cells #[Value.slice A1 n1 c1] 24)) (Obj.cells #[Value.int .i64 0] 3)
  have hr := I1.out.kept hkk
  exact ⟨B, B + 1, A1, n1, c1, rfl, ⟨e1, e2, hr, rngs_one hr e2⟩, by omega, by omega, Kept.trans K1.out hkk⟩
def RetHas (w : World) (f : Int → Bool) (e : Ending) (w' : World) : Prop := ∃ R A m c, e = .returned (.agg #[.slice A m c]) ∧ m ≤ c ∧ m ≤ 100000 ∧ Rngs w' A m R ∧ Canon R ∧ (∀ x, hasR R x = f x) ∧ Kept w w'
set_option maxRecDepth 100000 in
set_option maxHeartbeats 4000000 in
theorem combine_any (gk : Nat) (kp : Bool → Bool → Bool) (egk : ∀ args w, (callFunc gk args).run Tryz.prog w = .ok (.enter gk args) w) (hkp : ∀ a b w, Calls Tryz.prog gk #[.bool a, .bool b] w (RetB w (kp a b)))
    (A1 : Option Addr) (n1 c1 : Nat) (R1 : List Rng) (A2 : Option Addr) (n2 c2 : Nat) (R2 : List Rng) (w : World) (hn1 : n1 ≤ 10000) (hn2 : n2 ≤ 10000) (hR1 : Rngs w A1 n1 R1) (hR2 : Rngs w A2 n2 R2) :
    Calls Tryz.prog 102 #[.agg #[.slice A1 n1 c1], .agg #[.slice A2 n2 c2], .func (.func gk) #[] #[]] w (RetHas w (fun x => validB x && kp (hasR R1 x) (hasR R2 x))) := by
  have HM1 := Lib.hid (show ∀ w', Kept w w' → Calls Tryz.prog 132 #[.agg #[.slice A1 n1 c1]] w' (RetCur w' (makeR R1)) from fun w' hk => cursor_any A1 n1 c1 R1 w' (by omega) (hR1.kept hk))
  have HM2 := Lib.hid (show ∀ w', Kept w w' → Calls Tryz.prog 132 #[.agg #[.slice A2 n2 c2]] w' (RetCur w' (makeR R2)) from fun w' hk => cursor_any A2 n2 c2 R2 w' (by omega) (hR2.kept hk))
  have HC1 := Lib.hid (makeR_spec R1).1
  have HC2 := Lib.hid (makeR_spec R2).1
  have HH1 := Lib.hid (has_make R1)
  have HH2 := Lib.hid (has_make R2)
  have HL1 := Lib.hid (show (makeR R1).length ≤ 10000 by have := makeR_length R1; have := hR1.1; omega)
  have HL2 := Lib.hid (show (makeR R2).length ≤ 10000 by have := makeR_length R2; have := hR2.1; omega)
  have HKP := Lib.hid hkp
  have hk3 := Kept.alloc (Kept.alloc (Kept.alloc (Kept.refl w) (Obj.cells #[Value.slice A1 n1 c1] 26)) (Obj.cells #[Value.slice A2 n2 c2] 26)) (Obj.cells #[Value.slice none 0 0] 26)
  have HK3 := Lib.hid hk3
  obtain ⟨B, hB⟩ : ∃ B : Nat, B = w.heap.size := ⟨_, rfl⟩
  have HBB := Lib.hid hB
  have hb0 : (((w.alloc (Obj.cells #[Value.slice A1 n1 c1] 26)).alloc (Obj.cells #[Value.slice A2 n2 c2] 26)).alloc (Obj.cells #[Value.slice none 0 0] 26)).heap[B]? = some (.cells #[Value.slice A1 n1 c1] 26 (0, 0)) := alloc_lift (alloc_lift (alloc_at hB))
  have hb1 : (((w.alloc (Obj.cells #[Value.slice A1 n1 c1] 26)).alloc (Obj.cells #[Value.slice A2 n2 c2] 26)).alloc (Obj.cells #[Value.slice none 0 0] 26)).heap[B + 1]? = some (.cells #[Value.slice A2 n2 c2] 26 (0, 0)) := alloc_lift (alloc_at (by simp [hB]))
  have hb2 : (((w.alloc (Obj.cells #[Value.slice A1 n1 c1] 26)).alloc (Obj.cells #[Value.slice A2 n2 c2] 26)).alloc (Obj.cells #[Value.slice none 0 0] 26)).heap[B + 1 + 1]? = some (.cells #[Value.slice none 0 0] 26 (0, 0)) := alloc_at (by simp [hB])
  have HB2 := Lib.hid hb2
  have c0 := cell_of_block (i := 0) hb0 rfl
  have c1' := cell_of_block (i := 0) hb1 rfl
  simp only [s4_, s5_] at c0 c1'
  have HX0 := Lib.hid c0
  have HX1 := Lib.hid c1'
  obtain ⟨i0, hi, hz0, hz1, hz2⟩ := info_parts info_rng
  have HI0 := Lib.hid hi
  have HZ0 := Lib.hid hz0
  have HZ1 := Lib.hid hz1
  have HZ2 := Lib.hid hz2
  have eg1 := enters_of Tryz.func175 (by kernel_rfl) rfl
  clear hi hz0 hz1 hz2 hR1 hR2 hkp hk3 hb0 hb1 hb2
  generalize makeR R1 = L1 at *
  generalize makeR R2 = L2 at *
  go_enter Tryz.func102, Tryz.ntmps102
  clear hB
  go_wp2_with fail
  rw [← HBB.out]
  generalize ((w.alloc (Obj.cells #[Value.slice A1 n1 c1] 26)).alloc (Obj.cells #[Value.slice A2 n2 c2] 26)).alloc (Obj.cells #[Value.slice none 0 0] 26) = W3 at *
  refine wp_region_held_drew (S := (fun w' => w'.cell? ⟨B, 0, none⟩ = some (.slice A1 n1 c1) ∧ w'.cell? ⟨B + 1, 0, none⟩ = some (.slice A2 n2 c2))) (by kernel_rfl) ⟨c0, c1'⟩ (fun hHeld => ?_)
  refine tk_ 0 ?_ rfl ?_; refine tk_ 2 ?_ rfl ?_
  refine rd_ 1 rfl (fun K hK => ?_)
  go_simp
  (refine (HM1.out _ (Kept.drew HK3.out)).mono ?_; rintro e w4 ⟨bl1, bi1, A3, n3, c3, rfl, ca4, hl1, hi1, k4⟩; have CA4 := Lib.hid ca4; have K4 := Lib.hid (Kept.trans (Kept.drew (Kept.refl W3)) k4); clear ca4 k4)
  go_wp2_with fail
  refine hK.out _ _ ⟨Kept.cell K4.out HX0.out, Kept.cell K4.out HX1.out⟩ (fun hHeld => ?_)
  clear hK K
  (try simp only [Act.put, s1_, s2_, s3_, s4_, s5_, s6_])
  refine rd_ 3 rfl (fun K hK => ?_)
  go_simp
  (refine (HM2.out _ (Kept.trans HK3.out K4.out)).mono ?_; rintro e w5 ⟨bl2, bi2, A4, n4, c4, rfl, cb5, hl2, hi2, k5⟩; have CB5 := Lib.hid cb5; have K5 := Lib.hid (Kept.trans K4.out k5); have CA5 := Lib.hid (CA4.out.kept k5); have HS45 := Lib.hid k5.size; clear cb5 k5)
  go_wp2_with fail
  refine hK.out _ _ ⟨Kept.cell K5.out HX0.out, Kept.cell K5.out HX1.out⟩ (fun hHeld => ?_)
  clear hK K
  (try simp only [Act.put, s1_, s2_, s3_, s4_, s5_, s6_])
  refine tk_ 4 ?_ rfl ?_; refine tk_ 5 ?_ rfl ?_
  refine wpAnyH_done (by kernel_rfl) ?_ _
  clear c0 c1'
  have hd0 : W3.drew.heap.size = W3.heap.size := rfl
  have hz1 := block_lt CA4.out.l
  have hz2 := block_lt CA4.out.i
  have hz3 := block_lt CB5.out.l
  have hz4 := block_lt CB5.out.i
  have hz5 := HS45.out
  have hz6 := K5.out.size
  have hz7 := K4.out.size
  have hz8 : B + 1 + 1 < W3.heap.size := block_lt HB2.out
  have HLA := Lib.hid CA5.out.rs.1
  have HLB := Lib.hid CB5.out.rs.1
  have HFA := Lib.hid (show ∀ p, A3 = some p → 0 < n3 → p.block < w5.heap.size from fun p hp h0 => by
    obtain ⟨b, off, r, e, _, d0, _⟩ := rng_at CA5.out.rs h0
    rw [e] at hp
    injection hp with hp
    rw [← hp]
    exact cell_lt d0)
  have HFB := Lib.hid (show ∀ p, A4 = some p → 0 < n4 → p.block < w5.heap.size from fun p hp h0 => by
    obtain ⟨b, off, r, e, _, d0, _⟩ := rng_at CB5.out.rs h0
    rw [e] at hp
    injection hp with hp
    rw [← hp]
    exact cell_lt d0)
  have HEL := Lib.hid (show (endsR L1 ++ endsR L2).length ≤ 60000 by rw [List.length_append, endsR_length, endsR_length]; have := HL1.out; have := HL2.out; omega)
  have HR1 := Lib.hid (show ∀ r ∈ L1, 0 ≤ r.lo ∧ r.lo ≤ 1114111 from fun r hr => by obtain ⟨h1, h2, h3⟩ := HC1.out.1 r hr; omega)
  have HR2 := Lib.hid (show ∀ r ∈ L2, 0 ≤ r.lo ∧ r.lo ≤ 1114111 from fun r hr => by obtain ⟨h1, h2, h3⟩ := HC2.out.1 r hr; omega)
  have hn3 : n3 ≤ 100000 := by rw [HLA.out]; have := HL1.out; omega
  have hn4 : n4 ≤ 100000 := by rw [HLB.out]; have := HL2.out; omega
  clear CA4 hHeld
  go_wp2_with fail
  go_loopw [9, 10] (fun p lo wr => ∃ (x : Int) (out : List Rng) (i1 i2 : Nat), lo = .int .i64 x ∧ 0 ≤ x ∧ x ≤ 1114112 ∧ OwnR wr w5.heap.size p out ∧ CombInv L1 L2 kp out x ∧ CurAt wr bl1 bi1 A3 n3 c3 L1 i1 ∧ CurAt wr bl2 bi2 A4 n4 c4 L2 i2 ∧ Past L1 i1 x ∧ Past L2 i2 x ∧ KeptBut [bi1, bi2] w5 wr ∧ out.length ≤ endsBefore (endsR L1 ++ endsR L2) x) (fun _ lo _ => (1114112 - intOf lo).toNat)
  case atStart => exact ⟨0, [], 0, 0, rfl, by omega, by omega, (World.ownsRow_nil _ _ _ _ : OwnR w5 w5.heap.size (.slice none 0 0) []), CombInv.zero _ _ _, CA5.out, CB5.out, Past.zero _ _, Past.zero _ _, KeptBut.refl _ _, by simp⟩
  case round =>
    obtain ⟨x, out, i1, i2, rfl, hx0, hx1, hown, hinv, hca, hcb, hpa, hpb, hkb, hlen⟩ := hrel
    have HO := Lib.hid hown
    have HINV := Lib.hid hinv
    have HCA := Lib.hid hca
    have HCB := Lib.hid hcb
    have HPA := Lib.hid hpa
    have HPB := Lib.hid hpb
    have HKB := Lib.hid hkb
    have HLEN := Lib.hid hlen
    clear hown hinv hca hcb hpa hpb hkb hlen
    by_cases hlt : x ≤ 1114111
    · go_wp2_with fail
      refine (cursor_calls bl1 bi1 A3 n3 c3 L1 i1 x _ hn3 HCA.out HPA.out HR1.out).mono ?_
      rintro e w6 ⟨j1, rfl, k6, ca6, rest6⟩
      have hq1 := cur_right HC1.out rest6 hx0 hlt
      have he1 := cur_end L1 j1 x
      have HP6 := Lib.hid rest6.1
      have HCA6 := Lib.hid ca6
      have HCB6 := Lib.hid (HCB.out.but k6 (by simp; omega) (by simp; omega) (fun p hp h0 => by simpa using rngs_one HCB.out.rs HCA.out.i p hp h0))
      have HO6 := Lib.hid (show OwnR w6 w5.heap.size u9 out from own_butK HO.out k6 (fun g hg => by have := (World.ownsRow.lt HO.out g hg).1; simp; omega))
      have HKB6 := Lib.hid (HKB.out.trans (k6.monoK (by simp)))
      clear k6 ca6 rest6
      generalize curR L1 j1 x = q1 at *
      obtain ⟨a1, x1⟩ := q1
      simp only at hq1 he1
      obtain ⟨hq1, hq2, hq3⟩ := hq1
      have HQ3 := Lib.hid hq3
      have HE1 := Lib.hid he1
      clear hq3 he1
      dsimp only
      go_wp2_with fail
      refine (cursor_calls bl2 bi2 A4 n4 c4 L2 i2 x _ hn4 HCB6.out HPB.out HR2.out).mono ?_
      rintro e w7 ⟨j2, rfl, k7, cb7, rest7⟩
      have hr1 := cur_right HC2.out rest7 hx0 hlt
      have he2 := cur_end L2 j2 x
      have HP7 := Lib.hid rest7.1
      have HCB7 := Lib.hid cb7
      have HCA7 := Lib.hid (HCA6.out.but k7 (by simp; omega) (by simp; omega) (fun p hp h0 => by simpa using rngs_one HCA6.out.rs HCB6.out.i p hp h0))
      have HO7 := Lib.hid (show OwnR w7 w5.heap.size u9 out from own_butK HO6.out k7 (fun g hg => by have := (World.ownsRow.lt HO6.out g hg).1; simp; omega))
      have HKB7 := Lib.hid (HKB6.out.trans (k7.monoK (by simp)))
      clear k7 cb7 rest7
      generalize curR L2 j2 x = q2 at *
      obtain ⟨a2, x2⟩ := q2
      simp only at hr1 he2
      obtain ⟨hr1, hr2, hr3⟩ := hr1
      have HR3 := Lib.hid hr3
      have HE2 := Lib.hid he2
      clear hr3 he2
      dsimp only
      obtain ⟨hi, hhi⟩ : ∃ hi : Int, hi = min x1 x2 := ⟨_, rfl⟩
      have hb1 : x ≤ hi := by omega
      have hb2 : hi ≤ 1114111 := by omega
      have HIN := Lib.hid (show hi ∈ endsR L1 ++ endsR L2 by
        rw [List.mem_append, hhi]
        rcases Int.le_total x1 x2 with h | h
        · rw [Int.min_eq_left h]; exact .inl HE1.out
        · rw [Int.min_eq_right h]; exact .inr HE2.out)
      have HN1 := Lib.hid (show ∀ y, x ≤ y → y ≤ hi → hasR L1 y = a1 from fun y h1 h2 => HQ3.out y h1 (by omega))
      have HN2 := Lib.hid (show ∀ y, x ≤ y → y ≤ hi → hasR L2 y = a2 from fun y h1 h2 => HR3.out y h1 (by omega))
      have HSTEP := Lib.hid (endsBefore_step hb1 _ HIN.out)
      have HEB := Lib.hid (endsBefore_le (endsR L1 ++ endsR L2) x)
      have hw : IntKind.i64.wrap (hi + 1) = hi + 1 := IntWalk.i64_in _ (by omega)
      have hw2 : wrap64 (hi + 1) = hi + 1 := IntWalk.wrap64_in _ (by omega)
      have HKC := Lib.hid (HKP.out a1 a2)
      have hs7 := HKB7.out.size
      have hol : out.length ≤ 60000 := by have := HLEN.out; have := HEB.out; have := HEL.out; omega
      go_wp2_with fail
      rw [← hhi]
      have HHI := Lib.hid hhi
      clear hhi
      refine (HKC.out _).mono ?_
      rintro e w8 ⟨rfl, k8⟩
      have HO8 := Lib.hid (show OwnR w8 w5.heap.size u9 out from own_butK HO7.out (k8.but []) (by simp))
      have HCA8 := Lib.hid (HCA7.out.kept k8)
      have HCB8 := Lib.hid (HCB7.out.kept k8)
      have HKB8 := Lib.hid (HKB7.out.keptK k8)
      have hs8 := k8.size
      clear k8
      cases hkv : kp a1 a2
      · have HIN2 := Lib.hid (HINV.out.drop hx0 hb1 HN1.out HN2.out hkv)
        clear hkv
        go_wp2_with fail
        go_roundw
        case rel => exact ⟨hi + 1, out, j1, j2, by first | rfl | go_num, by omega, by omega, HO8.out, HIN2.out, HCA8.out, HCB8.out, HP6.out.mono (by omega), HP7.out.mono (by omega), HKB8.out, by have := HLEN.out; have := HSTEP.out; omega⟩
        case measure => simp [intOf]; omega
      · have HIN2 := Lib.hid (HINV.out.keep hx0 hb1 HN1.out HN2.out hkv)
        clear hkv
        go_wp2_with (at_builtin; refine wpList_append_own _ rfl _ _ 24 rfl w5.heap.size 48 i0 (.agg #[.int .i64 0, .int .i64 0]) 2 16 Tryz.underlying24 HI0.out HZ0.out HZ1.out HZ2.out rfl (by decide) _ _ _ rfl (HO8.out.alloc _) ⟨w8.heap.size, 0, none⟩ 1 1 [.int .i64 x, .int .i64 hi] rfl rfl (cell_two_new rfl) (by simp [Value.oneCell']) (by unfold maxLen; omega) (by omega) (by simp; omega) ?_; intro v9 w9 hown9 hg9 _)
        have hka := Kept.alloc (Kept.refl w8) (Obj.cells #[Value.int .i64 x, Value.int .i64 hi] 48)
        have hgb := grown_butK hg9
        have hrow : ∀ b ∈ u9.ownBlock.toList, w5.heap.size ≤ b := fun b hb => (World.ownsRow.lt HO8.out b (by simpa using hb)).1
        have HCA9 := Lib.hid ((HCA8.out.kept hka).above hgb hrow (by omega) (by omega) HFA.out)
        have HCB9 := Lib.hid ((HCB8.out.kept hka).above hgb hrow (by omega) (by omega) HFB.out)
        have HKB9 := Lib.hid ((HKB8.out.keptK hka).grownK hg9 (fun g hg => .inl (World.ownsRow.lt HO8.out g hg).1))
        have HO9 := Lib.hid (show OwnR w9 w5.heap.size v9 (out ++ [⟨x, hi⟩]) by
          have := hown9
          simpa [OwnR, encR] using this)
        clear hown9 hg9 hka hgb hrow
        go_wp2_with fail
        go_roundw
        case rel => exact ⟨hi + 1, out ++ [⟨x, hi⟩], j1, j2, by first | rfl | go_num, by omega, by omega, HO9.out, HIN2.out, HCA9.out, HCB9.out, HP6.out.mono (by omega), HP7.out.mono (by omega), HKB9.out, by have := HLEN.out; have := HSTEP.out; simp; omega⟩
        case measure => simp [intOf]; omega
    · obtain ⟨A9, c9, rfl, hle9, hI9⟩ := Sl.of_own (k := 2) (enc := encR) (fun _ => rfl) HO.out
      obtain ⟨no, hno⟩ : ∃ no : Nat, no = out.length := ⟨_, rfl⟩
      rw [← hno] at hle9 hI9 ⊢
      have hol : no ≤ 60000 := by have := HLEN.out; have := endsBefore_le (endsR L1 ++ endsR L2) x; have := HEL.out; omega
      have HALL := Lib.hid (HINV.out.all (by omega))
      have HMK := Lib.hid (make_any A9 no c9 out wr (by omega) hI9)
      have HMS := Lib.hid (makeR_spec out).1
      have HML := Lib.hid (makeR_length out)
      have hB3 : wr.heap[B + 1 + 1]? = some (.cells #[Value.slice none 0 0] 26 (0, 0)) := (HKB.out.block _ (by omega) (by simp; omega)).trans ((K5.out.block _ (by omega)).trans HB2.out)
      have HB3 := Lib.hid hB3
      have HNO := Lib.hid hno
      clear hB3 hI9 hno
      generalize makeR out = M at *
      go_wp2_with fail
      refine HMK.out.mono ?_
      rintro e w6 ⟨A10, n10, c10, rfl, le10, i10, k10⟩
      have I10 := Lib.hid i10
      have HB6 := Lib.hid ((k10.block _ (block_lt HB3.out)).trans HB3.out)
      have e2 := cell_of_block (i := 0) HB6.out rfl
      have e3 := frozen_of_block (i := 0) HB6.out
      simp only [s4_, s5_] at e2
      clear i10
      go_wp2_with fail
      have e4 : (w6.setCell ⟨B + 1 + 1, 0, none⟩ (.slice A10 n10 c10)).cell? ⟨B + 1 + 1, 0, none⟩ = some (.slice A10 n10 c10) := cell_of_block (i := 0) (heap_setCell_one HB6.out) rfl
      clear e2 e3
      refine bodyPost_ret (v := .agg #[.slice A10 n10 c10]) (by simp [results, Tryz.results102, go_sem, e4]) rfl ⟨M, A10, n10, c10, rfl, le10, by rw [I10.out.1]; have := HML.out; have := HNO.out; omega, ?_, HMS.out, fun y => by rw [HALL.out y, HH1.out, HH2.out], ?_⟩
      · exact sl_butK I10.out (KeptBut.setCell (S := [B + 1 + 1]) w6 (by simp) _) (fun p hp h0 => by simpa using rngs_one I10.out HB6.out p hp h0)
      · have h5 : Kept w wr := Kept.trans HK3.out ⟨HKB.out.os.trans K5.out.os, HKB.out.tape.trans K5.out.tape, HKB.out.output.trans K5.out.output, by have := HKB.out.size; omega, fun i hi => (HKB.out.block i (by omega) (by simp; omega)).trans (K5.out.block i hi)⟩
        exact Kept.setCell (Kept.trans h5 k10) (by rw [← HBB.out]; show B ≤ B + 1 + 1; omega) _
theorem or_keep (a b : Bool) (w : World) : Calls Tryz.prog 103 #[.bool a, .bool b] w (RetB w (a || b)) := by
  cases a
  all_goals
    go_enter Tryz.func103, Tryz.ntmps103
    go_wp2
    go_ret
    exact ⟨rfl, Kept.refl w⟩
set_option maxRecDepth 100000 in
set_option maxHeartbeats 1000000 in
theorem or_any (A1 : Option Addr) (n1 c1 : Nat) (R1 : List Rng) (A2 : Option Addr) (n2 c2 : Nat) (R2 : List Rng) (w : World) (hn1 : n1 ≤ 10000) (hn2 : n2 ≤ 10000) (hR1 : Rngs w A1 n1 R1) (hR2 : Rngs w A2 n2 R2) :
    Calls Tryz.prog 69 #[.agg #[.slice A1 n1 c1], .agg #[.slice A2 n2 c2]] w (RetHas w (fun x => validB x && (hasR R1 x || hasR R2 x))) := by
  have hk3 := Kept.alloc (Kept.alloc (Kept.alloc (Kept.refl w) (Obj.cells #[Value.slice A1 n1 c1] 26)) (Obj.cells #[Value.slice A2 n2 c2] 26)) (Obj.cells #[Value.slice none 0 0] 26)
  have HC := Lib.hid (combine_any 103 (fun a b => a || b) (enters_of Tryz.func103 (by kernel_rfl) rfl) (fun a b w => or_keep a b w) A1 n1 c1 R1 A2 n2 c2 R2 _ hn1 hn2 (hR1.kept hk3) (hR2.kept hk3))
  have HK3 := Lib.hid hk3
  obtain ⟨B, hB⟩ : ∃ B : Nat, B = w.heap.size := ⟨_, rfl⟩
  have HBB := Lib.hid hB
  have hb0 : (((w.alloc (Obj.cells #[Value.slice A1 n1 c1] 26)).alloc (Obj.cells #[Value.slice A2 n2 c2] 26)).alloc (Obj.cells #[Value.slice none 0 0] 26)).heap[B]? = some (.cells #[Value.slice A1 n1 c1] 26 (0, 0)) := alloc_lift (alloc_lift (alloc_at hB))
  have hb1 : (((w.alloc (Obj.cells #[Value.slice A1 n1 c1] 26)).alloc (Obj.cells #[Value.slice A2 n2 c2] 26)).alloc (Obj.cells #[Value.slice none 0 0] 26)).heap[B + 1]? = some (.cells #[Value.slice A2 n2 c2] 26 (0, 0)) := alloc_lift (alloc_at (by simp [hB]))
  have hb2 : (((w.alloc (Obj.cells #[Value.slice A1 n1 c1] 26)).alloc (Obj.cells #[Value.slice A2 n2 c2] 26)).alloc (Obj.cells #[Value.slice none 0 0] 26)).heap[B + 1 + 1]? = some (.cells #[Value.slice none 0 0] 26 (0, 0)) := alloc_at (by simp [hB])
  have HB2 := Lib.hid hb2
  have c0 := cell_of_block (i := 0) hb0 rfl
  have c1' := cell_of_block (i := 0) hb1 rfl
  simp only [s4_, s5_] at c0 c1'
  clear hR1 hR2 hk3 hb0 hb1 hb2 hB
  go_enter Tryz.func69, Tryz.ntmps69
  go_wp2_with fail
  rw [← HBB.out]
  generalize ((w.alloc (Obj.cells #[Value.slice A1 n1 c1] 26)).alloc (Obj.cells #[Value.slice A2 n2 c2] 26)).alloc (Obj.cells #[Value.slice none 0 0] 26) = W3 at *
  refine HC.out.mono ?_
  rintro e w6 ⟨M, A10, n10, c10, rfl, le10, hm10, i10, hcan, hhas, k10⟩
  have I10 := Lib.hid i10
  have HB6 := Lib.hid ((k10.block _ (block_lt HB2.out)).trans HB2.out)
  have HCAN := Lib.hid hcan
  have HHAS := Lib.hid hhas
  have e2 := cell_of_block (i := 0) HB6.out rfl
  have e3 := frozen_of_block (i := 0) HB6.out
  simp only [s4_, s5_] at e2
  clear i10 hcan hhas
  go_wp2_with fail
  have e4 : (w6.setCell ⟨B + 1 + 1, 0, none⟩ (.slice A10 n10 c10)).cell? ⟨B + 1 + 1, 0, none⟩ = some (.slice A10 n10 c10) := cell_of_block (i := 0) (heap_setCell_one HB6.out) rfl
  clear e2 e3
  refine bodyPost_ret (v := .agg #[.slice A10 n10 c10]) (by simp [results, Tryz.results69, go_sem, e4]) rfl ⟨M, A10, n10, c10, rfl, le10, hm10, ?_, HCAN.out, HHAS.out, ?_⟩
  · exact sl_butK I10.out (KeptBut.setCell (S := [B + 1 + 1]) w6 (by simp) _) (fun p hp h0 => by simpa using rngs_one I10.out HB6.out p hp h0)
  · exact Kept.setCell (Kept.trans HK3.out k10) (by rw [← HBB.out]; show B ≤ B + 1 + 1; omega) _
end Go.Proofs.YtmlcdohldkgcdaaGreatDoor
