/- The data of case mapping in memory. ident.made, Valid. And more of that kind. -/
import Derived.Deep.RegionHeld3
import Derived.Deep.Cut
import Derived.Test.YtmlcdohldkgcdaaGreatDoorKRefA
import Derived.Test.YtmlcdohldkgcdaaGreatDoorKSq
import Derived.Test.YtmlcdohldkgcdaaGreatDoorKIdC
import Derived.Test.YtmlcdohldkgcdaaGreatDoorKCur
import Derived.Test.YtmlcdohldkgcdaaGreatDoorKExpC
import Derived.Test.YtmlcdohldkgcdaaGreatDoorKRgx
import Derived.Test.YtmlcdohldkgcdaaGreatDoorKSqx
import Derived.Test.YtmlcdohldkgcdaaGreatDoorKSimA
import Derived.Test.YtmlcdohldkgcdaaGreatDoorKPl58
import Derived.Test.YtmlcdohldkgcdaaGreatDoorKSta
import Derived.Test.YtmlcdohldkgcdaaGreatDoorKNrm
namespace Go.Proofs.YtmlcdohldkgcdaaGreatDoor
open Go Go.RowKit
structure Cas where
  A1 : Option Addr
  n1 : Nat
  c1 : Nat
  A2 : Option Addr
  n2 : Nat
  c2 : Nat
  A3 : Option Addr
  n3 : Nat
  c3 : Nat
  A4 : Option Addr
  n4 : Nat
  c4 : Nat
  A5 : Option Addr
  n5 : Nat
  c5 : Nat
  A6 : Option Addr
  n6 : Nat
  c6 : Nat
def Cas.val (k : Cas) : Value := .agg #[.slice k.A1 k.n1 k.c1, .slice k.A2 k.n2 k.c2, .slice k.A3 k.n3 k.c3, .slice k.A4 k.n4 k.c4, .slice k.A5 k.n5 k.c5, .slice k.A6 k.n6 k.c6]
structure CasR where
  lo : List Mp
  up : List Mp
  ti : List Mp
  fo : List Mp
  ca : List Rng
  ig : List Rng
structure MpsIn (w : World) (A : Option Addr) (n c : Nat) (l : List Mp) : Prop where
  le : n ≤ c
  big : c ≤ 9223372036854775807
  at_ : Mps w A n l
  tos : ∀ m ∈ l, m.to.length ≤ 9223372036854775807
theorem MpsIn.kept {w w' : World} {A : Option Addr} {n c : Nat} {l : List Mp} (h : MpsIn w A n c l) (hk : Kept w w') : MpsIn w' A n c l := ⟨h.le, h.big, h.at_.kept hk, h.tos⟩
structure CasIn (w : World) (k : Cas) (r : CasR) : Prop where
  m1 : MpsIn w k.A1 k.n1 k.c1 r.lo
  m2 : MpsIn w k.A2 k.n2 k.c2 r.up
  m3 : MpsIn w k.A3 k.n3 k.c3 r.ti
  m4 : MpsIn w k.A4 k.n4 k.c4 r.fo
  l5 : k.n5 ≤ k.c5
  l6 : k.n6 ≤ k.c6
  r5 : Rngs w k.A5 k.n5 r.ca
  r6 : Rngs w k.A6 k.n6 r.ig
theorem CasIn.kept {w w' : World} {k : Cas} {r : CasR} (h : CasIn w k r) (hk : Kept w w') : CasIn w' k r := ⟨h.m1.kept hk, h.m2.kept hk, h.m3.kept hk, h.m4.kept hk, h.l5, h.l6, h.r5.kept hk, h.r6.kept hk⟩
theorem smallMaps_parts {l : List Mp} (h : smallMaps l = true) : l.length ≤ 20 ∧ (∀ m ∈ l, m.to.length ≤ 65) ∧ ∀ m ∈ l, m.tag.size ≤ 40 := by
  obtain ⟨_, h1, _, h2⟩ := smallB_parts (n := ⟨[], l, []⟩) (by simp [smallB, h])
  exact ⟨h1, fun m hm => (h2 m hm).1, fun m hm => (h2 m hm).2⟩
def smallC (r : CasR) : Bool := smallMaps r.lo && smallMaps r.up && smallMaps r.ti && smallMaps r.fo && decide (r.ca.length ≤ 12) && decide (r.ig.length ≤ 12)
structure SmallC (r : CasR) : Prop where
  s1 : smallMaps r.lo = true
  s2 : smallMaps r.up = true
  s3 : smallMaps r.ti = true
  s4 : smallMaps r.fo = true
  s5 : r.ca.length ≤ 12
  s6 : r.ig.length ≤ 12
theorem smallC_parts {r : CasR} (h : smallC r = true) : SmallC r := by
  simp only [smallC, Bool.and_eq_true, decide_eq_true_eq] at h
  exact ⟨h.1.1.1.1.1, h.1.1.1.1.2, h.1.1.1.2, h.1.1.2, h.1.2, h.2⟩
end Go.Proofs.YtmlcdohldkgcdaaGreatDoor
namespace Go.Proofs.YtmlcdohldkgcdaaGreatDoor
open Go Go.RowKit
theorem p_valid (r : IdR) (x : Int) : (validB x && (hasR r.st x || hasR r.co x)) = r.p x := by
  unfold IdR.p
  cases hv : validB x
  · rw [hasR_bad hv, hasR_bad hv]; rfl
  · rfl
set_option maxRecDepth 100000 in
set_option maxHeartbeats 2000000 in
theorem made_any (i : Ids) (r : IdR) (w : World) (hI : IdIn w i r) (hs : smallI r = true) : Calls Tryz.prog 48 #[i.val] w (fun e w' => ∃ B, e = .returned (.pointer (some ⟨B, 0, none⟩)) ∧ SetsAt w' B r.b r.p r.c ∧ Kept w w') := by
  have hk0_ := Kept.alloc (Kept.refl w) (Obj.cells #[Value.slice i.As i.ns i.cs, Value.slice i.Ac i.nc i.cc, Value.slice i.Am i.nm i.cm] 54)
  have HK1 := Lib.hid hk0_
  have hb0_ := (box_block w (Obj.cells #[Value.slice i.As i.ns i.cs, Value.slice i.Ac i.nc i.cc, Value.slice i.Am i.nm i.cm] 54))
  have x0_ := cell_of_block (i := 0) hb0_ rfl
  have x1_ := cell_of_block (i := 1) hb0_ rfl
  have x2_ := cell_of_block (i := 2) hb0_ rfl
  simp only [s4_, s5_, s6_] at x0_ x1_ x2_
  have HX0 := Lib.hid x0_
  have HX1 := Lib.hid x1_
  have HX2 := Lib.hid x2_
  have HB0 := Lib.hid hb0_
  clear x0_ x1_ x2_ hb0_
  obtain ⟨hn1, hn2, hn3⟩ := hI.len hs
  have HL1 := Lib.hid (show (makeR r.st).length ≤ 12 from Nat.le_trans (makeR_length _) (smallI_parts hs).1)
  have HL3 := Lib.hid (show (makeR r.me).length ≤ 12 from Nat.le_trans (makeR_length _) (smallI_parts hs).2.2)
  have HM1 := Lib.hid (make_any i.As i.ns i.cs r.st _ (by omega) (hI.st.kept HK1.out))
  have HM3 := Lib.hid (fun w' (hk : Kept w w') => make_any i.Am i.nm i.cm r.me w' (by omega) (hI.me.kept hk))
  have HO := Lib.hid (fun w' (A : Option Addr) (n c : Nat) (hk : Kept w w') (hn : n ≤ 12) (hR : Rngs w' A n (makeR r.st)) => or_any A n c (makeR r.st) i.Ac i.nc i.cc r.co w' (by omega) (by omega) hR (hI.co.kept hk))
  clear hI hs hk0_ hn1 hn2 hn3
  unfold Ids.val at *
  have p0 := HX0.out
  have p1 := HX1.out
  have p2 := HX2.out
  go_enter Tryz.func48, Tryz.ntmps48
  go_wp2_with fail
  refine HM1.out.mono ?_
  rintro e w1 ⟨A1, n1, c1, rfl, le1, i1, k1⟩
  clear p0 p1 p2
  have hn1 : n1 ≤ 12 := (by rw [i1.1]; exact HL1.out)
  have hb := heap_alloc_new w1 (Obj.cells #[Value.slice A1 n1 c1] 26)
  have hk := Kept.alloc (Kept.refl w1) (Obj.cells #[Value.slice A1 n1 c1] 26)
  have KB1 := Lib.hid (Kept.trans k1 hk)
  have I1 := Lib.hid (i1.kept hk)
  have c0 := cell_of_block (i := 0) hb rfl
  simp only [s4_, s5_] at c0
  have C0 := Lib.hid c0
  clear i1 k1 hk hb c0
  have q0 := Kept.cell KB1.out HX0.out
  have q1 := Kept.cell KB1.out HX1.out
  have q2 := Kept.cell KB1.out HX2.out
  have q3 := C0.out
  go_wp2_with fail
  generalize w1.alloc (Obj.cells #[Value.slice A1 n1 c1] 26) = w2 at *
  refine wp_region_held_drew (S := (fun w' => w'.cell? ⟨w.heap.size, 0, none⟩ = some (.slice i.As i.ns i.cs) ∧ w'.cell? ⟨w.heap.size, 1, none⟩ = some (.slice i.Ac i.nc i.cc) ∧ w'.cell? ⟨w.heap.size, 2, none⟩ = some (.slice i.Am i.nm i.cm) ∧ w'.cell? ⟨w1.heap.size, 0, none⟩ = some (.slice A1 n1 c1))) (by kernel_rfl) ⟨q0, q1, q2, q3⟩ (fun hHeld => ?_)
  refine tk_ 0 ?_ rfl ?_; refine tk_ 1 ?_ rfl ?_; refine tk_ 2 ?_ rfl ?_; refine tk_ 3 ?_ rfl ?_; refine tk_ 5 ?_ rfl ?_; refine tk_ 6 ?_ rfl ?_; refine tk_ 7 ?_ rfl ?_
  refine rd_ 4 rfl (fun K hK => ?_)
  go_simp
  (refine (HO.out _ A1 n1 c1 (Kept.trans HK1.out (Kept.drew KB1.out)) hn1 (I1.out.kept (Kept.drew (Kept.refl _)))).mono ?_; rintro e w4 ⟨R4, A4, n4, c4, rfl, le4, hm4, i4, hcan4, hhas4, k4⟩; have I4 := Lib.hid i4; have HH4 := Lib.hid hhas4; have KC := Lib.hid (Kept.trans (Kept.drew (Kept.refl w2)) k4); clear i4 hhas4 hcan4 k4)
  go_wp2_with fail
  refine hK.out _ _ ⟨Kept.cell KC.out q0, Kept.cell KC.out q1, Kept.cell KC.out q2, Kept.cell KC.out q3⟩ (fun hHeld => ?_)
  clear hK K
  (try simp only [Act.put, s1_, s2_, s3_, s4_, s5_, s6_])
  refine rd_ 8 rfl (fun K hK => ?_)
  go_simp
  (refine (HM3.out _ (Kept.trans HK1.out (Kept.trans KB1.out KC.out))).mono ?_; rintro e w5 ⟨A5, n5, c5, rfl, le5, i5, k5⟩; have I5 := Lib.hid i5; have hn5 : n5 ≤ 12 := (by rw [i5.1]; exact HL3.out); have KD := Lib.hid (Kept.trans KC.out k5); have K45 := Lib.hid k5; clear i5 k5)
  go_wp2_with fail
  refine hK.out _ _ ⟨Kept.cell KD.out q0, Kept.cell KD.out q1, Kept.cell KD.out q2, Kept.cell KD.out q3⟩ (fun hHeld => ?_)
  clear hK K
  (try simp only [Act.put, s1_, s2_, s3_, s4_, s5_, s6_])
  refine tk_ 9 ?_ rfl ?_
  refine rd_ 10 rfl (fun K hK => ?_)
  skip
  go_simp
  refine hK.out _ _ ⟨Kept.cell (Kept.alloc KD.out (Obj.cells #[Value.slice A1 n1 c1, Value.slice A4 n4 c4, Value.slice A5 n5 c5] 118)) q0, Kept.cell (Kept.alloc KD.out (Obj.cells #[Value.slice A1 n1 c1, Value.slice A4 n4 c4, Value.slice A5 n5 c5] 118)) q1, Kept.cell (Kept.alloc KD.out (Obj.cells #[Value.slice A1 n1 c1, Value.slice A4 n4 c4, Value.slice A5 n5 c5] 118)) q2, Kept.cell (Kept.alloc KD.out (Obj.cells #[Value.slice A1 n1 c1, Value.slice A4 n4 c4, Value.slice A5 n5 c5] 118)) q3⟩ (fun hHeld => ?_)
  clear hK K
  (try simp only [Act.put, s1_, s2_, s3_, s4_, s5_, s6_])
  refine tk_ 11 ?_ rfl ?_
  refine wpAnyH_done (by kernel_rfl) ?_ _
  clear q0 q1 q2 q3
  go_wp2_with fail
  go_ret
  exact ⟨w5.heap.size, rfl, ⟨A1, n1, c1, makeR r.st, A4, n4, c4, R4, A5, n5, c5, makeR r.me, heap_alloc_new w5 _, ⟨by omega, hm4, by omega⟩, I1.out.kept (Kept.alloc KD.out (Obj.cells #[Value.slice A1 n1 c1, Value.slice A4 n4 c4, Value.slice A5 n5 c5] 118)), I4.out.kept (Kept.alloc K45.out _), I5.out.kept (Kept.alloc (Kept.refl _) _), fun x => has_make _ _, fun x => (HH4.out x).trans (by rw [has_make]; exact p_valid r x), fun x => has_make _ _⟩, Kept.trans HK1.out (Kept.trans KB1.out (Kept.alloc KD.out (Obj.cells #[Value.slice A1 n1 c1, Value.slice A4 n4 c4, Value.slice A5 n5 c5] 118)))⟩
set_option maxRecDepth 100000 in
set_option maxHeartbeats 2000000 in
theorem idvalid_any (i : Ids) (r : IdR) (A : Option Addr) (nt ct : Nat) (text : List Int) (w : World) (hI : IdIn w i r) (hs : smallI r = true) (hnt : nt ≤ 100000) (hT : Ints w A nt text) : Calls Tryz.prog 22 #[i.val, .slice A nt ct] w (RetB w (idValid r.b r.p r.c text)) := by
  have hk0_ := Kept.alloc (Kept.refl w) (Obj.cells #[Value.slice i.As i.ns i.cs, Value.slice i.Ac i.nc i.cc, Value.slice i.Am i.nm i.cm] 54)
  have HK1 := Lib.hid hk0_
  have hb0_ := (box_block w (Obj.cells #[Value.slice i.As i.ns i.cs, Value.slice i.Ac i.nc i.cc, Value.slice i.Am i.nm i.cm] 54))
  have x0_ := cell_of_block (i := 0) hb0_ rfl
  have x1_ := cell_of_block (i := 1) hb0_ rfl
  have x2_ := cell_of_block (i := 2) hb0_ rfl
  simp only [s4_, s5_, s6_] at x0_ x1_ x2_
  have HX0 := Lib.hid x0_
  have HX1 := Lib.hid x1_
  have HX2 := Lib.hid x2_
  have HB0 := Lib.hid hb0_
  clear x0_ x1_ x2_ hb0_
  have HM := Lib.hid (made_any i r _ (hI.kept HK1.out) hs)
  have HT := Lib.hid (fun w' (hk : Kept w w') => hT.kept hk)
  have HV := Lib.hid (scan_whole (c := r.c) r.bp text)
  have HTN := Lib.hid hT.1
  clear hI hs hT hk0_
  have p0 := HX0.out
  have p1 := HX1.out
  have p2 := HX2.out
  unfold Ids.val at *
  go_enter Tryz.func22, Tryz.ntmps22
  go_wp2_with fail
  refine HM.out.mono ?_
  rintro e w1 ⟨B, rfl, hS, k1⟩
  have HS := Lib.hid (iscan_any A nt ct text w1 hS hnt (HT.out _ (Kept.trans HK1.out k1)))
  have K1 := Lib.hid (Kept.trans HK1.out k1)
  clear hS k1 p0 p1 p2
  generalize idScan r.b r.p r.c text = R at *
  obtain ⟨en, st⟩ := R
  dsimp only at HS HV
  go_wp2_with fail
  refine HS.out.mono ?_
  rintro e w2 ⟨rfl, k2⟩
  have K2 := Lib.hid (Kept.trans K1.out k2)
  clear k2
  by_cases h0 : 0 < en
  · have h1 : ((en : Nat) : Int) > 0 := by omega
    have h2 : (0 : Int) < (en : Nat) := by omega
    have HE := Lib.hid (show idValid r.b r.p r.c text = ((en : Int) == (nt : Int)) by rw [HV.out, ← HTN.out, decide_eq_true h0, Bool.true_and, Bool.eq_iff_iff]; simp only [decide_eq_true_eq, beq_iff_eq]; omega)
    go_wp2_with fail
    go_ret
    exact ⟨congrArg (fun b => Ending.returned (.bool b)) HE.out.symm, K2.out⟩
  · have h1 : ¬ ((en : Nat) : Int) > 0 := by omega
    have h2 : ¬ (0 : Int) < (en : Nat) := by omega
    go_wp2_with fail
    go_ret
    exact ⟨ret_bool (by rw [HV.out]; simp; omega), K2.out⟩
end Go.Proofs.YtmlcdohldkgcdaaGreatDoor
namespace Go.Proofs.YtmlcdohldkgcdaaGreatDoor
open Go Go.RowKit
theorem Tab.at_ {w : World} {B : Option Addr} {m : Nat} {T : List (List Int)} (h : Tab w B m T) {i : Nat} (hi : i < m) :
    ∃ b off X A k c, B = some ⟨b, off, none⟩ ∧ T[i]? = some X ∧ w.cell? ⟨b, off + i, none⟩ = some (.slice A k c) ∧ k ≤ c ∧ Ints w A k X := by
  obtain ⟨b, off, e, hc⟩ := h.2 (by omega)
  obtain ⟨X, hX⟩ := getElem?_some_of_lt (l := T) (k := i) (by rw [← h.1]; exact hi)
  obtain ⟨A, k, c, h1, h2, h3⟩ := hc i X hX
  exact ⟨b, off, X, A, k, c, e, hX, h1, h2, h3⟩
def dropA (A : Option Addr) (m k : Nat) : Option Addr := if m = k then A else A.map (·.add k)
theorem Ints.drop_ {w : World} {A : Option Addr} {n k m : Nat} {xs : List Int} (h : Ints w A n xs) (hk : k ≤ n) (hm : n ≤ m) : Ints w (dropA A m k) (n - k) (xs.drop k) := by
  refine ⟨by rw [List.length_drop]; have := h.1; omega, fun h0 => ?_⟩
  obtain ⟨b, off, e, hc⟩ := h.2 (by omega)
  refine ⟨b, off + k, ?_, fun i x hx j u hu => ?_⟩
  · unfold dropA
    rw [if_neg (by omega), e]
    simp only [Option.map_some, Addr.add]
    split <;> simp_all
  · rw [List.getElem?_drop] at hx
    have := hc (k + i) x hx j u hu
    rw [show off + k + i * 1 + j = off + (k + i) * 1 + j by omega]
    exact this
theorem Ints.front_ {w : World} {A : Option Addr} {n q : Nat} {xs : List Int} (h : Ints w A n xs) (hq : q ≤ n) : Ints w A q (xs.take q) :=
  ⟨by rw [List.length_take]; have := h.1; omega, fun h0 => by
    obtain ⟨b, off, e, hc⟩ := h.2 (by omega)
    refine ⟨b, off, e, fun i x hx j u hu => hc i x ?_ j u hu⟩
    rw [List.getElem?_take] at hx
    split at hx
    · exact hx
    · cases hx⟩
theorem und_ints : Tryz.prog.underlying 32 = some (.slice (Tryz.prog.elem 32)) := by kernel_rfl
theorem size_int (w : World) : (sizeOf (Tryz.prog.elem 32)).run Tryz.prog w = .ok 1 w := by kernel_rfl
theorem run_drop1 (A : Option Addr) (n c k : Nat) (hk : k ≤ n) (w : World) :
    (Instr.slice 32 (.slice A n c) (some (.int .i64 (k : Int))) none none).run Tryz.prog w = .ok (.slice (dropA A c k) (n - k) (c - k)) w := by
  rw [run_slice_l w 32 A n c und_ints .i64 _ (by omega) (by omega), size_int]
  simp [Result.andThen, sliced, dropA]
theorem run_take1 (A : Option Addr) (n c k : Nat) (hk : k ≤ c) (w : World) :
    (Instr.slice 32 (.slice A n c) none (some (.int .i64 (k : Int))) none).run Tryz.prog w = .ok (.slice A k c) w := by
  rw [run_slice_h w 32 A n c und_ints .i64 _ (by omega) (by omega), size_int]
  simp only [Result.andThen, sliced, Int.toNat_natCast, Nat.sub_zero]
  split
  · rfl
  · cases A with
    | none => rfl
    | some a => simp [Addr.add]
theorem Ints.sets {w : World} {b : Nat} {A : Option Addr} {n : Nat} {xs : List Int} (h : Ints w A n xs) (hne : ∀ a, A = some a → a.block ≠ b) (i : Nat) (v : Value) : Ints (w.setCell ⟨b, i, none⟩ v) A n xs :=
  ⟨h.1, fun hn => by
    obtain ⟨b1, o1, e, hc⟩ := h.2 hn
    refine ⟨b1, o1, e, fun i2 x hx j u hu => ?_⟩
    have h1 := hc i2 x hx j u hu
    have hb := hne _ e
    simp only at hb
    rw [← h1]
    refine World.cell?_of_block ?_
    simp only [World.setCell]
    rw [Array.getElem?_modify, if_neg (fun e2 => hb e2.symm)]⟩
end Go.Proofs.YtmlcdohldkgcdaaGreatDoor
namespace Go.Proofs.YtmlcdohldkgcdaaGreatDoor
open Go Go.RowKit Go.Shelf
attribute [local go_sem] Oper.semAt_some
theorem splitF_len {b p c : Int → Bool} : ∀ (f lo : Nat) (t : List Int), (splitF b p c f lo t).length ≤ f
  | 0, _, _ => Nat.le_refl _
  | _ + 1, _, [] => Nat.zero_le _
  | f + 1, lo, x :: t => by
    rw [splitF]
    split
    · exact Nat.le_succ_of_le (splitF_len f _ _)
    · rw [List.length_cons]
      exact Nat.succ_le_succ (splitF_len f _ _)
set_option maxRecDepth 100000 in
set_option maxHeartbeats 4000000 in
theorem found1_in (n : Nat) (_hn1 : 1 ≤ n) (Kp : World → World → Prop) (hKr : ∀ A, Kp A A) (hKt : ∀ {A B C : World}, Kp A B → Kp B C → Kp A C) (hKk : ∀ {A B : World}, Kept A B → Kp A B) (lp Bt Bs bs : Nat) (A : Option Addr) (nt ct : Nat) (text : List Int) (b p c : Int → Bool) (hbp : ∀ x, b x = true → p x = true) (hnt : nt ≤ 100000) (hct : nt ≤ ct)
    (J Jx : List Rng → World → Prop) (BJ : Nat) (hJ : AbidesFrom BJ J)
    (hY : ∀ pre x W, J pre W → (∃ t, splitL b p c text = pre ++ x :: t) → YieldAt Fence.wide (n - 1) Tryz.prog lp (encsR x) W fun e W' =>
      (e = .returned (.bool true) ∧ J (pre ++ [x]) W' ∧ Kp W W') ∨ (e = .returned (.bool false) ∧ Jx (pre ++ [x]) W'))
    (W : World) (ht : ∀ W', Kp W W' → W'.cell? ⟨Bt, 0, none⟩ = some (.slice A nt ct) ∧ W'.cell? ⟨Bs, 0, none⟩ = some (.pointer (some ⟨bs, 0, none⟩)) ∧ SetsAt W' bs b p c ∧ Ints W' A nt text) (h0 : J [] W) :
    CallsIn Fence.wide n Tryz.prog 78 #[.func (.yield lp) #[] #[], .pointer (some ⟨Bt, 0, none⟩), .pointer (some ⟨Bs, 0, none⟩)] W fun e W' => (∃ v, e = .returned v) ∧
      ((∃ ys, ys = splitL b p c text ∧ J ys W') ∨ (∃ pre, pre <+: splitL b p c text ∧ Jx pre W')) := by
  have HT := Lib.hid ht
  have HY := Lib.hid hY
  have HJ := Lib.hid hJ
  have HN := Lib.hid (ht W (hKr _)).2.2.2.1
  have HKR := Lib.hid hKr
  have HKT := Lib.hid (show ∀ A B C : World, Kp A B → Kp B C → Kp A C from fun A B C h k => hKt h k)
  have HKK := Lib.hid (show ∀ A B : World, Kept A B → Kp A B from fun A B h => hKk h)
  obtain ⟨ct0, cs0, _, _⟩ := ht W (hKr _)
  clear ht hY hJ hKr hKt hKk
  refine callsIn_of_wp Tryz.func78 rfl trivial ?_ rfl
  simp only [Tryz.ntmps78, List.size_toArray, List.length_cons, List.length_nil, Nat.reduceAdd, Nat.reduceSub, Array.replicate_succ, Array.replicate_zero, List.push_toArray, List.append_toArray, List.nil_append, List.cons_append]
  gi_wp2
  clear ct0 cs0
  gi_loopw [4] (fun lo wr => ∃ (k : Nat) (pre : List Rng), k ≤ nt ∧ lo = .int .i64 k ∧ splitL b p c text = pre ++ splitF b p c text.length k (text.drop k) ∧ J pre wr ∧ Kp W wr) (fun lo _ => nt - (intOf lo).toNat)
  case atStart => exact ⟨0, [], Nat.zero_le _, rfl, rfl, h0, HKR.out _⟩
  case round =>
    obtain ⟨k, pre, hk, rfl, hpre, hJs, hB⟩ := hrel
    have HP := Lib.hid hpre
    have HB := Lib.hid hB
    have HJS := Lib.hid hJs
    obtain ⟨ct1, cs1, hS1, hI1⟩ := HT.out wr hB
    by_cases hlt : k < nt
    · have hl1 : (k : Int) < (nt : Int) := by omega
      obtain ⟨x, hx⟩ := getElem?_some_of_lt (l := text) (k := k) (by rw [← HN.out]; exact hlt)
      have hst := split_step (b := b) (p := p) (c := c) (drop_some hx)
      have hle := scan_le (c := c) hbp (text.drop k)
      have hlen : (text.drop k).length = nt - k := by rw [List.length_drop, HN.out]
      have HSC := Lib.hid (fun w' (hk' : Kept wr w') => iscan_any (dropA A ct k) (nt - k) (ct - k) (text.drop k) w' (hS1.kept hk') (by omega) (Ints.drop_ (hI1.kept hk') hk hct))
      have hrd := fun w => run_drop1 A nt ct k hk w
      generalize idScan b p c (text.drop k) = R at hst hle HSC
      obtain ⟨en, sto⟩ := R
      dsimp only at hst hle HSC
      rw [hlen] at hle
      by_cases hen : en = 0
      · rw [if_pos hen] at hst
        have HP2 := Lib.hid (show splitL b p c text = pre ++ splitF b p c text.length (k + 1) (text.drop (k + 1)) by rw [HP.out, hst])
        have he1 : ((en : Nat) : Int) = 0 := by omega
        have he2 : (((en : Nat) : Int) == 0) = true := by simp [he1]
        have HE1 := Lib.hid he1
        clear hpre hB hJs hS1 hI1 hx hst hle hlen hen
        gi_wp2
        gi_region_with (refine ⟨trivial, ?_⟩; gi_at_call 49; refine (callsIn_wide.2 (HSC.out _ (Kept.drew (Kept.refl _)))).mono ?_; rintro e w2 ⟨rfl, k2⟩)
        all_goals
          gi_wp2
          go_roundw
          case rel => exact ⟨k + 1, pre, by omega, by go_num, HP2.out, Abides.kept HJ.out HJS.out (Kept.trans (Kept.drew (Kept.refl wr)) k2), HKT.out _ _ _ HB.out (HKK.out _ _ (Kept.trans (Kept.drew (Kept.refl wr)) k2))⟩
          case measure => simp [intOf]; omega
      · rw [if_neg hen] at hst
        simp only [Int.natCast_add] at hst
        have HP2 := Lib.hid (show splitL b p c text = pre ++ (⟨(k : Int), (k : Int) + (en : Int)⟩ :: splitF b p c text.length (k + en) (text.drop (k + en))) by rw [HP.out, hst])
        have he1 : ¬ ((en : Nat) : Int) = 0 := by omega
        have he2 : (((en : Nat) : Int) == 0) = false := by simp; omega
        have hw1 : IntKind.i64.wrap ((k : Int) + (en : Int)) = (k : Int) + (en : Int) := IntWalk.i64_in _ (by omega)
        have hw2 : wrap64 ((k : Int) + (en : Int)) = (k : Int) + (en : Int) := IntWalk.wrap64_in _ (by omega)
        have HKE := Lib.hid (show k + en ≤ nt ∧ 0 < en by omega)
        clear hpre hB hJs hS1 hI1 hx hst hle hlen hen
        gi_wp2
        gi_region_with (refine ⟨trivial, ?_⟩; gi_at_call 49; refine (callsIn_wide.2 (HSC.out _ (Kept.drew (Kept.refl _)))).mono ?_; rintro e w2 ⟨rfl, k2⟩)
        all_goals
          have K2 := Lib.hid (Kept.trans (Kept.drew (Kept.refl wr)) k2)
          obtain ⟨fn, tmps, assign, body, hy, hR⟩ := HY.out pre ⟨(k : Int), (k : Int) + (en : Int)⟩ w2 (Abides.kept HJ.out HJS.out K2.out) ⟨_, HP2.out⟩
          dsimp only [encsR] at hy
          gi_wp2
          refine hR.mono ?_
          rintro e W3 (⟨rfl, hJ3, hk3⟩ | ⟨rfl, hJx3⟩)
          · gi_wp2
            go_roundw
            case rel => exact ⟨k + en, pre ++ [⟨(k : Int), (k : Int) + (en : Int)⟩], HKE.out.1, by go_num, by rw [HP2.out]; simp, hJ3, HKT.out _ _ _ (HKT.out _ _ _ HB.out (HKK.out _ _ K2.out)) hk3⟩
            case measure => have := HKE.out; simp [intOf]; omega
          · gi_wp2
            refine bodyPost_ret (results_none rfl _ _ _) rfl ?_
            exact ⟨⟨_, rfl⟩, .inr ⟨pre ++ [⟨(k : Int), (k : Int) + (en : Int)⟩], ⟨splitF b p c text.length (k + en) (text.drop (k + en)), by rw [HP2.out]; simp⟩, hJx3⟩⟩
    · have hkl : k = nt := by omega
      have HP2 := Lib.hid (show splitL b p c text = pre by rw [HP.out, split_end (by rw [← HN.out]; omega)]; simp)
      subst hkl
      gi_wp2
      go_end0
      exact ⟨⟨_, rfl⟩, .inl ⟨pre, HP2.out.symm, HJS.out⟩⟩
theorem found_any (bs : Nat) (A : Option Addr) (nt ct : Nat) (w : World) :
    Calls Tryz.prog 53 #[.pointer (some ⟨bs, 0, none⟩), .slice A nt ct] w fun e w' => e = .returned (.func (.func 78) #[] #[.pointer (some ⟨w.heap.size + 1, 0, none⟩), .pointer (some ⟨w.heap.size, 0, none⟩)]) ∧
      w' = (w.alloc (.cells #[.pointer (some ⟨bs, 0, none⟩)] 93)).alloc (.cells #[.slice A nt ct] 32) := by
  go_enter Tryz.func53, Tryz.ntmps53
  go_wp2
  go_ret
  exact ⟨rfl, rfl⟩
theorem found_yields (bs : Nat) (A : Option Addr) (nt ct : Nat) (w : World) (text : List Int) (b p c : Int → Bool) (hbp : ∀ x, b x = true → p x = true) (hnt : nt ≤ 100000) (hct : nt ≤ ct) (hS : SetsAt w bs b p c) (hT : Ints w A nt text) :
    Yields 78 #[.pointer (some ⟨w.heap.size + 1, 0, none⟩), .pointer (some ⟨w.heap.size, 0, none⟩)] encsR (w.heap.size + 2) (splitL b p c text) ((w.alloc (.cells #[.pointer (some ⟨bs, 0, none⟩)] 93)).alloc (.cells #[.slice A nt ct] 32)) := by
  intro n hn l J Jx W hW hJ hJx hY h0
  have hsz : ((w.alloc (.cells #[.pointer (some ⟨bs, 0, none⟩)] 93)).alloc (.cells #[.slice A nt ct] 32)).heap.size = w.heap.size + 2 := by simp
  rw [hsz] at hW
  have b1 := box_cell w #[.pointer (some ⟨bs, 0, none⟩)] 93 0
  have b1' : ((w.alloc (.cells #[.pointer (some ⟨bs, 0, none⟩)] 93)).alloc (.cells #[.slice A nt ct] 32)).cell? ⟨w.heap.size, 0, none⟩ = some (.pointer (some ⟨bs, 0, none⟩)) := (Kept.alloc (Kept.refl _) _).cell b1
  have b2 := box_cell (w.alloc (.cells #[.pointer (some ⟨bs, 0, none⟩)] 93)) #[.slice A nt ct] 32 0
  rw [World.size_alloc] at b2
  have hk0 : Kept w ((w.alloc (.cells #[.pointer (some ⟨bs, 0, none⟩)] 93)).alloc (.cells #[.slice A nt ct] 32)) := Kept.alloc (Kept.alloc (Kept.refl _) _) _
  have hws : w.heap.size + 2 ≤ W.heap.size := by have := hW.size; simpa [hsz] using this
  exact found1_in n hn (fun A B => w.heap.size + 2 ≤ A.heap.size → Below (w.heap.size + 2) A B) (fun A _ => Below.refl _ _) (fun h k hs => (h hs).trans (k (Nat.le_trans hs (h hs).size))) (fun h hs => Below.mono h hs) l (w.heap.size + 1) w.heap.size bs A nt ct text b p c hbp hnt hct J Jx _ hJ (fun pre x W1 h1 h2 => (hY pre x W1 h1 (by obtain ⟨t, ht⟩ := h2; rw [ht]; simp)).mono fun e W' h => h.imp (fun ⟨a, b, c⟩ => ⟨a, b, fun _ => c⟩) id) W
    (fun W' hW' => by
      have hk : Below (w.heap.size + 2) ((w.alloc (.cells #[.pointer (some ⟨bs, 0, none⟩)] 93)).alloc (.cells #[.slice A nt ct] 32)) W' := hW.trans (hW' hws)
      rw [← hsz] at hk
      exact ⟨Kept.cell hk b2, Kept.cell hk b1', hS.kept (Kept.trans hk0 hk), hT.kept (Kept.trans hk0 hk)⟩) h0
set_option maxRecDepth 100000 in
set_option maxHeartbeats 2000000 in
theorem isplit_any (i : Ids) (r : IdR) (A : Option Addr) (nt ct : Nat) (text : List Int) (w : World) (hI : IdIn w i r) (hs : smallI r = true) (hnt : nt ≤ 100000) (hct : nt ≤ ct) (hT : Ints w A nt text) :
    Calls Tryz.prog 26 #[i.val, .slice A nt ct] w (RetRngs w (splitL r.b r.p r.c text)) := by
  have hk0_ := Kept.alloc (Kept.refl w) (Obj.cells #[Value.slice i.As i.ns i.cs, Value.slice i.Ac i.nc i.cc, Value.slice i.Am i.nm i.cm] 54)
  have HK1 := Lib.hid hk0_
  have hb0_ := (box_block w (Obj.cells #[Value.slice i.As i.ns i.cs, Value.slice i.Ac i.nc i.cc, Value.slice i.Am i.nm i.cm] 54))
  have x0 := cell_of_block (i := 0) hb0_ rfl
  have x1 := cell_of_block (i := 1) hb0_ rfl
  have x2 := cell_of_block (i := 2) hb0_ rfl
  simp only [s4_, s5_, s6_] at x0 x1 x2
  have HM := Lib.hid (made_any i r _ (hI.kept hk0_) hs)
  have HT := Lib.hid (fun w' (hk : Kept w w') => hT.kept hk)
  have HL := Lib.hid (show (splitL r.b r.p r.c text).length ≤ 100000000 by have h := splitF_len (b := r.b) (p := r.p) (c := r.c) text.length 0 text; have := hT.1; unfold splitL; omega)
  clear hI hs hT hk0_ hb0_
  unfold Ids.val at *
  go_enter Tryz.func26, Tryz.ntmps26
  go_wp2_with fail
  refine HM.out.mono ?_
  rintro e w1 ⟨B, rfl, hS, k1⟩
  have HS := Lib.hid hS
  have K1 := Lib.hid (Kept.trans HK1.out k1)
  clear hS k1 x0 x1 x2
  go_wp2_with fail
  refine (found_any _ _ _ _ _).mono ?_
  rintro e w2 ⟨rfl, hw2⟩
  have hY := found_yields B A nt ct w1 text r.b r.p r.c r.bp hnt hct HS.out (HT.out _ K1.out)
  rw [← hw2] at hY
  have hsz : w1.heap.size + 2 = w2.heap.size := by rw [hw2]; simp
  rw [hsz] at hY
  have hk2 : Kept w1 w2 := by rw [hw2]; exact Kept.alloc (Kept.alloc (Kept.refl _) _) _
  have HCC := Lib.hid (collect_rng _ _ _ w2 HL.out (enters_of Tryz.func78 (by kernel_rfl) rfl) hY)
  have K2 := Lib.hid (Kept.trans K1.out hk2)
  clear hY hw2 hsz hk2
  go_wp2_with fail
  refine HCC.out.mono ?_
  rintro e w3 ⟨A3, n3, c3, rfl, hle3, hI3, hk3⟩
  go_wp2_with fail
  go_ret
  exact ⟨A3, n3, c3, rfl, hle3, hI3, Kept.trans K2.out hk3⟩
end Go.Proofs.YtmlcdohldkgcdaaGreatDoor
namespace Go.Proofs.YtmlcdohldkgcdaaGreatDoor
open Go Go.RowKit
theorem Rngs.sets {w : World} {b : Nat} {A : Option Addr} {n : Nat} {rs : List Rng} (h : Rngs w A n rs) (hne : ∀ a, A = some a → 0 < n → a.block ≠ b) (i : Nat) (v : Value) : Rngs (w.setCell ⟨b, i, none⟩ v) A n rs :=
  ⟨h.1, fun hn => by
    obtain ⟨b1, o1, e, hc⟩ := h.2 hn
    refine ⟨b1, o1, e, fun i2 x hx j u hu => ?_⟩
    have h1 := hc i2 x hx j u hu
    have hb := hne _ e hn
    simp only at hb
    rw [← h1]
    refine World.cell?_of_block ?_
    simp only [World.setCell]
    rw [Array.getElem?_modify, if_neg (fun e2 => hb e2.symm)]⟩
end Go.Proofs.YtmlcdohldkgcdaaGreatDoor
namespace Go.Proofs.YtmlcdohldkgcdaaGreatDoor
open Go Go.RowKit
theorem KeptBut.of_kept {S : List Nat} {w w' : World} (h : Kept w w') : KeptBut S w w' := h.but S
end Go.Proofs.YtmlcdohldkgcdaaGreatDoor
namespace Go.Proofs.YtmlcdohldkgcdaaGreatDoor
open Go Go.RowKit
end Go.Proofs.YtmlcdohldkgcdaaGreatDoor
namespace Go.Proofs.YtmlcdohldkgcdaaGreatDoor
open Go Go.RowKit
theorem cells2_set {w : World} {b : Nat} {v0 v1 : Value} {t : TypeId} (h : w.heap[b]? = some (.cells #[v0, v1] t (0, 0))) (a0 a1 : Value) :
    ((w.setCell ⟨b, 0, none⟩ a0).setCell ⟨b, 1, none⟩ a1).heap[b]? = some (.cells #[a0, a1] t (0, 0)) := by
  simp [World.setCell, Array.getElem?_modify, h]
end Go.Proofs.YtmlcdohldkgcdaaGreatDoor
