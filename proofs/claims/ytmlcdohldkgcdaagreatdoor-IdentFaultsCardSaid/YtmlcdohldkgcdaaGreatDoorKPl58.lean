/- Whether a text is an identifier, element by element. No program. The sets of identifiers in memory. And more of that kind. -/
import Derived.Test.YtmlcdohldkgcdaaGreatDoorKSq
import Derived.Test.YtmlcdohldkgcdaaGreatDoorKBase
import Derived.Test.YtmlcdohldkgcdaaGreatDoorKPl
import Derived.Test.YtmlcdohldkgcdaaGreatDoorKRow
import Derived.Test.YtmlcdohldkgcdaaGreatDoorKExpC
import Derived.Test.YtmlcdohldkgcdaaGreatDoorKFew
import Derived.Test.YtmlcdohldkgcdaaGreatDoorKPq
import Derived.Test.YtmlcdohldkgcdaaGreatDoorKRfb
import Derived.Test.YtmlcdohldkgcdaaGreatDoorKRfj
import Derived.Test.YtmlcdohldkgcdaaGreatDoorKSet
import Derived.Test.YtmlcdohldkgcdaaGreatDoorKNrm
import Derived.Test.YtmlcdohldkgcdaaGreatDoorKAlive21
import Derived.Test.YtmlcdohldkgcdaaGreatDoorKSqx
import Derived.Test.YtmlcdohldkgcdaaGreatDoorKOwn
namespace Go.Proofs.YtmlcdohldkgcdaaGreatDoor
section
variable {b p c : Int → Bool}
end
end Go.Proofs.YtmlcdohldkgcdaaGreatDoor
namespace Go.Proofs.YtmlcdohldkgcdaaGreatDoor
open Go Go.RowKit
structure Ids where
  As : Option Addr
  ns : Nat
  cs : Nat
  Ac : Option Addr
  nc : Nat
  cc : Nat
  Am : Option Addr
  nm : Nat
  cm : Nat
def Ids.val (i : Ids) : Value := .agg #[.slice i.As i.ns i.cs, .slice i.Ac i.nc i.cc, .slice i.Am i.nm i.cm]
structure IdR where
  st : List Rng
  co : List Rng
  me : List Rng
structure IdIn (w : World) (i : Ids) (r : IdR) : Prop where
  hs : i.ns ≤ i.cs
  hc : i.nc ≤ i.cc
  hm : i.nm ≤ i.cm
  bs : i.cs ≤ 9223372036854775807
  bc : i.cc ≤ 9223372036854775807
  bm : i.cm ≤ 9223372036854775807
  st : Rngs w i.As i.ns r.st
  co : Rngs w i.Ac i.nc r.co
  me : Rngs w i.Am i.nm r.me
theorem IdIn.kept {w w' : World} {i : Ids} {r : IdR} (h : IdIn w i r) (hk : Kept w w') : IdIn w' i r := ⟨h.hs, h.hc, h.hm, h.bs, h.bc, h.bm, h.st.kept hk, h.co.kept hk, h.me.kept hk⟩
def IdR.b (r : IdR) (x : Int) : Bool := hasR r.st x
def IdR.p (r : IdR) (x : Int) : Bool := hasR r.st x || hasR r.co x
def IdR.c (r : IdR) (x : Int) : Bool := hasR r.me x
theorem IdR.bp (r : IdR) : ∀ x, r.b x = true → r.p x = true := fun x h => by
  have h' : hasR r.st x = true := h
  simp [IdR.p, h']
def smallI (r : IdR) : Bool := decide (r.st.length ≤ 12) && decide (r.co.length ≤ 12) && decide (r.me.length ≤ 12)
theorem smallI_parts {r : IdR} (h : smallI r = true) : r.st.length ≤ 12 ∧ r.co.length ≤ 12 ∧ r.me.length ≤ 12 := by
  simp only [smallI, Bool.and_eq_true, decide_eq_true_eq] at h
  exact ⟨h.1.1, h.1.2, h.2⟩
theorem IdIn.len {w : World} {i : Ids} {r : IdR} (h : IdIn w i r) (hs : smallI r = true) : i.ns ≤ 12 ∧ i.nc ≤ 12 ∧ i.nm ≤ 12 := by
  obtain ⟨h1, h2, h3⟩ := smallI_parts hs
  exact ⟨by rw [h.st.1]; exact h1, by rw [h.co.1]; exact h2, by rw [h.me.1]; exact h3⟩
end Go.Proofs.YtmlcdohldkgcdaaGreatDoor
namespace Go.Proofs.YtmlcdohldkgcdaaGreatDoor
open Go Go.RowKit Go.ChangeShapes Go.WideShapes Go.Deep Go.Joins
set_option maxRecDepth 100000 in
theorem set_cell {H : Type} {enc : TypeId × Value → H} {W : World} {fuel : Nat} {c0 : Value} {x : DataW H × List MemPlace} (h : DataW.trod enc Tryz.prog W 0 (fun _ => true) true fuel 26 [c0] = some x) :
    ∃ A n c, c0 = .slice A n c ∧ n ≤ c ∧ c ≤ 9223372036854775807 ∧ ∃ l : List Rng, Rngs W A n l := by
  obtain ⟨xs, m2, _, _, _, hxl, hf⟩ := DataW.trod_struct Tryz.underlying26 h
  have h3 := hf 0 _ rfl
  have hx1 : xs.length = 1 := hxl
  rw [List.getElem?_eq_getElem (show 0 < xs.length by omega)] at h3
  have h3' : DataW.trod enc Tryz.prog W 0 (fun _ => true) true m2 24 (([c0].drop 0).take (Tryz.prog.cellsOf 24)) = some xs[0] := h3
  rw [cells_ranges] at h3'
  simp only [List.drop_zero, List.take_succ_cons, List.take_zero] at h3'
  exact open_sl (k := 2) (encA := encR) Tryz.underlying24 (by kernel_rfl) (by decide) (fun _ _ _ h => rng_cells h) h3'
end Go.Proofs.YtmlcdohldkgcdaaGreatDoor
namespace Go.Proofs.YtmlcdohldkgcdaaGreatDoor
open Go Go.RowKit
def RetFar (w : World) (xs : List Int) (e : Ending) (w' : World) : Prop := ∃ A n c, e = .returned (.slice A n c) ∧ n ≤ c ∧ Ints w' A n xs ∧ (∀ a, A = some a → w.heap.size ≤ a.block) ∧ Kept w w'
theorem RetFar.ints {w : World} {xs : List Int} {e : Ending} {w' : World} (h : RetFar w xs e w') : RetInts w xs e w' := by
  obtain ⟨A, n, c, h1, h2, h3, _, h5⟩ := h
  exact ⟨A, n, c, h1, h2, h3, h5⟩
end Go.Proofs.YtmlcdohldkgcdaaGreatDoor
namespace Go.Proofs.YtmlcdohldkgcdaaGreatDoor
end Go.Proofs.YtmlcdohldkgcdaaGreatDoor
namespace Go.Proofs.YtmlcdohldkgcdaaGreatDoor
open Go Go.RowKit
set_option maxRecDepth 100000 in
set_option maxHeartbeats 2000000 in
theorem r20Sort_far (A : Option Addr) (n c : Nat) (l : List Span) (B : Option Addr) (m d : Nat) (text : List Int) (w : World) (hn : n ≤ 1000) (hm : m ≤ 2000000) (hl : Spans w A n l) (hI : Ints w B m text) :
    Calls Tryz.prog 136 #[.slice A n c, .slice B m d] w (RetFar w (refSort (classOf (usableSpans l)) text)) := by
  have HC := Lib.hid (fun (x : Int) w' (hk : Kept w w') => r20Class A n c l x w' hn (hl.kept hk))
  have HI := Lib.hid hI
  have HML := Lib.hid hI.1
  clear hl hI
  generalize classOf (usableSpans l) = cls at *
  obtain ⟨base, hbase⟩ : ∃ base : Nat, base = w.heap.size := ⟨_, rfl⟩
  have HBASE := Lib.hid hbase
  clear hbase
  go_enter Tryz.func136, Tryz.ntmps136
  go_wp2_with fail
  go_loopw [5, 6] (fun p i wr => ∃ k : Nat, k ≤ m ∧ i = .int .i64 k ∧ OwnI wr base p (refSort cls (text.take k)) ∧ Kept w wr) (fun _ i _ => m - (intOf i).toNat)
  case atStart => exact ⟨0, Nat.zero_le _, rfl, (World.ownsRow_nil _ _ _ _ : OwnI w base (.slice none 0 0) []), Kept.refl _⟩
  case round =>
    obtain ⟨k, hk, rfl, hown, hkw⟩ := hrel
    have HOW := Lib.hid hown
    have HKW := Lib.hid hkw
    have hsz := hkw.size
    clear hown hkw
    by_cases hlt : k < m
    · obtain ⟨b, off, x, hA, hx, cw⟩ := int_at HI.out hlt
      rw [hA]
      have HSN := Lib.hid (show refSort cls (text.take (k + 1)) = insR cls x (refSort cls (text.take k)) by rw [take_succ_some hx, refSort_snoc])
      have hLl : (refSort cls (text.take k)).length ≤ 2000000 := by rw [refSort_length, List.length_take]; omega
      generalize refSort cls (text.take k) = L at *
      have HXC := Lib.hid cw
      have cx := Kept.cell HKW.out cw
      clear hx
      have hka := Kept.alloc (Kept.refl wr) (Obj.cells #[Value.int IntKind.i64 x] 3)
      have HKA := Lib.hid hka
      clear hka
      go_wp2_with (at_builtin; refine app_ints rfl _ _ rfl base _ _ rfl (by exact own_kept HOW.out HKA.out) _ _ _ [x] rfl (by exact Ints.alloc_ (xs := [x]) rfl rfl) (by simp; omega) (by simp; have := HBASE.out; omega) ?_; intro v2 w2 hown2 hgrow2 hat2; have hs2 := hgrow2.size; have K2 : Hid (Kept w w2) := Lib.hid ((Kept.trans HKW.out HKA.out).grown hgrow2 (by simp; have := HBASE.out; omega) (fun q e => by have := (World.ownsRow.lt HOW.out q e).1; have := HBASE.out; omega)); have cx2 := Kept.cell K2.out HXC.out)
      have HO2 := Lib.hid hown2
      have HCX := Lib.hid (HC.out x w2 K2.out)
      have hv2 := hown2
      simp only [OwnI, List.length_append, List.length_singleton] at hv2
      obtain ⟨g, co, rfl⟩ := ownsRow_succ_ hv2
      clear hv2 hown2 hgrow2 hat2 cx cx2
      refine HCX.out.mono ?_
      rintro e w3 ⟨rfl, k3⟩
      have K3 := Lib.hid (Kept.trans K2.out k3)
      have HO3 := Lib.hid (own_kept HO2.out k3)
      have hsb : IntKind.i64.wrap ((L.length : Int) + 1 - 1) = (L.length : Int) := by rw [show (L.length : Int) + 1 - 1 = L.length by omega]; exact IntWalk.i64_in _ (by omega)
      go_wp2_with fail
      clear hsb hs2
      go_loopw [8] (fun kk wq => ∃ (j : Nat) (P Q : List Int), kk = .int .i64 j ∧ P.length = j ∧ (P ++ x :: Q).length = L.length + 1 ∧ OwnI wq base (.slice (some ⟨g, 0, none⟩) (L.length + 1) co) (P ++ x :: Q) ∧ insR cls x P ++ Q = insR cls x L ∧ Kept w wq) (fun kk _ => (intOf kk).toNat)
      case atStart => exact ⟨L.length, L, [], rfl, rfl, by simp, HO3.out, by simp, K3.out⟩
      case round =>
        obtain ⟨j, P, Q, rfl, hP, hlen, hownq, hins, hkq⟩ := hrel
        have HOQ := Lib.hid hownq
        have HINS := Lib.hid hins
        have HKQ := Lib.hid hkq
        have HLEN := Lib.hid hlen
        have hgb : base ≤ g := (World.ownsRow.lt hownq g rfl).1
        have hszq := hkq.size
        -- out of the inner loop
        have HOUT := Lib.hid (show insR cls x P = P ++ [x] → ∀ w' : World, Kept wr w' → ∃ k' : Nat, k' ≤ m ∧ Value.int .i64 ((k : Int) + 1) = .int .i64 k' ∧ OwnI w' base (.slice (some ⟨g, 0, none⟩) (L.length + 1) co) (refSort cls (text.take k')) ∧ Kept w w' from fun e w' hk' => by
          refine ⟨k + 1, by omega, by go_num, ?_, Kept.trans HKQ.out hk'⟩
          rw [HSN.out, ← HINS.out, e]
          have := own_kept HOQ.out hk'
          simpa [OwnI] using this)
        clear hownq hins hkq hlen
        rcases Nat.eq_zero_or_pos j with hj | hj
        · subst hj
          obtain rfl : P = [] := List.length_eq_zero_iff.1 hP
          go_wp2_with fail
          go_roundw
          case rel => exact HOUT.out rfl _ (Kept.refl _)
          case measure => simp [intOf]; omega
        · obtain ⟨P', y, rfl⟩ := split_last (xs := P) (by omega)
          obtain ⟨jp, rfl⟩ : ∃ jp, j = jp + 1 := ⟨j - 1, by omega⟩
          have hjp : P'.length = jp := by simp at hP; omega
          have hjl : jp + 1 < L.length + 1 := by have := HLEN.out; simp at this; omega
          have hj0 : (0 : Int) < (jp : Int) + 1 := by omega
          by_cases hx0 : 0 < cls x
          · have eL : P' ++ [y] ++ x :: Q = P' ++ y :: x :: Q := by simp
            have hown' := HOQ.out
            have hll := HLEN.out
            rw [eL] at hown' hll
            simp only [OwnI, hll] at hown'
            have cy : wr.cell? ⟨g, jp, none⟩ = some (.int .i64 y) := by
              rw [hown'.cellAt _ (by omega)]
              simp [← hjp]
            have HCY := Lib.hid (HC.out y wr HKQ.out)
            have hw1 : IntKind.i64.wrap ((jp : Int) + 1 - 1) = (jp : Int) := by rw [show (jp : Int) + 1 - 1 = jp by omega]; exact IntWalk.i64_in _ (by omega)
            have HO' := Lib.hid hown'
            have HCW := Lib.hid cy
            clear hown' eL
            by_cases hxy : cls x < cls y
            · go_wp2_with fail
              refine HCY.out.mono ?_
              rintro e w4 ⟨rfl, k4⟩
              have hown4 := own_kept HO'.out k4
              have cy4 := Kept.cell k4 HCW.out
              have f1 := hown4.frozenAt (jp + 1)
              have f0 := hown4.frozenAt jp
              have hst1 := hown4.stored (jp + 1) (.int .i64 y)
              have K5 := Kept.setCell (Kept.trans HKQ.out k4) (p := ⟨g, jp + 1, none⟩) (by have := HBASE.out; simp; omega) (.int .i64 y)
              have cx5 := Kept.cell K5 HXC.out
              have f2 := hst1.1.frozenAt jp
              have cz4 : w4.cell? ⟨g, jp + 1, none⟩ = some (.int .i64 x) := by
                rw [hown4.cellAt _ (by omega)]
                simp [← hjp]
              have cy5 : (w4.setCell ⟨g, jp + 1, none⟩ (.int .i64 y)).cell? ⟨g, jp, none⟩ = some (.int .i64 y) := by
                rw [hst1.1.cellAt _ (by omega)]
                simp [← hjp]
              have hst2 := hst1.1.stored jp (.int .i64 x)
              have HK6 := Lib.hid (Kept.setCell K5 (p := ⟨g, jp, none⟩) (by have := HBASE.out; simp; omega) (.int .i64 x))
              have e6 : ((List.map (Value.int IntKind.i64) (P' ++ y :: x :: Q)).set (jp + 1) (Value.int IntKind.i64 y)).set jp (Value.int IntKind.i64 x) = List.map (Value.int IntKind.i64) (P' ++ x :: (y :: Q)) := by
                rw [← hjp, ← List.map_set, ← List.map_set, swap_adj rfl]
              have HO6 := Lib.hid hst2.1
              rw [e6] at HO6
              have hll2 : (P' ++ x :: (y :: Q)).length = L.length + 1 := by rw [← hll]; simp
              have HLL2 := Lib.hid hll2
              clear hst1 hst2 hown4 e6 K5 hll hll2
              have jz : (jp : Int) + 1 < (L.length : Int) + 1 := by omega
              have jz1 : (jp : Int) < (L.length : Int) + 1 := by omega
              go_wp2_with fail
              go_roundw
              case rel =>
                refine ⟨jp, P', y :: Q, by go_num, hjp, HLL2.out, ?_, ?_, HK6.out⟩
                · simp only [OwnI, HLL2.out]; exact HO6.out
                · have := HINS.out
                  rw [insR_move hx0 hxy] at this
                  simpa using this
              case measure => simp [intOf]
            · go_wp2_with fail
              refine HCY.out.mono ?_
              rintro e w4 ⟨rfl, k4⟩
              go_wp2_with fail
              go_roundw
              case rel => exact HOUT.out (insR_stay (by omega)) _ k4
              case measure => simp [intOf]; omega
          · go_wp2_with fail
            go_roundw
            case rel => exact HOUT.out (insR_low hx0 _) _ (Kept.refl _)
            case measure => simp [intOf]; omega
    · have hfull : text.take k = text := List.take_of_length_le (by have := HML.out; omega)
      have hown := HOW.out
      rw [hfull] at hown
      obtain ⟨A4, c4, hu, hle4, hI4⟩ := OwnI.sl hown
      have HFAR := Lib.hid (fun a (ha : A4 = some a) => ((OwnI.inHeap hown).2 a (by rw [hu]; exact ha)).2)
      generalize refSort cls text = R at *
      clear hown hfull
      subst hu
      go_wp2_with fail
      go_ret
      exact ⟨A4, _, c4, rfl, hle4, hI4, fun a ha => by have h1 := HFAR.out a ha; have h2 := HBASE.out; omega, HKW.out⟩
end Go.Proofs.YtmlcdohldkgcdaaGreatDoor
namespace Go.Proofs.YtmlcdohldkgcdaaGreatDoor
end Go.Proofs.YtmlcdohldkgcdaaGreatDoor
namespace Go.Proofs.YtmlcdohldkgcdaaGreatDoor
theorem emptyQ_usable : usableN emptyN = emptyN := if_pos emptyN_check
theorem emptyQ_class (c : Int) : classOf (usableN emptyN).classes c = 0 := by rw [emptyQ_usable]; rfl
end Go.Proofs.YtmlcdohldkgcdaaGreatDoor
namespace Go.Proofs.YtmlcdohldkgcdaaGreatDoor
theorem empty_pair {a c : Int} (ha : kind a = 0) : pairOf (usableN emptyN) a c = none := by
  rw [emptyQ_usable]
  have h : compH a c = none := by
    unfold compH
    rw [if_neg (by rw [ha]; omega), if_neg (by rw [ha]; omega)]
  unfold pairOf
  rw [h]
  rfl
theorem empty_full {c : Int} (cp : Bool) (h : kind c = 0) : fullOf (usableN emptyN).decomp cp c = [c] := by
  refine full_fix (usableN_full emptyN cp) ?_
  unfold onceOf
  rw [if_neg (by rw [h]; omega), emptyQ_usable]
  rfl
theorem empty_sort : ∀ t : List Int, sortT (classOf (usableN emptyN).classes) t = t
  | [] => sortT_nil
  | c :: t => by rw [sortT_start (emptyQ_class c), empty_sort t]
theorem empty_flat {t : List Int} (cp : Bool) (h : ∀ x ∈ t, kind x = 0) : t.flatMap (fullOf (usableN emptyN).decomp cp) = t := by
  induction t with
  | nil => rfl
  | cons c t ih => rw [List.flatMap_cons, empty_full cp (h c (List.mem_cons_self ..)), ih (fun x hx => h x (List.mem_cons_of_mem _ hx))]; rfl
theorem empty_fold : ∀ (t : List Int) (st : List Int × Option Nat), (∀ x ∈ t, kind x = 0) → (∀ k, st.2 = some k → k < st.1.length ∧ kind (st.1.getD k 0) = 0) → (t.foldl (cstep (classOf (usableN emptyN).classes) (pairOf (usableN emptyN))) st).1 = st.1 ++ t
  | [], st, _, _ => by simp
  | c :: t, st, h, hs => by
    have e : cstep (classOf (usableN emptyN).classes) (pairOf (usableN emptyN)) st c = (st.1 ++ [c], some st.1.length) := by
      have hp : cpush (classOf (usableN emptyN).classes) st c = (st.1 ++ [c], some st.1.length) := by unfold cpush; rw [if_pos (emptyQ_class c)]
      unfold cstep
      split
      · rename_i k hk
        split
        · exact hp
        · rw [empty_pair (hs k hk).2]; exact hp
      · exact hp
    rw [List.foldl_cons, e, empty_fold t _ (fun x hx => h x (List.mem_cons_of_mem _ hx)) (fun k hk => by
      simp only [Option.some.injEq] at hk
      subst hk
      refine ⟨by simp, ?_⟩
      have := h c (List.mem_cons_self ..)
      simpa using this)]
    simp
theorem empty_form (form : Int) {t : List Int} (h : ∀ x ∈ t, kind x = 0) : formOf emptyN form t = t := by
  by_cases hf : form < 1 ∨ 4 < form
  · exact formOf_0 emptyN hf t
  have ht : textOf emptyN (cpOf form) t = t := by
    rw [textOf_eq, textE_eq, empty_flat _ h, empty_sort]
  rw [formOf_known emptyN hf, ht]
  split
  · have := empty_fold t ([], none) h (fun k hk => by cases hk)
    simpa [compN, compT, compFold] using this
  · rfl
end Go.Proofs.YtmlcdohldkgcdaaGreatDoor
namespace Go.Proofs.YtmlcdohldkgcdaaGreatDoor
open Go Go.RowKit Go.Shelf
attribute [local go_sem] Oper.semAt_some
def BW (n₀ : Nat) (A B : World) : Prop := Below n₀ A B ∧ KeepsWalks A B
theorem BW.t {n₀ : Nat} {A B C : World} (h : BW n₀ A B) (k : BW n₀ B C) : BW n₀ A C := ⟨h.1.trans k.1, h.2.trans k.2⟩
end Go.Proofs.YtmlcdohldkgcdaaGreatDoor
namespace Go.Proofs.YtmlcdohldkgcdaaGreatDoor
open Go Go.RowKit Go.Shelf
attribute [local go_sem] Oper.semAt_some
end Go.Proofs.YtmlcdohldkgcdaaGreatDoor
namespace Go.Proofs.YtmlcdohldkgcdaaGreatDoor
end Go.Proofs.YtmlcdohldkgcdaaGreatDoor
