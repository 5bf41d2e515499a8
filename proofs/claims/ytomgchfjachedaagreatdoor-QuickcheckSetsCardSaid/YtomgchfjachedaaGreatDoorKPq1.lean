/- Stream-safe texts. No program. Stream-safe texts of data. No program. And more of that kind. -/
import Derived.Deep.RegionHeld3
import Derived.Test.YtomgchfjachedaaGreatDoorKPq
import Derived.Test.YtomgchfjachedaaGreatDoorKExpC
import Derived.Test.YtomgchfjachedaaGreatDoorKDecD
import Derived.Test.YtomgchfjachedaaGreatDoorKFew
import Derived.Test.YtomgchfjachedaaGreatDoorKRfl
import Derived.Test.YtomgchfjachedaaGreatDoorKMeas
import Derived.Test.YtomgchfjachedaaGreatDoorKRgx
import Derived.Test.YtomgchfjachedaaGreatDoorKQp
import Derived.Test.YtomgchfjachedaaGreatDoorKMapR
import Derived.Test.YtomgchfjachedaaGreatDoorKBase
import Derived.Test.YtomgchfjachedaaGreatDoorKRefA
namespace Go.Proofs.YtomgchfjachedaaGreatDoor
section
variable {cls : Int → Int}
structure Edg where
  lead : Nat
  trail : Nat
  op : Bool
end
section
variable {E : Int → Edg} {most : Int}
end
section
variable {cls : Int → Int}
theorem Keep.length {a b : List Int} (h : Keep cls a b) : a.length = b.length := by
  rw [← stab_length (cls := cls) a, ← stab_length (cls := cls) b, stab_congr h]
end
end Go.Proofs.YtomgchfjachedaaGreatDoor
namespace Go.Proofs.YtomgchfjachedaaGreatDoor
end Go.Proofs.YtomgchfjachedaaGreatDoor
namespace Go.Proofs.YtomgchfjachedaaGreatDoor
open Go Go.RowKit
theorem r20Starter (A : Option Addr) (n c : Nat) (l : List Span) (x : Int) (w : World) (hn : n ≤ 1000) (hl : Spans w A n l) :
    Calls Tryz.prog 109 #[.slice A n c, .int .i64 x] w (RetB w (classOf (usableSpans l) x == 0)) := by
  have HC := Lib.hid (r20Class A n c l x w hn hl)
  clear hl
  generalize classOf (usableSpans l) x = k at *
  go_enter Tryz.func109, Tryz.ntmps109
  go_wp2_with fail
  refine HC.out.mono ?_
  rintro e w1 ⟨rfl, k1⟩
  go_wp2_with fail
  go_ret
  exact ⟨rfl, k1⟩
theorem own_nil {w : World} {base g : Nat} (h : w.heap[g]? = some (.cells #[] 3 (0, 0))) (hb : base ≤ g) : OwnI w base (.slice (some ⟨g, 0, none⟩) 0 0) [] :=
  ⟨rfl, .inr ⟨g, 0, #[], rfl, hb, h, Nat.le_refl _, Nat.zero_le _, rfl, rfl⟩⟩
end Go.Proofs.YtomgchfjachedaaGreatDoor
namespace Go.Proofs.YtomgchfjachedaaGreatDoor
open Go Go.RowKit
def dropA (A : Option Addr) (m k : Nat) : Option Addr := if m = k then A else A.map (·.add k)
theorem Ints.drop_ {w : World} {A : Option Addr} {n k m : Nat} {xs : List Int} (h : Ints w A n xs) (hk : k ≤ n) (hm : n ≤ m) : Ints w (dropA A m k) (n - k) (xs.drop k) := by
  refine ⟨by rw [List.length_drop]; have := h.1; omega, fun h0 => ?_⟩
  obtain ⟨b, off, e, hc⟩ := h.2 (by omega)
  refine ⟨b, off + k, ?_, fun i x hx j u hu => ?_⟩
  · unfold dropA
    rw [if_neg (by omega), e]
    simp only [Option.map_some, Addr.add]
    split <;> simp_all
  · rw [List.getElem?_drop] at hx
    have := hc (k + i) x hx j u hu
    rw [show off + k + i * 1 + j = off + (k + i) * 1 + j by omega]
    exact this
theorem Ints.front_ {w : World} {A : Option Addr} {n q : Nat} {xs : List Int} (h : Ints w A n xs) (hq : q ≤ n) : Ints w A q (xs.take q) :=
  ⟨by rw [List.length_take]; have := h.1; omega, fun h0 => by
    obtain ⟨b, off, e, hc⟩ := h.2 (by omega)
    refine ⟨b, off, e, fun i x hx j u hu => hc i x ?_ j u hu⟩
    rw [List.getElem?_take] at hx
    split at hx
    · exact hx
    · cases hx⟩
theorem Ints.sets {w : World} {b : Nat} {A : Option Addr} {n : Nat} {xs : List Int} (h : Ints w A n xs) (hne : ∀ a, A = some a → a.block ≠ b) (i : Nat) (v : Value) : Ints (w.setCell ⟨b, i, none⟩ v) A n xs :=
  ⟨h.1, fun hn => by
    obtain ⟨b1, o1, e, hc⟩ := h.2 hn
    refine ⟨b1, o1, e, fun i2 x hx j u hu => ?_⟩
    have h1 := hc i2 x hx j u hu
    have hb := hne _ e
    simp only at hb
    rw [← h1]
    refine World.cell?_of_block ?_
    simp only [World.setCell]
    rw [Array.getElem?_modify, if_neg (fun e2 => hb e2.symm)]⟩
end Go.Proofs.YtomgchfjachedaaGreatDoor
namespace Go.Proofs.YtomgchfjachedaaGreatDoor
abbrev Tri := Int × Int × Int
def trOf (n : Nrm) (m : Mp) : Option Tri := if candB n m = true ∧ pairOf n (m.to.getD 0 0) (m.to.getD 1 0) = some m.src then some (m.to.getD 0 0, m.to.getD 1 0, m.src) else none
def trL (n : Nrm) (l : List Mp) : List Tri := l.filterMap (trOf n)
theorem trL_snoc {n : Nrm} {l : List Mp} {k : Nat} {m : Mp} (h : l[k]? = some m) : trL n (l.take (k + 1)) = trL n (l.take k) ++ (trOf n m).toList := by
  rw [take_succ_some h]
  unfold trL
  rw [List.filterMap_append]
  cases hh : trOf n m <;> simp [hh]
theorem trL_length (n : Nrm) (l : List Mp) : (trL n l).length ≤ l.length := List.length_filterMap_le _ _
theorem trOf_some {n : Nrm} {m : Mp} {a b : Int} (hc : candB n m = true) (ht : m.to = [a, b]) (hp : pairOf n a b = some m.src) : trOf n m = some (a, b, m.src) := by
  unfold trOf
  rw [ht]
  exact if_pos ⟨hc, hp⟩
theorem trOf_other {n : Nrm} {m : Mp} {a b : Int} (ht : m.to = [a, b]) (hp : pairOf n a b ≠ some m.src) : trOf n m = none := by
  unfold trOf
  rw [ht]
  exact if_neg fun h => hp h.2
theorem trOf_no {n : Nrm} {m : Mp} (hc : candB n m = false) : trOf n m = none := by
  unfold trOf
  exact if_neg fun h => by rw [hc] at h; cases h.1
theorem trL_mem {n : Nrm} {l : List Mp} {t : Tri} (h : t ∈ trL n l) : pairOf n t.1 t.2.1 = some t.2.2 := by
  obtain ⟨m, _, hm⟩ := List.mem_filterMap.1 h
  unfold trOf at hm
  split at hm
  · rename_i hc
    injection hm with hm
    subst hm
    exact hc.2
  · cases hm
def onesT (T : List Tri) : List Rng := T.map fun t => ⟨t.2.1, t.2.1⟩
theorem onesT_length (T : List Tri) : (onesT T).length = T.length := by simp [onesT]
theorem has_second_tr {n : Nrm} (g : Good n) {T : List Tri} (hT : T.Perm (trL n n.decomp)) (x : Int) : hasR (vtR ++ onesT T) x = secondB n x := by
  have hiff : hasR (vtR ++ onesT T) x = true ↔ secondB n x = true := by
    unfold hasR
    rw [List.any_eq_true]
    constructor
    · rintro ⟨r, hr, hin⟩
      simp only [inR, Bool.and_eq_true, decide_eq_true_eq] at hin
      refine secondB_iff.2 ?_
      rcases List.mem_append.1 hr with hr | hr
      · simp only [vtR, List.mem_cons, List.not_mem_nil, or_false] at hr
        rcases hr with rfl | rfl <;> simp only at hin
        · exact ⟨4352, pairOf_comp (comp_v (by omega) (by omega))⟩
        · exact ⟨44032, pairOf_comp (comp_t (by omega) (by omega))⟩
      · obtain ⟨p, hp, rfl⟩ := List.mem_map.1 hr
        obtain ⟨a, b, v⟩ := p
        simp only at hin
        have e : x = b := by omega
        subst e
        have := trL_mem (hT.mem_iff.1 hp)
        exact ⟨a, by simp only at this; rw [this]; rfl⟩
    · intro h
      obtain ⟨a, ha⟩ := secondB_iff.1 h
      cases hc : compH a x with
      | some c =>
        have hv := comp_vt (a := a) (x := x) (by rw [hc]; rfl)
        rcases hv with hv | hv
        · exact ⟨⟨4449, 4469⟩, by simp [vtR], by simp [inR, validB]; omega⟩
        · exact ⟨⟨4520, 4546⟩, by simp [vtR], by simp [inR, validB]; omega⟩
      | none =>
        have hpo : pairOf n a x = pairM n a x := by unfold pairOf; rw [hc]
        rw [hpo] at ha
        obtain ⟨v, hv⟩ := Option.isSome_iff_exists.1 ha
        obtain ⟨m, hm, hcand, hto, hsrc⟩ := pairM_some hv
        have hval := (good_codes g hm).2 x (by rw [hto]; simp)
        have ht : trOf n m = some (a, x, m.src) := trOf_some hcand hto (by rw [hpo, hv, hsrc])
        refine ⟨⟨x, x⟩, List.mem_append_right _ (List.mem_map.2 ⟨(a, x, m.src), hT.mem_iff.2 (List.mem_filterMap.2 ⟨m, hm, ht⟩), rfl⟩), ?_⟩
        simp [inR, hval]
  cases h3 : hasR (vtR ++ onesT T) x <;> cases h4 : secondB n x <;> simp_all
end Go.Proofs.YtomgchfjachedaaGreatDoor
namespace Go.Proofs.YtomgchfjachedaaGreatDoor
open Go Go.RowKit
set_option maxRecDepth 100000 in
set_option maxHeartbeats 2000000 in
theorem r21char (s : Sls) (n : Nrm) (c : Int) (cp : Bool) (w : World) (hN : NormAt w s n) (htag : ∀ m ∈ n.decomp, m.tag.size ≤ 1000) : Calls Tryz.prog 145 #[s.val, .int .i64 c, .bool cp] w (RetInts w (fullOf (usableN n).decomp cp c)) := by
  have hk1 := Kept.alloc (Kept.refl w) (Obj.cells #[Value.slice s.Ac s.nc s.cc, Value.slice s.Am s.nm s.cm, Value.slice s.Ae s.ne s.ce] 28)
  have HD := Lib.hid (r21data s n _ (hN.kept hk1) htag)
  have HF := Lib.hid (fun B w' (hk : Kept w w') (hI : Ints w' B 1 [c]) => r21full (usableS s n) (usableN n) (usableN_good n) B 1 1 [c] cp w' ((usableS_at hN).kept hk) (by omega) hI)
  rw [show [c].flatMap (fullOf (usableN n).decomp cp) = fullOf (usableN n).decomp cp c by simp] at HF
  have HK1 := Lib.hid hk1
  clear hN htag hk1
  generalize usableS s n = s1 at *
  generalize fullOf (usableN n).decomp cp c = R at *
  unfold Sls.val at *
  go_enter Tryz.func145, Tryz.ntmps145
  go_wp2_with fail
  refine HD.out.mono ?_
  rintro e w1 ⟨rfl, k1⟩
  have hka := Kept.alloc (Kept.refl w1) (Obj.cells #[Value.int IntKind.i64 c] 3)
  have K2 := Lib.hid (Kept.trans (Kept.trans HK1.out k1) hka)
  have HF2 := Lib.hid (HF.out _ _ K2.out (Ints.alloc_ (xs := [c]) rfl rfl))
  clear hka
  go_wp2_with fail
  refine HF2.out.mono ?_
  rintro e w2 ⟨A2, n2, c2, rfl, le2, i2, k2⟩
  have I2 := Lib.hid i2
  clear i2
  go_wp2_with fail
  go_ret
  exact ⟨A2, n2, c2, rfl, le2, I2.out, Kept.trans K2.out k2⟩
set_option maxRecDepth 100000 in
set_option maxHeartbeats 2000000 in
theorem r21text (s : Sls) (n : Nrm) (B : Option Addr) (m d : Nat) (text : List Int) (cp : Bool) (w : World) (hN : NormAt w s n) (htag : ∀ m ∈ n.decomp, m.tag.size ≤ 1000) (hm : m ≤ 1000) (hI : Ints w B m text) :
    Calls Tryz.prog 64 #[s.val, .slice B m d, .bool cp] w (RetInts w (textOf n cp text)) := by
  have hk1 := Kept.alloc (Kept.refl w) (Obj.cells #[Value.slice s.Ac s.nc s.cc, Value.slice s.Am s.nm s.cm, Value.slice s.Ae s.ne s.ce] 28)
  have HD := Lib.hid (r21data s n _ (hN.kept hk1) htag)
  have hNU := usableS_at hN
  have HF := Lib.hid (fun w' (hk : Kept w w') => r21full (usableS s n) (usableN n) (usableN_good n) B m d text cp w' (hNU.kept hk) (by omega) (hI.kept hk))
  have hfl : (text.flatMap (fullOf (usableN n).decomp cp)).length ≤ 64000 := by
    have := fullText_length n cp text
    have h2 := hI.1
    unfold fullText at this
    omega
  have HFL := Lib.hid hfl
  have HSO := Lib.hid (fun A2 n2 c2 w' (hk : Kept w w') (h2 : n2 ≤ 64000) (hI2 : Ints w' A2 n2 (text.flatMap (fullOf (usableN n).decomp cp))) => r20Sort (usableS s n).Ac (usableS s n).nc (usableS s n).cc (usableN n).classes A2 n2 c2 _ w' (by have := hNU.bc; omega) (by omega) (hNU.kept hk).cls hI2)
  rw [usableN_spans, refSort_eq (fun x => classOf_nonneg (usableN_good n).ord x), show sortT (classOf (usableN n).classes) (text.flatMap (fullOf (usableN n).decomp cp)) = textOf n cp text by rw [textOf_eq, textE_eq]] at HSO
  have HK1 := Lib.hid hk1
  clear hN htag hk1 hI hNU hfl
  generalize usableS s n = s1 at *
  generalize text.flatMap (fullOf (usableN n).decomp cp) = X at *
  generalize textOf n cp text = R at *
  unfold Sls.val at *
  go_enter Tryz.func64, Tryz.ntmps64
  go_wp2_with fail
  refine HD.out.mono ?_
  rintro e w1 ⟨rfl, k1⟩
  obtain ⟨bd, hbd⟩ : ∃ bd : Nat, bd = w1.heap.size := ⟨_, rfl⟩
  have hka := Kept.alloc (Kept.refl w1) (Obj.cells #[Value.slice s1.Ac s1.nc s1.cc, Value.slice s1.Am s1.nm s1.cm, Value.slice s1.Ae s1.ne s1.ce] 28)
  have hdb : (w1.alloc (Obj.cells #[Value.slice s1.Ac s1.nc s1.cc, Value.slice s1.Am s1.nm s1.cm, Value.slice s1.Ae s1.ne s1.ce] 28)).heap[bd]? = some (.cells #[Value.slice s1.Ac s1.nc s1.cc, Value.slice s1.Am s1.nm s1.cm, Value.slice s1.Ae s1.ne s1.ce] 28 (0, 0)) := alloc_at hbd
  have p0 := cell_of_block (i := 0) hdb rfl
  have p1 := cell_of_block (i := 1) hdb rfl
  have p2 := cell_of_block (i := 2) hdb rfl
  simp only [s4_, s5_, s6_] at p0 p1 p2
  have K2d := Lib.hid (Kept.drew (Kept.trans (Kept.trans HK1.out k1) hka))
  clear hka hdb
  go_wp2_with fail
  rw [← hbd]
  clear hbd
  generalize w1.alloc (Obj.cells #[Value.slice s1.Ac s1.nc s1.cc, Value.slice s1.Am s1.nm s1.cm, Value.slice s1.Ae s1.ne s1.ce] 28) = W2 at *
  go_region_held3 (fun w' => w'.cell? ⟨bd, 0, none⟩ = some (.slice s1.Ac s1.nc s1.cc) ∧ w'.cell? ⟨bd, 1, none⟩ = some (.slice s1.Am s1.nm s1.cm) ∧ w'.cell? ⟨bd, 2, none⟩ = some (.slice s1.Ae s1.ne s1.ce)) (first | exact ⟨r0, r1, r2⟩ | exact ⟨q0, q1, q2⟩ | exact ⟨p0, p1, p2⟩)
    (first
      | (go_at_call 106; refine (HSO.out A3 n3 c3 _ K3.out (by rw [I3.out.1]; exact HFL.out) I3.out).mono ?_; rintro e w4 ⟨A4, n4, c4, rfl, le4, i4, k4⟩; have I4 := Lib.hid i4; clear i4; have r0 := Kept.cell k4 q0; have r1 := Kept.cell k4 q1; have r2 := Kept.cell k4 q2; have K4 := Lib.hid (Kept.trans K3.out k4))
      | (go_at_call 107; refine (HF.out _ K2d.out).mono ?_; rintro e w3 ⟨A3, n3, c3, rfl, le3, i3, k3⟩; have I3 := Lib.hid i3; clear i3; have q0 := Kept.cell k3 p0; have q1 := Kept.cell k3 p1; have q2 := Kept.cell k3 p2; have K3 := Lib.hid (Kept.trans K2d.out k3)))
  go_wp2_with fail
  go_ret
  exact ⟨A4, n4, c4, rfl, le4, I4.out, K4.out⟩
end Go.Proofs.YtomgchfjachedaaGreatDoor
namespace Go.Proofs.YtomgchfjachedaaGreatDoor
open Go Go.RowKit
end Go.Proofs.YtomgchfjachedaaGreatDoor
namespace Go.Proofs.YtomgchfjachedaaGreatDoor
open Go Go.RowKit
end Go.Proofs.YtomgchfjachedaaGreatDoor
