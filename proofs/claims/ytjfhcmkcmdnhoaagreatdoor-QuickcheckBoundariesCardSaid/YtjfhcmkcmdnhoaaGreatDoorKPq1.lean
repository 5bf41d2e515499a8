/- Stream-safe texts. No program. Stream-safe texts of data. No program. And more of that kind. -/
import Derived.Test.YtjfhcmkcmdnhoaaGreatDoorKPq
import Derived.Test.YtjfhcmkcmdnhoaaGreatDoorKExpC
import Derived.Test.YtjfhcmkcmdnhoaaGreatDoorKDecD
import Derived.Test.YtjfhcmkcmdnhoaaGreatDoorKFew
import Derived.Test.YtjfhcmkcmdnhoaaGreatDoorKRfl
import Derived.Test.YtjfhcmkcmdnhoaaGreatDoorKQp
import Derived.Test.YtjfhcmkcmdnhoaaGreatDoorKQr
import Derived.Test.YtjfhcmkcmdnhoaaGreatDoorKSq
import Derived.Test.YtjfhcmkcmdnhoaaGreatDoorKRgx
namespace Go.Proofs.YtjfhcmkcmdnhoaaGreatDoor
section
variable {cls : Int → Int}
structure Edg where
  lead : Nat
  trail : Nat
  op : Bool
end
section
variable {E : Int → Edg} {most : Int}
end
section
variable {cls : Int → Int}
theorem Keep.length {a b : List Int} (h : Keep cls a b) : a.length = b.length := by
  rw [← stab_length (cls := cls) a, ← stab_length (cls := cls) b, stab_congr h]
end
end Go.Proofs.YtjfhcmkcmdnhoaaGreatDoor
namespace Go.Proofs.YtjfhcmkcmdnhoaaGreatDoor
end Go.Proofs.YtjfhcmkcmdnhoaaGreatDoor
namespace Go.Proofs.YtjfhcmkcmdnhoaaGreatDoor
open Go Go.RowKit
theorem r20Starter (A : Option Addr) (n c : Nat) (l : List Span) (x : Int) (w : World) (hn : n ≤ 1000) (hl : Spans w A n l) :
    Calls Tryz.prog 82 #[.slice A n c, .int .i64 x] w (RetB w (classOf (usableSpans l) x == 0)) := by
  have HC := Lib.hid (r20Class A n c l x w hn hl)
  clear hl
  generalize classOf (usableSpans l) x = k at *
  go_enter Tryz.func82, Tryz.ntmps82
  go_wp2_with fail
  refine HC.out.mono ?_
  rintro e w1 ⟨rfl, k1⟩
  go_wp2_with fail
  go_ret
  exact ⟨rfl, k1⟩
theorem own_nil {w : World} {base g : Nat} (h : w.heap[g]? = some (.cells #[] 3 (0, 0))) (hb : base ≤ g) : OwnI w base (.slice (some ⟨g, 0, none⟩) 0 0) [] :=
  ⟨rfl, .inr ⟨g, 0, #[], rfl, hb, h, Nat.le_refl _, Nat.zero_le _, rfl, rfl⟩⟩
end Go.Proofs.YtjfhcmkcmdnhoaaGreatDoor
namespace Go.Proofs.YtjfhcmkcmdnhoaaGreatDoor
abbrev Tri := Int × Int × Int
def trOf (n : Nrm) (m : Mp) : Option Tri := if candB n m = true ∧ pairOf n (m.to.getD 0 0) (m.to.getD 1 0) = some m.src then some (m.to.getD 0 0, m.to.getD 1 0, m.src) else none
def trL (n : Nrm) (l : List Mp) : List Tri := l.filterMap (trOf n)
theorem trL_snoc {n : Nrm} {l : List Mp} {k : Nat} {m : Mp} (h : l[k]? = some m) : trL n (l.take (k + 1)) = trL n (l.take k) ++ (trOf n m).toList := by
  rw [take_succ_some h]
  unfold trL
  rw [List.filterMap_append]
  cases hh : trOf n m <;> simp [hh]
theorem trL_length (n : Nrm) (l : List Mp) : (trL n l).length ≤ l.length := List.length_filterMap_le _ _
theorem trOf_some {n : Nrm} {m : Mp} {a b : Int} (hc : candB n m = true) (ht : m.to = [a, b]) (hp : pairOf n a b = some m.src) : trOf n m = some (a, b, m.src) := by
  unfold trOf
  rw [ht]
  exact if_pos ⟨hc, hp⟩
theorem trOf_other {n : Nrm} {m : Mp} {a b : Int} (ht : m.to = [a, b]) (hp : pairOf n a b ≠ some m.src) : trOf n m = none := by
  unfold trOf
  rw [ht]
  exact if_neg fun h => hp h.2
theorem trOf_no {n : Nrm} {m : Mp} (hc : candB n m = false) : trOf n m = none := by
  unfold trOf
  exact if_neg fun h => by rw [hc] at h; cases h.1
theorem trL_mem {n : Nrm} {l : List Mp} {t : Tri} (h : t ∈ trL n l) : pairOf n t.1 t.2.1 = some t.2.2 := by
  obtain ⟨m, _, hm⟩ := List.mem_filterMap.1 h
  unfold trOf at hm
  split at hm
  · rename_i hc
    injection hm with hm
    subst hm
    exact hc.2
  · cases hm
def onesT (T : List Tri) : List Rng := T.map fun t => ⟨t.2.1, t.2.1⟩
theorem onesT_length (T : List Tri) : (onesT T).length = T.length := by simp [onesT]
theorem has_second_tr {n : Nrm} (g : Good n) {T : List Tri} (hT : T.Perm (trL n n.decomp)) (x : Int) : hasR (vtR ++ onesT T) x = secondB n x := by
  have hiff : hasR (vtR ++ onesT T) x = true ↔ secondB n x = true := by
    unfold hasR
    rw [List.any_eq_true]
    constructor
    · rintro ⟨r, hr, hin⟩
      simp only [inR, Bool.and_eq_true, decide_eq_true_eq] at hin
      refine secondB_iff.2 ?_
      rcases List.mem_append.1 hr with hr | hr
      · simp only [vtR, List.mem_cons, List.not_mem_nil, or_false] at hr
        rcases hr with rfl | rfl <;> simp only at hin
        · exact ⟨4352, pairOf_comp (comp_v (by omega) (by omega))⟩
        · exact ⟨44032, pairOf_comp (comp_t (by omega) (by omega))⟩
      · obtain ⟨p, hp, rfl⟩ := List.mem_map.1 hr
        obtain ⟨a, b, v⟩ := p
        simp only at hin
        have e : x = b := by omega
        subst e
        have := trL_mem (hT.mem_iff.1 hp)
        exact ⟨a, by simp only at this; rw [this]; rfl⟩
    · intro h
      obtain ⟨a, ha⟩ := secondB_iff.1 h
      cases hc : compH a x with
      | some c =>
        have hv := comp_vt (a := a) (x := x) (by rw [hc]; rfl)
        rcases hv with hv | hv
        · exact ⟨⟨4449, 4469⟩, by simp [vtR], by simp [inR, validB]; omega⟩
        · exact ⟨⟨4520, 4546⟩, by simp [vtR], by simp [inR, validB]; omega⟩
      | none =>
        have hpo : pairOf n a x = pairM n a x := by unfold pairOf; rw [hc]
        rw [hpo] at ha
        obtain ⟨v, hv⟩ := Option.isSome_iff_exists.1 ha
        obtain ⟨m, hm, hcand, hto, hsrc⟩ := pairM_some hv
        have hval := (good_codes g hm).2 x (by rw [hto]; simp)
        have ht : trOf n m = some (a, x, m.src) := trOf_some hcand hto (by rw [hpo, hv, hsrc])
        refine ⟨⟨x, x⟩, List.mem_append_right _ (List.mem_map.2 ⟨(a, x, m.src), hT.mem_iff.2 (List.mem_filterMap.2 ⟨m, hm, ht⟩), rfl⟩), ?_⟩
        simp [inR, hval]
  cases h3 : hasR (vtR ++ onesT T) x <;> cases h4 : secondB n x <;> simp_all
end Go.Proofs.YtjfhcmkcmdnhoaaGreatDoor
namespace Go.Proofs.YtjfhcmkcmdnhoaaGreatDoor
open Go Go.RowKit
set_option maxRecDepth 100000 in
set_option maxHeartbeats 2000000 in
theorem r21char (s : Sls) (n : Nrm) (c : Int) (cp : Bool) (w : World) (hN : NormAt w s n) (htag : ∀ m ∈ n.decomp, m.tag.size ≤ 1000) : Calls Tryz.prog 114 #[s.val, .int .i64 c, .bool cp] w (RetInts w (fullOf (usableN n).decomp cp c)) := by
  have hk1 := Kept.alloc (Kept.refl w) (Obj.cells #[Value.slice s.Ac s.nc s.cc, Value.slice s.Am s.nm s.cm, Value.slice s.Ae s.ne s.ce] 28)
  have HD := Lib.hid (r21data s n _ (hN.kept hk1) htag)
  have HF := Lib.hid (fun B w' (hk : Kept w w') (hI : Ints w' B 1 [c]) => r21full (usableS s n) (usableN n) (usableN_good n) B 1 1 [c] cp w' ((usableS_at hN).kept hk) (by omega) hI)
  rw [show [c].flatMap (fullOf (usableN n).decomp cp) = fullOf (usableN n).decomp cp c by simp] at HF
  have HK1 := Lib.hid hk1
  clear hN htag hk1
  generalize usableS s n = s1 at *
  generalize fullOf (usableN n).decomp cp c = R at *
  unfold Sls.val at *
  go_enter Tryz.func114, Tryz.ntmps114
  go_wp2_with fail
  refine HD.out.mono ?_
  rintro e w1 ⟨rfl, k1⟩
  have hka := Kept.alloc (Kept.refl w1) (Obj.cells #[Value.int IntKind.i64 c] 3)
  have K2 := Lib.hid (Kept.trans (Kept.trans HK1.out k1) hka)
  have HF2 := Lib.hid (HF.out _ _ K2.out (Ints.alloc_ (xs := [c]) rfl rfl))
  clear hka
  go_wp2_with fail
  refine HF2.out.mono ?_
  rintro e w2 ⟨A2, n2, c2, rfl, le2, i2, k2⟩
  have I2 := Lib.hid i2
  clear i2
  go_wp2_with fail
  go_ret
  exact ⟨A2, n2, c2, rfl, le2, I2.out, Kept.trans K2.out k2⟩
set_option maxRecDepth 100000 in
set_option maxHeartbeats 2000000 in
theorem r21text (s : Sls) (n : Nrm) (B : Option Addr) (m d : Nat) (text : List Int) (cp : Bool) (w : World) (hN : NormAt w s n) (htag : ∀ m ∈ n.decomp, m.tag.size ≤ 1000) (hm : m ≤ 1000) (hI : Ints w B m text) :
    Calls Tryz.prog 70 #[s.val, .slice B m d, .bool cp] w (RetInts w (textOf n cp text)) := by
  have hk1 := Kept.alloc (Kept.refl w) (Obj.cells #[Value.slice s.Ac s.nc s.cc, Value.slice s.Am s.nm s.cm, Value.slice s.Ae s.ne s.ce] 28)
  have HD := Lib.hid (r21data s n _ (hN.kept hk1) htag)
  have hNU := usableS_at hN
  have HF := Lib.hid (fun w' (hk : Kept w w') => r21full (usableS s n) (usableN n) (usableN_good n) B m d text cp w' (hNU.kept hk) (by omega) (hI.kept hk))
  have hfl : (text.flatMap (fullOf (usableN n).decomp cp)).length ≤ 64000 := by
    have := fullText_length n cp text
    have h2 := hI.1
    unfold fullText at this
    omega
  have HFL := Lib.hid hfl
  have HSO := Lib.hid (fun A2 n2 c2 w' (hk : Kept w w') (h2 : n2 ≤ 64000) (hI2 : Ints w' A2 n2 (text.flatMap (fullOf (usableN n).decomp cp))) => r20Sort (usableS s n).Ac (usableS s n).nc (usableS s n).cc (usableN n).classes A2 n2 c2 _ w' (by have := hNU.bc; omega) (by omega) (hNU.kept hk).cls hI2)
  rw [usableN_spans, refSort_eq (fun x => classOf_nonneg (usableN_good n).ord x), show sortT (classOf (usableN n).classes) (text.flatMap (fullOf (usableN n).decomp cp)) = textOf n cp text by rw [textOf_eq, textE_eq]] at HSO
  have HK1 := Lib.hid hk1
  clear hN htag hk1 hI hNU hfl
  generalize usableS s n = s1 at *
  generalize text.flatMap (fullOf (usableN n).decomp cp) = X at *
  generalize textOf n cp text = R at *
  unfold Sls.val at *
  go_enter Tryz.func70, Tryz.ntmps70
  go_wp2_with fail
  refine HD.out.mono ?_
  rintro e w1 ⟨rfl, k1⟩
  obtain ⟨bd, hbd⟩ : ∃ bd : Nat, bd = w1.heap.size := ⟨_, rfl⟩
  have hka := Kept.alloc (Kept.refl w1) (Obj.cells #[Value.slice s1.Ac s1.nc s1.cc, Value.slice s1.Am s1.nm s1.cm, Value.slice s1.Ae s1.ne s1.ce] 28)
  have hdb : (w1.alloc (Obj.cells #[Value.slice s1.Ac s1.nc s1.cc, Value.slice s1.Am s1.nm s1.cm, Value.slice s1.Ae s1.ne s1.ce] 28)).heap[bd]? = some (.cells #[Value.slice s1.Ac s1.nc s1.cc, Value.slice s1.Am s1.nm s1.cm, Value.slice s1.Ae s1.ne s1.ce] 28 (0, 0)) := alloc_at hbd
  have p0 := cell_of_block (i := 0) hdb rfl
  have p1 := cell_of_block (i := 1) hdb rfl
  have p2 := cell_of_block (i := 2) hdb rfl
  simp only [s4_, s5_, s6_] at p0 p1 p2
  have K2d := Lib.hid (Kept.drew (Kept.trans (Kept.trans HK1.out k1) hka))
  clear hka hdb
  go_wp2_with fail
  rw [← hbd]
  clear hbd
  generalize w1.alloc (Obj.cells #[Value.slice s1.Ac s1.nc s1.cc, Value.slice s1.Am s1.nm s1.cm, Value.slice s1.Ae s1.ne s1.ce] 28) = W2 at *
  go_region_held3 (fun w' => w'.cell? ⟨bd, 0, none⟩ = some (.slice s1.Ac s1.nc s1.cc) ∧ w'.cell? ⟨bd, 1, none⟩ = some (.slice s1.Am s1.nm s1.cm) ∧ w'.cell? ⟨bd, 2, none⟩ = some (.slice s1.Ae s1.ne s1.ce)) (first | exact ⟨r0, r1, r2⟩ | exact ⟨q0, q1, q2⟩ | exact ⟨p0, p1, p2⟩)
    (first
      | (go_at_call 89; refine (HSO.out A3 n3 c3 _ K3.out (by rw [I3.out.1]; exact HFL.out) I3.out).mono ?_; rintro e w4 ⟨A4, n4, c4, rfl, le4, i4, k4⟩; have I4 := Lib.hid i4; clear i4; have r0 := Kept.cell k4 q0; have r1 := Kept.cell k4 q1; have r2 := Kept.cell k4 q2; have K4 := Lib.hid (Kept.trans K3.out k4))
      | (go_at_call 91; refine (HF.out _ K2d.out).mono ?_; rintro e w3 ⟨A3, n3, c3, rfl, le3, i3, k3⟩; have I3 := Lib.hid i3; clear i3; have q0 := Kept.cell k3 p0; have q1 := Kept.cell k3 p1; have q2 := Kept.cell k3 p2; have K3 := Lib.hid (Kept.trans K2d.out k3)))
  go_wp2_with fail
  go_ret
  exact ⟨A4, n4, c4, rfl, le4, I4.out, K4.out⟩
end Go.Proofs.YtjfhcmkcmdnhoaaGreatDoor
namespace Go.Proofs.YtjfhcmkcmdnhoaaGreatDoor
section
variable {cls : Int → Int} {pr : Int → Int → Option Int}
def HeadIs (s : Int) (st : List Int × Option Nat) : Prop := (∃ r, st.1 = s :: r) ∧ ∀ k, st.2 = some k → 1 ≤ k
theorem HeadIs.push {s c : Int} {st : List Int × Option Nat} (h : HeadIs s st) : HeadIs s (cpush cls st c) := by
  obtain ⟨⟨r, hr⟩, h2⟩ := h
  refine ⟨⟨r ++ [c], by unfold cpush; rw [hr]; rfl⟩, fun k hk => ?_⟩
  unfold cpush at hk
  simp only at hk
  split at hk
  · injection hk with hk
    rw [hr] at hk
    simp at hk
    omega
  · exact h2 k hk
theorem HeadIs.step {s c : Int} {st : List Int × Option Nat} (h : HeadIs s st) : HeadIs s (cstep cls pr st c) := by
  unfold cstep
  split
  · rename_i k hk
    split
    · exact h.push
    · split
      · obtain ⟨⟨r, hr⟩, h2⟩ := h
        have hk1 := h2 k hk
        refine ⟨?_, fun j hj => by simp only [Option.some.injEq] at hj; omega⟩
        rw [hr]
        obtain ⟨k', rfl⟩ : ∃ k', k = k' + 1 := ⟨k - 1, by omega⟩
        exact ⟨_, by rw [List.set_cons_succ]⟩
      · exact h.push
  · exact h.push
theorem HeadIs.fold {s : Int} : ∀ (t : List Int) {st : List Int × Option Nat}, HeadIs s st → HeadIs s (t.foldl (cstep cls pr) st)
  | [], _, h => h
  | _ :: t, _, h => HeadIs.fold t h.step
theorem comp_head {s : Int} {t : List Int} (h : cls s ≠ 0) : ∃ r, compT cls pr (s :: t) = s :: r := by
  have h0 : HeadIs s (cstep cls pr ([], none) s) := by
    refine ⟨⟨[], by simp [cstep, cpush]⟩, fun k hk => ?_⟩
    simp only [cstep, cpush] at hk
    rw [if_neg h] at hk
    cases hk
  exact (HeadIs.fold t h0).1
end
theorem own_head (n : Nrm) {form c : Int} (h : ¬ (form < 1 ∨ 4 < form)) (hf : formOf n form [c] = [c]) :
    ∃ s t, fullOf (usableN n).decomp (cpOf form) c = s :: t ∧ (textOf n (cpOf form) [c]).headD 0 = s := by
  have ht : textOf n (cpOf form) [c] = sortT (classOf (usableN n).classes) (fullOf (usableN n).decomp (cpOf form) c) := textOf_one n _ c
  cases hF : fullOf (usableN n).decomp (cpOf form) c with
  | nil =>
    exfalso
    rw [formOf_known n h, ht, hF, sortT_nil] at hf
    split at hf
    · cases hf
    · cases hf
  | cons s t =>
    refine ⟨s, t, rfl, ?_⟩
    rw [hF] at ht
    by_cases hs : classOf (usableN n).classes s = 0
    · rw [ht, sortT_start hs]; rfl
    · obtain ⟨s', t', e, h0⟩ := sort_head (cls := classOf (usableN n).classes) (t := t) hs
      have hc : s' = c := by
        rw [formOf_known n h, ht, e] at hf
        split at hf
        · obtain ⟨r, hr⟩ := comp_head (pr := pairOf (usableN n)) (t := t') h0
          unfold compN at hf
          rw [hr] at hf
          injection hf
        · injection hf
      have hno := d_none n (cpOf form) [c] s' (by rw [ht, e]; exact List.mem_cons_self ..)
      rw [hc] at hno
      have hfix := full_fix (usableN_full n (cpOf form)) hno
      rw [hF] at hfix
      rw [ht, hfix, sort_one]
      injection hfix with h1 h2
      rw [h1]; rfl
noncomputable def sndB (n : Nrm) (form c : Int) : Bool := comps form && match (fullOf (usableN n).decomp (cpOf form) c).head? with
  | some x => secondB (usableN n) x
  | none => false
theorem charQ_eq (n : Nrm) (form c : Int) : charQ n form c = if form < 1 ∨ 4 < form then 1 else if formOf n form [c] = [c] then (if sndB n form c = true then 3 else 1) else 2 := by
  unfold charQ
  by_cases h : form < 1 ∨ 4 < form
  · rw [if_pos h, if_pos h]
  · rw [if_neg h, if_neg h]
    by_cases hf : formOf n form [c] = [c]
    · rw [if_pos hf, if_pos hf]
      obtain ⟨s, t, e1, e2⟩ := own_head n h hf
      unfold sndB
      rw [e1, e2]
      rfl
    · rw [if_neg hf, if_neg hf]
theorem boundB_eq (n : Nrm) (form c : Int) : boundB n form c = if form < 1 ∨ 4 < form then true else match (fullOf (usableN n).decomp (cpOf form) c).head? with
    | none => false
    | some s => decide (classOf (usableN n).classes s = 0) && !sndB n form c := by
  unfold boundB sndB
  by_cases h : form < 1 ∨ 4 < form
  · rw [if_pos h, if_pos h]
  · rw [if_neg h, if_neg h]
    cases fullOf (usableN n).decomp (cpOf form) c with
    | nil => rfl
    | cons s t => rfl
end Go.Proofs.YtjfhcmkcmdnhoaaGreatDoor
