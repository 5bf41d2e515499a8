/- quickcheck.worst. checker.results: the result of each code point. And more of that kind. -/
import Derived.Test.YtomgchfjachedaaGreatDoorKRgx
import Derived.Test.YtomgchfjachedaaGreatDoorKMapR
import Derived.Test.YtomgchfjachedaaGreatDoorKBase
import Derived.Test.YtomgchfjachedaaGreatDoorKQcf
import Derived.Test.YtomgchfjachedaaGreatDoorKQca
namespace Go.Proofs.YtomgchfjachedaaGreatDoor
open Go Go.RowKit
def worstL (xs : List Int) : Int := if 2 ∈ xs then 2 else if 3 ∈ xs then 3 else 1
theorem worstL_two (a b : Int) : worstL [a, b] = combQ a b := by
  unfold worstL combQ
  have h2 : (2 ∈ [a, b]) ↔ (a = 2 ∨ b = 2) := by simp [eq_comm]
  have h3 : (3 ∈ [a, b]) ↔ (a = 3 ∨ b = 3) := by simp [eq_comm]
  simp only [h2, h3]
theorem worstL_skip {l : List Int} {x : Int} (h2 : x ≠ 2) (h3 : x ≠ 3) : worstL (l ++ [x]) = worstL l := by
  unfold worstL
  have a : (2 ∈ l ++ [x]) ↔ 2 ∈ l := by simp [Ne.symm h2]
  have b : (3 ∈ l ++ [x]) ↔ 3 ∈ l := by simp [Ne.symm h3]
  simp only [a, b]
set_option maxRecDepth 100000 in
set_option maxHeartbeats 2000000 in
theorem worst_any (A : Option Addr) (n c : Nat) (xs : List Int) (w : World) (hn : n ≤ 1000) (hI : Ints w A n xs) : Calls Tryz.prog 85 #[.slice A n c] w (RetI w (worstL xs)) := by
  have HI := Lib.hid hI
  have HN := Lib.hid hI.1
  clear hI
  go_enter Tryz.func85, Tryz.ntmps85
  go_wp2_with fail
  go_loopw [3, 8] (fun o i wr => ∃ (k : Nat) (out : Int), k ≤ n ∧ i = .int .i64 k ∧ o = .int .i64 out ∧ ¬ 2 ∈ xs.take k ∧ out = worstL (xs.take k) ∧ Kept w wr) (fun _ i _ => n - (intOf i).toNat)
  case atStart => exact ⟨0, 1, Nat.zero_le _, rfl, rfl, by simp, by simp [worstL], Kept.refl _⟩
  case round =>
    obtain ⟨k, out, hk, rfl, rfl, hno, hout, hkw⟩ := hrel
    have HNO := Lib.hid hno
    have HOUT := Lib.hid hout
    have HKW := Lib.hid hkw
    clear hno hout
    by_cases hlt : k < n
    · obtain ⟨b, off, x, rfl, hx, c0⟩ := int_at (HI.out.kept hkw) hlt
      have HTK := Lib.hid (take_succ_some hx)
      have HM := Lib.hid (mem_of_getElem?_some hx)
      clear hx hkw
      by_cases h2 : x = 2
      · have HR := Lib.hid (show worstL xs = 2 from by unfold worstL; rw [if_pos (by rw [← h2]; exact HM.out)])
        subst h2
        go_wp2_with fail
        go_ret
        exact ⟨ret_int HR.out.symm, HKW.out⟩
      · have e2 : (x == 2) = false := by simpa using h2
        have HN2 := Lib.hid (show ¬ 2 ∈ xs.take (k + 1) by rw [HTK.out]; simp only [List.mem_append, List.mem_singleton]; intro h; rcases h with h | h; exact HNO.out h; exact h2 h.symm)
        by_cases h3 : x = 3
        · have HW := Lib.hid (show worstL (xs.take (k + 1)) = 3 from by unfold worstL; rw [if_neg HN2.out, if_pos (by rw [HTK.out, h3]; simp)])
          subst h3
          clear h2 e2
          go_wp2_with fail
          go_roundw
          case rel => exact ⟨k + 1, 3, by omega, by go_num, rfl, HN2.out, HW.out.symm, HKW.out⟩
          case measure => simp [intOf]; omega
        · have e3 : (x == 3) = false := by simpa using h3
          have HW := Lib.hid (show worstL (xs.take (k + 1)) = worstL (xs.take k) from by rw [HTK.out]; exact worstL_skip h2 h3)
          clear h2 h3
          go_wp2_with fail
          go_roundw
          case rel => exact ⟨k + 1, out, by omega, by go_num, rfl, HN2.out, by rw [HW.out]; exact HOUT.out, HKW.out⟩
          case measure => simp [intOf]; omega
    · have hkn : k = n := by omega
      have HR := Lib.hid (show out = worstL xs by have := HOUT.out; rwa [List.take_of_length_le (by have := HN.out; omega)] at this)
      subst hkn
      go_wp2_with fail
      go_ret
      exact ⟨ret_int HR.out, HKW.out⟩
end Go.Proofs.YtomgchfjachedaaGreatDoor
namespace Go.Proofs.YtomgchfjachedaaGreatDoor
open Go Go.RowKit
noncomputable def resM (n : Nrm) (form : Int) (l : List Int) : List (Int × Value) := l.map fun c => (c, .int .i64 (charQ n form c))
theorem compN_usable (n : Nrm) (t : List Int) : compN (usableN n) t = compN n t := by
  show compT (classOf (usableN (usableN n)).classes) (pairOf (usableN (usableN n))) t = compT (classOf (usableN n).classes) (pairOf (usableN n)) t
  rw [usableN_twice]
theorem formOf_usable (n : Nrm) (form : Int) (t : List Int) : formOf (usableN n) form t = formOf n form t := by
  by_cases h : form < 1 ∨ 4 < form
  · rw [formOf_0 _ h, formOf_0 _ h]
  · rw [formOf_known _ h, formOf_known _ h, textOf_usable, compN_usable]
theorem text_ne {n : Nrm} {form x : Int} (hf : ¬ (form < 1 ∨ 4 < form)) (h : formOf n form [x] = [x]) : textOf n (cpOf form) [x] ≠ [] := by
  intro e
  rw [formOf_known n hf, e] at h
  split at h <;> cases h
theorem charQ_non {n : Nrm} {form x : Int} (hf : ¬ (form < 1 ∨ 4 < form)) {F : List Int} (h : formOf n form [x] = F) (hne : F ≠ [x]) : charQ n form x = 2 := (charQ_no n hf x).2 (by rw [h]; exact hne)
theorem charQ_own {n : Nrm} {form x h0 : Int} {t : List Int} (hf : ¬ (form < 1 ∨ 4 < form)) (h : formOf n form [x] = [x]) (hP : textOf n (cpOf form) [x] = h0 :: t) {bv : Bool} (hb : (comps form && secondB (usableN n) h0) = bv) : charQ n form x = if bv = true then 3 else 1 := by
  unfold charQ
  rw [if_neg hf, if_pos h, hP, List.headD_cons, hb]
theorem resM_step {n : Nrm} {form : Int} {l : List Int} {k : Nat} {c : Int} (hnd : l.Nodup) (hc : l[k]? = some c) {v : Int} (hv : charQ n form c = v) : setKV (resM n form (l.take k)) c (.int .i64 v) = resM n form (l.take (k + 1)) := by
  have hni : c ∉ l.take k := by
    intro hm
    obtain ⟨i, hi, e⟩ := List.getElem_of_mem hm
    rw [List.length_take] at hi
    rw [List.getElem_take] at e
    have hk := lt_of_getElem?_some hc
    have h2 : l[k] = c := by rw [List.getElem?_eq_getElem hk] at hc; exact Option.some.inj hc
    exact List.pairwise_iff_getElem.1 hnd i k (by omega) hk (by omega) (e.trans h2.symm)
  rw [setKV_new (by rw [show (resM n form (l.take k)).map (·.1) = l.take k by simp [resM, Function.comp_def]]; exact hni), take_succ_some hc, ← hv]
  simp [resM]
set_option maxRecDepth 100000 in
set_option maxHeartbeats 8000000 in
theorem results_any (s : Sls) (n : Nrm) (form : Int) (AR : Option Addr) (mR cR : Nat) (R : List Rng) (AC : Option Addr) (nC cC : Nat) (codes : List Int) (w : World) (hN : NormAt w s (usableN n)) (hG : Glob w) (hf : ¬ (form < 1 ∨ 4 < form)) (hmR : mR ≤ 2000) (hR : Rngs w AR mR R)
    (hRS : ∀ x, hasR R x = (comps form && secondB (usableN n) x)) (hnC : nC ≤ 100000) (hC : Ints w AC nC codes) (hnd : codes.Nodup) (hv : ∀ c ∈ codes, 0 ≤ c) :
    Calls Tryz.prog 44 #[.agg #[Value.slice s.Ac s.nc s.cc, Value.slice s.Am s.nm s.cm, Value.slice s.Ae s.ne s.ce, Value.int IntKind.i64 form, Value.bool (cpOf form), Value.slice AR mR cR], .slice AC nC cC] w (fun e w' => ∃ bm, e = .returned (.map (some bm)) ∧ MapIs w' bm (fun k : Int => Value.int .i64 k) (resM n form codes) ∧ Kept w w') := by
  have hka := Kept.alloc (Kept.alloc (Kept.refl w) (Obj.cells #[Value.slice s.Ac s.nc s.cc, Value.slice s.Am s.nm s.cm, Value.slice s.Ae s.ne s.ce, Value.int IntKind.i64 form, Value.bool (cpOf form), Value.slice AR mR cR] 69)) (Obj.map #[] 0)
  have HKA := Lib.hid hka
  have HB7 := Lib.hid (alloc_lift (o := Obj.map #[] 0) (box_block w (Obj.cells #[Value.slice s.Ac s.nc s.cc, Value.slice s.Am s.nm s.cm, Value.slice s.Ae s.ne s.ce, Value.int IntKind.i64 form, Value.bool (cpOf form), Value.slice AR mR cR] 69)))
  have HM3 := Lib.hid (MapIs.made (w.alloc (Obj.cells #[Value.slice s.Ac s.nc s.cc, Value.slice s.Am s.nm s.cm, Value.slice s.Ae s.ne s.ce, Value.int IntKind.i64 form, Value.bool (cpOf form), Value.slice AR mR cR] 69)) (fun k : Int => Value.int .i64 k) 0)
  rw [World.size_alloc] at HM3
  have HPA := Lib.hid (fun w' (hk : Kept w w') => parts_any s (usableN n) form (cpOf form) (.slice AR mR cR) AC nC cC codes w' (hN.kept hk) (hG.kept hk) hnC (hC.kept hk) hv)
  have HFO := Lib.hid (fun w' (hk : Kept w w') => forms_any s (usableN n) form (cpOf form) (.slice AR mR cR) AC nC cC codes w' (hN.kept hk) (hG.kept hk) hnC (hC.kept hk) hv)
  simp only [textOf_usable] at HPA
  simp only [formOf_usable] at HFO
  have HF := Lib.hid hf
  have HC := Lib.hid hC
  have HND := Lib.hid hnd
  have HR1 := Lib.hid hR
  have HRS := Lib.hid hRS
  have HN := Lib.hid hN
  have HG := Lib.hid hG
  have hmm := @run_makeMap Tryz.prog
  unfold Sls.chk at HPA HFO
  have hs3 : w.heap.size + 1 < ((w.alloc (Obj.cells #[Value.slice s.Ac s.nc s.cc, Value.slice s.Am s.nm s.cm, Value.slice s.Ae s.ne s.ce, Value.int IntKind.i64 form, Value.bool (cpOf form), Value.slice AR mR cR] 69)).alloc (Obj.map #[] 0)).heap.size := by simp
  clear hka hN hG hC hnd hR hRS hv hf
  go_enter Tryz.func44, Tryz.ntmps44
  have p0 := cell_of_block (i := 0) HB7.out rfl
  have p1 := cell_of_block (i := 1) HB7.out rfl
  have p2 := cell_of_block (i := 2) HB7.out rfl
  have p3 := cell_of_block (i := 3) HB7.out rfl
  have p4 := cell_of_block (i := 4) HB7.out rfl
  have p5 := cell_of_block (i := 5) HB7.out rfl
  simp only [s4_, s5_, s6_] at p0 p1 p2 p3 p4 p5
  go_wp2_with fail
  clear hmm p0 p1 p2 p3 p4 p5
  obtain ⟨b7, hb7⟩ : ∃ b7 : Nat, b7 = w.heap.size := ⟨_, rfl⟩
  have HBE := Lib.hid hb7
  rw [← hb7] at HB7 HM3 hs3 ⊢
  clear hb7
  generalize ((w.alloc (Obj.cells #[Value.slice s.Ac s.nc s.cc, Value.slice s.Am s.nm s.cm, Value.slice s.Ae s.ne s.ce, Value.int IntKind.i64 form, Value.bool (cpOf form), Value.slice AR mR cR] 69)).alloc (Obj.map #[] 0)) = w3 at *
  refine (HPA.out _ HKA.out).mono ?_
  rintro e w4 ⟨BT, mT, cT, rfl, leT, iT, k4⟩
  have hmT : mT = nC := by rw [iT.1, List.length_map, ← HC.out.1]
  subst hmT
  have HIT := Lib.hid iT
  have HB4 := Lib.hid ((k4.block _ (block_lt HB7.out)).trans HB7.out)
  have p0 := cell_of_block (i := 0) HB4.out rfl
  have p1 := cell_of_block (i := 1) HB4.out rfl
  have p2 := cell_of_block (i := 2) HB4.out rfl
  have p3 := cell_of_block (i := 3) HB4.out rfl
  have p4 := cell_of_block (i := 4) HB4.out rfl
  have p5 := cell_of_block (i := 5) HB4.out rfl
  simp only [s4_, s5_, s6_] at p0 p1 p2 p3 p4 p5
  have K34 := Lib.hid k4
  clear iT k4
  go_wp2_with fail
  clear p0 p1 p2 p3 p4 p5
  refine (HFO.out _ (Kept.trans HKA.out K34.out)).mono ?_
  rintro e w6 ⟨BF, mF, cF, rfl, leF, iF, k6⟩
  have hmF : mF = mT := by rw [iF.1, List.length_map, ← HC.out.1]
  subst hmF
  have HIF := Lib.hid iF
  have K36 := Lib.hid (Kept.trans K34.out k6)
  have HIT := Lib.hid (HIT.out.kept k6)
  have HB6 := Lib.hid ((k6.block _ (block_lt HB4.out)).trans HB4.out)
  have HM60 := Lib.hid (HM3.out.kept K36.out)
  have HIC := Lib.hid (HC.out.kept (Kept.trans HKA.out K36.out))
  have HCL := Lib.hid HC.out.1
  have hs6 := K36.out.size
  clear iF k6 HPA HFO HB4 HM3 HB7 K34
  go_wp2_with fail
  go_loopw [18] (fun i wr => ∃ k : Nat, k ≤ mF ∧ i = .int .i64 k ∧ MapIs wr (b7 + 1) (fun k : Int => Value.int .i64 k) (resM n form (codes.take k)) ∧ KeptBut [b7 + 1] w6 wr) (fun i _ => mF - (intOf i).toNat)
  case atStart => exact ⟨0, Nat.zero_le _, rfl, HM60.out, KeptBut.refl _ _⟩
  case round =>
    obtain ⟨k, hk, rfl, hM, hkb⟩ := hrel
    have HM := Lib.hid hM
    have HKB := Lib.hid hkb
    have KWR := Lib.hid (show Kept w wr from Below.trans (Kept.trans HKA.out K36.out) (KeptBut.below hkb (by have := HBE.out; simp; omega) (Kept.trans HKA.out K36.out).size))
    have hbk : wr.heap[b7]? = some (.cells #[Value.slice s.Ac s.nc s.cc, Value.slice s.Am s.nm s.cm, Value.slice s.Ae s.ne s.ce, Value.int IntKind.i64 form, Value.bool (cpOf form), Value.slice AR mR cR] 69 (0, 0)) := (hkb.block b7 (block_lt HB6.out) (by simp)).trans HB6.out
    clear hM hkb
    by_cases hlt : k < mF
    · obtain ⟨bc, oc, x, hAC, hx, c0⟩ := int_at (Ints.maps HIC.out HM60.out HKB.out) hlt
      obtain ⟨bt, ot, A9, n9, c9, P, hBT, hP, c1, le9, i9⟩ := tab_at (Tab.maps HIT.out HM60.out HKB.out) hlt
      obtain ⟨bf, of, A8, n8, c8, F, hBF, hF, c2, le8, i8⟩ := tab_at (Tab.maps HIF.out HM60.out HKB.out) hlt
      have HPE := Lib.hid (show textOf n (cpOf form) [x] = P by rw [List.getElem?_map, hx] at hP; exact Option.some.inj hP)
      have HFE := Lib.hid (show formOf n form [x] = F by rw [List.getElem?_map, hx] at hF; exact Option.some.inj hF)
      have HSM := Lib.hid (fun v (hv : charQ n form x = v) => resM_step (n := n) (form := form) HND.out hx hv)
      have d5 := cell_of_block (i := 5) hbk rfl
      simp only [s4_, s5_, s6_] at d5
      subst hAC
      subst hBT
      subst hBF
      have I9 := Lib.hid i9
      have I8 := Lib.hid i8
      have D5 := Lib.hid d5
      have C0 := Lib.hid c0
      have C1 := Lib.hid c1
      clear hbk hP hF hx i9 i8
      by_cases h8 : n8 = 1
      · subst h8
        obtain ⟨b8, o8, y, rfl, hy, e0⟩ := int_at I8.out (i := 0) (by omega)
        simp only [Nat.add_zero] at e0
        have HFY := Lib.hid (show F = [y] by
          have h1 := I8.out.1
          match F, h1, hy with
          | [z], _, hy => simp at hy; rw [hy])
        clear hy
        by_cases hxy : y = x
        · subst hxy
          have HOWN := Lib.hid (HFE.out.trans HFY.out)
          have hpn : 0 < n9 := by
            rw [I9.out.1]
            exact Nat.pos_of_ne_zero (fun e => text_ne HF.out HOWN.out (HPE.out.trans (List.length_eq_zero_iff.1 e)))
          obtain ⟨b9, o9, h, rfl, hh, e1⟩ := int_at I9.out (i := 0) hpn
          simp only [Nat.add_zero] at e1
          have E1 := Lib.hid e1
          have HXX := Lib.hid (show textOf n (cpOf form) [y] = h :: P.tail by
            rw [HPE.out]
            cases P with
            | nil => simp at hh
            | cons a t => simp at hh; rw [hh]; rfl)
          have HHA := Lib.hid (setHas AR mR cR R h wr.drew (by omega) (HR1.out.kept (Kept.drew KWR.out)))
          rw [HRS.out h] at HHA
          have HCH := Lib.hid (fun bv (hb : (comps form && secondB (usableN n) h) = bv) => charQ_own (bv := bv) HF.out HOWN.out HXX.out hb)
          have hxx : (y != y) = false := by simp
          clear hh
          cases hbv : (comps form && secondB (usableN n) h)
          · rw [hbv] at HHA
            have HQ := Lib.hid (HCH.out false hbv)
            clear hbv
            go_wp2_with fail
            refine wp_region_held_drew (S := (fun w' => w'.cell? ⟨b7, 5, none⟩ = some (.slice AR mR cR) ∧ w'.cell? ⟨bt, ot + k, none⟩ = some (.slice (some ⟨b9, o9, none⟩) n9 c9) ∧ w'.cell? ⟨b9, o9, none⟩ = some (.int .i64 h))) (by kernel_rfl) ⟨Kept.cell (Kept.drew (Kept.refl wr)) D5.out, Kept.cell (Kept.drew (Kept.refl wr)) C1.out, Kept.cell (Kept.drew (Kept.refl wr)) E1.out⟩ (fun hHeld => ?_)
            refine tk_ 0 ?_ rfl ?_; refine tk_ 1 ?_ rfl ?_; refine tk_ 2 ?_ rfl ?_; refine tk_ 3 ?_ rfl ?_; refine tk_ 4 ?_ rfl ?_; refine tk_ 5 ?_ rfl ?_; refine tk_ 6 ?_ rfl ?_; refine tk_ 7 ?_ rfl ?_
            refine rd_ 8 rfl (fun K hK => ?_)
            go_simp
            (refine HHA.out.mono ?_; rintro e w7 ⟨rfl, k7⟩; have K7 := Lib.hid (Kept.trans (Kept.drew (Kept.refl wr)) k7); clear k7)
            go_wp2_with fail
            refine hK.out _ _ ⟨Kept.cell K7.out D5.out, Kept.cell K7.out C1.out, Kept.cell K7.out E1.out⟩ (fun hHeld => ?_)
            clear hK K
            (try simp only [Act.put, s1_, s2_, s3_, s4_, s5_, s6_])
            refine tk_ 9 ?_ rfl ?_
            refine wpAnyH_done (by kernel_rfl) ?_ _
            obtain ⟨wm, hup, hmu, hgm⟩ := run_update (T := 78) (E := 3) (keyOk_int (P := Tryz.prog) (K := 3) (by kernel_rfl)) (by kernel_rfl) (HM.out.kept K7.out) y (.int .i64 1)
            have HMU := Lib.hid hmu
            have HGM := Lib.hid (KeptBut.of_grown (S := [b7 + 1]) hgm (List.mem_singleton.2 rfl))
            clear hmu hgm
            go_wp2_with fail
            go_roundw
            case rel => exact ⟨k + 1, by omega, by go_num, by rw [← HSM.out 1 HQ.out]; exact HMU.out, HKB.out.trans ((Kept.but K7.out _).trans HGM.out)⟩
            case measure => simp [intOf]; omega
          · rw [hbv] at HHA
            have HQ := Lib.hid (HCH.out true hbv)
            clear hbv
            go_wp2_with fail
            refine wp_region_held_drew (S := (fun w' => w'.cell? ⟨b7, 5, none⟩ = some (.slice AR mR cR) ∧ w'.cell? ⟨bt, ot + k, none⟩ = some (.slice (some ⟨b9, o9, none⟩) n9 c9) ∧ w'.cell? ⟨b9, o9, none⟩ = some (.int .i64 h))) (by kernel_rfl) ⟨Kept.cell (Kept.drew (Kept.refl wr)) D5.out, Kept.cell (Kept.drew (Kept.refl wr)) C1.out, Kept.cell (Kept.drew (Kept.refl wr)) E1.out⟩ (fun hHeld => ?_)
            refine tk_ 0 ?_ rfl ?_; refine tk_ 1 ?_ rfl ?_; refine tk_ 2 ?_ rfl ?_; refine tk_ 3 ?_ rfl ?_; refine tk_ 4 ?_ rfl ?_; refine tk_ 5 ?_ rfl ?_; refine tk_ 6 ?_ rfl ?_; refine tk_ 7 ?_ rfl ?_
            refine rd_ 8 rfl (fun K hK => ?_)
            go_simp
            (refine HHA.out.mono ?_; rintro e w7 ⟨rfl, k7⟩; have K7 := Lib.hid (Kept.trans (Kept.drew (Kept.refl wr)) k7); clear k7)
            go_wp2_with fail
            refine hK.out _ _ ⟨Kept.cell K7.out D5.out, Kept.cell K7.out C1.out, Kept.cell K7.out E1.out⟩ (fun hHeld => ?_)
            clear hK K
            (try simp only [Act.put, s1_, s2_, s3_, s4_, s5_, s6_])
            refine tk_ 9 ?_ rfl ?_
            refine wpAnyH_done (by kernel_rfl) ?_ _
            obtain ⟨wm, hup, hmu, hgm⟩ := run_update (T := 78) (E := 3) (keyOk_int (P := Tryz.prog) (K := 3) (by kernel_rfl)) (by kernel_rfl) (HM.out.kept K7.out) y (.int .i64 3)
            have HMU := Lib.hid hmu
            have HGM := Lib.hid (KeptBut.of_grown (S := [b7 + 1]) hgm (List.mem_singleton.2 rfl))
            clear hmu hgm
            go_wp2_with fail
            go_roundw
            case rel => exact ⟨k + 1, by omega, by go_num, by rw [← HSM.out 3 HQ.out]; exact HMU.out, HKB.out.trans ((Kept.but K7.out _).trans HGM.out)⟩
            case measure => simp [intOf]; omega
        · have hne : (y != x) = true := by simpa using hxy
          have HQ := Lib.hid (charQ_non HF.out HFE.out (by rw [HFY.out]; intro e; injection e with e; exact hxy e))
          clear hxy
          obtain ⟨wm, hup, hmu, hgm⟩ := run_update (T := 78) (E := 3) (keyOk_int (P := Tryz.prog) (K := 3) (by kernel_rfl)) (by kernel_rfl) HM.out x (.int .i64 2)
          have HMU := Lib.hid hmu
          have HGM := Lib.hid (KeptBut.of_grown (S := [b7 + 1]) hgm (List.mem_singleton.2 rfl))
          clear hmu hgm
          go_wp2_with fail
          go_roundw
          case rel => exact ⟨k + 1, by omega, by go_num, by rw [← HSM.out 2 HQ.out]; exact HMU.out, HKB.out.trans HGM.out⟩
          case measure => simp [intOf]; omega
      · have hn8 : ((n8 : Int) != 1) = true := by simp; omega
        have HQ := Lib.hid (charQ_non HF.out HFE.out (by intro e; have h1 := I8.out.1; rw [e] at h1; exact h8 h1))
        clear h8
        obtain ⟨wm, hup, hmu, hgm⟩ := run_update (T := 78) (E := 3) (keyOk_int (P := Tryz.prog) (K := 3) (by kernel_rfl)) (by kernel_rfl) HM.out x (.int .i64 2)
        have HMU := Lib.hid hmu
        have HGM := Lib.hid (KeptBut.of_grown (S := [b7 + 1]) hgm (List.mem_singleton.2 rfl))
        clear hmu hgm
        go_wp2_with fail
        go_roundw
        case rel => exact ⟨k + 1, by omega, by go_num, by rw [← HSM.out 2 HQ.out]; exact HMU.out, HKB.out.trans HGM.out⟩
        case measure => simp [intOf]; omega
    · have hkm : k = mF := by omega
      have HM6 := Lib.hid (show MapIs wr (b7 + 1) (fun k : Int => Value.int .i64 k) (resM n form codes) by
        have := HM.out
        rwa [List.take_of_length_le (by have := HCL.out; omega)] at this)
      subst hkm
      clear hbk
      go_wp2_with fail
      go_ret
      exact ⟨b7 + 1, rfl, HM6.out, KWR.out⟩
end Go.Proofs.YtomgchfjachedaaGreatDoor
namespace Go.Proofs.YtomgchfjachedaaGreatDoor
open Go Go.RowKit
theorem allQ_snoc (f : Int → Int) (l : List Int) (c : Int) : allQ f (l ++ [c]) = combQ (allQ f l) (f c) := by
  have e2 : (∃ x ∈ l ++ [c], f x = 2) ↔ ((∃ x ∈ l, f x = 2) ∨ f c = 2) := by simp [List.mem_append, or_and_right, exists_or]
  have e3 : (∃ x ∈ l ++ [c], f x = 3) ↔ ((∃ x ∈ l, f x = 3) ∨ f c = 3) := by simp [List.mem_append, or_and_right, exists_or]
  unfold allQ
  simp only [e2, e3]
  unfold combQ
  by_cases h2 : ∃ x ∈ l, f x = 2
  · simp [h2]
  · by_cases h3 : ∃ x ∈ l, f x = 3
    · simp [h2, h3]
    · simp [h2, h3]
theorem resM_mem {n : Nrm} {form : Int} {l : List Int} {p : Int × Value} (h : p ∈ resM n form l) : p.1 ∈ l ∧ p.2 = .int .i64 (charQ n form p.1) := by
  unfold resM at h
  obtain ⟨c, hc, rfl⟩ := List.mem_map.1 h
  exact ⟨hc, rfl⟩
theorem resM_of {n : Nrm} {form : Int} {l : List Int} {c : Int} (h : c ∈ l) : (c, Value.int .i64 (charQ n form c)) ∈ resM n form l := List.mem_map.2 ⟨c, h, rfl⟩
set_option maxRecDepth 100000 in
set_option maxHeartbeats 8000000 in
theorem all_any (s : Sls) (n : Nrm) (form : Int) (AR : Option Addr) (mR cR : Nat) (R : List Rng) (A : Option Addr) (nt ct : Nat) (text : List Int) (w : World) (hN : NormAt w s (usableN n)) (hG : Glob w) (hf : ¬ (form < 1 ∨ 4 < form)) (hmR : mR ≤ 2000) (hR : Rngs w AR mR R)
    (hRS : ∀ x, hasR R x = (comps form && secondB (usableN n) x)) (hnt : nt ≤ 100000) (hT : Ints w A nt text) :
    Calls Tryz.prog 52 #[.agg #[Value.slice s.Ac s.nc s.cc, Value.slice s.Am s.nm s.cm, Value.slice s.Ae s.ne s.ce, Value.int IntKind.i64 form, Value.bool (cpOf form), Value.slice AR mR cR], .slice A nt ct] w (RetI w (allQ (charQ n form) text)) := by
  have hka := Kept.alloc (Kept.refl w) (Obj.cells #[Value.slice s.Ac s.nc s.cc, Value.slice s.Am s.nm s.cm, Value.slice s.Ae s.ne s.ce, Value.int IntKind.i64 form, Value.bool (cpOf form), Value.slice AR mR cR] 69)
  have HKA := Lib.hid hka
  have HB := Lib.hid (box_block w (Obj.cells #[Value.slice s.Ac s.nc s.cc, Value.slice s.Am s.nm s.cm, Value.slice s.Ae s.ne s.ce, Value.int IntKind.i64 form, Value.bool (cpOf form), Value.slice AR mR cR] 69))
  have HRES := Lib.hid (allQ_dist n form text)
  have HDS := Lib.hid (distL_spec text)
  have HDL := Lib.hid (distL_length text)
  have HTN := Lib.hid hT.1
  have HQ := Lib.hid (fun AC nC cC codes w' (hk : Kept w w') (h1 : nC ≤ 100000) (h2 : Ints w' AC nC codes) (h3 : codes.Nodup) (h4 : ∀ c ∈ codes, 0 ≤ c) => results_any s n form AR mR cR R AC nC cC codes w' (hN.kept hk) (hG.kept hk) hf hmR (hR.kept hk) hRS h1 h2 h3 h4)
  have HCD := Lib.hid (fun w' (hk : Kept w w') => codes_any A nt ct w' text (by omega) (hT.kept hk))
  clear hN hG hf hR hRS hT
  go_enter Tryz.func52, Tryz.ntmps52
  go_wp2_with fail
  obtain ⟨b, hb⟩ : ∃ b : Nat, b = w.heap.size := ⟨_, rfl⟩
  rw [← hb] at HB ⊢
  clear hb hka
  generalize hw0 : w.alloc (Obj.cells #[Value.slice s.Ac s.nc s.cc, Value.slice s.Am s.nm s.cm, Value.slice s.Ae s.ne s.ce, Value.int IntKind.i64 form, Value.bool (cpOf form), Value.slice AR mR cR] 69) = w0 at *
  clear hw0
  obtain ⟨w1, HD, hk1, hco⟩ := HCD.out w0.drew (Kept.drew HKA.out)
  have HD := Lib.hid HD
  have HCO : Hid (Calls Tryz.prog 40 #[.func (.func 128) #[] #[.pointer (some ⟨w0.heap.size, 0, none⟩)]] w1 (RetInts w1 (distL text))) := Lib.hid hco
  have HD' : Hid (Calls Tryz.prog 84 #[.slice A nt ct] w0.drew (fun e w' => e = .returned (.func (.func 128) #[] #[.pointer (some ⟨w0.heap.size, 0, none⟩)]) ∧ w' = w1)) := HD
  have K1 := Lib.hid (Kept.trans (Kept.drew (Kept.refl w0)) hk1)
  clear hk1 hco HCD HD
  have p0 := cell_of_block (i := 0) HB.out rfl
  have p1 := cell_of_block (i := 1) HB.out rfl
  have p2 := cell_of_block (i := 2) HB.out rfl
  have p3 := cell_of_block (i := 3) HB.out rfl
  have p4 := cell_of_block (i := 4) HB.out rfl
  have p5 := cell_of_block (i := 5) HB.out rfl
  simp only [s4_, s5_, s6_] at p0 p1 p2 p3 p4 p5
  go_wp2_with fail
  refine wp_region_held_drew (S := (fun w' => w'.cell? ⟨b, 0, none⟩ = some (Value.slice s.Ac s.nc s.cc) ∧ w'.cell? ⟨b, 1, none⟩ = some (Value.slice s.Am s.nm s.cm) ∧ w'.cell? ⟨b, 2, none⟩ = some (Value.slice s.Ae s.ne s.ce) ∧ w'.cell? ⟨b, 3, none⟩ = some (Value.int IntKind.i64 form) ∧ w'.cell? ⟨b, 4, none⟩ = some (Value.bool (cpOf form)) ∧ w'.cell? ⟨b, 5, none⟩ = some (Value.slice AR mR cR))) (by kernel_rfl) ⟨p0, p1, p2, p3, p4, p5⟩ (fun hHeld => ?_)
  refine tk_ 0 ?_ rfl ?_; refine tk_ 1 ?_ rfl ?_
  refine rd_ 2 rfl (fun K hK => ?_)
  go_simp
  (refine HD'.out.mono ?_; rintro e w1' ⟨rfl, rfl⟩)
  go_wp2_with fail
  refine hK.out _ _ ⟨Kept.cell K1.out p0, Kept.cell K1.out p1, Kept.cell K1.out p2, Kept.cell K1.out p3, Kept.cell K1.out p4, Kept.cell K1.out p5⟩ (fun hHeld => ?_)
  clear hK K
  (try simp only [Act.put, s1_, s2_, s3_, s4_, s5_, s6_])
  refine rd_ 3 rfl (fun K hK => ?_)
  go_simp
  (refine HCO.out.mono ?_; rintro e w2 ⟨AC, nC, cC, rfl, leC, iC, k2⟩; have K2 := Lib.hid (Kept.trans K1.out k2); have IC := Lib.hid iC; have hnC : nC ≤ 100000 := (by rw [iC.1]; have := HDL.out; have := HTN.out; omega); clear iC k2)
  go_wp2_with fail
  refine hK.out _ _ ⟨Kept.cell K2.out p0, Kept.cell K2.out p1, Kept.cell K2.out p2, Kept.cell K2.out p3, Kept.cell K2.out p4, Kept.cell K2.out p5⟩ (fun hHeld => ?_)
  clear hK K
  (try simp only [Act.put, s1_, s2_, s3_, s4_, s5_, s6_])
  refine rd_ 4 rfl (fun K hK => ?_)
  go_simp
  (refine (HQ.out AC nC cC (distL text) w2 (Kept.trans HKA.out K2.out) hnC IC.out HDS.out.2 (fun c hc => ((valid_iff c).1 ((HDS.out.1 c).1 hc).2).1)).mono ?_; rintro e w3 ⟨bm, rfl, hM, k3⟩; have K3 := Lib.hid (Kept.trans K2.out k3); have HM := Lib.hid hM; clear hM k3)
  go_wp2_with fail
  refine hK.out _ _ ⟨Kept.cell K3.out p0, Kept.cell K3.out p1, Kept.cell K3.out p2, Kept.cell K3.out p3, Kept.cell K3.out p4, Kept.cell K3.out p5⟩ (fun hHeld => ?_)
  clear hK K
  (try simp only [Act.put, s1_, s2_, s3_, s4_, s5_, s6_])
  refine rd_ 5 rfl (fun K hK => ?_)
  obtain ⟨ob, m0, hrg, hR0⟩ := MapRg.start (P := Tryz.prog) (T := 78) (K := 3) (E := 3) HM.out (by kernel_rfl)
  have HR0 := Lib.hid hR0
  clear hR0
  go_simp
  refine hK.out _ _ ⟨Kept.cell (Kept.alloc K3.out ob) p0, Kept.cell (Kept.alloc K3.out ob) p1, Kept.cell (Kept.alloc K3.out ob) p2, Kept.cell (Kept.alloc K3.out ob) p3, Kept.cell (Kept.alloc K3.out ob) p4, Kept.cell (Kept.alloc K3.out ob) p5⟩ (fun hHeld => ?_)
  clear hK K
  (try simp only [Act.put, s1_, s2_, s3_, s4_, s5_, s6_])
  refine wpAnyH_done (by kernel_rfl) ?_ _
  clear hrg p0 p1 p2 p3 p4 p5
  have K4 := Lib.hid (Kept.trans HKA.out (Kept.alloc K3.out ob))
  obtain ⟨r, hr⟩ : ∃ r : Nat, r = w3.heap.size := ⟨_, rfl⟩
  rw [← hr] at HR0 ⊢
  have HLT := Lib.hid (show w.heap.size ≤ r from by have := (Kept.trans HKA.out K3.out).size; omega)
  generalize hw4 : w3.alloc ob = w4 at *
  clear hw4 hr
  go_wp2_with fail
  go_loopw [5] (fun q wr => ∃ (E : List (Int × Value)) (m : Nat) (out : Int), MapRg wr bm r (fun k : Int => Value.int .i64 k) (resM n form (distL text)) E.reverse m ∧ q = .int .i64 out ∧ out = allQ (charQ n form) (E.map (·.1)) ∧ Kept w wr) (fun _ wr => mapLeft wr r)
  case atStart => exact ⟨[], m0, 1, HR0.out, rfl, by simp [allQ], K4.out⟩
  case round =>
    clear HR0 K4
    obtain ⟨E, m, out, hR, rfl, hout, hK⟩ := hrel
    have HR := Lib.hid hR
    have HOUT := Lib.hid hout
    have HK := Lib.hid hK
    have HLM := Lib.hid hR.left
    clear hout hK
    rcases hR.next (P := Tryz.prog) 0 with ⟨rfl, hall, hnx⟩ | ⟨p, hp, w5, m', hlt, hR5, hg5, hnx, hent⟩
    · have HFIN := Lib.hid (show out = allQ (charQ n form) text by
        rw [HOUT.out, ← HRES.out]
        refine allQ_congr (fun c _ => ⟨fun hc => ?_, fun hc => ?_⟩)
        · obtain ⟨p, hp, rfl⟩ := List.mem_map.1 hc
          exact (resM_mem (HR.out.mem p (by simpa using hp))).1
        · have := hall _ (resM_of (n := n) (form := form) hc)
          exact List.mem_map.2 ⟨_, by simpa using this, rfl⟩)
      clear hall hR
      go_wp2_with fail
      go_ret
      exact ⟨ret_int HFIN.out, HK.out⟩
    · have HR5 := Lib.hid hR5
      obtain ⟨c, pv⟩ := p
      have hpv : pv = .int .i64 (charQ n form c) := (resM_mem hp).2
      subst hpv
      have hk5 : Kept w w5 := Below.grown HK.out hg5 HK.out.size (fun q e => by injection e with e; have := HLT.out; omega)
      have hka := Kept.alloc (Kept.refl w5) (Obj.cells #[Value.int IntKind.i64 out, Value.int IntKind.i64 (charQ n form c)] 3)
      have HW := Lib.hid (worst_any (some ⟨w5.heap.size, 0, none⟩) 2 2 [out, charQ n form c] (w5.alloc (Obj.cells #[Value.int IntKind.i64 out, Value.int IntKind.i64 (charQ n form c)] 3)) (by omega) (Ints.alloc_ (xs := [out, charQ n form c]) rfl rfl))
      rw [worstL_two] at HW
      have HSN := Lib.hid (show combQ out (charQ n form c) = allQ (charQ n form) ((E ++ [(c, Value.int .i64 (charQ n form c))]).map (·.1)) by
        rw [List.map_append, List.map_cons, List.map_nil, allQ_snoc, ← HOUT.out])
      have HK5 := Lib.hid (Kept.trans hk5 hka)
      have HR6 := Lib.hid (HR5.out.kept hka)
      clear hR hR5 hk5 hka hg5
      generalize charQ n form c = qc at *
      go_wp2_with fail
      clear hnx hent
      refine HW.out.mono ?_
      rintro e w6 ⟨rfl, k6⟩
      have HR7 := Lib.hid (show MapRg w6 bm r (fun k : Int => Value.int .i64 k) (resM n form (distL text)) (E ++ [(c, Value.int .i64 qc)]).reverse m' by
        have := HR6.out.kept k6
        rw [List.reverse_append]
        exact this)
      have HK7 := Lib.hid (Kept.trans HK5.out k6)
      go_wp2_with fail
      go_roundw
      case rel => exact ⟨E ++ [(c, Value.int .i64 qc)], m', combQ out qc, HR7.out, rfl, HSN.out, HK7.out⟩
      case measure => rw [HR7.out.left, HLM.out]; exact hlt
end Go.Proofs.YtomgchfjachedaaGreatDoor
namespace Go.Proofs.YtomgchfjachedaaGreatDoor
open Go Go.RowKit
theorem allQ_single (n : Nrm) (form c : Int) : allQ (charQ n form) [c] = charQ n form c := by
  unfold allQ
  rcases charQ_cases n form c with h | h | h <;> simp [h]
set_option maxRecDepth 100000 in
set_option maxHeartbeats 4000000 in
theorem qchar_any (s : Sls) (n : Nrm) (form c : Int) (w : World) (hN : NormAt w s n) (hG : Glob w) :
    Calls Tryz.prog 17 #[s.val, .int .i64 form, .int .i64 c] w (RetI w (charQ n form c)) := by
  have hk1 := Kept.alloc (Kept.refl w) (Obj.cells #[Value.slice s.Ac s.nc s.cc, Value.slice s.Am s.nm s.cm, Value.slice s.Ae s.ne s.ce] 28)
  have HP := Lib.hid (prepare_any s n form _ (hN.kept hk1) (hG.kept hk1))
  have HK1 := Lib.hid hk1
  have HG := Lib.hid hG
  have HNU := Lib.hid (usableS_at hN)
  unfold RetChk at HP
  generalize usableS s n = s1 at *
  clear hN hG hk1
  by_cases hf : form < 1 ∨ 4 < form
  · simp only [if_pos hf] at HP
    have HQ := Lib.hid (show charQ n form c = 1 from if_pos hf)
    clear hf
    unfold Sls.val at *
    go_enter Tryz.func17, Tryz.ntmps17
    go_wp2_with fail
    refine HP.out.mono ?_
    rintro e w1 ⟨rfl, k1⟩
    have K2 := Lib.hid (Kept.trans HK1.out (Kept.alloc k1 (Obj.cells #[Value.slice none 0 0, Value.slice none 0 0, Value.slice none 0 0, Value.int IntKind.i64 0, Value.bool false, Value.slice none 0 0] 69)))
    go_wp2_with fail
    go_ret
    exact ⟨ret_int HQ.out.symm, K2.out⟩
  · simp only [if_neg hf] at HP
    have HF := Lib.hid hf
    clear hf
    unfold Sls.val at *
    go_enter Tryz.func17, Tryz.ntmps17
    go_wp2_with fail
    refine HP.out.mono ?_
    rintro e w1 ⟨R, AR, mR, cR, rfl, leR, hmR, hR, hRS, _, k1⟩
    unfold Sls.chk
    have hka := Kept.alloc (Kept.alloc (Kept.refl w1) (Obj.cells #[Value.slice s1.Ac s1.nc s1.cc, Value.slice s1.Am s1.nm s1.cm, Value.slice s1.Ae s1.ne s1.ce, Value.int IntKind.i64 form, Value.bool (cpOf form), Value.slice AR mR cR] 69)) (Obj.cells #[Value.int IntKind.i64 c] 3)
    have K2 := Lib.hid (Kept.trans HK1.out (Kept.trans k1 hka))
    have HAL := Lib.hid (all_any s1 n form AR mR cR R (some ⟨w1.heap.size + 1, 0, none⟩) 1 1 [c] ((w1.alloc (Obj.cells #[Value.slice s1.Ac s1.nc s1.cc, Value.slice s1.Am s1.nm s1.cm, Value.slice s1.Ae s1.ne s1.ce, Value.int IntKind.i64 form, Value.bool (cpOf form), Value.slice AR mR cR] 69)).alloc (Obj.cells #[Value.int IntKind.i64 c] 3)) (HNU.out.kept K2.out) (HG.out.kept K2.out) HF.out hmR (hR.kept hka) hRS (by omega) (Ints.alloc_ (xs := [c]) (by simp) rfl))
    rw [allQ_single] at HAL
    clear hR hRS k1 hka
    go_wp2_with fail
    refine HAL.out.mono ?_
    rintro e w3 ⟨rfl, k3⟩
    go_wp2_with fail
    go_ret
    exact ⟨rfl, Kept.trans K2.out k3⟩
end Go.Proofs.YtomgchfjachedaaGreatDoor
namespace Go.Proofs.YtomgchfjachedaaGreatDoor
open Go Go.RowKit
theorem bndI_one (n : Nrm) (form c : Int) : bndI n form [c] = if boundB n form c = true then [0] else [] := by
  unfold bndI
  simp only [bnds]
  split <;> rfl
set_option maxRecDepth 100000 in
set_option maxHeartbeats 2000000 in
theorem bound_any (s : Sls) (n : Nrm) (form c : Int) (w : World) (hN : NormAt w s n) (hG : Glob w) :
    Calls Tryz.prog 38 #[s.val, .int .i64 form, .int .i64 c] w (RetB w (boundB n form c)) := by
  have hk1 := Kept.alloc (Kept.refl w) (Obj.cells #[Value.slice s.Ac s.nc s.cc, Value.slice s.Am s.nm s.cm, Value.slice s.Ae s.ne s.ce] 28)
  have hk2 := Kept.alloc hk1 (Obj.cells #[Value.int IntKind.i64 c] 3)
  have HB := Lib.hid (bounds_any s n form (some ⟨w.heap.size + 1, 0, none⟩) 1 1 [c] _ (hN.kept hk2) (hG.kept hk2) (by omega) (Ints.alloc_ (xs := [c]) (by simp) rfl))
  have HK2 := Lib.hid hk2
  rw [bndI_one] at HB
  clear hN hG hk1 hk2
  cases hb : boundB n form c
  all_goals
    rw [hb] at HB
    simp only [Bool.false_eq_true, if_false, if_true] at HB
    clear hb
    unfold Sls.val at *
    go_enter Tryz.func38, Tryz.ntmps38
    go_wp2_with fail
    refine HB.out.mono ?_
    rintro e w1 ⟨A1, n1, c1, rfl, le1, i1, k1⟩
    have hn1 := i1.1
    simp only [List.length_cons, List.length_nil] at hn1
    subst hn1
    have K1 := Lib.hid (Kept.trans HK2.out k1)
    clear i1 k1
    go_wp2_with fail
    go_ret
    exact ⟨rfl, K1.out⟩
end Go.Proofs.YtomgchfjachedaaGreatDoor
