/- The reference's Sort of layer 20. Laws of joining: neutral texts, association, what an edit leaves. No walk. The examples of the chapter on joining. No walk. -/
import Derived.Test.YtjfhcmkcmdnhoaaGreatDoorKRfb
import Derived.Test.YtjfhcmkcmdnhoaaGreatDoorKRefA
import Derived.Test.YtjfhcmkcmdnhoaaGreatDoorKRfj
import Derived.Test.YtjfhcmkcmdnhoaaGreatDoorKSet
import Derived.Test.YtjfhcmkcmdnhoaaGreatDoorKPq
import Derived.Test.YtjfhcmkcmdnhoaaGreatDoorKQp
import Derived.Test.YtjfhcmkcmdnhoaaGreatDoorKAlive21
namespace Go.Proofs.YtjfhcmkcmdnhoaaGreatDoor
open Go Go.RowKit

set_option maxRecDepth 100000 in
set_option maxHeartbeats 2000000 in
theorem r20Sort (A : Option Addr) (n c : Nat) (l : List Span) (B : Option Addr) (m d : Nat) (text : List Int) (w : World) (hn : n ≤ 1000) (hm : m ≤ 100000) (hl : Spans w A n l) (hI : Ints w B m text) :
    Calls Tryz.prog 89 #[.slice A n c, .slice B m d] w (RetInts w (refSort (classOf (usableSpans l)) text)) := by
  have HC := Lib.hid (fun (x : Int) w' (hk : Kept w w') => r20Class A n c l x w' hn (hl.kept hk))
  have HI := Lib.hid hI
  have HML := Lib.hid hI.1
  clear hl hI
  generalize classOf (usableSpans l) = cls at *
  obtain ⟨base, hbase⟩ : ∃ base : Nat, base = w.heap.size := ⟨_, rfl⟩
  have HBASE := Lib.hid hbase
  clear hbase
  go_enter Tryz.func89, Tryz.ntmps89
  go_wp2_with fail
  go_loopw [5, 6] (fun p i wr => ∃ k : Nat, k ≤ m ∧ i = .int .i64 k ∧ OwnI wr base p (refSort cls (text.take k)) ∧ Kept w wr) (fun _ i _ => m - (intOf i).toNat)
  case atStart => exact ⟨0, Nat.zero_le _, rfl, (World.ownsRow_nil _ _ _ _ : OwnI w base (.slice none 0 0) []), Kept.refl _⟩
  case round =>
    obtain ⟨k, hk, rfl, hown, hkw⟩ := hrel
    have HOW := Lib.hid hown
    have HKW := Lib.hid hkw
    have hsz := hkw.size
    clear hown hkw
    by_cases hlt : k < m
    · obtain ⟨b, off, x, hA, hx, cw⟩ := int_at HI.out hlt
      rw [hA]
      have HSN := Lib.hid (show refSort cls (text.take (k + 1)) = insR cls x (refSort cls (text.take k)) by rw [take_succ_some hx, refSort_snoc])
      have hLl : (refSort cls (text.take k)).length ≤ 100000 := by rw [refSort_length, List.length_take]; omega
      generalize refSort cls (text.take k) = L at *
      have HXC := Lib.hid cw
      have cx := Kept.cell HKW.out cw
      clear hx
      have hka := Kept.alloc (Kept.refl wr) (Obj.cells #[Value.int IntKind.i64 x] 3)
      have HKA := Lib.hid hka
      clear hka
      go_wp2_with (at_builtin; refine app_ints rfl _ _ rfl base _ _ rfl (by exact own_kept HOW.out HKA.out) _ _ _ [x] rfl (by exact Ints.alloc_ (xs := [x]) rfl rfl) (by simp; omega) (by simp; have := HBASE.out; omega) ?_; intro v2 w2 hown2 hgrow2 hat2; have hs2 := hgrow2.size; have K2 : Hid (Kept w w2) := Lib.hid ((Kept.trans HKW.out HKA.out).grown hgrow2 (by simp; have := HBASE.out; omega) (fun q e => by have := (World.ownsRow.lt HOW.out q e).1; have := HBASE.out; omega)); have cx2 := Kept.cell K2.out HXC.out)
      have HO2 := Lib.hid hown2
      have HCX := Lib.hid (HC.out x w2 K2.out)
      have hv2 := hown2
      simp only [OwnI, List.length_append, List.length_singleton] at hv2
      obtain ⟨g, co, rfl⟩ := ownsRow_succ_ hv2
      clear hv2 hown2 hgrow2 hat2 cx cx2
      refine HCX.out.mono ?_
      rintro e w3 ⟨rfl, k3⟩
      have K3 := Lib.hid (Kept.trans K2.out k3)
      have HO3 := Lib.hid (own_kept HO2.out k3)
      have hsb : IntKind.i64.wrap ((L.length : Int) + 1 - 1) = (L.length : Int) := by rw [show (L.length : Int) + 1 - 1 = L.length by omega]; exact IntWalk.i64_in _ (by omega)
      go_wp2_with fail
      clear hsb hs2
      go_loopw [8] (fun kk wq => ∃ (j : Nat) (P Q : List Int), kk = .int .i64 j ∧ P.length = j ∧ (P ++ x :: Q).length = L.length + 1 ∧ OwnI wq base (.slice (some ⟨g, 0, none⟩) (L.length + 1) co) (P ++ x :: Q) ∧ insR cls x P ++ Q = insR cls x L ∧ Kept w wq) (fun kk _ => (intOf kk).toNat)
      case atStart => exact ⟨L.length, L, [], rfl, rfl, by simp, HO3.out, by simp, K3.out⟩
      case round =>
        obtain ⟨j, P, Q, rfl, hP, hlen, hownq, hins, hkq⟩ := hrel
        have HOQ := Lib.hid hownq
        have HINS := Lib.hid hins
        have HKQ := Lib.hid hkq
        have HLEN := Lib.hid hlen
        have hgb : base ≤ g := (World.ownsRow.lt hownq g rfl).1
        have hszq := hkq.size
        -- out of the inner loop
        have HOUT := Lib.hid (show insR cls x P = P ++ [x] → ∀ w' : World, Kept wr w' → ∃ k' : Nat, k' ≤ m ∧ Value.int .i64 ((k : Int) + 1) = .int .i64 k' ∧ OwnI w' base (.slice (some ⟨g, 0, none⟩) (L.length + 1) co) (refSort cls (text.take k')) ∧ Kept w w' from fun e w' hk' => by
          refine ⟨k + 1, by omega, by go_num, ?_, Kept.trans HKQ.out hk'⟩
          rw [HSN.out, ← HINS.out, e]
          have := own_kept HOQ.out hk'
          simpa [OwnI] using this)
        clear hownq hins hkq hlen
        rcases Nat.eq_zero_or_pos j with hj | hj
        · subst hj
          obtain rfl : P = [] := List.length_eq_zero_iff.1 hP
          go_wp2_with fail
          go_roundw
          case rel => exact HOUT.out rfl _ (Kept.refl _)
          case measure => simp [intOf]; omega
        · obtain ⟨P', y, rfl⟩ := split_last (xs := P) (by omega)
          obtain ⟨jp, rfl⟩ : ∃ jp, j = jp + 1 := ⟨j - 1, by omega⟩
          have hjp : P'.length = jp := by simp at hP; omega
          have hjl : jp + 1 < L.length + 1 := by have := HLEN.out; simp at this; omega
          have hj0 : (0 : Int) < (jp : Int) + 1 := by omega
          by_cases hx0 : 0 < cls x
          · have eL : P' ++ [y] ++ x :: Q = P' ++ y :: x :: Q := by simp
            have hown' := HOQ.out
            have hll := HLEN.out
            rw [eL] at hown' hll
            simp only [OwnI, hll] at hown'
            have cy : wr.cell? ⟨g, jp, none⟩ = some (.int .i64 y) := by
              rw [hown'.cellAt _ (by omega)]
              simp [← hjp]
            have HCY := Lib.hid (HC.out y wr HKQ.out)
            have hw1 : IntKind.i64.wrap ((jp : Int) + 1 - 1) = (jp : Int) := by rw [show (jp : Int) + 1 - 1 = jp by omega]; exact IntWalk.i64_in _ (by omega)
            have HO' := Lib.hid hown'
            have HCW := Lib.hid cy
            clear hown' eL
            by_cases hxy : cls x < cls y
            · go_wp2_with fail
              refine HCY.out.mono ?_
              rintro e w4 ⟨rfl, k4⟩
              have hown4 := own_kept HO'.out k4
              have cy4 := Kept.cell k4 HCW.out
              have f1 := hown4.frozenAt (jp + 1)
              have f0 := hown4.frozenAt jp
              have hst1 := hown4.stored (jp + 1) (.int .i64 y)
              have K5 := Kept.setCell (Kept.trans HKQ.out k4) (p := ⟨g, jp + 1, none⟩) (by have := HBASE.out; simp; omega) (.int .i64 y)
              have cx5 := Kept.cell K5 HXC.out
              have f2 := hst1.1.frozenAt jp
              have cz4 : w4.cell? ⟨g, jp + 1, none⟩ = some (.int .i64 x) := by
                rw [hown4.cellAt _ (by omega)]
                simp [← hjp]
              have cy5 : (w4.setCell ⟨g, jp + 1, none⟩ (.int .i64 y)).cell? ⟨g, jp, none⟩ = some (.int .i64 y) := by
                rw [hst1.1.cellAt _ (by omega)]
                simp [← hjp]
              have hst2 := hst1.1.stored jp (.int .i64 x)
              have HK6 := Lib.hid (Kept.setCell K5 (p := ⟨g, jp, none⟩) (by have := HBASE.out; simp; omega) (.int .i64 x))
              have e6 : ((List.map (Value.int IntKind.i64) (P' ++ y :: x :: Q)).set (jp + 1) (Value.int IntKind.i64 y)).set jp (Value.int IntKind.i64 x) = List.map (Value.int IntKind.i64) (P' ++ x :: (y :: Q)) := by
                rw [← hjp, ← List.map_set, ← List.map_set, swap_adj rfl]
              have HO6 := Lib.hid hst2.1
              rw [e6] at HO6
              have hll2 : (P' ++ x :: (y :: Q)).length = L.length + 1 := by rw [← hll]; simp
              have HLL2 := Lib.hid hll2
              clear hst1 hst2 hown4 e6 K5 hll hll2
              have jz : (jp : Int) + 1 < (L.length : Int) + 1 := by omega
              have jz1 : (jp : Int) < (L.length : Int) + 1 := by omega
              go_wp2_with fail
              go_roundw
              case rel =>
                refine ⟨jp, P', y :: Q, by go_num, hjp, HLL2.out, ?_, ?_, HK6.out⟩
                · simp only [OwnI, HLL2.out]; exact HO6.out
                · have := HINS.out
                  rw [insR_move hx0 hxy] at this
                  simpa using this
              case measure => simp [intOf]
            · go_wp2_with fail
              refine HCY.out.mono ?_
              rintro e w4 ⟨rfl, k4⟩
              go_wp2_with fail
              go_roundw
              case rel => exact HOUT.out (insR_stay (by omega)) _ k4
              case measure => simp [intOf]; omega
          · go_wp2_with fail
            go_roundw
            case rel => exact HOUT.out (insR_low hx0 _) _ (Kept.refl _)
            case measure => simp [intOf]; omega
    · have hfull : text.take k = text := List.take_of_length_le (by have := HML.out; omega)
      have hown := HOW.out
      rw [hfull] at hown
      obtain ⟨A4, c4, hu, hle4, hI4⟩ := OwnI.sl hown
      generalize refSort cls text = R at *
      clear hown hfull
      subst hu
      go_wp2_with fail
      go_ret
      exact ⟨A4, _, c4, rfl, hle4, hI4, HKW.out⟩
end Go.Proofs.YtjfhcmkcmdnhoaaGreatDoor
namespace Go.Proofs.YtjfhcmkcmdnhoaaGreatDoor

noncomputable def jFrom (n : Nrm) (form : Int) (a : List Int) : Nat := lastBd (boundB n form) a
noncomputable def jTo (n : Nrm) (form : Int) (b : List Int) : Nat := firstBd (boundB n form) b
noncomputable def jMid (n : Nrm) (form : Int) (a m b : List Int) : List Int := formOf n form (a.drop (jFrom n form a) ++ m ++ b.take (jTo n form b))
theorem joinM_eq (n : Nrm) (form : Int) (a m b : List Int) : joinM n form a m b = a.take (jFrom n form a) ++ (jMid n form a m b ++ b.drop (jTo n form b)) := rfl
theorem jFrom_le (n : Nrm) (form : Int) (a : List Int) : jFrom n form a ≤ a.length := (lastBd_spec (boundB n form) a.length a rfl).1
theorem jTo_le (n : Nrm) (form : Int) (b : List Int) : jTo n form b ≤ b.length := (firstBd_spec (boundB n form) b).1
theorem jMid_length (n : Nrm) (form : Int) (a m b : List Int) : (jMid n form a m b).length ≤ 64 * (a.length + m.length + b.length) := by
  unfold jMid
  have h := formOf_length n form (a.drop (jFrom n form a) ++ m ++ b.take (jTo n form b))
  have h2 : (a.drop (jFrom n form a) ++ m ++ b.take (jTo n form b)).length ≤ a.length + m.length + b.length := by
    simp only [List.length_append, List.length_drop, List.length_take]; omega
  omega
theorem joinM_length (n : Nrm) (form : Int) (a m b : List Int) : (joinM n form a m b).length ≤ 65 * (a.length + m.length + b.length) := by
  rw [joinM_eq]
  have h := jMid_length n form a m b
  simp only [List.length_append, List.length_drop, List.length_take]
  omega
theorem edit_none (n : Nrm) (form : Int) {text : List Int} (h : formOf n form text = text) (i : Nat) : joinM n form (text.take i) [] (text.drop i) = text := by
  rw [replace_form n form h i i [], List.append_nil, List.take_append_drop, h]
theorem edit_same (n : Nrm) (form : Int) {text : List Int} (h : formOf n form text = text) (i : Nat) : joinM n form (text.take i) (text.drop i) [] = text := by
  have e := replace_form n form h i text.length (text.drop i)
  rw [List.drop_length, List.append_nil, List.take_append_drop, h] at e
  exact e
end Go.Proofs.YtjfhcmkcmdnhoaaGreatDoor
namespace Go.Proofs.YtjfhcmkcmdnhoaaGreatDoor

def joinMm : List Mp := [⟨226, [97, 770], ⟨#[]⟩⟩]
def joinN : Nrm := ⟨[⟨770, 770, 230⟩], joinMm, []⟩
theorem joinN_check : decCheck joinN = 0 := by decide +kernel
theorem joinN_usable : usableN joinN = joinN := if_pos joinN_check
theorem joinN_full : FullEq joinMm false (fullOf (usableN joinN).decomp false) := by
  have := usableN_full joinN false
  rw [joinN_usable] at this ⊢
  exact this
theorem joinN_97 : fullOf (usableN joinN).decomp false 97 = [97] := full_alone joinN_full (by decide +kernel)
theorem joinN_770 : fullOf (usableN joinN).decomp false 770 = [770] := full_alone joinN_full (by decide +kernel)
theorem joinN_120 : fullOf (usableN joinN).decomp false 120 = [120] := full_alone joinN_full (by decide +kernel)
theorem joinN_226 : fullOf (usableN joinN).decomp false 226 = [97, 770] := by
  have h := joinN_full
  rw [full_to h (c := 226) («to» := [97, 770]) (by decide +kernel)]
  simp only [List.flatMap_cons, List.flatMap_nil]
  rw [full_alone h (c := 97) (by decide +kernel), full_alone h (c := 770) (by decide +kernel)]
  rfl
theorem joinN_c97 : classOf (usableN joinN).classes 97 = 0 := by rw [joinN_usable]; decide +kernel
theorem joinN_c120 : classOf (usableN joinN).classes 120 = 0 := by rw [joinN_usable]; decide +kernel
theorem joinN_c770 : classOf (usableN joinN).classes 770 ≠ 0 := by rw [joinN_usable]; decide +kernel
theorem sort_lone {cls : Int → Int} (c : Int) : sortT cls [c] = [c] := sort_one cls c
theorem joinN_d1 : textOf joinN false [97, 770] = [97, 770] := by
  rw [textOf_eq, textE_eq]
  simp only [List.flatMap_cons, List.flatMap_nil, joinN_97, joinN_770, List.append_nil, List.cons_append, List.nil_append]
  rw [sortT_start joinN_c97, sort_lone]
theorem joinN_d2 : textOf joinN false [226] = [97, 770] := by
  rw [textOf_eq, textE_eq]
  simp only [List.flatMap_cons, List.flatMap_nil, joinN_226, List.append_nil]
  rw [sortT_start joinN_c97, sort_lone]
theorem joinN_f1 : formOf joinN 1 [97, 770] = [226] := by
  rw [formOf_1, joinN_d1]
  unfold compN
  rw [joinN_usable]
  decide +kernel
theorem joinN_f2 : formOf joinN 1 [226] = [226] := by
  rw [formOf_1, joinN_d2]
  unfold compN
  rw [joinN_usable]
  decide +kernel
theorem joinN_second {x : Int} (h : kind x = 0) (hx : x ≠ 770) : secondB (usableN joinN) x = false := by
  cases hs : secondB (usableN joinN) x with
  | false => rfl
  | true =>
    exfalso
    obtain ⟨a, ha⟩ := secondB_iff.1 hs
    have hc : compH a x = none := by unfold compH; rw [if_neg (by rw [h]; omega), if_neg (by rw [h]; omega)]
    have hp : (pairM (usableN joinN) a x).isSome = true := by unfold pairOf at ha; rw [hc] at ha; exact ha
    obtain ⟨v, hv⟩ := Option.isSome_iff_exists.1 hp
    obtain ⟨m, hm, _, ht, _⟩ := pairM_some hv
    rw [joinN_usable] at hm
    simp only [joinN, joinMm, List.mem_singleton] at hm
    rw [hm] at ht
    simp only [List.cons.injEq, and_true] at ht
    exact hx ht.2.symm
theorem joinN_b97 : boundB joinN 1 97 = true := by
  unfold boundB
  rw [if_neg (by omega), show cpOf 1 = false by decide, joinN_97]
  simp [joinN_c97, joinN_second (x := 97) (by decide +kernel) (by decide)]
theorem joinN_b120 : boundB joinN 1 120 = true := by
  unfold boundB
  rw [if_neg (by omega), show cpOf 1 = false by decide, joinN_120]
  simp [joinN_c120, joinN_second (x := 120) (by decide +kernel) (by decide)]
theorem joinN_b770 : boundB joinN 1 770 = false := by
  unfold boundB
  rw [if_neg (by omega), show cpOf 1 = false by decide, joinN_770]
  simp [joinN_c770]
theorem joinN_b226 : boundB joinN 1 226 = true := by
  unfold boundB
  rw [if_neg (by omega), show cpOf 1 = false by decide, joinN_226]
  simp [joinN_c97, joinN_second (x := 97) (by decide +kernel) (by decide)]
theorem joinN_e1 : lastBd (boundB joinN 1) [97] = 0 := by simp [lastBd, bnds, joinN_b97]
theorem joinN_e2 : firstBd (boundB joinN 1) [770] = 1 := by simp [firstBd, bnds, joinN_b770]
theorem joinN_e3 : lastBd (boundB joinN 1) [226] = 0 := by simp [lastBd, bnds, joinN_b226]
theorem joinN_e4 : firstBd (boundB joinN 1) [120] = 0 := by simp [firstBd, bnds, joinN_b120]
theorem joinN_j1 : joinM joinN 1 [97] [] [770] = [226] := by
  unfold joinM
  rw [joinN_e1, joinN_e2]
  simp [joinN_f1]
theorem joinN_j2 : joinM joinN 1 [226] [] [120] = [226, 120] := by
  unfold joinM
  rw [joinN_e3, joinN_e4]
  simp [joinN_f2]
end Go.Proofs.YtjfhcmkcmdnhoaaGreatDoor
