/- Laws of joining: neutral texts, association, what an edit leaves. No walk. The examples of the chapter on joining. No walk. -/
import Derived.Test.YtjfhcmkcmdnhoaaGreatDoorKQp
import Derived.Test.YtjfhcmkcmdnhoaaGreatDoorKAlive21
namespace Go.Proofs.YtjfhcmkcmdnhoaaGreatDoor
noncomputable def jFrom (n : Nrm) (form : Int) (a : List Int) : Nat := lastBd (boundB n form) a
noncomputable def jTo (n : Nrm) (form : Int) (b : List Int) : Nat := firstBd (boundB n form) b
noncomputable def jMid (n : Nrm) (form : Int) (a m b : List Int) : List Int := formOf n form (a.drop (jFrom n form a) ++ m ++ b.take (jTo n form b))
theorem joinM_eq (n : Nrm) (form : Int) (a m b : List Int) : joinM n form a m b = a.take (jFrom n form a) ++ (jMid n form a m b ++ b.drop (jTo n form b)) := rfl
theorem jFrom_le (n : Nrm) (form : Int) (a : List Int) : jFrom n form a ≤ a.length := (lastBd_spec (boundB n form) a.length a rfl).1
theorem jTo_le (n : Nrm) (form : Int) (b : List Int) : jTo n form b ≤ b.length := (firstBd_spec (boundB n form) b).1
theorem jMid_length (n : Nrm) (form : Int) (a m b : List Int) : (jMid n form a m b).length ≤ 64 * (a.length + m.length + b.length) := by
  unfold jMid
  have h := formOf_length n form (a.drop (jFrom n form a) ++ m ++ b.take (jTo n form b))
  have h2 : (a.drop (jFrom n form a) ++ m ++ b.take (jTo n form b)).length ≤ a.length + m.length + b.length := by
    simp only [List.length_append, List.length_drop, List.length_take]; omega
  omega
theorem joinM_length (n : Nrm) (form : Int) (a m b : List Int) : (joinM n form a m b).length ≤ 65 * (a.length + m.length + b.length) := by
  rw [joinM_eq]
  have h := jMid_length n form a m b
  simp only [List.length_append, List.length_drop, List.length_take]
  omega
end Go.Proofs.YtjfhcmkcmdnhoaaGreatDoor
namespace Go.Proofs.YtjfhcmkcmdnhoaaGreatDoor
def joinMm : List Mp := [⟨226, [97, 770], ⟨#[]⟩⟩]
def joinN : Nrm := ⟨[⟨770, 770, 230⟩], joinMm, []⟩
theorem joinN_check : decCheck joinN = 0 := by decide +kernel
theorem joinN_usable : usableN joinN = joinN := if_pos joinN_check
theorem joinN_full : FullEq joinMm false (fullOf (usableN joinN).decomp false) := by
  have := usableN_full joinN false
  rw [joinN_usable] at this ⊢
  exact this
theorem joinN_97 : fullOf (usableN joinN).decomp false 97 = [97] := full_alone joinN_full (by decide +kernel)
theorem joinN_770 : fullOf (usableN joinN).decomp false 770 = [770] := full_alone joinN_full (by decide +kernel)
theorem joinN_120 : fullOf (usableN joinN).decomp false 120 = [120] := full_alone joinN_full (by decide +kernel)
theorem joinN_226 : fullOf (usableN joinN).decomp false 226 = [97, 770] := by
  have h := joinN_full
  rw [@full_to _ _ _ h 226 [97, 770] (by decide +kernel)]
  simp only [List.flatMap_cons, List.flatMap_nil]
  rw [full_alone h (c := 97) (by decide +kernel), full_alone h (c := 770) (by decide +kernel)]
  rfl
theorem joinN_c97 : classOf (usableN joinN).classes 97 = 0 := by rw [joinN_usable]; decide +kernel
theorem joinN_c120 : classOf (usableN joinN).classes 120 = 0 := by rw [joinN_usable]; decide +kernel
theorem joinN_c770 : classOf (usableN joinN).classes 770 ≠ 0 := by rw [joinN_usable]; decide +kernel
theorem sort_lone {cls : Int → Int} (c : Int) : sortT cls [c] = [c] := sort_one cls c
theorem joinN_d1 : textOf joinN false [97, 770] = [97, 770] := by
  rw [textOf_eq, textE_eq]
  simp only [List.flatMap_cons, List.flatMap_nil, joinN_97, joinN_770, List.append_nil, List.cons_append, List.nil_append]
  rw [sortT_start joinN_c97, sort_lone]
theorem joinN_d2 : textOf joinN false [226] = [97, 770] := by
  rw [textOf_eq, textE_eq]
  simp only [List.flatMap_cons, List.flatMap_nil, joinN_226, List.append_nil]
  rw [sortT_start joinN_c97, sort_lone]
theorem joinN_f1 : formOf joinN 1 [97, 770] = [226] := by
  rw [formOf_1, joinN_d1]
  unfold compN
  rw [joinN_usable]
  decide +kernel
theorem joinN_f2 : formOf joinN 1 [226] = [226] := by
  rw [formOf_1, joinN_d2]
  unfold compN
  rw [joinN_usable]
  decide +kernel
theorem joinN_second {x : Int} (h : kind x = 0) (hx : x ≠ 770) : secondB (usableN joinN) x = false := by
  cases hs : secondB (usableN joinN) x with
  | false => rfl
  | true =>
    exfalso
    obtain ⟨a, ha⟩ := secondB_iff.1 hs
    have hc : compH a x = none := by unfold compH; rw [if_neg (by rw [h]; omega), if_neg (by rw [h]; omega)]
    have hp : (pairM (usableN joinN) a x).isSome = true := by unfold pairOf at ha; rw [hc] at ha; exact ha
    obtain ⟨v, hv⟩ := Option.isSome_iff_exists.1 hp
    obtain ⟨m, hm, _, ht, _⟩ := pairM_some hv
    rw [joinN_usable] at hm
    simp only [joinN, joinMm, List.mem_singleton] at hm
    rw [hm] at ht
    simp only [List.cons.injEq, and_true] at ht
    exact hx ht.2.symm
theorem joinN_b97 : boundB joinN 1 97 = true := by
  unfold boundB
  rw [if_neg (by omega), show cpOf 1 = false by decide, joinN_97]
  simp [joinN_c97, joinN_second (x := 97) (by decide +kernel) (by decide)]
theorem joinN_b120 : boundB joinN 1 120 = true := by
  unfold boundB
  rw [if_neg (by omega), show cpOf 1 = false by decide, joinN_120]
  simp [joinN_c120, joinN_second (x := 120) (by decide +kernel) (by decide)]
theorem joinN_b770 : boundB joinN 1 770 = false := by
  unfold boundB
  rw [if_neg (by omega), show cpOf 1 = false by decide, joinN_770]
  simp [joinN_c770]
theorem joinN_b226 : boundB joinN 1 226 = true := by
  unfold boundB
  rw [if_neg (by omega), show cpOf 1 = false by decide, joinN_226]
  simp [joinN_c97, joinN_second (x := 97) (by decide +kernel) (by decide)]
theorem joinN_e1 : lastBd (boundB joinN 1) [97] = 0 := by simp [lastBd, bnds, joinN_b97]
theorem joinN_e2 : firstBd (boundB joinN 1) [770] = 1 := by simp [firstBd, bnds, joinN_b770]
theorem joinN_e3 : lastBd (boundB joinN 1) [226] = 0 := by simp [lastBd, bnds, joinN_b226]
theorem joinN_e4 : firstBd (boundB joinN 1) [120] = 0 := by simp [firstBd, bnds, joinN_b120]
theorem joinN_j1 : joinM joinN 1 [97] [] [770] = [226] := by
  unfold joinM
  rw [joinN_e1, joinN_e2]
  simp [joinN_f1]
theorem joinN_j2 : joinM joinN 1 [226] [] [120] = [226, 120] := by
  unfold joinM
  rw [joinN_e3, joinN_e4]
  simp [joinN_f2]
end Go.Proofs.YtjfhcmkcmdnhoaaGreatDoor
