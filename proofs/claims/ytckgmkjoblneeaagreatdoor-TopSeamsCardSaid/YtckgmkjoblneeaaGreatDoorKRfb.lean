/- References: Small of layer 21; hangul, Check and Class of layer 20; find of layer 21. References: Check of layer 11 (mappings). And more of that kind. -/
import Derived.Test.YtckgmkjoblneeaaGreatDoorKRefA
import Derived.Test.YtckgmkjoblneeaaGreatDoorKSet
import Derived.Test.YtckgmkjoblneeaaGreatDoorKMpx
import Derived.Test.YtckgmkjoblneeaaGreatDoorKPl
import Derived.Test.YtckgmkjoblneeaaGreatDoorKBase
import Derived.Test.YtckgmkjoblneeaaGreatDoorKApp
import Derived.Test.YtckgmkjoblneeaaGreatDoorKRfj
import Derived.Test.YtckgmkjoblneeaaGreatDoorKPq
import Derived.Test.YtckgmkjoblneeaaGreatDoorKExpC
import Derived.Test.YtckgmkjoblneeaaGreatDoorKQp
import Derived.Test.YtckgmkjoblneeaaGreatDoorKAlive21
namespace Go.Proofs.YtckgmkjoblneeaaGreatDoor
open Go Go.RowKit
end Go.Proofs.YtckgmkjoblneeaaGreatDoor
namespace Go.Proofs.YtckgmkjoblneeaaGreatDoor
open Go Go.RowKit
end Go.Proofs.YtckgmkjoblneeaaGreatDoor
namespace Go.Proofs.YtckgmkjoblneeaaGreatDoor
open Go Go.RowKit
end Go.Proofs.YtckgmkjoblneeaaGreatDoor
namespace Go.Proofs.YtckgmkjoblneeaaGreatDoor
open Go Go.RowKit
def RetFar (w : World) (xs : List Int) (e : Ending) (w' : World) : Prop := ∃ A n c, e = .returned (.slice A n c) ∧ n ≤ c ∧ Ints w' A n xs ∧ (∀ a, A = some a → w.heap.size ≤ a.block) ∧ Kept w w'
theorem RetFar.ints {w : World} {xs : List Int} {e : Ending} {w' : World} (h : RetFar w xs e w') : RetInts w xs e w' := by
  obtain ⟨A, n, c, h1, h2, h3, _, h5⟩ := h
  exact ⟨A, n, c, h1, h2, h3, h5⟩
end Go.Proofs.YtckgmkjoblneeaaGreatDoor
namespace Go.Proofs.YtckgmkjoblneeaaGreatDoor
open Go Go.RowKit
end Go.Proofs.YtckgmkjoblneeaaGreatDoor
namespace Go.Proofs.YtckgmkjoblneeaaGreatDoor
open Go Go.RowKit
end Go.Proofs.YtckgmkjoblneeaaGreatDoor
namespace Go.Proofs.YtckgmkjoblneeaaGreatDoor
open Go Go.RowKit
end Go.Proofs.YtckgmkjoblneeaaGreatDoor
namespace Go.Proofs.YtckgmkjoblneeaaGreatDoor
noncomputable def jFrom (n : Nrm) (form : Int) (a : List Int) : Nat := lastBd (boundB n form) a
noncomputable def jTo (n : Nrm) (form : Int) (b : List Int) : Nat := firstBd (boundB n form) b
noncomputable def jMid (n : Nrm) (form : Int) (a m b : List Int) : List Int := formOf n form (a.drop (jFrom n form a) ++ m ++ b.take (jTo n form b))
theorem joinM_eq (n : Nrm) (form : Int) (a m b : List Int) : joinM n form a m b = a.take (jFrom n form a) ++ (jMid n form a m b ++ b.drop (jTo n form b)) := rfl
theorem jFrom_le (n : Nrm) (form : Int) (a : List Int) : jFrom n form a ≤ a.length := (lastBd_spec (boundB n form) a.length a rfl).1
theorem jTo_le (n : Nrm) (form : Int) (b : List Int) : jTo n form b ≤ b.length := (firstBd_spec (boundB n form) b).1
theorem jMid_length (n : Nrm) (form : Int) (a m b : List Int) : (jMid n form a m b).length ≤ 64 * (a.length + m.length + b.length) := by
  unfold jMid
  have h := formOf_length n form (a.drop (jFrom n form a) ++ m ++ b.take (jTo n form b))
  have h2 : (a.drop (jFrom n form a) ++ m ++ b.take (jTo n form b)).length ≤ a.length + m.length + b.length := by
    simp only [List.length_append, List.length_drop, List.length_take]; omega
  omega
theorem joinM_length (n : Nrm) (form : Int) (a m b : List Int) : (joinM n form a m b).length ≤ 65 * (a.length + m.length + b.length) := by
  rw [joinM_eq]
  have h := jMid_length n form a m b
  simp only [List.length_append, List.length_drop, List.length_take]
  omega
theorem join_two (n : Nrm) (form : Int) {a b : List Int} (ha : formOf n form a = a) (hb : formOf n form b = b) : joinM n form a [] b = formOf n form (a ++ b) := by
  rw [join_form n form ha hb, List.append_nil]
end Go.Proofs.YtckgmkjoblneeaaGreatDoor
namespace Go.Proofs.YtckgmkjoblneeaaGreatDoor
end Go.Proofs.YtckgmkjoblneeaaGreatDoor
namespace Go.Proofs.YtckgmkjoblneeaaGreatDoor
/-! ## Pieces -/
theorem seam_step (n : Nrm) (form : Int) (all p : List Int) : joinM n form (formOf n form all) [] (formOf n form p) = formOf n form (all ++ p) := by
  rw [join_two n form (form_again n form all) (form_again n form p), form_append]
theorem seam_start (n : Nrm) (form : Int) : formOf n form [] = [] := form_nil n form
/-! ## Edits -/
noncomputable def flatLen (n : Nrm) (cp : Bool) (t : List Int) : Nat := (t.flatMap (fullOf (usableN n).decomp cp)).length
theorem flatLen_append (n : Nrm) (cp : Bool) (a b : List Int) : flatLen n cp (a ++ b) = flatLen n cp a + flatLen n cp b := by unfold flatLen; rw [List.flatMap_append, List.length_append]
theorem flatLen_take (n : Nrm) (cp : Bool) (a : List Int) (k j : Nat) (h : k ≤ j) : flatLen n cp (a.take k) + flatLen n cp (a.drop j) ≤ flatLen n cp a := by
  have h1 := flatLen_append n cp (a.take k) (a.drop k)
  rw [List.take_append_drop] at h1
  have h2 := flatLen_append n cp ((a.drop k).take (j - k)) ((a.drop k).drop (j - k))
  rw [List.take_append_drop, List.drop_drop, show k + (j - k) = j by omega] at h2
  omega
def editP (text : List Int) (p d : Nat) (ins : List Int) : List Int := text.take p ++ ins ++ text.drop (p + d)
theorem editP_flat (n : Nrm) (cp : Bool) (text : List Int) (p d : Nat) (ins : List Int) : flatLen n cp (editP text p d ins) ≤ flatLen n cp text + flatLen n cp ins := by
  unfold editP
  rw [flatLen_append, flatLen_append]
  have := flatLen_take n cp text p (p + d) (by omega)
  omega
theorem textOf_flat (n : Nrm) (cp : Bool) (t : List Int) : (textOf n cp t).length = flatLen n cp t := by
  unfold textOf flatLen
  rw [sortRuns_length]
  rfl
theorem form_flat (n : Nrm) {form : Int} (h : ¬ (form < 1 ∨ 4 < form)) (t : List Int) : (formOf n form t).length ≤ flatLen n (cpOf form) t := by
  rw [formOf_known n h]
  have h1 := compN_length n (textOf n (cpOf form) t)
  have h2 := textOf_flat n (cpOf form) t
  split <;> omega
theorem flat_form (n : Nrm) {form : Int} (h : ¬ (form < 1 ∨ 4 < form)) (t : List Int) : flatLen n (cpOf form) (formOf n form t) = flatLen n (cpOf form) t := by
  rw [← textOf_flat, ← textOf_flat, form_text n h t]
theorem flatLen_le (n : Nrm) (cp : Bool) (t : List Int) : flatLen n cp t ≤ 64 * t.length := by rw [← textOf_flat]; exact textOf_length n cp t
theorem edit_next (n : Nrm) {form : Int} (_h : ¬ (form < 1 ∨ 4 < form)) {now : List Int} (hn : formOf n form now = now) (p d : Nat) (ins : List Int) :
    joinM n form (now.take p) ins (now.drop (p + d)) = formOf n form (editP now p d ins) := by
  unfold editP
  exact replace_form n form hn p (p + d) ins
theorem edit_flat (n : Nrm) {form : Int} (h : ¬ (form < 1 ∨ 4 < form)) (now : List Int) (p d : Nat) (ins : List Int) : flatLen n (cpOf form) (formOf n form (editP now p d ins)) ≤ flatLen n (cpOf form) now + 64 * ins.length := by
  rw [flat_form n h]
  have h1 := editP_flat n (cpOf form) now p d ins
  have h2 := flatLen_le n (cpOf form) ins
  omega
/-! ## The example -/
def acMm : List Mp := [⟨225, [97, 769], ⟨#[]⟩⟩]
def acN : Nrm := ⟨[], acMm, []⟩
theorem acN_check : decCheck acN = 0 := by decide +kernel
theorem acN_usable : usableN acN = acN := if_pos acN_check
theorem acN_full : FullEq acMm false (fullOf (usableN acN).decomp false) := by
  have := usableN_full acN false
  rw [acN_usable] at this ⊢
  exact this
theorem acN_97 : fullOf (usableN acN).decomp false 97 = [97] := full_alone acN_full (by decide +kernel)
theorem acN_98 : fullOf (usableN acN).decomp false 98 = [98] := full_alone acN_full (by decide +kernel)
theorem acN_769 : fullOf (usableN acN).decomp false 769 = [769] := full_alone acN_full (by decide +kernel)
theorem acN_225 : fullOf (usableN acN).decomp false 225 = [97, 769] := by
  have h := acN_full
  rw [@full_to _ _ _ h 225 [97, 769] (by decide +kernel)]
  simp only [List.flatMap_cons, List.flatMap_nil]
  rw [full_alone h (c := 97) (by decide +kernel), full_alone h (c := 769) (by decide +kernel)]
  rfl
theorem acN_class (c : Int) : classOf (usableN acN).classes c = 0 := by rw [acN_usable]; rfl
theorem acN_sort : ∀ t : List Int, sortT (classOf (usableN acN).classes) t = t
  | [] => sortT_nil
  | c :: t => by rw [sortT_start (acN_class c), acN_sort t]
theorem acN_t1 : textOf acN false [225] = [97, 769] := by
  rw [textOf_eq, textE_eq, acN_sort]
  simp [acN_225]
theorem acN_t2 : textOf acN false [97, 769] = [97, 769] := by
  rw [textOf_eq, textE_eq, acN_sort]
  simp [acN_97, acN_769]
theorem acN_t3 : textOf acN false [97] = [97] := by
  rw [textOf_eq, textE_eq, acN_sort]
  simp [acN_97]
theorem acN_t4 : textOf acN false [98] = [98] := by
  rw [textOf_eq, textE_eq, acN_sort]
  simp [acN_98]
theorem acN_f1 : formOf acN 2 [225] = [97, 769] := by rw [formOf_2, acN_t1]
theorem acN_f2 : formOf acN 2 [97, 769] = [97, 769] := by rw [formOf_2, acN_t2]
end Go.Proofs.YtckgmkjoblneeaaGreatDoor
