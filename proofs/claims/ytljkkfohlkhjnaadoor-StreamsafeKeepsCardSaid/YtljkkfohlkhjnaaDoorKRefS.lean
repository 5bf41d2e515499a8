/- The reference's Without of layer 27. -/
import Derived.Test.YtljkkfohlkhjnaaDoorKRefK
import Derived.Test.YtljkkfohlkhjnaaDoorKApp
namespace Go.Proofs.YtljkkfohlkhjnaaDoor
open Go Go.RowKit

set_option maxRecDepth 100000 in
set_option maxHeartbeats 2000000 in
theorem r27without (B : Option Addr) (m d : Nat) (text : List Int) (w : World) (hm : m ≤ 100000) (hI : Ints w B m text) :
    Calls Tryd.prog 11 #[.slice B m d] w (RetInts w (text.filter (fun c => c != 847))) := by
  have HI := Lib.hid hI
  have HML := Lib.hid hI.1
  clear hI
  obtain ⟨base, hbase⟩ : ∃ base : Nat, base = w.heap.size := ⟨_, rfl⟩
  have HBASE := Lib.hid hbase
  clear hbase
  go_enter Tryd.func11, Tryd.ntmps11
  go_wp2_with fail
  go_loopw [3, 4] (fun p i wr => ∃ k : Nat, k ≤ m ∧ i = .int .i64 k ∧ OwnI wr base p ((text.take k).filter (fun c => c != 847)) ∧ Kept w wr) (fun _ i _ => m - (intOf i).toNat)
  case atStart => exact ⟨0, Nat.zero_le _, rfl, (World.ownsRow_nil _ _ _ _ : OwnI w base (.slice none 0 0) []), Kept.refl _⟩
  case round =>
    obtain ⟨k, hk, rfl, hown, hkw⟩ := hrel
    have HOW := Lib.hid hown
    have HKW := Lib.hid hkw
    have hsz := hkw.size
    clear hown hkw
    by_cases hlt : k < m
    · obtain ⟨b, off, x, hA, hx, cx⟩ := int_at (HI.out.kept HKW.out) hlt
      rw [hA]
      have HSN := Lib.hid (show (text.take (k + 1)).filter (fun c => c != 847) = (text.take k).filter (fun c => c != 847) ++ (if x != 847 then [x] else []) by rw [take_succ_some hx, List.filter_append]; cases hb : (x != 847) <;> simp [hb])
      have hLl : ((text.take k).filter (fun c => c != 847)).length ≤ 100000 := Nat.le_trans (List.length_filter_le _ _) (by rw [List.length_take]; omega)
      generalize (text.take k).filter (fun c => c != 847) = L at *
      clear hx
      by_cases hx : x = 847
      · have hb : (x != 847) = false := by simp [hx]
        have HX := Lib.hid hb
        subst hx
        go_wp2_with fail
        go_roundw
        case rel => exact ⟨k + 1, by omega, by go_num, by rw [HSN.out]; simpa using HOW.out, HKW.out⟩
        case measure => simp [intOf]; omega
      · have hb : (x != 847) = true := by simp [hx]
        have HX := Lib.hid hb
        have hka := Kept.alloc (Kept.refl wr) (Obj.cells #[Value.int IntKind.i64 x] 3)
        have HKA := Lib.hid hka
        clear hka
        go_wp2_with (at_builtin; refine app_ints rfl _ _ rfl base _ _ rfl (by exact own_kept HOW.out HKA.out) _ _ _ [x] rfl (by exact Ints.alloc_ (xs := [x]) rfl rfl) (by simp; omega) (by simp; have := HBASE.out; omega) ?_; intro v2 w2 hown2 hgrow2 hat2)
        have hs2 := hgrow2.size
        have K2 : Hid (Kept w w2) := Lib.hid ((Kept.trans HKW.out HKA.out).grown hgrow2 (by simp; have := HBASE.out; omega) (fun q e => by have := (World.ownsRow.lt HOW.out q e).1; have := HBASE.out; omega))
        go_roundw
        case rel => exact ⟨k + 1, by omega, by go_num, by rw [HSN.out, HX.out]; simpa using hown2, K2.out⟩
        case measure => simp [intOf]; omega
    · have hfull : text.take k = text := List.take_of_length_le (by have := HML.out; omega)
      have hown := HOW.out
      obtain ⟨R, hR⟩ : ∃ R : List Int, R = text.filter (fun c => c != 847) := ⟨_, rfl⟩
      rw [hfull, ← hR] at hown
      have HR := Lib.hid hR
      obtain ⟨A4, c4, hu, hle4, hI4⟩ := OwnI.sl hown
      clear hown hfull hR
      subst hu
      go_wp2_with fail
      go_ret
      exact ⟨A4, _, c4, rfl, hle4, by rw [← HR.out]; exact hI4, HKW.out⟩
end Go.Proofs.YtljkkfohlkhjnaaDoor
