/- mapping.parts: the first error of mappings, but for their order. -/
import Derived.Test.YtljkkfohlkhjnaaDoorKMapA
namespace Go.Proofs.YtljkkfohlkhjnaaDoor
open Go Go.RowKit

theorem badCode_src {m : Mp} (h : validB m.src = false) : mpBadCode m = true := by simp [mpBadCode, h]
theorem badCode_to {m : Mp} {k : Nat} {x : Int} (hx : m.to[k]? = some x) (h : validB x = false) : mpBadCode m = true := by
  simp only [mpBadCode, Bool.or_eq_true]
  exact .inr (List.any_eq_true.2 ⟨x, mem_of_getElem?_some hx, by simp [h]⟩)
theorem badCode_not {m : Mp} (h : validB m.src = true) (h2 : m.to.any (fun c => !validB c) = false) : mpBadCode m = false := by simp [mpBadCode, h, h2]

set_option maxHeartbeats 1000000 in
theorem mapping_parts (A : Option Addr) (n c : Nat) (l : List Mp) (w : World) (hn : n ≤ 1000) (hl : Mps w A n l) (hto : ∀ m ∈ l, m.to.length ≤ 100000) :
    Calls Tryd.prog 44 #[.slice A n c] w (RetI w (mapParts l)) := by
  have HL := Lib.hid hl
  have HN := Lib.hid hl.1
  have HTO := Lib.hid hto
  clear hl hto
  go_enter Tryd.func44, Tryd.ntmps44
  go_wp2
  go_loopw [13] (fun i wr => ∃ k : Nat, k ≤ n ∧ i = .int .i64 k ∧ (l.take k).any mpBadCode = false ∧ Below w.heap.size w wr) (fun i _ => n - (intOf i).toNat)
  case atStart => exact ⟨0, Nat.zero_le _, rfl, by simp, Below.refl _ _⟩
  case round =>
    obtain ⟨k, hk, rfl, hno, hB⟩ := hrel
    have HNO := Lib.hid hno
    clear hno
    by_cases hlt : k < n
    · obtain ⟨b, off, m, A', n', c', rfl, hm, hle, hI, c0, c1, c2⟩ := mp_at (HL.out.kept hB) hlt
      have hn' : n' ≤ 100000 := by rw [hI.1]; exact HTO.out m (mem_of_getElem?_some hm)
      have HM := Lib.hid hm
      have HI := Lib.hid hI
      clear hm hI
      by_cases hv : validB m.src = true
      · go_wp2_with (go_at_call 59; refine (valid_any _ _).mono ?_; rintro e w' ⟨rfl, rfl⟩)
        have hB1 := hB.alloc hB.size (Obj.cells #[Value.int IntKind.i64 m.src, Value.slice A' n' c', Value.string m.tag] 66)
        have HV := Lib.hid hv
        have HI1 := Lib.hid (HI.out.kept (Kept.alloc (Kept.refl wr) (Obj.cells #[Value.int IntKind.i64 m.src, Value.slice A' n' c', Value.string m.tag] 66)))
        clear c0 c1 c2 hv HI
        generalize wr.alloc (Obj.cells #[Value.int IntKind.i64 m.src, Value.slice A' n' c', Value.string m.tag] 66) = W1 at *
        go_loop [24] (fun i => ∃ j : Nat, j ≤ n' ∧ i = .int .i64 j ∧ (m.to.take j).any (fun c => !validB c) = false) (fun i => n' - (intOf i).toNat)
        case atStart => exact ⟨0, Nat.zero_le _, rfl, by simp⟩
        case round =>
          obtain ⟨j, hj, rfl, hno⟩ := hrel
          have HN2 := Lib.hid hno
          clear hno
          by_cases hjn : j < n'
          · obtain ⟨b2, off2, x, rfl, hx, d0⟩ := int_at HI1.out hjn
            have HX := Lib.hid hx
            clear hx
            cases hvx : validB x
            · go_wp2_with (go_at_call 59; refine (valid_any _ _).mono ?_; rintro e w' ⟨rfl, rfl⟩)
              go_ret
              exact ⟨ret_int (mapParts_code HM.out (badCode_to HX.out hvx)).symm, hB1⟩
            · go_wp2_with (go_at_call 59; refine (valid_any _ _).mono ?_; rintro e w' ⟨rfl, rfl⟩)
              go_round
              case rel => exact ⟨j + 1, by omega, by go_num, by rw [any_take_snoc _ HX.out, HN2.out, hvx]; rfl⟩
              case measure => simp [intOf]; omega
          · go_wp2
            go_roundw
            case rel => exact ⟨k + 1, by omega, by go_num, by
              rw [any_take_snoc _ HM.out, HNO.out, badCode_not HV.out (by have := HN2.out; rwa [List.take_of_length_le (by have := HI1.out.1; omega)] at this)]; rfl, hB1⟩
            case measure => simp [intOf]; omega
      · have hv : validB m.src = false := by simpa using hv
        go_wp2_with (go_at_call 59; refine (valid_any _ _).mono ?_; rintro e w' ⟨rfl, rfl⟩)
        go_ret
        exact ⟨ret_int (mapParts_code HM.out (badCode_src hv)).symm, hB.alloc hB.size _⟩
    · have hall : l.any mpBadCode = false := by
        have := HNO.out
        rwa [List.take_of_length_le (by have := HN.out; omega)] at this
      have HNO1 := Lib.hid hall
      clear hall HNO
      go_wp2
      obtain ⟨w1, rfl⟩ : ∃ w1 : World, w1 = wr := ⟨_, rfl⟩
      go_loopw [35] (fun i wr => ∃ k : Nat, k ≤ n ∧ i = .int .i64 k ∧ (l.take k).any mpLong = false ∧ Below w.heap.size w wr) (fun i _ => n - (intOf i).toNat)
      case atStart => exact ⟨0, Nat.zero_le _, rfl, by simp, hB⟩
      case round =>
        obtain ⟨k, hk, rfl, hno, hB⟩ := hrel
        have HNO := Lib.hid hno
        clear hno
        by_cases hlt : k < n
        · obtain ⟨b, off, m, A', n', c', rfl, hm, hle, hI, c0, c1, c2⟩ := mp_at (HL.out.kept hB) hlt
          have hn' : n' ≤ 100000 := by rw [hI.1]; exact HTO.out m (mem_of_getElem?_some hm)
          have HM := Lib.hid hm
          have HI := Lib.hid hI.1
          clear hm hI
          go_wp2
          all_goals first
            | (go_ret
               exact ⟨ret_int (mapParts_long HNO1.out HM.out (by have := HI.out; simp [mpLong]; omega)).symm, hB.alloc hB.size _⟩)
            | (go_roundw
               case rel => exact ⟨k + 1, by omega, by go_num, by rw [any_take_snoc _ HM.out, HNO.out]; have := HI.out; simp [mpLong]; omega, hB.alloc hB.size _⟩
               case measure => simp [intOf]; omega)
        · have hall : l.any mpLong = false := by
            have := HNO.out
            rwa [List.take_of_length_le (by have := HN.out; omega)] at this
          have HNO2 := Lib.hid hall
          clear hall HNO
          go_wp2
          obtain ⟨w2, rfl⟩ : ∃ w2 : World, w2 = wr := ⟨_, rfl⟩
          go_loopw [46] (fun i wr => ∃ k : Nat, k ≤ n ∧ i = .int .i64 k ∧ (l.take k).any mpBadName = false ∧ Below w.heap.size w wr) (fun i _ => n - (intOf i).toNat)
          case atStart => exact ⟨0, Nat.zero_le _, rfl, by simp, hB⟩
          case round =>
            obtain ⟨k, hk, rfl, hno, hB⟩ := hrel
            have HNO := Lib.hid hno
            clear hno
            by_cases hlt : k < n
            · obtain ⟨b, off, m, A', n', c', rfl, hm, hle, hI, c0, c1, c2⟩ := mp_at (HL.out.kept hB) hlt
              have HM := Lib.hid hm
              clear hm hI
              cases ht : m.tag.toList.isEmpty
              · have hte : ¬ m.tag.toList = [] := by simpa using ht
                cases hv : isNameB m.tag
                · go_wp2_with (go_at_call 60; refine (isName_any _ _).mono ?_; rintro e w' ⟨rfl, rfl⟩)
                  go_ret
                  exact ⟨ret_int (mapParts_name HNO1.out HNO2.out HM.out (by simp [mpBadName, plainTag, ht, hv])).symm, hB.alloc hB.size _⟩
                · go_wp2_with (go_at_call 60; refine (isName_any _ _).mono ?_; rintro e w' ⟨rfl, rfl⟩)
                  go_roundw
                  case rel => exact ⟨k + 1, by omega, by go_num, by rw [any_take_snoc _ HM.out, HNO.out]; simp [mpBadName, hv], hB.alloc hB.size _⟩
                  case measure => simp [intOf]; omega
              · have hte : m.tag.toList = [] := by simpa using ht
                go_wp2
                go_roundw
                case rel => exact ⟨k + 1, by omega, by go_num, by rw [any_take_snoc _ HM.out, HNO.out]; simp [mpBadName, plainTag, ht], hB.alloc hB.size _⟩
                case measure => simp [intOf]; omega
            · go_wp2
              go_ret
              exact ⟨ret_int (mapParts_ok HNO1.out HNO2.out (by have := HNO.out; rwa [List.take_of_length_le (by have := HN.out; omega)] at this)).symm, hB⟩
end Go.Proofs.YtljkkfohlkhjnaaDoor
