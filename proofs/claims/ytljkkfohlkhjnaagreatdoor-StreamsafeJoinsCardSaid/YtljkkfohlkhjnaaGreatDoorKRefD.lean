/- References: unsorted and Check of layer 11; Small of layer 21; Class of layer 20. -/
import Derived.Test.YtljkkfohlkhjnaaGreatDoorKRefB
import Derived.Test.YtljkkfohlkhjnaaGreatDoorKRefC
import Derived.Test.YtljkkfohlkhjnaaGreatDoorKPl
namespace Go.Proofs.YtljkkfohlkhjnaaGreatDoor
open Go Go.RowKit


set_option maxRecDepth 100000 in
set_option maxHeartbeats 2000000 in
theorem r11unsorted (A : Option Addr) (n c : Nat) (l : List Mp) (w : World) (hn : n ≤ 1000) (hl : Mps w A n l) (hto : ∀ m ∈ l, m.to.length ≤ 1000) (htag : ∀ m ∈ l, m.tag.size ≤ 1000) :
    Calls Tryz.prog 79 #[.slice A n c] w (RetI w (refUnsorted l)) := by
  have HL := Lib.hid hl
  have HN := Lib.hid hl.1
  have HTO := Lib.hid hto
  have HTG := Lib.hid htag
  clear hl hto htag
  go_enter Tryz.func79, Tryz.ntmps79
  go_wp2
  go_loopw [3] (fun i wr => ∃ k : Nat, k ≤ n ∧ i = .int .i64 k ∧ (l.take k).any mpBadCode = false ∧ Below w.heap.size w wr) (fun i _ => n - (intOf i).toNat)
  case atStart => exact ⟨0, Nat.zero_le _, rfl, by simp, Below.refl _ _⟩
  case round =>
    obtain ⟨k, hk, rfl, hno, hB⟩ := hrel
    have HNO := Lib.hid hno
    clear hno
    by_cases hlt : k < n
    · obtain ⟨b, off, m, A', n', c', rfl, hm, hle, hI, c0, c1, c2⟩ := mp_at (HL.out.kept hB) hlt
      have hn' : n' ≤ 1000 := by rw [hI.1]; exact HTO.out m (mem_of_getElem?_some hm)
      have HM := Lib.hid hm
      have HC := Lib.hid (r11codes m A' n' c' wr (by omega) hI)
      clear hm hI
      cases hb : mpBadCode m
      · rw [hb] at HC
        simp only [Bool.not_false] at HC
        have HBC := Lib.hid hb
        clear hb
        go_wp2_with (go_at_call 101; refine HC.out.mono ?_; rintro e w' ⟨rfl, hk2⟩)
        go_roundw
        case rel => exact ⟨k + 1, by omega, by go_num, by rw [any_take_snoc _ HM.out, HNO.out, HBC.out]; rfl, Kept.trans hB hk2⟩
        case measure => simp [intOf]; omega
      · rw [hb] at HC
        simp only [Bool.not_true] at HC
        have hres : refUnsorted l = 1 := by unfold refUnsorted; rw [mapParts_code HM.out hb]; rfl
        have HR := Lib.hid hres
        clear hb hres
        go_wp2_with (go_at_call 101; refine HC.out.mono ?_; rintro e w' ⟨rfl, hk2⟩)
        go_ret
        exact ⟨ret_int HR.out.symm, Kept.trans hB hk2⟩
    · have hall : l.any mpBadCode = false := by
        have := HNO.out
        rwa [List.take_of_length_le (by have := HN.out; omega)] at this
      have HNO1 := Lib.hid hall
      clear hall HNO
      go_wp2
      obtain ⟨w1, rfl⟩ : ∃ w1 : World, w1 = wr := ⟨_, rfl⟩
      go_loop [4] (fun i => ∃ k : Nat, k ≤ n ∧ i = .int .i64 k ∧ (l.take k).any mpLong = false) (fun i => n - (intOf i).toNat)
      case atStart => exact ⟨0, Nat.zero_le _, rfl, by simp⟩
      case round =>
        obtain ⟨k, hk, rfl, hno⟩ := hrel
        have HNO := Lib.hid hno
        clear hno
        by_cases hlt : k < n
        · obtain ⟨b, off, m, A', n', c', rfl, hm, hle, hI, c0, c1, c2⟩ := mp_at (HL.out.kept hB) hlt
          have hn' : n' ≤ 1000 := by rw [hI.1]; exact HTO.out m (mem_of_getElem?_some hm)
          have HM := Lib.hid hm
          have HI := Lib.hid hI.1
          clear hm hI
          by_cases h64 : 64 < n'
          · have hres : refUnsorted l = 2 := by unfold refUnsorted; rw [mapParts_long HNO1.out HM.out (by have := HI.out; simp [mpLong]; omega)]; rfl
            have HR := Lib.hid hres
            clear hres
            go_wp2
            go_ret
            exact ⟨ret_int HR.out.symm, hB⟩
          · go_wp2
            go_round
            case rel => exact ⟨k + 1, by omega, by go_num, by rw [any_take_snoc _ HM.out, HNO.out]; have := HI.out; simp [mpLong]; omega⟩
            case measure => simp [intOf]; omega
        · have hall : l.any mpLong = false := by
            have := HNO.out
            rwa [List.take_of_length_le (by have := HN.out; omega)] at this
          have HNO2 := Lib.hid hall
          clear hall HNO
          go_wp2
          go_loop [5] (fun i => ∃ k : Nat, k ≤ n ∧ i = .int .i64 k ∧ (l.take k).any mpBadName = false) (fun i => n - (intOf i).toNat)
          case atStart => exact ⟨0, Nat.zero_le _, rfl, by simp⟩
          case round =>
            obtain ⟨k, hk, rfl, hno⟩ := hrel
            have HNO := Lib.hid hno
            clear hno
            by_cases hlt : k < n
            · obtain ⟨b, off, m, A', n', c', rfl, hm, hle, hI, c0, c1, c2⟩ := mp_at (HL.out.kept hB) hlt
              have htg : m.tag.size ≤ 1000 := HTG.out m (mem_of_getElem?_some hm)
              have HM := Lib.hid hm
              clear hm hI
              cases ht : m.tag.toList.isEmpty
              · have hte : ¬ m.tag.toList = [] := by simpa using ht
                cases hv : isNameB m.tag
                · have hres : refUnsorted l = 6 := by unfold refUnsorted; rw [mapParts_name HNO1.out HNO2.out HM.out (by simp [mpBadName, plainTag, ht, hv])]; rfl
                  have HR := Lib.hid hres
                  clear hres
                  go_wp2_with (go_at_call 102; refine (r11Name _ _ (by omega)).mono ?_; rintro e w' ⟨rfl, rfl⟩)
                  go_ret
                  exact ⟨ret_int HR.out.symm, hB⟩
                · go_wp2_with (go_at_call 102; refine (r11Name _ _ (by omega)).mono ?_; rintro e w' ⟨rfl, rfl⟩)
                  go_round
                  case rel => exact ⟨k + 1, by omega, by go_num, by rw [any_take_snoc _ HM.out, HNO.out]; simp [mpBadName, hv]⟩
                  case measure => simp [intOf]; omega
              · have hte : m.tag.toList = [] := by simpa using ht
                go_wp2
                go_round
                case rel => exact ⟨k + 1, by omega, by go_num, by rw [any_take_snoc _ HM.out, HNO.out]; simp [mpBadName, plainTag, ht]⟩
                case measure => simp [intOf]; omega
            · have hp : mapParts l = 0 := mapParts_ok HNO1.out HNO2.out (by have := HNO.out; rwa [List.take_of_length_le (by have := HN.out; omega)] at this)
              have HP := Lib.hid hp
              clear hp
              have HT := Lib.hid (r11twice A n c l w1 hn (HL.out.kept hB))
              cases hd : hasDup l
              · rw [hd] at HT
                have HD := Lib.hid hd
                clear hd
                go_wp2_with (go_at_call 103; refine HT.out.mono ?_; rintro e w' ⟨rfl, hk2⟩)
                go_ret
                exact ⟨ret_int (by unfold refUnsorted; rw [HP.out, HD.out]; rfl), Kept.trans hB hk2⟩
              · rw [hd] at HT
                have HD := Lib.hid hd
                clear hd
                go_wp2_with (go_at_call 103; refine HT.out.mono ?_; rintro e w' ⟨rfl, hk2⟩)
                go_ret
                exact ⟨ret_int (by unfold refUnsorted; rw [HP.out, HD.out]; rfl), Kept.trans hB hk2⟩

set_option maxRecDepth 100000 in
set_option maxHeartbeats 2000000 in
theorem r11Check (A : Option Addr) (n c : Nat) (l : List Mp) (w : World) (hn : n ≤ 1000) (hl : Mps w A n l) (hto : ∀ m ∈ l, m.to.length ≤ 1000) (htag : ∀ m ∈ l, m.tag.size ≤ 1000) :
    Calls Tryz.prog 50 #[.slice A n c] w (RetI w (refMapCheck l)) := by
  have HL := Lib.hid hl
  have HN := Lib.hid hl.1
  have HU := Lib.hid (r11unsorted A n c l w hn hl hto htag)
  clear hl hto htag
  by_cases hu : refUnsorted l = 0
  · have hb : (refUnsorted l != 0) = false := by simp [hu]
    have HUZ := Lib.hid hu
    clear hu
    go_enter Tryz.func50, Tryz.ntmps50
    go_wp2_with (go_at_call 79; refine HU.out.mono ?_; rintro e w0 ⟨rfl, hB0⟩)
    go_loopw [4] (fun i wr => ∃ k : Nat, k ≤ n ∧ i = .int .i64 (k + 1) ∧ adjAny notBefore (l.take (k + 1)) = false ∧ Below w.heap.size w wr) (fun i _ => n - (intOf i).toNat)
    case atStart => exact ⟨0, Nat.zero_le _, rfl, by cases l <;> simp [adjAny], hB0⟩
    case round =>
      obtain ⟨k, hk, rfl, hno, hB⟩ := hrel
      have HNO := Lib.hid hno
      clear hno
      by_cases hlt : k + 1 < n
      · obtain ⟨b, off, s, A', n', c', rfl, hs, _, _, c0, c1, c2⟩ := mp_at (i := k) (HL.out.kept hB) (by omega)
        obtain ⟨b', off', s', A'', n'', c'', hA', hs', _, _, c0', c1', c2'⟩ := mp_at (i := k + 1) (HL.out.kept hB) (by omega)
        simp only [Option.some.injEq, Addr.mk.injEq] at hA'
        obtain ⟨rfl, rfl, _⟩ := hA'
        have HS := Lib.hid hs
        have HS' := Lib.hid hs'
        clear hs hs'
        go_wp2
        have hw1 : IntKind.i64.wrap (k : Int) = (k : Int) := IntWalk.i64_in _ (by omega)
        have hw2 : k < n := by omega
        have hw3 : (0 : Int) ≤ (k : Int) + 1 := by omega
        have hw4 : (k : Int) + 1 < (n : Int) := by omega
        have hw5 : ((k : Int) + 1).toNat = k + 1 := by omega
        refine region_still_tail 9 (by kernel_rfl) (by kernel_rfl) ?_
        simp only [List.take_succ_cons, List.take_zero, List.drop_succ_cons, List.drop_zero]
        iterate 9 still_step
        refine wpStill_nil ?_
        clear hw1 hw2 hw3 hw4 hw5
        have HBF := Lib.hid (r11before s s' (.slice A' n' c') (.slice A'' n'' c'') wr.drew)
        cases hbf : beforeB s s'
        · rw [hbf] at HBF
          have hres : refMapCheck l = 4 := by
            unfold refMapCheck
            rw [if_neg (by simp [HUZ.out]), if_pos (adjAny_true_of_take _ _ (k + 2) (by rw [adjAny_take _ HS.out HS'.out]; simp [notBefore, hbf]))]
          have HR := Lib.hid hres
          clear hbf hres
          go_wp2_with (go_at_call 80; refine HBF.out.mono ?_; rintro e w' ⟨rfl, hk2⟩)
          go_ret
          exact ⟨ret_int HR.out.symm, Kept.trans hB (Kept.trans (Kept.drew (Kept.refl _)) hk2)⟩
        · rw [hbf] at HBF
          have HC := Lib.hid hbf
          clear hbf
          go_wp2_with (go_at_call 80; refine HBF.out.mono ?_; rintro e w' ⟨rfl, hk2⟩)
          go_roundw
          case rel => exact ⟨k + 1, by omega, by go_num, by rw [adjAny_take _ HS.out HS'.out, HNO.out]; simp [notBefore, HC.out], Kept.trans hB (Kept.trans (Kept.drew (Kept.refl _)) hk2)⟩
          case measure => simp [intOf]; omega
      · have hres : refMapCheck l = 0 := by
          have h := HNO.out
          rw [List.take_of_length_le (by have := HN.out; omega)] at h
          unfold refMapCheck
          rw [if_neg (by simp [HUZ.out]), h]; rfl
        have HR := Lib.hid hres
        clear hres
        go_wp2
        go_ret
        exact ⟨ret_int HR.out.symm, hB⟩
  · have hb : (refUnsorted l != 0) = true := by simp [hu]
    have HR := Lib.hid (show refMapCheck l = refUnsorted l by unfold refMapCheck; rw [if_pos hu])
    clear hu
    go_enter Tryz.func50, Tryz.ntmps50
    go_wp2_with (go_at_call 79; refine HU.out.mono ?_; rintro e w0 ⟨rfl, hB0⟩)
    go_ret
    exact ⟨ret_int HR.out.symm, hB0⟩

theorem r20Class (A : Option Addr) (n c : Nat) (l : List Span) (x : Int) (w : World) (hn : n ≤ 1000) (hl : Spans w A n l) :
    Calls Tryz.prog 54 #[.slice A n c, .int .i64 x] w (RetI w (classOf (usableSpans l) x)) := by
  have HL := Lib.hid hl
  have HN := Lib.hid hl.1
  have HC := Lib.hid (r20Check A n c l w hn hl)
  clear hl
  by_cases h : ordCheck l = 0
  · have hb : (ordCheck l != 0) = false := by simp [h]
    have HU := Lib.hid (show usableSpans l = l from if_pos h)
    clear h
    go_enter Tryz.func54, Tryz.ntmps54
    go_wp2_with (go_at_call 49; refine HC.out.mono ?_; rintro e w1 ⟨rfl, hk1⟩)
    go_loop [5] (fun i => ∃ k : Nat, k ≤ n ∧ i = .int .i64 k ∧ ∀ s ∈ l.take k, ¬ (s.lo ≤ x ∧ x ≤ s.hi)) (fun i => n - (intOf i).toNat)
    case atStart => exact ⟨0, Nat.zero_le _, rfl, by simp⟩
    case round =>
      obtain ⟨k, hk, rfl, hno⟩ := hrel
      have HNO := Lib.hid hno
      clear hno
      by_cases hlt : k < n
      · obtain ⟨b, off, s, rfl, hs, c0, c1, c2⟩ := span_at (HL.out.kept hk1) hlt
        have HS := Lib.hid hs
        clear hs
        by_cases h1 : s.lo ≤ x
        · by_cases h2 : x ≤ s.hi
          · have hres : classOf l x = s.val := classOf_first HNO.out HS.out h1 h2
            have HR := Lib.hid hres
            clear hres
            go_wp2
            go_ret
            exact ⟨ret_int (by rw [HU.out, HR.out]), hk1⟩
          · go_wp2
            go_round
            case rel => exact ⟨k + 1, by omega, by go_num, fun t ht => by
              rw [take_succ_some HS.out, List.mem_append, List.mem_singleton] at ht
              rcases ht with ht | rfl
              · exact HNO.out t ht
              · omega⟩
            case measure => simp [intOf]; omega
        · go_wp2
          go_round
          case rel => exact ⟨k + 1, by omega, by go_num, fun t ht => by
            rw [take_succ_some HS.out, List.mem_append, List.mem_singleton] at ht
            rcases ht with ht | rfl
            · exact HNO.out t ht
            · omega⟩
          case measure => simp [intOf]; omega
      · have hres : classOf l x = 0 := classOf_none (by have := HNO.out; rwa [List.take_of_length_le (by have := HN.out; omega)] at this)
        have HR := Lib.hid hres
        clear hres
        go_wp2
        go_ret
        exact ⟨ret_int (by rw [HU.out, HR.out]), hk1⟩
  · have hb : (ordCheck l != 0) = true := by simp [h]
    have HU := Lib.hid (show usableSpans l = [] from if_neg h)
    clear h
    go_enter Tryz.func54, Tryz.ntmps54
    go_wp2_with (go_at_call 49; refine HC.out.mono ?_; rintro e w1 ⟨rfl, hk1⟩)
    go_ret
    exact ⟨ret_int (by rw [HU.out]; rfl), hk1⟩
end Go.Proofs.YtljkkfohlkhjnaaGreatDoor
