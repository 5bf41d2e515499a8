/- Leaf functions: kinds of Hangul, code points, cmp. hangul.parts and Decompose, and the reference's. And more of that kind. -/
import Derived.Laws.StructEq
import Derived.Test.YtmlcdohldkgcdaaGreatDoorKBase
import Derived.Test.YtmlcdohldkgcdaaGreatDoorKPl
import Derived.Test.YtmlcdohldkgcdaaGreatDoorKOwn
import Derived.Test.YtmlcdohldkgcdaaGreatDoorKPl41
namespace Go.Proofs.YtmlcdohldkgcdaaGreatDoor
open Go Go.RowKit
theorem valid_any (c : Int) (w : World) : Calls Tryz.prog 54 #[.int .i64 c] w fun e w' => e = .returned (.bool (validB c)) ∧ w = w' := by
  go_enter Tryz.func54, Tryz.ntmps54
  go_wp2
  all_goals (go_ret; exact ⟨ret_bool (by simp [validB, *] <;> omega), rfl⟩)
theorem rvalid_any (c : Int) (w : World) : Calls Tryz.prog 104 #[.int .i64 c] w fun e w' => e = .returned (.bool (validB c)) ∧ w = w' := by
  go_enter Tryz.func104, Tryz.ntmps104
  go_wp2
  all_goals (go_ret; exact ⟨ret_bool (by simp [validB, *] <;> omega), rfl⟩)
theorem kind_any (c : Int) (w : World) :
    Calls Tryz.prog 149 #[.int .i64 c] w fun e w' => e = .returned (.int .i64 (kind c)) ∧ w = w' := by
  go_enter Tryz.func149, Tryz.ntmps149
  go_wp2
  all_goals (go_ret; refine ⟨ret_int ?_, rfl⟩; unfold kind; simp_all <;> omega)
theorem rkind_any (c : Int) (w : World) :
    Calls Tryz.prog 204 #[.int .i64 c] w fun e w' => e = .returned (.int .i64 (kind c)) ∧ w = w' := by
  go_enter Tryz.func204, Tryz.ntmps204
  go_wp2
  all_goals (go_ret; refine ⟨ret_int ?_, rfl⟩; unfold kind; simp_all <;> omega)
theorem isNaN_any (c : Int) (w : World) : Calls Tryz.prog 109 #[.int .i64 c] w fun e w' => e = .returned (.bool false) ∧ w = w' := by
  go_enter Tryz.func109, Tryz.ntmps109
  go_wp2
  all_goals (go_ret; exact ⟨ret_bool (by simp), rfl⟩)
theorem cmp_any (a b : Int) (w : World) : Calls Tryz.prog 84 #[.int .i64 a, .int .i64 b] w fun e w' => e = .returned (.int .i64 (cmpI a b)) ∧ w = w' := by
  go_enter Tryz.func84, Tryz.ntmps84
  go_wp2_with (go_at_call 109; refine (isNaN_any _ _).mono ?_; rintro e w' ⟨rfl, rfl⟩)
  all_goals (go_ret; exact ⟨ret_int (by unfold cmpI; first | (rw [if_pos (by assumption)]) | (rw [if_neg (by omega), if_pos (by omega)]) | (rw [if_neg (by omega), if_neg (by omega)])), rfl⟩)
theorem or_two (b off c : Nat) (x y : Int) (w : World) (h0 : w.cell? ⟨b, off, none⟩ = some (.int .i64 x)) (h1 : w.cell? ⟨b, off + 1, none⟩ = some (.int .i64 y)) :
    Calls Tryz.prog 101 #[.slice (some ⟨b, off, none⟩) 2 c] w fun e w' => e = .returned (.int .i64 (orI x y)) ∧ w = w' := by
  by_cases hx : x = 0
  · subst hx
    by_cases hy : y = 0
    · subst hy
      go_enter Tryz.func101, Tryz.ntmps101
      go_wp2
      refine wp_loop_rounds 3 ?_
      rw [rounds_succ]
      go_wp2
      rw [rounds_succ]
      go_wp2
      rw [rounds_succ]
      go_wp2
      go_ret
      exact ⟨rfl, rfl⟩
    · have hb : (y != 0) = true := by simpa using hy
      go_enter Tryz.func101, Tryz.ntmps101
      go_wp2
      refine wp_loop_rounds 3 ?_
      rw [rounds_succ]
      go_wp2
      rw [rounds_succ]
      go_wp2
      go_ret
      exact ⟨rfl, rfl⟩
  · have hb : (x != 0) = true := by simpa using hx
    have ho : orI x y = x := if_neg hx
    have HO := Lib.hid ho
    clear ho
    go_enter Tryz.func101, Tryz.ntmps101
    go_wp2
    refine wp_loop_rounds 3 ?_
    rw [rounds_succ]
    go_wp2
    go_ret
    exact ⟨ret_int HO.out.symm, rfl⟩
end Go.Proofs.YtmlcdohldkgcdaaGreatDoor
namespace Go.Proofs.YtmlcdohldkgcdaaGreatDoor
open Go Go.RowKit
theorem kind_ge {c : Int} (h : 4 ≤ kind c) : 44032 ≤ c ∧ c < 55204 := by
  unfold kind at h
  by_cases h1 : 4352 ≤ c ∧ c < 4371
  · rw [if_pos h1] at h; omega
  · by_cases h2 : 4449 ≤ c ∧ c < 4470
    · rw [if_neg h1, if_pos h2] at h; omega
    · by_cases h3 : 4520 ≤ c ∧ c < 4547
      · rw [if_neg h1, if_neg h2, if_pos h3] at h; omega
      · by_cases h4 : c < 44032 ∨ 55204 ≤ c
        · rw [if_neg h1, if_neg h2, if_neg h3, if_pos h4] at h; omega
        · omega
theorem hparts_any (c : Int) (w : World) : Calls Tryz.prog 192 #[.int .i64 c] w fun e w' =>
    e = .returned (.agg (if kind c < 4 then #[.int .i64 0, .int .i64 0, .int .i64 0] else #[.int .i64 (hL c), .int .i64 (hV c), .int .i64 (hT c)])) ∧ Kept w w' := by
  by_cases hk : kind c < 4
  · rw [if_pos hk]
    go_enter Tryz.func192, Tryz.ntmps192
    go_wp2_with (go_at_call 149; refine (kind_any _ _).mono ?_; rintro e w' ⟨rfl, rfl⟩)
    exact bodyPost_ret (v := .agg #[.int .i64 0, .int .i64 0, .int .i64 0]) (by simp [results, Tryz.results192, go_sem]) rfl ⟨rfl, by repeat (first | exact Kept.refl _ | refine Kept.drew ?_ | refine Kept.alloc ?_ _)⟩
  · rw [if_neg hk]
    have hr := kind_ge (c := c) (by omega)
    obtain ⟨hr1, hr2⟩ := hr
    by_cases ht : (c - 44032) % 28 = 0
    · have e3 : hT c = 0 := if_pos ht
      have HT3 := Lib.hid e3
      have ht' : ¬ 0 < (c - 44032) % 28 := by omega
      clear e3
      go_enter Tryz.func192, Tryz.ntmps192
      go_wp2_with (go_at_call 149; refine (kind_any _ _).mono ?_; rintro e w' ⟨rfl, rfl⟩)
      rw [HT3.out]
      exact bodyPost_ret (v := .agg #[.int .i64 (hL c), .int .i64 (hV c), .int .i64 0]) (by simp [results, Tryz.results192, go_sem, hL, hV]) rfl ⟨rfl, by repeat (first | exact Kept.refl _ | refine Kept.drew ?_ | refine Kept.alloc ?_ _)⟩
    · have e3 : hT c = 4520 + (c - 44032) % 28 - 1 := if_neg ht
      have HT3 := Lib.hid e3
      have ht' : 0 < (c - 44032) % 28 := by omega
      clear e3 ht
      go_enter Tryz.func192, Tryz.ntmps192
      go_wp2_with (go_at_call 149; refine (kind_any _ _).mono ?_; rintro e w' ⟨rfl, rfl⟩)
      rw [HT3.out]
      exact bodyPost_ret (v := .agg #[.int .i64 (hL c), .int .i64 (hV c), .int .i64 (4520 + (c - 44032) % 28 - 1)]) (by simp [results, Tryz.results192, go_sem, hL, hV]) rfl ⟨rfl, by repeat (first | exact Kept.refl _ | refine Kept.drew ?_ | refine Kept.alloc ?_ _ | refine Kept.setCell ?_ (by simp) _)⟩
end Go.Proofs.YtmlcdohldkgcdaaGreatDoor
namespace Go.Proofs.YtmlcdohldkgcdaaGreatDoor
open Go Go.RowKit
theorem eq3_same (w : World) : (binOp .eql 242 (.agg #[.int .i64 0, .int .i64 0, .int .i64 0]) (.agg #[.int .i64 0, .int .i64 0, .int .i64 0])).run Tryz.prog w = .ok (.bool true) w := by kernel_rfl
theorem eq3_other (a b c : Int) (h : a ≠ 0) (w : World) : (binOp .eql 242 (.agg #[.int .i64 a, .int .i64 b, .int .i64 c]) (.agg #[.int .i64 0, .int .i64 0, .int .i64 0])).run Tryz.prog w = .ok (.bool false) w := by
  have hu : Tryz.prog.underlying 242 = some (.array 3 3) := by kernel_rfl
  have hu3 : Tryz.prog.underlying 3 = some (.int .i64) := by kernel_rfl
  have hs : (sizeOf 3).run Tryz.prog w = .ok 1 w := by kernel_rfl
  have hp : ∀ x y z, (part 3 #[.int .i64 x, .int .i64 y, .int .i64 z] (0 * 1)).run Tryz.prog w = .ok (.int .i64 x) w := fun x y z => by kernel_rfl
  have hd : ∀ d : Nat, (Op.equalIn (d + 2) 242 (.agg #[.int .i64 a, .int .i64 b, .int .i64 c]) (.agg #[.int .i64 0, .int .i64 0, .int .i64 0])).run Tryz.prog w = .ok false w := by
    intro d
    have e : (a == 0) = false := by simpa using h
    rw [Op.equalIn]
    simp only [Sem.run_bind, run_underlying hu, Result.andThen_ok, hs]
    rw [Std.Legacy.Range.forIn_eq_forIn_range']
    simp [Std.Legacy.Range.size, List.range'_succ, List.forIn_cons, Sem.run_bind, hp, run_equalIn_int w d 3 .i64 .i64 a 0 hu3, e]
  simp only [binOp]
  simp [Op.equal, Op.maxDepth, hd 9998]
theorem hdecomp_any (c : Int) (w : World) : Calls Tryz.prog 154 #[.int .i64 c] w (RetInts w (decompH c)) := by
  by_cases hk : kind c < 4
  · have hp := hparts_any c w
    rw [if_pos hk] at hp
    have HP := Lib.hid hp
    have HD := Lib.hid (show decompH c = [c] from if_pos hk)
    clear hp hk
    have he := eq3_same
    go_enter Tryz.func154, Tryz.ntmps154
    go_wp2_with (go_at_call 192; refine HP.out.mono ?_; rintro e w' ⟨rfl, hk1⟩)
    go_ret
    refine ⟨_, 1, 1, rfl, Nat.le_refl _, ?_, Kept.alloc (Kept.alloc hk1 _) _⟩
    rw [HD.out]
    exact Ints.alloc_ (xs := [c]) (by simp) rfl
  · have hp := hparts_any c w
    rw [if_neg hk] at hp
    have HP := Lib.hid hp
    obtain ⟨hr1, hr2⟩ := kind_ge (c := c) (by omega)
    have hl0 : hL c ≠ 0 := by unfold hL; omega
    have he := eq3_other (hL c) (hV c) (hT c) hl0
    clear hp
    by_cases ht : (c - 44032) % 28 = 0
    · have hz : (hT c == 0) = true := by unfold hT; rw [if_pos ht]; rfl
      have HD := Lib.hid (show decompH c = [hL c, hV c] by unfold decompH; rw [if_neg hk, if_pos ht])
      clear ht hk hl0
      go_enter Tryz.func154, Tryz.ntmps154
      go_wp2_with (go_at_call 192; refine HP.out.mono ?_; rintro e w' ⟨rfl, hk1⟩)
      go_ret
      refine ⟨_, 2, 2, rfl, Nat.le_refl _, ?_, Kept.alloc (Kept.alloc hk1 _) _⟩
      rw [HD.out]
      exact Ints.alloc_ (xs := [hL c, hV c]) (by simp) rfl
    · have hz : (hT c == 0) = false := by unfold hT; rw [if_neg ht]; simp; omega
      have HD := Lib.hid (show decompH c = [hL c, hV c, hT c] by unfold decompH; rw [if_neg hk, if_neg ht])
      clear ht hk hl0
      go_enter Tryz.func154, Tryz.ntmps154
      go_wp2_with (go_at_call 192; refine HP.out.mono ?_; rintro e w' ⟨rfl, hk1⟩)
      go_ret
      refine ⟨_, 3, 3, rfl, Nat.le_refl _, ?_, Kept.alloc (Kept.alloc hk1 _) _⟩
      rw [HD.out]
      exact Ints.alloc_ (xs := [hL c, hV c, hT c]) (by simp) rfl
end Go.Proofs.YtmlcdohldkgcdaaGreatDoor
namespace Go.Proofs.YtmlcdohldkgcdaaGreatDoor
open Go Go.RowKit
theorem once1_any (s : Mp) (v1 v2 : Value) (c : Int) (w : World) : Calls Tryz.prog 156 #[.agg #[.int .i64 s.src, v1, v2], .int .i64 c] w (RetI w (cmpI s.src c)) := by
  go_enter Tryz.func156, Tryz.ntmps156
  go_wp2_with (go_at_call 84; refine (cmp_any _ _ _).mono ?_; rintro e w' ⟨rfl, rfl⟩)
  go_ret
  exact ⟨rfl, Kept.alloc (Kept.refl _) _⟩
def BsMp (w : World) (l : List Mp) (c : Int) (e : Ending) (w' : World) : Prop :=
  ∃ (i : Nat) (ok : Bool), e = .returned (.tuple #[.int .i64 (i : Int), .bool ok]) ∧ Kept w w' ∧ i ≤ l.length ∧
    (ok = true → ∃ s, l[i]? = some s ∧ s.src = c) ∧ (ok = false → ∀ s ∈ l, ¬ s.src = c)
set_option maxRecDepth 100000 in
set_option maxHeartbeats 1000000 in
theorem bs_mp (A : Option Addr) (n cp : Nat) (l : List Mp) (c : Int) (w : World) (hn : n ≤ 100000) (hl : Mps w A n l) (hs : MpSorted l) :
    Calls Tryz.prog 155 #[.slice A n cp, .int .i64 c, .func (.func 156) #[] #[]] w (BsMp w l c) := by
  have HL := Lib.hid hl
  have HN := Lib.hid hl.1
  have HO := Lib.hid hs
  clear hl hs
  go_enter Tryz.func155, Tryz.ntmps155
  go_wp2
  go_loopw [9, 10] (fun a b wr => ∃ i j : Nat, i ≤ j ∧ j ≤ n ∧ a = .int .i64 i ∧ b = .int .i64 j ∧ (∀ k s, k < i → l[k]? = some s → s.src < c) ∧ (∀ k s, j ≤ k → l[k]? = some s → c ≤ s.src) ∧ Below w.heap.size w wr) (fun a b _ => (intOf b).toNat - (intOf a).toNat)
  case atStart => exact ⟨0, n, Nat.zero_le _, Nat.le_refl _, rfl, rfl, fun k s h => by omega, fun k s h1 h2 => by have := lt_of_getElem?_some h2; have := HN.out; omega, Below.refl _ _⟩
  case round =>
    obtain ⟨i, j, hij, hjn, rfl, rfl, hlo, hhi, hB⟩ := hrel
    have HLO := Lib.hid hlo
    have HHI := Lib.hid hhi
    clear hlo hhi
    by_cases hlt : i < j
    · obtain ⟨b, off, s, A', n', c', rfl, hs, _, _, c0, c1, c2⟩ := mp_at (i := (i + j) / 2) (HL.out.kept hB) (by omega)
      have HS := Lib.hid hs
      clear hs
      by_cases hcmp : s.src < c
      · have hz : cmpI s.src c < 0 := by unfold cmpI; rw [if_pos hcmp]; decide
        go_wp2_with (go_at_call 156; refine (once1_any _ _ _ _ _).mono ?_; rintro e w' ⟨rfl, hk2⟩)
        go_roundw
        case rel =>
          refine ⟨(i + j) / 2 + 1, j, by omega, hjn, by go_num, rfl, fun k t hk ht => ?_, HHI.out, Kept.trans hB hk2⟩
          rcases Nat.lt_or_ge k ((i + j) / 2) with h | h
          · have h1 := HO.out k _ t s h ht HS.out
            omega
          · obtain rfl : k = (i + j) / 2 := by omega
            have := HS.out
            rw [ht] at this
            injection this with this
            subst this
            exact hcmp
        case measure => simp [intOf]; omega
      · have hz : ¬ cmpI s.src c < 0 := by unfold cmpI; rw [if_neg hcmp]; split <;> decide
        go_wp2_with (go_at_call 156; refine (once1_any _ _ _ _ _).mono ?_; rintro e w' ⟨rfl, hk2⟩)
        go_roundw
        case rel =>
          refine ⟨i, (i + j) / 2, by omega, by omega, rfl, by go_num, HLO.out, fun k t hk ht => ?_, Kept.trans hB hk2⟩
          rcases Nat.lt_or_ge ((i + j) / 2) k with h | h
          · have h1 := HO.out _ k s t h HS.out ht
            omega
          · obtain rfl : k = (i + j) / 2 := by omega
            have := HS.out
            rw [ht] at this
            injection this with this
            subst this
            omega
        case measure => simp [intOf]; omega
    · obtain rfl : i = j := by omega
      by_cases hin : i < n
      · obtain ⟨b, off, s, A', n', c', rfl, hs, _, _, c0, c1, c2⟩ := mp_at (i := i) (HL.out.kept hB) (by omega)
        have HS := Lib.hid hs
        clear hs
        have hnot : ∀ (k : Nat) (t : Mp), l[k]? = some t → k ≠ i → ¬ t.src = c := fun k t ht hki => by
          rcases Nat.lt_or_gt_of_ne hki with h | h
          · have := HLO.out k t h ht; omega
          · have h0 := HO.out i k s t h HS.out ht
            have h1 := HHI.out i s (Nat.le_refl _) HS.out
            omega
        have HNOT := Lib.hid hnot
        clear hnot
        by_cases hz : cmpI s.src c = 0
        · have hz' : (cmpI s.src c == 0) = true := by simpa using hz
          have HZ := Lib.hid hz
          clear hz
          go_wp2_with (go_at_call 156; refine (once1_any _ _ _ _ _).mono ?_; rintro e w' ⟨rfl, hk2⟩)
          go_ret2
          refine ⟨i, true, rfl, Kept.trans hB hk2, by have := HN.out; omega, fun _ => ⟨s, HS.out, ?_⟩, fun h => by cases h⟩
          have := HZ.out
          unfold cmpI at this
          by_cases h1 : s.src < c
          · rw [if_pos h1] at this; omega
          · by_cases h2 : c < s.src
            · rw [if_neg h1, if_pos h2] at this; omega
            · omega
        · have hz' : (cmpI s.src c == 0) = false := by simpa using hz
          have HZ := Lib.hid hz
          clear hz
          go_wp2_with (go_at_call 156; refine (once1_any _ _ _ _ _).mono ?_; rintro e w' ⟨rfl, hk2⟩)
          go_ret2
          refine ⟨i, false, rfl, Kept.trans hB hk2, by have := HN.out; omega, (fun h => by cases h), fun _ t ht => ?_⟩
          obtain ⟨k, hk, e⟩ := List.getElem_of_mem ht
          have ht' : l[k]? = some t := by rw [List.getElem?_eq_getElem hk, e]
          by_cases hki : k = i
          · subst hki
            have := HS.out
            rw [ht'] at this
            injection this with this
            subst this
            intro hc
            exact HZ.out (by unfold cmpI; rw [if_neg (by omega), if_neg (by omega)])
          · exact HNOT.out k t ht' hki
      · go_wp2_with fail
        go_ret2
        refine ⟨i, false, rfl, hB, by have := HN.out; omega, (fun h => by cases h), fun _ t ht => ?_⟩
        obtain ⟨k, hk, e⟩ := List.getElem_of_mem ht
        have ht' : l[k]? = some t := by rw [List.getElem?_eq_getElem hk, e]
        have := HLO.out k t (by have := HN.out; omega) ht'
        omega
end Go.Proofs.YtmlcdohldkgcdaaGreatDoor
namespace Go.Proofs.YtmlcdohldkgcdaaGreatDoor
open Go Go.RowKit
structure Sls where
  Ac : Option Addr
  nc : Nat
  cc : Nat
  Am : Option Addr
  nm : Nat
  cm : Nat
  Ae : Option Addr
  ne : Nat
  ce : Nat
def Sls.val (s : Sls) : Value := .agg #[.slice s.Ac s.nc s.cc, .slice s.Am s.nm s.cm, .slice s.Ae s.ne s.ce]
structure NormAt (w : World) (s : Sls) (n : Nrm) : Prop where
  hc : s.nc ≤ s.cc
  hm : s.nm ≤ s.cm
  he : s.ne ≤ s.ce
  bc : s.nc ≤ 1000
  bm : s.nm ≤ 1000
  be : s.ne ≤ 1000
  cls : Spans w s.Ac s.nc n.classes
  dec : Mps w s.Am s.nm n.decomp
  exc : Rngs w s.Ae s.ne n.excl
  to : ∀ m ∈ n.decomp, m.to.length ≤ 1000
theorem NormAt.kept {w w' : World} {s : Sls} {n : Nrm} (h : NormAt w s n) (hk : Kept w w') : NormAt w' s n :=
  ⟨h.hc, h.hm, h.he, h.bc, h.bm, h.be, h.cls.kept hk, h.dec.kept hk, h.exc.kept hk, h.to⟩
def RetOnce (w : World) (r : Option (List Int)) (e : Ending) (w' : World) : Prop := Kept w w' ∧ match r with
  | none => e = .returned (.tuple #[.slice none 0 0, .bool false])
  | some xs => ∃ A n c, e = .returned (.tuple #[.slice A n c, .bool true]) ∧ n ≤ c ∧ Ints w' A n xs
set_option maxHeartbeats 1000000 in
theorem once_any (s : Sls) (n : Nrm) (c : Int) (compat : Bool) (w : World) (hN : NormAt w s n) (hs : MpSorted n.decomp) :
    Calls Tryz.prog 118 #[s.val, .int .i64 c, .bool compat] w (RetOnce w (onceOf n.decomp c compat)) := by
  unfold Sls.val
  have HS := Lib.hid hs
  have HN := Lib.hid hN
  have hbm := hN.bm
  clear hN hs
  by_cases hk : 4 ≤ kind c
  · have HO := Lib.hid (show onceOf n.decomp c compat = some (decompH c) from if_pos hk)
    go_enter Tryz.func118, Tryz.ntmps118
    go_wp2_with (first
      | (go_at_call 149; refine (kind_any _ _).mono ?_; rintro e w' ⟨rfl, rfl⟩)
      | (go_at_call 154; refine (hdecomp_any _ _).mono ?_; rintro e w' ⟨A, nn, cc, rfl, hle, hI, hk2⟩))
    go_ret2
    rw [HO.out]
    exact ⟨Kept.trans (Kept.alloc (Kept.refl _) _) hk2, A, nn, cc, rfl, hle, hI⟩
  · have hO : onceOf n.decomp c compat = mapOf n.decomp c compat := if_neg hk
    have HO := Lib.hid hO
    clear hO
    go_enter Tryz.func118, Tryz.ntmps118
    go_wp2_with (go_at_call 149; refine (kind_any _ _).mono ?_; rintro e w' ⟨rfl, rfl⟩)
    refine (bs_mp _ _ _ n.decomp _ _ (by omega) (HN.out.dec.kept (Kept.alloc (Kept.refl _) _)) HS.out).mono ?_
    rintro e w1 ⟨i, ok, rfl, hk1, hi, hyes, hno⟩
    have hbx := box_cell w #[Value.slice s.Ac s.nc s.cc, Value.slice s.Am s.nm s.cm, Value.slice s.Ae s.ne s.ce] 28
    have e1 := hk1.cell (hbx 1)
    clear hbx
    have hkw := Kept.trans (Kept.alloc (Kept.refl _) _) hk1
    cases ok
    · have HNO := Lib.hid (hno rfl)
      clear hno hyes
      go_wp2_with fail
      go_ret2
      rw [HO.out, mapOf_none HNO.out]
      exact ⟨hkw, rfl⟩
    · obtain ⟨m, hm, hc⟩ := hyes rfl
      have hin : i < s.nm := by have h1 := lt_of_getElem?_some hm; have h2 := HN.out.dec.1; omega
      obtain ⟨b, off, m', A', n', c', hA, hm', hle, hI, c0, c1, c2⟩ := mp_at (i := i) (HN.out.dec.kept hkw) hin
      have em : m' = m := by rw [hm] at hm'; injection hm' with h; exact h.symm
      subst em
      rw [hA] at e1 ⊢
      have HI := Lib.hid hI
      have HM := Lib.hid (mapOf_some (compat := compat) HS.out hm hc)
      clear hno hyes hm hm' hI hA hc
      cases ht : m'.tag.toList.isEmpty
      · have hte : ¬ m'.tag.toList = [] := by simpa using ht
        cases compat
        · go_wp2_with fail
          go_ret2
          rw [HO.out, HM.out, if_neg (by simp [plainTag, ht])]
          exact ⟨hkw, rfl⟩
        · go_wp2_with fail
          go_ret2
          rw [HO.out, HM.out, if_pos (by simp)]
          exact ⟨hkw, A', n', c', rfl, hle, HI.out⟩
      · have hte : m'.tag.toList = [] := by simpa using ht
        go_wp2_with fail
        go_ret2
        rw [HO.out, HM.out, if_pos (by simp [plainTag, ht])]
        exact ⟨hkw, A', n', c', rfl, hle, HI.out⟩
end Go.Proofs.YtmlcdohldkgcdaaGreatDoor
namespace Go.Proofs.YtmlcdohldkgcdaaGreatDoor
section
variable (b p c : Int → Bool)
def splitF : Nat → Nat → List Int → List Rng
  | 0, _, _ => []
  | _ + 1, _, [] => []
  | f + 1, lo, x :: t => if (idScan b p c (x :: t)).1 = 0 then splitF f (lo + 1) t else ⟨lo, ((lo + (idScan b p c (x :: t)).1 : Nat) : Int)⟩ :: splitF f (lo + (idScan b p c (x :: t)).1) ((x :: t).drop (idScan b p c (x :: t)).1)
def splitL (text : List Int) : List Rng := splitF b p c text.length 0 text
end
section
variable {b p c : Int → Bool}
theorem splitF_more : ∀ (f g lo : Nat) (t : List Int), t.length ≤ f → t.length ≤ g → splitF b p c f lo t = splitF b p c g lo t
  | 0, g, lo, t, hf, _ => by
    have : t = [] := List.eq_nil_of_length_eq_zero (by omega)
    subst this
    cases g <;> rfl
  | f + 1, 0, lo, t, _, hg => by
    have : t = [] := List.eq_nil_of_length_eq_zero (by omega)
    subst this
    rfl
  | f + 1, g + 1, lo, [], _, _ => rfl
  | f + 1, g + 1, lo, x :: t, hf, hg => by
    simp only [List.length_cons] at hf hg
    rw [splitF, splitF]
    split
    · exact splitF_more f g _ t (by omega) (by omega)
    · rename_i h0
      rw [splitF_more f g _ _ (by rw [List.length_drop, List.length_cons]; omega) (by rw [List.length_drop, List.length_cons]; omega)]
theorem split_step {text : List Int} {lo : Nat} {x : Int} {t : List Int} (h : text.drop lo = x :: t) :
    splitF b p c text.length lo (text.drop lo) = if (idScan b p c (text.drop lo)).1 = 0 then splitF b p c text.length (lo + 1) (text.drop (lo + 1)) else ⟨lo, ((lo + (idScan b p c (text.drop lo)).1 : Nat) : Int)⟩ :: splitF b p c text.length (lo + (idScan b p c (text.drop lo)).1) (text.drop (lo + (idScan b p c (text.drop lo)).1)) := by
  have hl : (text.drop lo).length = text.length - lo := List.length_drop
  have hlt : lo < text.length := by rw [h] at hl; simp at hl; omega
  obtain ⟨f, hf⟩ : ∃ f, text.length = f + 1 := ⟨text.length - 1, by omega⟩
  have ht : text.drop (lo + 1) = t := by rw [← List.drop_drop, h]; rfl
  have htl : t.length ≤ f := by rw [h] at hl; simp at hl; omega
  rw [hf, h, splitF]
  split
  · rw [ht]; exact splitF_more _ _ _ _ htl (by omega)
  · rename_i h0
    congr 1
    have e : text.drop (lo + (idScan b p c (x :: t)).1) = (x :: t).drop (idScan b p c (x :: t)).1 := by rw [← h, List.drop_drop]
    rw [e]
    exact splitF_more _ _ _ _ (by rw [List.length_drop, List.length_cons]; omega) (by rw [List.length_drop, List.length_cons]; omega)
theorem split_end {text : List Int} {lo : Nat} (h : text.length ≤ lo) : splitF b p c text.length lo (text.drop lo) = [] := by
  rw [List.drop_eq_nil_of_le h]
  cases text.length <;> rfl
theorem scan_le (hb : ∀ x, b x = true → p x = true) (text : List Int) : (idScan b p c text).1 ≤ text.length := by
  obtain ⟨h1, h2, _, _⟩ := scan_spec (c := c) hb text
  omega
end
end Go.Proofs.YtmlcdohldkgcdaaGreatDoor
