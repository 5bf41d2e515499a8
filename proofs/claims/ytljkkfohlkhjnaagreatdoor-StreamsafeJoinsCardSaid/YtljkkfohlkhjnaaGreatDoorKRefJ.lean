/- References: ends of layer 21. -/
import Derived.Test.YtljkkfohlkhjnaaGreatDoorKRefI
namespace Go.Proofs.YtljkkfohlkhjnaaGreatDoor
open Go Go.RowKit

def encB (x : Bool) : List Value := [.bool x]
abbrev Bools (w : World) (A : Option Addr) (n : Nat) (xs : List Bool) : Prop := Sl 1 encB w A n xs
def RetBools (w : World) (xs : List Bool) (e : Ending) (w' : World) : Prop := ∃ A n c, e = .returned (.slice A n c) ∧ n ≤ c ∧ Bools w' A n xs ∧ Kept w w'
theorem info_bool : (Tryz.prog.info? 4).map (fun i => (i.zero, i.size, i.bytes)) = some (some (.bool false), 1, 1) := by kernel_rfl
theorem flat_encB : ∀ xs : List Bool, xs.flatMap encB = xs.map Value.bool
  | [] => rfl
  | x :: r => by rw [List.flatMap_cons, flat_encB r]; rfl
theorem endOk_none {l : List Mp} {out : List Bool} {c : Int} (h : findM l c true = none) : endOk l out c = true := by unfold endOk; rw [h]
theorem endOk_some {l : List Mp} {out : List Bool} {c : Int} {m : Nat} {b : Bool} (h : findM l c true = some m) (hb : out[m]? = some b) : endOk l out c = b := by unfold endOk; rw [h]; simp [hb]
theorem all_take_snoc {l : List Int} {k : Nat} {x : Int} {p : Int → Bool} (h : l[k]? = some x) : (l.take (k + 1)).all p = ((l.take k).all p && p x) := by
  rw [take_succ_some h, List.all_append]; simp
theorem endStep_at {l : List Mp} {out : List Bool} {i : Nat} {m : Mp} (h : l[i]? = some m) : endStep l out i = out.set i (m.to.all (endOk l out)) := by
  unfold endStep; rw [h]; rfl

set_option maxRecDepth 100000 in
set_option maxHeartbeats 4000000 in
theorem r21ends (A : Option Addr) (n c : Nat) (l : List Mp) (w : World) (hn : n ≤ 1000) (hl : Mps w A n l) (hto : ∀ m ∈ l, m.to.length ≤ 1000) :
    Calls Tryz.prog 55 #[.slice A n c] w (RetBools w (refEnds l)) := by
  have HL := Lib.hid hl
  have HN := Lib.hid hl.1
  have HTO := Lib.hid hto
  clear hl hto
  obtain ⟨i0, hi, hz0, hz1, hz2⟩ := info_parts info_bool
  have HI0 := Lib.hid hi
  have HZ0 := Lib.hid hz0
  have HZ1 := Lib.hid hz1
  have HZ2 := Lib.hid hz2
  clear hi hz0 hz1 hz2
  go_enter Tryz.func55, Tryz.ntmps55
  go_wp2_with (at_make; refine wpList_make_full _ rfl _ _ 75 rfl w.heap.size 4 i0 (.bool false) 1 Tryz.underlying75 HI0.out HZ0.out HZ1.out .i64 .i64 _ _ n rfl rfl rfl rfl (by rw [HZ2.out]; omega) (by unfold maxLen; omega) (Nat.le_refl _) ?_; intro w0 hown0 hgrow0)
  have hB0 : Below w.heap.size w w0 := (Below.refl _ w).grown hgrow0 (Nat.le_refl _) (fun q e => by cases e)
  have hown1 : w0.ownsRow w.heap.size 4 1 (.slice (some ⟨w.heap.size, 0, none⟩) n n) n ((List.replicate n false).map Value.bool) := by
    have := hown0
    rw [Nat.mul_one, show (Value.bool false).cells = #[Value.bool false] from rfl, toList_madeCells_one] at this
    simpa using this
  have HOW := Lib.hid hown1
  clear hown0 hown1 hgrow0
  obtain ⟨g, hg⟩ : ∃ g : Nat, g = w.heap.size := ⟨_, rfl⟩
  have HG := Lib.hid hg
  rw [← hg] at HOW hB0 ⊢
  clear hg
  go_loopw [4] (fun i wr => ∃ r : Nat, r ≤ n ∧ i = .int .i64 r ∧ wr.ownsRow g 4 1 (.slice (some ⟨g, 0, none⟩) n n) n ((iter (endRound l) r (List.replicate n false)).map Value.bool) ∧ Below g w wr) (fun i _ => n - (intOf i).toNat)
  case atStart => exact ⟨0, Nat.zero_le _, rfl, HOW.out, hB0⟩
  case round =>
    obtain ⟨r, hr, rfl, hown, hB⟩ := hrel
    have HO := Lib.hid hown
    have HB := Lib.hid hB
    clear hown hB
    by_cases hlt : r < n
    · have hilen : (iter (endRound l) r (List.replicate n false)).length = n := by rw [iter_length _ (endRound_length l)]; simp
      have HIT := Lib.hid (show iter (endRound l) (r + 1) (List.replicate n false) = endRound l (iter (endRound l) r (List.replicate n false)) from rfl)
      have HLEN := Lib.hid hilen
      clear hilen
      generalize iter (endRound l) r (List.replicate n false) = out0 at *
      go_wp2_with fail
      obtain ⟨w1, rfl⟩ : ∃ w1 : World, w1 = wr := ⟨_, rfl⟩
      go_loopw [5] (fun i wr => ∃ k : Nat, k ≤ n ∧ i = .int .i64 k ∧ wr.ownsRow g 4 1 (.slice (some ⟨g, 0, none⟩) n n) n (((List.range k).foldl (endStep l) out0).map Value.bool) ∧ Below g w wr) (fun i _ => n - (intOf i).toNat)
      case atStart => exact ⟨0, Nat.zero_le _, rfl, HO.out, HB.out⟩
      case round =>
        obtain ⟨k, hk, rfl, hown, hB⟩ := hrel
        have hk1 : ((List.range k).foldl (endStep l) out0).length = n := by rw [foldl_length _ (endStep_length l)]; exact HLEN.out
        have HSS := Lib.hid (range_succ_foldl (endStep l) k out0)
        have HK1 := Lib.hid hk1
        have HFIN := Lib.hid (show k = n → (List.range k).foldl (endStep l) out0 = endRound l out0 from fun e => by rw [e, HN.out]; rfl)
        clear hk1
        have HO2 := Lib.hid hown
        clear hown
        generalize (List.range k).foldl (endStep l) out0 = out at *
        by_cases hlt2 : k < n
        · have hkw : Kept w wr := by have := hB; rw [HG.out] at this; exact this
          obtain ⟨b, off, m, A', n', c', rfl, hm, hle, hI, c0, c1, c2⟩ := mp_at (HL.out.kept hkw) hlt2
          have hn' : n' ≤ 1000 := by rw [hI.1]; exact HTO.out m (mem_of_getElem?_some hm)
          have HES := Lib.hid (endStep_at (out := out) hm)
          have HL2 := Lib.hid (HL.out.kept hkw)
          have HI2 := Lib.hid hI
          have HIN := Lib.hid hI.1
          clear hm hI hkw c0 c2
          have hgb : g < wr.heap.size := (HO2.out.lt g rfl).2
          go_wp2_with fail
          go_loop [6, 7] (fun p i => ∃ (q : Nat) (a : Bool), q ≤ n' ∧ i = .int .i64 q ∧ p = .bool a ∧ a = (m.to.take q).all (endOk l out)) (fun _ i => n' - (intOf i).toNat)
          case atStart => exact ⟨0, true, Nat.zero_le _, rfl, rfl, by simp⟩
          case round =>
            obtain ⟨q, a, hq, rfl, rfl, ha⟩ := hrel
            have HAA := Lib.hid ha
            clear ha
            by_cases hlt3 : q < n'
            · obtain ⟨b', off', y, rfl, hy, cy⟩ := int_at HI2.out hlt3
              have HAS := Lib.hid (all_take_snoc (p := endOk l out) hy)
              clear hy
              cases a
              · go_wp2_with (go_at_call 52; refine (r21find _ _ _ l _ true _ (by omega) HL2.out).mono ?_; rintro e w' ⟨rfl, rfl⟩)
                go_round
                case rel => exact ⟨q + 1, false, by omega, by go_num, rfl, by rw [HAS.out, ← HAA.out]; rfl⟩
                case measure => simp [intOf]; omega
              · rcases hf : findM l y true with _ | mm
                · have HEO := Lib.hid (endOk_none (out := out) hf)
                  have HF := Lib.hid (r21find (some ⟨b, off, none⟩) n c l y true wr (by omega) HL2.out)
                  rw [hf] at HF
                  simp only [fI] at HF
                  clear hf
                  go_wp2_with (go_at_call 52; refine HF.out.mono ?_; rintro e w' ⟨rfl, rfl⟩)
                  go_round
                  case rel => exact ⟨q + 1, true, by omega, by go_num, rfl, by rw [HAS.out, ← HAA.out, HEO.out]; rfl⟩
                  case measure => simp [intOf]; omega
                · have hmm : mm < n := by have := findM_lt hf; have := HN.out; omega
                  obtain ⟨bv, hbv⟩ := getElem?_some_of_lt (l := out) (k := mm) (by rw [HK1.out]; exact hmm)
                  have HEO := Lib.hid (endOk_some hf hbv)
                  have cm : wr.cell? ⟨g, mm, none⟩ = some (.bool bv) := by rw [HO2.out.cellAt mm (by omega), List.getElem?_map, hbv]; rfl
                  have HF := Lib.hid (r21find (some ⟨b, off, none⟩) n c l y true wr (by omega) HL2.out)
                  rw [hf] at HF
                  simp only [fI] at HF
                  clear hf hbv
                  go_wp2_with (go_at_call 52; refine HF.out.mono ?_; rintro e w' ⟨rfl, rfl⟩)
                  go_round
                  case rel => exact ⟨q + 1, bv, by omega, by go_num, rfl, by rw [HAS.out, ← HAA.out, HEO.out]; rfl⟩
                  case measure => simp [intOf]; omega
            · have hfull : m.to.take q = m.to := List.take_of_length_le (by have := HIN.out; omega)
              have haf : a = m.to.all (endOk l out) := by have := HAA.out; rw [hfull] at this; exact this
              have HAF := Lib.hid haf
              clear haf hfull
              have hfz := HO2.out.frozenAt k
              obtain ⟨bo, hbo⟩ := getElem?_some_of_lt (l := out) (k := k) (by rw [HK1.out]; exact hlt2)
              have cg : wr.cell? ⟨g, k, none⟩ = some (.bool bo) := by rw [HO2.out.cellAt k (by omega), List.getElem?_map, hbo]; rfl
              clear hbo
              go_wp2_with fail
              have hst := HO2.out.stored k (.bool a)
              go_roundw
              case rel =>
                refine ⟨k + 1, by omega, by go_num, ?_, Below.setCell hB (Nat.le_refl _) _⟩
                rw [HSS.out, HES.out, ← HAF.out, List.map_set]
                exact hst.1
              case measure => simp [intOf]; omega
        · have hkn : k = n := by omega
          have HFI := Lib.hid (HFIN.out hkn)
          clear hkn
          go_wp2_with fail
          go_roundw
          case rel => exact ⟨r + 1, by omega, by go_num, by rw [HIT.out, ← HFI.out]; exact HO2.out, hB⟩
          case measure => simp [intOf]; omega
    · have hrn : r = n := by omega
      subst hrn
      have hown : wr.ownsRow g 4 1 (.slice (some ⟨g, 0, none⟩) r r) (refEnds l).length ((refEnds l).flatMap encB) := by
        rw [refEnds_length, ← HN.out, flat_encB]
        have := HO.out
        unfold refEnds
        rw [← HN.out]
        exact this
      obtain ⟨A4, c4, e4, hle4, hS4⟩ := Sl.of_own (k := 1) (enc := encB) (fun _ => rfl) hown
      have HS4 := Lib.hid hS4
      have HE4 := Lib.hid e4
      clear hown hS4 e4
      go_wp2_with fail
      go_ret
      refine ⟨A4, _, c4, by rw [← HE4.out]; rfl, hle4, HS4.out, ?_⟩
      have := HB.out
      rw [HG.out] at this
      exact this
end Go.Proofs.YtljkkfohlkhjnaaGreatDoor
