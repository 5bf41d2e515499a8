/- References: Decompose of layer 19, Small of layer 21. References: ends of layer 21. References: lengths of layer 21. -/
import Derived.Test.YtmlcdohldkgcdaaGreatDoorKRfx
import Derived.Test.YtmlcdohldkgcdaaGreatDoorKRfb
import Derived.Test.YtmlcdohldkgcdaaGreatDoorKRefA
import Derived.Test.YtmlcdohldkgcdaaGreatDoorKSimA
import Derived.Test.YtmlcdohldkgcdaaGreatDoorKPl
import Derived.Test.YtmlcdohldkgcdaaGreatDoorKOwn
namespace Go.Proofs.YtmlcdohldkgcdaaGreatDoor
open Go Go.RowKit
set_option maxRecDepth 100000 in
set_option maxHeartbeats 1000000 in
theorem r19decomp (c : Int) (w : World) : Calls Tryz.prog 207 #[.int .i64 c] w (RetInts w (decompH c)) := by
  obtain ⟨i0, hi, hz0, hz1, hz2⟩ := info_parts info_int
  have HI0 := Lib.hid hi
  have HZ0 := Lib.hid hz0
  have HZ1 := Lib.hid hz1
  have HZ2 := Lib.hid hz2
  clear hi hz0 hz1 hz2
  by_cases hk : kind c < 4
  · have HD := Lib.hid (show decompH c = [c] from if_pos hk)
    go_enter Tryz.func207, Tryz.ntmps207
    go_wp2_with (go_at_call 204; refine (rkind_any _ _).mono ?_; rintro e w' ⟨rfl, rfl⟩)
    go_ret
    refine ⟨_, 1, 1, rfl, Nat.le_refl _, ?_, Kept.alloc (Kept.refl w) _⟩
    rw [HD.out]
    exact Ints.alloc_ (xs := [c]) (by simp) rfl
  · obtain ⟨hr1, hr2⟩ := kind_ge (c := c) (by omega)
    by_cases ht : (c - 44032) % 28 = 0
    · have HD := Lib.hid (show decompH c = [hL c, hV c] by unfold decompH; rw [if_neg hk, if_pos ht])
      have ht' : ¬ 0 < (c - 44032) % 28 := by omega
      clear ht
      go_enter Tryz.func207, Tryz.ntmps207
      go_wp2_with (go_at_call 204; refine (rkind_any _ _).mono ?_; rintro e w' ⟨rfl, rfl⟩)
      go_ret
      refine ⟨_, 2, 2, rfl, Nat.le_refl _, ?_, Kept.alloc (Kept.refl w) _⟩
      rw [HD.out]
      exact Ints.alloc_ (xs := [hL c, hV c]) (by simp) rfl
    · have HD := Lib.hid (show decompH c = [hL c, hV c, hT c] by unfold decompH; rw [if_neg hk, if_neg ht])
      have HT := Lib.hid (show hT c = 4520 + (c - 44032) % 28 - 1 from if_neg ht)
      have ht' : 0 < (c - 44032) % 28 := by omega
      clear ht
      go_enter Tryz.func207, Tryz.ntmps207
      go_wp2_with (first
        | (go_at_call 204; refine (rkind_any _ _).mono ?_; rintro e w' ⟨rfl, rfl⟩)
        | (at_builtin; refine wpList_append_own _ rfl (.tmp 24) (.tmp 29) 32 rfl w.heap.size 3 i0 (.int .i64 0) 1 8 Tryz.underlying32 HI0.out HZ0.out HZ1.out HZ2.out rfl (by decide) _ 2 [.int .i64 (hL c), .int .i64 (hV c)] rfl (by exact World.ownsRow.alloc (World.ownsRow_lit w #[.int .i64 (hL c), .int .i64 (hV c)] 2 (Nat.le_refl _) (by unfold maxLen; omega) rfl) _) ⟨w.heap.size + 1, 0, none⟩ 1 1 [.int .i64 (4520 + (c - 44032) % 28 - 1)] rfl rfl (by exact cell_one_at (by simp)) (by simp [Value.oneCell']) (by unfold maxLen; omega) (by omega) (by simp; omega) ?_; intro v1 w1 hown1 hg1 _))
      have hB1 : Kept w w1 := (Kept.alloc (Kept.alloc (Kept.refl w) (Obj.cells #[Value.int IntKind.i64 (hL c), Value.int IntKind.i64 (hV c)] 3)) (Obj.cells #[Value.int IntKind.i64 (4520 + (c - 44032) % 28 - 1)] 3)).grown hg1 (by simp; omega) (fun q e => by
        change (Value.slice (some ⟨w.heap.size, 0, none⟩) 2 2).ownBlock = some q at e
        simp only [Value.ownBlock, Option.some.injEq] at e
        omega)
      have hown2 : OwnI w1 w.heap.size v1 (decompH c) := by rw [HD.out, HT.out]; simpa [OwnI] using hown1
      obtain ⟨A3, c3, rfl, hle3, hI3⟩ := OwnI.sl hown2
      go_ret
      exact ⟨A3, _, c3, rfl, hle3, hI3, hB1⟩
structure NormIn (w : World) (s : Sls) (n : Nrm) : Prop where
  hc : s.nc ≤ s.cc
  hm : s.nm ≤ s.cm
  he : s.ne ≤ s.ce
  bm : s.nm ≤ 9223372036854775807
  cls : Spans w s.Ac s.nc n.classes
  dec : Mps w s.Am s.nm n.decomp
  exc : Rngs w s.Ae s.ne n.excl
  to : ∀ m ∈ n.decomp, m.to.length ≤ 9223372036854775807
theorem NormIn.kept {w w' : World} {s : Sls} {n : Nrm} (h : NormIn w s n) (hk : Kept w w') : NormIn w' s n :=
  ⟨h.hc, h.hm, h.he, h.bm, h.cls.kept hk, h.dec.kept hk, h.exc.kept hk, h.to⟩
theorem NormIn.small {w : World} {s : Sls} {n : Nrm} (h : NormIn w s n) (hs : smallB n = true) : NormAt w s n := by
  obtain ⟨h1, h2, h3, h4⟩ := smallB_parts hs
  have e1 := h.cls.1
  have e2 := h.dec.1
  have e3 := h.exc.1
  exact ⟨h.hc, h.hm, h.he, by omega, by omega, by omega, h.cls, h.dec, h.exc, fun m hm => by have := (h4 m hm).1; omega⟩
set_option maxHeartbeats 1000000 in
theorem r21small (s : Sls) (n : Nrm) (w : World) (h : NormIn w s n) : Calls Tryz.prog 11 #[s.val] w (RetB w (smallB n)) := by
  have HN := Lib.hid h
  have HE1 := Lib.hid h.cls.1
  have HE3 := Lib.hid h.exc.1
  have HK1 := Lib.hid (Kept.alloc (Kept.refl w) (Obj.cells #[Value.slice s.Ac s.nc s.cc, Value.slice s.Am s.nm s.cm, Value.slice s.Ae s.ne s.ce] 28))
  have HS11 := Lib.hid (r11Small s.Am s.nm s.cm n.decomp (w.alloc (Obj.cells #[Value.slice s.Ac s.nc s.cc, Value.slice s.Am s.nm s.cm, Value.slice s.Ae s.ne s.ce] 28)) h.bm (h.dec.kept HK1.out) h.to)
  clear h
  have hsb : smallB n = (decide (s.nc ≤ 16) && smallMaps n.decomp && decide (s.ne ≤ 12)) := by unfold smallB; rw [HE1.out, HE3.out]
  have HSB := Lib.hid hsb
  clear hsb
  unfold Sls.val
  cases h1 : decide (s.nc ≤ 16)
  · have HR := Lib.hid (show smallB n = false by rw [HSB.out, h1]; rfl)
    have HS20 := Lib.hid (r20Small s.Ac s.nc s.cc)
    rw [h1] at HS20
    go_enter Tryz.func11, Tryz.ntmps11
    go_wp2_with (go_at_call 32; refine (HS20.out _).mono ?_; rintro e w' ⟨rfl, rfl⟩)
    go_ret
    exact ⟨ret_bool HR.out.symm, HK1.out⟩
  · have HS20 := Lib.hid (r20Small s.Ac s.nc s.cc)
    rw [h1] at HS20
    cases h2 : smallMaps n.decomp
    · have HR := Lib.hid (show smallB n = false by rw [HSB.out, h2]; simp)
      rw [h2] at HS11
      clear h1 h2
      go_enter Tryz.func11, Tryz.ntmps11
      go_wp2_with (first
        | (go_at_call 32; refine (HS20.out _).mono ?_; rintro e w' ⟨rfl, rfl⟩)
        | (go_at_call 33; refine HS11.out.mono ?_; rintro e w' ⟨rfl, rfl⟩))
      go_ret
      exact ⟨ret_bool HR.out.symm, HK1.out⟩
    · have HR := Lib.hid (show smallB n = decide (s.ne ≤ 12) by rw [HSB.out, h1, h2]; simp)
      rw [h2] at HS11
      clear h1 h2
      go_enter Tryz.func11, Tryz.ntmps11
      go_wp2_with (first
        | (go_at_call 32; refine (HS20.out _).mono ?_; rintro e w' ⟨rfl, rfl⟩)
        | (go_at_call 33; refine HS11.out.mono ?_; rintro e w' ⟨rfl, rfl⟩)
        | (go_at_call 34; refine (r02Small _ _ _ _).mono ?_; rintro e w2 ⟨rfl, hk2⟩))
      go_ret
      exact ⟨ret_bool HR.out.symm, Kept.trans HK1.out hk2⟩
end Go.Proofs.YtmlcdohldkgcdaaGreatDoor
namespace Go.Proofs.YtmlcdohldkgcdaaGreatDoor
open Go Go.RowKit
def encB (x : Bool) : List Value := [.bool x]
abbrev Bools (w : World) (A : Option Addr) (n : Nat) (xs : List Bool) : Prop := Sl 1 encB w A n xs
def RetBools (w : World) (xs : List Bool) (e : Ending) (w' : World) : Prop := ∃ A n c, e = .returned (.slice A n c) ∧ n ≤ c ∧ Bools w' A n xs ∧ Kept w w'
theorem info_bool : (Tryz.prog.info? 4).map (fun i => (i.zero, i.size, i.bytes)) = some (some (.bool false), 1, 1) := by kernel_rfl
theorem flat_encB : ∀ xs : List Bool, xs.flatMap encB = xs.map Value.bool
  | [] => rfl
  | x :: r => by rw [List.flatMap_cons, flat_encB r]; rfl
theorem endOk_none {l : List Mp} {out : List Bool} {c : Int} (h : findM l c true = none) : endOk l out c = true := by unfold endOk; rw [h]
theorem endOk_some {l : List Mp} {out : List Bool} {c : Int} {m : Nat} {b : Bool} (h : findM l c true = some m) (hb : out[m]? = some b) : endOk l out c = b := by unfold endOk; rw [h]; simp [hb]
theorem all_take_snoc {l : List Int} {k : Nat} {x : Int} {p : Int → Bool} (h : l[k]? = some x) : (l.take (k + 1)).all p = ((l.take k).all p && p x) := by
  rw [take_succ_some h, List.all_append]; simp
theorem endStep_at {l : List Mp} {out : List Bool} {i : Nat} {m : Mp} (h : l[i]? = some m) : endStep l out i = out.set i (m.to.all (endOk l out)) := by
  unfold endStep; rw [h]; rfl
set_option maxRecDepth 100000 in
set_option maxHeartbeats 4000000 in
theorem r21ends (A : Option Addr) (n c : Nat) (l : List Mp) (w : World) (hn : n ≤ 1000) (hl : Mps w A n l) (hto : ∀ m ∈ l, m.to.length ≤ 1000) :
    Calls Tryz.prog 205 #[.slice A n c] w (RetBools w (refEnds l)) := by
  have HL := Lib.hid hl
  have HN := Lib.hid hl.1
  have HTO := Lib.hid hto
  clear hl hto
  obtain ⟨i0, hi, hz0, hz1, hz2⟩ := info_parts info_bool
  have HI0 := Lib.hid hi
  have HZ0 := Lib.hid hz0
  have HZ1 := Lib.hid hz1
  have HZ2 := Lib.hid hz2
  clear hi hz0 hz1 hz2
  go_enter Tryz.func205, Tryz.ntmps205
  go_wp2_with (at_make; refine wpList_make_full _ rfl _ _ 255 rfl w.heap.size 4 i0 (.bool false) 1 Tryz.underlying255 HI0.out HZ0.out HZ1.out .i64 .i64 _ _ n rfl rfl rfl rfl (by rw [HZ2.out]; omega) (by unfold maxLen; omega) (Nat.le_refl _) ?_; intro w0 hown0 hgrow0)
  have hB0 : Below w.heap.size w w0 := (Below.refl _ w).grown hgrow0 (Nat.le_refl _) (fun q e => by cases e)
  have hown1 : w0.ownsRow w.heap.size 4 1 (.slice (some ⟨w.heap.size, 0, none⟩) n n) n ((List.replicate n false).map Value.bool) := by
    have := hown0
    rw [Nat.mul_one, show (Value.bool false).cells = #[Value.bool false] from rfl, toList_madeCells_one] at this
    simpa using this
  have HOW := Lib.hid hown1
  clear hown0 hown1 hgrow0
  obtain ⟨g, hg⟩ : ∃ g : Nat, g = w.heap.size := ⟨_, rfl⟩
  have HG := Lib.hid hg
  rw [← hg] at HOW hB0 ⊢
  clear hg
  go_loopw [4] (fun i wr => ∃ r : Nat, r ≤ n ∧ i = .int .i64 r ∧ wr.ownsRow g 4 1 (.slice (some ⟨g, 0, none⟩) n n) n ((iter (endRound l) r (List.replicate n false)).map Value.bool) ∧ Below g w wr) (fun i _ => n - (intOf i).toNat)
  case atStart => exact ⟨0, Nat.zero_le _, rfl, HOW.out, hB0⟩
  case round =>
    obtain ⟨r, hr, rfl, hown, hB⟩ := hrel
    have HO := Lib.hid hown
    have HB := Lib.hid hB
    clear hown hB
    by_cases hlt : r < n
    · have hilen : (iter (endRound l) r (List.replicate n false)).length = n := by rw [iter_length _ (endRound_length l)]; simp
      have HIT := Lib.hid (show iter (endRound l) (r + 1) (List.replicate n false) = endRound l (iter (endRound l) r (List.replicate n false)) from rfl)
      have HLEN := Lib.hid hilen
      clear hilen
      generalize iter (endRound l) r (List.replicate n false) = out0 at *
      go_wp2_with fail
      obtain ⟨w1, rfl⟩ : ∃ w1 : World, w1 = wr := ⟨_, rfl⟩
      go_loopw [5] (fun i wr => ∃ k : Nat, k ≤ n ∧ i = .int .i64 k ∧ wr.ownsRow g 4 1 (.slice (some ⟨g, 0, none⟩) n n) n (((List.range k).foldl (endStep l) out0).map Value.bool) ∧ Below g w wr) (fun i _ => n - (intOf i).toNat)
      case atStart => exact ⟨0, Nat.zero_le _, rfl, HO.out, HB.out⟩
      case round =>
        obtain ⟨k, hk, rfl, hown, hB⟩ := hrel
        have hk1 : ((List.range k).foldl (endStep l) out0).length = n := by rw [foldl_length _ (endStep_length l)]; exact HLEN.out
        have HSS := Lib.hid (range_succ_foldl (endStep l) k out0)
        have HK1 := Lib.hid hk1
        have HFIN := Lib.hid (show k = n → (List.range k).foldl (endStep l) out0 = endRound l out0 from fun e => by rw [e, HN.out]; rfl)
        clear hk1
        have HO2 := Lib.hid hown
        clear hown
        generalize (List.range k).foldl (endStep l) out0 = out at *
        by_cases hlt2 : k < n
        · have hkw : Kept w wr := by have := hB; rw [HG.out] at this; exact this
          obtain ⟨b, off, m, A', n', c', rfl, hm, hle, hI, c0, c1, c2⟩ := mp_at (HL.out.kept hkw) hlt2
          have hn' : n' ≤ 1000 := by rw [hI.1]; exact HTO.out m (mem_of_getElem?_some hm)
          have HES := Lib.hid (endStep_at (out := out) hm)
          have HL2 := Lib.hid (HL.out.kept hkw)
          have HI2 := Lib.hid hI
          have HIN := Lib.hid hI.1
          clear hm hI hkw c0 c2
          have hgb : g < wr.heap.size := (HO2.out.lt g rfl).2
          go_wp2_with fail
          go_loop [6, 7] (fun p i => ∃ (q : Nat) (a : Bool), q ≤ n' ∧ i = .int .i64 q ∧ p = .bool a ∧ a = (m.to.take q).all (endOk l out)) (fun _ i => n' - (intOf i).toNat)
          case atStart => exact ⟨0, true, Nat.zero_le _, rfl, rfl, by simp⟩
          case round =>
            obtain ⟨q, a, hq, rfl, rfl, ha⟩ := hrel
            have HAA := Lib.hid ha
            clear ha
            by_cases hlt3 : q < n'
            · obtain ⟨b', off', y, rfl, hy, cy⟩ := int_at HI2.out hlt3
              have HAS := Lib.hid (all_take_snoc (p := endOk l out) hy)
              clear hy
              cases a
              · go_wp2_with (go_at_call 203; refine (r21find _ _ _ l _ true _ (by omega) HL2.out).mono ?_; rintro e w' ⟨rfl, rfl⟩)
                go_round
                case rel => exact ⟨q + 1, false, by omega, by go_num, rfl, by rw [HAS.out, ← HAA.out]; rfl⟩
                case measure => simp [intOf]; omega
              · rcases hf : findM l y true with _ | mm
                · have HEO := Lib.hid (endOk_none (out := out) hf)
                  have HF := Lib.hid (r21find (some ⟨b, off, none⟩) n c l y true wr (by omega) HL2.out)
                  rw [hf] at HF
                  simp only [fI] at HF
                  clear hf
                  go_wp2_with (go_at_call 203; refine HF.out.mono ?_; rintro e w' ⟨rfl, rfl⟩)
                  go_round
                  case rel => exact ⟨q + 1, true, by omega, by go_num, rfl, by rw [HAS.out, ← HAA.out, HEO.out]; rfl⟩
                  case measure => simp [intOf]; omega
                · have hmm : mm < n := by have := findM_lt hf; have := HN.out; omega
                  obtain ⟨bv, hbv⟩ := getElem?_some_of_lt (l := out) (k := mm) (by rw [HK1.out]; exact hmm)
                  have HEO := Lib.hid (endOk_some hf hbv)
                  have cm : wr.cell? ⟨g, mm, none⟩ = some (.bool bv) := by rw [HO2.out.cellAt mm (by omega), List.getElem?_map, hbv]; rfl
                  have HF := Lib.hid (r21find (some ⟨b, off, none⟩) n c l y true wr (by omega) HL2.out)
                  rw [hf] at HF
                  simp only [fI] at HF
                  clear hf hbv
                  go_wp2_with (go_at_call 203; refine HF.out.mono ?_; rintro e w' ⟨rfl, rfl⟩)
                  go_round
                  case rel => exact ⟨q + 1, bv, by omega, by go_num, rfl, by rw [HAS.out, ← HAA.out, HEO.out]; rfl⟩
                  case measure => simp [intOf]; omega
            · have hfull : m.to.take q = m.to := List.take_of_length_le (by have := HIN.out; omega)
              have haf : a = m.to.all (endOk l out) := by have := HAA.out; rw [hfull] at this; exact this
              have HAF := Lib.hid haf
              clear haf hfull
              have hfz := HO2.out.frozenAt k
              obtain ⟨bo, hbo⟩ := getElem?_some_of_lt (l := out) (k := k) (by rw [HK1.out]; exact hlt2)
              have cg : wr.cell? ⟨g, k, none⟩ = some (.bool bo) := by rw [HO2.out.cellAt k (by omega), List.getElem?_map, hbo]; rfl
              clear hbo
              go_wp2_with fail
              have hst := HO2.out.stored k (.bool a)
              go_roundw
              case rel =>
                refine ⟨k + 1, by omega, by go_num, ?_, Below.setCell hB (Nat.le_refl _) _⟩
                rw [HSS.out, HES.out, ← HAF.out, List.map_set]
                exact hst.1
              case measure => simp [intOf]; omega
        · have hkn : k = n := by omega
          have HFI := Lib.hid (HFIN.out hkn)
          clear hkn
          go_wp2_with fail
          go_roundw
          case rel => exact ⟨r + 1, by omega, by go_num, by rw [HIT.out, ← HFI.out]; exact HO2.out, hB⟩
          case measure => simp [intOf]; omega
    · have hrn : r = n := by omega
      subst hrn
      have hown : wr.ownsRow g 4 1 (.slice (some ⟨g, 0, none⟩) r r) (refEnds l).length ((refEnds l).flatMap encB) := by
        rw [refEnds_length, ← HN.out, flat_encB]
        have := HO.out
        unfold refEnds
        rw [← HN.out]
        exact this
      obtain ⟨A4, c4, e4, hle4, hS4⟩ := Sl.of_own (k := 1) (enc := encB) (fun _ => rfl) hown
      have HS4 := Lib.hid hS4
      have HE4 := Lib.hid e4
      clear hown hS4 e4
      go_wp2_with fail
      go_ret
      refine ⟨A4, _, c4, by rw [← HE4.out]; rfl, hle4, HS4.out, ?_⟩
      have := HB.out
      rw [HG.out] at this
      exact this
end Go.Proofs.YtmlcdohldkgcdaaGreatDoor
namespace Go.Proofs.YtmlcdohldkgcdaaGreatDoor
open Go Go.RowKit
theorem own_kept {w w' : World} {base : Nat} {e : TypeId} {size : Nat} {v : Value} {n : Nat} {xs : List Value} (h : w.ownsRow base e size v n xs) (hk : Kept w w') : w'.ownsRow base e size v n xs := by
  refine ⟨h.1, ?_⟩
  rcases h.2 with h0 | ⟨g, cap, cur, rfl, hg, hgg, rest⟩
  · exact .inl h0
  · exact .inr ⟨g, cap, cur, rfl, hg, (hk.block g (block_lt hgg)).trans hgg, rest⟩
theorem lenOf_none {l : List Mp} {cp : Bool} {out : List Int} {c : Int} (h : findM l c cp = none) : lenOf l cp out c = (decompH c).length := by unfold lenOf; rw [h]
theorem lenOf_some {l : List Mp} {cp : Bool} {out : List Int} {c : Int} {m : Nat} {v : Int} (h : findM l c cp = some m) (hb : out[m]? = some v) : lenOf l cp out c = v := by unfold lenOf; rw [h]; simp [hb]
theorem lenSum_take {l : List Mp} {cp : Bool} {out to : List Int} {k : Nat} {x : Int} (h : to[k]? = some x) : lenSum l cp out (to.take (k + 1)) = lenSum l cp out (to.take k) + lenOf l cp out x := by
  rw [take_succ_some h, lenSum_snoc]
theorem lenStep_at {l : List Mp} {cp : Bool} {out : List Int} {i : Nat} {m : Mp} (h : l[i]? = some m) : lenStep l cp out i = out.set i (lenVal l cp out m) := by
  unfold lenStep; rw [h]
theorem foldl_lenStep_range {l : List Mp} {cp : Bool} : ∀ (ks : List Nat) (out : List Int), (∀ x ∈ out, 0 ≤ x ∧ x ≤ 65) → ∀ x ∈ ks.foldl (lenStep l cp) out, 0 ≤ x ∧ x ≤ 65
  | [], _, h => h
  | _ :: ks, _, h => foldl_lenStep_range ks _ (lenStep_range h)
theorem iter_lenRound_range {l : List Mp} {cp : Bool} : ∀ (r : Nat) (out : List Int), (∀ x ∈ out, 0 ≤ x ∧ x ≤ 65) → ∀ x ∈ iter (lenRound l cp) r out, 0 ≤ x ∧ x ≤ 65
  | 0, _, h => h
  | r + 1, out, h => foldl_lenStep_range _ _ (iter_lenRound_range r out h)
set_option maxRecDepth 100000 in
set_option maxHeartbeats 4000000 in
theorem r21lengths (A : Option Addr) (n c : Nat) (cp : Bool) (l : List Mp) (w : World) (hn : n ≤ 1000) (hl : Mps w A n l) (hto : ∀ m ∈ l, m.to.length ≤ 1000) :
    Calls Tryz.prog 206 #[.slice A n c, .bool cp] w (RetInts w (refLengths l cp)) := by
  have HL := Lib.hid hl
  have HN := Lib.hid hl.1
  have HTO := Lib.hid hto
  clear hl hto
  obtain ⟨i0, hi, hz0, hz1, hz2⟩ := info_parts info_int
  have HI0 := Lib.hid hi
  have HZ0 := Lib.hid hz0
  have HZ1 := Lib.hid hz1
  have HZ2 := Lib.hid hz2
  clear hi hz0 hz1 hz2
  go_enter Tryz.func206, Tryz.ntmps206
  go_wp2_with (at_make; refine wpList_make_full _ rfl _ _ 32 rfl w.heap.size 3 i0 (.int .i64 0) 1 Tryz.underlying32 HI0.out HZ0.out HZ1.out .i64 .i64 _ _ n rfl rfl rfl rfl (by rw [HZ2.out]; omega) (by unfold maxLen; omega) (Nat.le_refl _) ?_; intro w0 hown0 hgrow0)
  have hB0 : Below w.heap.size w w0 := (Below.refl _ w).grown hgrow0 (Nat.le_refl _) (fun q e => by cases e)
  have hown1 : w0.ownsRow w.heap.size 3 1 (.slice (some ⟨w.heap.size, 0, none⟩) n n) n ((List.replicate n 0).map (Value.int .i64)) := by
    have := hown0
    rw [Nat.mul_one, show (Value.int .i64 0).cells = #[Value.int .i64 0] from rfl, toList_madeCells_one] at this
    simpa using this
  have HOW := Lib.hid hown1
  clear hown0 hown1 hgrow0
  obtain ⟨g, hg⟩ : ∃ g : Nat, g = w.heap.size := ⟨_, rfl⟩
  have HG := Lib.hid hg
  rw [← hg] at HOW hB0 ⊢
  clear hg
  go_loopw [6] (fun i wr => ∃ r : Nat, r ≤ n ∧ i = .int .i64 r ∧ wr.ownsRow g 3 1 (.slice (some ⟨g, 0, none⟩) n n) n ((iter (lenRound l cp) r (List.replicate n 0)).map (Value.int .i64)) ∧ Below g w wr) (fun i _ => n - (intOf i).toNat)
  case atStart => exact ⟨0, Nat.zero_le _, rfl, HOW.out, hB0⟩
  case round =>
    obtain ⟨r, hr, rfl, hown, hB⟩ := hrel
    have HO := Lib.hid hown
    have HB := Lib.hid hB
    clear hown hB
    by_cases hlt : r < n
    · have hilen : (iter (lenRound l cp) r (List.replicate n 0)).length = n := by rw [iter_length _ (lenRound_length l cp)]; simp
      have HIT := Lib.hid (show iter (lenRound l cp) (r + 1) (List.replicate n 0) = lenRound l cp (iter (lenRound l cp) r (List.replicate n 0)) from rfl)
      have HLEN := Lib.hid hilen
      have HRG := Lib.hid (iter_lenRound_range (l := l) (cp := cp) r (List.replicate n 0) (fun x hx => by have := List.eq_of_mem_replicate hx; omega))
      clear hilen
      generalize iter (lenRound l cp) r (List.replicate n 0) = out0 at *
      go_wp2_with fail
      obtain ⟨w1, rfl⟩ : ∃ w1 : World, w1 = wr := ⟨_, rfl⟩
      go_loopw [7] (fun i wr => ∃ k : Nat, k ≤ n ∧ i = .int .i64 k ∧ wr.ownsRow g 3 1 (.slice (some ⟨g, 0, none⟩) n n) n (((List.range k).foldl (lenStep l cp) out0).map (Value.int .i64)) ∧ Below g w wr) (fun i _ => n - (intOf i).toNat)
      case atStart => exact ⟨0, Nat.zero_le _, rfl, HO.out, HB.out⟩
      case round =>
        obtain ⟨k, hk, rfl, hown, hB⟩ := hrel
        have hk1 : ((List.range k).foldl (lenStep l cp) out0).length = n := by rw [foldl_length _ (lenStep_length l cp)]; exact HLEN.out
        have HSS := Lib.hid (range_succ_foldl (lenStep l cp) k out0)
        have HK1 := Lib.hid hk1
        have HFIN := Lib.hid (show k = n → (List.range k).foldl (lenStep l cp) out0 = lenRound l cp out0 from fun e => by rw [e, HN.out]; rfl)
        have HRR := Lib.hid (foldl_lenStep_range (l := l) (cp := cp) (List.range k) out0 HRG.out)
        clear hk1
        have HO2 := Lib.hid hown
        clear hown
        generalize (List.range k).foldl (lenStep l cp) out0 = out at *
        by_cases hlt2 : k < n
        · have hkw : Kept w wr := by have := hB; rw [HG.out] at this; exact this
          obtain ⟨b, off, m, A', n', c', rfl, hm, hle, hI, c0, c1, c2⟩ := mp_at (HL.out.kept hkw) hlt2
          have hn' : n' ≤ 1000 := by rw [hI.1]; exact HTO.out m (mem_of_getElem?_some hm)
          have HES := Lib.hid (lenStep_at (cp := cp) (out := out) hm)
          have HL2 := Lib.hid (HL.out.kept hkw)
          have HI2 := Lib.hid hI
          have HIN := Lib.hid hI.1
          have HC1 := Lib.hid c1
          have HC2 := Lib.hid c2
          have HKW := Lib.hid hkw
          clear hm hI hkw c0 c1 c2
          have hgb : g < wr.heap.size := (HO2.out.lt g rfl).2
          have hbg : b < g := by
            obtain ⟨b'', off'', m'', A'', n'', c'', e'', hm'', _, _, d0, _, _⟩ := mp_at HL.out hlt2
            have hlt4 := cell_lt d0
            injection e'' with e1
            injection e1 with e2
            rw [HG.out, e2]
            exact hlt4
          go_wp2_with fail
          obtain ⟨w2, rfl⟩ : ∃ w2 : World, w2 = wr := ⟨_, rfl⟩
          go_loopw [8, 9] (fun p i wr => ∃ (q : Nat) (a : Int), q ≤ n' ∧ i = .int .i64 q ∧ p = .int .i64 a ∧ a = lenSum l cp out (m.to.take q) ∧ 0 ≤ a ∧ a ≤ 65 * q ∧ Below w2.heap.size w2 wr) (fun _ i _ => n' - (intOf i).toNat)
          case atStart => exact ⟨0, 0, Nat.zero_le _, rfl, rfl, by simp [lenSum], by omega, by omega, Below.refl _ _⟩
          case round =>
            obtain ⟨q, a, hq, rfl, rfl, ha, ha0, ha1, hB3⟩ := hrel
            have HAA := Lib.hid ha
            have c1 := Kept.cell hB3 HC1.out
            clear ha
            by_cases hlt3 : q < n'
            · obtain ⟨b', off', y, rfl, hy, cy⟩ := int_at (HI2.out.kept hB3) hlt3
              have HAS := Lib.hid (lenSum_take (l := l) (cp := cp) (out := out) hy)
              have hrange := lenOf_range (l := l) (compat := cp) HRR.out y
              clear hy
              rcases hf : findM l y cp with _ | mm
              · have HEO := Lib.hid (lenOf_none (out := out) hf)
                have HF := Lib.hid (r21find (some ⟨b, off, none⟩) n c l y cp wr (by omega) (HL2.out.kept hB3))
                rw [hf] at HF
                simp only [fI] at HF
                clear hf
                go_wp2_with (first
                  | (go_at_call 203; refine HF.out.mono ?_; rintro e w' ⟨rfl, rfl⟩)
                  | (go_at_call 207; refine (r19decomp _ _).mono ?_; rintro e w3 ⟨A3, n3, c3, rfl, hle3, hI3, hk3⟩; have hn3 : (n3 : Int) = lenOf l cp out y := (by rw [HEO.out, hI3.1]); have hn4 : n3 ≤ 65 := (by omega)))
                go_roundw
                case rel => exact ⟨q + 1, a + n3, by omega, by go_num, by go_num, by rw [HAS.out, ← HAA.out, hn3], by omega, by omega, Kept.trans hB3 hk3⟩
                case measure => simp [intOf]; omega
              · have hmm : mm < n := by have := findM_lt hf; have := HN.out; omega
                obtain ⟨bv, hbv⟩ := getElem?_some_of_lt (l := out) (k := mm) (by rw [HK1.out]; exact hmm)
                have heo := lenOf_some hf hbv
                have cm : wr.cell? ⟨g, mm, none⟩ = some (.int .i64 bv) := by rw [(own_kept HO2.out hB3).cellAt mm (by omega), List.getElem?_map, hbv]; rfl
                have HF := Lib.hid (r21find (some ⟨b, off, none⟩) n c l y cp wr (by omega) (HL2.out.kept hB3))
                rw [hf] at HF
                simp only [fI] at HF
                rw [heo] at hrange
                have HEO := Lib.hid heo
                clear hf hbv heo
                obtain ⟨hr0, hr1⟩ := hrange
                go_wp2_with (go_at_call 203; refine HF.out.mono ?_; rintro e w' ⟨rfl, rfl⟩)
                go_roundw
                case rel => exact ⟨q + 1, a + bv, by omega, by go_num, by go_num, by rw [HAS.out, ← HAA.out, HEO.out], by omega, by omega, hB3⟩
                case measure => simp [intOf]; omega
            · have hfull : m.to.take q = m.to := List.take_of_length_le (by have := HIN.out; omega)
              have haf : a = lenSum l cp out m.to := by have := HAA.out; rw [hfull] at this; exact this
              have HAF := Lib.hid haf
              clear haf hfull
              have hO3 := own_kept HO2.out hB3
              have hfz := hO3.frozenAt k
              obtain ⟨bo, hbo⟩ := getElem?_some_of_lt (l := out) (k := k) (by rw [HK1.out]; exact hlt2)
              have cg : wr.cell? ⟨g, k, none⟩ = some (.int .i64 bo) := by rw [hO3.cellAt k (by omega), List.getElem?_map, hbo]; rfl
              have HO3 := Lib.hid hO3
              have HB3 := Lib.hid (Below.thenKept hB (by omega) hB3)
              have c2 := Kept.cell hB3 HC2.out
              clear hbo hO3
              have hst := HO3.out.stored k (.int .i64 (min (max a 1) 65))
              have c2' : (wr.setCell ⟨g, k, none⟩ (.int .i64 (min (max a 1) 65))).cell? ⟨b, off + k * 3 + 2, none⟩ = some (.string m.tag) := (World.cell?_setCell_other _ _ _ _ (fun e => by injection e with e1; omega)).trans c2
              have hfz' := hst.1.frozenAt k
              have cg' : (wr.setCell ⟨g, k, none⟩ (.int .i64 (min (max a 1) 65))).cell? ⟨g, k, none⟩ = some (.int .i64 (min (max a 1) 65)) := by
                rw [hst.1.cellAt k (by omega), List.getElem?_set_self (by rw [List.length_map, HK1.out]; exact hlt2)]
              have HST := Lib.hid hst.1
              have HB4 := Lib.hid (Below.setCell HB3.out (p := ⟨g, k, none⟩) (Nat.le_refl _) (.int .i64 (min (max a 1) 65)))
              clear hst c2
              cases ht : m.tag.toList.isEmpty
              · have hte : ¬ m.tag.toList = [] := by simpa using ht
                cases cp
                · have HLV := Lib.hid (show lenVal l false out m = 1 by simp [lenVal, plainTag, ht])
                  go_wp2_with fail
                  have hst2 := HST.out.stored k (.int .i64 1)
                  go_roundw
                  case rel =>
                    refine ⟨k + 1, by omega, by go_num, ?_, Below.setCell HB4.out (Nat.le_refl _) _⟩
                    rw [HSS.out, HES.out, HLV.out, List.map_set]
                    have := hst2.1
                    rw [List.set_set] at this
                    exact this
                  case measure => simp [intOf]; omega
                · have HLV := Lib.hid (show lenVal l true out m = min (max a 1) 65 by simp only [lenVal, Bool.not_true, Bool.and_false, Bool.false_eq_true, if_false]; rw [HAF.out])
                  go_wp2_with fail
                  go_roundw
                  case rel =>
                    refine ⟨k + 1, by omega, by go_num, ?_, HB4.out⟩
                    rw [HSS.out, HES.out, HLV.out, List.map_set]
                    exact HST.out
                  case measure => simp [intOf]; omega
              · have hte : m.tag.toList = [] := by simpa using ht
                have HLV := Lib.hid (show lenVal l cp out m = min (max a 1) 65 by simp only [lenVal, plainTag, ht, Bool.not_true, Bool.false_and, Bool.false_eq_true, if_false]; rw [HAF.out])
                go_wp2_with fail
                go_roundw
                case rel =>
                  refine ⟨k + 1, by omega, by go_num, ?_, HB4.out⟩
                  rw [HSS.out, HES.out, HLV.out, List.map_set]
                  exact HST.out
                case measure => simp [intOf]; omega
        · have hkn : k = n := by omega
          have HFI := Lib.hid (HFIN.out hkn)
          clear hkn
          go_wp2_with fail
          go_roundw
          case rel => exact ⟨r + 1, by omega, by go_num, by rw [HIT.out, ← HFI.out]; exact HO2.out, hB⟩
          case measure => simp [intOf]; omega
    · have hrn : r = n := by omega
      subst hrn
      have hown : OwnI wr g (.slice (some ⟨g, 0, none⟩) r r) (refLengths l cp) := by
        unfold OwnI
        rw [refLengths_length, ← HN.out]
        have := HO.out
        unfold refLengths
        rw [← HN.out]
        exact this
      obtain ⟨A4, c4, e4, hle4, hS4⟩ := OwnI.sl hown
      have HS4 := Lib.hid hS4
      have HE4 := Lib.hid e4
      clear hown hS4 e4
      go_wp2_with fail
      go_ret
      refine ⟨A4, _, c4, by rw [← HE4.out]; rfl, hle4, HS4.out, ?_⟩
      have := HB.out
      rw [HG.out] at this
      exact this
end Go.Proofs.YtmlcdohldkgcdaaGreatDoor
