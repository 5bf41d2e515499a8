/- References: replaced, table, full, Char and Text of layer 21. References: table, full, Char and Text of layer 21. References: Char and Text of layer 21. -/
import Derived.Test.YtmlcdohldkgcdaaGreatDoorKPl58
import Derived.Test.YtmlcdohldkgcdaaGreatDoorKRfl
import Derived.Test.YtmlcdohldkgcdaaGreatDoorKFew
import Derived.Test.YtmlcdohldkgcdaaGreatDoorKPq
import Derived.Test.YtmlcdohldkgcdaaGreatDoorKSq
namespace Go.Proofs.YtmlcdohldkgcdaaGreatDoor
open Go Go.RowKit
def Tab (w : World) (B : Option Addr) (m : Nat) (T : List (List Int)) : Prop := m = T.length ∧ (0 < m → ∃ b off, B = some ⟨b, off, none⟩ ∧ ∀ (i : Nat) (xs : List Int), T[i]? = some xs → ∃ A k c, w.cell? ⟨b, off + i, none⟩ = some (.slice A k c) ∧ k ≤ c ∧ Ints w A k xs)
theorem Tab.kept {w w' : World} {B : Option Addr} {m : Nat} {T : List (List Int)} (h : Tab w B m T) (hk : Kept w w') : Tab w' B m T := by
  refine ⟨h.1, fun h0 => ?_⟩
  obtain ⟨b, off, e, hc⟩ := h.2 h0
  refine ⟨b, off, e, fun i xs hx => ?_⟩
  obtain ⟨A, k, c, c1, hle, hI⟩ := hc i xs hx
  exact ⟨A, k, c, Kept.cell hk c1, hle, hI.kept hk⟩
theorem tab_at {w : World} {B : Option Addr} {m : Nat} {T : List (List Int)} (h : Tab w B m T) {i : Nat} (hi : i < m) : ∃ b off A k c xs, B = some ⟨b, off, none⟩ ∧ T[i]? = some xs ∧ w.cell? ⟨b, off + i, none⟩ = some (.slice A k c) ∧ k ≤ c ∧ Ints w A k xs := by
  obtain ⟨b, off, e, hc⟩ := h.2 (by omega)
  obtain ⟨xs, hx⟩ := getElem?_some_of_lt (l := T) (k := i) (by have := h.1; omega)
  obtain ⟨A, k, c, c1, hle, hI⟩ := hc i xs hx
  exact ⟨b, off, A, k, c, xs, e, hx, c1, hle, hI⟩
theorem tabOf_none {l : List Mp} {cp : Bool} {T : List (List Int)} {c : Int} (h : findM l c cp = none) : tabOf l cp T c = decompH c := by unfold tabOf; rw [h]
theorem tabOf_some {l : List Mp} {cp : Bool} {T : List (List Int)} {c : Int} {i : Nat} {xs : List Int} (h : findM l c cp = some i) (hx : T[i]? = some xs) : tabOf l cp T c = xs := by unfold tabOf; rw [h]; simp [hx]
theorem replL_take {l : List Mp} {cp : Bool} {T : List (List Int)} {text : List Int} {k : Nat} {x : Int} (h : text[k]? = some x) : replL l cp T (text.take (k + 1)) = replL l cp T (text.take k) ++ tabOf l cp T x := flatMap_take h
set_option maxRecDepth 100000 in
set_option maxHeartbeats 2000000 in
theorem r21replaced (A : Option Addr) (n c : Nat) (l : List Mp) (B : Option Addr) (m d : Nat) (T : List (List Int)) (C : Option Addr) (t ce : Nat) (text : List Int) (cp : Bool) (w : World) (hn : n ≤ 1000) (hl : Mps w A n l) (hm : m = n) (hT : Tab w B m T) (ht : t ≤ 30000) (hC : Ints w C t text) (hb : ∀ x, (tabOf l cp T x).length ≤ 1000) :
    Calls Tryz.prog 180 #[.slice A n c, .slice B m d, .slice C t ce, .bool cp] w (RetInts w (replL l cp T text)) := by
  have HF := Lib.hid (fun x w' (hk : Kept w w') => r21find A n c l x cp w' hn (hl.kept hk))
  have HLN := Lib.hid hl.1
  have HT := Lib.hid hT
  have HC := Lib.hid hC
  have HCN := Lib.hid hC.1
  have HB := Lib.hid hb
  subst hm
  obtain ⟨base, hbase⟩ : ∃ base : Nat, base = w.heap.size := ⟨_, rfl⟩
  have HBASE := Lib.hid hbase
  clear hl hT hC hb hbase
  go_enter Tryz.func180, Tryz.ntmps180
  go_wp2_with fail
  go_loopw [9, 10] (fun p i wr => ∃ k : Nat, k ≤ t ∧ i = .int .i64 k ∧ OwnI wr base p (replL l cp T (text.take k)) ∧ Kept w wr) (fun _ i _ => t - (intOf i).toNat)
  case atStart => exact ⟨0, Nat.zero_le _, rfl, (World.ownsRow_nil _ _ _ _ : OwnI w base (.slice none 0 0) []), Kept.refl _⟩
  case round =>
    obtain ⟨k, hk, rfl, hown, hkw⟩ := hrel
    have HOW := Lib.hid hown
    have HKW := Lib.hid hkw
    have hsz := hkw.size
    clear hown hkw
    by_cases hlt : k < t
    · obtain ⟨b, off, x, hA, hx, cw⟩ := int_at (HC.out.kept HKW.out) hlt
      rw [hA]
      have HTK := Lib.hid (replL_take (l := l) (cp := cp) (T := T) hx)
      have hfl : (replL l cp T (text.take k)).length ≤ 30000000 := by
        have := flatMap_length_le (F := tabOf l cp T) HB.out (text.take k)
        have h2 : (text.take k).length ≤ k := List.length_take_le _ _
        unfold replL; omega
      have hfx := HB.out x
      clear hx
      cases hf : findM l x cp with
      | none =>
        have HFX := Lib.hid (HF.out x wr HKW.out)
        rw [hf] at HFX
        simp only [fI] at HFX
        have HTO := Lib.hid (tabOf_none (T := T) hf)
        clear hf
        go_wp2_with fail
        refine HFX.out.mono ?_
        rintro e w' ⟨rfl, rfl⟩
        go_wp2_with fail
        refine (r19decomp x _).mono ?_
        rintro e w3 ⟨A3, n3, c3, rfl, le3, i3, k3⟩
        have I3 := Lib.hid i3
        have K3 := Lib.hid k3
        have hdl := decompH_length_le x
        clear i3 k3
        have HO3 := Lib.hid (own_kept HOW.out K3.out)
        have hsz3 := K3.out.size
        go_wp2_with (at_builtin; refine app_ints rfl _ _ rfl base _ _ rfl HO3.out _ _ _ (decompH x) rfl I3.out (by omega) (by have := HBASE.out; omega) ?_; intro v4 w4 hown4 hgrow4 hat4)
        have K4 : Hid (Kept w w4) := Lib.hid ((Kept.trans HKW.out K3.out).grown hgrow4 (by have := HBASE.out; omega) (fun q e => by have := (World.ownsRow.lt HOW.out q e).1; have := HBASE.out; omega))
        go_roundw
        case rel => exact ⟨k + 1, by omega, by go_num, by rw [HTK.out, HTO.out]; exact hown4, K4.out⟩
        case measure => simp [intOf]; omega
      | some i =>
        have hi : i < m := by have := findM_lt hf; have := HLN.out; omega
        obtain ⟨b2, off2, A2, k2, c2, xs, hB2, hxs, c1, hle2, hI2⟩ := tab_at (HT.out.kept HKW.out) hi
        have HFX := Lib.hid (HF.out x wr HKW.out)
        rw [hf] at HFX
        simp only [fI] at HFX
        have HTO := Lib.hid (tabOf_some hf hxs)
        rw [hB2]
        clear hf hxs
        go_wp2_with fail
        refine HFX.out.mono ?_
        rintro e w' ⟨rfl, rfl⟩
        have I3 := Lib.hid hI2
        have K3 := Lib.hid (Kept.refl wr)
        have hxl : xs.length ≤ 1000 := by rw [← HTO.out]; exact hfx
        clear hI2
        have HO3 := Lib.hid (own_kept HOW.out K3.out)
        have hsz3 := K3.out.size
        go_wp2_with (at_builtin; refine app_ints rfl _ _ rfl base _ _ rfl HO3.out _ _ _ xs rfl I3.out (by omega) (by have := HBASE.out; omega) ?_; intro v4 w4 hown4 hgrow4 hat4)
        have K4 : Hid (Kept w w4) := Lib.hid ((Kept.trans HKW.out K3.out).grown hgrow4 (by have := HBASE.out; omega) (fun q e => by have := (World.ownsRow.lt HOW.out q e).1; have := HBASE.out; omega))
        go_roundw
        case rel => exact ⟨k + 1, by omega, by go_num, by rw [HTK.out, HTO.out]; exact hown4, K4.out⟩
        case measure => simp [intOf]; omega
    · have hfull : text.take k = text := List.take_of_length_le (by have := HCN.out; omega)
      have hown := HOW.out
      rw [hfull] at hown
      obtain ⟨A4, c4, hu, hle4, hI4⟩ := OwnI.sl hown
      generalize replL l cp T text = R at *
      clear hown hfull
      subst hu
      go_wp2_with fail
      go_ret
      exact ⟨A4, _, c4, rfl, hle4, hI4, HKW.out⟩
end Go.Proofs.YtmlcdohldkgcdaaGreatDoor
namespace Go.Proofs.YtmlcdohldkgcdaaGreatDoor
open Go Go.RowKit
theorem info_ints : (Tryz.prog.info? 32).map (fun i => (i.zero, i.size, i.bytes)) = some (some (.slice none 0 0), 1, 24) := by kernel_rfl
def ValsOk (w : World) (vals : List Value) (T : List (List Int)) : Prop := vals.length = T.length ∧ ∀ (i : Nat) (v : Value) (xs : List Int), vals[i]? = some v → T[i]? = some xs → ∃ A k c, v = .slice A k c ∧ k ≤ c ∧ Ints w A k xs
theorem ValsOk.kept {w w' : World} {vals : List Value} {T : List (List Int)} (h : ValsOk w vals T) (hk : Kept w w') : ValsOk w' vals T := by
  refine ⟨h.1, fun i v xs hv hx => ?_⟩
  obtain ⟨A, k, c, e, hle, hI⟩ := h.2 i v xs hv hx
  exact ⟨A, k, c, e, hle, hI.kept hk⟩
theorem ValsOk.start (w : World) (n : Nat) : ValsOk w (List.replicate n (.slice none 0 0)) (List.replicate n []) := by
  refine ⟨by simp, fun i v xs hv hx => ?_⟩
  have h1 := List.eq_of_mem_replicate (List.mem_of_getElem? hv)
  have h2 := List.eq_of_mem_replicate (List.mem_of_getElem? hx)
  subst h1 h2
  exact ⟨none, 0, 0, rfl, Nat.le_refl _, Sl.nil⟩
theorem ValsOk.tab {w : World} {g n : Nat} {vals : List Value} {T : List (List Int)} (h : ValsOk w vals T) (hn : n = T.length) (hown : w.ownsRow g 32 1 (.slice (some ⟨g, 0, none⟩) n n) n vals) : Tab w (some ⟨g, 0, none⟩) n T := by
  refine ⟨hn, fun h0 => ⟨g, 0, rfl, fun i xs hx => ?_⟩⟩
  have hi := lt_of_getElem?_some hx
  obtain ⟨v, hv⟩ := getElem?_some_of_lt (l := vals) (k := i) (by rw [h.1]; exact hi)
  obtain ⟨A, k, c, e, hle, hI⟩ := h.2 i v xs hv hx
  refine ⟨A, k, c, ?_, hle, hI⟩
  rw [Nat.zero_add, hown.cellAt i (by omega), hv, e]
theorem ValsOk.set {w' : World} {vals : List Value} {T : List (List Int)} (h : ValsOk w' vals T) (i : Nat) {v : Value} {xs : List Int} (hv : ∃ A k c, v = .slice A k c ∧ k ≤ c ∧ Ints w' A k xs) : ValsOk w' (vals.set i v) (T.set i xs) := by
  refine ⟨by simp [h.1], fun j v' xs' h1 h2 => ?_⟩
  by_cases e : i = j
  · subst e
    rw [List.getElem?_set] at h1 h2
    simp only [if_true] at h1 h2
    split at h1
    · split at h2
      · injection h1 with h1; injection h2 with h2; rw [← h1, ← h2]; exact hv
      · cases h2
    · cases h1
  · rw [List.getElem?_set_ne e] at h1 h2
    exact h.2 j v' xs' h1 h2
theorem ValsOk.noInt {w : World} {g n : Nat} {vals : List Value} {T : List (List Int)} (h : ValsOk w vals T) (hown : w.ownsRow g 32 1 (.slice (some ⟨g, 0, none⟩) n n) n vals) (hn : n = T.length) : ∀ b ∈ [g], ∀ off x, w.cell? ⟨b, off, none⟩ ≠ some (.int .i64 x) := by
  intro b hb off x hc
  simp only [List.mem_cons, List.not_mem_nil, or_false] at hb
  subst hb
  by_cases hlt : off < n
  · rw [hown.cellAt off (by omega)] at hc
    obtain ⟨xs, hx⟩ := getElem?_some_of_lt (l := T) (k := off) (by omega)
    obtain ⟨A, k, c, e, _, _⟩ := h.2 off _ xs hc hx
    cases e
  · rcases hown.2 with ⟨e, _⟩ | ⟨g', cap, cur, e, h1, h2, h3, h4, h5, h6⟩
    · cases e
    · injection e with e1 e2 e3
      injection e1 with e1
      injection e1 with e1
      subst e1
      unfold World.cell? at hc
      rw [h2] at hc
      have : off < cur.size := by
        have := (Array.getElem?_eq_some_iff.1 (show cur[off]? = some (.int .i64 x) by simpa using hc)).1
        exact this
      omega
theorem ValsOk.setCell {w : World} {g n k : Nat} {vals : List Value} {T : List (List Int)} (h : ValsOk w vals T) (hown : w.ownsRow g 32 1 (.slice (some ⟨g, 0, none⟩) n n) n vals) (hn : n = T.length) (v : Value) : ValsOk (w.setCell ⟨g, k, none⟩ v) vals T := by
  refine ⟨h.1, fun i u xs hu hx => ?_⟩
  obtain ⟨A, m, c, e, hle, hI⟩ := h.2 i u xs hu hx
  exact ⟨A, m, c, e, hle, hI.keptBut (KeptBut.setCell (S := [g]) w (p := ⟨g, k, none⟩) (by simp) v) (h.noInt hown hn)⟩
def RetTab (w : World) (T : List (List Int)) (e : Ending) (w' : World) : Prop := ∃ B m c, e = .returned (.slice B m c) ∧ m ≤ c ∧ Tab w' B m T ∧ Kept w w'
theorem tabStep_at {l : List Mp} {cp : Bool} {T : List (List Int)} {i : Nat} {m : Mp} (h : l[i]? = some m) : tabStep l cp T i = if cp || plainTag m then T.set i (replL l cp T m.to) else T := by unfold tabStep; rw [h]
set_option maxRecDepth 100000 in
set_option maxHeartbeats 4000000 in
theorem r21table (A : Option Addr) (n c : Nat) (cp : Bool) (l : List Mp) (F : Int → List Int) (w : World) (hn : n ≤ 1000) (hl : Mps w A n l) (hto : ∀ m ∈ l, m.to.length ≤ 1000) (hst : ∀ T i, TabLe l F T → TabLe l F (tabStep l cp T i)) (hle : ∀ T, TabLe l F T → ∀ x, (tabOf l cp T x).length ≤ 1000) :
    Calls Tryz.prog 181 #[.slice A n c, .bool cp] w (RetTab w (refTable l cp)) := by
  have HL := Lib.hid hl
  have HN := Lib.hid hl.1
  have HTO := Lib.hid hto
  have HST := Lib.hid hst
  have HLE := Lib.hid hle
  clear hl hto hst hle
  obtain ⟨i0, hi, hz0, hz1, hz2⟩ := info_parts1 info_ints
  have HI0 := Lib.hid hi
  have HZ0 := Lib.hid hz0
  have HZ1 := Lib.hid hz1
  have HZ2 := Lib.hid hz2
  clear hi hz0 hz1 hz2
  go_enter Tryz.func181, Tryz.ntmps181
  go_wp2_with (at_make; refine wpList_make_full _ rfl _ _ 29 rfl w.heap.size 32 i0 (.slice none 0 0) 1 Tryz.underlying29 HI0.out HZ0.out HZ1.out .i64 .i64 _ _ n rfl rfl rfl rfl (by rw [HZ2.out]; omega) (by unfold maxLen; omega) (Nat.le_refl _) ?_; intro w0 hown0 hgrow0)
  have hB0 : Below w.heap.size w w0 := (Below.refl _ w).grown hgrow0 (Nat.le_refl _) (fun q e => by cases e)
  have hown1 : w0.ownsRow w.heap.size 32 1 (.slice (some ⟨w.heap.size, 0, none⟩) n n) n (List.replicate n (.slice none 0 0)) := by
    have := hown0
    rw [Nat.mul_one, show (Value.slice none 0 0).cells = #[Value.slice none 0 0] from rfl, toList_madeCells_one] at this
    simpa using this
  have HOW := Lib.hid hown1
  clear hown0 hown1 hgrow0
  obtain ⟨g, hg⟩ : ∃ g : Nat, g = w.heap.size := ⟨_, rfl⟩
  have HG := Lib.hid hg
  rw [← hg] at HOW hB0 ⊢
  clear hg
  go_loopw [6] (fun i wr => ∃ (r : Nat) (vals : List Value), r ≤ n ∧ i = .int .i64 r ∧ wr.ownsRow g 32 1 (.slice (some ⟨g, 0, none⟩) n n) n vals ∧ ValsOk wr vals (iter (tabRound l cp) r (List.replicate n [])) ∧ TabLe l F (iter (tabRound l cp) r (List.replicate n [])) ∧ Below g w wr) (fun i _ => n - (intOf i).toNat)
  case atStart => exact ⟨0, _, Nat.zero_le _, rfl, HOW.out, ValsOk.start _ _, by rw [HN.out]; exact tabLe_start, hB0⟩
  case round =>
    obtain ⟨r, vals, hr, rfl, hown, hv, htl, hB⟩ := hrel
    have HO := Lib.hid hown
    have HV := Lib.hid hv
    have HTL := Lib.hid htl
    have HB := Lib.hid hB
    clear hown hv htl hB
    by_cases hlt : r < n
    · have HIT := Lib.hid (show iter (tabRound l cp) (r + 1) (List.replicate n []) = tabRound l cp (iter (tabRound l cp) r (List.replicate n [])) from rfl)
      generalize iter (tabRound l cp) r (List.replicate n []) = T0 at *
      go_wp2_with fail
      obtain ⟨w1, rfl⟩ : ∃ w1 : World, w1 = wr := ⟨_, rfl⟩
      go_loopw [7] (fun i wr => ∃ (k : Nat) (vals : List Value), k ≤ n ∧ i = .int .i64 k ∧ wr.ownsRow g 32 1 (.slice (some ⟨g, 0, none⟩) n n) n vals ∧ ValsOk wr vals ((List.range k).foldl (tabStep l cp) T0) ∧ TabLe l F ((List.range k).foldl (tabStep l cp) T0) ∧ Below g w wr) (fun i _ => n - (intOf i).toNat)
      case atStart => exact ⟨0, vals, Nat.zero_le _, rfl, HO.out, HV.out, HTL.out, HB.out⟩
      case round =>
        obtain ⟨k, vals2, hk, rfl, hown, hv, htl, hB⟩ := hrel
        have HSS := Lib.hid (range_succ_foldl (tabStep l cp) k T0)
        have HFIN := Lib.hid (show k = n → (List.range k).foldl (tabStep l cp) T0 = tabRound l cp T0 from fun e => by rw [e, HN.out]; rfl)
        have HO2 := Lib.hid hown
        have HV2 := Lib.hid hv
        have HT2 := Lib.hid htl
        have HB2 := Lib.hid hB
        clear hown hv htl hB
        generalize (List.range k).foldl (tabStep l cp) T0 = T at *
        by_cases hlt2 : k < n
        · have hkw : Kept w wr := by have := HB2.out; rw [HG.out] at this; exact this
          obtain ⟨b, off, m, A', n', c', hA, hm, hle', hI, c0, c1, c2⟩ := mp_at (HL.out.kept hkw) hlt2
          have hn' : n' ≤ 1000 := by rw [hI.1]; exact HTO.out m (mem_of_getElem?_some hm)
          have HES := Lib.hid (tabStep_at (cp := cp) (T := T) hm)
          have HTS := Lib.hid (HST.out T k HT2.out)
          have HRP := Lib.hid (r21replaced A n c l (some ⟨g, 0, none⟩) n n T A' n' c' m.to cp wr (by omega) (HL.out.kept hkw) rfl (HV2.out.tab (by rw [HT2.out.1]; exact HN.out) HO2.out) (by omega) hI (HLE.out T HT2.out))
          have HKW := Lib.hid hkw
          have hgb : g < wr.heap.size := (HO2.out.lt g rfl).2
          rw [hA] at HRP ⊢
          clear hm hI hkw c0 hA
          cases cp
          · cases ht : m.tag.toList.isEmpty
            · have hte : ¬ m.tag.toList = [] := by simpa using ht
              have HT := Lib.hid ht
              go_wp2_with fail
              go_roundw
              case rel => exact ⟨k + 1, vals2, by omega, by go_num, HO2.out, by rw [HSS.out, HES.out, if_neg (by simp [plainTag, HT.out])]; exact HV2.out, by rw [HSS.out]; exact HTS.out, HB2.out⟩
              case measure => simp [intOf]; omega
            · have hte : m.tag.toList = [] := by simpa using ht
              have HT := Lib.hid ht
              go_wp2_with fail
              refine HRP.out.mono ?_
              rintro e w3 ⟨A3, n3, c3, rfl, le3, i3, k3⟩
              have hown3 := own_kept HO2.out k3
              have hv3 := HV2.out.kept k3
              have hTn : n = T.length := by rw [HT2.out.1]; exact HN.out
              obtain ⟨v0, hv0⟩ := getElem?_some_of_lt (l := vals2) (k := k) (by rw [hv3.1]; omega)
              have cg : w3.cell? ⟨g, k, none⟩ = some v0 := by rw [hown3.cellAt k (by omega)]; exact hv0
              have fg := hown3.frozenAt k
              have HST3 := Lib.hid (hown3.stored k (.slice A3 n3 c3)).1
              have HV4 := Lib.hid ((hv3.setCell (k := k) hown3 hTn (.slice A3 n3 c3)).set k (v := .slice A3 n3 c3) (xs := replL l false T m.to) ⟨A3, n3, c3, rfl, le3, i3.keptBut (KeptBut.setCell (S := [g]) w3 (p := ⟨g, k, none⟩) (by simp) _) (hv3.noInt hown3 hTn)⟩)
              have HB4 := Lib.hid (Below.setCell (Below.trans HB2.out (k3.mono (by omega))) (p := ⟨g, k, none⟩) (Nat.le_refl _) (.slice A3 n3 c3))
              clear hown3 hv3 hv0 i3 hTn
              go_wp2_with fail
              go_roundw
              case rel => exact ⟨k + 1, vals2.set k (.slice A3 n3 c3), by omega, by go_num, HST3.out, by rw [HSS.out, HES.out, if_pos (by simp [plainTag, HT.out])]; exact HV4.out, by rw [HSS.out]; exact HTS.out, HB4.out⟩
              case measure => simp [intOf]; omega
          · clear c2
            go_wp2_with fail
            refine HRP.out.mono ?_
            rintro e w3 ⟨A3, n3, c3, rfl, le3, i3, k3⟩
            have hown3 := own_kept HO2.out k3
            have hv3 := HV2.out.kept k3
            have hTn : n = T.length := by rw [HT2.out.1]; exact HN.out
            obtain ⟨v0, hv0⟩ := getElem?_some_of_lt (l := vals2) (k := k) (by rw [hv3.1]; omega)
            have cg : w3.cell? ⟨g, k, none⟩ = some v0 := by rw [hown3.cellAt k (by omega)]; exact hv0
            have fg := hown3.frozenAt k
            have HST3 := Lib.hid (hown3.stored k (.slice A3 n3 c3)).1
            have HV4 := Lib.hid ((hv3.setCell (k := k) hown3 hTn (.slice A3 n3 c3)).set k (v := .slice A3 n3 c3) (xs := replL l true T m.to) ⟨A3, n3, c3, rfl, le3, i3.keptBut (KeptBut.setCell (S := [g]) w3 (p := ⟨g, k, none⟩) (by simp) _) (hv3.noInt hown3 hTn)⟩)
            have HB4 := Lib.hid (Below.setCell (Below.trans HB2.out (k3.mono (by omega))) (p := ⟨g, k, none⟩) (Nat.le_refl _) (.slice A3 n3 c3))
            clear hown3 hv3 hv0 i3 hTn
            go_wp2_with fail
            go_roundw
            case rel => exact ⟨k + 1, vals2.set k (.slice A3 n3 c3), by omega, by go_num, HST3.out, by rw [HSS.out, HES.out, if_pos (by simp)]; exact HV4.out, by rw [HSS.out]; exact HTS.out, HB4.out⟩
            case measure => simp [intOf]; omega
        · have hkn : k = n := by omega
          go_wp2_with fail
          go_roundw
          case rel => exact ⟨r + 1, vals2, by omega, by go_num, HO2.out, by rw [HIT.out, ← HFIN.out hkn]; exact HV2.out, by rw [HIT.out, ← HFIN.out hkn]; exact HT2.out, HB2.out⟩
          case measure => simp [intOf]; omega
    · have hrn : r = n := by omega
      go_wp2_with fail
      go_ret
      refine ⟨some ⟨g, 0, none⟩, n, n, rfl, Nat.le_refl _, ?_, by have := HB.out; rw [HG.out] at this; exact this⟩
      have := HV.out.tab (n := n) (by rw [HTL.out.1]; exact HN.out) HO.out
      rw [hrn, HN.out] at this
      rw [HN.out]
      exact this
theorem full_len_ {n : Nrm} (g : Good n) (cp : Bool) (T : List (List Int)) (h : TabLe n.decomp (fullOf n.decomp cp) T) (x : Int) : (tabOf n.decomp cp T x).length ≤ 1000 := by
  have hF := fullOf_eq (ends_any g.ends cp)
  have h1 := tabOf_le g.sorted g.hangul hF h x
  have h2 := full_length g.sorted g.hangul g.ends g.short cp hF x
  omega
set_option maxRecDepth 100000 in
set_option maxHeartbeats 2000000 in
theorem r21full (s : Sls) (n : Nrm) (g : Good n) (B : Option Addr) (m d : Nat) (text : List Int) (cp : Bool) (w : World) (hN : NormAt w s n) (hm : m ≤ 30000) (hI : Ints w B m text) :
    Calls Tryz.prog 137 #[s.val, .slice B m d, .bool cp] w (RetInts w (text.flatMap (fullOf n.decomp cp))) := by
  have hk1 := Kept.alloc (Kept.refl w) (Obj.cells #[Value.slice s.Ac s.nc s.cc, Value.slice s.Am s.nm s.cm, Value.slice s.Ae s.ne s.ce] 28)
  have hbx := box_cell w #[Value.slice s.Ac s.nc s.cc, Value.slice s.Am s.nm s.cm, Value.slice s.Ae s.ne s.ce] 28
  have x1 : (w.alloc (Obj.cells #[Value.slice s.Ac s.nc s.cc, Value.slice s.Am s.nm s.cm, Value.slice s.Ae s.ne s.ce] 28)).cell? ⟨w.heap.size, 1, none⟩ = some (.slice s.Am s.nm s.cm) := hbx 1
  have HX1 := Lib.hid x1
  have HK1 := Lib.hid (Kept.drew hk1)
  have hF := fullOf_eq (ends_any g.ends cp)
  have HTB := Lib.hid (fun w' (hk : Kept w w') => r21table s.Am s.nm s.cm cp n.decomp (fullOf n.decomp cp) w' (by have := hN.bm; omega) (hN.kept hk).dec hN.to (fun T i h => tabStep_le g.sorted g.hangul hF h i) (full_len_ g cp))
  have HRP := Lib.hid (fun C c t w' (hk : Kept w w') (ht : t = s.nm) (hT : Tab w' C t (refTable n.decomp cp)) => r21replaced s.Am s.nm s.cm n.decomp C t c (refTable n.decomp cp) B m d text cp w' (by have := hN.bm; omega) (hN.kept hk).dec ht hT hm (hI.kept hk) (full_len_ g cp _ (iter_tabLe g.sorted g.hangul hF n.decomp.length _ tabLe_start)))
  have HEQ := Lib.hid (refFull_eq g.sorted g.hangul g.ends hF text)
  have HTN := Lib.hid (show (refTable n.decomp cp).length = s.nm by rw [refTable_length]; exact hN.dec.1.symm)
  unfold refFull at HEQ
  rw [HEQ.out] at HRP
  clear hN hI hk1 hbx x1 hF
  generalize text.flatMap (fullOf n.decomp cp) = R at *
  generalize refTable n.decomp cp = T at *
  unfold Sls.val
  go_enter Tryz.func137, Tryz.ntmps137
  go_wp2_with fail
  go_region_held3 (fun w' => w'.cell? ⟨w.heap.size, 1, none⟩ = some (.slice s.Am s.nm s.cm)) (first | exact t0 | exact q0 | exact HX1.out)
    (first
      | (go_at_call 180; refine (HRP.out B2 c2 m2 _ K2.out (by rw [HT2.out.1]; exact HTN.out) HT2.out).mono ?_; rintro e w3 ⟨A3, n3, c3, rfl, le3, i3, k3⟩; have I3 := Lib.hid i3; clear i3; have t0 := Kept.cell k3 q0; have K3 := Lib.hid (Kept.trans K2.out k3))
      | (go_at_call 181; refine (HTB.out _ HK1.out).mono ?_; rintro e w2 ⟨B2, m2, c2, rfl, le2, t2, k2⟩; have HT2 := Lib.hid t2; clear t2; have q0 := Kept.cell k2 HX1.out; have K2 := Lib.hid (Kept.trans HK1.out k2)))
  go_wp2_with fail
  go_ret
  exact ⟨A3, n3, c3, rfl, le3, I3.out, K3.out⟩
end Go.Proofs.YtmlcdohldkgcdaaGreatDoor
namespace Go.Proofs.YtmlcdohldkgcdaaGreatDoor
open Go Go.RowKit
set_option maxRecDepth 100000 in
set_option maxHeartbeats 2000000 in
theorem r21text_big (s : Sls) (n : Nrm) (B : Option Addr) (m d : Nat) (text : List Int) (cp : Bool) (w : World) (hN : NormAt w s n) (htag : ∀ m ∈ n.decomp, m.tag.size ≤ 1000) (hm : m ≤ 30000) (hI : Ints w B m text) :
    Calls Tryz.prog 106 #[s.val, .slice B m d, .bool cp] w (RetFar w (textOf n cp text)) := by
  have hk1 := Kept.alloc (Kept.refl w) (Obj.cells #[Value.slice s.Ac s.nc s.cc, Value.slice s.Am s.nm s.cm, Value.slice s.Ae s.ne s.ce] 28)
  have HD := Lib.hid (r21data s n _ (hN.kept hk1) htag)
  have hNU := usableS_at hN
  have HF := Lib.hid (fun w' (hk : Kept w w') => r21full (usableS s n) (usableN n) (usableN_good n) B m d text cp w' (hNU.kept hk) (by omega) (hI.kept hk))
  have hfl : (text.flatMap (fullOf (usableN n).decomp cp)).length ≤ 1920000 := by
    have := fullText_length n cp text
    have h2 := hI.1
    unfold fullText at this
    omega
  have HFL := Lib.hid hfl
  have HSO := Lib.hid (fun A2 n2 c2 w' (hk : Kept w w') (h2 : n2 ≤ 1920000) (hI2 : Ints w' A2 n2 (text.flatMap (fullOf (usableN n).decomp cp))) => r20Sort_far (usableS s n).Ac (usableS s n).nc (usableS s n).cc (usableN n).classes A2 n2 c2 _ w' (by have := hNU.bc; omega) (by omega) (hNU.kept hk).cls hI2)
  rw [usableN_spans, refSort_eq (fun x => classOf_nonneg (usableN_good n).ord x), show sortT (classOf (usableN n).classes) (text.flatMap (fullOf (usableN n).decomp cp)) = textOf n cp text by rw [textOf_eq, textE_eq]] at HSO
  have HK1 := Lib.hid hk1
  clear hN htag hk1 hI hNU hfl
  generalize usableS s n = s1 at *
  generalize text.flatMap (fullOf (usableN n).decomp cp) = X at *
  generalize textOf n cp text = R at *
  unfold Sls.val at *
  go_enter Tryz.func106, Tryz.ntmps106
  go_wp2_with fail
  refine HD.out.mono ?_
  rintro e w1 ⟨rfl, k1⟩
  obtain ⟨bd, hbd⟩ : ∃ bd : Nat, bd = w1.heap.size := ⟨_, rfl⟩
  have hka := Kept.alloc (Kept.refl w1) (Obj.cells #[Value.slice s1.Ac s1.nc s1.cc, Value.slice s1.Am s1.nm s1.cm, Value.slice s1.Ae s1.ne s1.ce] 28)
  have hdb : (w1.alloc (Obj.cells #[Value.slice s1.Ac s1.nc s1.cc, Value.slice s1.Am s1.nm s1.cm, Value.slice s1.Ae s1.ne s1.ce] 28)).heap[bd]? = some (.cells #[Value.slice s1.Ac s1.nc s1.cc, Value.slice s1.Am s1.nm s1.cm, Value.slice s1.Ae s1.ne s1.ce] 28 (0, 0)) := alloc_at hbd
  have p0 := cell_of_block (i := 0) hdb rfl
  have p1 := cell_of_block (i := 1) hdb rfl
  have p2 := cell_of_block (i := 2) hdb rfl
  simp only [s4_, s5_, s6_] at p0 p1 p2
  have K2d := Lib.hid (Kept.drew (Kept.trans (Kept.trans HK1.out k1) hka))
  clear hka hdb
  go_wp2_with fail
  rw [← hbd]
  clear hbd
  generalize w1.alloc (Obj.cells #[Value.slice s1.Ac s1.nc s1.cc, Value.slice s1.Am s1.nm s1.cm, Value.slice s1.Ae s1.ne s1.ce] 28) = W2 at *
  go_region_held3 (fun w' => w'.cell? ⟨bd, 0, none⟩ = some (.slice s1.Ac s1.nc s1.cc) ∧ w'.cell? ⟨bd, 1, none⟩ = some (.slice s1.Am s1.nm s1.cm) ∧ w'.cell? ⟨bd, 2, none⟩ = some (.slice s1.Ae s1.ne s1.ce)) (first | exact ⟨r0, r1, r2⟩ | exact ⟨q0, q1, q2⟩ | exact ⟨p0, p1, p2⟩)
    (first
      | (go_at_call 136; refine (HSO.out A3 n3 c3 _ K3.out (by rw [I3.out.1]; exact HFL.out) I3.out).mono ?_; rintro e w4 ⟨A4, n4, c4, rfl, le4, i4, fr4, k4⟩; have I4 := Lib.hid i4; have FR4 := Lib.hid fr4; clear i4 fr4; have r0 := Kept.cell k4 q0; have r1 := Kept.cell k4 q1; have r2 := Kept.cell k4 q2; have K4 := Lib.hid (Kept.trans K3.out k4))
      | (go_at_call 137; refine (HF.out _ K2d.out).mono ?_; rintro e w3 ⟨A3, n3, c3, rfl, le3, i3, k3⟩; have I3 := Lib.hid i3; clear i3; have q0 := Kept.cell k3 p0; have q1 := Kept.cell k3 p1; have q2 := Kept.cell k3 p2; have K3 := Lib.hid (Kept.trans K2d.out k3)))
  go_wp2_with fail
  go_ret
  exact ⟨A4, n4, c4, rfl, le4, I4.out, fun a ha => Nat.le_trans K3.out.size (FR4.out a ha), K4.out⟩
end Go.Proofs.YtmlcdohldkgcdaaGreatDoor
