/- The reference's mappings applied to a text: valid, find, Apply. The reference on the data of case mapping: Small, tagged, Check, Data, Fold. And more of that kind. -/
import Derived.Deep.RegionHeld3
import Derived.Test.YtmlcdohldkgcdaaGreatDoorKRfb
import Derived.Test.YtmlcdohldkgcdaaGreatDoorKRfj
import Derived.Test.YtmlcdohldkgcdaaGreatDoorKSq
import Derived.Test.YtmlcdohldkgcdaaGreatDoorKCasS
import Derived.Test.YtmlcdohldkgcdaaGreatDoorKRfx
import Derived.Test.YtmlcdohldkgcdaaGreatDoorKExpC
import Derived.Test.YtmlcdohldkgcdaaGreatDoorKMpx
import Derived.Test.YtmlcdohldkgcdaaGreatDoorKPl58
import Derived.Test.YtmlcdohldkgcdaaGreatDoorKRfl
import Derived.Test.YtmlcdohldkgcdaaGreatDoorKPq
import Derived.Test.YtmlcdohldkgcdaaGreatDoorKSqx
import Derived.Test.YtmlcdohldkgcdaaGreatDoorKCur
import Derived.Test.YtmlcdohldkgcdaaGreatDoorKAlive39
namespace Go.Proofs.YtmlcdohldkgcdaaGreatDoor
open Go Go.RowKit
def mapP (x : Int) (m : Mp) : Bool := decide (m.src = x) && decide (m.tag.toList = [])
def mapAt (l : List Mp) (x : Int) : Option (List Int) := (l.find? (mapP x)).map (·.to)
theorem mapAt_take {l : List Mp} {x : Int} {k : Nat} {m : Mp} (hn : (l.take k).find? (mapP x) = none) (hm : l[k]? = some m) (hh : mapP x m = true) : mapAt l x = some m.to := by
  have e : l = l.take k ++ m :: l.drop (k + 1) := by rw [← drop_some hm, List.take_append_drop]
  unfold mapAt
  rw [e, List.find?_append, hn]
  simp only [Option.none_or]
  rw [List.find?_cons_of_pos hh]
  rfl
theorem mapAt_next {l : List Mp} {x : Int} {k : Nat} {m : Mp} (hn : (l.take k).find? (mapP x) = none) (hm : l[k]? = some m) (hh : mapP x m = false) : (l.take (k + 1)).find? (mapP x) = none := by
  rw [take_succ_some hm, List.find?_append, hn, Option.none_or, List.find?_cons_of_neg (by rw [hh]; decide)]
  rfl
def validM (l : List Mp) : List Mp := if refMapCheck l = 0 then l else []
def applyOne (l : List Mp) (x : Int) : List Int := (mapAt l x).getD [x]
def applyR (l : List Mp) (text : List Int) : List Int := text.flatMap (applyOne (validM l))
theorem own_formI {w : World} {base : Nat} {v : Value} {xs : List Int} (h : OwnI w base v xs) : ∃ A c, v = .slice A xs.length c := by
  rcases h.2 with ⟨rfl, h0⟩ | ⟨g, cap, cur, rfl, _⟩
  · exact ⟨none, 0, by rw [h0]⟩
  · exact ⟨_, _, rfl⟩
theorem own_emptyM (w : World) : OwnI (w.alloc (Obj.cells #[] 3)) w.heap.size (.slice (some ⟨w.heap.size, 0, none⟩) 0 0) [] :=
  ⟨rfl, .inr ⟨w.heap.size, 0, #[], rfl, Nat.le_refl _, heap_alloc_new _ _, Nat.le_refl _, Nat.zero_le _, rfl, rfl⟩⟩
set_option maxRecDepth 100000 in
set_option maxHeartbeats 2000000 in
theorem r11valid (A : Option Addr) (n c : Nat) (l : List Mp) (w : World) (hn : n ≤ 1000) (hle : n ≤ c) (hl : Mps w A n l) (hto : ∀ m ∈ l, m.to.length ≤ 1000) (htag : ∀ m ∈ l, m.tag.size ≤ 1000) :
    Calls Tryz.prog 176 #[.slice A n c] w (fun e w' => ∃ Q k d, e = .returned (.slice Q k d) ∧ k ≤ d ∧ k ≤ 1000 ∧ Mps w' Q k (validM l) ∧ Kept w w') := by
  have HC := Lib.hid (r11Check A n c l w hn hl hto htag)
  have HL := Lib.hid hl
  clear hl hto htag
  by_cases hu : refMapCheck l = 0
  · have hb : (refMapCheck l != 0) = false := by simp [hu]
    have HU := Lib.hid hu
    clear hu
    go_enter Tryz.func176, Tryz.ntmps176
    go_wp2_with fail
    refine HC.out.mono ?_
    rintro e w1 ⟨rfl, k1⟩
    go_wp2_with fail
    go_ret
    exact ⟨A, n, c, rfl, hle, hn, by unfold validM; rw [if_pos HU.out]; exact HL.out.kept k1, k1⟩
  · have hb : (refMapCheck l != 0) = true := by simp [hu]
    have HU := Lib.hid hu
    clear hu
    go_enter Tryz.func176, Tryz.ntmps176
    go_wp2_with fail
    refine HC.out.mono ?_
    rintro e w1 ⟨rfl, k1⟩
    go_wp2_with fail
    go_ret
    exact ⟨none, 0, 0, rfl, Nat.le_refl _, Nat.zero_le _, by unfold validM; rw [if_neg HU.out]; exact ⟨rfl, fun h => absurd h (by decide)⟩, k1⟩
set_option maxRecDepth 100000 in
set_option maxHeartbeats 2000000 in
theorem r11find (A : Option Addr) (n c : Nat) (l : List Mp) (x : Int) (w : World) (hn : n ≤ 1000) (hl : Mps w A n l) (hto : ∀ m ∈ l, m.to.length ≤ 1000) :
    Calls Tryz.prog 177 #[.slice A n c, .int .i64 x, .string ⟨#[]⟩] w (fun e w' => ∃ Q k d, e = .returned (.tuple #[.slice Q k d, .bool (mapAt l x).isSome]) ∧ k ≤ d ∧ k ≤ 1000 ∧ Ints w' Q k ((mapAt l x).getD []) ∧ Kept w w') := by
  have HL := Lib.hid hl
  have HN := Lib.hid hl.1
  have HTO := Lib.hid hto
  clear hl hto
  go_enter Tryz.func177, Tryz.ntmps177
  go_wp2_with fail
  go_loopw [8] (fun i wr => ∃ k : Nat, k ≤ n ∧ i = .int .i64 k ∧ (l.take k).find? (mapP x) = none ∧ Kept w wr) (fun i _ => n - (intOf i).toNat)
  case atStart => exact ⟨0, Nat.zero_le _, rfl, rfl, Kept.refl _⟩
  case round =>
    obtain ⟨k, hk, rfl, hno, hkw⟩ := hrel
    have HNO := Lib.hid hno
    have KW := Lib.hid hkw
    clear hno hkw
    by_cases hlt : k < n
    · have hl1 : (k : Int) < (n : Int) := by omega
      obtain ⟨b, off, m, A', n', c', rfl, hm, hle', hI', c0, c1, c2⟩ := mp_at (HL.out.kept KW.out) hlt
      have HM := Lib.hid hm
      have HI := Lib.hid hI'
      have HTM := Lib.hid (HTO.out m (mem_of_getElem?_some hm))
      clear hm hI'
      by_cases hs : m.src = x
      · by_cases ht : m.tag.toList = []
        · have HR := Lib.hid (mapAt_take HNO.out HM.out (by unfold mapP; rw [decide_eq_true hs, decide_eq_true ht]; rfl))
          have hte : m.tag.toList.isEmpty = true := by simp [ht]
          subst hs
          have hka := Kept.alloc (Kept.refl wr) (Obj.cells #[] 3)
          have HKA := Lib.hid hka
          clear hka
          have HO := Lib.hid (own_emptyM wr)
          have d0 := Kept.cell HKA.out c0
          have d1 := Kept.cell HKA.out c1
          have hln : n' ≤ 1000 := by have h1 := HTM.out; have h2 := HI.out.1; omega
          go_wp2_with (at_builtin; refine app_ints rfl _ _ rfl wr.heap.size _ _ rfl HO.out _ _ _ m.to rfl (HI.out.kept HKA.out) (by have := HTM.out; simp; omega) (by simp) ?_; intro v2 w2 hown2 hgrow2 hat2)
          have K2 := Lib.hid (show Kept wr w2 from HKA.out.grown hgrow2 (by simp) (fun q e => (World.ownsRow.lt HO.out q e).1))
          rw [List.nil_append] at hown2
          obtain ⟨A3, c3, rfl, hle3, hI3⟩ := OwnI.sl hown2
          clear hown2 hgrow2 hat2
          go_wp2_with fail
          go_ret2
          refine ⟨A3, _, c3, by rw [HR.out]; rfl, hle3, HTM.out, ?_, Kept.trans KW.out K2.out⟩
          rw [HR.out]
          exact hI3
        · have HNX := Lib.hid (mapAt_next HNO.out HM.out (by unfold mapP; rw [decide_eq_true hs, decide_eq_false ht]; rfl))
          have hte : m.tag.toList.isEmpty = false := by simpa using ht
          subst hs
          go_wp2_with fail
          go_roundw
          case rel => exact ⟨k + 1, by omega, by go_num, HNX.out, KW.out⟩
          case measure => simp [intOf]; omega
      · have HNX := Lib.hid (mapAt_next HNO.out HM.out (by unfold mapP; rw [decide_eq_false hs]; rfl))
        have hs2 : (m.src == x) = false := by simp [hs]
        go_wp2_with fail
        go_roundw
        case rel => exact ⟨k + 1, by omega, by go_num, HNX.out, KW.out⟩
        case measure => simp [intOf]; omega
    · have hl1 : ¬ (k : Int) < (n : Int) := by omega
      have HR := Lib.hid (show mapAt l x = none by
        have h := HNO.out
        rw [List.take_of_length_le (by have := HN.out; omega)] at h
        unfold mapAt
        rw [h]; rfl)
      go_wp2_with fail
      go_ret2
      exact ⟨none, 0, 0, by rw [HR.out]; rfl, Nat.le_refl _, Nat.zero_le _, by rw [HR.out]; exact Sl.nil, KW.out⟩
theorem mapAt_mem {l : List Mp} {x : Int} {t : List Int} (h : mapAt l x = some t) : ∃ m ∈ l, m.to = t := by
  unfold mapAt at h
  rw [Option.map_eq_some_iff] at h
  obtain ⟨m, hm, rfl⟩ := h
  exact ⟨m, List.mem_of_find?_eq_some hm, rfl⟩
theorem validM_mem {l : List Mp} {m : Mp} (h : m ∈ validM l) : m ∈ l := by
  unfold validM at h
  split at h
  · exact h
  · cases h
theorem applyOne_length {l : List Mp} (hto : ∀ m ∈ l, m.to.length ≤ 1000) (x : Int) : (applyOne l x).length ≤ 1000 := by
  unfold applyOne
  cases h : mapAt l x with
  | none => simp
  | some t =>
    obtain ⟨m, hm, rfl⟩ := mapAt_mem h
    exact hto m hm
theorem applyR_length {l : List Mp} (hto : ∀ m ∈ l, m.to.length ≤ 1000) (text : List Int) : (applyR l text).length ≤ 1000 * text.length := by
  unfold applyR
  induction text with
  | nil => simp
  | cons x t ih =>
    rw [List.flatMap_cons, List.length_append, List.length_cons]
    have := applyOne_length (fun m hm => hto m (validM_mem hm)) x
    omega
set_option maxRecDepth 100000 in
set_option maxHeartbeats 2000000 in
theorem r11Apply (A : Option Addr) (n c : Nat) (l : List Mp) (B : Option Addr) (m d : Nat) (text : List Int) (w : World) (hn : n ≤ 1000) (hle : n ≤ c) (hl : Mps w A n l) (hto : ∀ m ∈ l, m.to.length ≤ 1000) (htag : ∀ m ∈ l, m.tag.size ≤ 1000) (hm : m ≤ 100000) (hI : Ints w B m text) :
    Calls Tryz.prog 133 #[.slice A n c, .string ⟨#[]⟩, .slice B m d] w (RetInts w (applyR l text)) := by
  have HV := Lib.hid (r11valid A n c l w hn hle hl hto htag)
  have HI := Lib.hid hI
  have HML := Lib.hid hI.1
  have HLN := Lib.hid (fun t => applyR_length hto t)
  have HF := Lib.hid (fun Q k d x w' (h1 : k ≤ 1000) (h2 : Mps w' Q k (validM l)) => r11find Q k d (validM l) x w' h1 h2 (fun m hm => hto m (validM_mem hm)))
  clear hl hto htag hI
  go_enter Tryz.func133, Tryz.ntmps133
  go_wp2_with fail
  refine HV.out.mono ?_
  rintro e w1 ⟨Q, q, dq, rfl, hqd, hq, hMQ, k1⟩
  have HMQ := Lib.hid hMQ
  have K1 := Lib.hid k1
  have I1 := Lib.hid (HI.out.kept k1)
  clear hMQ k1
  have HAP := Lib.hid (fun t => show applyR l t = t.flatMap (applyOne (validM l)) from rfl)
  go_wp2_with fail
  go_loopw [7, 8] (fun p i wr => ∃ k : Nat, k ≤ m ∧ i = .int .i64 k ∧ OwnI wr w1.heap.size p (applyR l (text.take k)) ∧ Kept w1 wr) (fun _ i _ => m - (intOf i).toNat)
  case atStart => exact ⟨0, Nat.zero_le _, rfl, (World.ownsRow_nil _ _ _ _ : OwnI w1 w1.heap.size (.slice none 0 0) []), Kept.refl _⟩
  case round =>
    obtain ⟨k, hk, rfl, hown, hkw⟩ := hrel
    have HOW := Lib.hid hown
    have KW := Lib.hid hkw
    have hsz := hkw.size
    obtain ⟨Ao, co, hpv⟩ := own_formI hown
    subst hpv
    clear hown hkw
    by_cases hlt : k < m
    · have hl1 : (k : Int) < (m : Int) := by omega
      obtain ⟨b, off, x, hA, hx, cx⟩ := int_at (I1.out.kept KW.out) hlt
      rw [hA]
      have HSN := Lib.hid (show applyR l (text.take (k + 1)) = applyR l (text.take k) ++ applyOne (validM l) x by rw [HAP.out, HAP.out, take_succ_some hx, List.flatMap_append]; simp)
      have hL : (applyR l (text.take k)).length ≤ 100000000 := by have h1 := HLN.out (text.take k); rw [List.length_take] at h1; omega
      have HFX := Lib.hid (HF.out Q q dq x wr hq (HMQ.out.kept KW.out))
      generalize applyR l (text.take k) = T at *
      unfold applyOne at HSN
      clear hx hA
      cases hf : mapAt (validM l) x with
      | none =>
        rw [hf] at HFX HSN
        clear hf
        go_wp2_with fail
        refine HFX.out.mono ?_
        rintro e w2 ⟨Q2, k2, d2, rfl, _, _, _, kk⟩
        have K2 := Lib.hid (Kept.trans KW.out kk)
        have HO2 := Lib.hid (own_kept HOW.out kk)
        have hs2 := kk.size
        have cx2 := Kept.cell kk cx
        have hka := Kept.alloc (Kept.refl w2) (Obj.cells #[Value.int IntKind.i64 x] 3)
        have HKA := Lib.hid hka
        clear hka kk cx
        go_wp2_with (at_builtin; refine app_ints rfl _ _ rfl w1.heap.size _ _ rfl (by exact own_kept HO2.out HKA.out) _ _ _ [x] rfl (by exact Ints.alloc_ (xs := [x]) rfl rfl) (by simp; omega) (by simp; omega) ?_; intro v3 w3 hown3 hgrow3 hat3)
        have hs3 := hgrow3.size
        have K3 : Hid (Kept w1 w3) := Lib.hid ((Kept.trans K2.out HKA.out).grown hgrow3 (by simp; omega) (fun q e => by have := (World.ownsRow.lt HO2.out q e).1; omega))
        go_roundw
        case rel => exact ⟨k + 1, by omega, by go_num, by rw [HSN.out]; exact hown3, K3.out⟩
        case measure => simp [intOf]; omega
      | some t =>
        rw [hf] at HFX HSN
        clear hf
        go_wp2_with fail
        refine HFX.out.mono ?_
        rintro e w2 ⟨Q2, k2, d2, rfl, _, hk2, hI2, kk⟩
        have K2 := Lib.hid (Kept.trans KW.out kk)
        have HO2 := Lib.hid (own_kept HOW.out kk)
        have I2 := Lib.hid hI2
        have hs2 := kk.size
        have hlt2 : t.length ≤ 1000 := by have := hI2.1; simp at this; omega
        clear kk cx hI2
        go_wp2_with (at_builtin; refine app_ints rfl _ _ rfl w1.heap.size _ _ rfl (by exact HO2.out) _ _ _ t rfl (by exact I2.out) (by omega) (by omega) ?_; intro v3 w3 hown3 hgrow3 hat3)
        have hs3 := hgrow3.size
        have K3 : Hid (Kept w1 w3) := Lib.hid (K2.out.grown hgrow3 (by omega) (fun q e => by have := (World.ownsRow.lt HO2.out q e).1; omega))
        go_roundw
        case rel => exact ⟨k + 1, by omega, by go_num, by rw [HSN.out]; exact hown3, K3.out⟩
        case measure => simp [intOf]; omega
    · have hl1 : ¬ (k : Int) < (m : Int) := by omega
      have hfull : text.take k = text := List.take_of_length_le (by have := HML.out; omega)
      have hown := HOW.out
      rw [hfull] at hown
      obtain ⟨A4, c4, hu, hle4, hI4⟩ := OwnI.sl hown
      clear hown
      rw [hfull, hu]
      have HI4 := Lib.hid hI4
      clear hI4 hu
      obtain ⟨R, hR⟩ : ∃ R : List Int, R = applyR l text := ⟨_, rfl⟩
      rw [← hR] at HI4 hle4 ⊢
      have HR := Lib.hid hR
      clear hR hfull
      go_wp2_with fail
      go_ret
      exact ⟨A4, _, c4, rfl, hle4, (by rw [← HR.out]; exact HI4.out), Kept.trans K1.out KW.out⟩
end Go.Proofs.YtmlcdohldkgcdaaGreatDoor
namespace Go.Proofs.YtmlcdohldkgcdaaGreatDoor
open Go Go.RowKit
def tagB (t : ByteArray) (m : Mp) : Bool := !decide (m.tag.toList = []) && !decide (m.tag.toList = t.toList)
set_option maxRecDepth 100000 in
set_option maxHeartbeats 2000000 in
theorem r37tagged (A : Option Addr) (n c : Nat) (l : List Mp) (t : ByteArray) (w : World) (hn : n ≤ 1000) (hl : Mps w A n l) : Calls Tryz.prog 201 #[.slice A n c, .string t] w (RetB w (l.any (tagB t))) := by
  have HL := Lib.hid hl
  have HN := Lib.hid hl.1
  clear hl
  go_enter Tryz.func201, Tryz.ntmps201
  go_wp2_with fail
  go_loopw [5] (fun i wr => ∃ k : Nat, k ≤ n ∧ i = .int .i64 k ∧ (l.take k).any (tagB t) = false ∧ Kept w wr) (fun i _ => n - (intOf i).toNat)
  case atStart => exact ⟨0, Nat.zero_le _, rfl, rfl, Kept.refl _⟩
  case round =>
    obtain ⟨k, hk, rfl, hno, hkw⟩ := hrel
    have HNO := Lib.hid hno
    have KW := Lib.hid hkw
    clear hno hkw
    by_cases hlt : k < n
    · have hl1 : (k : Int) < (n : Int) := by omega
      obtain ⟨b, off, m, A', n', c', rfl, hm, _, _, c0, c1, c2⟩ := mp_at (HL.out.kept KW.out) hlt
      have HM := Lib.hid hm
      have HSN := Lib.hid (any_take_snoc (tagB t) hm)
      clear hm
      by_cases h1 : m.tag.toList = []
      · have hte : m.tag.toList.isEmpty = true := by simp [h1]
        have HT := Lib.hid (show tagB t m = false by unfold tagB; rw [decide_eq_true h1]; rfl)
        go_wp2_with fail
        go_roundw
        case rel => exact ⟨k + 1, by omega, by go_num, by rw [HSN.out, HNO.out, HT.out]; rfl, KW.out⟩
        case measure => simp [intOf]; omega
      · have hte : m.tag.toList.isEmpty = false := by simpa using h1
        by_cases h2 : m.tag.toList = t.toList
        · have HT := Lib.hid (show tagB t m = false by unfold tagB; rw [decide_eq_true h2]; cases decide (m.tag.toList = []) <;> rfl)
          have he := bytes_ext h2
          subst he
          go_wp2_with fail
          go_roundw
          case rel => exact ⟨k + 1, by omega, by go_num, by rw [HSN.out, HNO.out, HT.out]; rfl, KW.out⟩
          case measure => simp [intOf]; omega
        · have HT := Lib.hid (show tagB t m = true by unfold tagB; rw [decide_eq_false h1, decide_eq_false h2]; rfl)
          have he : (m.tag.toList == t.toList) = false := by simp [h2]
          go_wp2_with fail
          go_ret
          exact ⟨ret_bool (List.any_eq_true.2 ⟨m, mem_of_getElem?_some HM.out, HT.out⟩).symm, KW.out⟩
    · have hl1 : ¬ (k : Int) < (n : Int) := by omega
      have HR := Lib.hid (show l.any (tagB t) = false by have h := HNO.out; rwa [List.take_of_length_le (by have := HN.out; omega)] at h)
      go_wp2_with fail
      go_ret
      exact ⟨ret_bool HR.out.symm, KW.out⟩
end Go.Proofs.YtmlcdohldkgcdaaGreatDoor
namespace Go.Proofs.YtmlcdohldkgcdaaGreatDoor
open Go Go.RowKit
theorem r20Starter (A : Option Addr) (n c : Nat) (l : List Span) (x : Int) (w : World) (hn : n ≤ 1000) (hl : Spans w A n l) :
    Calls Tryz.prog 140 #[.slice A n c, .int .i64 x] w (RetB w (classOf (usableSpans l) x == 0)) := by
  have HC := Lib.hid (r20Class A n c l x w hn hl)
  clear hl
  generalize classOf (usableSpans l) x = k at *
  go_enter Tryz.func140, Tryz.ntmps140
  go_wp2_with fail
  refine HC.out.mono ?_
  rintro e w1 ⟨rfl, k1⟩
  go_wp2_with fail
  go_ret
  exact ⟨rfl, k1⟩
theorem own_nil {w : World} {base g : Nat} (h : w.heap[g]? = some (.cells #[] 3 (0, 0))) (hb : base ≤ g) : OwnI w base (.slice (some ⟨g, 0, none⟩) 0 0) [] :=
  ⟨rfl, .inr ⟨g, 0, #[], rfl, hb, h, Nat.le_refl _, Nat.zero_le _, rfl, rfl⟩⟩
end Go.Proofs.YtmlcdohldkgcdaaGreatDoor
namespace Go.Proofs.YtmlcdohldkgcdaaGreatDoor
open Go Go.RowKit Go.Shelf
attribute [local go_sem] Oper.semAt_some
theorem sl_cells {α : Type} {k : Nat} {enc : α → List Value} {A B : World} {X : Option Addr} {m : Nat} {L : List α} (h : Sl k enc A X m L) (hb : ∀ p, X = some p → 0 < m → ∀ cs t f, A.heap[p.block]? = some (.cells cs t f) → B.heap[p.block]? = some (.cells cs t f)) : Sl k enc B X m L :=
  ⟨h.1, fun h0 => by
    obtain ⟨b, off, e, hc⟩ := h.2 h0
    refine ⟨b, off, e, fun i x hx j u hu => ?_⟩
    have h1 := hc i x hx j u hu
    have hbb := hb _ e h0
    unfold World.cell? at h1 ⊢
    dsimp only at h1 hbb ⊢
    cases hh : A.heap[b]? with
    | none => simp [hh] at h1
    | some o =>
      cases o with
      | cells cs t f => rw [hbb cs t f hh]; rw [hh] at h1; exact h1
      | _ => simp [hh] at h1⟩
set_option maxRecDepth 100000 in
set_option maxHeartbeats 4000000 in
theorem all1_in (n : Nat) (_hn1 : 1 ≤ n) (Kp : World → World → Prop) (Gd : World → Prop) (hGk : ∀ A B, Gd A → Kept A B → Gd B) (hGr : ∀ A B, Gd A → Kp A B → Gd B ∧ ∀ X m L, Rngs A X m L → Rngs B X m L)
    (lp Bs : Nat) (As : Option Addr) (m c : Nat) (R : List Rng) (hm : m ≤ 100000)
    (J Jx : List Rng → World → Prop) (BJ : Nat) (hJ : AbidesFrom BJ J)
    (hY : ∀ pre x W, J pre W → (∃ t, makeR R = pre ++ x :: t) → YieldAt Fence.wide (n - 1) Tryz.prog lp (encsR x) W fun e W' =>
      (e = .returned (.bool true) ∧ J (pre ++ [x]) W' ∧ Kp W W') ∨ (e = .returned (.bool false) ∧ Jx (pre ++ [x]) W'))
    (W : World) (hc : W.cell? ⟨Bs, 0, none⟩ = some (.slice As m c)) (hR : Rngs W As m R) (hg : Gd W) (h0 : J [] W) :
    CallsIn Fence.wide n Tryz.prog 82 #[.func (.yield lp) #[] #[], .pointer (some ⟨Bs, 0, none⟩)] W fun e W' => (∃ v, e = .returned v) ∧
      ((∃ ys, ys = makeR R ∧ J ys W') ∨ (∃ pre, pre <+: makeR R ∧ Jx pre W')) := by
  have HY := Lib.hid hY
  have HJ := Lib.hid hJ
  have HGK := Lib.hid hGk
  have HGR := Lib.hid hGr
  have HMK := Lib.hid (make_any As m c R W hm hR)
  have HG0 := Lib.hid hg
  have HJ0 := Lib.hid h0
  have HML := Lib.hid (show (makeR R).length ≤ 100000 from Nat.le_trans (makeR_length R) (by have := hR.1; omega))
  have hfs := field_setR
  clear hY hJ hGk hGr hR hg h0
  refine callsIn_of_wp Tryz.func82 rfl trivial ?_ rfl
  simp only [Tryz.ntmps82, List.size_toArray, List.length_cons, List.length_nil, Nat.reduceAdd, Nat.reduceSub, Array.replicate_succ, Array.replicate_zero, List.push_toArray, List.append_toArray, List.nil_append, List.cons_append]
  gi_wp2_with (refine ⟨trivial, ?_⟩; gi_at_call 68; refine (callsIn_wide.2 HMK.out).mono ?_; rintro e w1 ⟨A1, n1, c1, rfl, le1, i1, k1⟩)
  have hn1 : n1 ≤ 100000 := by rw [i1.1]; exact HML.out
  have I1 := Lib.hid i1
  have HN1 := Lib.hid i1.1
  have K1 := Lib.hid k1
  clear i1 k1 hc hfs
  gi_loopw [10] (fun v wr => ∃ k : Nat, k ≤ n1 ∧ v = .int .i64 k ∧ J ((makeR R).take k) wr ∧ Rngs wr A1 n1 (makeR R) ∧ Gd wr) (fun v _ => n1 - (intOf v).toNat)
  case atStart => exact ⟨0, Nat.zero_le _, rfl, Abides.kept HJ.out HJ0.out K1.out, I1.out, HGK.out _ _ HG0.out K1.out⟩
  case round =>
    obtain ⟨k, hk, rfl, hJs, hI, hg⟩ := hrel
    have HJS := Lib.hid hJs
    have HI := Lib.hid hI
    have HG := Lib.hid hg
    clear hJs hI hg
    by_cases hlt : k < n1
    · have hl1 : (k : Int) < (n1 : Int) := by omega
      obtain ⟨b, off, r, hA, hr, d0, d1⟩ := rng_at HI.out hlt
      rw [hA]
      have HP := Lib.hid (show ∃ t, makeR R = (makeR R).take k ++ r :: t from ⟨(makeR R).drop (k + 1), by rw [← drop_some hr, List.take_append_drop]⟩)
      have HTK := Lib.hid (take_succ_some hr)
      have hka := Kept.alloc (Kept.refl wr) (Obj.cells #[.int .i64 r.lo, .int .i64 r.hi] 48)
      have hnb := heap_alloc_new wr (Obj.cells #[.int .i64 r.lo, .int .i64 r.hi] 48)
      have q0 := cell_of_block (i := 0) hnb rfl
      have q1 := cell_of_block (i := 1) hnb rfl
      simp only [s4_, s5_, s6_] at q0 q1
      have HI4 := Lib.hid (HI.out.kept hka)
      have HG4 := Lib.hid (HGK.out _ _ HG.out hka)
      have HJ4 := Lib.hid (Abides.kept HJ.out HJS.out hka)
      obtain ⟨fn, tmps, assign, body, hy, hRR⟩ := HY.out _ r _ HJ4.out HP.out
      dsimp only [encsR] at hy
      have HA := Lib.hid hA
      clear hr hnb hka hA
      gi_wp2
      refine hRR.mono ?_
      rintro e W3 (⟨rfl, hJ3, hk3⟩ | ⟨rfl, hJx3⟩)
      · have hgr := HGR.out _ _ HG4.out hk3
        have HI5 := Lib.hid (hgr.2 _ _ _ HI4.out)
        have HG5 := Lib.hid hgr.1
        have HJ5 := Lib.hid (show J ((makeR R).take (k + 1)) W3 by rw [HTK.out]; exact hJ3)
        clear hgr hk3 hJ3 q0 q1
        gi_wp2
        go_roundw
        case rel => exact ⟨k + 1, by omega, by go_num, HJ5.out, by first | exact HI5.out | (rw [← HA.out]; exact HI5.out), HG5.out⟩
        case measure => simp [intOf]; omega
      · gi_wp2
        refine bodyPost_ret (results_none rfl _ _ _) rfl ?_
        obtain ⟨t, ht⟩ := HP.out
        exact ⟨⟨_, rfl⟩, .inr ⟨_, ⟨t, by rw [List.append_assoc]; exact ht.symm⟩, hJx3⟩⟩
    · have hkl : k = n1 := by omega
      have HA := Lib.hid (show (makeR R).take k = makeR R from List.take_of_length_le (by have := HN1.out; omega))
      have HJ6 := Lib.hid (show J (makeR R) wr by have := HJS.out; rwa [HA.out] at this)
      subst hkl
      gi_wp2
      go_end0
      exact ⟨⟨_, rfl⟩, .inl ⟨_, rfl, HJ6.out⟩⟩
theorem all_any (As : Option Addr) (m c : Nat) (w : World) :
    Calls Tryz.prog 57 #[.agg #[.slice As m c]] w fun e w' => e = .returned (.func (.func 82) #[] #[.pointer (some ⟨w.heap.size, 0, none⟩)]) ∧ w' = w.alloc (.cells #[.slice As m c] 26) := by
  go_enter Tryz.func57, Tryz.ntmps57
  go_wp2
  go_ret
  exact ⟨rfl, rfl⟩
end Go.Proofs.YtmlcdohldkgcdaaGreatDoor
namespace Go.Proofs.YtmlcdohldkgcdaaGreatDoor
section
variable {b p c : Int → Bool}
end
end Go.Proofs.YtmlcdohldkgcdaaGreatDoor
namespace Go.Proofs.YtmlcdohldkgcdaaGreatDoor
open Go Go.RowKit
end Go.Proofs.YtmlcdohldkgcdaaGreatDoor
