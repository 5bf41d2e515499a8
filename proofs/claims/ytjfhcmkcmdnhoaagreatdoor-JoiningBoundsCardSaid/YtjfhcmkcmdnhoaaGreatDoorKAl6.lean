/- law26.few and both. law26.sample and alive. -/
import Derived.Test.YtjfhcmkcmdnhoaaGreatDoorKFew
import Derived.Test.YtjfhcmkcmdnhoaaGreatDoorKJo
import Derived.Test.YtjfhcmkcmdnhoaaGreatDoorKSq
import Derived.Test.YtjfhcmkcmdnhoaaGreatDoorKQs
namespace Go.Proofs.YtjfhcmkcmdnhoaaGreatDoor
open Go Go.RowKit
set_option maxRecDepth 100000 in
set_option maxHeartbeats 1000000 in
theorem few26 (s : Sls) (n : Nrm) (A : Option Addr) (l c : Nat) (B : Option Addr) (m d : Nat) (w : World) (hN : NormIn w s n) (hl : l ≤ c ∧ c ≤ 9223372036854775807) (hm : m ≤ d ∧ d ≤ 9223372036854775807) : Calls Tryz.prog 15 #[s.val, .slice A l c, .slice B m d] w (RetB w (smallB n && (decide (l ≤ 20) && decide (m ≤ 20)))) := by
  have hk1 := Kept.alloc (Kept.refl w) (Obj.cells #[Value.slice s.Ac s.nc s.cc, Value.slice s.Am s.nm s.cm, Value.slice s.Ae s.ne s.ce] 28)
  have HK1 := Lib.hid hk1
  have HS := Lib.hid (r21small s n (w.alloc (Obj.cells #[Value.slice s.Ac s.nc s.cc, Value.slice s.Am s.nm s.cm, Value.slice s.Ae s.ne s.ce] 28)) (hN.kept hk1))
  clear hN hk1
  obtain ⟨hle, hc⟩ := hl
  obtain ⟨hle2, hc2⟩ := hm
  cases hsm : smallB n
  · rw [hsm] at HS
    clear hsm
    unfold Sls.val at *
    go_enter Tryz.func15, Tryz.ntmps15
    go_wp2_with (go_at_call 29; refine HS.out.mono ?_; rintro e w1 ⟨rfl, k1⟩)
    go_ret
    exact ⟨rfl, Kept.trans HK1.out k1⟩
  · rw [hsm] at HS
    clear hsm
    unfold Sls.val at *
    by_cases h1 : l ≤ 20
    · have hb1 : decide (l ≤ 20) = true := decide_eq_true h1
      by_cases h2 : m ≤ 20
      · have hb2 : decide (m ≤ 20) = true := decide_eq_true h2
        rw [hb1, hb2]
        clear hb1 hb2
        go_enter Tryz.func15, Tryz.ntmps15
        go_wp2_with (go_at_call 29; refine HS.out.mono ?_; rintro e w1 ⟨rfl, k1⟩)
        go_ret
        exact ⟨ret_bool (by simp; try omega), Kept.trans HK1.out k1⟩
      · have hb2 : decide (m ≤ 20) = false := decide_eq_false h2
        rw [hb1, hb2]
        clear hb1 hb2
        go_enter Tryz.func15, Tryz.ntmps15
        go_wp2_with (go_at_call 29; refine HS.out.mono ?_; rintro e w1 ⟨rfl, k1⟩)
        go_ret
        exact ⟨ret_bool (by simp; try omega), Kept.trans HK1.out k1⟩
    · have hb1 : decide (l ≤ 20) = false := decide_eq_false h1
      rw [hb1]
      clear hb1
      go_enter Tryz.func15, Tryz.ntmps15
      go_wp2_with (go_at_call 29; refine HS.out.mono ?_; rintro e w1 ⟨rfl, k1⟩)
      go_ret
      exact ⟨ret_bool (by simp; try omega), Kept.trans HK1.out k1⟩
end Go.Proofs.YtjfhcmkcmdnhoaaGreatDoor
namespace Go.Proofs.YtjfhcmkcmdnhoaaGreatDoor
open Go Go.RowKit
theorem span_1 {w : World} {b : Nat} {lo hi v : Int} (h : w.heap[b]? = some (.cells #[.int .i64 lo, .int .i64 hi, .int .i64 v] 91 (0, 0))) : Spans w (some ⟨b, 0, none⟩) 1 [⟨lo, hi, v⟩] := by
  refine ⟨rfl, fun _ => ⟨_, 0, rfl, fun i x hx j u hu => ?_⟩⟩
  have hi0 : i = 0 := by have := lt_of_getElem?_some hx; simpa using this
  subst hi0
  simp at hx
  subst hx
  match j, hu with
  | 0, hu => simp [encS] at hu; subst hu; exact cell_of_block (i := 0) h rfl
  | 1, hu => simp [encS] at hu; subst hu; exact cell_of_block (i := 1) h rfl
  | 2, hu => simp [encS] at hu; subst hu; exact cell_of_block (i := 2) h rfl
  | j + 3, hu => simp [encS] at hu
theorem mps_join {w : World} {b b0 : Nat} (h : w.heap[b]? = some (.cells #[.int .i64 226, .slice (some ⟨b0, 0, none⟩) 2 2, .string ⟨#[]⟩] 93 (0, 0)))
    (h0 : Ints w (some ⟨b0, 0, none⟩) 2 [97, 770]) : Mps w (some ⟨b, 0, none⟩) 1 joinMm := by
  refine ⟨rfl, fun _ => ⟨b, 0, rfl, fun i m hm => ?_⟩⟩
  match i, hm with
  | 0, hm =>
    simp only [joinMm, List.getElem?_cons_zero, Option.some.injEq] at hm
    subst hm
    exact ⟨_, 2, 2, Nat.le_refl _, h0, cell_of_block h rfl, cell_of_block h rfl, cell_of_block h rfl⟩
  | i + 1, hm => simp [joinMm] at hm
set_option maxRecDepth 100000 in
set_option maxHeartbeats 2000000 in
theorem sample26 (w : World) : Calls Tryz.prog 39 #[] w (RetNorm w joinN) := by
  go_enter Tryz.func39, Tryz.ntmps39
  go_wp2_with fail
  obtain ⟨B, hB⟩ : ∃ B : Nat, B = w.heap.size := ⟨_, rfl⟩
  rw [← hB]
  have b0 : ((((w.alloc (Obj.cells #[Value.slice (some ⟨B + 1, 0, none⟩) 1 1, Value.slice (some ⟨B + 1 + 1 + 1, 0, none⟩) 1 1, Value.slice none 0 0] 28)).alloc (Obj.cells #[Value.int IntKind.i64 770, Value.int IntKind.i64 770, Value.int IntKind.i64 230] 91)).alloc (Obj.cells #[Value.int IntKind.i64 97, Value.int IntKind.i64 770] 3)).alloc (Obj.cells #[Value.int IntKind.i64 226, Value.slice (some ⟨B + 1 + 1, 0, none⟩) 2 2, Value.string ⟨#[]⟩] 93)).heap[B]? = some (Obj.cells #[Value.slice (some ⟨B + 1, 0, none⟩) 1 1, Value.slice (some ⟨B + 1 + 1 + 1, 0, none⟩) 1 1, Value.slice none 0 0] 28) := alloc_lift (alloc_lift (alloc_lift (alloc_at hB)))
  have b1 : ((((w.alloc (Obj.cells #[Value.slice (some ⟨B + 1, 0, none⟩) 1 1, Value.slice (some ⟨B + 1 + 1 + 1, 0, none⟩) 1 1, Value.slice none 0 0] 28)).alloc (Obj.cells #[Value.int IntKind.i64 770, Value.int IntKind.i64 770, Value.int IntKind.i64 230] 91)).alloc (Obj.cells #[Value.int IntKind.i64 97, Value.int IntKind.i64 770] 3)).alloc (Obj.cells #[Value.int IntKind.i64 226, Value.slice (some ⟨B + 1 + 1, 0, none⟩) 2 2, Value.string ⟨#[]⟩] 93)).heap[B + 1]? = some (Obj.cells #[Value.int IntKind.i64 770, Value.int IntKind.i64 770, Value.int IntKind.i64 230] 91) := alloc_lift (alloc_lift (alloc_at (by simp [hB])))
  have b2 : ((((w.alloc (Obj.cells #[Value.slice (some ⟨B + 1, 0, none⟩) 1 1, Value.slice (some ⟨B + 1 + 1 + 1, 0, none⟩) 1 1, Value.slice none 0 0] 28)).alloc (Obj.cells #[Value.int IntKind.i64 770, Value.int IntKind.i64 770, Value.int IntKind.i64 230] 91)).alloc (Obj.cells #[Value.int IntKind.i64 97, Value.int IntKind.i64 770] 3)).alloc (Obj.cells #[Value.int IntKind.i64 226, Value.slice (some ⟨B + 1 + 1, 0, none⟩) 2 2, Value.string ⟨#[]⟩] 93)).heap[B + 1 + 1]? = some (Obj.cells #[Value.int IntKind.i64 97, Value.int IntKind.i64 770] 3) := alloc_lift (alloc_at (by simp [hB]))
  have b3 : ((((w.alloc (Obj.cells #[Value.slice (some ⟨B + 1, 0, none⟩) 1 1, Value.slice (some ⟨B + 1 + 1 + 1, 0, none⟩) 1 1, Value.slice none 0 0] 28)).alloc (Obj.cells #[Value.int IntKind.i64 770, Value.int IntKind.i64 770, Value.int IntKind.i64 230] 91)).alloc (Obj.cells #[Value.int IntKind.i64 97, Value.int IntKind.i64 770] 3)).alloc (Obj.cells #[Value.int IntKind.i64 226, Value.slice (some ⟨B + 1 + 1, 0, none⟩) 2 2, Value.string ⟨#[]⟩] 93)).heap[B + 1 + 1 + 1]? = some (Obj.cells #[Value.int IntKind.i64 226, Value.slice (some ⟨B + 1 + 1, 0, none⟩) 2 2, Value.string ⟨#[]⟩] 93) := alloc_at (by simp [hB])
  have hk : Kept w ((((w.alloc (Obj.cells #[Value.slice (some ⟨B + 1, 0, none⟩) 1 1, Value.slice (some ⟨B + 1 + 1 + 1, 0, none⟩) 1 1, Value.slice none 0 0] 28)).alloc (Obj.cells #[Value.int IntKind.i64 770, Value.int IntKind.i64 770, Value.int IntKind.i64 230] 91)).alloc (Obj.cells #[Value.int IntKind.i64 97, Value.int IntKind.i64 770] 3)).alloc (Obj.cells #[Value.int IntKind.i64 226, Value.slice (some ⟨B + 1 + 1, 0, none⟩) 2 2, Value.string ⟨#[]⟩] 93)) := Kept.alloc (Kept.alloc (Kept.alloc (Kept.alloc (Kept.refl w) _) _) _) _
  generalize ((((w.alloc (Obj.cells #[Value.slice (some ⟨B + 1, 0, none⟩) 1 1, Value.slice (some ⟨B + 1 + 1 + 1, 0, none⟩) 1 1, Value.slice none 0 0] 28)).alloc (Obj.cells #[Value.int IntKind.i64 770, Value.int IntKind.i64 770, Value.int IntKind.i64 230] 91)).alloc (Obj.cells #[Value.int IntKind.i64 97, Value.int IntKind.i64 770] 3)).alloc (Obj.cells #[Value.int IntKind.i64 226, Value.slice (some ⟨B + 1 + 1, 0, none⟩) 2 2, Value.string ⟨#[]⟩] 93)) = W0 at *
  have g0 := cell_of_block (i := 0) b0 rfl
  have g1 := cell_of_block (i := 1) b0 rfl
  have g2 := cell_of_block (i := 2) b0 rfl
  simp only [s4_, s5_, s6_] at g0 g1 g2
  have hN : NormAt W0 ⟨some ⟨B + 1, 0, none⟩, 1, 1, some ⟨B + 1 + 1 + 1, 0, none⟩, 1, 1, none, 0, 0⟩ joinN :=
    ⟨Nat.le_refl _, Nat.le_refl _, Nat.le_refl _, show 1 ≤ 1000 by decide, show 1 ≤ 1000 by decide, Nat.zero_le _, span_1 b1, mps_join b3 (Ints.new_ (xs := [97, 770]) b2 rfl), Sl.nil, fun m hm => by
      simp only [joinN, joinMm, List.mem_cons, List.not_mem_nil, or_false] at hm
      rcases hm with rfl
      simp⟩
  exact bodyPost_ret (v := Sls.val ⟨some ⟨B + 1, 0, none⟩, 1, 1, some ⟨B + 1 + 1 + 1, 0, none⟩, 1, 1, none, 0, 0⟩) (by simp [results, Tryz.results39, go_sem, g0, g1, g2, Sls.val]) rfl ⟨_, rfl, hN, hk⟩
theorem jn_mid : (jMid joinN 1 [226] [] [120]).length = 1 := by
  unfold jMid
  rw [show jFrom joinN 1 [226] = 0 from joinN_e3, show jTo joinN 1 [120] = 0 from joinN_e4]
  show (formOf joinN 1 [226]).length = 1
  rw [joinN_f2]
  rfl
theorem repl_one {w : World} {e : Ending} {w' : World} (h : RetRepl w joinN 1 [226, 770, 120] 1 1 [] e w') : ∃ Q k c, e = .returned (.tuple #[.slice Q k c, .agg #[.int .i64 0, .int .i64 1], .int .i64 0]) ∧ k ≤ c ∧ Ints w' Q k [226, 120] ∧ (∀ x, Q = some x → w.heap.size ≤ x.block) ∧ Kept w w' := by
  unfold RetRepl at h
  rw [if_neg (by decide), if_neg (by decide)] at h
  obtain ⟨Q, k, c, he, hle, hI, hk⟩ := h
  have e1 : jFrom joinN 1 (([226, 770, 120] : List Int).take (1 : Int).toNat) = 0 := joinN_e3
  have e2 : (jMid joinN 1 (([226, 770, 120] : List Int).take (1 : Int).toNat) [] (([226, 770, 120] : List Int).drop ((1 : Int) + 1).toNat)).length = 1 := jn_mid
  have e3 : joinM joinN 1 (([226, 770, 120] : List Int).take (1 : Int).toNat) [] (([226, 770, 120] : List Int).drop ((1 : Int) + 1).toNat) = [226, 120] := joinN_j2
  rw [e1, e2] at he
  rw [e3] at hI
  exact ⟨Q, k, c, he, hle, hI, hk⟩
theorem repl_two {w : World} {e : Ending} {w' : World} (h : RetRepl w joinN 0 [] (-1) 0 [] e w') : e = .returned (.tuple #[.slice none 0 0, .agg #[.int .i64 0, .int .i64 0], .int .i64 8]) ∧ Kept w w' := by
  unfold RetRepl at h
  rw [if_pos (by decide)] at h
  exact h
set_option maxRecDepth 100000 in
set_option maxHeartbeats 4000000 in
theorem alive26 (w : World) (hG : Glob w) : Calls Tryz.prog 16 #[] w (RetB w true) := by
  have HG := Lib.hid hG
  clear hG
  go_enter Tryz.func16, Tryz.ntmps16
  go_wp2_with fail
  refine (sample26 w).mono ?_
  rintro e v0 ⟨s1, rfl, hN, k0⟩
  have hka := Kept.alloc (Kept.refl v0) (Obj.cells #[Value.slice s1.Ac s1.nc s1.cc, Value.slice s1.Am s1.nm s1.cm, Value.slice s1.Ae s1.ne s1.ce] 28)
  have HB := Lib.hid (show (v0.alloc (Obj.cells #[Value.slice s1.Ac s1.nc s1.cc, Value.slice s1.Am s1.nm s1.cm, Value.slice s1.Ae s1.ne s1.ce] 28)).heap[v0.heap.size]? = some (Obj.cells #[Value.slice s1.Ac s1.nc s1.cc, Value.slice s1.Am s1.nm s1.cm, Value.slice s1.Ae s1.ne s1.ce] 28) from alloc_at rfl)
  have HN := Lib.hid (hN.kept hka)
  have K := Lib.hid (Kept.trans k0 hka)
  clear hN hka k0
  unfold Sls.val
  have hka := Kept.alloc (Kept.alloc (Kept.refl (v0.alloc (Obj.cells #[Value.slice s1.Ac s1.nc s1.cc, Value.slice s1.Am s1.nm s1.cm, Value.slice s1.Ae s1.ne s1.ce] 28))) (Obj.cells #[Value.int IntKind.i64 97] 3)) (Obj.cells #[Value.int IntKind.i64 770] 3)
  have HF := Lib.hid (edges_any s1 joinN 1 (some ⟨v0.heap.size + 1, 0, none⟩) 1 1 [97] (some ⟨v0.heap.size + 1 + 1, 0, none⟩) 1 1 [770] (((v0.alloc (Obj.cells #[Value.slice s1.Ac s1.nc s1.cc, Value.slice s1.Am s1.nm s1.cm, Value.slice s1.Ae s1.ne s1.ce] 28)).alloc (Obj.cells #[Value.int IntKind.i64 97] 3)).alloc (Obj.cells #[Value.int IntKind.i64 770] 3)) (HN.out.kept hka) (HG.out.kept (Kept.trans K.out hka)) (by omega) (by omega)
    (Sl.kept (Ints.alloc_ (xs := [97]) (by simp) rfl) (Kept.alloc (Kept.refl _) _)) (Ints.alloc_ (xs := [770]) (by simp) rfl))
  rw [show jFrom joinN 1 [97] = 0 from joinN_e1, show jTo joinN 1 [770] = 1 from joinN_e2] at HF
  unfold Sls.val at HF
  have HKA := Lib.hid hka
  clear hka
  go_wp2_with fail
  refine HF.out.mono ?_
  rintro e v2 ⟨rfl, k2⟩
  have hkk := Kept.trans HKA.out k2
  have HB := Lib.hid ((hkk.block _ (block_lt HB.out)).trans HB.out)
  have HN := Lib.hid (HN.out.kept hkk)
  have K := Lib.hid (Kept.trans K.out hkk)
  clear hkk HF HKA k2
  obtain ⟨bx, hbx⟩ : ∃ bx : Nat, bx = v0.heap.size := ⟨_, rfl⟩
  rw [← hbx] at HB ⊢
  clear hbx
  have ex := HB.out
  have p0 := cell_of_block (i := 0) ex rfl
  have p1 := cell_of_block (i := 1) ex rfl
  have p2 := cell_of_block (i := 2) ex rfl
  simp only [s4_, s5_, s6_] at p0 p1 p2
  clear ex
  have hka := Kept.alloc (Kept.refl v2) (Obj.cells #[Value.int IntKind.i64 226, Value.int IntKind.i64 770, Value.int IntKind.i64 120] 3)
  have HF := Lib.hid (replace_any s1 joinN 1 (some ⟨v2.heap.size, 0, none⟩) 3 3 [226, 770, 120] 1 1 none 0 0 [] (v2.alloc (Obj.cells #[Value.int IntKind.i64 226, Value.int IntKind.i64 770, Value.int IntKind.i64 120] 3)) (HN.out.kept hka) (HG.out.kept (Kept.trans K.out hka)) (by omega) (by omega) (Nat.le_refl _) (Nat.le_refl _) (Ints.alloc_ (xs := [226, 770, 120]) rfl rfl) Sl.nil)
  unfold Sls.val at HF
  have HKA := Lib.hid hka
  clear hka
  go_wp2_with fail
  refine HF.out.mono ?_
  intro e v3 hret
  obtain ⟨Q3, n3, c3, rfl, le3, i3, _, k3⟩ := repl_one hret
  have hn3 : n3 = 2 := i3.1
  subst hn3
  have hkk := Kept.trans (Kept.trans HKA.out k3) (Kept.alloc (Kept.refl v3) (Obj.cells #[Value.int IntKind.i64 0, Value.int IntKind.i64 1] 40))
  have H5 := Lib.hid (show (v3.alloc (Obj.cells #[Value.int IntKind.i64 0, Value.int IntKind.i64 1] 40)).heap[v3.heap.size]? = some (Obj.cells #[Value.int IntKind.i64 0, Value.int IntKind.i64 1] 40) from alloc_at rfl)
  have I3 := Lib.hid (i3.kept (Kept.alloc (Kept.refl v3) (Obj.cells #[Value.int IntKind.i64 0, Value.int IntKind.i64 1] 40)))
  have HB := Lib.hid ((hkk.block _ (block_lt HB.out)).trans HB.out)
  have HN := Lib.hid (HN.out.kept hkk)
  have K := Lib.hid (Kept.trans K.out hkk)
  clear hkk HF HKA k3 i3 hret p0 p1 p2
  have ex := HB.out
  have p0 := cell_of_block (i := 0) ex rfl
  have p1 := cell_of_block (i := 1) ex rfl
  have p2 := cell_of_block (i := 2) ex rfl
  simp only [s4_, s5_, s6_] at p0 p1 p2
  clear ex
  have HF := Lib.hid (replace_any s1 joinN 0 none 0 0 [] (-1) 0 none 0 0 [] (v3.alloc (Obj.cells #[Value.int IntKind.i64 0, Value.int IntKind.i64 1] 40)) HN.out (HG.out.kept K.out) (by omega) (by omega) (Nat.le_refl _) (Nat.le_refl _) Sl.nil Sl.nil)
  unfold Sls.val at HF
  go_wp2_with fail
  refine HF.out.mono ?_
  intro e v4 hret
  obtain ⟨rfl, k4⟩ := repl_two hret
  have hkk := Kept.trans k4 (Kept.alloc (Kept.refl v4) (Obj.cells #[Value.int IntKind.i64 0, Value.int IntKind.i64 0] 40))
  have H5 := Lib.hid ((hkk.block _ (block_lt H5.out)).trans H5.out)
  have I3 := Lib.hid (I3.out.kept hkk)
  have HB := Lib.hid ((hkk.block _ (block_lt HB.out)).trans HB.out)
  have HN := Lib.hid (HN.out.kept hkk)
  have K := Lib.hid (Kept.trans K.out hkk)
  clear hkk HF k4 hret p0 p1 p2
  obtain ⟨b5, hb5⟩ : ∃ b5 : Nat, b5 = v3.heap.size := ⟨_, rfl⟩
  rw [← hb5] at H5 ⊢
  clear hb5
  have ex := HB.out
  have p0 := cell_of_block (i := 0) ex rfl
  have p1 := cell_of_block (i := 1) ex rfl
  have p2 := cell_of_block (i := 2) ex rfl
  simp only [s4_, s5_, s6_] at p0 p1 p2
  clear ex
  have hka := Kept.alloc (Kept.alloc (Kept.refl (v4.alloc (Obj.cells #[Value.int IntKind.i64 0, Value.int IntKind.i64 0] 40))) (Obj.cells #[Value.int IntKind.i64 97] 3)) (Obj.cells #[Value.int IntKind.i64 770] 3)
  have HF := Lib.hid (joinP_any s1 joinN 1 (some ⟨v4.heap.size + 1, 0, none⟩) 1 1 [97] (some ⟨v4.heap.size + 1 + 1, 0, none⟩) 1 1 [770] (((v4.alloc (Obj.cells #[Value.int IntKind.i64 0, Value.int IntKind.i64 0] 40)).alloc (Obj.cells #[Value.int IntKind.i64 97] 3)).alloc (Obj.cells #[Value.int IntKind.i64 770] 3)) (HN.out.kept hka) (HG.out.kept (Kept.trans K.out hka)) (by omega) (by omega) (Nat.le_refl _) (Nat.le_refl _)
    (Sl.kept (Ints.alloc_ (xs := [97]) (by simp) rfl) (Kept.alloc (Kept.refl _) _)) (Ints.alloc_ (xs := [770]) (by simp) rfl))
  rw [joinN_j1] at HF
  unfold Sls.val at HF
  have HKA := Lib.hid hka
  clear hka
  go_wp2_with fail
  refine HF.out.mono ?_
  rintro e v5 ⟨A5, n5, c5, rfl, le5, i5, k5⟩
  have hn5 : n5 = 1 := i5.1
  subst hn5
  have I5 := Lib.hid i5
  have hkk := Kept.trans HKA.out k5
  have H5 := Lib.hid ((hkk.block _ (block_lt H5.out)).trans H5.out)
  have I3 := Lib.hid (I3.out.kept hkk)
  have K := Lib.hid (Kept.trans K.out hkk)
  clear hkk HF HKA k5 i5 p0 p1 p2
  have hka := Kept.alloc (Kept.refl v5) (Obj.cells #[Value.int IntKind.i64 226] 3)
  have HEQ := Lib.hid (r01_same [226] A5 (some ⟨v5.heap.size, 0, none⟩) 1 1 c5 1 (v5.alloc (Obj.cells #[Value.int IntKind.i64 226] 3)) (by decide) (I5.out.kept hka) (Ints.alloc_ (xs := [226]) rfl rfl))
  have HKA := Lib.hid hka
  clear hka
  go_wp2_with fail
  refine HEQ.out.mono ?_
  rintro e v6 ⟨rfl, k6⟩
  have hkk := Kept.trans HKA.out k6
  have H5 := Lib.hid ((hkk.block _ (block_lt H5.out)).trans H5.out)
  have I3 := Lib.hid (I3.out.kept hkk)
  have K := Lib.hid (Kept.trans K.out hkk)
  clear hkk HKA k6 HEQ
  have hka := Kept.alloc (Kept.refl v6) (Obj.cells #[Value.int IntKind.i64 226, Value.int IntKind.i64 120] 3)
  have HEQ := Lib.hid (r01_same [226, 120] Q3 (some ⟨v6.heap.size, 0, none⟩) 2 2 c3 2 (v6.alloc (Obj.cells #[Value.int IntKind.i64 226, Value.int IntKind.i64 120] 3)) (by decide) (I3.out.kept hka) (Ints.alloc_ (xs := [226, 120]) rfl rfl))
  have HKA := Lib.hid hka
  clear hka
  go_wp2_with fail
  refine HEQ.out.mono ?_
  rintro e v7 ⟨rfl, k7⟩
  have hkk := Kept.trans HKA.out k7
  have h5 := (hkk.block _ (block_lt H5.out)).trans H5.out
  have q0 := cell_of_block (i := 0) h5 rfl
  have q1 := cell_of_block (i := 1) h5 rfl
  simp only [s4_, s5_, s6_] at q0 q1
  have K := Lib.hid (Kept.trans K.out hkk)
  clear hkk HKA k7 HEQ h5
  go_wp2_with fail
  go_ret
  exact ⟨rfl, K.out⟩
end Go.Proofs.YtjfhcmkcmdnhoaaGreatDoor
