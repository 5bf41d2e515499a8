/- quickcheck.distinct: the iterator over the code points of a text, each of them once. quickcheck.collect: what an iterator over numbers yields. -/
import Derived.Test.YtckgmkjoblneeaaGreatDoorKSqx
import Derived.Test.YtckgmkjoblneeaaGreatDoorKMaps
import Derived.Test.YtckgmkjoblneeaaGreatDoorKQp
import Derived.Test.YtckgmkjoblneeaaGreatDoorKOwn
namespace Go.Proofs.YtckgmkjoblneeaaGreatDoor
open Go Go.RowKit Go.Shelf
attribute [local go_sem] Oper.semAt_some
theorem distL_prefix : ∀ (b a : List Int), ∃ t, distL (a ++ b) = distL a ++ t
  | [], a => ⟨[], by simp⟩
  | c :: b, a => by
    obtain ⟨t, ht⟩ := distL_prefix b (a ++ [c])
    rw [List.append_assoc, List.singleton_append, distL_snoc] at ht
    split at ht
    · exact ⟨c :: t, by rw [ht, List.append_assoc]; rfl⟩
    · exact ⟨t, ht⟩
theorem distL_next {text : List Int} {k : Nat} {x : Int} (h : text[k]? = some x) (hv : validB x = true) (hx : x ∉ distL (text.take k)) : distL (text.take (k + 1)) = distL (text.take k) ++ [x] := by
  rw [take_succ_some h, distL_snoc, if_pos ⟨hv, hx⟩]
theorem distL_skip {text : List Int} {k : Nat} {x : Int} (h : text[k]? = some x) (hx : ¬ (validB x = true ∧ x ∉ distL (text.take k))) : distL (text.take (k + 1)) = distL (text.take k) := by
  rw [take_succ_some h, distL_snoc, if_neg hx]
theorem distL_rest {text : List Int} {k : Nat} {x : Int} (h : text[k]? = some x) (hv : validB x = true) (hx : x ∉ distL (text.take k)) : ∃ t, distL text = distL (text.take k) ++ x :: t := by
  obtain ⟨t, ht⟩ := distL_prefix (text.drop (k + 1)) (text.take (k + 1))
  rw [List.take_append_drop, distL_next h hv hx, List.append_assoc] at ht
  exact ⟨t, ht⟩
def seenM (l : List Int) : List (Int × Value) := l.map fun c => (c, .bool true)
theorem seenM_get (c : Int) : ∀ l : List Int, (getKV (seenM l) c).getD (.bool false) = .bool (decide (c ∈ l))
  | [] => rfl
  | a :: l => by
    have ih := seenM_get c l
    unfold seenM at *
    rw [List.map_cons, getKV]
    by_cases h : a = c
    · simp [h]
    · simp only [h, if_false]
      rw [ih]
      have : (c ∈ a :: l) ↔ c ∈ l := by simp [List.mem_cons, Ne.symm h]
      simp only [this]
theorem seenM_set (c : Int) : ∀ l : List Int, c ∉ l → setKV (seenM l) c (.bool true) = seenM (l ++ [c])
  | [], _ => rfl
  | a :: l, h => by
    have ih := seenM_set c l (fun hm => h (List.mem_cons_of_mem _ hm))
    have ha : a ≠ c := fun e => h (by rw [e]; exact List.mem_cons_self ..)
    unfold seenM at *
    rw [List.map_cons, setKV, if_neg ha, ih]
    rfl
def BW (n₀ : Nat) (A B : World) : Prop := Below n₀ A B ∧ KeepsWalks A B
theorem MapIs.walks {α : Type} {w w' : World} {b : Nat} {enc : α → Value} {M : List (α × Value)} (h : MapIs w b enc M) (hk : KeepsWalks w w') : MapIs w' b enc M := by
  obtain ⟨es, cl, h1, h2⟩ := h
  exact ⟨es, cl, hk.same b _ h1 rfl, h2⟩
theorem MapIs.obj {α : Type} {w : World} {b : Nat} {enc : α → Value} {M : List (α × Value)} (h : MapIs w b enc M) : ∃ o : Obj, w.heap[b]? = some o ∧ o.isWalk = true := by
  obtain ⟨es, cl, h1, _⟩ := h
  exact ⟨_, h1, rfl⟩
def encsI (x : Int) : Array Value := #[.int .i64 x]
theorem valid_iff (x : Int) : validB x = true ↔ 0 ≤ x ∧ x ≤ 1114111 := by unfold validB; simp
set_option maxRecDepth 100000 in
set_option maxHeartbeats 2000000 in
theorem distinct1_in (n : Nat) (_hn1 : 1 ≤ n) (n₀ lp Bt BJ : Nat) (At : Option Addr) (nt ct : Nat) (text : List Int) (hnt : nt ≤ 1000000)
    (J Jx : List Int → World → Prop) (hJ : AbidesFrom BJ J)
    (hY : ∀ pre x W, J pre W → (∃ t, distL text = pre ++ x :: t) → YieldAt Fence.wide (n - 1) Tryz.prog lp (encsI x) W fun e W' =>
      (e = .returned (.bool true) ∧ J (pre ++ [x]) W' ∧ BW n₀ W W') ∨ (e = .returned (.bool false) ∧ Jx (pre ++ [x]) W'))
    (W : World) (hBJ : BJ ≤ W.heap.size) (hn0 : n₀ ≤ W.heap.size) (ht : ∀ W', Below n₀ W W' → W'.cell? ⟨Bt, 0, none⟩ = some (.slice At nt ct) ∧ Ints W' At nt text) (h0 : J [] W) :
    CallsIn Fence.wide n Tryz.prog 96 #[.func (.yield lp) #[] #[], .pointer (some ⟨Bt, 0, none⟩)] W fun e W' => (∃ v, e = .returned v) ∧
      ((∃ ys, ys = distL text ∧ J ys W') ∨ (∃ pre, pre <+: distL text ∧ Jx pre W')) := by
  have HT := Lib.hid ht
  have HY := Lib.hid hY
  have HJ := Lib.hid hJ
  have HN := Lib.hid (ht W (Below.refl _ _)).2.1
  have hB0 : Below n₀ W (W.alloc (.map #[] 0)) := (Below.refl _ W).alloc hn0 _
  have h0' : J [] (W.alloc (.map #[] 0)) := Abides.kept hJ h0 (Kept.alloc (Kept.refl _) _)
  have hm0 : MapIs (W.alloc (.map #[] 0)) W.heap.size (fun k : Int => Value.int .i64 k) (seenM []) := MapIs.made W _ _
  obtain ⟨ct0, hI0⟩ := ht _ hB0
  have HH0 := Lib.hid h0'
  have HM0 := Lib.hid hm0
  have HB0 := Lib.hid hB0
  have hmm := @run_makeMap Tryz.prog
  clear ht hY hJ hI0 h0 h0' hm0 hB0
  refine callsIn_of_wp Tryz.func96 rfl trivial ?_ rfl
  simp only [Tryz.ntmps96, List.size_toArray, List.length_cons, List.length_nil, Nat.reduceAdd, Nat.reduceSub, Array.replicate_succ, Array.replicate_zero, List.push_toArray, List.append_toArray, List.nil_append, List.cons_append]
  gi_wp2
  clear hmm
  obtain ⟨Bm, hBm⟩ : ∃ Bm : Nat, Bm = W.heap.size := ⟨_, rfl⟩
  rw [← hBm] at HM0 ⊢
  have hBJm : BJ ≤ Bm := by omega
  have hn0m : n₀ ≤ Bm := by omega
  clear hBm
  gi_loopw [9] (fun i wr => ∃ (k : Nat), k ≤ nt ∧ i = .int .i64 k ∧ J (distL (text.take k)) wr ∧ MapIs wr Bm (fun k : Int => Value.int .i64 k) (seenM (distL (text.take k))) ∧ Below n₀ W wr) (fun i _ => nt - (intOf i).toNat)
  case atStart => exact ⟨0, Nat.zero_le _, rfl, HH0.out, HM0.out, HB0.out⟩
  case round =>
    obtain ⟨k, hk, rfl, hJs, hM, hB⟩ := hrel
    have HJS := Lib.hid hJs
    have HM := Lib.hid hM
    have HB := Lib.hid hB
    obtain ⟨ct1, hI1⟩ := HT.out wr hB
    have HI := Lib.hid hI1
    clear hI1 hJs hM hB ct1
    by_cases hlt : k < nt
    · obtain ⟨b, off, x, rfl, hx, c0⟩ := int_at HI.out hlt
      have HX := Lib.hid hx
      clear hx
      by_cases hv : validB x = true
      · obtain ⟨h1, h2⟩ := (valid_iff x).1 hv
        have hlk := run_lookup_plain (T := 136) (E := 4) (keyOk_int (P := Tryz.prog) (K := 3) (by kernel_rfl)) (by kernel_rfl) HM.out (.bool false) (fun w => by kernel_rfl) x
        rw [seenM_get] at hlk
        have HV := Lib.hid hv
        clear hv
        by_cases hs : x ∈ distL (text.take k)
        · rw [decide_eq_true hs] at hlk
          have HS := Lib.hid (distL_skip HX.out (fun h => h.2 hs))
          clear hs
          gi_wp2
          go_roundw
          case rel => exact ⟨k + 1, by omega, by go_num, by rw [HS.out]; exact HJS.out, by rw [HS.out]; exact HM.out, HB.out⟩
          case measure => simp [intOf]; omega
        · rw [decide_eq_false hs] at hlk
          have HS := Lib.hid (distL_next HX.out HV.out hs)
          have HR := Lib.hid (distL_rest HX.out HV.out hs)
          obtain ⟨w4, hup, hm4, hg4⟩ := run_update (T := 136) (E := 4) (keyOk_int (P := Tryz.prog) (K := 3) (by kernel_rfl)) (by kernel_rfl) HM.out x (.bool true)
          rw [seenM_set _ _ hs, ← HS.out] at hm4
          have hJ4 := HJ.out _ _ _ _ HJS.out hg4 (fun r e => by injection e with e; subst e; exact ⟨hBJm, HM.out.obj⟩)
          have hB4 : Below n₀ W w4 := Below.grown HB.out hg4 (Nat.le_trans hn0 HB.out.size) (fun q e => by injection e with e; omega)
          have HM4 := Lib.hid hm4
          have HB4 := Lib.hid hB4
          obtain ⟨fn, tmps, assign, body, hy, hR⟩ := HY.out _ x w4 hJ4 HR.out
          dsimp only [encsI] at hy
          clear hs hm4 hg4 hB4
          gi_wp2
          refine hR.mono ?_
          rintro e W3 (⟨rfl, hJ3, hk3⟩ | ⟨rfl, hJx3⟩)
          · have HM5 := Lib.hid (HM4.out.walks hk3.2)
            have HJ5 := Lib.hid (show J (distL (text.take (k + 1))) W3 by rw [HS.out]; exact hJ3)
            have HB5 := Lib.hid (HB4.out.trans hk3.1)
            clear hJ3 hk3
            gi_wp2
            go_roundw
            case rel => exact ⟨k + 1, by omega, by go_num, HJ5.out, HM5.out, HB5.out⟩
            case measure => simp [intOf]; omega
          · gi_wp2
            refine bodyPost_ret (results_none rfl _ _ _) rfl ?_
            obtain ⟨t, ht⟩ := HR.out
            exact ⟨⟨_, rfl⟩, .inr ⟨_, ⟨t, by rw [ht]; simp⟩, hJx3⟩⟩
      · have HS := Lib.hid (distL_skip HX.out (fun h => hv h.1))
        by_cases h1 : x < 0
        · clear hv
          gi_wp2
          go_roundw
          case rel => exact ⟨k + 1, by omega, by go_num, by rw [HS.out]; exact HJS.out, by rw [HS.out]; exact HM.out, HB.out⟩
          case measure => simp [intOf]; omega
        · have h2 : 1114111 < x := by
            rcases Int.lt_or_le 1114111 x with h | h
            · exact h
            · exact absurd ((valid_iff x).2 ⟨by omega, h⟩) hv
          have h1 : 0 ≤ x := by omega
          clear hv
          gi_wp2
          go_roundw
          case rel => exact ⟨k + 1, by omega, by go_num, by rw [HS.out]; exact HJS.out, by rw [HS.out]; exact HM.out, HB.out⟩
          case measure => simp [intOf]; omega
    · have hkl : k = nt := by omega
      have HA := Lib.hid (show text.take k = text from List.take_of_length_le (by have := HN.out; omega))
      subst hkl
      gi_wp2
      go_end0
      exact ⟨⟨_, rfl⟩, .inl ⟨_, rfl, by have := HJS.out; rw [HA.out] at this; exact this⟩⟩
theorem BW.t {n₀ : Nat} {A B C : World} (h : BW n₀ A B) (k : BW n₀ B C) : BW n₀ A C := ⟨h.1.trans k.1, h.2.trans k.2⟩
def YieldsW {α : Type} (gf : Nat) (lb : Array Value) (encs : α → Array Value) (n₀ : Nat) (xs : List α) (w : World) : Prop :=
  ∀ n, 1 ≤ n → SeqStopsK Fence.wide n Tryz.prog gf lb encs (BW n₀) (fun ys => ys = xs) (fun pre => pre <+: xs) xs.length w
theorem distinct_any (At : Option Addr) (nt ct : Nat) (w : World) :
    Calls Tryz.prog 71 #[.slice At nt ct] w fun e w' => e = .returned (.func (.func 96) #[] #[.pointer (some ⟨w.heap.size, 0, none⟩)]) ∧ w' = w.alloc (.cells #[.slice At nt ct] 32) := by
  go_enter Tryz.func71, Tryz.ntmps71
  go_wp2
  go_ret
  exact ⟨rfl, rfl⟩
theorem distinct_yields (At : Option Addr) (nt ct : Nat) (w : World) (text : List Int) (hnt : nt ≤ 1000000) (ht : Ints w At nt text) :
    YieldsW 96 #[.pointer (some ⟨w.heap.size, 0, none⟩)] encsI (w.heap.size + 1) (distL text) (w.alloc (.cells #[.slice At nt ct] 32)) := by
  intro n hn l J Jx W hW hJ hJx hY h0
  have hsz : (w.alloc (.cells #[.slice At nt ct] 32)).heap.size = w.heap.size + 1 := by simp
  rw [hsz] at hW
  have b1 := box_cell w #[.slice At nt ct] 32 0
  have hk0 : Kept w (w.alloc (.cells #[.slice At nt ct] 32)) := Kept.alloc (Kept.refl _) _
  have hws : w.heap.size + 1 ≤ W.heap.size := by have := hW.size; simpa [hsz] using this
  exact distinct1_in n hn (w.heap.size + 1) l w.heap.size W.heap.size At nt ct text hnt J Jx hJ (fun pre x W1 h1 h2 => hY pre x W1 h1 (by obtain ⟨t, ht⟩ := h2; rw [ht]; simp)) W (Nat.le_refl _) hws
    (fun W' hW' => by
      have hk : Below (w.heap.size + 1) (w.alloc (.cells #[.slice At nt ct] 32)) W' := hW.trans hW'
      rw [← hsz] at hk
      exact ⟨Kept.cell hk b1, ht.kept (Kept.trans hk0 hk)⟩) h0
end Go.Proofs.YtckgmkjoblneeaaGreatDoor
namespace Go.Proofs.YtckgmkjoblneeaaGreatDoor
open Go Go.RowKit Go.Shelf
attribute [local go_sem] Oper.semAt_some
theorem bw_b {n₀ : Nat} {w : World} (hn : n₀ ≤ w.heap.size) (W : World) (l : Nat) (o o' : Obj) (hl : w.heap.size ≤ l) (h : W.heap[l]? = some o) (hc : o.isCells = false) (hw : o.isWalk = false) : BW n₀ W (W.putObj l o') := by
  refine ⟨belowK_b hn W l o o' hl h hc hw, ?_, fun k x hx hxw => ?_⟩
  · simp [World.putObj]
  · by_cases hk : k = l
    · subst hk
      rw [h] at hx
      injection hx with hx
      subst hx
      rw [hw] at hxw
      cases hxw
    · rw [← hx]
      simp only [World.putObj]
      rw [Array.getElem?_setIfInBounds, if_neg (fun e => hk e.symm)]
theorem info_parts_int : ∃ i, Tryz.prog.info? 3 = some i ∧ i.zero = some (.int .i64 0) ∧ i.size = 1 ∧ i.bytes = 8 := by
  have h := info_int
  cases hi : Tryz.prog.info? 3 with
  | none => rw [hi] at h; simp at h
  | some i =>
    rw [hi] at h
    simp only [Option.map_some, Option.some.injEq, Prod.mk.injEq] at h
    exact ⟨i, rfl, h.1, h.2.1, h.2.2⟩
set_option maxRecDepth 100000 in
set_option maxHeartbeats 2000000 in
theorem collect_int (gf : Nat) (lb : Array Value) (xs : List Int) (w : World) (hx : xs.length ≤ 100000000) (eg : ∀ args w, (callFunc gf args).run Tryz.prog w = .ok (.enter gf args) w) (hY : YieldsW gf lb encsI w.heap.size xs w) :
    Calls Tryz.prog 70 #[.func (.func gf) #[] lb] w (RetInts w xs) := by
  refine (callsIn_wide (n := 5)).1 ?_
  obtain ⟨i0, hi, hz0, hz1, hz2⟩ := info_parts_int
  refine callsIn_of_wp_marks Tryz.func70 rfl trivial ?_ rfl
  simp only [Tryz.ntmps70, List.size_toArray, List.length_cons, List.length_nil, Nat.reduceAdd, Nat.reduceSub, Array.replicate_succ, Array.replicate_zero, List.push_toArray, List.append_toArray, List.nil_append, List.cons_append]
  gi_wp2
  have bS := Boxed.new w 32 (.slice none 0 0)
  have hB0 : Below w.heap.size w (w.alloc (.cells #[.slice none 0 0] 32)) := (Below.refl _ w).alloc (Nat.le_refl _) _
  have hsz : (w.alloc (.cells #[.slice none 0 0] 32)).heap.size = w.heap.size + 1 := by simp
  obtain ⟨W0, hW0⟩ : ∃ W0, w.alloc (.cells #[.slice none 0 0] 32) = W0 := ⟨_, rfl⟩
  rw [hW0] at bS hB0 hsz ⊢
  clear hW0
  refine wpIn_rangeFunc_ownH rfl (by omega) (gf := gf) (lb := lb) rfl trivial eg (hY (5 - 1) (by omega)) BW.t (bw_b (by omega)) hB0 (fun _ => rfl)
    (fun pre W => (∃ v, Boxed W w.heap.size 32 v ∧ W.ownsRow w.heap.size 3 1 v pre.length (pre.flatMap encI) ∧ True) ∧ Below w.heap.size w W)
    (fun _ _ _ => False)
    (OwnFrom.and (Own.from (holdsRow_own w.heap.size w.heap.size 32 3 1 (fun pre : List Int => pre.length) (fun pre => pre.flatMap encI) (fun _ _ => True)) _) (ownFrom_below (Nat.le_refl _) (by omega)))
    (fun _ _ _ _ _ hs _ _ => hs)
    ⟨⟨_, bS, World.ownsRow_nil _ _ _ _, trivial⟩, hB0⟩
    (fun x a' _ => a' = { tmps := #[.func (.func gf) #[] lb, undef, .slice none 0 0, .pointer (some ⟨w.heap.size, 0, none⟩), .int .i64 x, .func (.func gf) #[] lb, .int .i64 x, undef, undef, undef, undef, undef], defers := [] })
    (fun x a' _ X Y row hs hg hr => hs)
    ?assign ?body ?done ?stop
  case assign =>
    rintro l pre x W K hI hK
    dsimp only [encsI]
    gi_wp2
    exact hK _ _ ((KeepsOthers.refl _).from _) ⟨Below.refl _ _, KeepsWalks.refl _⟩ hI rfl
  case body =>
    rintro l pre x a' W hl _ ⟨⟨v, bS1, hr1, _⟩, hB1⟩ rfl hlt
    have hc := bS1.cell
    gi_wp2_with (gi_at_builtin; refine wpListIn_append_own _ rfl _ _ 32 rfl w.heap.size 3 i0 (.int .i64 0) 1 8 Tryz.underlying32 hi hz0 hz1 hz2 rfl (by decide) _ _ _ rfl (hr1.alloc _) ⟨W.heap.size, 0, none⟩ 1 1 [.int .i64 x] rfl rfl (cell_one_at rfl) (by simp [Value.oneCell']) (by unfold maxLen; omega) (by omega) (by have := hB1.size; simp; omega) ?_; intro v' w1 hown' hgrow _; obtain ⟨g', cap', rfl⟩ := ownsRow_succ hown'; obtain ⟨hv1, hv2, hr2, hk2, hb2⟩ := bS1.appended (by decide) hr1 hB1.size (Nat.le_refl _) hown' hgrow; have hc1 := hv1.cell; have hf1 := hv1.frozen)
    exact ⟨hk2.from _, ⟨hb2, hk2.size, fun k o h hw => hk2.same k o h (Obj.not_cells_of_walk hw)⟩, ⟨_, hv2, by simpa [encI] using hr2, trivial⟩, hB1.trans hb2⟩
  case done =>
    rintro D ys W hD rfl ⟨⟨v, hv, hrow, _⟩, hB⟩ hK
    have hc := hv.cell
    gi_wp2
    refine ⟨by simp, .inl ⟨_, _, rfl, run_takeDeferred hK, ?_⟩⟩
    obtain ⟨A, c, rfl, hle, hsl⟩ := Sl.of_own (k := 1) (enc := encI) (fun _ => rfl) (ownsRow_putObj hrow (.deferred none) hK rfl)
    exact ⟨_, results_tmp rfl _ _ _, A, _, c, rfl, hle, hsl, hB.trans (belowK_b (w := w) (Nat.le_refl _) W D _ _ (by omega) hK rfl rfl)⟩
  case stop =>
    rintro D c pre W _ _ h _
    exact h.elim
theorem codes_any (At : Option Addr) (nt ct : Nat) (w : World) (text : List Int) (hnt : nt ≤ 1000000) (ht : Ints w At nt text) :
    ∃ w1, Calls Tryz.prog 71 #[.slice At nt ct] w (fun e w' => e = .returned (.func (.func 96) #[] #[.pointer (some ⟨w.heap.size, 0, none⟩)]) ∧ w' = w1) ∧ Kept w w1 ∧
      Calls Tryz.prog 70 #[.func (.func 96) #[] #[.pointer (some ⟨w.heap.size, 0, none⟩)]] w1 (RetInts w1 (distL text)) := by
  refine ⟨_, distinct_any At nt ct w, Kept.alloc (Kept.refl _) _, ?_⟩
  refine collect_int _ _ _ _ (by have := distL_length text; have := ht.1; omega) (enters_of Tryz.func96 (by kernel_rfl) rfl) ?_
  have := distinct_yields At nt ct w text hnt ht
  rw [World.size_alloc]
  exact this
end Go.Proofs.YtckgmkjoblneeaaGreatDoor
