/- ordering.runs: the iterator over the runs of a text. slices.Collect of an iterator over ranges; ordering.Runs. slices.Collect of ranges; ordering.usable, runs, Runs, Class, Starter. ordering.Starter. -/
import Derived.RangeFuncNested
import Derived.RangeFuncBound
import Derived.RangeFuncCalls
import Derived.RangeFuncLeaves
import Derived.RangeFuncBox
import Derived.Shelf.Abstract
import Derived.Shelf.RegionOpen
import Derived.OwnWalkIn
import Derived.TacticsInMore
import Derived.LoopNIn
import Derived.LoopIn
import Derived.Test.YtckgmkjoblneeaaGreatDoorKOrd
import Derived.Test.YtckgmkjoblneeaaGreatDoorKPl
import Derived.Test.YtckgmkjoblneeaaGreatDoorKOwn
namespace Go.Proofs.YtckgmkjoblneeaaGreatDoor
open Go Go.RowKit Go.Shelf
attribute [local go_sem] Oper.semAt_some
def Yields {α : Type} (gf : Nat) (lb : Array Value) (encs : α → Array Value) (n₀ : Nat) (xs : List α) (w : World) : Prop :=
  ∀ n, 1 ≤ n → SeqStopsK Fence.wide n Tryz.prog gf lb encs (Below n₀) (fun ys => ys = xs) (fun pre => pre <+: xs) xs.length w
def stI : Option Nat → Int
  | none => -1
  | some s => s
def encsR (r : Rng) : Array Value := #[.agg #[.int .i64 r.lo, .int .i64 r.hi]]
theorem Abides.kept {β : Type} {B : Nat} {J : β → World → Prop} (h : AbidesFrom B J) {s : β} {W W' : World} (hJ : J s W) (hk : Kept W W') : J s W' :=
  h s W W' none hJ ⟨hk.os, hk.tape, hk.output, hk.size, fun k hk2 _ => hk.block k hk2⟩ (fun r e => by cases e)
set_option maxRecDepth 100000 in
set_option maxHeartbeats 2000000 in
theorem runs1_in (n : Nat) (hn1 : 1 ≤ n) (Kp : World → World → Prop) (hKr : ∀ A, Kp A A) (hKt : ∀ {A B C : World}, Kp A B → Kp B C → Kp A C) (hKk : ∀ {A B : World}, Kept A B → Kp A B) (lp Bt Bc : Nat) (At Ac : Option Addr) (nt ct nc cc : Nat) (text : List Int) (cl : List Span) (hnt : nt ≤ 100000000) (hnc : nc ≤ 1000) (hs : SpanSorted cl)
    (J Jx : List Rng → World → Prop) (BJ : Nat) (hJ : AbidesFrom BJ J)
    (hY : ∀ pre x W, J pre W → (∃ t, runsOf cl text = pre ++ x :: t) → YieldAt Fence.wide (n - 1) Tryz.prog lp (encsR x) W fun e W' =>
      (e = .returned (.bool true) ∧ J (pre ++ [x]) W' ∧ Kp W W') ∨ (e = .returned (.bool false) ∧ Jx (pre ++ [x]) W'))
    (W : World) (ht : ∀ W', Kp W W' → W'.cell? ⟨Bt, 0, none⟩ = some (.slice At nt ct) ∧ W'.cell? ⟨Bc, 0, none⟩ = some (.slice Ac nc cc) ∧ Ints W' At nt text ∧ Spans W' Ac nc cl) (h0 : J [] W) :
    CallsIn Fence.wide n Tryz.prog 91 #[.func (.yield lp) #[] #[], .pointer (some ⟨Bt, 0, none⟩), .pointer (some ⟨Bc, 0, none⟩)] W fun e W' => (∃ v, e = .returned v) ∧
      ((∃ ys, ys = runsOf cl text ∧ J ys W') ∨ (∃ pre, pre <+: runsOf cl text ∧ Jx pre W')) := by
  have HT := Lib.hid ht
  have HY := Lib.hid hY
  have HJ := Lib.hid hJ
  have HSS := Lib.hid hs
  have HN := Lib.hid (ht W (hKr _)).2.2.1.1
  obtain ⟨ct0, cc0, hI0, hS0⟩ := ht W (hKr _)
  have HKR := Lib.hid hKr
  have HKT := Lib.hid (show ∀ A B C : World, Kp A B → Kp B C → Kp A C from fun A B C h k => hKt h k)
  have HKK := Lib.hid (show ∀ A B : World, Kept A B → Kp A B from fun A B h => hKk h)
  clear ht hY hJ hs hI0 hS0 hKr hKt hKk
  refine callsIn_of_wp Tryz.func91 rfl trivial ?_ rfl
  simp only [Tryz.ntmps91, List.size_toArray, List.length_cons, List.length_nil, Nat.reduceAdd, Nat.reduceSub, Array.replicate_succ, Array.replicate_zero, List.push_toArray, List.append_toArray, List.nil_append, List.cons_append]
  gi_wp2
  gi_loopw [4, 10] (fun s i wr => ∃ (k : Nat) (st : Option Nat) (pre : List Rng), k ≤ nt ∧ i = .int .i64 k ∧ s = .int .i64 (stI st) ∧ runsOf cl text = pre ++ runsFrom (classOf cl) k st (text.drop k) ∧ J pre wr ∧ Kp W wr) (fun _ i _ => nt - (intOf i).toNat)
  case atStart => exact ⟨0, none, [], Nat.zero_le _, rfl, rfl, rfl, h0, HKR.out _⟩
  case round =>
    obtain ⟨k, st, pre, hk, rfl, rfl, hpre, hJs, hB⟩ := hrel
    have HP := Lib.hid hpre
    clear hpre
    obtain ⟨ct1, cc1, hI1, hS1⟩ := HT.out wr hB
    have HI := Lib.hid hI1
    have HS := Lib.hid hS1
    clear hI1 hS1
    by_cases hlt : k < nt
    · obtain ⟨b, off, x, rfl, hx, c0⟩ := int_at HI.out hlt
      have HX := Lib.hid hx
      clear hx
      by_cases hcls : classOf cl x = 0
      · have hb : (classOf cl x == 0) = true := by simpa using hcls
        have HC := Lib.hid hcls
        clear hcls
        cases st with
        | none =>
          rw [show stI none = -1 from rfl]
          gi_wp2_with (refine ⟨trivial, ?_⟩; gi_at_call 68; refine (callsIn_wide.2 (class_any _ _ _ _ _ _ (by omega) HS.out HSS.out)).mono ?_; rintro e w' ⟨rfl, hk2⟩)
          go_roundw
          case rel => exact ⟨k + 1, none, pre, by omega, by go_num, rfl, by rw [HP.out, drop_some HX.out, runsFrom, if_pos HC.out], Abides.kept HJ.out hJs hk2, HKT.out _ _ _ hB (HKK.out _ _ hk2)⟩
          case measure => simp [intOf]; omega
        | some s =>
          rw [show stI (some s) = (s : Int) from rfl]
          have hpre : runsOf cl text = pre ++ (⟨s, k⟩ :: runsFrom (classOf cl) (k + 1) none (text.drop (k + 1))) := by
            rw [HP.out, drop_some HX.out, runsFrom, if_pos HC.out]
          have HP2 := Lib.hid hpre
          clear hpre
          gi_wp2_with (refine ⟨trivial, ?_⟩; gi_at_call 68; refine (callsIn_wide.2 (class_any _ _ _ _ _ _ (by omega) HS.out HSS.out)).mono ?_; rintro e w' ⟨rfl, hk2⟩; obtain ⟨fn, tmps, assign, body, hy, hR⟩ := HY.out pre ⟨s, k⟩ w' (Abides.kept HJ.out hJs hk2) ⟨_, HP2.out⟩; dsimp only [encsR] at hy)
          refine hR.mono ?_
          rintro e W3 (⟨rfl, hJ3, hk3⟩ | ⟨rfl, hJx3⟩)
          · gi_wp2
            go_roundw
            case rel => exact ⟨k + 1, none, pre ++ [⟨s, k⟩], by omega, by go_num, rfl, by rw [HP2.out]; simp, hJ3, HKT.out _ _ _ (HKT.out _ _ _ hB (HKK.out _ _ hk2)) hk3⟩
            case measure => simp [intOf]; omega
          · gi_wp2
            refine bodyPost_ret (results_none rfl _ _ _) rfl ?_
            exact ⟨⟨_, rfl⟩, .inr ⟨pre ++ [⟨s, k⟩], ⟨runsFrom (classOf cl) (k + 1) none (text.drop (k + 1)), by rw [HP2.out]; simp⟩, hJx3⟩⟩
      · have hb : (classOf cl x == 0) = false := by simpa using hcls
        have HC := Lib.hid hcls
        clear hcls
        cases st with
        | none =>
          rw [show stI none = -1 from rfl]
          gi_wp2_with (refine ⟨trivial, ?_⟩; gi_at_call 68; refine (callsIn_wide.2 (class_any _ _ _ _ _ _ (by omega) HS.out HSS.out)).mono ?_; rintro e w' ⟨rfl, hk2⟩)
          go_roundw
          case rel => exact ⟨k + 1, some k, pre, by omega, by go_num, rfl, by rw [HP.out, drop_some HX.out, runsFrom, if_neg HC.out], Abides.kept HJ.out hJs hk2, HKT.out _ _ _ hB (HKK.out _ _ hk2)⟩
          case measure => simp [intOf]; omega
        | some s =>
          rw [show stI (some s) = (s : Int) from rfl]
          gi_wp2_with (refine ⟨trivial, ?_⟩; gi_at_call 68; refine (callsIn_wide.2 (class_any _ _ _ _ _ _ (by omega) HS.out HSS.out)).mono ?_; rintro e w' ⟨rfl, hk2⟩)
          go_roundw
          case rel => exact ⟨k + 1, some s, pre, by omega, by go_num, rfl, by rw [HP.out, drop_some HX.out, runsFrom, if_neg HC.out], Abides.kept HJ.out hJs hk2, HKT.out _ _ _ hB (HKK.out _ _ hk2)⟩
          case measure => simp [intOf]; omega
    · have hd : text.drop k = [] := List.drop_of_length_le (by have := HN.out; omega)
      have hkl : k = nt := by omega
      cases st with
      | none =>
        have hpre : runsOf cl text = pre := by rw [HP.out, hd]; simp [runsFrom]
        have HP2 := Lib.hid hpre
        clear hpre hd
        rw [show stI none = -1 from rfl]
        subst hkl
        gi_wp2
        go_end0
        exact ⟨⟨_, rfl⟩, .inl ⟨pre, HP2.out.symm, hJs⟩⟩
      | some s =>
        have hpre : runsOf cl text = pre ++ [⟨s, k⟩] := by rw [HP.out, hd]; simp [runsFrom]
        have HP2 := Lib.hid hpre
        clear hpre hd
        rw [show stI (some s) = (s : Int) from rfl]
        subst hkl
        obtain ⟨fn, tmps, assign, body, hy, hR⟩ := HY.out pre ⟨s, k⟩ wr hJs ⟨[], HP2.out⟩
        dsimp only [encsR] at hy
        gi_wp2
        refine hR.mono ?_
        rintro e W3 (⟨rfl, hJ3, hk3⟩ | ⟨rfl, hJx3⟩)
        · gi_wp2
          go_end0
          exact ⟨⟨_, rfl⟩, .inl ⟨_, HP2.out.symm, hJ3⟩⟩
        · gi_wp2
          go_end0
          exact ⟨⟨_, rfl⟩, .inr ⟨pre ++ [⟨s, k⟩], ⟨[], by rw [HP2.out]; simp⟩, hJx3⟩⟩
end Go.Proofs.YtckgmkjoblneeaaGreatDoor
namespace Go.Proofs.YtckgmkjoblneeaaGreatDoor
open Go Go.RowKit Go.Shelf
attribute [local go_sem] Oper.semAt_some
theorem cell_two_ (w : World) (u v : Value) (e : TypeId) : ∀ j x, [u, v][j]? = some x → (w.alloc (.cells #[u, v] e)).cell? ((⟨w.heap.size, 0, none⟩ : Addr).add j) = some x := by
  intro j x hx
  rw [add_zero_, box_cell]
  simpa using hx
set_option maxRecDepth 100000 in
set_option maxHeartbeats 2000000 in
theorem appendSeq_rng (gf : Nat) (lb : Array Value) (xs : List Rng) (w : World) (hx : xs.length ≤ 100000000) (eg : ∀ args w, (callFunc gf args).run Tryz.prog w = .ok (.enter gf args) w) (hY : Yields gf lb encsR w.heap.size xs w) :
    Calls Tryz.prog 115 #[.slice none 0 0, .func (.func gf) #[] lb] w (RetRngs w xs) := by
  refine (callsIn_wide (n := 5)).1 ?_
  obtain ⟨i0, hi, hz0, hz1, hz2⟩ := info_parts info_rng
  refine callsIn_of_wp_marks Tryz.func115 rfl trivial ?_ rfl
  simp only [Tryz.ntmps115, List.size_toArray, List.length_cons, List.length_nil, Nat.reduceAdd, Nat.reduceSub, Array.replicate_succ, Array.replicate_zero, List.push_toArray, List.append_toArray, List.nil_append, List.cons_append]
  gi_wp2
  have bS := Boxed.new w 24 (.slice none 0 0)
  have hB0 : Below w.heap.size w (w.alloc (.cells #[.slice none 0 0] 24)) := (Below.refl _ w).alloc (Nat.le_refl _) _
  have hsz : (w.alloc (.cells #[.slice none 0 0] 24)).heap.size = w.heap.size + 1 := by simp
  obtain ⟨W0, hW0⟩ : ∃ W0, w.alloc (.cells #[.slice none 0 0] 24) = W0 := ⟨_, rfl⟩
  rw [hW0] at bS hB0 hsz ⊢
  clear hW0
  refine wpIn_rangeFunc_ownH rfl (by omega) (gf := gf) (lb := lb) rfl trivial eg (hY (5 - 1) (by omega)) belowK_t (belowK_b (by omega)) hB0 (fun _ => rfl)
    (fun pre W => (∃ v, Boxed W w.heap.size 24 v ∧ W.ownsRow w.heap.size 48 2 v pre.length (pre.flatMap encR) ∧ True) ∧ Below w.heap.size w W)
    (fun _ _ _ => False)
    (OwnFrom.and (Own.from (holdsRow_own w.heap.size w.heap.size 24 48 2 (fun pre : List Rng => pre.length) (fun pre => pre.flatMap encR) (fun _ _ => True)) _) (ownFrom_below (Nat.le_refl _) (by omega)))
    (fun _ _ _ _ _ hs _ _ => hs)
    ⟨⟨_, bS, World.ownsRow_nil _ _ _ _, trivial⟩, hB0⟩
    (fun x a' W => ∃ Bx, w.heap.size < Bx ∧ W.heap[Bx]? = some (.cells #[.int .i64 x.lo, .int .i64 x.hi] 48 (0, 0)) ∧ a' = { tmps := #[.slice none 0 0, .func (.func gf) #[] lb, .pointer (some ⟨w.heap.size, 0, none⟩), undef, .slice none 0 0, .pointer (some ⟨Bx, 0, none⟩), .func (.func gf) #[] lb, .agg #[.int .i64 x.lo, .int .i64 x.hi], undef, undef, undef, undef, undef], defers := [] })
    (fun x a' _ X Y row hs hg hr => by
      obtain ⟨Bx, h1, h2, h3⟩ := hs
      refine ⟨Bx, h1, (hg.block Bx (Array.getElem?_eq_some_iff.1 h2).1 (fun e => ?_)).trans h2, h3⟩
      obtain ⟨_, o, ho, hc⟩ := hr Bx e.symm
      rw [h2] at ho; cases ho; cases hc)
    ?assign ?body ?done ?stop
  case assign =>
    rintro l pre x W K ⟨⟨v, bS1, hr1, _⟩, hB1⟩ hK
    dsimp only [encsR]
    gi_wp2
    refine hK _ _ ((KeepsOthers.alloc _ _).from _) ((Below.refl _ W).alloc hB1.size _) ⟨⟨v, bS1.alloc _, hr1.alloc _, trivial⟩, hB1.alloc hB1.size _⟩ ⟨W.heap.size, bS1.lt, heap_alloc_new W _, rfl⟩
  case body =>
    rintro l pre x a' W hl _ ⟨⟨v, bS1, hr1, _⟩, hB1⟩ ⟨Bx, hBx, hX, rfl⟩ hlt
    have hc := bS1.cell
    have x0 : W.cell? ⟨Bx, 0, none⟩ = some (.int .i64 x.lo) := by simp [World.cell?, hX]
    have x1 : W.cell? ⟨Bx, 1, none⟩ = some (.int .i64 x.hi) := by simp [World.cell?, hX]
    gi_wp2_with (gi_at_builtin; refine wpListIn_append_own _ rfl _ _ 24 rfl w.heap.size 48 i0 (.agg #[.int .i64 0, .int .i64 0]) 2 16 Tryz.underlying24 hi hz0 hz1 hz2 rfl (by decide) _ _ _ rfl (hr1.alloc _) ⟨W.heap.size, 0, none⟩ 1 1 [.int .i64 x.lo, .int .i64 x.hi] rfl rfl (cell_two_ _ _ _ _) (by simp [Value.oneCell']) (by unfold maxLen; omega) (by omega) (by have := hB1.size; simp; omega) ?_; intro v' w1 hown' hgrow _; obtain ⟨g', cap', rfl⟩ := ownsRow_succ hown'; obtain ⟨hv1, hv2, hr2, hk2, hb2⟩ := bS1.appended (by decide) hr1 hB1.size (Nat.le_refl _) hown' hgrow; have hc1 := hv1.cell; have hf1 := hv1.frozen)
    exact ⟨hk2.from _, hb2, ⟨_, hv2, by simpa [encR] using hr2, trivial⟩, hB1.trans hb2⟩
  case done =>
    rintro D ys W hD rfl ⟨⟨v, hv, hrow, _⟩, hB⟩ hK
    have hc := hv.cell
    gi_wp2
    refine ⟨by simp, .inl ⟨_, _, rfl, run_takeDeferred hK, ?_⟩⟩
    obtain ⟨A, c, rfl, hle, hsl⟩ := Sl.of_own (k := 2) (enc := encR) (fun _ => rfl) (ownsRow_putObj hrow (.deferred none) hK rfl)
    exact ⟨_, results_tmp rfl _ _ _, A, _, c, rfl, hle, hsl, hB.trans (belowK_b (w := w) (Nat.le_refl _) W D _ _ (by omega) hK rfl rfl)⟩
  case stop =>
    rintro D c pre W _ _ h _
    exact h.elim
end Go.Proofs.YtckgmkjoblneeaaGreatDoor
namespace Go.Proofs.YtckgmkjoblneeaaGreatDoor
open Go Go.RowKit Go.Shelf
theorem collect_rng (gf : Nat) (lb : Array Value) (xs : List Rng) (w : World) (hx : xs.length ≤ 100000000) (eg : ∀ args w, (callFunc gf args).run Tryz.prog w = .ok (.enter gf args) w) (hY : Yields gf lb encsR w.heap.size xs w) :
    Calls Tryz.prog 105 #[.func (.func gf) #[] lb] w (RetRngs w xs) := by
  have HC := Lib.hid (appendSeq_rng gf lb xs w hx eg hY)
  clear hY eg
  go_enter Tryz.func105, Tryz.ntmps105
  go_wp2_with fail
  refine HC.out.mono ?_
  rintro e w1 ⟨A, n, c, rfl, hle, hI, hk⟩
  go_wp2_with fail
  go_ret
  exact ⟨A, n, c, rfl, hle, hI, hk⟩
theorem usableSpans_sorted (l : List Span) : SpanSorted (usableSpans l) := by
  unfold usableSpans
  by_cases h : ordCheck l = 0
  · rw [if_pos h]
    obtain ⟨h0, h1, _⟩ := ordCheck_zero h
    exact spanSorted_of h0 h1
  · rw [if_neg h]
    exact ⟨fun i j a b _ ha => by simp at ha, fun a ha => by simp at ha⟩
def RetSpans (w : World) (xs : List Span) (bound : Nat) (e : Ending) (w' : World) : Prop := ∃ A n c, e = .returned (.slice A n c) ∧ n ≤ c ∧ n ≤ bound ∧ Spans w' A n xs ∧ Kept w w'
theorem ordUsable (A : Option Addr) (n c : Nat) (l : List Span) (w : World) (hn : n ≤ 1000) (hc : n ≤ c) (hl : Spans w A n l) (hG : Glob w) :
    Calls Tryz.prog 64 #[.slice A n c] w (RetSpans w (usableSpans l) n) := by
  have HL := Lib.hid hl
  have HC := Lib.hid (ordering_check A n c l w hn hl hG)
  clear hl hG
  by_cases h : ordCheck l = 0
  · have hb : (ordCheck l != 0) = false := by simp [h]
    have HU := Lib.hid (show usableSpans l = l from if_pos h)
    clear h
    go_enter Tryz.func64, Tryz.ntmps64
    go_wp2_with (go_at_call 79; refine HC.out.mono ?_; rintro e w1 ⟨rfl, hk⟩)
    go_ret
    exact ⟨A, n, c, rfl, hc, Nat.le_refl _, by rw [HU.out]; exact HL.out.kept hk, hk⟩
  · have hb : (ordCheck l != 0) = true := by simp [h]
    have HU := Lib.hid (show usableSpans l = [] from if_neg h)
    clear h
    go_enter Tryz.func64, Tryz.ntmps64
    go_wp2_with (go_at_call 79; refine HC.out.mono ?_; rintro e w1 ⟨rfl, hk⟩)
    go_ret
    exact ⟨none, 0, 0, rfl, Nat.le_refl _, Nat.zero_le _, by rw [HU.out]; exact Sl.nil, hk⟩
theorem runs_any (Ac At : Option Addr) (nc cc nt ct : Nat) (w : World) :
    Calls Tryz.prog 65 #[.slice Ac nc cc, .slice At nt ct] w fun e w' => e = .returned (.func (.func 91) #[] #[.pointer (some ⟨w.heap.size + 1, 0, none⟩), .pointer (some ⟨w.heap.size, 0, none⟩)]) ∧
      w' = (w.alloc (.cells #[.slice Ac nc cc] 22)).alloc (.cells #[.slice At nt ct] 32) := by
  go_enter Tryz.func65, Tryz.ntmps65
  go_wp2
  go_ret
  exact ⟨rfl, rfl⟩
theorem runs_yields (Ac At : Option Addr) (nc cc nt ct : Nat) (w : World) (text : List Int) (cl : List Span) (hnt : nt ≤ 100000000) (hnc : nc ≤ 1000) (hs : SpanSorted cl) (ht : Ints w At nt text) (hc : Spans w Ac nc cl) :
    Yields 91 #[.pointer (some ⟨w.heap.size + 1, 0, none⟩), .pointer (some ⟨w.heap.size, 0, none⟩)] encsR (w.heap.size + 2) (runsOf cl text) ((w.alloc (.cells #[.slice Ac nc cc] 22)).alloc (.cells #[.slice At nt ct] 32)) := by
  intro n hn l J Jx W hW hJ hJx hY h0
  have hsz : ((w.alloc (.cells #[.slice Ac nc cc] 22)).alloc (.cells #[.slice At nt ct] 32)).heap.size = w.heap.size + 2 := by simp
  rw [hsz] at hW
  have b1 := box_cell w #[.slice Ac nc cc] 22 0
  have b1' : ((w.alloc (.cells #[.slice Ac nc cc] 22)).alloc (.cells #[.slice At nt ct] 32)).cell? ⟨w.heap.size, 0, none⟩ = some (.slice Ac nc cc) := (Kept.alloc (Kept.refl _) _).cell b1
  have b2 := box_cell (w.alloc (.cells #[.slice Ac nc cc] 22)) #[.slice At nt ct] 32 0
  rw [World.size_alloc] at b2
  have hk0 : Kept w ((w.alloc (.cells #[.slice Ac nc cc] 22)).alloc (.cells #[.slice At nt ct] 32)) := Kept.alloc (Kept.alloc (Kept.refl _) _) _
  have hws : w.heap.size + 2 ≤ W.heap.size := by have := hW.size; simpa [hsz] using this
  exact runs1_in n hn (fun A B => w.heap.size + 2 ≤ A.heap.size → Below (w.heap.size + 2) A B) (fun A _ => Below.refl _ _) (fun h k hs => (h hs).trans (k (Nat.le_trans hs (h hs).size))) (fun h hs => Below.mono h hs) l (w.heap.size + 1) w.heap.size At Ac nt ct nc cc text cl hnt hnc hs J Jx _ hJ (fun pre x W1 h1 h2 => (hY pre x W1 h1 (by obtain ⟨t, ht⟩ := h2; rw [ht]; simp)).mono fun e W' h => h.imp (fun ⟨a, b, c⟩ => ⟨a, b, fun _ => c⟩) id) W
    (fun W' hW' => by
      have hk : Below (w.heap.size + 2) ((w.alloc (.cells #[.slice Ac nc cc] 22)).alloc (.cells #[.slice At nt ct] 32)) W' := hW.trans (hW' hws)
      rw [← hsz] at hk
      exact ⟨Kept.cell hk b2, Kept.cell hk b1', ht.kept (Kept.trans hk0 hk), hc.kept (Kept.trans hk0 hk)⟩) h0
theorem ordRuns (Ac At : Option Addr) (nc cc nt ct : Nat) (w : World) (text : List Int) (l : List Span) (hnt : nt ≤ 100000000) (hnc : nc ≤ 1000) (hcc : nc ≤ cc) (ht : Ints w At nt text) (hl : Spans w Ac nc l) (hG : Glob w) :
    Calls Tryz.prog 83 #[.slice Ac nc cc, .slice At nt ct] w (RetRngs w (runsOf (usableSpans l) text)) := by
  have HT := Lib.hid ht
  have HU := Lib.hid (ordUsable Ac nc cc l w hnc hcc hl hG)
  clear ht hl hG
  go_enter Tryz.func83, Tryz.ntmps83
  go_wp2_with fail
  refine HU.out.mono ?_
  rintro e w1 ⟨A1, n1, c1, rfl, hle1, hn1, hS1, hk1⟩
  have HS := Lib.hid hS1
  clear hS1
  go_wp2_with fail
  refine (runs_any _ _ _ _ _ _ _).mono ?_
  rintro e w2 ⟨rfl, hw2⟩
  have hY := runs_yields A1 At n1 c1 nt ct w1 text (usableSpans l) hnt (by omega) (usableSpans_sorted l) (HT.out.kept hk1) HS.out
  rw [← hw2] at hY
  have hsz : w1.heap.size + 2 = w2.heap.size := by rw [hw2]; simp
  rw [hsz] at hY
  have hk2 : Kept w1 w2 := by rw [hw2]; exact Kept.alloc (Kept.alloc (Kept.refl _) _) _
  have hlen : (runsOf (usableSpans l) text).length ≤ 100000000 := by
    have h1 := runsOf_length (usableSpans l) text
    have h2 := HT.out.1
    omega
  have HCC := Lib.hid (collect_rng _ _ _ w2 hlen (enters_of Tryz.func91 (by kernel_rfl) rfl) hY)
  clear hY hw2 hsz hlen
  go_wp2_with fail
  refine HCC.out.mono ?_
  rintro e w3 ⟨A3, n3, c3, rfl, hle3, hI3, hk3⟩
  go_wp2_with fail
  go_ret
  exact ⟨A3, n3, c3, rfl, hle3, hI3, Kept.trans hk1 (Kept.trans hk2 hk3)⟩
theorem ordClass (A : Option Addr) (n c : Nat) (l : List Span) (x : Int) (w : World) (hn : n ≤ 1000) (hc : n ≤ c) (hl : Spans w A n l) (hG : Glob w) :
    Calls Tryz.prog 52 #[.slice A n c, .int .i64 x] w (RetI w (classOf (usableSpans l) x)) := by
  have HU := Lib.hid (ordUsable A n c l w hn hc hl hG)
  clear hl hG
  go_enter Tryz.func52, Tryz.ntmps52
  go_wp2_with fail
  refine HU.out.mono ?_
  rintro e w1 ⟨A1, n1, c1, rfl, hle1, hn1, hS1, hk1⟩
  have HS := Lib.hid hS1
  clear hS1
  go_wp2_with fail
  refine (class_any _ _ _ _ _ _ (by omega) HS.out (usableSpans_sorted l)).mono ?_
  rintro e w2 ⟨rfl, hk2⟩
  go_wp2_with fail
  go_ret
  exact ⟨rfl, Kept.trans hk1 hk2⟩
end Go.Proofs.YtckgmkjoblneeaaGreatDoor
namespace Go.Proofs.YtckgmkjoblneeaaGreatDoor
open Go Go.RowKit
theorem ordStarter (A : Option Addr) (n c : Nat) (l : List Span) (x : Int) (w : World) (hn : n ≤ 1000) (hc : n ≤ c) (hl : Spans w A n l) (hG : Glob w) :
    Calls Tryz.prog 73 #[.slice A n c, .int .i64 x] w (RetB w (classOf (usableSpans l) x == 0)) := by
  have HC := Lib.hid (ordClass A n c l x w hn hc hl hG)
  clear hl hG
  generalize classOf (usableSpans l) x = k at *
  go_enter Tryz.func73, Tryz.ntmps73
  go_wp2_with fail
  refine HC.out.mono ?_
  rintro e w1 ⟨rfl, k1⟩
  go_wp2_with fail
  go_ret
  exact ⟨rfl, k1⟩
end Go.Proofs.YtckgmkjoblneeaaGreatDoor
