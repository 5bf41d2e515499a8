/- ordering.runs: the iterator over the runs of a text. -/
import Derived.RangeFuncNested
import Derived.RangeFuncBound
import Derived.RangeFuncCalls
import Derived.RangeFuncLeaves
import Derived.RangeFuncBox
import Derived.Shelf.Abstract
import Derived.Shelf.RegionOpen
import Derived.OwnWalkIn
import Derived.TacticsInMore
import Derived.LoopNIn
import Derived.LoopIn
import Derived.Test.YtobcaploncgnbaaDoorKOrdB
import Derived.Test.YtobcaploncgnbaaDoorKPl
namespace Go.Proofs.YtobcaploncgnbaaDoor
open Go Go.RowKit Go.Shelf
attribute [local go_sem] Oper.semAt_some

/-- The iterator value g with what it captured yields xs, in a world in which what lies below n₀ stays. -/
def Yields {α : Type} (gf : Nat) (lb : Array Value) (encs : α → Array Value) (n₀ : Nat) (xs : List α) (w : World) : Prop :=
  ∀ n, 1 ≤ n → SeqStopsK Fence.wide n Tryd.prog gf lb encs (Below n₀) (fun ys => ys = xs) (fun pre => pre <+: xs) xs.length w

def stI : Option Nat → Int
  | none => -1
  | some s => s
def encsR (r : Rng) : Array Value := #[.agg #[.int .i64 r.lo, .int .i64 r.hi]]

theorem Abides.kept {β : Type} {B : Nat} {J : β → World → Prop} (h : AbidesFrom B J) {s : β} {W W' : World} (hJ : J s W) (hk : Kept W W') : J s W' :=
  h s W W' none hJ ⟨hk.os, hk.tape, hk.output, hk.size, fun k hk2 _ => hk.block k hk2⟩ (fun r e => by cases e)

set_option maxRecDepth 100000 in
set_option maxHeartbeats 2000000 in
theorem runs1_in (n : Nat) (hn1 : 1 ≤ n) (lp n₀ Bt Bc : Nat) (At Ac : Option Addr) (nt ct nc cc : Nat) (text : List Int) (cl : List Span) (hnt : nt ≤ 100000) (hnc : nc ≤ 1000) (hs : SpanSorted cl)
    (J Jx : List Rng → World → Prop) (BJ : Nat) (hJ : AbidesFrom BJ J)
    (hY : ∀ pre x W, J pre W → pre.length < (runsOf cl text).length → YieldAt Fence.wide (n - 1) Tryd.prog lp (encsR x) W fun e W' =>
      (e = .returned (.bool true) ∧ J (pre ++ [x]) W' ∧ Below n₀ W W') ∨ (e = .returned (.bool false) ∧ Jx (pre ++ [x]) W'))
    (W : World) (_hBt : Bt < n₀) (_hBc : Bc < n₀) (hn0 : n₀ ≤ W.heap.size) (ht : ∀ W', Below n₀ W W' → W'.cell? ⟨Bt, 0, none⟩ = some (.slice At nt ct) ∧ W'.cell? ⟨Bc, 0, none⟩ = some (.slice Ac nc cc) ∧ Ints W' At nt text ∧ Spans W' Ac nc cl) (h0 : J [] W) :
    CallsIn Fence.wide n Tryd.prog 78 #[.func (.yield lp) #[] #[], .pointer (some ⟨Bt, 0, none⟩), .pointer (some ⟨Bc, 0, none⟩)] W fun e W' => (∃ v, e = .returned v) ∧
      ((∃ ys, ys = runsOf cl text ∧ J ys W') ∨ (∃ pre, pre <+: runsOf cl text ∧ Jx pre W')) := by
  have HT := Lib.hid ht
  have HY := Lib.hid hY
  have HJ := Lib.hid hJ
  have HSS := Lib.hid hs
  have HN := Lib.hid (ht W (Below.refl _ _)).2.2.1.1
  obtain ⟨ct0, cc0, hI0, hS0⟩ := ht W (Below.refl _ _)
  clear ht hY hJ hs hI0 hS0
  refine callsIn_of_wp Tryd.func78 rfl trivial ?_ rfl
  simp only [Tryd.ntmps78, List.size_toArray, List.length_cons, List.length_nil, Nat.reduceAdd, Nat.reduceSub, Array.replicate_succ, Array.replicate_zero, List.push_toArray, List.append_toArray, List.nil_append, List.cons_append]
  gi_wp2
  gi_loopw [4, 10] (fun s i wr => ∃ (k : Nat) (st : Option Nat) (pre : List Rng), k ≤ nt ∧ i = .int .i64 k ∧ s = .int .i64 (stI st) ∧ runsOf cl text = pre ++ runsFrom (classOf cl) k st (text.drop k) ∧ J pre wr ∧ Below n₀ W wr) (fun _ i _ => nt - (intOf i).toNat)
  case atStart => exact ⟨0, none, [], Nat.zero_le _, rfl, rfl, rfl, h0, Below.refl _ _⟩
  case round =>
    obtain ⟨k, st, pre, hk, rfl, rfl, hpre, hJs, hB⟩ := hrel
    have HP := Lib.hid hpre
    clear hpre
    obtain ⟨ct1, cc1, hI1, hS1⟩ := HT.out wr hB
    have HI := Lib.hid hI1
    have HS := Lib.hid hS1
    clear hI1 hS1
    by_cases hlt : k < nt
    · obtain ⟨b, off, x, rfl, hx, c0⟩ := int_at HI.out hlt
      have HX := Lib.hid hx
      clear hx
      by_cases hcls : classOf cl x = 0
      · have hb : (classOf cl x == 0) = true := by simpa using hcls
        have HC := Lib.hid hcls
        clear hcls
        cases st with
        | none =>
          rw [show stI none = -1 from rfl]
          gi_wp2_with (refine ⟨trivial, ?_⟩; gi_at_call 71; refine (callsIn_wide.2 (class_any _ _ _ _ _ _ (by omega) HS.out HSS.out)).mono ?_; rintro e w' ⟨rfl, hk2⟩)
          go_roundw
          case rel => exact ⟨k + 1, none, pre, by omega, by go_num, rfl, by rw [HP.out, drop_some HX.out, runsFrom, if_pos HC.out], Abides.kept HJ.out hJs hk2, hB.trans (hk2.mono (Nat.le_trans hn0 hB.size))⟩
          case measure => simp [intOf]; omega
        | some s =>
          rw [show stI (some s) = (s : Int) from rfl]
          have hpre : runsOf cl text = pre ++ (⟨s, k⟩ :: runsFrom (classOf cl) (k + 1) none (text.drop (k + 1))) := by
            rw [HP.out, drop_some HX.out, runsFrom, if_pos HC.out]
          have HP2 := Lib.hid hpre
          clear hpre
          gi_wp2_with (refine ⟨trivial, ?_⟩; gi_at_call 71; refine (callsIn_wide.2 (class_any _ _ _ _ _ _ (by omega) HS.out HSS.out)).mono ?_; rintro e w' ⟨rfl, hk2⟩; obtain ⟨fn, tmps, assign, body, hy, hR⟩ := HY.out pre ⟨s, k⟩ w' (Abides.kept HJ.out hJs hk2) (by rw [HP2.out]; simp); dsimp only [encsR] at hy)
          refine hR.mono ?_
          rintro e W3 (⟨rfl, hJ3, hk3⟩ | ⟨rfl, hJx3⟩)
          · gi_wp2
            go_roundw
            case rel => exact ⟨k + 1, none, pre ++ [⟨s, k⟩], by omega, by go_num, rfl, by rw [HP2.out]; simp, hJ3, (hB.trans (hk2.mono (Nat.le_trans hn0 hB.size))).trans hk3⟩
            case measure => simp [intOf]; omega
          · gi_wp2
            refine bodyPost_ret (results_none rfl _ _ _) rfl ?_
            exact ⟨⟨_, rfl⟩, .inr ⟨pre ++ [⟨s, k⟩], ⟨runsFrom (classOf cl) (k + 1) none (text.drop (k + 1)), by rw [HP2.out]; simp⟩, hJx3⟩⟩
      · have hb : (classOf cl x == 0) = false := by simpa using hcls
        have HC := Lib.hid hcls
        clear hcls
        cases st with
        | none =>
          rw [show stI none = -1 from rfl]
          gi_wp2_with (refine ⟨trivial, ?_⟩; gi_at_call 71; refine (callsIn_wide.2 (class_any _ _ _ _ _ _ (by omega) HS.out HSS.out)).mono ?_; rintro e w' ⟨rfl, hk2⟩)
          go_roundw
          case rel => exact ⟨k + 1, some k, pre, by omega, by go_num, rfl, by rw [HP.out, drop_some HX.out, runsFrom, if_neg HC.out], Abides.kept HJ.out hJs hk2, hB.trans (hk2.mono (Nat.le_trans hn0 hB.size))⟩
          case measure => simp [intOf]; omega
        | some s =>
          rw [show stI (some s) = (s : Int) from rfl]
          gi_wp2_with (refine ⟨trivial, ?_⟩; gi_at_call 71; refine (callsIn_wide.2 (class_any _ _ _ _ _ _ (by omega) HS.out HSS.out)).mono ?_; rintro e w' ⟨rfl, hk2⟩)
          go_roundw
          case rel => exact ⟨k + 1, some s, pre, by omega, by go_num, rfl, by rw [HP.out, drop_some HX.out, runsFrom, if_neg HC.out], Abides.kept HJ.out hJs hk2, hB.trans (hk2.mono (Nat.le_trans hn0 hB.size))⟩
          case measure => simp [intOf]; omega
    · have hd : text.drop k = [] := List.drop_of_length_le (by have := HN.out; omega)
      have hkl : k = nt := by omega
      cases st with
      | none =>
        have hpre : runsOf cl text = pre := by rw [HP.out, hd]; simp [runsFrom]
        have HP2 := Lib.hid hpre
        clear hpre hd
        rw [show stI none = -1 from rfl]
        subst hkl
        gi_wp2
        go_end0
        exact ⟨⟨_, rfl⟩, .inl ⟨pre, HP2.out.symm, hJs⟩⟩
      | some s =>
        have hpre : runsOf cl text = pre ++ [⟨s, k⟩] := by rw [HP.out, hd]; simp [runsFrom]
        have HP2 := Lib.hid hpre
        clear hpre hd
        rw [show stI (some s) = (s : Int) from rfl]
        subst hkl
        obtain ⟨fn, tmps, assign, body, hy, hR⟩ := HY.out pre ⟨s, k⟩ wr hJs (by rw [HP2.out]; simp)
        dsimp only [encsR] at hy
        gi_wp2
        refine hR.mono ?_
        rintro e W3 (⟨rfl, hJ3, hk3⟩ | ⟨rfl, hJx3⟩)
        · gi_wp2
          go_end0
          exact ⟨⟨_, rfl⟩, .inl ⟨_, HP2.out.symm, hJ3⟩⟩
        · gi_wp2
          go_end0
          exact ⟨⟨_, rfl⟩, .inr ⟨pre ++ [⟨s, k⟩], ⟨[], by rw [HP2.out]; simp⟩, hJx3⟩⟩
end Go.Proofs.YtobcaploncgnbaaDoor
