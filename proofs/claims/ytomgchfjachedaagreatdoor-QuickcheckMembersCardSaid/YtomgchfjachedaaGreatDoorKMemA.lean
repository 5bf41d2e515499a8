/- quickcheck.members: the iterator over the elements of a set. -/
import Derived.Test.YtomgchfjachedaaGreatDoorKBase
import Derived.Test.YtomgchfjachedaaGreatDoorKQcc
import Derived.Test.YtomgchfjachedaaGreatDoorKQpl
namespace Go.Proofs.YtomgchfjachedaaGreatDoor
open Go Go.RowKit Go.Shelf
attribute [local go_sem] Oper.semAt_some
theorem block_lt_ {w : World} {b : Nat} {o : Obj} (h : w.heap[b]? = some o) : b < w.heap.size := (Array.getElem?_eq_some_iff.1 h).1
theorem memsL_take {R : List Rng} {k : Nat} {r : Rng} (h : R[k]? = some r) : memsL (R.take (k + 1)) = memsL (R.take k) ++ rngL r.lo (r.hi - r.lo + 1).toNat := by
  unfold memsL
  rw [take_succ_some h, List.flatMap_append]
  simp
theorem rngL_pre (lo : Int) : ∀ {a b : Nat}, a ≤ b → ∃ t, rngL lo b = rngL lo a ++ t
  | a, 0, h => ⟨[], by rw [show a = 0 by omega]; rfl⟩
  | a, b + 1, h => by
    rcases Nat.lt_or_eq_of_le h with h1 | h1
    · obtain ⟨t, ht⟩ := rngL_pre lo (show a ≤ b by omega)
      exact ⟨t ++ [lo + b], by rw [rngL, ht, List.append_assoc]⟩
    · exact ⟨[], by rw [h1, List.append_nil]⟩
theorem memsL_pre {R : List Rng} {k : Nat} {r : Rng} (h : R[k]? = some r) {a : Nat} (ha : a ≤ (r.hi - r.lo + 1).toNat) : ∃ t, memsL R = (memsL (R.take k) ++ rngL r.lo a) ++ t := by
  obtain ⟨t, ht⟩ := rngL_pre r.lo ha
  refine ⟨t ++ memsL (R.drop (k + 1)), ?_⟩
  have : R = R.take k ++ r :: R.drop (k + 1) := by rw [← drop_some h, List.take_append_drop]
  rw [show memsL R = memsL (R.take k) ++ memsL (r :: R.drop (k + 1)) by unfold memsL; rw [← List.flatMap_append, ← this], memsL_cons, ht]
  simp
def KeepsR (W W' : World) : Prop := ∀ (i : Nat) (cs : Array Value) (f : Nat × Nat), W.heap[i]? = some (.cells cs 81 f) → W'.heap[i]? = some (.cells cs 81 f)
def BWR (n₀ : Nat) (A B : World) : Prop := BW n₀ A B ∧ KeepsR A B
theorem BWR.t {n₀ : Nat} {A B C : World} (h : BWR n₀ A B) (k : BWR n₀ B C) : BWR n₀ A C := ⟨h.1.t k.1, fun i cs f hi => k.2 i cs f (h.2 i cs f hi)⟩
theorem bwr_b {n₀ : Nat} {w : World} (hn : n₀ ≤ w.heap.size) (W : World) (l : Nat) (o o' : Obj) (hl : w.heap.size ≤ l) (h : W.heap[l]? = some o) (hc : o.isCells = false) (hw : o.isWalk = false) : BWR n₀ W (W.putObj l o') := by
  refine ⟨bw_b hn W l o o' hl h hc hw, fun k cs f hx => ?_⟩
  by_cases hk : k = l
  · subst hk
    rw [h] at hx
    injection hx with hx
    subst hx
    cases hc
  · rw [← hx]
    simp only [World.putObj]
    rw [Array.getElem?_setIfInBounds, if_neg (fun e => hk e.symm)]
def YieldsR {α : Type} (gf : Nat) (lb : Array Value) (encs : α → Array Value) (n₀ : Nat) (xs : List α) (w : World) : Prop :=
  ∀ n, 1 ≤ n → SeqStopsK Fence.wide n Tryz.prog gf lb encs (BWR n₀) (fun ys => ys = xs) (fun pre => pre <+: xs) xs.length w
theorem int_rng_ne : (3 : TypeId) ≠ 81 := by decide
theorem ints_rng_ne : (40 : TypeId) ≠ 81 := by decide
theorem keepsR_app {W w1 : World} {n₀ B : Nat} {v v' : Value} {k : Nat} {xs : List Value} {tmp : Obj} (hrow : W.ownsRow n₀ 3 1 v k xs) (hgrow : (W.alloc tmp).grownBy w1 v.ownBlock) (hv : Boxed w1 B 40 v) : KeepsR W (w1.setCell ⟨B, 0, none⟩ v') := by
  intro i cs f hi
  have h1 : w1.heap[i]? = some (.cells cs 81 f) := by
    refine (hgrow.block i (by have := block_lt_ hi; simp; omega) (fun e => ?_)).trans ((Below.heap_alloc _ _ _ (block_lt_ hi)).trans hi)
    rcases hrow.2 with ⟨rfl, _⟩ | ⟨g, cap, cur, rfl, _, hgb, _⟩
    · cases e
    · simp only [Value.ownBlock, Option.some.injEq] at e
      subst e
      rw [hgb] at hi
      injection hi with hi
      injection hi with _ hi _
      exact absurd hi int_rng_ne
  refine (Below.heap_setCell w1 ⟨B, 0, none⟩ v' i (fun e => ?_)).trans h1
  simp only at e
  subst e
  have := hv
  unfold Boxed at this
  rw [h1] at this
  injection this with this
  injection this with _ this _
  exact absurd this.symm ints_rng_ne
set_option maxRecDepth 100000 in
set_option maxHeartbeats 2000000 in
theorem collect_intR (gf : Nat) (lb : Array Value) (xs : List Int) (w : World) (hx : xs.length ≤ 100000000) (eg : ∀ args w, (callFunc gf args).run Tryz.prog w = .ok (.enter gf args) w) (hY : YieldsR gf lb encsI w.heap.size xs w) :
    Calls Tryz.prog 40 #[.func (.func gf) #[] lb] w (RetInts w xs) := by
  refine (callsIn_wide (n := 5)).1 ?_
  obtain ⟨i0, hi, hz0, hz1, hz2⟩ := info_parts_int
  refine callsIn_of_wp_marks Tryz.func40 rfl trivial ?_ rfl
  simp only [Tryz.ntmps40, List.size_toArray, List.length_cons, List.length_nil, Nat.reduceAdd, Nat.reduceSub, Array.replicate_succ, Array.replicate_zero, List.push_toArray, List.append_toArray, List.nil_append, List.cons_append]
  gi_wp2
  have bS := Boxed.new w 40 (.slice none 0 0)
  have hB0 : Below w.heap.size w (w.alloc (.cells #[.slice none 0 0] 40)) := (Below.refl _ w).alloc (Nat.le_refl _) _
  have hsz : (w.alloc (.cells #[.slice none 0 0] 40)).heap.size = w.heap.size + 1 := by simp
  obtain ⟨W0, hW0⟩ : ∃ W0, w.alloc (.cells #[.slice none 0 0] 40) = W0 := ⟨_, rfl⟩
  rw [hW0] at bS hB0 hsz ⊢
  clear hW0
  refine wpIn_rangeFunc_ownH rfl (by omega) (gf := gf) (lb := lb) rfl trivial eg (hY (5 - 1) (by omega)) BWR.t (bwr_b (by omega)) hB0 (fun _ => rfl)
    (fun pre W => (∃ v, Boxed W w.heap.size 40 v ∧ W.ownsRow w.heap.size 3 1 v pre.length (pre.flatMap encI) ∧ True) ∧ Below w.heap.size w W)
    (fun _ _ _ => False)
    (OwnFrom.and (Own.from (holdsRow_own w.heap.size w.heap.size 40 3 1 (fun pre : List Int => pre.length) (fun pre => pre.flatMap encI) (fun _ _ => True)) _) (ownFrom_below (Nat.le_refl _) (by omega)))
    (fun _ _ _ _ _ hs _ _ => hs)
    ⟨⟨_, bS, World.ownsRow_nil _ _ _ _, trivial⟩, hB0⟩
    (fun x a' _ => a' = { tmps := #[.func (.func gf) #[] lb, undef, .slice none 0 0, .pointer (some ⟨w.heap.size, 0, none⟩), .int .i64 x, .func (.func gf) #[] lb, .int .i64 x, undef, undef, undef, undef, undef], defers := [] })
    (fun x a' _ X Y row hs hg hr => hs)
    ?assign ?body ?done ?stop
  case assign =>
    rintro l pre x W K hI hK
    dsimp only [encsI]
    gi_wp2
    exact hK _ _ ((KeepsOthers.refl _).from _) ⟨⟨Below.refl _ _, KeepsWalks.refl _⟩, fun _ _ _ h => h⟩ hI rfl
  case body =>
    rintro l pre x a' W hl _ ⟨⟨v, bS1, hr1, _⟩, hB1⟩ rfl hlt
    have hc := bS1.cell
    gi_wp2_with (gi_at_builtin; refine wpListIn_append_own _ rfl _ _ 40 rfl w.heap.size 3 i0 (.int .i64 0) 1 8 Tryz.underlying40 hi hz0 hz1 hz2 rfl (by decide) _ _ _ rfl (hr1.alloc _) ⟨W.heap.size, 0, none⟩ 1 1 [.int .i64 x] rfl rfl (cell_one_at rfl) (by simp [Value.oneCell']) (by unfold maxLen; omega) (by omega) (by have := hB1.size; simp; omega) ?_; intro v' w1 hown' hgrow _; obtain ⟨g', cap', rfl⟩ := ownsRow_succ hown'; obtain ⟨hv1, hv2, hr2, hk2, hb2⟩ := bS1.appended (by decide) hr1 hB1.size (Nat.le_refl _) hown' hgrow; have hkr := keepsR_app (v' := .slice (some ⟨g', 0, none⟩) (pre.length + 1) cap') hr1 hgrow hv1; have hc1 := hv1.cell; have hf1 := hv1.frozen)
    exact ⟨hk2.from _, ⟨⟨hb2, hk2.size, fun k o h hw => hk2.same k o h (Obj.not_cells_of_walk hw)⟩, hkr⟩, ⟨_, hv2, by simpa [encI] using hr2, trivial⟩, hB1.trans hb2⟩
  case done =>
    rintro D ys W hD rfl ⟨⟨v, hv, hrow, _⟩, hB⟩ hK
    have hc := hv.cell
    gi_wp2
    refine ⟨by simp, .inl ⟨_, _, rfl, run_takeDeferred hK, ?_⟩⟩
    obtain ⟨A, c, rfl, hle, hsl⟩ := Sl.of_own (k := 1) (enc := encI) (fun _ => rfl) (ownsRow_putObj hrow (.deferred none) hK rfl)
    exact ⟨_, results_tmp rfl _ _ _, A, _, c, rfl, hle, hsl, hB.trans (belowK_b (w := w) (Nat.le_refl _) W D _ _ (by omega) hK rfl rfl)⟩
  case stop =>
    rintro D c pre W _ _ h _
    exact h.elim
set_option maxRecDepth 100000 in
set_option maxHeartbeats 4000000 in
theorem members1_in (n : Nat) (_hn1 : 1 ≤ n) (n₀ lp Bs BJ : Nat) (As : Option Addr) (m c : Nat) (R : List Rng) (hm : m ≤ 100000) (hR : ∀ r ∈ R, 0 ≤ r.lo ∧ r.lo ≤ r.hi ∧ r.hi ≤ 1114111)
    (J Jx : List Int → World → Prop) (hJ : AbidesFrom BJ J)
    (hY : ∀ pre x W, J pre W → (∃ t, memsL R = pre ++ x :: t) → YieldAt Fence.wide (n - 1) Tryz.prog lp (encsI x) W fun e W' =>
      (e = .returned (.bool true) ∧ J (pre ++ [x]) W' ∧ BWR n₀ W W') ∨ (e = .returned (.bool false) ∧ Jx (pre ++ [x]) W'))
    (W : World) (hn0 : n₀ ≤ W.heap.size) (hs : ∀ W', Below n₀ W W' → W'.cell? ⟨Bs, 0, none⟩ = some (.slice As m c) ∧ Rngs W' As m R) (h0 : J [] W) :
    CallsIn Fence.wide n Tryz.prog 68 #[.func (.yield lp) #[] #[], .pointer (some ⟨Bs, 0, none⟩)] W fun e W' => (∃ v, e = .returned v) ∧
      ((∃ ys, ys = memsL R ∧ J ys W') ∨ (∃ pre, pre <+: memsL R ∧ Jx pre W')) := by
  have HT := Lib.hid hs
  have HY := Lib.hid hY
  have HJ := Lib.hid hJ
  have HRR := Lib.hid hR
  have HN := Lib.hid (hs W (Below.refl _ _)).2.1
  obtain ⟨ct0, _⟩ := hs W (Below.refl _ _)
  clear hs hY hJ hR
  refine callsIn_of_wp Tryz.func68 rfl trivial ?_ rfl
  simp only [Tryz.ntmps68, List.size_toArray, List.length_cons, List.length_nil, Nat.reduceAdd, Nat.reduceSub, Array.replicate_succ, Array.replicate_zero, List.push_toArray, List.append_toArray, List.nil_append, List.cons_append]
  gi_wp2
  gi_loopw [9] (fun i wr => ∃ (k : Nat), k ≤ m ∧ i = .int .i64 k ∧ J (memsL (R.take k)) wr ∧ Below n₀ W wr) (fun i _ => m - (intOf i).toNat)
  case atStart => exact ⟨0, Nat.zero_le _, rfl, h0, Below.refl _ _⟩
  case round =>
    obtain ⟨k, hk, rfl, hJs, hB⟩ := hrel
    have HJS := Lib.hid hJs
    have HB := Lib.hid hB
    clear hJs hB
    by_cases hlt : k < m
    · obtain ⟨b, off, r, hA, hr, d0, d1⟩ := rng_at (HT.out wr HB.out).2 hlt
      rw [hA]
      have HR := Lib.hid hr
      have hg := HRR.out r (mem_of_getElem?_some hr)
      obtain ⟨hg1, hg2, hg3⟩ := hg
      obtain ⟨Bm, hBm⟩ : ∃ Bm : Nat, Bm = wr.heap.size := ⟨_, rfl⟩
      have hnb : n₀ ≤ Bm := by have := HB.out.size; omega
      have HB4 := Lib.hid (show Below n₀ W (wr.alloc (.cells #[.int .i64 r.lo, .int .i64 r.hi] 81)) from HB.out.alloc (by omega) _)
      have HJ4 := Lib.hid (Abides.kept HJ.out HJS.out (Kept.alloc (Kept.refl wr) (.cells #[.int .i64 r.lo, .int .i64 r.hi] 81)))
      have HBX := Lib.hid (show (wr.alloc (.cells #[.int .i64 r.lo, .int .i64 r.hi] 81)).heap[Bm]? = some (.cells #[.int .i64 r.lo, .int .i64 r.hi] 81 (0, 0)) from alloc_at hBm)
      have q0 := cell_of_block (i := 0) HBX.out rfl
      have q1 := cell_of_block (i := 1) HBX.out rfl
      simp only [s4_, s5_, s6_] at q0 q1
      rw [hBm] at q0 q1
      gi_wp2
      rw [← hBm]
      clear hBm q0 q1 d0 d1
      gi_loopw [5] (fun cv ws => ∃ (a : Nat), a ≤ (r.hi - r.lo + 1).toNat ∧ cv = .int .i64 (r.lo + a) ∧ J (memsL (R.take k) ++ rngL r.lo a) ws ∧ Below n₀ W ws ∧ ws.heap[Bm]? = some (.cells #[.int .i64 r.lo, .int .i64 r.hi] 81 (0, 0))) (fun cv _ => (r.hi + 1 - intOf cv).toNat)
      case atStart => exact ⟨0, Nat.zero_le _, by simp, by simpa [rngL] using HJ4.out, HB4.out, HBX.out⟩
      case round =>
        obtain ⟨a, ha, rfl, hJa, hBa, hX⟩ := hrel
        have HJA := Lib.hid hJa
        have HBA := Lib.hid hBa
        have HX := Lib.hid hX
        have q0 := cell_of_block (i := 0) hX rfl
        have q1 := cell_of_block (i := 1) hX rfl
        simp only [s4_, s5_, s6_] at q0 q1
        clear hJa hBa hX
        by_cases hlt2 : r.lo + a ≤ r.hi
        · have HP := Lib.hid (show ∃ t, memsL R = (memsL (R.take k) ++ rngL r.lo a) ++ (r.lo + a) :: t by
            obtain ⟨t, ht⟩ := memsL_pre HR.out (a := a + 1) (by omega)
            exact ⟨t, by rw [ht, rngL]; simp⟩)
          obtain ⟨fn, tmps, assign, body, hy, hRR⟩ := HY.out _ (r.lo + a) wr HJA.out HP.out
          dsimp only [encsI] at hy
          gi_wp2
          refine hRR.mono ?_
          rintro e W3 (⟨rfl, hJ3, hk3⟩ | ⟨rfl, hJx3⟩)
          · have HJ5 := Lib.hid (show J (memsL (R.take k) ++ rngL r.lo (a + 1)) W3 by rw [rngL, ← List.append_assoc]; exact hJ3)
            have HB5 := Lib.hid (HBA.out.trans hk3.1.1)
            have HX5 := Lib.hid (hk3.2 _ _ _ HX.out)
            have hw : IntKind.i64.wrap (r.lo + a + 1) = r.lo + a + 1 := IntWalk.i64_in _ (by omega)
            have hw2 : wrap64 (r.lo + a + 1) = r.lo + a + 1 := IntWalk.wrap64_in _ (by omega)
            clear hJ3 hk3 q0 q1
            gi_wp2
            go_roundw
            case rel => exact ⟨a + 1, by omega, by congr 1; omega, HJ5.out, HB5.out, HX5.out⟩
            case measure => simp [intOf]; omega
          · gi_wp2
            refine bodyPost_ret (results_none rfl _ _ _) rfl ?_
            obtain ⟨t, ht⟩ := HP.out
            exact ⟨⟨_, rfl⟩, .inr ⟨_, ⟨t, by rw [ht]; simp⟩, hJx3⟩⟩
        · have HAN := Lib.hid (show a = (r.hi - r.lo + 1).toNat by omega)
          have HTK := Lib.hid (memsL_take HR.out)
          gi_wp2
          go_roundw
          case rel => exact ⟨k + 1, by omega, by go_num, by rw [HTK.out, ← HAN.out]; exact HJA.out, HBA.out⟩
          case measure => simp [intOf]; omega
    · have hkl : k = m := by omega
      have HA := Lib.hid (show R.take k = R from List.take_of_length_le (by have := HN.out; omega))
      subst hkl
      gi_wp2
      go_end0
      exact ⟨⟨_, rfl⟩, .inl ⟨_, rfl, by have := HJS.out; rw [HA.out] at this; exact this⟩⟩
theorem members_any (As : Option Addr) (m c : Nat) (w : World) :
    Calls Tryz.prog 41 #[.agg #[.slice As m c]] w fun e w' => e = .returned (.func (.func 68) #[] #[.pointer (some ⟨w.heap.size, 0, none⟩)]) ∧ w' = w.alloc (.cells #[.slice As m c] 26) := by
  go_enter Tryz.func41, Tryz.ntmps41
  go_wp2
  go_ret
  exact ⟨rfl, rfl⟩
theorem members_yields (As : Option Addr) (m c : Nat) (R : List Rng) (w : World) (hm : m ≤ 100000) (hR : ∀ r ∈ R, 0 ≤ r.lo ∧ r.lo ≤ r.hi ∧ r.hi ≤ 1114111) (hs : Rngs w As m R) :
    YieldsR 68 #[.pointer (some ⟨w.heap.size, 0, none⟩)] encsI (w.heap.size + 1) (memsL R) (w.alloc (.cells #[.slice As m c] 26)) := by
  intro n hn l J Jx W hW hJ hJx hY h0
  have hsz : (w.alloc (.cells #[.slice As m c] 26)).heap.size = w.heap.size + 1 := by simp
  rw [hsz] at hW
  have b1 := box_cell w #[.slice As m c] 26 0
  have hk0 : Kept w (w.alloc (.cells #[.slice As m c] 26)) := Kept.alloc (Kept.refl _) _
  have hws : w.heap.size + 1 ≤ W.heap.size := by have := hW.size; simpa [hsz] using this
  exact members1_in n hn (w.heap.size + 1) l w.heap.size W.heap.size As m c R hm hR J Jx hJ (fun pre x W1 h1 h2 => hY pre x W1 h1 (by obtain ⟨t, ht⟩ := h2; rw [ht]; simp)) W hws
    (fun W' hW' => by
      have hk : Below (w.heap.size + 1) (w.alloc (.cells #[.slice As m c] 26)) W' := hW.trans hW'
      rw [← hsz] at hk
      exact ⟨Kept.cell hk b1, hs.kept (Kept.trans hk0 hk)⟩) h0
theorem mems_any (As : Option Addr) (m c : Nat) (R : List Rng) (w : World) (hm : m ≤ 100000) (hl : (memsL R).length ≤ 100000000) (hR : ∀ r ∈ R, 0 ≤ r.lo ∧ r.lo ≤ r.hi ∧ r.hi ≤ 1114111) (hs : Rngs w As m R) :
    ∃ w1, Calls Tryz.prog 41 #[.agg #[.slice As m c]] w (fun e w' => e = .returned (.func (.func 68) #[] #[.pointer (some ⟨w.heap.size, 0, none⟩)]) ∧ w' = w1) ∧ Kept w w1 ∧
      Calls Tryz.prog 40 #[.func (.func 68) #[] #[.pointer (some ⟨w.heap.size, 0, none⟩)]] w1 (RetInts w1 (memsL R)) := by
  refine ⟨_, members_any As m c w, Kept.alloc (Kept.refl _) _, ?_⟩
  refine collect_intR _ _ _ _ hl (enters_of Tryz.func68 (by kernel_rfl) rfl) ?_
  have := members_yields As m c R w hm hR hs
  rw [World.size_alloc]
  exact this
end Go.Proofs.YtomgchfjachedaaGreatDoor
