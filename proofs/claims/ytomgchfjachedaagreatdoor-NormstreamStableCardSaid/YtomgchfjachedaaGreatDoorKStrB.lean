/- normstream.copied: the data copied into new blocks. -/
import Derived.Deep.RegionHeld3
import Derived.Test.YtomgchfjachedaaGreatDoorKSq
import Derived.Test.YtomgchfjachedaaGreatDoorKPl60
import Derived.Test.YtomgchfjachedaaGreatDoorKExpC
namespace Go.Proofs.YtomgchfjachedaaGreatDoor
open Go Go.RowKit
theorem own_formS {w : World} {base : Nat} {e : TypeId} {size n : Nat} {v : Value} {xs : List Value} (h : w.ownsRow base e size v n xs) : ∃ A c, v = .slice A n c ∧ n ≤ c ∧ (∀ a, A = some a → base ≤ a.block ∧ v.ownBlock = some a.block) := by
  rcases h.2 with ⟨rfl, h0⟩ | ⟨g, cap, cur, rfl, hb, _, hc, _⟩
  · exact ⟨none, 0, by rw [h0], by omega, fun a ha => by cases ha⟩
  · exact ⟨some ⟨g, 0, none⟩, cap, rfl, hc, fun a ha => by injection ha with ha; subst ha; exact ⟨hb, rfl⟩⟩
theorem own_low {w : World} {b b' : Nat} {e : TypeId} {s : Nat} {v : Value} {n : Nat} {xs : List Value} (h : w.ownsRow b e s v n xs) (hb : b' ≤ b) : w.ownsRow b' e s v n xs :=
  ⟨h.1, by
    rcases h.2 with h0 | ⟨g, cap, cur, e1, h1, rest⟩
    · exact .inl h0
    · exact .inr ⟨g, cap, cur, e1, Nat.le_trans hb h1, rest⟩⟩
theorem own_box_ne {w : World} {b bo : Nat} {e t : TypeId} {s n : Nat} {v : Value} {xs : List Value} {cs : Array Value} (h : w.ownsRow b e s v n xs) (hb : w.heap[bo]? = some (.cells cs t (0, 0))) (hne : e ≠ t) : ∀ g, v.ownBlock = some g → g ∉ [bo] := by
  intro g hg hm
  simp only [List.mem_cons, List.not_mem_nil, or_false] at hm
  subst hm
  rcases h.2 with ⟨rfl, _⟩ | ⟨g', cap, cur, rfl, _, hgg, _⟩
  · cases hg
  · simp only [Value.ownBlock, Option.some.injEq] at hg
    subst hg
    rw [hb] at hgg
    injection hgg with hgg
    injection hgg with _ hgg _
    exact hne hgg.symm
theorem cells3_setN {w : World} {b : Nat} {u0 u1 u2 : Value} {t : TypeId} (h : w.heap[b]? = some (.cells #[u0, u1, u2] t (0, 0))) (v0 v1 v2 : Value) :
    (((w.setCell ⟨b, 0, none⟩ v0).setCell ⟨b, 1, none⟩ v1).setCell ⟨b, 2, none⟩ v2).heap[b]? = some (.cells #[v0, v1, v2] t (0, 0)) := by
  simp [World.setCell, Array.getElem?_modify, h]
theorem cells3_mid {w : World} {b : Nat} {u0 u1 u2 : Value} {t : TypeId} (h : w.heap[b]? = some (.cells #[u0, u1, u2] t (0, 0))) (v0 v1 : Value) :
    (w.setCell ⟨b, 0, none⟩ v0).heap[b]? = some (.cells #[v0, u1, u2] t (0, 0)) ∧ ((w.setCell ⟨b, 0, none⟩ v0).setCell ⟨b, 1, none⟩ v1).heap[b]? = some (.cells #[v0, v1, u2] t (0, 0)) := by
  constructor <;> simp [World.setCell, Array.getElem?_modify, h]
theorem sl_raw {α : Type} {k : Nat} {enc : α → List Value} (hk : ∀ x, (enc x).length = k) (hk0 : 0 < k) {w : World} {A : Option Addr} {n : Nat} {xs : List α} (h : Sl k enc w A n xs) :
    (xs.flatMap enc).length = n * k ∧ (A = none → n = 0) ∧ ∀ p, A = some p → ∀ (j : Nat) (u : Value), (xs.flatMap enc)[j]? = some u → w.cell? (p.add j) = some u := by
  refine ⟨by rw [flat_length hk, ← h.1], fun hA => ?_, fun p hp j u hu => ?_⟩
  · rcases Nat.eq_zero_or_pos n with h0 | h0
    · exact h0
    · obtain ⟨b, off, e, _⟩ := h.2 h0; rw [hA] at e; cases e
  · have hj : j < xs.length * k := by have := lt_of_getElem?_some hu; rwa [flat_length hk] at this
    obtain ⟨x, hx⟩ := getElem?_some_of_lt (l := xs) (k := j / k) (by rw [Nat.div_lt_iff_lt_mul hk0]; exact hj)
    obtain ⟨v, hv⟩ : ∃ v, (enc x)[j % k]? = some v := getElem?_some_of_lt (by rw [hk]; exact Nat.mod_lt _ hk0)
    have hf := flat_get hk xs (j / k) (j % k) x v hx hv
    have hdm : j / k * k + j % k = j := Nat.div_add_mod' j k
    rw [hdm, hu] at hf
    injection hf with hf
    subst hf
    obtain ⟨b, off, e, hc⟩ := h.2 (by rw [h.1]; exact Nat.lt_of_le_of_lt (Nat.zero_le _) (lt_of_getElem?_some hx))
    rw [e] at hp
    injection hp with hp
    subst hp
    have ha : (⟨b, off, none⟩ : Addr).add j = ⟨b, off + j, none⟩ := by unfold Addr.add; split <;> simp_all
    rw [ha, show off + j = off + j / k * k + j % k by rw [Nat.add_assoc, hdm]]
    exact hc _ x hx _ u hv
def MpC (w : World) (B0 g k : Nat) (l : List Mp) (cs : List Value) : Prop := ∀ i m, l[i]? = some m → ∃ A' n' c', n' ≤ c' ∧ Ints w A' n' m.to ∧ (0 < n' → ∀ a, A' = some a → a.block ≠ g) ∧ (i < k → FarA B0 A') ∧
  cs[i * 3]? = some (.int .i64 m.src) ∧ cs[i * 3 + 1]? = some (.slice A' n' c') ∧ cs[i * 3 + 2]? = some (.string m.tag)
theorem mps_raw {w : World} {A : Option Addr} {n : Nat} {l : List Mp} (h : Mps w A n l) : ∃ cs : List Value, cs.length = n * 3 ∧ (A = none → n = 0) ∧ (∀ u ∈ cs, u.oneCell' = true) ∧ (∀ p, A = some p → ∀ (j : Nat) (u : Value), cs[j]? = some u → w.cell? (p.add j) = some u) ∧
    ∀ i m, l[i]? = some m → ∃ A' n' c', n' ≤ c' ∧ Ints w A' n' m.to ∧ cs[i * 3]? = some (.int .i64 m.src) ∧ cs[i * 3 + 1]? = some (.slice A' n' c') ∧ cs[i * 3 + 2]? = some (.string m.tag) := by
  rcases Nat.eq_zero_or_pos n with h0 | h0
  · subst h0
    have hl : l = [] := List.length_eq_zero_iff.1 h.1.symm
    subst hl
    exact ⟨[], rfl, fun _ => rfl, by simp, fun p _ j u hu => by simp at hu, fun i m hm => by simp at hm⟩
  · obtain ⟨b, off, e, hc⟩ := h.2 h0
    have key : ∀ k, k ≤ l.length → ∃ cs : List Value, cs.length = k * 3 ∧ (∀ u ∈ cs, u.oneCell' = true) ∧ (∀ (j : Nat) (u : Value), cs[j]? = some u → w.cell? ⟨b, off + j, none⟩ = some u) ∧
        ∀ i m, i < k → l[i]? = some m → ∃ A' n' c', n' ≤ c' ∧ Ints w A' n' m.to ∧ cs[i * 3]? = some (.int .i64 m.src) ∧ cs[i * 3 + 1]? = some (.slice A' n' c') ∧ cs[i * 3 + 2]? = some (.string m.tag) := by
      intro k
      induction k with
      | zero => intro _; exact ⟨[], rfl, by simp, fun j u hu => by simp at hu, fun i m hi => by omega⟩
      | succ k ih =>
        intro hk
        obtain ⟨cs, h1, h2, h3, h4⟩ := ih (by omega)
        obtain ⟨m, hm⟩ := getElem?_some_of_lt (l := l) (k := k) (by omega)
        obtain ⟨A', n', c', hle, hI, c0, c1, c2⟩ := hc k m hm
        refine ⟨cs ++ [.int .i64 m.src, .slice A' n' c', .string m.tag], by simp [h1]; omega, fun u hu => ?_, fun j u hu => ?_, fun i m' hi hm' => ?_⟩
        · rcases List.mem_append.1 hu with hu | hu
          · exact h2 u hu
          · simp only [List.mem_cons, List.not_mem_nil, or_false] at hu
            rcases hu with rfl | rfl | rfl <;> rfl
        · rcases Nat.lt_or_ge j cs.length with hj | hj
          · rw [List.getElem?_append_left hj] at hu; exact h3 j u hu
          · rw [List.getElem?_append_right hj] at hu
            obtain ⟨d, hd⟩ : ∃ d, j = cs.length + d := ⟨j - cs.length, by omega⟩
            subst hd
            rw [show cs.length + d - cs.length = d by omega] at hu
            rw [h1]
            match d, hu with
            | 0, hu => simp only [List.getElem?_cons_zero, Option.some.injEq] at hu; subst hu; simpa using c0
            | 1, hu => simp only [List.getElem?_cons_succ, List.getElem?_cons_zero, Option.some.injEq] at hu; subst hu; simpa [Nat.add_assoc] using c1
            | 2, hu => simp only [List.getElem?_cons_succ, List.getElem?_cons_zero, Option.some.injEq] at hu; subst hu; simpa [Nat.add_assoc] using c2
            | d + 3, hu => simp at hu
        · rcases Nat.lt_or_ge i k with hik | hik
          · obtain ⟨A1, n1, c1', g1, g2, g3, g4, g5⟩ := h4 i m' hik hm'
            exact ⟨A1, n1, c1', g1, g2, by rw [List.getElem?_append_left (by omega)]; exact g3, by rw [List.getElem?_append_left (by omega)]; exact g4, by rw [List.getElem?_append_left (by omega)]; exact g5⟩
          · obtain rfl : i = k := by omega
            rw [hm] at hm'
            injection hm' with hm'
            subst hm'
            refine ⟨A', n', c', hle, hI, ?_, ?_, ?_⟩
            · rw [List.getElem?_append_right (by omega), show i * 3 - cs.length = 0 by omega]; rfl
            · rw [List.getElem?_append_right (by omega), show i * 3 + 1 - cs.length = 1 by omega]; rfl
            · rw [List.getElem?_append_right (by omega), show i * 3 + 2 - cs.length = 2 by omega]; rfl
    obtain ⟨cs, h1, h2, h3, h4⟩ := key l.length (Nat.le_refl _)
    refine ⟨cs, by rw [h1, ← h.1], (fun hA => by rw [hA] at e; cases e), h2, fun p hp j u hu => ?_, fun i m hm => h4 i m (lt_of_getElem?_some hm) hm⟩
    rw [e] at hp
    injection hp with hp
    subst hp
    have ha : (⟨b, off, none⟩ : Addr).add j = ⟨b, off + j, none⟩ := by unfold Addr.add; split <;> simp_all
    rw [ha]; exact h3 j u hu
theorem span_one : ∀ (l : List Span) (u : Value), u ∈ l.flatMap encS → u.oneCell' = true := fun l u hu => by
  obtain ⟨x, _, hx⟩ := List.mem_flatMap.1 hu
  simp only [encS, List.mem_cons, List.not_mem_nil, or_false] at hx
  rcases hx with rfl | rfl | rfl <;> rfl
theorem rng_one : ∀ (l : List Rng) (u : Value), u ∈ l.flatMap encR → u.oneCell' = true := fun l u hu => by
  obtain ⟨x, _, hx⟩ := List.mem_flatMap.1 hu
  simp only [encR, List.mem_cons, List.not_mem_nil, or_false] at hx
  rcases hx with rfl | rfl <;> rfl
theorem MpC.next {w w1 : World} {B0 g k : Nat} {l : List Mp} {cs : List Value} {m : Mp} {A9 : Option Addr} {n9 c9 : Nat} (h : MpC w B0 g k l cs) (hm : l[k]? = some m) (hlen : cs.length = l.length * 3) (hk : KeptBut [g] w w1) (h9 : n9 ≤ c9) (hI : Ints w1 A9 n9 m.to) (hg : ∀ a, A9 = some a → a.block ≠ g) (hf : FarA B0 A9) :
    MpC w1 B0 g (k + 1) l (cs.set (k * 3 + 1) (.slice A9 n9 c9)) := by
  have hkl := lt_of_getElem?_some hm
  intro i m' hm'
  by_cases hik : i = k
  · subst hik
    rw [hm] at hm'
    injection hm' with hm'
    subst hm'
    obtain ⟨A', n', c', g1, g2, g3, g4, g5, g6, g7⟩ := h i m hm
    refine ⟨A9, n9, c9, h9, hI, fun _ => hg, fun _ => hf, ?_, ?_, ?_⟩
    · rw [List.getElem?_set_ne (by omega)]; exact g5
    · rw [List.getElem?_set_self (by omega)]
    · rw [List.getElem?_set_ne (by omega)]; exact g7
  · obtain ⟨A', n', c', g1, g2, g3, g4, g5, g6, g7⟩ := h i m' hm'
    refine ⟨A', n', c', g1, ?_, g3, fun hi => g4 (by omega), ?_, ?_, ?_⟩
    · exact sl_butK g2 hk (fun p hp h0 => by simpa using g3 h0 p hp)
    · rw [List.getElem?_set_ne (by omega)]; exact g5
    · rw [List.getElem?_set_ne (by omega)]; exact g6
    · rw [List.getElem?_set_ne (by omega)]; exact g7
theorem own_sl {α : Type} {k : Nat} {enc : α → List Value} (hk : ∀ x, (enc x).length = k) {w : World} {base n c : Nat} {e : TypeId} {A : Option Addr} {xs : List α} (h : w.ownsRow base e k (.slice A n c) n (xs.flatMap enc)) (hn : n = xs.length) : Sl k enc w A n xs ∧ FarA base A := by
  subst hn
  obtain ⟨A', c', hv, _, hs⟩ := Sl.of_own hk h
  injection hv with e1
  subst e1
  refine ⟨hs, fun a ha => ?_⟩
  obtain ⟨A2, c2, hv2, _, h3⟩ := own_formS h
  injection hv2 with e2
  subst e2
  exact (h3 a ha).1
theorem own_neT {w : World} {b1 b2 : Nat} {e1 e2 : TypeId} {s1 s2 : Nat} {v1 v2 : Value} {n1 n2 g : Nat} {xs ys : List Value} (h1 : w.ownsRow b1 e1 s1 v1 n1 xs) (h2 : w.ownsRow b2 e2 s2 v2 n2 ys) (he : e1 ≠ e2) (hg2 : v2.ownBlock = some g) : ∀ g', v1.ownBlock = some g' → g' ∉ [g] := by
  intro g' hg hm
  simp only [List.mem_cons, List.not_mem_nil, or_false] at hm
  subst hm
  rcases own_ne h1 h2 he with h | h
  · rw [h] at hg; cases hg
  · exact h (hg.trans hg2.symm)
theorem mps_far {w : World} {B0 g n c : Nat} {A : Option Addr} {l : List Mp} {cs : List Value} {e : TypeId} (h : w.ownsRow B0 e 3 (.slice A n c) n cs) (hn : n = l.length) (_hlen : cs.length = n * 3) (hM : MpC w B0 g n l cs) : MpsFar B0 w A n l := by
  obtain ⟨A2, c2, hv2, _, h3⟩ := own_formS h
  injection hv2 with e2
  subst e2
  refine ⟨hn, fun a ha => (h3 a ha).1, fun h0 => ?_⟩
  obtain ⟨g', cap, cur, e', hb, hgg, hc, _⟩ : ∃ g' cap cur, Value.slice A n c = .slice (some ⟨g', 0, none⟩) n cap ∧ B0 ≤ g' ∧ w.heap[g']? = some (.cells cur e (0, 0)) ∧ n ≤ cap ∧ True := by
    rcases h.2 with ⟨_, h1⟩ | ⟨g', cap, cur, e', hb, hgg, hc, _⟩
    · omega
    · exact ⟨g', cap, cur, e', hb, hgg, hc, trivial⟩
  injection e' with e'' _ e3
  subst e'' e3
  refine ⟨g', 0, rfl, fun i m hm => ?_⟩
  have hi := lt_of_getElem?_some hm
  obtain ⟨A', n', c', g1, g2, _, g4, g5, g6, g7⟩ := hM i m hm
  have hca := fun j hj => World.ownsRow.cellAt h j hj
  refine ⟨A', n', c', g1, g4 (by omega), g2, ?_, ?_, ?_⟩
  · rw [Nat.zero_add, hca (i * 3) (by omega), g5]
  · rw [Nat.zero_add, hca (i * 3 + 1) (by omega), g6]
  · rw [Nat.zero_add, hca (i * 3 + 2) (by omega), g7]
theorem MpC.but {w w1 : World} {B0 g k : Nat} {S : List Nat} {l : List Mp} {cs : List Value} (h : MpC w B0 g k l cs) (hk : KeptBut S w w1) (hS : ∀ b ∈ S, ∀ off x, w.cell? ⟨b, off, none⟩ ≠ some (.int .i64 x)) : MpC w1 B0 g k l cs := fun i m hm => by
  obtain ⟨A', n', c', g1, g2, g3, g4, g5, g6, g7⟩ := h i m hm
  exact ⟨A', n', c', g1, g2.keptBut hk hS, g3, g4, g5, g6, g7⟩
theorem norm_noInt {w : World} {b : Nat} {u0 u1 u2 : Value} {t : TypeId} (h : w.heap[b]? = some (.cells #[u0, u1, u2] t (0, 0))) (h0 : ∀ x, u0 ≠ .int .i64 x) (h1 : ∀ x, u1 ≠ .int .i64 x) (h2 : ∀ x, u2 ≠ .int .i64 x) : ∀ off x, w.cell? ⟨b, off, none⟩ ≠ some (.int .i64 x) := by
  intro off x hc
  unfold World.cell? at hc
  simp only [h] at hc
  match off with
  | 0 => simp at hc; exact h0 x hc
  | 1 => simp at hc; exact h1 x hc
  | 2 => simp at hc; exact h2 x hc
  | k + 3 => simp at hc
theorem MpsFar.low {B B' : Nat} {w : World} {A : Option Addr} {n : Nat} {l : List Mp} (h : MpsFar B w A n l) (hb : B' ≤ B) : MpsFar B' w A n l :=
  ⟨h.1, fun a ha => Nat.le_trans hb (h.2.1 a ha), fun h0 => by
    obtain ⟨b, off, e, hc⟩ := h.2.2 h0
    refine ⟨b, off, e, fun i m hm => ?_⟩
    obtain ⟨A', n', c', g1, g2, g3⟩ := hc i m hm
    exact ⟨A', n', c', g1, fun a ha => Nat.le_trans hb (g2 a ha), g3⟩⟩
def blkOr (A : Option Addr) (d : Nat) : Nat := match A with
  | some a => a.block
  | none => d
def RetCopy (w : World) (n : Nrm) (e : Ending) (w' : World) : Prop := ∃ s', e = .returned s'.val ∧ NormAt (blank w.heap.size w') s' n ∧ Kept w w'
set_option maxRecDepth 100000 in
set_option maxHeartbeats 8000000 in
theorem copied_any (s : Sls) (n : Nrm) (w : World) (hN : NormAt w s n) : Calls Tryz.prog 54 #[s.val] w (RetCopy w n) := by
  have hk2 := Kept.alloc (Kept.alloc (Kept.refl w) (Obj.cells #[Value.slice s.Ac s.nc s.cc, Value.slice s.Am s.nm s.cm, Value.slice s.Ae s.ne s.ce] 28)) (Obj.cells #[Value.slice none 0 0, Value.slice none 0 0, Value.slice none 0 0] 28)
  obtain ⟨B, hB⟩ : ∃ B : Nat, B = w.heap.size := ⟨_, rfl⟩
  have HBB := Lib.hid hB
  have hb0 : ((w.alloc (Obj.cells #[Value.slice s.Ac s.nc s.cc, Value.slice s.Am s.nm s.cm, Value.slice s.Ae s.ne s.ce] 28)).alloc (Obj.cells #[Value.slice none 0 0, Value.slice none 0 0, Value.slice none 0 0] 28)).heap[B]? = some (Obj.cells #[Value.slice s.Ac s.nc s.cc, Value.slice s.Am s.nm s.cm, Value.slice s.Ae s.ne s.ce] 28) := alloc_lift (alloc_at hB)
  have HB1 := Lib.hid (show ((w.alloc (Obj.cells #[Value.slice s.Ac s.nc s.cc, Value.slice s.Am s.nm s.cm, Value.slice s.Ae s.ne s.ce] 28)).alloc (Obj.cells #[Value.slice none 0 0, Value.slice none 0 0, Value.slice none 0 0] 28)).heap[B + 1]? = some (.cells #[Value.slice none 0 0, Value.slice none 0 0, Value.slice none 0 0] 28 (0, 0)) from alloc_at (by simp [hB]))
  have x0 := cell_of_block (i := 0) hb0 rfl
  have x1 := cell_of_block (i := 1) hb0 rfl
  have x2 := cell_of_block (i := 2) hb0 rfl
  simp only [s4_, s5_, s6_] at x0 x1 x2
  have HX0 := Lib.hid x0
  have HX1 := Lib.hid x1
  have HX2 := Lib.hid x2
  have HSZ := Lib.hid (show ((w.alloc (Obj.cells #[Value.slice s.Ac s.nc s.cc, Value.slice s.Am s.nm s.cm, Value.slice s.Ae s.ne s.ce] 28)).alloc (Obj.cells #[Value.slice none 0 0, Value.slice none 0 0, Value.slice none 0 0] 28)).heap.size = B + 1 + 1 by simp [hB])
  have HN := Lib.hid (hN.kept hk2)
  have HK2 := Lib.hid hk2
  have hbm := hN.bm
  have hbc := hN.bc
  have hbe := hN.be
  have HTO := Lib.hid hN.to
  have HDN := Lib.hid hN.dec.1
  clear hN hk2 hb0 hB
  unfold Sls.val at *
  go_enter Tryz.func54, Tryz.ntmps54
  rw [HBB.out] at x0 x1 x2
  go_wp2_with fail
  clear x0 x1 x2
  rw [← HBB.out]
  generalize (w.alloc (Obj.cells #[Value.slice s.Ac s.nc s.cc, Value.slice s.Am s.nm s.cm, Value.slice s.Ae s.ne s.ce] 28)).alloc (Obj.cells #[Value.slice none 0 0, Value.slice none 0 0, Value.slice none 0 0] 28) = W2 at *
  obtain ⟨csM, hm1, hm2, hm3, hm4, hm5⟩ := mps_raw HN.out.dec
  have HMC := Lib.hid hm5
  have HML := Lib.hid hm1
  have hs1 := sl_raw (k := 3) (enc := encS) (fun _ => rfl) (by decide) HN.out.cls
  have hs3 := sl_raw (k := 2) (enc := encR) (fun _ => rfl) (by decide) HN.out.exc
  have HC1 := Lib.hid (fun w' (hk : Kept W2 w') => clone_span s.Ac s.nc s.cc _ w' (by omega) hs1.1 (span_one _) hs1.2.1 (fun p hp j u hu => Kept.cell hk (hs1.2.2 p hp j u hu)))
  have HC2 := Lib.hid (fun w' (hk : Kept W2 w') => clone_mp s.Am s.nm s.cm csM w' (by omega) hm1 hm3 hm2 (fun p hp j u hu => Kept.cell hk (hm4 p hp j u hu)))
  have HC3 := Lib.hid (fun w' (hk : Kept W2 w') => clone_rng s.Ae s.ne s.ce _ w' (by omega) hs3.1 (rng_one _) hs3.2.1 (fun p hp j u hu => Kept.cell hk (hs3.2.2 p hp j u hu)))
  have HCS1 := Lib.hid HN.out.cls.1
  have HCS3 := Lib.hid HN.out.exc.1
  clear hs1 hs3 hm1 hm2 hm3 hm4 hm5
  have p0 := HX0.out
  have p1 := HX1.out
  have p2 := HX2.out
  have KC3 := Lib.hid (Kept.drew (Kept.refl W2))
  refine wp_region_held_drew (S := (fun w' => w'.cell? ⟨B, 0, none⟩ = some (.slice s.Ac s.nc s.cc) ∧ w'.cell? ⟨B, 1, none⟩ = some (.slice s.Am s.nm s.cm) ∧ w'.cell? ⟨B, 2, none⟩ = some (.slice s.Ae s.ne s.ce))) (by kernel_rfl) ⟨p0, p1, p2⟩ (fun hHeld => ?_)
  refine tk_ 0 ?_ rfl ?_; refine tk_ 1 ?_ rfl ?_; refine tk_ 3 ?_ rfl ?_; refine tk_ 4 ?_ rfl ?_; refine tk_ 6 ?_ rfl ?_; refine tk_ 7 ?_ rfl ?_; refine tk_ 8 ?_ rfl ?_
  refine wpAnyH_ready (rs := [2, 12]) (by kernel_rfl) (by simp) ?_
  refine AllReadyH.cons rfl (fun K hK => ?_) (AllReadyH.cons rfl (fun K hK => ?_) AllReadyH.nil)
  focus
    go_simp
    (refine (HC1.out _ KC3.out).mono ?_; rintro e w4 ⟨v_, rfl, o_, k_⟩; obtain ⟨A5, c5, rfl, lec5, _⟩ := own_formS o_; have O5 := Lib.hid (own_low o_ (show W2.heap.size ≤ _ from KC3.out.size)); skip; have KC4 := Lib.hid (Kept.trans KC3.out k_); clear o_ k_)
    go_wp2_with fail
    refine hK.out _ _ ⟨Kept.cell KC4.out HX0.out, Kept.cell KC4.out HX1.out, Kept.cell KC4.out HX2.out⟩ (fun hHeld => ?_)
    clear hK K
    (try simp only [Act.put, s1_, s2_, s3_, s4_, s5_, s6_])
    refine wpAnyH_ready (rs := [5, 12]) (by kernel_rfl) (by simp) ?_
    refine AllReadyH.cons rfl (fun K hK => ?_) (AllReadyH.cons rfl (fun K hK => ?_) AllReadyH.nil)
    focus
      go_simp
      (refine (HC2.out _ KC4.out).mono ?_; rintro e w5 ⟨v_, rfl, o_, k_⟩; obtain ⟨A6, c6, rfl, lec6, _⟩ := own_formS o_; have O6 := Lib.hid (own_low o_ (show W2.heap.size ≤ _ from KC4.out.size)); have O5 := Lib.hid (own_butK O5.out (k_.but []) (by simp)); have KC5 := Lib.hid (Kept.trans KC4.out k_); clear o_ k_)
      go_wp2_with fail
      refine hK.out _ _ ⟨Kept.cell KC5.out HX0.out, Kept.cell KC5.out HX1.out, Kept.cell KC5.out HX2.out⟩ (fun hHeld => ?_)
      clear hK K
      (try simp only [Act.put, s1_, s2_, s3_, s4_, s5_, s6_])
      refine wpAnyH_ready (rs := [9, 12]) (by kernel_rfl) (by simp) ?_
      refine AllReadyH.cons rfl (fun K hK => ?_) (AllReadyH.cons rfl (fun K hK => ?_) AllReadyH.nil)
      focus
        go_simp
        (refine (HC3.out _ KC5.out).mono ?_; rintro e w6 ⟨v_, rfl, o_, k_⟩; obtain ⟨A7, c7, rfl, lec7, _⟩ := own_formS o_; have O7 := Lib.hid (own_low o_ (show W2.heap.size ≤ _ from KC5.out.size)); have O5 := Lib.hid (own_butK O5.out (k_.but []) (by simp)); have O6 := Lib.hid (own_butK O6.out (k_.but []) (by simp)); have KC6 := Lib.hid (Kept.trans KC5.out k_); clear o_ k_)
        go_wp2_with fail
        refine hK.out _ _ ⟨Kept.cell KC6.out HX0.out, Kept.cell KC6.out HX1.out, Kept.cell KC6.out HX2.out⟩ (fun hHeld => ?_)
        clear hK K
        (try simp only [Act.put, s1_, s2_, s3_, s4_, s5_, s6_])
        refine tk_ 10 ?_ rfl ?_; refine tk_ 11 ?_ rfl ?_
        refine rd_ 12 rfl (fun K hK => ?_)
        skip
        go_simp
        refine hK.out _ _ ⟨Kept.cell (Kept.alloc KC6.out (Obj.cells #[Value.slice none 0 0, Value.slice none 0 0, Value.slice none 0 0] 28)) HX0.out, Kept.cell (Kept.alloc KC6.out (Obj.cells #[Value.slice none 0 0, Value.slice none 0 0, Value.slice none 0 0] 28)) HX1.out, Kept.cell (Kept.alloc KC6.out (Obj.cells #[Value.slice none 0 0, Value.slice none 0 0, Value.slice none 0 0] 28)) HX2.out⟩ (fun hHeld => ?_)
        clear hK K
        (try simp only [Act.put, s1_, s2_, s3_, s4_, s5_, s6_])
        refine rd_ 13 rfl (fun K hK => ?_)
        skip
        go_simp
        refine hK.out _ _ ⟨Kept.cell (Kept.alloc KC6.out (Obj.cells #[Value.slice A5 s.nc c5, Value.slice A6 s.nm c6, Value.slice A7 s.ne c7] 28)) HX0.out, Kept.cell (Kept.alloc KC6.out (Obj.cells #[Value.slice A5 s.nc c5, Value.slice A6 s.nm c6, Value.slice A7 s.ne c7] 28)) HX1.out, Kept.cell (Kept.alloc KC6.out (Obj.cells #[Value.slice A5 s.nc c5, Value.slice A6 s.nm c6, Value.slice A7 s.ne c7] 28)) HX2.out⟩ (fun hHeld => ?_)
        clear hK K
        (try simp only [Act.put, s1_, s2_, s3_, s4_, s5_, s6_])
        refine wpAnyH_done (by kernel_rfl) ?_ _
        obtain ⟨bo, hbo⟩ : ∃ bo : Nat, bo = w6.heap.size := ⟨_, rfl⟩
        have HBO := Lib.hid (show (w6.alloc (Obj.cells #[Value.slice A5 s.nc c5, Value.slice A6 s.nm c6, Value.slice A7 s.ne c7] 28)).heap[bo]? = some (Obj.cells #[Value.slice A5 s.nc c5, Value.slice A6 s.nm c6, Value.slice A7 s.ne c7] 28) from alloc_at hbo)
        have K9 := Lib.hid (show Kept W2 (w6.alloc (Obj.cells #[Value.slice A5 s.nc c5, Value.slice A6 s.nm c6, Value.slice A7 s.ne c7] 28)) from Kept.alloc KC6.out _)
        have O5 := Lib.hid (World.ownsRow.alloc O5.out (Obj.cells #[Value.slice A5 s.nc c5, Value.slice A6 s.nm c6, Value.slice A7 s.ne c7] 28))
        have O6 := Lib.hid (World.ownsRow.alloc O6.out (Obj.cells #[Value.slice A5 s.nc c5, Value.slice A6 s.nm c6, Value.slice A7 s.ne c7] 28))
        have O7 := Lib.hid (World.ownsRow.alloc O7.out (Obj.cells #[Value.slice A5 s.nc c5, Value.slice A6 s.nm c6, Value.slice A7 s.ne c7] 28))
        have hbB : W2.heap.size ≤ bo := by have := KC6.out.size; omega
        try rw [← hbo]
        clear hbo
        generalize w6.alloc (Obj.cells #[Value.slice A5 s.nc c5, Value.slice A6 s.nm c6, Value.slice A7 s.ne c7] 28) = w9 at *
      rotate_left 1
      focus
        go_simp
        obtain ⟨bo, hbo⟩ : ∃ bo : Nat, bo = w5.heap.size := ⟨_, rfl⟩
        have ZBO := Lib.hid (show ((w5.alloc (Obj.cells #[Value.slice none 0 0, Value.slice none 0 0, Value.slice none 0 0] 28))).heap[bo]? = some (.cells #[Value.slice none 0 0, Value.slice none 0 0, Value.slice none 0 0] 28 (0, 0)) from alloc_at (W := w5) hbo)
        have hbB : W2.heap.size ≤ bo := by have := KC5.out.size; omega
        have k_ := Kept.alloc (Kept.refl w5) (Obj.cells #[Value.slice none 0 0, Value.slice none 0 0, Value.slice none 0 0] 28)
        have O5 := Lib.hid (own_butK O5.out (k_.but []) (by simp))
        have O6 := Lib.hid (own_butK O6.out (k_.but []) (by simp))
        have KC6 := Lib.hid (Kept.trans KC5.out k_)
        refine hK.out _ _ ⟨Kept.cell KC6.out HX0.out, Kept.cell KC6.out HX1.out, Kept.cell KC6.out HX2.out⟩ (fun hHeld => ?_)
        clear hK K k_
        (try simp only [Act.put, s1_, s2_, s3_, s4_, s5_, s6_])
        try rw [← hbo]
        clear hbo
        generalize (w5.alloc (Obj.cells #[Value.slice none 0 0, Value.slice none 0 0, Value.slice none 0 0] 28)) = w6 at *
        refine rd_ 9 rfl (fun K hK => ?_)
        go_simp
        (refine (HC3.out _ KC6.out).mono ?_; rintro e w7 ⟨v_, rfl, o_, k_⟩; obtain ⟨A7, c7, rfl, lec7, _⟩ := own_formS o_; have O7 := Lib.hid (own_low o_ (show W2.heap.size ≤ _ from KC6.out.size)); have O5 := Lib.hid (own_butK O5.out (k_.but []) (by simp)); have O6 := Lib.hid (own_butK O6.out (k_.but []) (by simp)); have ZBO := Lib.hid ((k_.block _ (block_lt ZBO.out)).trans ZBO.out); have KC7 := Lib.hid (Kept.trans KC6.out k_); clear o_ k_)
        go_wp2_with fail
        refine hK.out _ _ ⟨Kept.cell KC7.out HX0.out, Kept.cell KC7.out HX1.out, Kept.cell KC7.out HX2.out⟩ (fun hHeld => ?_)
        clear hK K
        (try simp only [Act.put, s1_, s2_, s3_, s4_, s5_, s6_])
        refine tk_ 10 ?_ rfl ?_; refine tk_ 11 ?_ rfl ?_
        refine rd_ 13 rfl (fun K hK => ?_)
        have f0 := frozen_of_block (i := 0) ZBO.out; have f1 := frozen_of_block (i := 1) (cells3_mid ZBO.out (.slice A5 s.nc c5) (.slice A6 s.nm c6)).1; have f2 := frozen_of_block (i := 2) (cells3_mid ZBO.out (.slice A5 s.nc c5) (.slice A6 s.nm c6)).2; have g0 := cell_of_block (i := 0) ZBO.out rfl; have g1 := cell_of_block (i := 1) (cells3_mid ZBO.out (.slice A5 s.nc c5) (.slice A6 s.nm c6)).1 rfl; have g2 := cell_of_block (i := 2) (cells3_mid ZBO.out (.slice A5 s.nc c5) (.slice A6 s.nm c6)).2 rfl; simp only [s4_, s5_, s6_] at g0 g1 g2; have KZ := Lib.hid (KeptBut.trans (KeptBut.trans (KeptBut.setCell (S := [bo]) w7 (p := ⟨bo, 0, none⟩) (by simp) (.slice A5 s.nc c5)) (KeptBut.setCell _ (p := ⟨bo, 1, none⟩) (by simp) (.slice A6 s.nm c6))) (KeptBut.setCell _ (p := ⟨bo, 2, none⟩) (by simp) (.slice A7 s.ne c7))); have K9 := Lib.hid (Kept.setCell (Kept.setCell (Kept.setCell KC7.out (p := ⟨bo, 0, none⟩) hbB (.slice A5 s.nc c5)) (p := ⟨bo, 1, none⟩) hbB (.slice A6 s.nm c6)) (p := ⟨bo, 2, none⟩) hbB (.slice A7 s.ne c7))
        go_simp
        refine hK.out _ _ ⟨Kept.cell K9.out HX0.out, Kept.cell K9.out HX1.out, Kept.cell K9.out HX2.out⟩ (fun hHeld => ?_)
        clear hK K
        (try simp only [Act.put, s1_, s2_, s3_, s4_, s5_, s6_])
        refine wpAnyH_done (by kernel_rfl) ?_ _
        have HBO := Lib.hid (cells3_setN ZBO.out (.slice A5 s.nc c5) (.slice A6 s.nm c6) (.slice A7 s.ne c7))
        have O5 := Lib.hid (own_butK O5.out KZ.out (own_box_ne O5.out ZBO.out (by decide)))
        have O6 := Lib.hid (own_butK O6.out KZ.out (own_box_ne O6.out ZBO.out (by decide)))
        have O7 := Lib.hid (own_butK O7.out KZ.out (own_box_ne O7.out ZBO.out (by decide)))
        clear f0 f1 f2 g0 g1 g2 KZ ZBO
        generalize ((w7.setCell ⟨bo, 0, none⟩ (.slice A5 s.nc c5)).setCell ⟨bo, 1, none⟩ (.slice A6 s.nm c6)).setCell ⟨bo, 2, none⟩ (.slice A7 s.ne c7) = w9 at *
    rotate_left 2
    focus
      go_simp
      obtain ⟨bo, hbo⟩ : ∃ bo : Nat, bo = w4.heap.size := ⟨_, rfl⟩
      have ZBO := Lib.hid (show ((w4.alloc (Obj.cells #[Value.slice none 0 0, Value.slice none 0 0, Value.slice none 0 0] 28))).heap[bo]? = some (.cells #[Value.slice none 0 0, Value.slice none 0 0, Value.slice none 0 0] 28 (0, 0)) from alloc_at (W := w4) hbo)
      have hbB : W2.heap.size ≤ bo := by have := KC4.out.size; omega
      have k_ := Kept.alloc (Kept.refl w4) (Obj.cells #[Value.slice none 0 0, Value.slice none 0 0, Value.slice none 0 0] 28)
      have O5 := Lib.hid (own_butK O5.out (k_.but []) (by simp))
      have KC5 := Lib.hid (Kept.trans KC4.out k_)
      refine hK.out _ _ ⟨Kept.cell KC5.out HX0.out, Kept.cell KC5.out HX1.out, Kept.cell KC5.out HX2.out⟩ (fun hHeld => ?_)
      clear hK K k_
      (try simp only [Act.put, s1_, s2_, s3_, s4_, s5_, s6_])
      try rw [← hbo]
      clear hbo
      generalize (w4.alloc (Obj.cells #[Value.slice none 0 0, Value.slice none 0 0, Value.slice none 0 0] 28)) = w5 at *
      refine rd_ 5 rfl (fun K hK => ?_)
      go_simp
      (refine (HC2.out _ KC5.out).mono ?_; rintro e w6 ⟨v_, rfl, o_, k_⟩; obtain ⟨A6, c6, rfl, lec6, _⟩ := own_formS o_; have O6 := Lib.hid (own_low o_ (show W2.heap.size ≤ _ from KC5.out.size)); have O5 := Lib.hid (own_butK O5.out (k_.but []) (by simp)); have ZBO := Lib.hid ((k_.block _ (block_lt ZBO.out)).trans ZBO.out); have KC6 := Lib.hid (Kept.trans KC5.out k_); clear o_ k_)
      go_wp2_with fail
      refine hK.out _ _ ⟨Kept.cell KC6.out HX0.out, Kept.cell KC6.out HX1.out, Kept.cell KC6.out HX2.out⟩ (fun hHeld => ?_)
      clear hK K
      (try simp only [Act.put, s1_, s2_, s3_, s4_, s5_, s6_])
      refine rd_ 9 rfl (fun K hK => ?_)
      go_simp
      (refine (HC3.out _ KC6.out).mono ?_; rintro e w7 ⟨v_, rfl, o_, k_⟩; obtain ⟨A7, c7, rfl, lec7, _⟩ := own_formS o_; have O7 := Lib.hid (own_low o_ (show W2.heap.size ≤ _ from KC6.out.size)); have O5 := Lib.hid (own_butK O5.out (k_.but []) (by simp)); have O6 := Lib.hid (own_butK O6.out (k_.but []) (by simp)); have ZBO := Lib.hid ((k_.block _ (block_lt ZBO.out)).trans ZBO.out); have KC7 := Lib.hid (Kept.trans KC6.out k_); clear o_ k_)
      go_wp2_with fail
      refine hK.out _ _ ⟨Kept.cell KC7.out HX0.out, Kept.cell KC7.out HX1.out, Kept.cell KC7.out HX2.out⟩ (fun hHeld => ?_)
      clear hK K
      (try simp only [Act.put, s1_, s2_, s3_, s4_, s5_, s6_])
      refine tk_ 10 ?_ rfl ?_; refine tk_ 11 ?_ rfl ?_
      refine rd_ 13 rfl (fun K hK => ?_)
      have f0 := frozen_of_block (i := 0) ZBO.out; have f1 := frozen_of_block (i := 1) (cells3_mid ZBO.out (.slice A5 s.nc c5) (.slice A6 s.nm c6)).1; have f2 := frozen_of_block (i := 2) (cells3_mid ZBO.out (.slice A5 s.nc c5) (.slice A6 s.nm c6)).2; have g0 := cell_of_block (i := 0) ZBO.out rfl; have g1 := cell_of_block (i := 1) (cells3_mid ZBO.out (.slice A5 s.nc c5) (.slice A6 s.nm c6)).1 rfl; have g2 := cell_of_block (i := 2) (cells3_mid ZBO.out (.slice A5 s.nc c5) (.slice A6 s.nm c6)).2 rfl; simp only [s4_, s5_, s6_] at g0 g1 g2; have KZ := Lib.hid (KeptBut.trans (KeptBut.trans (KeptBut.setCell (S := [bo]) w7 (p := ⟨bo, 0, none⟩) (by simp) (.slice A5 s.nc c5)) (KeptBut.setCell _ (p := ⟨bo, 1, none⟩) (by simp) (.slice A6 s.nm c6))) (KeptBut.setCell _ (p := ⟨bo, 2, none⟩) (by simp) (.slice A7 s.ne c7))); have K9 := Lib.hid (Kept.setCell (Kept.setCell (Kept.setCell KC7.out (p := ⟨bo, 0, none⟩) hbB (.slice A5 s.nc c5)) (p := ⟨bo, 1, none⟩) hbB (.slice A6 s.nm c6)) (p := ⟨bo, 2, none⟩) hbB (.slice A7 s.ne c7))
      go_simp
      refine hK.out _ _ ⟨Kept.cell K9.out HX0.out, Kept.cell K9.out HX1.out, Kept.cell K9.out HX2.out⟩ (fun hHeld => ?_)
      clear hK K
      (try simp only [Act.put, s1_, s2_, s3_, s4_, s5_, s6_])
      refine wpAnyH_done (by kernel_rfl) ?_ _
      have HBO := Lib.hid (cells3_setN ZBO.out (.slice A5 s.nc c5) (.slice A6 s.nm c6) (.slice A7 s.ne c7))
      have O5 := Lib.hid (own_butK O5.out KZ.out (own_box_ne O5.out ZBO.out (by decide)))
      have O6 := Lib.hid (own_butK O6.out KZ.out (own_box_ne O6.out ZBO.out (by decide)))
      have O7 := Lib.hid (own_butK O7.out KZ.out (own_box_ne O7.out ZBO.out (by decide)))
      clear f0 f1 f2 g0 g1 g2 KZ ZBO
      generalize ((w7.setCell ⟨bo, 0, none⟩ (.slice A5 s.nc c5)).setCell ⟨bo, 1, none⟩ (.slice A6 s.nm c6)).setCell ⟨bo, 2, none⟩ (.slice A7 s.ne c7) = w9 at *
  rotate_left 3
  focus
    go_simp
    obtain ⟨bo, hbo⟩ : ∃ bo : Nat, bo = W2.heap.size := ⟨_, rfl⟩
    have ZBO := Lib.hid (show ((W2.alloc (Obj.cells #[Value.slice none 0 0, Value.slice none 0 0, Value.slice none 0 0] 28)).drew).heap[bo]? = some (.cells #[Value.slice none 0 0, Value.slice none 0 0, Value.slice none 0 0] 28 (0, 0)) from alloc_at (W := W2) hbo)
    have hbB : W2.heap.size ≤ bo := by omega
    have k_ := Kept.alloc (Kept.refl W2) (Obj.cells #[Value.slice none 0 0, Value.slice none 0 0, Value.slice none 0 0] 28)
    have k_ := Kept.drew k_
    have KC4 := Lib.hid (k_)
    refine hK.out _ _ ⟨Kept.cell KC4.out HX0.out, Kept.cell KC4.out HX1.out, Kept.cell KC4.out HX2.out⟩ (fun hHeld => ?_)
    clear hK K k_
    (try simp only [Act.put, s1_, s2_, s3_, s4_, s5_, s6_])
    try rw [← hbo]
    clear hbo
    generalize (W2.alloc (Obj.cells #[Value.slice none 0 0, Value.slice none 0 0, Value.slice none 0 0] 28)).drew = w4 at *
    refine rd_ 2 rfl (fun K hK => ?_)
    go_simp
    (refine (HC1.out _ KC4.out).mono ?_; rintro e w5 ⟨v_, rfl, o_, k_⟩; obtain ⟨A5, c5, rfl, lec5, _⟩ := own_formS o_; have O5 := Lib.hid (own_low o_ (show W2.heap.size ≤ _ from KC4.out.size)); have ZBO := Lib.hid ((k_.block _ (block_lt ZBO.out)).trans ZBO.out); have KC5 := Lib.hid (Kept.trans KC4.out k_); clear o_ k_)
    go_wp2_with fail
    refine hK.out _ _ ⟨Kept.cell KC5.out HX0.out, Kept.cell KC5.out HX1.out, Kept.cell KC5.out HX2.out⟩ (fun hHeld => ?_)
    clear hK K
    (try simp only [Act.put, s1_, s2_, s3_, s4_, s5_, s6_])
    refine rd_ 5 rfl (fun K hK => ?_)
    go_simp
    (refine (HC2.out _ KC5.out).mono ?_; rintro e w6 ⟨v_, rfl, o_, k_⟩; obtain ⟨A6, c6, rfl, lec6, _⟩ := own_formS o_; have O6 := Lib.hid (own_low o_ (show W2.heap.size ≤ _ from KC5.out.size)); have O5 := Lib.hid (own_butK O5.out (k_.but []) (by simp)); have ZBO := Lib.hid ((k_.block _ (block_lt ZBO.out)).trans ZBO.out); have KC6 := Lib.hid (Kept.trans KC5.out k_); clear o_ k_)
    go_wp2_with fail
    refine hK.out _ _ ⟨Kept.cell KC6.out HX0.out, Kept.cell KC6.out HX1.out, Kept.cell KC6.out HX2.out⟩ (fun hHeld => ?_)
    clear hK K
    (try simp only [Act.put, s1_, s2_, s3_, s4_, s5_, s6_])
    refine rd_ 9 rfl (fun K hK => ?_)
    go_simp
    (refine (HC3.out _ KC6.out).mono ?_; rintro e w7 ⟨v_, rfl, o_, k_⟩; obtain ⟨A7, c7, rfl, lec7, _⟩ := own_formS o_; have O7 := Lib.hid (own_low o_ (show W2.heap.size ≤ _ from KC6.out.size)); have O5 := Lib.hid (own_butK O5.out (k_.but []) (by simp)); have O6 := Lib.hid (own_butK O6.out (k_.but []) (by simp)); have ZBO := Lib.hid ((k_.block _ (block_lt ZBO.out)).trans ZBO.out); have KC7 := Lib.hid (Kept.trans KC6.out k_); clear o_ k_)
    go_wp2_with fail
    refine hK.out _ _ ⟨Kept.cell KC7.out HX0.out, Kept.cell KC7.out HX1.out, Kept.cell KC7.out HX2.out⟩ (fun hHeld => ?_)
    clear hK K
    (try simp only [Act.put, s1_, s2_, s3_, s4_, s5_, s6_])
    refine tk_ 10 ?_ rfl ?_; refine tk_ 11 ?_ rfl ?_
    refine rd_ 13 rfl (fun K hK => ?_)
    have f0 := frozen_of_block (i := 0) ZBO.out; have f1 := frozen_of_block (i := 1) (cells3_mid ZBO.out (.slice A5 s.nc c5) (.slice A6 s.nm c6)).1; have f2 := frozen_of_block (i := 2) (cells3_mid ZBO.out (.slice A5 s.nc c5) (.slice A6 s.nm c6)).2; have g0 := cell_of_block (i := 0) ZBO.out rfl; have g1 := cell_of_block (i := 1) (cells3_mid ZBO.out (.slice A5 s.nc c5) (.slice A6 s.nm c6)).1 rfl; have g2 := cell_of_block (i := 2) (cells3_mid ZBO.out (.slice A5 s.nc c5) (.slice A6 s.nm c6)).2 rfl; simp only [s4_, s5_, s6_] at g0 g1 g2; have KZ := Lib.hid (KeptBut.trans (KeptBut.trans (KeptBut.setCell (S := [bo]) w7 (p := ⟨bo, 0, none⟩) (by simp) (.slice A5 s.nc c5)) (KeptBut.setCell _ (p := ⟨bo, 1, none⟩) (by simp) (.slice A6 s.nm c6))) (KeptBut.setCell _ (p := ⟨bo, 2, none⟩) (by simp) (.slice A7 s.ne c7))); have K9 := Lib.hid (Kept.setCell (Kept.setCell (Kept.setCell KC7.out (p := ⟨bo, 0, none⟩) hbB (.slice A5 s.nc c5)) (p := ⟨bo, 1, none⟩) hbB (.slice A6 s.nm c6)) (p := ⟨bo, 2, none⟩) hbB (.slice A7 s.ne c7))
    go_simp
    refine hK.out _ _ ⟨Kept.cell K9.out HX0.out, Kept.cell K9.out HX1.out, Kept.cell K9.out HX2.out⟩ (fun hHeld => ?_)
    clear hK K
    (try simp only [Act.put, s1_, s2_, s3_, s4_, s5_, s6_])
    refine wpAnyH_done (by kernel_rfl) ?_ _
    have HBO := Lib.hid (cells3_setN ZBO.out (.slice A5 s.nc c5) (.slice A6 s.nm c6) (.slice A7 s.ne c7))
    have O5 := Lib.hid (own_butK O5.out KZ.out (own_box_ne O5.out ZBO.out (by decide)))
    have O6 := Lib.hid (own_butK O6.out KZ.out (own_box_ne O6.out ZBO.out (by decide)))
    have O7 := Lib.hid (own_butK O7.out KZ.out (own_box_ne O7.out ZBO.out (by decide)))
    clear f0 f1 f2 g0 g1 g2 KZ ZBO
    generalize ((w7.setCell ⟨bo, 0, none⟩ (.slice A5 s.nc c5)).setCell ⟨bo, 1, none⟩ (.slice A6 s.nm c6)).setCell ⟨bo, 2, none⟩ (.slice A7 s.ne c7) = w9 at *
  all_goals
    have hMC9 : MpC w9 W2.heap.size (blkOr A6 w9.heap.size) 0 n.decomp csM := fun i m hm => by
      obtain ⟨A', n', c', g1, g2, g3, g4, g5⟩ := HMC.out i m hm
      refine ⟨A', n', c', g1, g2.kept K9.out, fun h0 a ha => ?_, fun h => by omega, g3, g4, g5⟩
      obtain ⟨b, off, x, e, _, cx⟩ := int_at g2 h0
      rw [e] at ha
      injection ha with ha
      have hlt := cell_lt cx
      have hlt : a.block < W2.heap.size := by rw [← ha]; exact hlt
      cases A6 with
      | none => have := K9.out.size; simp only [blkOr]; omega
      | some a6 =>
        obtain ⟨A2, c2, hv2, _, h3⟩ := own_formS O6.out
        injection hv2 with e2
        subst e2
        have := (h3 a6 rfl).1
        simp only [blkOr]
        omega
    obtain ⟨g, hgd⟩ : ∃ g : Nat, g = (blkOr A6 w9.heap.size) := ⟨_, rfl⟩
    rw [← hgd] at hMC9
    have HM9 := Lib.hid hMC9
    have hgA : ∀ a, A6 = some a → a = ⟨g, 0, none⟩ := fun a ha => by
      subst ha
      rcases O6.out.2 with ⟨e, _⟩ | ⟨g', cap, cur, e, _⟩
      · injection e with e; cases e
      · injection e with e
        injection e with e
        subst e
        rw [hgd]; rfl
    have HGA := Lib.hid hgA
    have HGN := Lib.hid (show A6 = none → g = w9.heap.size from fun e => by rw [hgd, e]; rfl)
    have hgB : W2.heap.size ≤ g := by
      cases A6 with
      | none => rw [hgd]; exact K9.out.size
      | some a6 =>
        obtain ⟨A2, c2, hv2, _, h3⟩ := own_formS O6.out
        injection hv2 with e2
        subst e2
        rw [hgd]; exact (h3 a6 rfl).1
    have hgo : g ≠ bo := fun e => by
      cases A6 with
      | none => have := block_lt HBO.out; simp only [blkOr] at hgd; omega
      | some a6 =>
        have h4 := own_box_ne O6.out HBO.out (by decide) a6.block (by have := hgA a6 rfl; subst this; rfl)
        simp only [blkOr] at hgd
        exact h4 (by rw [← hgd, e]; simp)
    have HW2 := HSZ.out
    have HSZ2 : B + 1 + 1 ≤ W2.heap.size := by omega
    clear hMC9 hgd hgA HW2
    have c1 := cell_of_block (i := 1) HBO.out rfl
    simp only [s4_, s5_, s6_] at c1
    go_wp2_with fail
    clear c1
    go_loopw [20] (fun i wr => ∃ (k : Nat) (cs : List Value), k ≤ s.nm ∧ i = .int .i64 k ∧ wr.ownsRow W2.heap.size 90 3 (.slice A6 s.nm c6) s.nm cs ∧ MpC wr W2.heap.size g k n.decomp cs ∧ cs.length = s.nm * 3 ∧ KeptBut [g] w9 wr) (fun i _ => s.nm - (intOf i).toNat)
    case atStart => exact ⟨0, csM, Nat.zero_le _, rfl, O6.out, HM9.out, HML.out, KeptBut.refl _ _⟩
    case round =>
      obtain ⟨k, cs, hk, rfl, hown, hmc, hlen, hkb⟩ := hrel
      have HO := Lib.hid hown
      have HMCK := Lib.hid hmc
      have HLN := Lib.hid hlen
      have HKB := Lib.hid hkb
      have hb := (hkb.block bo (block_lt HBO.out) (by simp; omega)).trans HBO.out
      have HBR := Lib.hid hb
      clear hown hmc hlen hkb
      by_cases hlt : k < s.nm
      · obtain ⟨m, hm⟩ := getElem?_some_of_lt (l := n.decomp) (k := k) (by have := HDN.out; omega)
        have HM := Lib.hid hm
        obtain ⟨a6, ha6⟩ : ∃ a, A6 = some a := by
          rcases HO.out.2 with ⟨_, h0⟩ | ⟨g', cap, cur, e, _⟩
          · omega
          · injection e with e; exact ⟨_, e⟩
        have hag := HGA.out a6 ha6
        subst hag
        subst ha6
        obtain ⟨A', n', c', hle, hI, hne, _, e0, e1, e2⟩ := HMCK.out k m hm
        have hn' : n' ≤ 1000 := by rw [hI.1]; exact HTO.out m (mem_of_getElem?_some hm)
        have cb := cell_of_block (i := 1) hb rfl
        simp only [s4_, s5_, s6_] at cb
        have cg : wr.cell? ⟨g, k * 3 + 1, none⟩ = some (.slice A' n' c') := (World.ownsRow.cellAt HO.out (k * 3 + 1) (by omega)).trans e1
        have HCB := Lib.hid cb
        have HCLN := Lib.hid ((clone_any A' n' c' m.to wr.drew (by omega) (hI.kept (Kept.drew (Kept.refl wr)))).mono fun _ _ h => h.fr)
        have hglt : g < wr.heap.size := (World.ownsRow.lt HO.out g rfl).2
        clear hb hm hI hne e0 e1 e2
        go_wp2_with fail
        refine wp_region_held_drew (S := (fun w' => w'.cell? ⟨bo, 1, none⟩ = some (.slice (some ⟨g, 0, none⟩) s.nm c6))) (by kernel_rfl) cb (fun hHeld => ?_)
        refine tk_ 0 ?_ rfl ?_; refine tk_ 1 ?_ rfl ?_; refine tk_ 2 ?_ rfl ?_; refine tk_ 3 ?_ rfl ?_; refine tk_ 4 ?_ rfl ?_; refine tk_ 5 ?_ rfl ?_; refine tk_ 6 ?_ rfl ?_; refine tk_ 7 ?_ rfl ?_
        refine rd_ 8 rfl (fun K hK => ?_)
        skip
        go_simp
        refine hK.out _ _ cb (fun hHeld => ?_)
        clear hK K
        (try simp only [Act.put, s1_, s2_, s3_, s4_, s5_, s6_])
        refine rd_ 9 rfl (fun K hK => ?_)
        go_simp
        (refine HCLN.out.mono ?_; rintro e w10 ⟨A9, n9, c9, rfl, le9, i9, far9, k9⟩; have I9 := Lib.hid i9; have FR9 := Lib.hid far9; have K10 := Lib.hid (Kept.trans (Kept.drew (Kept.refl wr)) k9); have HO10 := Lib.hid (own_butK HO.out (K10.out.but []) (by simp)); clear i9 far9 k9)
        go_wp2_with fail
        refine hK.out _ _ (Kept.cell K10.out HCB.out) (fun hHeld => ?_)
        clear hK K
        (try simp only [Act.put, s1_, s2_, s3_, s4_, s5_, s6_])
        refine tk_ 10 ?_ rfl ?_; refine tk_ 11 ?_ rfl ?_
        refine rd_ 12 rfl (fun K hK => ?_)
        have f10 := World.ownsRow.frozenAt HO10.out (k * 3 + 1); have c10 := Kept.cell K10.out cg
        go_simp
        refine hK.out _ _ (KeptBut.cell (KeptBut.setCell (S := [g]) w10 (p := ⟨g, k * 3 + 1, none⟩) (by simp) _) (Kept.cell K10.out HCB.out) (by simp; omega)) (fun hHeld => ?_)
        clear hK K
        (try simp only [Act.put, s1_, s2_, s3_, s4_, s5_, s6_])
        refine wpAnyH_done (by kernel_rfl) ?_ _
        have HKW := Lib.hid (show KeptBut [g] wr (w10.setCell ⟨g, k * 3 + 1, none⟩ (.slice A9 n9 c9)) from (K10.out.but [g]).trans (KeptBut.setCell _ (by simp) _))
        have HO11 := Lib.hid (World.ownsRow.stored HO10.out (k * 3 + 1) (.slice A9 n9 c9)).1
        have HI11 := Lib.hid (show Ints (w10.setCell ⟨g, k * 3 + 1, none⟩ (.slice A9 n9 c9)) A9 n9 m.to from sl_butK I9.out (KeptBut.setCell (S := [g]) w10 (by simp) _) (fun p hp h0 => by have := FR9.out p hp; have h5 : wr.drew.heap.size = wr.heap.size := rfl; simp; omega))
        have HM11 := Lib.hid (MpC.next HMCK.out HM.out (by rw [HLN.out, HDN.out]) HKW.out le9 HI11.out (fun a ha => by have := FR9.out a ha; have h5 : wr.drew.heap.size = wr.heap.size := rfl; omega) (fun a ha => by have := FR9.out a ha; have h5 : wr.drew.heap.size = wr.heap.size := rfl; have := HKB.out.size; have := K9.out.size; omega))
        have HK11 := Lib.hid (HKB.out.trans HKW.out)
        generalize w10.setCell ⟨g, k * 3 + 1, none⟩ (.slice A9 n9 c9) = w11 at *
        go_wp2_with fail
        go_roundw
        case rel => exact ⟨k + 1, _, by omega, by go_num, HO11.out, HM11.out, by rw [List.length_set]; exact HLN.out, HK11.out⟩
        case measure => simp [intOf]; omega
      · have hkn : k = s.nm := by omega
        rw [hkn] at HMCK
        clear hkn
        have hr : wr.heap[B + 1]? = some (.cells #[Value.slice none 0 0, Value.slice none 0 0, Value.slice none 0 0] 28 (0, 0)) := (HKB.out.block (B + 1) (by have := K9.out.size; omega) (by simp; omega)).trans ((K9.out.block _ (by omega)).trans HB1.out)
        have HRR := Lib.hid hr
        have f0 := frozen_of_block (i := 0) hr
        have f1 := frozen_of_block (i := 1) (cells3_mid hr (.slice A5 s.nc c5) (.slice A6 s.nm c6)).1
        have f2 := frozen_of_block (i := 2) (cells3_mid hr (.slice A5 s.nc c5) (.slice A6 s.nm c6)).2
        have g0 := cell_of_block (i := 0) hr rfl
        have g1 := cell_of_block (i := 1) (cells3_mid hr (.slice A5 s.nc c5) (.slice A6 s.nm c6)).1 rfl
        have g2 := cell_of_block (i := 2) (cells3_mid hr (.slice A5 s.nc c5) (.slice A6 s.nm c6)).2 rfl
        have d0 := cell_of_block (i := 0) HBR.out rfl
        have d1 := cell_of_block (i := 1) HBR.out rfl
        have d2 := cell_of_block (i := 2) HBR.out rfl
        simp only [s4_, s5_, s6_] at g0 g1 g2 d0 d1 d2
        have KZ := Lib.hid (KeptBut.trans (KeptBut.trans (KeptBut.setCell (S := [B + 1]) wr (p := ⟨B + 1, 0, none⟩) (by simp) (.slice A5 s.nc c5)) (KeptBut.setCell _ (p := ⟨B + 1, 1, none⟩) (by simp) (.slice A6 s.nm c6))) (KeptBut.setCell _ (p := ⟨B + 1, 2, none⟩) (by simp) (.slice A7 s.ne c7)))
        have HFN := Lib.hid (cells3_setN hr (.slice A5 s.nc c5) (.slice A6 s.nm c6) (.slice A7 s.ne c7))
        clear hr
        go_wp2_with fail
        clear f0 f1 f2 g0 g1 g2 d0 d1 d2
        generalize ((wr.setCell ⟨B + 1, 0, none⟩ (.slice A5 s.nc c5)).setCell ⟨B + 1, 1, none⟩ (.slice A6 s.nm c6)).setCell ⟨B + 1, 2, none⟩ (.slice A7 s.ne c7) = wf at *
        have y0 := cell_of_block (i := 0) HFN.out rfl
        have y1 := cell_of_block (i := 1) HFN.out rfl
        have y2 := cell_of_block (i := 2) HFN.out rfl
        simp only [s4_, s5_, s6_] at y0 y1 y2
        have hg6 : ∀ g', (Value.slice A6 s.nm c6).ownBlock = some g' → g' = g := fun g' h => by
          cases A6 with
          | none => cases h
          | some a =>
            have := HGA.out a rfl
            subst this
            simp only [Value.ownBlock, Option.some.injEq] at h
            exact h.symm
        have hother : ∀ {e : TypeId} {sz nn : Nat} {v : Value} {xs : List Value}, w9.ownsRow W2.heap.size e sz v nn xs → e ≠ 90 → e ≠ 28 → wf.ownsRow W2.heap.size e sz v nn xs := fun {e sz nn v xs} h he he2 => by
          have h1 : wr.ownsRow W2.heap.size e sz v nn xs := own_butK h HKB.out (fun g' hg' hm => by
            simp only [List.mem_cons, List.not_mem_nil, or_false] at hm
            subst hm
            cases hA6 : (Value.slice A6 s.nm c6).ownBlock with
            | none =>
              rcases h.2 with ⟨rfl, _⟩ | ⟨g2, cap, cur, rfl, _, hgg, _⟩
              · cases hg'
              · simp only [Value.ownBlock, Option.some.injEq] at hg'
                subst hg'
                have h7 := block_lt hgg
                cases A6 with
                | none => exact absurd h7 (by have := HGN.out rfl; omega)
                | some a => have := HGA.out a rfl; subst this; cases hA6
            | some g3 =>
              have := hg6 g3 hA6
              subst this
              exact own_neT h O6.out he hA6 g3 hg' (by simp))
          exact own_butK h1 KZ.out (own_box_ne h1 HRR.out he2)
        have hS5 := own_sl (k := 3) (enc := encS) (fun _ => rfl) (hother O5.out (by decide) (by decide)) HCS1.out
        have hS7 := own_sl (k := 2) (enc := encR) (fun _ => rfl) (hother O7.out (by decide) (by decide)) HCS3.out
        have hO6 : wf.ownsRow W2.heap.size 90 3 (.slice A6 s.nm c6) s.nm cs := own_butK HO.out KZ.out (own_box_ne HO.out HRR.out (by decide))
        have hM6 := mps_far hO6 HDN.out HLN.out (HMCK.out.but KZ.out (by
          intro b hb
          simp only [List.mem_cons, List.not_mem_nil, or_false] at hb
          subst hb
          exact norm_noInt HRR.out (fun x h => by cases h) (fun x h => by cases h) (fun x h => by cases h)))
        have hBW : w.heap.size ≤ W2.heap.size := HK2.out.size
        have hk1 : Kept W2 wr := KeptBut.dropK ((K9.out.but [g]).trans HKB.out) (by simp; omega)
        refine bodyPost_ret (v := Sls.val ⟨A5, s.nc, c5, A6, s.nm, c6, A7, s.ne, c7⟩) (by simp [results, Tryz.results54, go_sem, y0, y1, y2, Sls.val]) rfl ⟨⟨A5, s.nc, c5, A6, s.nm, c6, A7, s.ne, c7⟩, rfl, ⟨lec5, lec6, lec7, hbc, hbm, hbe, hS5.1.blank (fun a ha => Nat.le_trans hBW (hS5.2 a ha)), (hM6.low hBW).blank, hS7.1.blank (fun a ha => Nat.le_trans hBW (hS7.2 a ha)), HTO.out⟩, ?_⟩
        exact KeptBut.dropK (((Kept.trans HK2.out hk1).but [B + 1]).trans KZ.out) (by have := HBB.out; simp; omega)
end Go.Proofs.YtomgchfjachedaaGreatDoor
