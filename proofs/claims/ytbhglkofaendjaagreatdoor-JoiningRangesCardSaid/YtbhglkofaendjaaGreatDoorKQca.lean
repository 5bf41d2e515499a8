/- compose.Second: the set of the second elements of pairs. quickcheck.alone: what a function makes of each code point alone. quickcheck: the parts and the forms of code points. -/
import Derived.Deep.RegionHeld3
import Derived.Test.YtbhglkofaendjaaGreatDoorKCmb
import Derived.Test.YtbhglkofaendjaaGreatDoorKMapR
import Derived.Test.YtbhglkofaendjaaGreatDoorKSet
import Derived.Test.YtbhglkofaendjaaGreatDoorKQp
import Derived.Test.YtbhglkofaendjaaGreatDoorKPq
import Derived.Test.YtbhglkofaendjaaGreatDoorKApp
import Derived.Test.YtbhglkofaendjaaGreatDoorKRgx
import Derived.Test.YtbhglkofaendjaaGreatDoorKNrm
namespace Go.Proofs.YtbhglkofaendjaaGreatDoor
open Go Go.RowKit

/-- A set that a call returns, with the second elements of pairs in it. -/
def RetSecond (w : World) (n : Nrm) (e : Ending) (w' : World) : Prop := ∃ (R : List Rng) (A : Option Addr) (m c : Nat), e = .returned (.agg #[.slice A m c]) ∧ m ≤ c ∧ m ≤ 2000 ∧ Rngs w' A m R ∧ (∀ x, hasR R x = secondB (usableN n) x) ∧ makeR R = R ∧ Kept w w'
theorem own_lit {w : World} {g : Nat} {cur : Array Value} {e : TypeId} {size n : Nat} (h : w.heap[g]? = some (.cells cur e (0, 0))) (hs : cur.size = n * size) (hn : n ≤ maxLen) : w.ownsRow g e size (.slice (some ⟨g, 0, none⟩) n n) n cur.toList :=
  ⟨by simpa using hs, .inr ⟨g, n, cur, rfl, Nat.le_refl _, h, Nat.le_refl _, hn, hs, by rw [← hs, ← Array.length_toList, List.take_length]⟩⟩
theorem onesR_length {β : Type} (D : List ((Int × Int) × β)) : (onesR D).length = D.length := by simp [onesR]

/-- How many entries a range over a map has still to give. -/
def mapLeft (w : World) (r : Nat) : Nat := match w.heap[r]? with
  | some (.mapIter (some b) _ seen _) => match w.heap[b]? with
    | some (.map es _) => (leftOf es seen).size
    | _ => 0
  | _ => 0
theorem MapRg.left {α : Type} {w : World} {b r m : Nat} {enc : α → Value} {M D : List (α × Value)} (h : MapRg w b r enc M D m) : mapLeft w r = m := by
  obtain ⟨es, cl, si, se, c0, h1, h2, _, _, _, _, _, h8, _⟩ := h
  unfold mapLeft
  rw [h2]
  simp only [h1, h8]
theorem MapRg.le {α : Type} {w : World} {b r m : Nat} {enc : α → Value} {M D : List (α × Value)} (h : MapRg w b r enc M D m) : m ≤ M.length := by
  obtain ⟨es, cl, si, se, c0, _, _, h3, _, _, _, _, h8, _⟩ := h
  have hlen : es.size = M.length := by have := congrArg List.length h3; simpa using this
  rw [← h8, ← hlen]
  exact Array.size_filter_le

theorem own_obj {w : World} {base : Nat} {e : TypeId} {size n : Nat} {v : Value} {xs : List Value} (h : w.ownsRow base e size v n xs) {r : Nat} {o : Obj} (hr : w.heap[r]? = some o) (ho : o.isCells = false) : v.ownBlock ≠ some r := by
  intro e1
  rcases h.2 with ⟨rfl, _⟩ | ⟨g, cap, cur, rfl, _, hg, _⟩
  · cases e1
  · simp only [Value.ownBlock, Option.some.injEq] at e1
    subst e1
    rw [hr] at hg
    injection hg with hg
    rw [hg] at ho
    cases ho
theorem MapRg.objs {α : Type} {w : World} {b r m : Nat} {enc : α → Value} {M D : List (α × Value)} (h : MapRg w b r enc M D m) : (∃ o : Obj, w.heap[b]? = some o ∧ o.isCells = false) ∧ ∃ o : Obj, w.heap[r]? = some o ∧ o.isCells = false := by
  obtain ⟨es, cl, si, se, c0, h1, h2, _⟩ := h
  exact ⟨⟨_, h1, rfl⟩, ⟨_, h2, rfl⟩⟩
theorem Rngs.setCell {w : World} {A : Option Addr} {n g off : Nat} {rs : List Rng} (h : Rngs w A n rs) (hg : ∀ off x, w.cell? ⟨g, off, none⟩ ≠ some (.int .i64 x)) (v : Value) : Rngs (w.setCell ⟨g, off, none⟩ v) A n rs :=
  ⟨h.1, fun hn => by
    obtain ⟨b, o1, e, hc⟩ := h.2 hn
    refine ⟨b, o1, e, fun i x hx j u hu => ?_⟩
    have h1 := hc i x hx j u hu
    have hu2 : ∃ z, u = .int .i64 z := by
      unfold encR at hu
      match j, hu with
      | 0, hu => exact ⟨_, (Option.some.inj hu).symm⟩
      | 1, hu => exact ⟨_, (Option.some.inj hu).symm⟩
    obtain ⟨z, rfl⟩ := hu2
    have hne : b ≠ g := fun e2 => hg _ _ (by rw [← e2]; exact h1)
    rw [← h1]
    refine World.cell?_of_block ?_
    simp only [World.setCell]
    rw [Array.getElem?_modify, if_neg (fun e2 => hne e2.symm)]⟩
theorem block_noInt {w : World} {g : Nat} {A : Option Addr} {n c : Nat} {t : TypeId} (h : w.heap[g]? = some (.cells #[.slice A n c] t (0, 0))) : ∀ off x, w.cell? ⟨g, off, none⟩ ≠ some (.int .i64 x) := by
  intro off x hc
  unfold World.cell? at hc
  rw [h] at hc
  simp only [] at hc
  match off, hc with
  | 0, hc => simp at hc
  | k + 1, hc => simp at hc

set_option maxRecDepth 100000 in
set_option maxHeartbeats 4000000 in
theorem second_any (s : Sls) (n : Nrm) (w : World) (hN : NormAt w s n) (hG : Glob w) : Calls Tryz.prog 67 #[s.val] w (RetSecond w n) := by
  have HN := Lib.hid hN
  have HG := Lib.hid hG
  obtain ⟨i0, hi, hz0, hz1, hz2⟩ := info_parts info_rng
  have HI0 := Lib.hid hi
  have HZ0 := Lib.hid hz0
  have HZ1 := Lib.hid hz1
  have HZ2 := Lib.hid hz2
  clear hi hz0 hz1 hz2 hN hG
  have hk1 := Kept.alloc (Kept.refl w) (Obj.cells #[Value.slice s.Ac s.nc s.cc, Value.slice s.Am s.nm s.cm, Value.slice s.Ae s.ne s.ce] 28)
  have hk2 := Kept.alloc hk1 (Obj.cells #[Value.slice none 0 0] 26)
  have hk3 := Kept.alloc hk2 (Obj.cells #[Value.int IntKind.i64 4449, Value.int IntKind.i64 4469, Value.int IntKind.i64 4520, Value.int IntKind.i64 4546] 40)
  have HU := Lib.hid (cusable_val s n _ (HN.out.kept hk3) (HG.out.kept hk3))
  have HK3 := Lib.hid hk3
  unfold Sls.val at *
  go_enter Tryz.func67, Tryz.ntmps67
  go_wp2_with fail
  have hbs : ((w.alloc (Obj.cells #[Value.slice s.Ac s.nc s.cc, Value.slice s.Am s.nm s.cm, Value.slice s.Ae s.ne s.ce] 28)).alloc (Obj.cells #[Value.slice none 0 0] 26)).heap[w.heap.size + 1]? = some (.cells #[.slice none 0 0] 26 (0, 0)) := by
    have := heap_alloc_new (w.alloc (Obj.cells #[Value.slice s.Ac s.nc s.cc, Value.slice s.Am s.nm s.cm, Value.slice s.Ae s.ne s.ce] 28)) (Obj.cells #[Value.slice none 0 0] 26)
    rwa [World.size_alloc] at this
  have hbr : (((w.alloc (Obj.cells #[Value.slice s.Ac s.nc s.cc, Value.slice s.Am s.nm s.cm, Value.slice s.Ae s.ne s.ce] 28)).alloc (Obj.cells #[Value.slice none 0 0] 26)).alloc
      (Obj.cells #[Value.int IntKind.i64 4449, Value.int IntKind.i64 4469, Value.int IntKind.i64 4520, Value.int IntKind.i64 4546] 40)).heap[w.heap.size + 1 + 1]? = some (.cells #[Value.int IntKind.i64 4449, Value.int IntKind.i64 4469, Value.int IntKind.i64 4520, Value.int IntKind.i64 4546] 40 (0, 0)) := by
    have := heap_alloc_new ((w.alloc (Obj.cells #[Value.slice s.Ac s.nc s.cc, Value.slice s.Am s.nm s.cm, Value.slice s.Ae s.ne s.ce] 28)).alloc (Obj.cells #[Value.slice none 0 0] 26)) (Obj.cells #[Value.int IntKind.i64 4449, Value.int IntKind.i64 4469, Value.int IntKind.i64 4520, Value.int IntKind.i64 4546] 40)
    rwa [World.size_alloc, World.size_alloc] at this
  have HBS := Lib.hid (alloc_lift (o := Obj.cells #[Value.int IntKind.i64 4449, Value.int IntKind.i64 4469, Value.int IntKind.i64 4520, Value.int IntKind.i64 4546] 40) hbs)
  have HBR := Lib.hid hbr
  clear hbs hbr hk1 hk2 hk3
  generalize (((w.alloc (Obj.cells #[Value.slice s.Ac s.nc s.cc, Value.slice s.Am s.nm s.cm, Value.slice s.Ae s.ne s.ce] 28)).alloc (Obj.cells #[Value.slice none 0 0] 26)).alloc
      (Obj.cells #[Value.int IntKind.i64 4449, Value.int IntKind.i64 4469, Value.int IntKind.i64 4520, Value.int IntKind.i64 4546] 40)) = W3 at *
  refine HU.out.mono ?_
  rintro e w1 ⟨rfl, hk1⟩
  have hN1 := usableS_at (HN.out.kept (Kept.trans HK3.out hk1))
  have HCO := Lib.hid (composites_any (usableS s n) (usableN n) w1 hN1 (usableN_good n) (HG.out.kept (Kept.trans HK3.out hk1)))
  have hbm := hN1.bm
  have hdl := hN1.dec.1
  have HDL := Lib.hid (show (usableN n).decomp.length ≤ 1000 by omega)
  unfold Sls.val at *
  clear hN1 hbm hdl HU
  go_wp2_with fail
  refine HCO.out.mono ?_
  rintro e w2 ⟨bm, M, rfl, hM, ⟨hCM, hML⟩, hbm, hk2⟩
  obtain ⟨o, m0, hrg, hR0⟩ := MapRg.start (P := Tryz.prog) (T := 105) (K := 117) (E := 3) hM (by kernel_rfl)
  have hk3 := Kept.trans hk1 (Kept.alloc hk2 o)
  have HK4 := Lib.hid (Kept.trans HK3.out hk3)
  have hbs4 := (hk3.block _ (block_lt HBS.out)).trans HBS.out
  have hown4 : OwnR (w2.alloc o) (w.heap.size + 1 + 1) (.slice (some ⟨w.heap.size + 1 + 1, 0, none⟩) 2 2) (vtR ++ onesR ([] : List ((Int × Int) × Value))) := own_lit ((hk3.block _ (block_lt HBR.out)).trans HBR.out) rfl (by decide)
  have hml4 := hR0.le
  have HR0 := Lib.hid hR0
  have HBS4 := Lib.hid hbs4
  have HO4 := Lib.hid hown4
  have HCM := Lib.hid hCM
  have hr2 : w.heap.size + 1 + 1 < w2.heap.size := by have h1 := block_lt HBR.out; have h2 := hk1.size; have h3 := hk2.size; omega
  have hbm2 : w.heap.size + 1 + 1 < bm := by have h1 := block_lt HBR.out; have h2 := hk1.size; omega
  have hml : M.length ≤ 1000 := by have := HDL.out; omega
  clear hR0 hbs4 hown4 hCM HCO HBS HBR hk1 hk2 hk3 HDL HK3 hML hM
  go_wp2_with fail
  clear hrg
  generalize hW4 : w2.alloc o = W4 at *
  clear hW4
  obtain ⟨B, hB⟩ : ∃ B : Nat, B = w.heap.size := ⟨_, rfl⟩
  have HBW := Lib.hid hB
  rw [← hB] at HBS4 HO4 hr2 hbm2 ⊢
  clear hB
  generalize w2.heap.size = r at *
  go_loopw [3, 4] (fun q _ wr => ∃ (E : List ((Int × Int) × Value)) (m : Nat), MapRg wr bm r encP M E.reverse m ∧ E.length + m ≤ 1000 ∧ OwnR wr (B + 1 + 1) q (vtR ++ onesR E) ∧ wr.heap[B + 1]? = some (.cells #[.slice none 0 0] 26 (0, 0)) ∧ Kept w wr) (fun _ _ wr => mapLeft wr r)
  case atStart => exact ⟨[], m0, HR0.out, by simp; omega, HO4.out, HBS4.out, HK4.out⟩
  case round =>
    clear HR0 HBS4 HO4 HK4
    obtain ⟨E, m, hR, hEm, hO, hbs, hK⟩ := hrel
    have HR := Lib.hid hR
    have HO := Lib.hid hO
    have HBS := Lib.hid hbs
    have HK := Lib.hid hK
    have HLM := Lib.hid hR.left
    have hsz := block_lt hbs
    have hszr := hR.lt.2
    clear hO hbs hK
    rcases hR.next (P := Tryz.prog) 0 with ⟨rfl, hall, hnx⟩ | ⟨p, hp, w5, m', hlt, hR5, hg5, hnx, hent⟩
    · have HALL := Lib.hid hall
      obtain ⟨A3, c3, rfl, hle3, hI3⟩ := Sl.of_own (k := 2) (enc := encR) (fun _ => rfl) HO.out
      obtain ⟨m3, hm3⟩ : ∃ m3 : Nat, m3 = (vtR ++ onesR E).length := ⟨_, rfl⟩
      have hm3b : m3 ≤ 1002 := by rw [hm3, List.length_append, onesR_length]; simp only [vtR, List.length_cons, List.length_nil]; omega
      rw [← hm3] at hle3 hI3 ⊢
      have HMK := Lib.hid (make_any A3 m3 c3 (vtR ++ onesR E) wr (by omega) hI3)
      have HRES := Lib.hid (show ∀ x, hasR (makeR (vtR ++ onesR E)) x = secondB (usableN n) x from fun x => by
        rw [has_make]
        exact has_second (usableN_good n) HCM.out (fun p hp => HR.out.mem p (by simpa using hp)) (fun p hp => by simpa using HALL.out p hp) x)
      have HML := Lib.hid (show (makeR (vtR ++ onesR E)).length ≤ 2000 by have := makeR_length (vtR ++ onesR E); omega)
      clear hall hR hI3 hm3
      generalize vtR ++ onesR E = Y at *
      have HRR := Lib.hid (makeR_again Y)
      go_wp2_with fail
      clear hnx
      refine HMK.out.mono ?_
      rintro e w6 ⟨A6, n6, c6, rfl, hle6, hI6, hk6⟩
      have hbs6 := (hk6.block _ hsz).trans HBS.out
      have b0 := cell_of_block (i := 0) hbs6 rfl
      have f0 := frozen_of_block (i := 0) hbs6
      simp only [List.getElem_toArray, List.getElem_cons_zero] at b0
      have HI6 := Lib.hid hI6
      have HB6 := Lib.hid hbs6
      have HNN := Lib.hid (show n6 ≤ 2000 by rw [hI6.1]; exact HML.out)
      have HK6 := Lib.hid (Kept.trans HK.out hk6)
      clear hI6 hbs6
      go_wp2_with fail
      have hc := heap_setCell_one (v := .slice A6 n6 c6) HB6.out
      have g0 : (w6.setCell ⟨B + 1, 0, none⟩ (.slice A6 n6 c6)).cell? ⟨B + 1, 0, none⟩ = some (.slice A6 n6 c6) := cell_of_block hc rfl
      refine bodyPost_ret (v := .agg #[.slice A6 n6 c6]) (by simp [results, Tryz.results67, go_sem, g0]) rfl ?_
      have hkf : Kept w (w6.setCell ⟨B + 1, 0, none⟩ (.slice A6 n6 c6)) := Kept.setCell HK6.out (by rw [HBW.out]; exact Nat.le_succ _) _
      refine ⟨makeR Y, A6, n6, c6, rfl, hle6, HNN.out, ?_, HRES.out, ?_, hkf⟩
      · exact HI6.out.setCell (block_noInt HB6.out) _
      · rw [← refMake_eq, ← HRR.out]
    · have HR5 := Lib.hid hR5
      obtain ⟨⟨x, y⟩, pv⟩ := p
      simp only [encP] at hnx hent
      have hO5 := World.ownsRow.kept HO.out hg5 (by
        obtain ⟨o, ho, hc⟩ := hR.objs.2
        exact .inr (own_obj HO.out ho hc))
      clear hR hR5 HR
      go_wp2_with (at_builtin; refine wpList_append_own _ rfl _ _ 24 rfl (B + 1 + 1) 40 i0 (.agg #[.int .i64 0, .int .i64 0]) 2 16 Tryz.underlying24 HI0.out HZ0.out HZ1.out HZ2.out rfl (by decide) _ _ _ rfl ((World.ownsRow.alloc hO5 _).alloc _) ⟨w5.heap.size + 1, 0, none⟩ 1 1 [.int .i64 y, .int .i64 y] rfl rfl (by exact cell_two_new (w := w5.alloc _) (by simp)) (by simp [Value.oneCell']) (by unfold maxLen; simp [vtR, onesR]; omega) (by simp [vtR, onesR]; omega) (by have := hg5.size; simp; omega) ?_; intro v1 w1 hown1 hg1 _)
      have hown2 : OwnR w1 (B + 1 + 1) v1 (vtR ++ onesR (E ++ [((x, y), pv)])) := by
        have := hown1
        simpa [OwnR, encR, onesR, Nat.add_assoc] using this
      have hka := Kept.alloc (Kept.alloc (Kept.refl w5) (Obj.cells #[Value.int IntKind.i64 x, Value.int IntKind.i64 y] 117)) (Obj.cells #[Value.int IntKind.i64 y, Value.int IntKind.i64 y] 40)
      have hR6 : MapRg w1 bm r encP M (E ++ [((x, y), pv)]).reverse m' := by
        have h1 := HR5.out.kept hka
        rw [List.reverse_append]
        obtain ⟨⟨o1, ho1, hc1⟩, ⟨o2, ho2, hc2⟩⟩ := h1.objs
        have hOa := (World.ownsRow.alloc hO5 (Obj.cells #[Value.int IntKind.i64 x, Value.int IntKind.i64 y] 117)).alloc (Obj.cells #[Value.int IntKind.i64 y, Value.int IntKind.i64 y] 40)
        exact h1.grown hg1 (own_obj hOa ho1 hc1).symm (own_obj hOa ho2 hc2).symm
      have hlt3 := World.ownsRow.lt hO5
      have hk5 : Kept w w5 := Below.grown HK.out hg5 HK.out.size (fun q e => by injection e with e; have := HBW.out; omega)
      have hk6 : Kept w w1 := (Kept.alloc (Kept.alloc hk5 (Obj.cells #[Value.int IntKind.i64 x, Value.int IntKind.i64 y] 117)) (Obj.cells #[Value.int IntKind.i64 y, Value.int IntKind.i64 y] 40)).grown hg1 (by have := hk5.size; simp; omega) (fun q e => by have := (hlt3 q e).1; have := HBW.out; omega)
      have hbs6 : w1.heap[B + 1]? = some (.cells #[.slice none 0 0] 26 (0, 0)) := by
        have h5 := (hg5.block (B + 1) hsz (fun e => by injection e with e; omega)).trans HBS.out
        refine (hg1.block (B + 1) (by have := hg5.size; simp; omega) (fun e => by have := (hlt3 _ e.symm).1; omega)).trans (alloc_lift (alloc_lift h5))
      have HO6 := Lib.hid hown2
      have HR6 := Lib.hid hR6
      have HB6 := Lib.hid hbs6
      clear hown1 hown2 hg1 hR6 hbs6 hO5 hlt3 hka hnx hent
      go_wp2_with fail
      go_roundw
      case rel => exact ⟨E ++ [((x, y), pv)], m', HR6.out, by simp; omega, HO6.out, HB6.out, hk6⟩
      case measure => rw [HR6.out.left, HLM.out]; exact hlt
end Go.Proofs.YtbhglkofaendjaaGreatDoor
namespace Go.Proofs.YtbhglkofaendjaaGreatDoor
open Go Go.RowKit

theorem own_ne {w : World} {b1 b2 : Nat} {e1 e2 : TypeId} {s1 s2 : Nat} {v1 v2 : Value} {n1 n2 : Nat} {xs ys : List Value} (h1 : w.ownsRow b1 e1 s1 v1 n1 xs) (h2 : w.ownsRow b2 e2 s2 v2 n2 ys) (he : e1 ≠ e2) : v1.ownBlock = none ∨ v1.ownBlock ≠ v2.ownBlock := by
  rcases h1.2 with ⟨rfl, _⟩ | ⟨g, cap, cur, rfl, _, hg, _⟩
  · exact .inl rfl
  · right
    rcases h2.2 with ⟨rfl, _⟩ | ⟨g2, cap2, cur2, rfl, _, hg2, _⟩
    · simp [Value.ownBlock]
    · intro e
      simp only [Value.ownBlock, Option.some.injEq] at e
      subst e
      rw [hg] at hg2
      injection hg2 with hg2
      injection hg2 with _ h
      exact he h
theorem own_mono {w : World} {b : Nat} {e : TypeId} {s : Nat} {v : Value} {n : Nat} {xs : List Value} (h : w.ownsRow b e s v n xs) : w.ownsRow 0 e s v n xs :=
  ⟨h.1, h.2.imp id (fun ⟨g, cap, cur, h1, _, h3⟩ => ⟨g, cap, cur, h1, Nat.zero_le _, h3⟩)⟩
theorem int_ints_ne : (3 : TypeId) ≠ 29 := by decide
/-- Slices of numbers, each in a block of its own kind. -/
def ValsT (w : World) (vals : List Value) (T : List (List Int)) : Prop := vals.length = T.length ∧ ∀ (i : Nat) (v : Value) (xs : List Int), vals[i]? = some v → T[i]? = some xs → OwnI w 0 v xs
theorem ValsT.nil (w : World) : ValsT w [] [] := ⟨rfl, fun i v xs h => by simp at h⟩
theorem ValsT.kept {w w' : World} {vals : List Value} {T : List (List Int)} (h : ValsT w vals T) (hk : Kept w w') : ValsT w' vals T :=
  ⟨h.1, fun i v xs hv hx => World.ownsRow.kept (h.2 i v xs hv hx) (row := none) ⟨hk.os, hk.tape, hk.output, hk.size, fun k hk2 _ => hk.block k hk2⟩ (by cases h0 : v.ownBlock <;> simp)⟩
theorem ValsT.grown {w w' : World} {vals : List Value} {T : List (List Int)} (h : ValsT w vals T) {out : Value} {b n : Nat} {ys : List Value} (ho : w.ownsRow b 29 1 out n ys) (hg : w.grownBy w' out.ownBlock) : ValsT w' vals T :=
  ⟨h.1, fun i v xs hv hx => World.ownsRow.kept (h.2 i v xs hv hx) hg (own_ne (h.2 i v xs hv hx) ho int_ints_ne)⟩
theorem ValsT.snoc {w : World} {vals : List Value} {T : List (List Int)} (h : ValsT w vals T) {v : Value} {xs : List Int} (hv : OwnI w 0 v xs) : ValsT w (vals ++ [v]) (T ++ [xs]) := by
  refine ⟨by simp [h.1], fun i u ys hu hy => ?_⟩
  rcases Nat.lt_or_ge i vals.length with hi | hi
  · rw [List.getElem?_append_left hi] at hu
    rw [List.getElem?_append_left (by rw [← h.1]; exact hi)] at hy
    exact h.2 i u ys hu hy
  · rw [List.getElem?_append_right hi] at hu
    rw [List.getElem?_append_right (by rw [← h.1]; exact hi), ← h.1] at hy
    cases hd : i - vals.length with
    | zero => rw [hd] at hu hy; simp only [List.getElem?_cons_zero, Option.some.injEq] at hu hy; rw [← hu, ← hy]; exact hv
    | succ k => rw [hd] at hu; simp at hu
theorem ValsT.tab {w : World} {vals : List Value} {T : List (List Int)} (h : ValsT w vals T) {out : Value} {b : Nat} (ho : w.ownsRow b 29 1 out vals.length vals) : ∃ B m c, out = .slice B m c ∧ m ≤ c ∧ Tab w B m T := by
  rcases ho.2 with ⟨rfl, h0⟩ | ⟨g, cap, cur, rfl, _, hg, hle, _, hsz, hx⟩
  · exact ⟨none, 0, 0, rfl, Nat.le_refl _, by rw [← h.1]; exact h0.symm, fun h => by omega⟩
  · refine ⟨_, _, _, rfl, hle, by rw [h.1], fun _ => ⟨g, 0, rfl, fun i xs hxs => ?_⟩⟩
    have hi := lt_of_getElem?_some hxs
    obtain ⟨v, hv⟩ := getElem?_some_of_lt (l := vals) (k := i) (by rw [h.1]; exact hi)
    obtain ⟨A, c, e, hle2, hI⟩ := OwnI.sl (h.2 i v xs hv hxs)
    refine ⟨A, xs.length, c, ?_, hle2, hI⟩
    rw [Nat.zero_add, ho.cellAt i (by rw [h.1]; omega), hv, e]
theorem gapped_snoc {l : List Int} {k : Nat} {x : Int} (h : l[k]? = some x) : gapped (l.take (k + 1)) = gapped (l.take k) ++ [x, -1] := by
  unfold gapped
  rw [take_succ_some h, List.flatMap_append]
  simp
theorem gapped_length (l : List Int) : (gapped l).length = 2 * l.length := by
  induction l with
  | nil => rfl
  | cons a l ih => unfold gapped at *; simp only [List.flatMap_cons, List.length_append, List.length_cons, List.length_nil, ih]; omega

theorem make_tab (w : World) (k : Nat) (hk : k ≤ 100000) : ∃ w', (Instr.makeSlice 77 (.int .i64 0) (.int .i64 (k : Int))).run Tryz.prog w = .ok (.slice (some ⟨w.heap.size, 0, none⟩) 0 k) w' ∧
    w'.ownsRow w.heap.size 29 1 (.slice (some ⟨w.heap.size, 0, none⟩) 0 k) 0 [] ∧ Kept w w' ∧ ∀ off x, w'.cell? ⟨w.heap.size, off, none⟩ ≠ some (.int .i64 x) := by
  obtain ⟨i1, hi1, hy0, hy1, hy2⟩ := info_parts1 info_ints
  have hr := run_make (P := Tryz.prog) w 77 29 i1 (.slice none 0 0) Tryz.underlying77 hi1 hy0 .i64 .i64 0 k (Int.le_refl _) (by omega) (by rw [hy2]; omega) (by omega)
  simp only [Int.toNat_zero, Int.toNat_natCast] at hr
  refine ⟨_, hr, World.ownsRow_made w _ k (Nat.le_refl _) (by unfold maxLen; omega) (by rw [size_madeCells, hy1]), Kept.alloc (Kept.refl _) _, fun off x hc => ?_⟩
  rw [box_cell, show (Value.slice none 0 0).cells = #[.slice none 0 0] from rfl, ← Array.getElem?_toList, toList_madeCells_one] at hc
  have := List.eq_of_mem_replicate (List.mem_of_getElem? hc)
  cases this

theorem gapCut_gap {X : List Int} {k : Nat} {cur : List Int} (h : X[k]? = some (-1)) : gapCut (X.drop k) cur = cur :: gapCut (X.drop (k + 1)) [] := by
  rw [drop_some h, gapCut, if_pos rfl]
theorem gapCut_more {X : List Int} {k : Nat} {cur : List Int} {x : Int} (h : X[k]? = some x) (hx : x ≠ -1) : gapCut (X.drop k) cur = gapCut (X.drop (k + 1)) (cur ++ [x]) := by
  rw [drop_some h, gapCut, if_neg hx]
theorem Ints.away {w w' : World} {A : Option Addr} {n : Nat} {xs : List Int} {row : Option Nat} (h : Ints w A n xs) (hg : w.grownBy w' row) (hne : 0 < n → ∀ a, A = some a → some a.block ≠ row) : Ints w' A n xs :=
  ⟨h.1, fun hn => by
    obtain ⟨b, off, e, hc⟩ := h.2 hn
    exact ⟨b, off, e, fun i x hx j u hu => hg.cell (hc i x hx j u hu) (hne hn ⟨b, off, none⟩ e)⟩⟩
theorem Ints.lt {w : World} {A : Option Addr} {n : Nat} {xs : List Int} (h : Ints w A n xs) (hn : 0 < n) : ∀ a, A = some a → a.block < w.heap.size := by
  obtain ⟨b, off, x, e, hx, hc⟩ := int_at h hn
  intro a ha
  rw [e] at ha
  injection ha with ha
  rw [← ha]
  exact cell_lt hc

set_option maxRecDepth 100000 in
set_option maxHeartbeats 4000000 in
theorem alone_any (gf : Nat) (lb : Value) (eg : ∀ args w, (callFunc gf args).run Tryz.prog w = .ok (.enter gf args) w) (A : Option Addr) (n c : Nat) (codes : List Int) (G : Int → List Int) (w : World) (hn : n ≤ 100000) (hI : Ints w A n codes)
    (hG : ∀ c ∈ codes, ∀ e ∈ G c, e ≠ -1) (hlen : (codes.flatMap fun c => G c ++ [-1]).length ≤ 100000000)
    (hF : ∀ B m d w', Kept w w' → m = (gapped codes).length → Ints w' B m (gapped codes) → Calls Tryz.prog gf #[.slice B m d, lb] w' (RetInts w' (codes.flatMap fun c => G c ++ [-1]))) :
    Calls Tryz.prog 69 #[.slice A n c, .func (.func gf) #[] #[lb]] w (RetTab w (codes.map G)) := by
  have HI := Lib.hid hI
  have HN := Lib.hid hI.1
  have HF := Lib.hid hF
  have HCUT := Lib.hid (gapCut_all G codes hG)
  have HLEN := Lib.hid hlen
  obtain ⟨i0, hi, hz0, hz1, hz2⟩ := info_parts1 info_int
  obtain ⟨i1, hi1, hy0, hy1, hy2⟩ := info_parts1 info_ints
  have HI0 := Lib.hid hi
  have HZ0 := Lib.hid hz0
  have HZ1 := Lib.hid hz1
  have HZ2 := Lib.hid hz2
  have HI1 := Lib.hid hi1
  have HY0 := Lib.hid hy0
  have HY1 := Lib.hid hy1
  have HY2 := Lib.hid hy2
  clear hi hz0 hz1 hz2 hi1 hy0 hy1 hy2 hI hG hlen hF
  generalize (codes.flatMap fun c => G c ++ [-1]) = X at *
  go_enter Tryz.func69, Tryz.ntmps69
  go_wp2_with fail
  go_loopw [5, 14] (fun t i wr => ∃ k : Nat, k ≤ n ∧ i = .int .i64 k ∧ OwnI wr w.heap.size t (gapped (codes.take k)) ∧ Kept w wr) (fun _ i _ => n - (intOf i).toNat)
  case atStart => exact ⟨0, Nat.zero_le _, rfl, (World.ownsRow_nil _ _ _ _ : OwnI w w.heap.size (.slice none 0 0) []), Kept.refl _⟩
  case round =>
    obtain ⟨k, hk, rfl, hown, hkw⟩ := hrel
    have HO := Lib.hid hown
    have HKW := Lib.hid hkw
    clear hown
    by_cases hlt : k < n
    · obtain ⟨b, off, x, rfl, hx, c0⟩ := int_at (HI.out.kept hkw) hlt
      have HX := Lib.hid hx
      have hl2 : (gapped (codes.take k)).length ≤ 200000 := by
        rw [gapped_length]
        have : (codes.take k).length ≤ k := List.length_take_le _ _
        omega
      have hsz := hkw.size
      clear hx hkw
      go_wp2_with (at_builtin; refine wpList_append_own _ rfl _ _ 29 rfl w.heap.size 3 i0 (.int .i64 0) 1 8 Tryz.underlying29 HI0.out HZ0.out HZ1.out HZ2.out rfl (by decide) _ _ _ rfl (World.ownsRow.alloc HO.out _) ⟨wr.heap.size, 0, none⟩ 2 2 [.int .i64 x, .int .i64 (-1)] rfl rfl (cell_two_new rfl) (by simp [Value.oneCell']) (by unfold maxLen; omega) (by omega) (by simp; omega) ?_; intro v1 w1 hown1 hg1 _)
      have hown2 : OwnI w1 w.heap.size v1 (gapped (codes.take (k + 1))) := by
        rw [gapped_snoc HX.out]
        have := hown1
        simpa [OwnI] using this
      have hk1 : Kept w w1 := (Kept.alloc HKW.out (Obj.cells #[Value.int IntKind.i64 x, Value.int IntKind.i64 (-1)] 3)).grown hg1 (by simp; omega) (fun q e => (World.ownsRow.lt HO.out q e).1)
      have HO2 := Lib.hid hown2
      clear hown1 hown2 hg1
      go_wp2_with fail
      go_roundw
      case rel => exact ⟨k + 1, by omega, by go_num, HO2.out, hk1⟩
      case measure => simp [intOf]; omega
    · have hkn : k = n := by omega
      have hall : gapped (codes.take k) = gapped codes := by rw [List.take_of_length_le (by have := HN.out; omega)]
      have hown3 := HO.out
      rw [hall] at hown3
      obtain ⟨B1, d1, rfl, hle1, hI1⟩ := OwnI.sl hown3
      have hgl : (gapped codes).length ≤ 200000 := by rw [gapped_length]; have := HN.out; omega
      have HI1S := Lib.hid hI1
      have HLE1 := Lib.hid hle1
      obtain ⟨m1, hm1⟩ : ∃ m1 : Nat, m1 = (gapped codes).length := ⟨_, rfl⟩
      have HM1 := Lib.hid hm1
      rw [← hm1] at HI1S HLE1 hgl ⊢
      clear hown3 hI1 hle1 hall hm1 HO
      subst hkn
      obtain ⟨w5, hmk, hown5, hkr5, hno5⟩ := make_tab wr k hn
      have hk5 : Kept w w5 := Kept.trans HKW.out hkr5
      have HO5 := Lib.hid hown5
      have HR5 := Lib.hid hkr5
      have HNO5 := Lib.hid hno5
      have HCALL := Lib.hid (HF.out B1 m1 d1 w5 hk5 HM1.out (HI1S.out.kept hkr5))
      have hs1 := HKW.out.size
      have HOB := Lib.hid (show (Value.slice (some ⟨wr.heap.size, 0, none⟩) 0 k).ownBlock = some wr.heap.size from rfl)
      clear hown5 hkr5 HF hno5
      generalize (Value.slice (some ⟨wr.heap.size, 0, none⟩) 0 k) = vout at *
      go_wp2_with fail
      clear hmk
      refine HCALL.out.mono ?_
      rintro e w6 ⟨A6, n6, c6, rfl, hle6, hI6, hk6⟩
      have hn6 : n6 ≤ 100000000 := by rw [hI6.1]; exact HLEN.out
      have HI6 := Lib.hid hI6
      have HN6 := Lib.hid hI6.1
      have HO6 := Lib.hid (World.ownsRow.kept HO5.out (row := none) ⟨hk6.os, hk6.tape, hk6.output, hk6.size, fun q hq _ => hk6.block q hq⟩ (by cases h0 : vout.ownBlock <;> simp))
      have HK6 := Lib.hid (Kept.trans hk5 hk6)
      have hs6 : wr.heap.size ≤ w6.heap.size := Nat.le_trans HR5.out.size hk6.size
      have HAW := Lib.hid (show 0 < n6 → ∀ a, A6 = some a → some a.block ≠ vout.ownBlock by
        intro h0 a ha e
        obtain ⟨b, off, x, e1, hx, hc⟩ := int_at hI6 h0
        rw [e1] at ha
        injection ha with ha
        subst ha
        rw [HOB.out] at e
        injection e with e
        simp only at e
        subst e
        have h5 := (HO5.out.lt _ HOB.out).2
        rw [World.cell?_of_block (hk6.block _ h5)] at hc
        exact HNO5.out _ _ hc)
      obtain ⟨S0, hS0⟩ : ∃ S0 : Nat, S0 = wr.heap.size := ⟨_, rfl⟩
      rw [← hS0] at HO6 hs6 hs1
      clear hI6 hk5 hk6 HCALL HO5 HNO5 HOB HR5 HI1S hkw HKW hS0
      go_wp2_with fail
      go_loopw [8, 9, 30] (fun o p i ws => ∃ (k : Nat) (wb : World) (T : List (List Int)) (vals : List Value) (cur : List Int), k ≤ n6 ∧ i = .int .i64 k ∧ ws.ownsRow S0 29 1 o vals.length vals ∧ ValsT wb vals T ∧ Ints wb A6 n6 X ∧ Kept wb ws ∧ OwnI ws wb.heap.size p cur ∧ gapCut X [] = T ++ gapCut (X.drop k) cur ∧ vals.length ≤ k ∧ cur.length ≤ k ∧ Kept w ws ∧ S0 ≤ wb.heap.size ∧ (0 < n6 → ∀ a, A6 = some a → some a.block ≠ o.ownBlock)) (fun _ _ i _ => n6 - (intOf i).toNat)
      case atStart => exact ⟨0, w6, [], [], [], Nat.zero_le _, rfl, HO6.out, ValsT.nil _, HI6.out, Kept.refl _, (World.ownsRow_nil _ _ _ _ : OwnI w6 w6.heap.size (.slice none 0 0) []), rfl, Nat.zero_le _, Nat.zero_le _, HK6.out, hs6, HAW.out⟩
      case round =>
        clear HI6 HO6 HK6 HAW hs6 w6
        obtain ⟨k, wb, T, vals, cur, hk, rfl, hO, hV, hX, hKB, hP, hcut, hvl, hcl, hKW, hsb, haw⟩ := hrel
        have HO := Lib.hid hO
        have HV := Lib.hid hV
        have HX := Lib.hid hX
        have HKB := Lib.hid hKB
        have HP := Lib.hid hP
        have HC := Lib.hid hcut
        have HKW := Lib.hid hKW
        have HAW := Lib.hid haw
        have hs2 : S0 ≤ wr.heap.size := Nat.le_trans hsb hKB.size
        have hs3 := hKB.size
        clear hO hV hX hP hcut hKW haw hKB
        by_cases hlt : k < n6
        · obtain ⟨b, off, x, rfl, hx, c0⟩ := int_at (HX.out.kept HKB.out) hlt
          have HXK := Lib.hid hx
          clear hx
          by_cases h1 : x = -1
          · subst h1
            obtain ⟨A9, c9, h9, hle9, hI9⟩ := OwnI.sl HP.out
            obtain ⟨m9, hm9⟩ : ∃ m9 : Nat, m9 = cur.length := ⟨_, rfl⟩
            rw [← hm9] at h9
            subst h9
            clear hm9 hI9 hle9
            go_wp2_with (at_builtin; refine wpList_append_own_at _ rfl _ _ 77 rfl S0 29 i1 (.slice none 0 0) 1 24 Tryz.underlying77 HI1.out HY0.out HY1.out HY2.out rfl (by decide) _ _ _ rfl (World.ownsRow.alloc HO.out _) ⟨wr.heap.size, 0, none⟩ 1 1 [.slice A9 m9 c9] rfl rfl (cell_one_at rfl) (by simp [Value.oneCell']) (by unfold maxLen; omega) (by omega) (by simp; omega) ?_; intro v1 w1 hown1 hg1 _ hob1)
            have hka := Kept.alloc (Kept.refl wr) (Obj.cells #[Value.slice A9 m9 c9] 29)
            have hown2 : w1.ownsRow S0 29 1 v1 (vals ++ [Value.slice A9 m9 c9]).length (vals ++ [Value.slice A9 m9 c9]) := by
              have := hown1
              simpa using this
            have hPa : OwnI (wr.alloc (Obj.cells #[Value.slice A9 m9 c9] 29)) wb.heap.size (.slice A9 m9 c9) cur := World.ownsRow.alloc HP.out _
            have hOa := World.ownsRow.alloc HO.out (Obj.cells #[Value.slice A9 m9 c9] 29)
            have hV1 : ValsT w1 (vals ++ [.slice A9 m9 c9]) (T ++ [cur]) := ((HV.out.kept (Kept.trans HKB.out hka)).grown hOa hg1).snoc (own_mono (World.ownsRow.kept hPa hg1 (own_ne hPa hOa int_ints_ne)))
            have hkw1 : Kept w w1 := (Kept.alloc HKW.out (Obj.cells #[Value.slice A9 m9 c9] 29)).grown hg1 (by have := HKW.out.size; simp; omega) (fun q e => by have := (World.ownsRow.lt HO.out q e).1; omega)
            have hX1 := Ints.away (HX.out.kept (Kept.trans HKB.out hka)) hg1 HAW.out
            have haw1 : 0 < n6 → ∀ a, some (⟨b, off, none⟩ : Addr) = some a → some a.block ≠ v1.ownBlock := by
              intro h0 a ha
              rcases hob1 with e | e
              · rw [e]; exact HAW.out h0 a ha
              · rw [e]
                have := HX.out.lt h0 a ha
                intro e2
                injection e2 with e2
                simp only [World.size_alloc] at e2
                omega
            have hsz1 : S0 ≤ w1.heap.size := by have := hg1.size; simp only [World.size_alloc] at this; omega
            have HO2 := Lib.hid hown2
            have HV2 := Lib.hid hV1
            have HX2 := Lib.hid hX1
            have HAW2 := Lib.hid haw1
            clear hown1 hown2 hg1 hV1 hX1 haw1 hPa hOa hob1 hka
            go_wp2_with fail
            go_roundw
            case rel => exact ⟨k + 1, w1, T ++ [cur], vals ++ [.slice A9 m9 c9], [], by omega, by go_num, HO2.out, HV2.out, HX2.out, Kept.refl _, (World.ownsRow_nil _ _ _ _ : OwnI w1 w1.heap.size (.slice none 0 0) []), by rw [HC.out, gapCut_gap HXK.out]; simp, by simp; omega, by simp, hkw1, hsz1, HAW2.out⟩
            case measure => simp [intOf]; omega
          · have h1b : (x != -1) = true := by simp [h1]
            have HNE := Lib.hid h1
            clear h1
            go_wp2_with (at_builtin; refine wpList_append_own _ rfl _ _ 29 rfl wb.heap.size 3 i0 (.int .i64 0) 1 8 Tryz.underlying29 HI0.out HZ0.out HZ1.out HZ2.out rfl (by decide) _ _ _ rfl (World.ownsRow.alloc HP.out _) ⟨wr.heap.size, 0, none⟩ 1 1 [.int .i64 x] rfl rfl (cell_one_at rfl) (by simp [Value.oneCell']) (by unfold maxLen; omega) (by omega) (by simp; omega) ?_; intro v1 w1 hown1 hg1 _)
            have hown2 : OwnI w1 wb.heap.size v1 (cur ++ [x]) := by
              have := hown1
              simpa [OwnI] using this
            have hkb1 : Kept wb w1 := (Kept.alloc HKB.out (Obj.cells #[Value.int IntKind.i64 x] 3)).grown hg1 (by simp; omega) (fun q e => (World.ownsRow.lt HP.out q e).1)
            have hkw1 : Kept w w1 := (Kept.alloc HKW.out (Obj.cells #[Value.int IntKind.i64 x] 3)).grown hg1 (by have := HKW.out.size; simp; omega) (fun q e => by have := (World.ownsRow.lt HP.out q e).1; omega)
            have hO1 := World.ownsRow.kept (World.ownsRow.alloc HO.out (Obj.cells #[Value.int IntKind.i64 x] 3)) hg1 (own_ne HO.out HP.out int_ints_ne.symm)
            have HO2 := Lib.hid hO1
            have HP2 := Lib.hid hown2
            clear hown1 hown2 hg1 hO1
            go_wp2_with fail
            go_roundw
            case rel => exact ⟨k + 1, wb, T, vals, cur ++ [x], by omega, by go_num, HO2.out, HV.out, HX.out, hkb1, HP2.out, by rw [HC.out, gapCut_more HXK.out HNE.out], by omega, by simp; omega, hkw1, hsb, HAW.out⟩
            case measure => simp [intOf]; omega
        · have hd : X.drop k = [] := List.drop_of_length_le (by have := HN6.out; omega)
          have HT := Lib.hid (show T = codes.map G by
            have := HC.out
            rw [HCUT.out, hd, gapCut, List.append_nil] at this
            exact this.symm)
          have hke : k = n6 := by omega
          clear hd
          subst hke
          obtain ⟨B8, m8, c8, rfl, hle8, hT8⟩ := (HV.out.kept HKB.out).tab HO.out
          have HT8 := Lib.hid hT8
          clear hT8
          go_wp2_with fail
          go_ret
          rw [← HT.out]
          exact ⟨B8, m8, c8, rfl, hle8, HT8.out, HKW.out⟩
end Go.Proofs.YtbhglkofaendjaaGreatDoor
namespace Go.Proofs.YtbhglkofaendjaaGreatDoor
open Go Go.RowKit

/-- The cells of a checker. -/
def Sls.chk (s : Sls) (form : Int) (cp : Bool) (S : Value) : Array Value := #[.slice s.Ac s.nc s.cc, .slice s.Am s.nm s.cm, .slice s.Ae s.ne s.ce, .int .i64 form, .bool cp, S]

set_option maxHeartbeats 1000000 in
theorem parts1_any (s : Sls) (n : Nrm) (form : Int) (cp : Bool) (S : Value) (Bx : Nat) (A : Option Addr) (nt ct : Nat) (text : List Int) (w : World) (hN : NormAt w s n) (hG : Glob w) (hnt : nt ≤ 500000) (hT : Ints w A nt text)
    (hB : w.heap[Bx]? = some (.cells (s.chk form cp S) 69 (0, 0))) :
    Calls Tryz.prog 70 #[.slice A nt ct, .pointer (some ⟨Bx, 0, none⟩)] w (RetInts w (textOf n cp text)) := by
  have HT := Lib.hid (text_any s n A nt ct text cp w hN hG hnt hT)
  have a0 : w.cell? ⟨Bx, 0, none⟩ = some (.slice s.Ac s.nc s.cc) := cell_of_block hB rfl
  have a1 : w.cell? ⟨Bx, 1, none⟩ = some (.slice s.Am s.nm s.cm) := cell_of_block hB rfl
  have a2 : w.cell? ⟨Bx, 2, none⟩ = some (.slice s.Ae s.ne s.ce) := cell_of_block hB rfl
  have a4 : w.cell? ⟨Bx, 4, none⟩ = some (.bool cp) := cell_of_block hB rfl
  clear hN hG hT hB
  generalize textOf n cp text = X at *
  unfold Sls.val at *
  go_enter Tryz.func70, Tryz.ntmps70
  go_wp2_with fail
  refine HT.out.mono ?_
  rintro e w1 ⟨A1, n1, c1, rfl, le1, i1, k1⟩
  have I1 := Lib.hid i1
  clear i1
  go_wp2_with fail
  go_ret
  exact ⟨A1, n1, c1, rfl, le1, I1.out, k1⟩
set_option maxHeartbeats 1000000 in
theorem forms1_any (s : Sls) (n : Nrm) (form : Int) (cp : Bool) (S : Value) (Bx : Nat) (A : Option Addr) (nt ct : Nat) (text : List Int) (w : World) (hN : NormAt w s n) (hG : Glob w) (hnt : nt ≤ 500000) (hT : Ints w A nt text)
    (hB : w.heap[Bx]? = some (.cells (s.chk form cp S) 69 (0, 0))) :
    Calls Tryz.prog 130 #[.slice A nt ct, .pointer (some ⟨Bx, 0, none⟩)] w (RetInts w (formOf n form text)) := by
  have HT := Lib.hid (form_any s n form A nt ct text w hN hG hnt hT)
  have a0 : w.cell? ⟨Bx, 0, none⟩ = some (.slice s.Ac s.nc s.cc) := cell_of_block hB rfl
  have a1 : w.cell? ⟨Bx, 1, none⟩ = some (.slice s.Am s.nm s.cm) := cell_of_block hB rfl
  have a2 : w.cell? ⟨Bx, 2, none⟩ = some (.slice s.Ae s.ne s.ce) := cell_of_block hB rfl
  have a3 : w.cell? ⟨Bx, 3, none⟩ = some (.int .i64 form) := cell_of_block hB rfl
  clear hN hG hT hB
  generalize formOf n form text = X at *
  unfold Sls.val at *
  go_enter Tryz.func130, Tryz.ntmps130
  go_wp2_with fail
  refine HT.out.mono ?_
  rintro e w1 ⟨A1, n1, c1, rfl, le1, i1, k1⟩
  have I1 := Lib.hid i1
  clear i1
  go_wp2_with fail
  go_ret
  exact ⟨A1, n1, c1, rfl, le1, I1.out, k1⟩

theorem gaps_length {G : Int → List Int} {b : Nat} (h : ∀ c, (G c).length ≤ b) : ∀ codes : List Int, (codes.flatMap fun c => G c ++ [-1]).length ≤ (b + 1) * codes.length
  | [] => by simp
  | c :: r => by
    rw [List.flatMap_cons, List.length_append, List.length_append, List.length_cons]
    have h1 := gaps_length h r
    have h2 := h c
    have h3 : (b + 1) * (r.length + 1) = (b + 1) * r.length + (b + 1) := Nat.mul_succ ..
    simp only [List.length_cons, List.length_nil]
    omega
set_option maxHeartbeats 1000000 in
theorem parts_any (s : Sls) (n : Nrm) (form : Int) (cp : Bool) (S : Value) (A : Option Addr) (nt ct : Nat) (codes : List Int) (w : World) (hN : NormAt w s n) (hG : Glob w) (hnt : nt ≤ 100000) (hT : Ints w A nt codes) (hv : ∀ c ∈ codes, 0 ≤ c) :
    Calls Tryz.prog 50 #[.agg (s.chk form cp S), .slice A nt ct] w (RetTab w (codes.map fun c => textOf n cp [c])) := by
  have hk1 := Kept.alloc (Kept.refl w) (Obj.cells (s.chk form cp S) 69)
  have hbx : (w.alloc (Obj.cells (s.chk form cp S) 69)).heap[w.heap.size]? = some (.cells (s.chk form cp S) 69 (0, 0)) := heap_alloc_new _ _
  have hcl : codes.length ≤ 100000 := by have := hT.1; omega
  have HT := Lib.hid (alone_any 70 (.pointer (some ⟨w.heap.size, 0, none⟩)) (enters_of Tryz.func70 (by kernel_rfl) rfl) A nt ct codes (fun c => textOf n cp [c]) _ hnt (hT.kept hk1)
    (fun c hc e he => by have := text_nonneg n cp (hv c hc) e he; omega)
    (by
      have h1 := gaps_length (G := fun c => textOf n cp [c]) (b := 64) (fun c => by have := textOf_length n cp [c]; simpa using this) codes
      omega)
    (fun B m d w' hk hm hI => by
      have hgl := gapped_length codes
      have := parts1_any s n form cp S w.heap.size B m d (gapped codes) w' (hN.kept (Kept.trans hk1 hk)) (hG.kept (Kept.trans hk1 hk)) (by omega) hI ((hk.block _ (block_lt hbx)).trans hbx)
      rw [text_gapped] at this
      exact this))
  have HK1 := Lib.hid hk1
  clear hN hG hT hk1 hbx hv
  generalize (codes.map fun c => textOf n cp [c]) = X at *
  unfold Sls.chk at *
  go_enter Tryz.func50, Tryz.ntmps50
  go_wp2_with fail
  refine HT.out.mono ?_
  rintro e w1 ⟨A1, n1, c1, rfl, le1, i1, k1⟩
  have I1 := Lib.hid i1
  clear i1
  go_wp2_with fail
  go_ret
  exact ⟨A1, n1, c1, rfl, le1, I1.out, Kept.trans HK1.out k1⟩
set_option maxHeartbeats 1000000 in
theorem forms_any (s : Sls) (n : Nrm) (form : Int) (cp : Bool) (S : Value) (A : Option Addr) (nt ct : Nat) (codes : List Int) (w : World) (hN : NormAt w s n) (hG : Glob w) (hnt : nt ≤ 100000) (hT : Ints w A nt codes) (hv : ∀ c ∈ codes, 0 ≤ c) :
    Calls Tryz.prog 102 #[.agg (s.chk form cp S), .slice A nt ct] w (RetTab w (codes.map fun c => formOf n form [c])) := by
  have hk1 := Kept.alloc (Kept.refl w) (Obj.cells (s.chk form cp S) 69)
  have hbx : (w.alloc (Obj.cells (s.chk form cp S) 69)).heap[w.heap.size]? = some (.cells (s.chk form cp S) 69 (0, 0)) := heap_alloc_new _ _
  have hcl : codes.length ≤ 100000 := by have := hT.1; omega
  have HT := Lib.hid (alone_any 130 (.pointer (some ⟨w.heap.size, 0, none⟩)) (enters_of Tryz.func130 (by kernel_rfl) rfl) A nt ct codes (fun c => formOf n form [c]) _ hnt (hT.kept hk1)
    (fun c hc e he => by have := form_nonneg n form (hv c hc) e he; omega)
    (by
      have h1 := gaps_length (G := fun c => formOf n form [c]) (b := 64) (fun c => by have := formOf_length n form [c]; simpa using this) codes
      omega)
    (fun B m d w' hk hm hI => by
      have hgl := gapped_length codes
      have := forms1_any s n form cp S w.heap.size B m d (gapped codes) w' (hN.kept (Kept.trans hk1 hk)) (hG.kept (Kept.trans hk1 hk)) (by omega) hI ((hk.block _ (block_lt hbx)).trans hbx)
      rw [form_gapped] at this
      exact this))
  have HK1 := Lib.hid hk1
  clear hN hG hT hk1 hbx hv
  generalize (codes.map fun c => formOf n form [c]) = X at *
  unfold Sls.chk at *
  go_enter Tryz.func102, Tryz.ntmps102
  go_wp2_with fail
  refine HT.out.mono ?_
  rintro e w1 ⟨A1, n1, c1, rfl, le1, i1, k1⟩
  have I1 := Lib.hid i1
  clear i1
  go_wp2_with fail
  go_ret
  exact ⟨A1, n1, c1, rfl, le1, I1.out, Kept.trans HK1.out k1⟩
end Go.Proofs.YtbhglkofaendjaaGreatDoor
