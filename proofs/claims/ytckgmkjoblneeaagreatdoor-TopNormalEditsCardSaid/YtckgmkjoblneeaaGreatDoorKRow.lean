/- The frame of the rows: arguments opened to plain data; the last step, where what was there is as it was. -/
import Derived.WalkKit
import Derived.ProofKit
import Derived.OpenShut
import Derived.Deep.DeepHandedRow
import Derived.Deep.Slices
import Derived.Deep.Fields
import Derived.Lib.LaidTab
import Derived.Lib.SmallJoins
import Derived.WideKeyArgs
import Derived.ChangeSame
import Derived.Test.YtckgmkjoblneeaaGreatDoorCards
import Derived.Test.YtckgmkjoblneeaaGreatDoorTie
import Derived.Test.YtckgmkjoblneeaaGreatDoorKRfj
import Derived.Test.YtckgmkjoblneeaaGreatDoorKOrd
namespace Go.Proofs.YtckgmkjoblneeaaGreatDoor
open Go Go.RowKit Go.ChangeShapes Go.WideShapes Go.Deep Go.Joins
theorem row_own : ownKnob Tryz.prog.godebug = none := by kernel_rfl
theorem row_kids : Kids Tryz.prog (· < Tryz.prog.types.size) := kids_rows (by kernel_rfl) (by kernel_rfl)
theorem row_full : ∀ t e, t < Tryz.prog.types.size → Tryz.prog.underlying t = some (.slice e) → 0 < Tryz.prog.cellsOf e := slices_full_of Tryz.prog (by kernel_rfl)
section
variable {H : Type} {enc : TypeId × Value → H}
theorem all_stay {W W' : World} (hb : Kept W W') {sp : Nat → Bool} : ∀ {ts : List TypeId} {vs : List Value} {ds : List (DataW H)} {ps : List MemPlace}, DataW.TrodAll enc Tryz.prog W 0 sp true ts vs ds ps → (∀ p ∈ ps, p.block < W.heap.size) → DataW.TrodAll enc Tryz.prog W' 0 sp true ts vs ds ps
  | [], [], [], ps, h, _ => h
  | t :: ts, v :: vs, d :: ds, ps, ⟨p, q, ⟨n, h1⟩, h2, e⟩, hp => by
    subst e
    refine ⟨p, q, ⟨n, DataW.trod_carry n _ _ _ h1 (fun x hx => ?_)⟩, all_stay hb h2 (fun x hx => hp x (by simp [hx])), rfl⟩
    have hlt := hp x (by simp [hx])
    cases x with
    | cell b off => exact World.cell?_of_block (hb.block b hlt)
    | map b => exact hb.block b hlt
  | [], [], _ :: _, _, h, _ => by cases h
  | [], _ :: _, _, _, h, _ => by cases h
  | _ :: _, [], _, _, h, _ => by cases h
  | _ :: _, _ :: _, [], _, h, _ => by cases h
theorem post_true {f : Func} {s : ChangeSpec} {W W' : World} {args : Array Value} {ds gs : List (DataW H)} {before : List MemPlace} (hv : s.vars = []) (hr : f.resultTypes = #[4]) (hts : ∀ t ∈ f.params.toList, t < Tryz.prog.types.size)
    (hW : DataW.Whole enc Tryz.prog f.params.toList s.vars false W args.toList ds gs before) (hs : s.fn H (ds ++ gs) = { results := [.lit (.bool true)], args := ds }) (hb : Kept W W') :
    s.post enc Tryz.prog f false true false false W args (.bool true) W' := by
  have hW0 := hW
  have hlt : ∀ p ∈ before, p.block < W.heap.size := fun p hp => hW.lt p hp
  obtain ⟨p, q, hA, hV, e, hz, hn⟩ := hW
  rw [hv] at hV
  have hgs : gs = [] ∧ q = [] := by
    cases gs with
    | nil => exact ⟨rfl, hV⟩
    | cons g gs => cases hV
  obtain ⟨rfl, rfl⟩ := hgs
  rw [List.append_nil] at e
  subst e
  have hA' := all_stay hb hA hlt
  refine ⟨ds, [], before, [], before, [], hW0, ?_, ?_, ?_, World.keptBut_mono (fun x hx => ⟨hx, .inr (.inl hx)⟩) (Below.frame hb (· ∈ before)), fun h => by cases h⟩
  · rw [hs, hr]
    exact trodAll_cons_mk (shut_bool Tryz.underlying4 _) trodAll_mk0
  · rw [hs]
    exact DataW.TrodAll.respare row_kids row_full hts hA' (fun x hx => by simpa using hlt x hx)
  · rw [hs, hv]; rfl
theorem list_of {α : Type} {p : Nat → α → Prop} : ∀ n : Nat, (∀ i, i < n → ∃ x, p i x) → ∃ l : List α, l.length = n ∧ ∀ i x, l[i]? = some x → p i x
  | 0, _ => ⟨[], rfl, fun i x h => by simp at h⟩
  | n + 1, h => by
    obtain ⟨l, h1, h2⟩ := list_of n (fun i hi => h i (by omega))
    obtain ⟨x, hx⟩ := h n (by omega)
    refine ⟨l ++ [x], by simp [h1], fun i y hy => ?_⟩
    rcases Nat.lt_or_ge i n with hi | hi
    · rw [List.getElem?_append_left (by omega)] at hy; exact h2 i y hy
    · rw [List.getElem?_append_right (by omega)] at hy
      have : i - l.length = 0 := by
        rcases Nat.eq_zero_or_pos (i - l.length) with h0 | h0
        · exact h0
        · rw [List.getElem?_eq_none (by simp; omega)] at hy; cases hy
      rw [this] at hy
      simp only [List.getElem?_cons_zero, Option.some.injEq] at hy
      subst hy
      have : i = n := by omega
      subst this; exact hx
theorem cells_at {w : World} {base : Nat} {a : Addr} {k : Nat} {cs : List Value} (h : w.cells? base a k = some cs) : cs.length = k ∧ ∀ j, j < k → w.cell? (a.add j) = cs[j]? := by
  obtain ⟨_, h1, h2⟩ := World.cells?_some h
  exact ⟨h1, h2⟩
theorem open_sl {α : Type} {k : Nat} {encA : α → List Value} {W : World} {t e : TypeId} {fuel : Nat} {v : Value} {x : DataW H × List MemPlace} (ht : Tryz.prog.underlying t = some (.slice e)) (hk : Tryz.prog.cellsOf e = k) (hk0 : 0 < k)
    (hone : ∀ (n : Nat) (cs : List Value) (y : DataW H × List MemPlace), DataW.trod enc Tryz.prog W 0 (fun _ => true) true n e cs = some y → ∃ x : α, cs = encA x)
    (h : DataW.trod enc Tryz.prog W 0 (fun _ => true) true fuel t [v] = some x) : ∃ A n c, v = .slice A n c ∧ n ≤ c ∧ c ≤ 9223372036854775807 ∧ ∃ l : List α, Sl k encA W A n l := by
  rcases open_slice ht h with ⟨h0, _⟩ | ⟨a, len, cap, m, n, D, Pl, hcs, _, hl, hm, hmm, _, hi⟩
  · simp only [List.cons.injEq, and_true] at h0
    exact ⟨none, 0, 0, h0, Nat.le_refl _, by omega, [], Sl.nil⟩
  · simp only [List.cons.injEq, and_true] at hcs
    refine ⟨some a, len, cap, hcs, hl, by unfold maxLen at hm; omega, ?_⟩
    simp only [if_true] at hmm
    rw [hk] at hi
    obtain ⟨l, h1, h2⟩ := list_of (α := α) (p := fun i x => ∀ j u, (encA x)[j]? = some u → W.cell? ((a.add (i * k)).add j) = some u) len (fun i hi' => by
      obtain ⟨cs', hc, htr⟩ := hi i (by omega)
      obtain ⟨x, hx⟩ := hone n cs' _ htr
      obtain ⟨c1, c2⟩ := cells_at hc
      refine ⟨x, fun j u hu => ?_⟩
      have hj := lt_of_getElem?_some hu
      rw [← hx] at hu hj
      rw [c2 j (by omega), hu])
    refine ⟨l, h1.symm, fun hn => ?_⟩
    -- a place of an element is a plain one
    obtain ⟨cs', hc, _⟩ := hi 0 (by omega)
    obtain ⟨c1, c2⟩ := cells_at hc
    obtain ⟨b, off, spot⟩ := a
    have hcell := c2 0 hk0
    rw [List.getElem?_eq_getElem (by omega)] at hcell
    have hspot : spot = none := by simpa [Addr.add] using World.cell?_spot hcell
    subst hspot
    refine ⟨b, off, rfl, fun i x hx j u hu => ?_⟩
    have := h2 i x hx j u hu
    rw [Go.Deep.add_add] at this
    have ha : (⟨b, off, none⟩ : Addr).add (i * k + j) = ⟨b, off + i * k + j, none⟩ := by
      unfold Addr.add
      split <;> simp <;> omega
    rw [ha] at this
    exact this
theorem int_cells {W : World} {n : Nat} {cs : List Value} {y : DataW H × List MemPlace} (h : DataW.trod enc Tryz.prog W 0 (fun _ => true) true n 3 cs = some y) : ∃ x : Int, cs = encI x := by
  obtain ⟨x, e, _⟩ := DataW.trod_int Tryz.underlying3 h
  exact ⟨x, e⟩
theorem open_intsl {W : World} {fuel : Nat} {v : Value} {x : DataW H × List MemPlace} (h : DataW.trod enc Tryz.prog W 0 (fun _ => true) true fuel 32 [v] = some x) :
    ∃ A n c, v = .slice A n c ∧ n ≤ c ∧ c ≤ 9223372036854775807 ∧ ∃ l : List Int, Ints W A n l :=
  open_sl Tryz.underlying32 (by kernel_rfl) (by decide) (fun _ _ _ h => int_cells h) h
theorem one_cell (cs : List Value) (j : Nat) (v : Value) (h : cs[j]? = some v) : (cs.drop j).take 1 = [v] := by
  have hj := lt_of_getElem?_some h
  rw [List.drop_eq_getElem_cons hj]
  rw [List.getElem?_eq_getElem hj] at h
  injection h with h
  simp [h]
theorem cells_int : Tryz.prog.cellsOf 3 = 1 := by kernel_rfl
theorem cells_ranges : Tryz.prog.cellsOf 24 = 1 := by kernel_rfl
theorem field_int {W : World} {n : Nat} {cs : List Value} {j : Nat} (hj : j < cs.length) {y : Option (DataW H × List MemPlace)} (hy : y.isSome = true) (h : DataW.trod enc Tryz.prog W 0 (fun _ => true) true n 3 ((cs.drop j).take (Tryz.prog.cellsOf 3)) = y) : ∃ x : Int, cs[j]? = some (.int .i64 x) := by
  obtain ⟨z, rfl⟩ := Option.isSome_iff_exists.1 hy
  rw [cells_int, one_cell cs j cs[j] (List.getElem?_eq_getElem hj)] at h
  obtain ⟨x, e, _⟩ := DataW.trod_int Tryz.underlying3 h
  simp only [List.cons.injEq, and_true] at e
  exact ⟨x, by rw [List.getElem?_eq_getElem hj, e]⟩
theorem list3 {α : Type} {cs : List α} {a b c : α} (h : cs.length = 3) (ha : cs[0]? = some a) (hb : cs[1]? = some b) (hc : cs[2]? = some c) : cs = [a, b, c] := by
  match cs, h with
  | [x, y, z], _ => simp at ha hb hc; rw [ha, hb, hc]
theorem list2 {α : Type} {cs : List α} {a b : α} (h : cs.length = 2) (ha : cs[0]? = some a) (hb : cs[1]? = some b) : cs = [a, b] := by
  match cs, h with
  | [x, y], _ => simp at ha hb; rw [ha, hb]
theorem span_cells {W : World} {n : Nat} {cs : List Value} {y : DataW H × List MemPlace} (h : DataW.trod enc Tryz.prog W 0 (fun _ => true) true n 119 cs = some y) : ∃ x : Span, cs = encS x := by
  obtain ⟨xs, m, _, _, hlen, hxl, hf⟩ := DataW.trod_struct Tryz.underlying119 h
  have hc : cs.length = 3 := hlen.trans (by kernel_rfl)
  have hx3 : xs.length = 3 := hxl
  obtain ⟨a, ha⟩ := field_int (j := 0) (by omega) (y := xs[0]?) (by rw [List.getElem?_eq_getElem (by omega)]; rfl) (hf 0 _ rfl)
  obtain ⟨b, hb⟩ := field_int (j := 1) (by omega) (y := xs[1]?) (by rw [List.getElem?_eq_getElem (by omega)]; rfl) (hf 1 _ rfl)
  obtain ⟨c, hcc⟩ := field_int (j := 2) (by omega) (y := xs[2]?) (by rw [List.getElem?_eq_getElem (by omega)]; rfl) (hf 2 _ rfl)
  exact ⟨⟨a, b, c⟩, list3 hc ha hb hcc⟩
theorem rng_cells {W : World} {n : Nat} {cs : List Value} {y : DataW H × List MemPlace} (h : DataW.trod enc Tryz.prog W 0 (fun _ => true) true n 48 cs = some y) : ∃ x : Rng, cs = encR x := by
  obtain ⟨xs, m, _, _, hlen, hxl, hf⟩ := DataW.trod_struct Tryz.underlying48 h
  have hc : cs.length = 2 := hlen.trans (by kernel_rfl)
  have hx3 : xs.length = 2 := hxl
  obtain ⟨a, ha⟩ := field_int (j := 0) (by omega) (y := xs[0]?) (by rw [List.getElem?_eq_getElem (by omega)]; rfl) (hf 0 _ rfl)
  obtain ⟨b, hb⟩ := field_int (j := 1) (by omega) (y := xs[1]?) (by rw [List.getElem?_eq_getElem (by omega)]; rfl) (hf 1 _ rfl)
  exact ⟨⟨a, b⟩, list2 hc ha hb⟩
structure MpAt (W : World) (m : Mp) (cs : List Value) : Prop where
  ex : ∃ A n c, n ≤ c ∧ Ints W A n m.to ∧ cs = [.int .i64 m.src, .slice A n c, .string m.tag] ∧ c ≤ 9223372036854775807
theorem mp_cells {W : World} {n : Nat} {cs : List Value} {y : DataW H × List MemPlace} (h : DataW.trod enc Tryz.prog W 0 (fun _ => true) true n 57 cs = some y) : ∃ m : Mp, MpAt W m cs := by
  obtain ⟨xs, m, _, _, hlen, hxl, hf⟩ := DataW.trod_struct Tryz.underlying57 h
  have hc : cs.length = 3 := hlen.trans (by kernel_rfl)
  have hx3 : xs.length = 3 := hxl
  obtain ⟨a, ha⟩ := field_int (j := 0) (by omega) (y := xs[0]?) (by rw [List.getElem?_eq_getElem (by omega)]; rfl) (hf 0 _ rfl)
  have h1 := hf 1 _ rfl
  have h2 := hf 2 _ rfl
  rw [List.getElem?_eq_getElem (show 1 < xs.length by omega)] at h1
  rw [List.getElem?_eq_getElem (show 2 < xs.length by omega)] at h2
  have e1 : (cs.drop 1).take (Tryz.prog.cellsOf 32) = [cs[1]] := by
    rw [show Tryz.prog.cellsOf 32 = 1 by kernel_rfl]
    exact one_cell cs 1 _ (List.getElem?_eq_getElem (by omega))
  have e2 : (cs.drop 2).take (Tryz.prog.cellsOf 9) = [cs[2]] := by
    rw [show Tryz.prog.cellsOf 9 = 1 by kernel_rfl]
    exact one_cell cs 2 _ (List.getElem?_eq_getElem (by omega))
  have h1' : DataW.trod enc Tryz.prog W 0 (fun _ => true) true m 32 [cs[1]] = some xs[1] := by rw [← e1]; exact h1
  have h2' : DataW.trod enc Tryz.prog W 0 (fun _ => true) true m 9 [cs[2]] = some xs[2] := by rw [← e2]; exact h2
  obtain ⟨A, nn, c, hv, hle, hbig, l, hI⟩ := open_intsl h1'
  obtain ⟨s, hs, _⟩ := DataW.trod_string Tryz.underlying9 h2'
  simp only [List.cons.injEq, and_true] at hs
  exact ⟨⟨a, l, s⟩, ⟨A, nn, c, hle, hI, list3 hc ha (by rw [List.getElem?_eq_getElem (by omega), hv]) (by rw [List.getElem?_eq_getElem (by omega), hs]), hbig⟩⟩
theorem open_mps {W : World} {fuel : Nat} {v : Value} {x : DataW H × List MemPlace} (h : DataW.trod enc Tryz.prog W 0 (fun _ => true) true fuel 23 [v] = some x) :
    ∃ A n c, v = .slice A n c ∧ n ≤ c ∧ c ≤ 9223372036854775807 ∧ ∃ l : List Mp, Mps W A n l ∧ ∀ m ∈ l, m.to.length ≤ 9223372036854775807 := by
  rcases open_slice Tryz.underlying23 h with ⟨h0, _⟩ | ⟨a, len, cap, m, n, D, Pl, hcs, _, hl, hm, hmm, _, hi⟩
  · simp only [List.cons.injEq, and_true] at h0
    exact ⟨none, 0, 0, h0, Nat.le_refl _, by omega, [], ⟨rfl, fun h => absurd h (by decide)⟩, by simp⟩
  · simp only [List.cons.injEq, and_true] at hcs
    refine ⟨some a, len, cap, hcs, hl, by unfold maxLen at hm; omega, ?_⟩
    simp only [if_true] at hmm
    rw [show Tryz.prog.cellsOf 57 = 3 by kernel_rfl] at hi
    obtain ⟨l, h1, h2⟩ := list_of (α := Mp) (p := fun i x => ∃ cs, MpAt W x cs ∧ ∀ j u, cs[j]? = some u → W.cell? ((a.add (i * 3)).add j) = some u) len (fun i hi' => by
      obtain ⟨cs', hc, htr⟩ := hi i (by omega)
      obtain ⟨x, hx⟩ := mp_cells htr
      obtain ⟨c1, c2⟩ := cells_at hc
      exact ⟨x, cs', hx, fun j u hu => by rw [c2 j (by have := lt_of_getElem?_some hu; omega), hu]⟩)
    refine ⟨l, ⟨h1.symm, fun hn => ?_⟩, fun x hx => ?_⟩
    · obtain ⟨cs', hc, _⟩ := hi 0 (by omega)
      obtain ⟨c1, c2⟩ := cells_at hc
      obtain ⟨b, off, spot⟩ := a
      have hcell := c2 0 (by decide)
      rw [List.getElem?_eq_getElem (by omega)] at hcell
      have hspot : spot = none := by simpa [Addr.add] using World.cell?_spot hcell
      subst hspot
      refine ⟨b, off, rfl, fun i x hx => ?_⟩
      obtain ⟨cs, ⟨A', n', c', hle, hI, hcs, _⟩, hcl⟩ := h2 i x hx
      have hadd : ∀ j, ((⟨b, off, none⟩ : Addr).add (i * 3)).add j = ⟨b, off + i * 3 + j, none⟩ := fun j => by
        rw [Go.Deep.add_add]
        unfold Addr.add
        split <;> simp <;> omega
      subst hcs
      exact ⟨A', n', c', hle, hI, by rw [← hcl 0 _ rfl, hadd]; rfl, by rw [← hcl 1 _ rfl, hadd], by rw [← hcl 2 _ rfl, hadd]⟩
    · obtain ⟨i, hi', e⟩ := List.getElem_of_mem hx
      obtain ⟨cs, ⟨A', n', c', hle, hI, _, hbig⟩, _⟩ := h2 i x (by rw [List.getElem?_eq_getElem hi', e])
      have := hI.1
      omega
set_option maxRecDepth 100000 in
theorem open_norm {W : World} {base : Nat} {v : Value} {d : DataW H} {p : List MemPlace} (hv : Value.okWide Tryz.prog W .any base 28 v) (h : DataW.Trod enc Tryz.prog W 0 (fun _ => true) true 28 v d p) : ∃ s n, v = Sls.val s ∧ NormIn W s n := by
  obtain ⟨v0, v1, v2, y0, y1, y2, m, rfl, _, _, h0, h1, h2⟩ := open_agg3 Tryz.underlying28 (by kernel_rfl) (by kernel_rfl) hv h
  obtain ⟨Ac, nc, cc, rfl, hc, _, cl, hcl⟩ := open_sl (k := 3) (encA := encS) Tryz.underlying22 (by kernel_rfl) (by decide) (fun _ _ _ h => span_cells h) h0
  obtain ⟨Am, nm, cm, rfl, hm, hmb, ml, hml, hto⟩ := open_mps h1
  obtain ⟨xs, m2, _, _, _, hxl, hf⟩ := DataW.trod_struct Tryz.underlying26 h2
  have h3 := hf 0 _ rfl
  have hx1 : xs.length = 1 := hxl
  rw [List.getElem?_eq_getElem (show 0 < xs.length by omega)] at h3
  have h3' : DataW.trod enc Tryz.prog W 0 (fun _ => true) true m2 24 (([v2].drop 0).take (Tryz.prog.cellsOf 24)) = some xs[0] := h3
  rw [cells_ranges] at h3'
  simp only [List.drop_zero, List.take_succ_cons, List.take_zero] at h3'
  obtain ⟨Ae, ne, ce, rfl, he, _, el, hel⟩ := open_sl (k := 2) (encA := encR) Tryz.underlying24 (by kernel_rfl) (by decide) (fun _ _ _ h => rng_cells h) h3'
  exact ⟨⟨Ac, nc, cc, Am, nm, cm, Ae, ne, ce⟩, ⟨cl, ml, el⟩, rfl, hc, hm, he, by show nm ≤ _; omega, hcl, hml, hel, hto⟩
end
theorem rng_datum {H : Type} {enc : TypeId × Value → H} {W : World} {sp : Nat → Bool} {hd : Bool} {n : Nat} {cs : List Value} {a b : Int} {q : List MemPlace} (h : DataW.trod enc Tryz.prog W 0 sp hd n 48 cs = some (.agg [.lit (.int .i64 a), .lit (.int .i64 b)], q)) : cs = [.int .i64 a, .int .i64 b] := by
  obtain ⟨xs, m, _, hx, hlen, hxl, hf⟩ := DataW.trod_struct Tryz.underlying48 h
  have hc : cs.length = 2 := hlen.trans (by kernel_rfl)
  have hx2 : xs.length = 2 := hxl
  simp only [Prod.mk.injEq, DataW.agg.injEq] at hx
  have hfld : ∀ (j : Nat) (v : Int), j < 2 → (xs.map (·.1))[j]? = some (.lit (.int .i64 v)) → DataW.trod enc Tryz.prog W 0 sp hd m 3 ((cs.drop j).take (Tryz.prog.cellsOf 3)) = xs[j]? → cs[j]? = some (.int .i64 v) := fun j v hj hv hfj => by
    rw [cells_int, one_cell cs j cs[j] (List.getElem?_eq_getElem (by omega)), List.getElem?_eq_getElem (by omega)] at hfj
    obtain ⟨x, e, hy, _⟩ := DataW.trod_int Tryz.underlying3 hfj
    simp only [List.cons.injEq, and_true] at e
    rw [List.getElem?_map, List.getElem?_eq_getElem (by omega), hy] at hv
    simp only [Option.map_some, Option.some.injEq, DataW.lit.injEq, Lit.int.injEq, true_and] at hv
    rw [List.getElem?_eq_getElem (by omega), e, hv]
  rw [← hx.1] at hfld
  exact list2 hc (hfld 0 a (by decide) rfl (hf 0 _ rfl)) (hfld 1 b (by decide) rfl (hf 1 _ rfl))
theorem g_name : Tryz.prog.globalNamed "unicodetext/ordering.hangulRanges" = some 0 := by kernel_rfl
theorem g_type : (Tryz.prog.globals[(0 : Nat)]?).map (·.type) = some 166 := by kernel_rfl
theorem cells_rng : Tryz.prog.cellsOf 48 = 2 := by kernel_rfl
theorem glob_of {W : World} (h : laidMet Tryz.prog [("unicodetext/ordering.hangulRanges", Rows.laid_unicodetext_ordering_hangulRanges)] W) : Glob W := by
  obtain ⟨ps, ⟨g', t', cs, fuel, p, q, hg', ht', hvar, hd, _, _⟩, _⟩ := h
  obtain rfl := Option.some.inj (g_name.symm.trans hg')
  obtain rfl := Option.some.inj (g_type.symm.trans ht')
  obtain ⟨xs, m, _, hx, _, hxl, hf⟩ := DataW.trod_array Tryz.underlying166 hd
  rw [cells_rng] at hf
  simp only [Prod.mk.injEq, Rows.laid_unicodetext_ordering_hangulRanges, DataW.agg.injEq] at hx
  have hat : ∀ (i : Nat) (a b : Int), i < 4 → (xs.map (·.1))[i]? = some (.agg [.lit (.int .i64 a), .lit (.int .i64 b)]) → cs[i * 2]? = some (.int .i64 a) ∧ cs[i * 2 + 1]? = some (.int .i64 b) := fun i a b hi hv => by
    have h1 := hf i hi
    rw [List.getElem?_eq_getElem (by omega)] at h1
    rw [List.getElem?_map, List.getElem?_eq_getElem (by omega)] at hv
    simp only [Option.map_some, Option.some.injEq] at hv
    have h2 : DataW.trod (fun _ => ()) Tryz.prog W 0 (fun _ => true) false m 48 ((cs.toList.drop (i * 2)).take 2) = some (.agg [.lit (.int .i64 a), .lit (.int .i64 b)], xs[i].2) := by rw [← hv]; exact h1
    have h3 := rng_datum h2
    have h4 := congrArg (·[0]?) h3
    have h5 := congrArg (·[1]?) h3
    simp only [List.getElem?_take, List.getElem?_drop] at h4 h5
    simp at h4 h5
    exact ⟨h4, h5⟩
  rw [← hx.1] at hat
  have hc := fun i => World.var?_cell g_name hvar i
  have r0 := hat 0 _ _ (by decide) rfl
  have r1 := hat 1 _ _ (by decide) rfl
  have r2 := hat 2 _ _ (by decide) rfl
  have r3 := hat 3 _ _ (by decide) rfl
  exact ⟨(hc 0).trans r0.1, (hc 1).trans r0.2, (hc 2).trans r1.1, (hc 3).trans r1.2, (hc 4).trans r2.1, (hc 5).trans r2.2, (hc 6).trans r3.1, (hc 7).trans r3.2⟩
theorem glob_ofH {W : World} (h : laidMetH Tryz.prog [("unicodetext/ordering.hangulRanges", Rows.laid_unicodetext_ordering_hangulRanges)] W) : Glob W := by
  unfold laidMetH at h
  rw [show ([("unicodetext/ordering.hangulRanges", Rows.laid_unicodetext_ordering_hangulRanges)].filter fun x : String × DataW Unit => x.2.handleName?.isSome) = [] from rfl] at h
  exact glob_of h
theorem wf_i64 {x : Int} (h : (Lit.int .i64 x).wf = true) : I64 x := by
  have h1 : IntKind.i64.min = -9223372036854775808 := by decide
  have h2 : IntKind.i64.max = 9223372036854775807 := by decide
  simpa [Lit.wf, I64, h1, h2] using h
end Go.Proofs.YtckgmkjoblneeaaGreatDoor
