/- Short names for the steps of a walk through a region that draws its order. Where a text stops to be the beginning of an identifier. No program. Appending a slice of numbers to one that the call has made; slices that stay apart. slices.symMergeCmpFunc at numbers, where the second part has one element. -/
import Derived.OrdersHeld
import Derived.Deep.RegionHeld3
import Derived.Test.YtmlcdohldkgcdaaGreatDoorKBase
import Derived.Test.YtmlcdohldkgcdaaGreatDoorKSimA
import Derived.Test.YtmlcdohldkgcdaaGreatDoorKRefA
import Derived.Test.YtmlcdohldkgcdaaGreatDoorKStb
namespace Go.Proofs.YtmlcdohldkgcdaaGreatDoor
open Go Go.RowKit

theorem s1_ : type_of% @List.setIfInBounds_toArray := @List.setIfInBounds_toArray
theorem s2_ : type_of% @List.set_cons_zero := @List.set_cons_zero
theorem s3_ : type_of% @List.set_cons_succ := @List.set_cons_succ
theorem s4_ : type_of% @List.getElem_toArray := @List.getElem_toArray
theorem s5_ : type_of% @List.getElem_cons_zero := @List.getElem_cons_zero
theorem s6_ : type_of% @List.getElem_cons_succ := @List.getElem_cons_succ
/-- An operation that is wanted is taken first. -/
theorem tk_ {P : Program} {ops : Array Oper} {Q : Exit → Act → World → Prop} {md : Region.Mode} {S : World → Prop} (i : Nat) {oi : Oper} (v : Value) {fuel : Nat} {listed listed' : Array Bool} {a a' : Act} {w : World} (hi : ops[i]? = some oi)
    (h : wpAnyH P md ops Q S fuel listed' a' w)
    (hw : Region.wanted oi (yielded ops a.tmps) = true := by rfl) (hv : ∀ w, S w → (execOp a.eval oi).run P w = .ok (.value v) w := by (intro w hSw; (try dsimp only at hSw); go_simp; (try with_reducible rfl)))
    (ha : a.put oi.dst v = a' := by ((try simp only [Act.put, s1_, s2_, s3_, s4_, s5_, s6_]); rfl)) (hl : listed.setIfInBounds i true = listed' := by ((try simp only [s1_, s2_, s3_, s4_, s5_, s6_]); rfl))
    (hs : Region.noSelect ops = true := by kernel_rfl) (hf : Region.free md ops listed i = true := by kernel_rfl) (hr : (Region.ready md ops listed).contains i = true := by kernel_rfl)
    (hQ : ∀ c a w, Q (.panic c) (a.put oi.dst v) w → Q (.panic c) a w := by exact fun _ _ _ h => h) (hS : S w := by assumption) : wpAnyH P md ops Q S (fuel + 1) listed a w := by
  subst ha hl
  exact wpAnyH_take hi hs hf hr hQ (Or.inl ⟨hw, hv⟩) hS h
/-- An operation whose guard is not met is left out. -/
theorem sk_ {P : Program} {ops : Array Oper} {Q : Exit → Act → World → Prop} {md : Region.Mode} {S : World → Prop} (i : Nat) {oi : Oper} {fuel : Nat} {listed listed' : Array Bool} {a a' : Act} {w : World} (hi : ops[i]? = some oi)
    (h : wpAnyH P md ops Q S fuel listed' a' w)
    (hw : Region.wanted oi (yielded ops a.tmps) = false := by rfl)
    (ha : a.put oi.dst undef = a' := by ((try simp only [Act.put, s1_, s2_, s3_, s4_, s5_, s6_]); rfl)) (hl : listed.setIfInBounds i true = listed' := by ((try simp only [s1_, s2_, s3_, s4_, s5_, s6_]); rfl))
    (hs : Region.noSelect ops = true := by kernel_rfl) (hf : Region.free md ops listed i = true := by kernel_rfl) (hr : (Region.ready md ops listed).contains i = true := by kernel_rfl)
    (hQ : ∀ c a w, Q (.panic c) (a.put oi.dst undef) w → Q (.panic c) a w := by exact fun _ _ _ h => h) (hS : S w := by assumption) : wpAnyH P md ops Q S (fuel + 1) listed a w := by
  subst ha hl
  exact wpAnyH_take hi hs hf hr hQ (Or.inr ⟨hw, rfl⟩) hS h
/-- A call, or an operation that changes the heap, comes up alone. -/
theorem rd_ {P : Program} {ops : Array Oper} {Q : Exit → Act → World → Prop} {md : Region.Mode} {S : World → Prop} (i : Nat) {o : Oper} {fuel : Nat} {listed : Array Bool} {a : Act} {w : World} (ho : ops[i]? = some o)
    (h : ∀ K' : Act → World → Prop, Shut (∀ a w, S w → (S w → wpAnyH P md ops Q S fuel (listed.setIfInBounds i true) a w) → K' a w) → if Region.wanted o (yielded ops a.tmps) = true then Oper.wp P o a w K' Q else K' (a.put o.dst undef) w)
    (hr : Region.ready md ops listed = [i] := by kernel_rfl) : wpAnyH P md ops Q S (fuel + 1) listed a w :=
  wpAnyH_ready hr (by simp) (AllReadyH.cons ho h AllReadyH.nil)
end Go.Proofs.YtmlcdohldkgcdaaGreatDoor
namespace Go.Proofs.YtmlcdohldkgcdaaGreatDoor
section
variable {b p c : Int → Bool}
theorem tail_put {s : Int} (hs : p s = true) : ∀ (t : List Int) (a : Int) (k : Nat), k ≤ idRun p c a t → idTail p c a (t.take k ++ [s]) = true
  | t, a, 0, _ => by
    have hm : medB p c s = false := by simp [medB, hs]
    simp [idTail, folB, hm, hs]
  | [], a, k + 1, h => by simp [idRun] at h
  | y :: t, a, k + 1, h => by
    rw [idRun] at h
    by_cases hf : folB p c a y = true
    · rw [if_pos hf] at h
      rw [List.take_succ_cons, List.cons_append, idTail, hf, Bool.true_and]
      exact tail_put hs t y k (by omega)
    · rw [if_neg hf] at h; omega
theorem tail_more (v : List Int) : ∀ (t : List Int) (a : Int), idRun p c a t < t.length → idTail p c a (t.take (idRun p c a t + 1) ++ v) = false
  | [], a, h => by simp at h
  | y :: t, a, h => by
    rw [idRun] at h ⊢
    by_cases hf : folB p c a y = true
    · rw [if_pos hf] at h ⊢
      rw [List.take_succ_cons, List.cons_append, idTail, hf, Bool.true_and]
      exact tail_more v t y (by simpa using h)
    · rw [if_neg hf]
      simp [idTail, hf]
theorem fault_spec (hb : ∀ x, b x = true → p x = true) {s : Int} (hs : b s = true) (text : List Int) :
    idValid b p c (text.take (idScan b p c text).2 ++ [s]) = true ∧ ((idScan b p c text).2 < text.length → idValid b p c (text.take ((idScan b p c text).2 + 1) ++ [s]) = false) := by
  have hps := hb s hs
  have hms : medB p c s = false := by simp [medB, hps]
  cases text with
  | nil => exact ⟨by simp [idScan, idValid, idTail, hs, hms], fun h => by simp [idScan] at h⟩
  | cons x t =>
    rw [show idScan b p c (x :: t) = if b x = true then idGo p c t 1 1 else (0, 0) from rfl]
    by_cases hx : b x = true
    · rw [if_pos hx]
      have hmx : medB p c x = false := by simp [medB, hb x hx]
      obtain ⟨h1, _⟩ := idGo_spec (p := p) (c := c) t x 1 1 (by simp [hmx])
      rw [h1, Nat.add_comm 1]
      refine ⟨?_, fun h => ?_⟩
      · rw [List.take_succ_cons, List.cons_append, idValid, hx, Bool.true_and]
        exact tail_put hps t x _ (Nat.le_refl _)
      · rw [List.take_succ_cons, List.cons_append, idValid, hx, Bool.true_and]
        exact tail_more [s] t x (by simpa using h)
    · rw [if_neg hx]
      exact ⟨by simp [idValid, idTail, hs, hms], fun _ => by simp [idValid, hx]⟩
theorem scan_whole (hb : ∀ x, b x = true → p x = true) (text : List Int) : idValid b p c text = (decide (0 < (idScan b p c text).1) && decide ((idScan b p c text).1 = text.length)) := by
  obtain ⟨h1, h2, h3, h4⟩ := scan_spec (c := c) hb text
  rcases Nat.eq_zero_or_pos (idScan b p c text).1 with h0 | h0
  · rw [h0]
    simp only [Nat.lt_irrefl, decide_false, Bool.false_and]
    cases text with
    | nil => rfl
    | cons x t =>
      have := h4 (x :: t).length (by rw [h0]; simp) (Nat.le_refl _)
      rwa [List.take_length] at this
  · by_cases he : (idScan b p c text).1 = text.length
    · have := h3 h0
      rw [he, List.take_length] at this
      rw [this]
      simp [he]
      omega
    · have := h4 text.length (by omega) (Nat.le_refl _)
      rw [List.take_length] at this
      rw [this]
      simp [he]
end
end Go.Proofs.YtmlcdohldkgcdaaGreatDoor
namespace Go.Proofs.YtmlcdohldkgcdaaGreatDoor
open Go Go.RowKit
theorem info_parts1 {P : Program} {e : TypeId} {z : Value} {s b : Nat} (h : (P.info? e).map (fun i => (i.zero, i.size, i.bytes)) = some (some z, s, b)) : ∃ i, P.info? e = some i ∧ i.zero = some z ∧ i.size = s ∧ i.bytes = b := by
  cases hi : P.info? e with
  | none => rw [hi] at h; simp at h
  | some i =>
    rw [hi] at h
    simp only [Option.map_some, Option.some.injEq, Prod.mk.injEq] at h
    exact ⟨i, rfl, h.1, h.2.1, h.2.2⟩
theorem ints_news {w : World} {p : Addr} {m : Nat} {ys : List Int} (h : Ints w (some p) m ys) : ∀ j u, (ys.map (Value.int .i64))[j]? = some u → w.cell? (p.add j) = some u := by
  intro j u hu
  rw [List.getElem?_map] at hu
  cases hy : ys[j]? with
  | none => rw [hy] at hu; cases hu
  | some y =>
    rw [hy] at hu
    injection hu with hu
    have hj := lt_of_getElem?_some hy
    obtain ⟨b, off, e, hc⟩ := h.2 (by have := h.1; omega)
    have := hc j y hy 0 _ rfl
    injection e with e
    subst e
    have ha : (⟨b, off, none⟩ : Addr).add j = ⟨b, off + j, none⟩ := by unfold Addr.add; split <;> simp_all
    rw [ha, ← hu]
    simpa using this
theorem run_append_none (w : World) (base : Nat) (v : Value) (xs : List Int) (hown : OwnI w base v xs) (c : Nat) (ty : TypeId) :
    (Builtin.append_ #[32, 32] ty #[v, .slice none 0 c]).run Tryz.prog w = .ok v w := by
  obtain ⟨i, hi, _, _, _⟩ := info_parts1 info_int
  rcases hown.2 with ⟨rfl, h0⟩ | ⟨g, cap, cur, rfl, _, _, hnc, _⟩
  · simp [Builtin.append_, run_underlying Tryz.underlying32, sizeOf, typeInfo, hi, Builtin.lenOf, Builtin.firstCells]
  · simp [Builtin.append_, run_underlying Tryz.underlying32, sizeOf, typeInfo, hi, Builtin.lenOf, Builtin.firstCells, hnc, storeCells]
theorem app_ints {w : World} {ops : Array Oper} {rest : List Oper} {o : Oper} {a : Act} {Q : Exit → Act → World → Prop} (hgd : o.guard = none) (s x : Operand)
    (ho : o.op = .call { callee := .builtin .append, args := #[s, x], argTypes := #[32, 32] })
    (base : Nat) (v : Value) (xs : List Int) (hs : a.eval s = v) (hown : OwnI w base v xs) (A : Option Addr) (m c : Nat) (ys : List Int) (hx : a.eval x = .slice A m c) (hI : Ints w A m ys)
    (hlen : xs.length + ys.length ≤ 1000000000) (hbase : base ≤ w.heap.size)
    (h : ∀ v' w', OwnI w' base v' (xs ++ ys) → w.grownBy w' v.ownBlock → (v'.ownBlock = v.ownBlock ∨ v'.ownBlock = some w.heap.size) → wpList Tryz.prog ops Q rest (a.put o.dst v') w') : wpList Tryz.prog ops Q (o :: rest) a w := by
  obtain ⟨i, hi, hz, hsz, hby⟩ := info_parts1 info_int
  have hm := hI.1
  cases A with
  | none =>
    have : m = 0 := by
      rcases Nat.eq_zero_or_pos m with h0 | h0
      · exact h0
      · obtain ⟨b, off, e, _⟩ := hI.2 h0; cases e
    subst this
    have hy : ys = [] := List.length_eq_zero_iff.1 hm.symm
    subst hy
    refine wpList_plain hgd fun K hK => ?_
    have hrun := run_append_none w base v xs hown c o.type
    unfold Oper.wp
    simp [execOp, ho, resolve, invoke, builtin, hs, hx, hrun, Result.andThen]
    exact hK _ _ (h v w (by simpa using hown) ⟨rfl, rfl, rfl, Nat.le_refl _, fun _ _ _ => rfl⟩ (.inl rfl))
  | some p =>
    refine wpList_append_own_at _ hgd s x 32 ho base 3 i (.int .i64 0) 1 8 Tryz.underlying32 hi hz hsz hby rfl (by decide) v xs.length (xs.map (Value.int .i64)) hs hown p m c (ys.map (Value.int .i64)) hx (by simp [hm]) (ints_news hI) (fun u hu => by
      obtain ⟨y, _, rfl⟩ := List.mem_map.1 hu; simp [Value.oneCell']) (by unfold maxLen; omega) (by omega) hbase (fun v' w' h1 h2 _ h4 => h v' w' ?_ h2 h4)
    unfold OwnI
    rw [List.length_append, List.map_append, ← hm]
    exact h1
def Away (g : Nat) (A : Option Addr) : Prop := ∀ p, A = some p → p.block ≠ g
def InHeap (w : World) (A : Option Addr) : Prop := ∀ p, A = some p → p.block < w.heap.size
theorem Away.of_inHeap {w : World} {A : Option Addr} (h : InHeap w A) {g : Nat} (hg : w.heap.size ≤ g) : Away g A := fun p hp => by have := h p hp; omega
theorem InHeap.le {w w' : World} {A : Option Addr} (h : InHeap w A) (hw : w.heap.size ≤ w'.heap.size) : InHeap w' A := fun p hp => Nat.lt_of_lt_of_le (h p hp) hw
theorem Ints.grown {w w' : World} {A : Option Addr} {n : Nat} {xs : List Int} {row : Option Nat} (h : Ints w A n xs) (hg : w.grownBy w' row) (ha : ∀ g, row = some g → Away g A) : Ints w' A n xs :=
  ⟨h.1, fun hn => by
    obtain ⟨b, off, e, hc⟩ := h.2 hn
    refine ⟨b, off, e, fun i x hx j u hu => ?_⟩
    have h1 := hc i x hx j u hu
    have hb : b < w.heap.size := cell_lt h1
    refine (World.cell?_of_block (hg.block b hb (fun e' => ?_))).trans h1
    exact ha b e'.symm _ e rfl⟩
def adOf : Value → Option Addr
  | .slice A _ _ => A
  | _ => none
theorem OwnI.inHeap {w : World} {base : Nat} {v : Value} {xs : List Int} (h : OwnI w base v xs) : InHeap w (adOf v) ∧ ∀ p, adOf v = some p → v.ownBlock = some p.block ∧ base ≤ p.block := by
  have hlt := World.ownsRow.lt h
  rcases h.2 with ⟨rfl, _⟩ | ⟨g, cap, cur, rfl, _⟩
  · exact ⟨fun p hp => (by cases hp), fun p hp => (by cases hp)⟩
  · refine ⟨fun p hp => ?_, fun p hp => ?_⟩
    · simp only [adOf, Option.some.injEq] at hp
      subst hp
      exact (hlt g rfl).2
    · simp only [adOf, Option.some.injEq] at hp
      subst hp
      exact ⟨rfl, (hlt g rfl).1⟩
end Go.Proofs.YtmlcdohldkgcdaaGreatDoor
namespace Go.Proofs.YtmlcdohldkgcdaaGreatDoor
open Go Go.RowKit
set_option maxRecDepth 100000 in
set_option maxHeartbeats 4000000 in
theorem symMerge_right (g off cp n : Nat) (pre post : List Value) (P U R : List Int) (y : Int) (bl B0 : Nat) (cls : Int → Int) (ai mi bi : Int) (w : World) (hn : n = (P ++ U ++ [y] ++ R).length) (hn2 : n ≤ 100000000) (hU : 1 < U.length) (ha : ai = (P.length : Nat)) (hm : mi = ((P ++ U).length : Nat)) (hb : bi = ((P ++ U ++ [y]).length : Nat))
    (hsU : Srt cls U) (hseg : Seg w g off pre post (P ++ U ++ [y] ++ R)) (hc : CmpOk bl B0 w cls) (_hB : B0 ≤ g) (hBw : B0 ≤ w.heap.size) :
    Calls Tryz.prog 194 #[.slice (some ⟨g, off, none⟩) n cp, .int .i64 ai, .int .i64 mi, .int .i64 bi, .func (.func 122) #[] #[.pointer (some ⟨bl, 0, none⟩)]] w
      (MergePost g off pre post w cls P U [y] R) := by
  obtain ⟨a, rfl⟩ : ∃ a : Nat, ai = a := ⟨_, ha⟩
  obtain ⟨m, rfl⟩ : ∃ m : Nat, mi = m := ⟨_, hm⟩
  have hmb : bi = (m : Int) + 1 := by rw [hb, hm]; simp; omega
  subst hmb
  have HA := Lib.hid (show a = P.length by omega)
  have HM := Lib.hid (show m = P.length + U.length by simp at hm; omega)
  have HN := Lib.hid (show n = P.length + U.length + 1 + R.length by rw [hn]; simp; omega)
  have HSEG := Lib.hid hseg
  have HC := Lib.hid hc
  have HSU := Lib.hid hsU
  have hb1 : a + 1 < m := by have := HA.out; have := HM.out; omega
  have hb2 : m < n := by have := HM.out; have := HN.out; omega
  have hya : (P ++ U ++ [y] ++ R)[m]? = some y := by
    have e : P ++ U ++ [y] ++ R = (P ++ U) ++ y :: R := by simp
    have e1 : m = (P ++ U).length := by rw [List.length_append]; exact HM.out
    rw [e, e1]; exact getElem?_mid _ _ _
  have HYA := Lib.hid hya
  have hone : ((m : Int) - (a : Int) == 1) = false := by simp; omega
  have hone2 : ((m : Int) + 1 - (m : Int) == 1) = true := by simp; omega
  clear hn ha hm hb hseg hc hsU hya
  go_enter Tryz.func194, Tryz.ntmps194
  go_wp2
  clear hone hone2
  go_loopw [14, 15] (fun vi vj wr => ∃ i j : Nat, vi = .int .i64 i ∧ vj = .int .i64 j ∧ a ≤ i ∧ i ≤ j ∧ j ≤ m ∧ (∀ (k : Nat) u, a + k < i → U[k]? = some u → cls u ≤ cls y) ∧ (∀ (k : Nat) u, j ≤ a + k → U[k]? = some u → cls y < cls u) ∧ Below w.heap.size w wr) (fun vi vj _ => (intOf vj).toNat - (intOf vi).toNat)
  case atStart => exact ⟨a, m, rfl, rfl, Nat.le_refl _, by omega, Nat.le_refl _, fun k u h => by omega, fun k u h1 h2 => by have := lt_of_getElem?_some h2; have := HM.out; have := HA.out; omega, Below.refl _ _⟩
  case round =>
    obtain ⟨i, j, rfl, rfl, hi, hij, hjb, hlo, hhi, hBl⟩ := hrel
    have HLO := Lib.hid hlo
    have HHI := Lib.hid hhi
    clear hlo hhi
    by_cases hlt : i < j
    · obtain ⟨h, hh⟩ : ∃ h : Nat, h = (i + j) / 2 := ⟨_, rfl⟩
      have hh1 : i ≤ h ∧ h < j := by omega
      obtain ⟨u, hu⟩ := getElem?_some_of_lt (l := U) (k := h - a) (by have := HM.out; have := HA.out; omega)
      have huL : (P ++ U ++ [y] ++ R)[h]? = some u := by
        have e1 : P ++ U ++ [y] ++ R = P ++ (U ++ ([y] ++ R)) := by simp
        rw [e1, List.getElem?_append_right (by have := HA.out; omega), List.getElem?_append_left (by have := HA.out; have := HM.out; omega)]
        rw [← hu]
        congr 1
        have := HA.out
        omega
      have cu := (HSEG.out.kept hBl).cell huL
      have cy := (HSEG.out.kept hBl).cell HYA.out
      have HCU := Lib.hid cu
      have HCY := Lib.hid cy
      have HUU := Lib.hid hu
      have HCMP := Lib.hid (HC.out y u wr.drew (Kept.drew hBl |>.mono hBw))
      obtain ⟨hh2, hh3⟩ := hh1
      have hmid : ((i : Int) + (j : Int)) / 2 = (h : Int) := by omega
      have ln : (h : Int) < (n : Int) := by omega
      have ln2 : (m : Int) < (n : Int) := by omega
      clear hh hu huL
      by_cases hlv : cls y < cls u
      · have hcv : cmpI (cls y) (cls u) < 0 := cmpI_neg.2 hlv
        go_wp2_with fail
        go_region_held3 (fun w' => w'.cell? ⟨g, off + m, none⟩ = some (.int .i64 y) ∧ w'.cell? ⟨g, off + h, none⟩ = some (.int .i64 u)) (first | exact ⟨q0, q1⟩ | exact ⟨HCY.out, HCU.out⟩)
          (first | (go_at_call 122; refine HCMP.out.mono ?_; rintro e w2 ⟨rfl, hk2⟩; have q0 := Kept.cell hk2 HCY.out; have q1 := Kept.cell hk2 HCU.out))
        clear hmid ln ln2
        go_wp2_with fail
        go_roundw
        case rel =>
          refine ⟨i, h, rfl, rfl, hi, by omega, by omega, HLO.out, fun k z hk hz => ?_, Kept.trans hBl (Kept.trans (Kept.drew (Kept.refl _)) hk2)⟩
          have := srt_get HSU.out (i := h - a) (j := k) (by omega) HUU.out hz
          omega
        case measure => simp [intOf]; omega
      · have hcv : ¬ cmpI (cls y) (cls u) < 0 := fun h => hlv (cmpI_neg.1 h)
        have hcd : decide (cmpI (cls y) (cls u) < 0) = false := decide_eq_false hcv
        go_wp2_with fail
        go_region_held3 (fun w' => w'.cell? ⟨g, off + m, none⟩ = some (.int .i64 y) ∧ w'.cell? ⟨g, off + h, none⟩ = some (.int .i64 u)) (first | exact ⟨q0, q1⟩ | exact ⟨HCY.out, HCU.out⟩)
          (first | (go_at_call 122; refine HCMP.out.mono ?_; rintro e w2 ⟨rfl, hk2⟩; have q0 := Kept.cell hk2 HCY.out; have q1 := Kept.cell hk2 HCU.out))
        clear hmid ln ln2
        go_wp2_with fail
        go_roundw
        case rel =>
          refine ⟨h + 1, j, by go_num, rfl, by omega, by omega, hjb, fun k z hk hz => ?_, HHI.out, Kept.trans hBl (Kept.trans (Kept.drew (Kept.refl _)) hk2)⟩
          have := srt_get HSU.out (i := k) (j := h - a) (by omega) hz HUU.out
          omega
        case measure => simp [intOf]; omega
    · obtain rfl : i = j := by omega
      obtain ⟨U1, U2, hU12, hU1⟩ := split_at (xs := U) (i := i - a) (by have := HM.out; have := HA.out; omega)
      have hle1 : ∀ v ∈ U1, cls v ≤ cls y := fun v hv => by
        rw [show U1 = U.take (i - a) by rw [hU12, List.take_left' hU1]] at hv
        obtain ⟨k, hk, hkv⟩ := mem_take_get hv
        exact HLO.out k v (by omega) hkv
      have hgt2 : ∀ v ∈ U2, cls y < cls v := fun v hv => by
        rw [show U2 = U.drop (i - a) by rw [hU12, List.drop_left' hU1]] at hv
        obtain ⟨k, hk, hkv⟩ := mem_drop_get hv
        exact HHI.out k v (by omega) hkv
      have HU12 := Lib.hid hU12
      have HU1 := Lib.hid hU1
      have HL1 := Lib.hid hle1
      have HG2 := Lib.hid hgt2
      have hsg := HSEG.out.kept hBl
      have HSG := Lib.hid hsg
      clear hU12 hU1 hle1 hgt2 hsg
      go_wp2_with fail
      obtain ⟨w1, rfl⟩ : ∃ w1 : World, w1 = wr := ⟨_, rfl⟩
      go_loopw [17] (fun vk wr => ∃ (k : Nat) (A1 A2 : List Int), vk = .int .i64 k ∧ U2 = A1 ++ A2 ∧ k = i + A1.length ∧ Seg wr g off pre post (P ++ U1 ++ A1 ++ y :: (A2 ++ R)) ∧ KeptOut g w wr) (fun vk _ => (intOf vk).toNat)
      case atStart =>
        refine ⟨m, U2, [], rfl, by simp, ?_, ?_, Kept.but hBl _⟩
        · have h1 := congrArg List.length HU12.out
          rw [List.length_append] at h1
          have := HU1.out; have := HM.out; have := HA.out
          omega
        · have := HSG.out
          rw [HU12.out] at this
          simpa using this
      case round =>
        obtain ⟨k, A1, A2, rfl, hA12, hk, hsg, hko⟩ := hrel
        have HA12 := Lib.hid hA12
        have HK := Lib.hid hk
        have HSG1 := Lib.hid hsg
        have hkm : k ≤ m := by
          have h1 := congrArg List.length hA12
          have h2 := congrArg List.length HU12.out
          rw [List.length_append] at h1 h2
          have := HU1.out; have := HM.out; have := HA.out
          omega
        clear hA12 hsg
        by_cases hlt2 : i < k
        · obtain ⟨A3, u, hA3⟩ := split_last (xs := A1) (by omega)
          subst hA3
          obtain ⟨kp, rfl⟩ : ∃ kp, k = kp + 1 := ⟨k - 1, by omega⟩
          have hpl : (P ++ U1 ++ A3).length = kp := by have := HA.out; have := HU1.out; simp at hk ⊢; omega
          have eL : P ++ U1 ++ (A3 ++ [u]) ++ y :: (A2 ++ R) = (P ++ U1 ++ A3) ++ u :: y :: (A2 ++ R) := by simp
          have cu : wr.cell? ⟨g, off + kp, none⟩ = some (.int .i64 u) := HSG1.out.cell (by rw [eL, ← hpl]; exact getElem?_mid _ _ _)
          have cy : wr.cell? ⟨g, off + (kp + 1), none⟩ = some (.int .i64 y) := HSG1.out.cell (by
            have e2 : (P ++ U1 ++ A3) ++ u :: y :: (A2 ++ R) = (P ++ U1 ++ A3 ++ [u]) ++ y :: (A2 ++ R) := by simp
            have e3 : kp + 1 = (P ++ U1 ++ A3 ++ [u]).length := by rw [List.length_append, hpl]; rfl
            rw [eL, e2, e3]; exact getElem?_mid _ _ _)
          have f0 := HSG1.out.frozen (off + kp)
          have f1 := HSG1.out.frozen (off + (kp + 1))
          have HPL := Lib.hid hpl
          have HEL := Lib.hid eL
          clear hk hpl eL
          have hwp : IntKind.i64.wrap (kp : Int) = (kp : Int) := IntWalk.i64_in _ (by omega)
          have jz : (kp : Int) + 1 < (n : Int) := by omega
          have jz1 : (kp : Int) < (n : Int) := by omega
          have p0 : (0 : Int) ≤ (kp : Int) + 1 := by omega
          have e0 : ((kp : Int) + 1).toNat = kp + 1 := by omega
          have ct : (i : Int) < (kp : Int) + 1 := by omega
          go_wp2_with fail
          go_region
          clear hwp jz jz1 p0 e0 ct
          all_goals go_wp2_with fail
          go_roundw
          case rel =>
            refine ⟨kp, A3, u :: A2, by go_num, by rw [HA12.out]; simp, by have := HK.out; simp at this; omega, ?_, KeptOut.drew (KeptOut.set (KeptOut.set hko _ _) _ _)⟩
            have hl : (P ++ U1 ++ (A3 ++ [u]) ++ y :: (A2 ++ R)).length = n := by
              have h1 := congrArg List.length HA12.out
              have h2 := congrArg List.length HU12.out
              have h3 := HN.out
              simp at h1 h2 ⊢
              omega
            have h1 := HSG1.out.set (i := kp + 1) (by rw [hl]; omega) u
            have h2 := h1.set (i := kp) (by rw [List.length_set, hl]; omega) y
            have e := swap_adj HEL.out
            rw [HPL.out] at e
            rw [e] at h2
            have e4 : P ++ U1 ++ A3 ++ y :: u :: (A2 ++ R) = P ++ U1 ++ A3 ++ y :: (u :: A2 ++ R) := by simp
            rw [e4] at h2
            exact h2
          case measure => simp [intOf]
        · have hA1 : A1 = [] := List.length_eq_zero_iff.1 (by omega)
          subst hA1
          clear hk
          go_wp2_with fail
          refine bodyPost_ret (results_none rfl _ _ _) rfl ?_
          obtain ⟨m1, m2⟩ := merge_right (cls := cls) (y := y) (U1 := U1) (U2 := U2) (by rw [← HU12.out]; exact HSU.out) HL1.out HG2.out
          refine ⟨rfl, hko, _, HSG1.out, U1 ++ y :: U2, ?_, ?_, ?_, m2⟩
          · rw [HA12.out]; simp
          · rw [HU12.out]; simp; omega
          · rw [HU12.out]; exact m1
end Go.Proofs.YtmlcdohldkgcdaaGreatDoor
