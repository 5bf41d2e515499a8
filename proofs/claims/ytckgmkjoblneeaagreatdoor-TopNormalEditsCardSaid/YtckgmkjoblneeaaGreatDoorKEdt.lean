/- edits.Check and joined. edits.Apply. -/
import Derived.Laws.CopyOwn
import Derived.Deep.RegionHeld3
import Derived.Test.YtckgmkjoblneeaaGreatDoorKJo
import Derived.Test.YtckgmkjoblneeaaGreatDoorKQca
import Derived.Test.YtckgmkjoblneeaaGreatDoorKSq
namespace Go.Proofs.YtckgmkjoblneeaaGreatDoor
open Go Go.RowKit
def edErr (a d : Int) (n : Nat) : Int := if a < 0 ∨ d < 0 ∨ (n : Int) < a ∨ (n : Int) - a < d then 1 else 0
set_option maxRecDepth 100000 in
set_option maxHeartbeats 2000000 in
theorem ed_check (a d : Int) (I : Option Addr) (ni ci n : Nat) (w : World) (hn : n ≤ 1000000) : Calls Tryz.prog 27 #[.agg #[.int .i64 a, .int .i64 d, .slice I ni ci], .int .i64 (n : Int)] w (RetI w (edErr a d n)) := by
  have HK := Lib.hid (Kept.alloc (Kept.refl w) (Obj.cells #[Value.int IntKind.i64 a, Value.int IntKind.i64 d, Value.slice I ni ci] 42))
  unfold edErr
  by_cases hb : a < 0 ∨ d < 0 ∨ (n : Int) < a ∨ (n : Int) - a < d
  · rw [if_pos hb]
    have hb2 : a < 0 ∨ (0 ≤ a ∧ d < 0) ∨ (0 ≤ a ∧ 0 ≤ d ∧ (n : Int) < a) ∨ (0 ≤ a ∧ 0 ≤ d ∧ a ≤ (n : Int) ∧ (n : Int) - a < d) := by omega
    clear hb
    rcases hb2 with h1 | ⟨h1, h2⟩ | ⟨h1, h2, h3⟩ | ⟨h1, h2, h3, h4⟩
    all_goals
      go_enter Tryz.func27, Tryz.ntmps27
      go_wp2_with fail
      go_ret
      exact ⟨rfl, HK.out⟩
  · rw [if_neg hb]
    have h1 : 0 ≤ a := by omega
    have h2 : 0 ≤ d := by omega
    have h3 : a ≤ (n : Int) := by omega
    have h4 : d ≤ (n : Int) - a := by omega
    clear hb
    go_enter Tryz.func27, Tryz.ntmps27
    go_wp2_with fail
    go_ret
    exact ⟨rfl, HK.out⟩
theorem make_ints (w : World) (k : Nat) (hk : k ≤ 1000000) : ∃ w', (Instr.makeSlice 32 (.int .i64 (k : Int)) (.int .i64 (k : Int))).run Tryz.prog w = .ok (.slice (some ⟨w.heap.size, 0, none⟩) k k) w' ∧
    w'.heap[w.heap.size]? = some (.cells (List.replicate k (Value.int .i64 0)).toArray 3 (0, 0)) ∧ Kept w w' := by
  obtain ⟨i1, hi1, hy0, hy1, hy2⟩ := info_parts1 info_int
  have hr := run_make (P := Tryz.prog) w 32 3 i1 (.int .i64 0) Tryz.underlying32 hi1 hy0 .i64 .i64 k k (by omega) (by omega) (by rw [hy2]; omega) (by omega)
  simp only [Int.toNat_natCast] at hr
  refine ⟨_, hr, ?_, Kept.alloc (Kept.refl _) _⟩
  have hm : madeCells (Value.int .i64 0).cells k = (List.replicate k (Value.int .i64 0)).toArray := by
    rw [show (Value.int .i64 0).cells = #[.int .i64 0] from rfl, ← Array.toList_inj, toList_madeCells_one]
  rw [hy1, Nat.mul_one, hm]
  exact heap_alloc_new _ _
theorem copy_src {w : World} {A : Option Addr} {n : Nat} {xs : List Int} (h : Ints w A n xs) {X : List Value} (hX : X = xs.map (Value.int .i64)) (h0 : 0 < X.length) : ∃ ad, A = some ad ∧ ∀ j v, X[j]? = some v → w.cell? (ad.add j) = some v := by
  subst hX
  rw [List.length_map] at h0
  obtain ⟨b, off, e, _⟩ := h.2 (by rw [h.1]; exact h0)
  subst e
  exact ⟨_, rfl, ints_news h⟩
theorem run_copy_ints (w w0 : World) (dp sp : Option Addr) (dLen dCap sLen sCap g off : Nat) (cur : List Value) (hg : w.heap[g]? = some (.cells cur.toArray 3 (0, 0))) (cs : List Value) (hn : cs.length = Nat.min sLen dLen)
    (hpos : 0 < cs.length → dp = some ⟨g, off, none⟩ ∧ ∃ ad, sp = some ad ∧ ∀ j v, cs[j]? = some v → w.cell? (ad.add j) = some v) (hfit : off + cs.length ≤ cur.length) (h1 : ∀ v ∈ cs, v.oneCell' = true) (hb : Kept w0 w) (hBg : w0.heap.size ≤ g) :
    ∃ w', (∀ ty, (Builtin.copy_ #[32, 32] ty #[.slice dp dLen dCap, .slice sp sLen sCap]).run Tryz.prog w = .ok (goInt cs.length) w') ∧ w'.heap[g]? = some (.cells (splice cur off cs).toArray 3 (0, 0)) ∧ Kept w0 w' := by
  have hsz : (Tryz.prog.info? 3).map (·.size) = some 1 := by kernel_rfl
  by_cases h0 : cs.length = 0
  · obtain rfl : cs = [] := List.eq_nil_of_length_eq_zero h0
    exact ⟨w, fun ty => run_copy_none (P := Tryz.prog) w _ _ ty 3 dp sp dLen dCap sLen sCap Tryz.underlying32 hsz (by simpa using hn.symm), by simpa [splice] using hg, hb⟩
  · obtain ⟨rfl, ad, rfl, hsrc⟩ := hpos (by omega)
    exact ⟨_, fun ty => run_copy_row (P := Tryz.prog) w _ _ ty 3 g off dLen dCap ad sLen sCap cur.toArray 3 cs Tryz.underlying32 hsz hg hn hsrc (by simpa using hfit) h1, by simpa [splice] using setRow_heap w g _ _ 3 _ hg, below_setRow hb hBg _⟩
set_option maxRecDepth 100000 in
set_option maxHeartbeats 2000000 in
theorem ed_joined (A B C : Option Addr) (na ca nb cb nc cc : Nat) (a b c : List Int) (w : World) (hna : na ≤ 100000) (hnb : nb ≤ 100000) (hnc : nc ≤ 100000) (hA : Ints w A na a) (hB : Ints w B nb b) (hC : Ints w C nc c) : Calls Tryz.prog 28 #[.slice A na ca, .slice B nb cb, .slice C nc cc] w (RetInts w (a ++ (b ++ c))) := by
  obtain ⟨k, hk⟩ : ∃ k : Nat, k = na + nb + nc := ⟨_, rfl⟩
  obtain ⟨w1, hmk, hz, hk1⟩ := make_ints w k (by omega)
  obtain ⟨g, hg⟩ : ∃ g : Nat, g = w.heap.size := ⟨_, rfl⟩
  rw [← hg] at hmk hz
  rw [show (k : Int) = (na : Int) + (nb : Int) + (nc : Int) by omega] at hmk
  obtain ⟨Z, hZ⟩ : ∃ Z : List Value, Z = List.replicate k (Value.int .i64 0) := ⟨_, rfl⟩
  rw [← hZ] at hz
  have HZL := Lib.hid (show Z.length = k by rw [hZ, List.length_replicate])
  obtain ⟨X1, hX1⟩ : ∃ X : List Value, X = a.map (Value.int .i64) := ⟨_, rfl⟩
  obtain ⟨X2, hX2⟩ : ∃ X : List Value, X = b.map (Value.int .i64) := ⟨_, rfl⟩
  obtain ⟨X3, hX3⟩ : ∃ X : List Value, X = c.map (Value.int .i64) := ⟨_, rfl⟩
  have HL1 := Lib.hid (show X1.length = na by rw [hX1, List.length_map]; exact hA.1.symm)
  have HL2 := Lib.hid (show X2.length = nb by rw [hX2, List.length_map]; exact hB.1.symm)
  have HL3 := Lib.hid (show X3.length = nc by rw [hX3, List.length_map]; exact hC.1.symm)
  have HO1 := Lib.hid (show ∀ v ∈ X1, v.oneCell' = true by intro v hv; rw [hX1] at hv; obtain ⟨y, _, rfl⟩ := List.mem_map.1 hv; simp [Value.oneCell'])
  have HO2 := Lib.hid (show ∀ v ∈ X2, v.oneCell' = true by intro v hv; rw [hX2] at hv; obtain ⟨y, _, rfl⟩ := List.mem_map.1 hv; simp [Value.oneCell'])
  have HO3 := Lib.hid (show ∀ v ∈ X3, v.oneCell' = true by intro v hv; rw [hX3] at hv; obtain ⟨y, _, rfl⟩ := List.mem_map.1 hv; simp [Value.oneCell'])
  have HSZ := Lib.hid (show (Tryz.prog.info? 3).map (·.size) = some 1 by kernel_rfl)
  have HGL := Lib.hid (show w.heap.size ≤ g by omega)
  have HN1 := Lib.hid (show X1.length = Nat.min na k by have := HL1.out; have : na ≤ k := (by omega); show _ = min _ _; rw [Nat.min_eq_left this]; assumption)
  have HN2 := Lib.hid (show X2.length = Nat.min nb (k - na) by have := HL2.out; have : nb ≤ k - na := (by omega); show _ = min _ _; rw [Nat.min_eq_left this]; assumption)
  have HN3 := Lib.hid (show X3.length = Nat.min nc (k - (na + nb)) by have := HL3.out; have : nc ≤ k - (na + nb) := (by omega); show _ = min _ _; rw [Nat.min_eq_left this]; assumption)
  have HP1 := Lib.hid (fun w' (hw : Kept w w') (h0 : 0 < X1.length) => And.intro (rfl : (some ⟨g, 0, none⟩ : Option Addr) = some ⟨g, 0, none⟩) (copy_src (hA.kept hw) hX1 h0))
  have HP2 := Lib.hid (fun w' (hw : Kept w w') (h0 : 0 < X2.length) => And.intro (show dropA (some ⟨g, 0, none⟩) k na = some ⟨g, na, none⟩ by have := HL2.out; unfold dropA; rw [if_neg (by omega)]; simp [Addr.add]; intros; omega) (copy_src (hB.kept hw) hX2 h0))
  have HP3 := Lib.hid (fun w' (hw : Kept w w') (h0 : 0 < X3.length) => And.intro (show dropA (some ⟨g, 0, none⟩) k (na + nb) = some ⟨g, na + nb, none⟩ by have := HL3.out; unfold dropA; rw [if_neg (by omega)]; simp [Addr.add]; intros; omega) (copy_src (hC.kept hw) hX3 h0))
  have hf1 : 0 + X1.length ≤ Z.length := by have := HL1.out; have := HZL.out; omega
  have hf2 : na + X2.length ≤ (splice Z 0 X1).length := by rw [length_splice _ _ _ hf1]; have := HL2.out; have := HZL.out; omega
  have hf3 : na + nb + X3.length ≤ (splice (splice Z 0 X1) na X2).length := by rw [length_splice _ _ _ hf2, length_splice _ _ _ hf1]; have := HL3.out; have := HZL.out; omega
  have HF1 := Lib.hid hf1
  have HF2 := Lib.hid hf2
  have HF3 := Lib.hid hf3
  have HRES := Lib.hid (show splice (splice (splice Z 0 X1) na X2) (na + nb) X3 = (a ++ (b ++ c)).map (Value.int .i64) by rw [splice_splice_splice Z X1 X2 X3 na nb HL1.out HL2.out (by have := HL3.out; have := HZL.out; omega), hX1, hX2, hX3, List.map_append, List.map_append])
  have HLEN := Lib.hid (show k = (a ++ (b ++ c)).length by rw [List.length_append, List.length_append]; have := hA.1; have := hB.1; have := hC.1; omega)
  have s1 := run_drop1 (some ⟨g, 0, none⟩) k k na (by omega)
  have s2 := run_drop1 (some ⟨g, 0, none⟩) k k (na + nb) (by omega)
  rw [Int.natCast_add] at s2
  obtain ⟨w2, hr1, hg2, hk2⟩ := run_copy_ints w1 w (some ⟨g, 0, none⟩) A k k na ca g 0 Z hz X1 HN1.out (HP1.out _ hk1) hf1 HO1.out hk1 HGL.out
  obtain ⟨w3, hr2, hg3, hk3⟩ := run_copy_ints w2 w (dropA (some ⟨g, 0, none⟩) k na) B (k - na) (k - na) nb cb g na _ hg2 X2 HN2.out (HP2.out _ hk2) hf2 HO2.out hk2 HGL.out
  obtain ⟨w4, hr3, hg4, hk4⟩ := run_copy_ints w3 w (dropA (some ⟨g, 0, none⟩) k (na + nb)) C (k - (na + nb)) (k - (na + nb)) nc cc g (na + nb) _ hg3 X3 HN3.out (HP3.out _ hk3) hf3 HO3.out hk3 HGL.out
  have HG4 := Lib.hid hg4
  have HK4 := Lib.hid hk4
  clear hZ hX1 hX2 hX3 hA hB hC hf1 hf2 hf3 hz hk1 hg hk hg2 hg3 hg4 hk2 hk3 hk4
  go_enter Tryz.func28, Tryz.ntmps28
  go_wp2_with fail
  go_ret
  refine ⟨_, k, k, rfl, Nat.le_refl _, ?_, HK4.out⟩
  have h9 := Ints.new_ (xs := a ++ (b ++ c)) HG4.out (by rw [HRES.out])
  rw [← HLEN.out] at h9
  exact h9
end Go.Proofs.YtckgmkjoblneeaaGreatDoor
namespace Go.Proofs.YtckgmkjoblneeaaGreatDoor
open Go Go.RowKit
set_option maxRecDepth 100000 in
set_option maxHeartbeats 2000000 in
theorem ed_apply_bad (ea ed : Int) (I : Option Addr) (ni ci : Nat) (A : Option Addr) (nt ct : Nat) (w : World) (hnt : nt ≤ 100000) (hb : ea < 0 ∨ ed < 0 ∨ (nt : Int) < ea ∨ (nt : Int) - ea < ed) : Calls Tryz.prog 12 #[.agg #[.int .i64 ea, .int .i64 ed, .slice I ni ci], .slice A nt ct] w (fun e w' => e = .returned (.tuple #[.slice none 0 0, .int .i64 1]) ∧ Kept w w') := by
  have hk0_ := Kept.alloc (Kept.refl w) (Obj.cells #[Value.int IntKind.i64 ea, Value.int IntKind.i64 ed, Value.slice I ni ci] 42)
  have HK1 := Lib.hid hk0_
  have hb0_ := (box_block w (Obj.cells #[Value.int IntKind.i64 ea, Value.int IntKind.i64 ed, Value.slice I ni ci] 42))
  have x0_ := cell_of_block (i := 0) hb0_ rfl
  have x1_ := cell_of_block (i := 1) hb0_ rfl
  have x2_ := cell_of_block (i := 2) hb0_ rfl
  simp only [s4_, s5_, s6_] at x0_ x1_ x2_
  have HX0 := Lib.hid x0_
  have HX1 := Lib.hid x1_
  have HX2 := Lib.hid x2_
  have HB0 := Lib.hid hb0_
  clear x0_ x1_ x2_ hb0_
  have HC := Lib.hid (fun w' => ed_check ea ed I ni ci nt w' (by omega))
  unfold edErr at HC
  rw [if_pos hb] at HC
  clear hb hk0_
  go_enter Tryz.func12, Tryz.ntmps12
  have p0 := HX0.out
  have p1 := HX1.out
  have p2 := HX2.out
  go_wp2_with fail
  refine (HC.out _).mono ?_
  rintro e w1 ⟨rfl, k1⟩
  clear p0 p1 p2
  have KB1 := Lib.hid (Kept.trans (Kept.refl (w.alloc (Obj.cells #[Value.int IntKind.i64 ea, Value.int IntKind.i64 ed, Value.slice I ni ci] 42))) k1)
  go_wp2_with fail
  exact bodyPost_ret (v := .tuple #[.slice none 0 0, .int .i64 1]) (by simp [results, Tryz.results12, go_sem]) rfl ⟨rfl, (Kept.trans HK1.out KB1.out)⟩
set_option maxRecDepth 100000 in
set_option maxHeartbeats 2000000 in
theorem ed_apply_ok (p d : Nat) (I : Option Addr) (ni ci : Nat) (ins : List Int) (A : Option Addr) (nt ct : Nat) (text : List Int) (w : World) (hnt : nt ≤ 100000) (hni : ni ≤ 100000) (hle : nt ≤ ct) (hp : p + d ≤ nt) (hT : Ints w A nt text) (hI : Ints w I ni ins) : Calls Tryz.prog 12 #[.agg #[.int .i64 (p : Int), .int .i64 (d : Int), .slice I ni ci], .slice A nt ct] w (fun e w' => ∃ Q k c, e = .returned (.tuple #[.slice Q k c, .int .i64 0]) ∧ k ≤ c ∧ Ints w' Q k (text.take p ++ (ins ++ text.drop (p + d))) ∧ Kept w w') := by
  have hk0_ := Kept.alloc (Kept.refl w) (Obj.cells #[Value.int IntKind.i64 (p : Int), Value.int IntKind.i64 (d : Int), Value.slice I ni ci] 42)
  have HK1 := Lib.hid hk0_
  have hb0_ := (box_block w (Obj.cells #[Value.int IntKind.i64 (p : Int), Value.int IntKind.i64 (d : Int), Value.slice I ni ci] 42))
  have x0_ := cell_of_block (i := 0) hb0_ rfl
  have x1_ := cell_of_block (i := 1) hb0_ rfl
  have x2_ := cell_of_block (i := 2) hb0_ rfl
  simp only [s4_, s5_, s6_] at x0_ x1_ x2_
  have HX0 := Lib.hid x0_
  have HX1 := Lib.hid x1_
  have HX2 := Lib.hid x2_
  have HB0 := Lib.hid hb0_
  clear x0_ x1_ x2_ hb0_
  have HC := Lib.hid (fun w' => ed_check (p : Int) (d : Int) I ni ci nt w' (by omega))
  unfold edErr at HC
  rw [if_neg (show ¬ ((p : Int) < 0 ∨ (d : Int) < 0 ∨ (nt : Int) < (p : Int) ∨ (nt : Int) - (p : Int) < (d : Int)) by omega)] at HC
  have HJ := Lib.hid (fun w' (hk : Kept w w') => ed_joined A I (dropA A ct (p + d)) p p ni ci (nt - (p + d)) (ct - (p + d)) (text.take p) ins (text.drop (p + d)) w' (by omega) hni (by omega) (Ints.front_ (hT.kept hk) (by omega)) (hI.kept hk) (Ints.drop_ (hT.kept hk) hp hle))
  generalize text.take p ++ (ins ++ text.drop (p + d)) = X at *
  have sl1 := run_take3 A nt ct p (by omega)
  have sl2 := run_drop1 A nt ct (p + d) hp
  rw [Int.natCast_add] at sl2
  have hws : IntKind.i64.wrap ((p : Int) + (d : Int)) = (p : Int) + (d : Int) := IntWalk.i64_in _ (by omega)
  clear hk0_ hT hI hp hle hni
  go_enter Tryz.func12, Tryz.ntmps12
  have p0 := HX0.out
  have p1 := HX1.out
  have p2 := HX2.out
  go_wp2_with fail
  refine (HC.out _).mono ?_
  rintro e w1 ⟨rfl, k1⟩
  clear p0 p1 p2
  have KB1 := Lib.hid (Kept.trans (Kept.refl (w.alloc (Obj.cells #[Value.int IntKind.i64 (p : Int), Value.int IntKind.i64 (d : Int), Value.slice I ni ci] 42))) k1)
  have p0 := Kept.cell KB1.out HX0.out
  have p1 := Kept.cell KB1.out HX1.out
  have p2 := Kept.cell KB1.out HX2.out
  go_wp2_with fail
  refine wp_region_held_drew (S := (fun w' => w'.cell? ⟨w.heap.size, 0, none⟩ = some (.int .i64 (p : Int)) ∧ w'.cell? ⟨w.heap.size, 1, none⟩ = some (.int .i64 (d : Int)) ∧ w'.cell? ⟨w.heap.size, 2, none⟩ = some (.slice I ni ci))) (by kernel_rfl) ⟨p0, p1, p2⟩ (fun hHeld => ?_)
  refine tk_ 0 ?_ rfl ?_; refine tk_ 1 ?_ rfl ?_; refine tk_ 2 ?_ rfl ?_; refine tk_ 3 ?_ rfl ?_; refine tk_ 4 ?_ rfl ?_; refine tk_ 5 ?_ rfl ?_; refine tk_ 6 ?_ rfl ?_; refine tk_ 7 ?_ rfl ?_; refine tk_ 8 ?_ rfl ?_; refine tk_ 9 ?_ rfl ?_; refine tk_ 10 ?_ rfl ?_; refine tk_ 11 ?_ rfl ?_; refine tk_ 12 ?_ rfl ?_; refine tk_ 13 ?_ rfl ?_; refine tk_ 14 ?_ rfl ?_
  refine rd_ 15 rfl (fun K hK => ?_)
  go_simp
  (refine (HJ.out _ (Kept.trans HK1.out (Kept.drew KB1.out))).mono ?_; rintro e w2 ⟨A2, n2, c2, rfl, le2, i2, k2⟩; have I2 := Lib.hid i2; clear i2; have KB2 := Lib.hid (Kept.trans (Kept.drew KB1.out) k2))
  go_wp2_with fail
  refine hK.out _ _ ⟨Kept.cell KB2.out HX0.out, Kept.cell KB2.out HX1.out, Kept.cell KB2.out HX2.out⟩ (fun hHeld => ?_)
  clear hK K
  (try simp only [Act.put, s1_, s2_, s3_, s4_, s5_, s6_])
  refine tk_ 16 ?_ rfl ?_; refine tk_ 17 ?_ rfl ?_
  refine wpAnyH_done (by kernel_rfl) ?_ _
  clear p0 p1 p2
  go_wp2_with fail
  exact bodyPost_ret (v := .tuple #[.slice A2 n2 c2, .int .i64 0]) (by simp [results, Tryz.results12, go_sem]) rfl ⟨A2, n2, c2, rfl, le2, I2.out, (Kept.trans HK1.out KB2.out)⟩
end Go.Proofs.YtckgmkjoblneeaaGreatDoor
