/- law26.JoiningRanges returns true. -/
import Derived.Deep.RegionHeld3
import Derived.Test.YtbhglkofaendjaaGreatDoorKAl6
import Derived.Test.YtbhglkofaendjaaGreatDoorKNrm
namespace Go.Proofs.YtbhglkofaendjaaGreatDoor
open Go Go.RowKit

set_option maxRecDepth 100000 in
set_option maxHeartbeats 4000000 in
theorem law_ranges26 (s : Sls) (n : Nrm) (form : Int) (A : Option Addr) (l c : Nat) (xs : List Int) (ea ed : Int) (I : Option Addr) (ni ci : Nat) (ins : List Int) (w : World) (hN : NormIn w s n) (_hx : I64 form) (hI : l ≤ c ∧ c ≤ 9223372036854775807 ∧ Ints w A l xs) (_hea : I64 ea) (_hed : I64 ed) (hJ : ni ≤ ci ∧ ci ≤ 9223372036854775807 ∧ Ints w I ni ins) (hG : Glob w) : Calls Tryz.prog 7 #[s.val, .int .i64 form, .slice A l c, .agg #[.int .i64 ea, .int .i64 ed, .slice I ni ci]] w (RetB w true) := by
  have hk0 := Kept.alloc (Kept.refl w) (Obj.cells #[Value.slice s.Ac s.nc s.cc, Value.slice s.Am s.nm s.cm, Value.slice s.Ae s.ne s.ce] 28)
  have hk1 := Kept.alloc hk0 (Obj.cells #[Value.int IntKind.i64 ea, Value.int IntKind.i64 ed, Value.slice I ni ci] 38)
  have HK1 := Lib.hid hk1
  have hbx := alloc_lift (o := (Obj.cells #[Value.int IntKind.i64 ea, Value.int IntKind.i64 ed, Value.slice I ni ci] 38)) (box_block w (Obj.cells #[Value.slice s.Ac s.nc s.cc, Value.slice s.Am s.nm s.cm, Value.slice s.Ae s.ne s.ce] 28))
  have hby := box_block (w.alloc (Obj.cells #[Value.slice s.Ac s.nc s.cc, Value.slice s.Am s.nm s.cm, Value.slice s.Ae s.ne s.ce] 28)) (Obj.cells #[Value.int IntKind.i64 ea, Value.int IntKind.i64 ed, Value.slice I ni ci] 38)
  rw [World.size_alloc] at hby
  have x0 := cell_of_block (i := 0) hbx rfl
  have x1 := cell_of_block (i := 1) hbx rfl
  have x2 := cell_of_block (i := 2) hbx rfl
  have x3 := cell_of_block (i := 0) hby rfl
  have x4 := cell_of_block (i := 1) hby rfl
  have x5 := cell_of_block (i := 2) hby rfl
  simp only [List.getElem_toArray, List.getElem_cons_zero, List.getElem_cons_succ] at x0 x1 x2 x3 x4 x5
  have HX0 := Lib.hid x0
  have HX1 := Lib.hid x1
  have HX2 := Lib.hid x2
  have HX3 := Lib.hid x3
  have HX4 := Lib.hid x4
  have HX5 := Lib.hid x5
  have HN := Lib.hid hN
  have HG := Lib.hid hG
  clear hk0 hbx hby x3 x4 x5
  obtain ⟨hle, hbig, hI⟩ := hI
  obtain ⟨hle2, hbig2, hJ⟩ := hJ
  have HS := Lib.hid (few26 s n A l c I ni ci ((w.alloc (Obj.cells #[Value.slice s.Ac s.nc s.cc, Value.slice s.Am s.nm s.cm, Value.slice s.Ae s.ne s.ce] 28)).alloc (Obj.cells #[Value.int IntKind.i64 ea, Value.int IntKind.i64 ed, Value.slice I ni ci] 38)) (hN.kept hk1) ⟨hle, hbig⟩ ⟨hle2, hbig2⟩)
  have HI := Lib.hid hI
  have HJ := Lib.hid hJ
  clear hN hG hk1 x0 x1 x2 hI hJ hbig2
  cases hsm : (smallB n && (decide (l ≤ 20) && decide (ni ≤ 20)))
  · rw [hsm] at HS
    clear hsm
    unfold Sls.val at *
    go_enter Tryz.func7, Tryz.ntmps7
    have p0 := HX0.out
    have p1 := HX1.out
    have p2 := HX2.out
    have p3 := HX3.out
    have p4 := HX4.out
    have p5 := HX5.out
    go_wp2_with fail
    refine (HS.out).mono ?_
    rintro e w1 ⟨rfl, k1⟩
    clear p0 p1 p2 p3 p4 p5
    have KB1 := Lib.hid (Kept.trans (Kept.refl ((w.alloc (Obj.cells #[Value.slice s.Ac s.nc s.cc, Value.slice s.Am s.nm s.cm, Value.slice s.Ae s.ne s.ce] 28)).alloc (Obj.cells #[Value.int IntKind.i64 ea, Value.int IntKind.i64 ed, Value.slice I ni ci] 38))) k1)
    go_wp2_with fail
    refine (alive26 _ (HG.out.kept (Kept.trans HK1.out KB1.out))).mono ?_
    rintro e w2 ⟨rfl, k2⟩
    have KB2 := Lib.hid (Kept.trans KB1.out k2)
    go_wp2_with fail
    go_ret
    exact ⟨rfl, (Kept.trans HK1.out KB2.out)⟩
  · rw [hsm] at HS
    obtain ⟨hsb, hsm2⟩ := (Bool.and_eq_true _ _).mp hsm
    obtain ⟨hl20, hm20⟩ := (Bool.and_eq_true _ _).mp hsm2
    have hl20 := of_decide_eq_true hl20
    have hm20 := of_decide_eq_true hm20
    have HNA := Lib.hid (HN.out.small hsb)
    have HXL := Lib.hid HI.out.1
    have HYL := Lib.hid HJ.out.1
    clear hsm hsm2 hsb
    have HR := Lib.hid (fun w' (hk : Kept w w') => replace_any s n form A l c xs ea ed I ni ci ins w' (HNA.out.kept hk) (HG.out.kept hk) (by omega) (by omega) hle hle2 (HI.out.kept hk) (HJ.out.kept hk))
    rcases (show (form < 1 ∨ 4 < form) ∨ (¬ (form < 1 ∨ 4 < form) ∧ (ea < 0 ∨ ed < 0 ∨ (xs.length : Int) < ea ∨ (xs.length : Int) - ea < ed)) ∨ (¬ (form < 1 ∨ 4 < form) ∧ ¬ (ea < 0 ∨ ed < 0 ∨ (xs.length : Int) < ea ∨ (xs.length : Int) - ea < ed)) by by_cases h1 : form < 1 ∨ 4 < form <;> by_cases h2 : ea < 0 ∨ ed < 0 ∨ (xs.length : Int) < ea ∨ (xs.length : Int) - ea < ed <;> simp [h1, h2]) with hf | ⟨hf, hb⟩ | ⟨hf, hb⟩
    · unfold RetRepl at HR
      simp only [if_pos hf] at HR
      clear hf
      unfold Sls.val at *
      go_enter Tryz.func7, Tryz.ntmps7
      have p0 := HX0.out
      have p1 := HX1.out
      have p2 := HX2.out
      have p3 := HX3.out
      have p4 := HX4.out
      have p5 := HX5.out
      go_wp2_with fail
      refine (HS.out).mono ?_
      rintro e w1 ⟨rfl, k1⟩
      clear p0 p1 p2 p3 p4 p5
      have KB1 := Lib.hid (Kept.trans (Kept.refl ((w.alloc (Obj.cells #[Value.slice s.Ac s.nc s.cc, Value.slice s.Am s.nm s.cm, Value.slice s.Ae s.ne s.ce] 28)).alloc (Obj.cells #[Value.int IntKind.i64 ea, Value.int IntKind.i64 ed, Value.slice I ni ci] 38))) k1)
      have p0 := Kept.cell KB1.out HX0.out
      have p1 := Kept.cell KB1.out HX1.out
      have p2 := Kept.cell KB1.out HX2.out
      have p3 := Kept.cell KB1.out HX3.out
      have p4 := Kept.cell KB1.out HX4.out
      have p5 := Kept.cell KB1.out HX5.out
      go_wp2_with fail
      refine (HR.out _ (Kept.trans HK1.out KB1.out)).mono ?_
      rintro e w2 ⟨rfl, k2⟩
      have KB2 := Lib.hid (Kept.trans KB1.out k2)
      clear p0 p1 p2 p3 p4 p5
      have KB3 := Lib.hid (Kept.trans KB2.out (Kept.alloc (Kept.refl w2) (Obj.cells #[Value.int IntKind.i64 0, Value.int IntKind.i64 0] 40)))
      go_wp2_with fail
      refine (alive26 _ (HG.out.kept (Kept.trans HK1.out KB3.out))).mono ?_
      rintro e w4 ⟨rfl, k4⟩
      have KB4 := Lib.hid (Kept.trans KB3.out k4)
      go_wp2_with fail
      go_ret
      exact ⟨rfl, (Kept.trans HK1.out KB4.out)⟩
    · unfold RetRepl at HR
      simp only [if_neg hf, if_pos hb] at HR
      clear hf hb
      unfold Sls.val at *
      go_enter Tryz.func7, Tryz.ntmps7
      have p0 := HX0.out
      have p1 := HX1.out
      have p2 := HX2.out
      have p3 := HX3.out
      have p4 := HX4.out
      have p5 := HX5.out
      go_wp2_with fail
      refine (HS.out).mono ?_
      rintro e w1 ⟨rfl, k1⟩
      clear p0 p1 p2 p3 p4 p5
      have KB1 := Lib.hid (Kept.trans (Kept.refl ((w.alloc (Obj.cells #[Value.slice s.Ac s.nc s.cc, Value.slice s.Am s.nm s.cm, Value.slice s.Ae s.ne s.ce] 28)).alloc (Obj.cells #[Value.int IntKind.i64 ea, Value.int IntKind.i64 ed, Value.slice I ni ci] 38))) k1)
      have p0 := Kept.cell KB1.out HX0.out
      have p1 := Kept.cell KB1.out HX1.out
      have p2 := Kept.cell KB1.out HX2.out
      have p3 := Kept.cell KB1.out HX3.out
      have p4 := Kept.cell KB1.out HX4.out
      have p5 := Kept.cell KB1.out HX5.out
      go_wp2_with fail
      refine (HR.out _ (Kept.trans HK1.out KB1.out)).mono ?_
      rintro e w2 ⟨rfl, k2⟩
      have KB2 := Lib.hid (Kept.trans KB1.out k2)
      clear p0 p1 p2 p3 p4 p5
      have KB3 := Lib.hid (Kept.trans KB2.out (Kept.alloc (Kept.refl w2) (Obj.cells #[Value.int IntKind.i64 0, Value.int IntKind.i64 0] 40)))
      go_wp2_with fail
      refine (alive26 _ (HG.out.kept (Kept.trans HK1.out KB3.out))).mono ?_
      rintro e w4 ⟨rfl, k4⟩
      have KB4 := Lib.hid (Kept.trans KB3.out k4)
      go_wp2_with fail
      go_ret
      exact ⟨rfl, (Kept.trans HK1.out KB4.out)⟩
    · have h1 : 0 ≤ ea := by omega
      have h2 : 0 ≤ ed := by omega
      have h3 : ea ≤ (xs.length : Int) := by omega
      have h4 : ed ≤ (xs.length : Int) - ea := by omega
      unfold RetRepl at HR
      simp only [if_neg hf, if_neg hb] at HR
      clear hf hb _hea _hed
      obtain ⟨p, rfl⟩ := Int.eq_ofNat_of_zero_le h1
      obtain ⟨d, rfl⟩ := Int.eq_ofNat_of_zero_le h2
      have hpl : p + d ≤ l := by have := HXL.out; omega
      rw [show ((p : Int) + (d : Int)).toNat = p + d by omega, Int.toNat_natCast] at HR
      have hlo : jFrom n form (xs.take p) ≤ p := by have := jFrom_le n form (xs.take p); rw [List.length_take] at this; omega
      have hto := jTo_le n form (xs.drop (p + d))
      rw [List.length_drop] at hto
      have HJL := Lib.hid (join_len n form (xs.take p) ins (xs.drop (p + d)))
      have HFR := Lib.hid (show (joinM n form (xs.take p) ins (xs.drop (p + d))).take (jFrom n form (xs.take p)) = xs.take (jFrom n form (xs.take p)) by rw [join_front, List.take_take, Nat.min_eq_left hlo])
      have HBK := Lib.hid (show (joinM n form (xs.take p) ins (xs.drop (p + d))).drop (jFrom n form (xs.take p) + (jMid n form (xs.take p) ins (xs.drop (p + d))).length) = xs.drop (p + d + jTo n form (xs.drop (p + d))) by rw [join_back, List.drop_drop])
      have HML := Lib.hid (jMid_length n form (xs.take p) ins (xs.drop (p + d)))
      generalize joinM n form (xs.take p) ins (xs.drop (p + d)) = J at *
      generalize jMid n form (xs.take p) ins (xs.drop (p + d)) = X at *
      generalize jTo n form (xs.drop (p + d)) = to_ at *
      generalize jFrom n form (xs.take p) = lo at *
      obtain ⟨hi, hhi⟩ : ∃ hi : Nat, hi = lo + X.length := ⟨_, rfl⟩
      rw [← hhi] at HR HJL HBK
      have hlh : lo ≤ hi := by omega
      obtain ⟨k, hkk⟩ : ∃ k : Nat, k = l - (p + d) - to_ := ⟨_, rfl⟩
      have hk2 : l - k = p + d + to_ := by have := HXL.out; omega
      have hkl : k ≤ l := by omega
      have HJN := Lib.hid (show J.length = hi + k by rw [HJL.out, List.length_drop, ← HXL.out]; omega)
      have hhb : hi ≤ 100000 := by have h := HML.out; have := HXL.out; have := HYL.out; simp only [List.length_take, List.length_drop] at h; omega
      have HK2 := Lib.hid hk2
      have z1 : (lo : Int) ≤ (hi : Int) := by omega
      have z2 : (lo : Int) ≤ (p : Int) := by omega
      have z3 : (k : Int) ≤ (l : Int) - (p : Int) - (d : Int) := by have := HXL.out; omega
      obtain ⟨q, hqe⟩ : ∃ q : Nat, q = l - k := ⟨_, rfl⟩
      rw [← hqe] at HK2
      have z4 : (l : Int) - (k : Int) = (q : Int) := by omega
      have z6 : IntKind.i64.wrap (q : Int) = (q : Int) := IntWalk.i64_in _ (by omega)
      have hql : q ≤ l := by omega
      have z5 : (hi : Int) + (k : Int) - (hi : Int) = (k : Int) := by omega
      have hlok : lo ≤ hi + k := by omega
      have hlol : lo ≤ l := by omega
      clear hhi hkk hk2 h1 h2 h3 h4 hqe
      unfold Sls.val at *
      go_enter Tryz.func7, Tryz.ntmps7
      have p0 := HX0.out
      have p1 := HX1.out
      have p2 := HX2.out
      have p3 := HX3.out
      have p4 := HX4.out
      have p5 := HX5.out
      go_wp2_with fail
      refine (HS.out).mono ?_
      rintro e w1 ⟨rfl, k1⟩
      clear p0 p1 p2 p3 p4 p5
      have KB1 := Lib.hid (Kept.trans (Kept.refl ((w.alloc (Obj.cells #[Value.slice s.Ac s.nc s.cc, Value.slice s.Am s.nm s.cm, Value.slice s.Ae s.ne s.ce] 28)).alloc (Obj.cells #[Value.int IntKind.i64 (p : Int), Value.int IntKind.i64 (d : Int), Value.slice I ni ci] 38))) k1)
      have p0 := Kept.cell KB1.out HX0.out
      have p1 := Kept.cell KB1.out HX1.out
      have p2 := Kept.cell KB1.out HX2.out
      have p3 := Kept.cell KB1.out HX3.out
      have p4 := Kept.cell KB1.out HX4.out
      have p5 := Kept.cell KB1.out HX5.out
      go_wp2_with fail
      refine (HR.out _ (Kept.trans HK1.out KB1.out)).mono ?_
      rintro e w2 ⟨A2, n2, c2, rfl, le2, i2, k2⟩
      have hn2 : n2 = hi + k := by rw [i2.1]; exact HJN.out
      subst hn2
      have I2 := Lib.hid i2
      clear i2
      have KB2 := Lib.hid (Kept.trans KB1.out k2)
      clear p0 p1 p2 p3 p4 p5
      have HRA := Lib.hid (show (w2.alloc (Obj.cells #[Value.int IntKind.i64 (lo : Int), Value.int IntKind.i64 (hi : Int)] 40)).heap[w2.heap.size]? = some (Obj.cells #[Value.int IntKind.i64 (lo : Int), Value.int IntKind.i64 (hi : Int)] 40) from alloc_at rfl)
      have HR0 := Lib.hid (cell_of_block (i := 0) HRA.out rfl)
      have HR1 := Lib.hid (cell_of_block (i := 1) HRA.out rfl)
      simp only [List.getElem_toArray, List.getElem_cons_zero, List.getElem_cons_succ] at HR0 HR1
      have KB3 := Lib.hid (Kept.trans KB2.out (Kept.alloc (Kept.refl w2) (Obj.cells #[Value.int IntKind.i64 (lo : Int), Value.int IntKind.i64 (hi : Int)] 40)))
      have s1 := run_take1 A2 (hi + k) c2 lo (by omega)
      have s2 := run_take1 A l c lo (by omega)
      have s3 := run_drop1 A2 (hi + k) c2 hi (by omega)
      have s4 := run_drop1 A l c q hql
      have p0 := Kept.cell KB3.out HX0.out
      have p1 := Kept.cell KB3.out HX1.out
      have p2 := Kept.cell KB3.out HX2.out
      have p3 := Kept.cell KB3.out HX3.out
      have p4 := Kept.cell KB3.out HX4.out
      have p5 := Kept.cell KB3.out HX5.out
      have p6 := Kept.cell (Kept.refl _) HR0.out
      have p7 := Kept.cell (Kept.refl _) HR1.out
      go_wp2_with fail
      refine wp_region_held_drew (S := (fun w' => w'.cell? ⟨w.heap.size, 0, none⟩ = some (.slice s.Ac s.nc s.cc) ∧ w'.cell? ⟨w.heap.size, 1, none⟩ = some (.slice s.Am s.nm s.cm) ∧ w'.cell? ⟨w.heap.size, 2, none⟩ = some (.slice s.Ae s.ne s.ce) ∧ w'.cell? ⟨w.heap.size + 1, 0, none⟩ = some (.int .i64 (p : Int)) ∧ w'.cell? ⟨w.heap.size + 1, 1, none⟩ = some (.int .i64 (d : Int)) ∧ w'.cell? ⟨w.heap.size + 1, 2, none⟩ = some (.slice I ni ci) ∧ w'.cell? ⟨w2.heap.size, 0, none⟩ = some (.int .i64 (lo : Int)) ∧ w'.cell? ⟨w2.heap.size, 1, none⟩ = some (.int .i64 (hi : Int)))) (by kernel_rfl) ⟨p0, p1, p2, p3, p4, p5, p6, p7⟩ (fun hHeld => ?_)
      refine wpAnyH_take (i := 0) (v := ?_) rfl (by kernel_rfl) (by kernel_rfl) (by kernel_rfl) (fun _ _ _ h => h) (Or.inl ⟨by rfl, ?_⟩) (by assumption) ?_
      rotate_left
      · (intro w hSw; (try dsimp only at hSw); go_simp; (try with_reducible rfl))
      simp only [Act.put, List.setIfInBounds_toArray, List.set_cons_zero, List.set_cons_succ, List.getElem_toArray, List.getElem_cons_zero]
      refine wpAnyH_take (i := 1) (v := ?_) rfl (by kernel_rfl) (by kernel_rfl) (by kernel_rfl) (fun _ _ _ h => h) (Or.inl ⟨by rfl, ?_⟩) (by assumption) ?_
      rotate_left
      · (intro w hSw; (try dsimp only at hSw); go_simp; (try with_reducible rfl))
      simp only [Act.put, List.setIfInBounds_toArray, List.set_cons_zero, List.set_cons_succ, List.getElem_toArray, List.getElem_cons_zero, List.getElem_cons_succ]
      refine wpAnyH_take (i := 2) (v := ?_) rfl (by kernel_rfl) (by kernel_rfl) (by kernel_rfl) (fun _ _ _ h => h) (Or.inl ⟨by rfl, ?_⟩) (by assumption) ?_
      rotate_left
      · (intro w hSw; (try dsimp only at hSw); go_simp; (try with_reducible rfl))
      simp only [Act.put, List.setIfInBounds_toArray, List.set_cons_zero, List.set_cons_succ, List.getElem_toArray, List.getElem_cons_zero, List.getElem_cons_succ]
      refine wpAnyH_take (i := 3) (v := ?_) rfl (by kernel_rfl) (by kernel_rfl) (by kernel_rfl) (fun _ _ _ h => h) (Or.inl ⟨by rfl, ?_⟩) (by assumption) ?_
      rotate_left
      · (intro w hSw; (try dsimp only at hSw); go_simp; (try with_reducible rfl))
      simp only [Act.put, List.setIfInBounds_toArray, List.set_cons_zero, List.set_cons_succ, List.getElem_toArray, List.getElem_cons_zero, List.getElem_cons_succ]
      refine wpAnyH_take (i := 4) (v := ?_) rfl (by kernel_rfl) (by kernel_rfl) (by kernel_rfl) (fun _ _ _ h => h) (Or.inl ⟨by rfl, ?_⟩) (by assumption) ?_
      rotate_left
      · (intro w hSw; (try dsimp only at hSw); go_simp; (try with_reducible rfl))
      simp only [Act.put, List.setIfInBounds_toArray, List.set_cons_zero, List.set_cons_succ, List.getElem_toArray, List.getElem_cons_zero, List.getElem_cons_succ]
      refine wpAnyH_take (i := 5) (v := ?_) rfl (by kernel_rfl) (by kernel_rfl) (by kernel_rfl) (fun _ _ _ h => h) (Or.inl ⟨by rfl, ?_⟩) (by assumption) ?_
      rotate_left
      · (intro w hSw; (try dsimp only at hSw); go_simp; (try with_reducible rfl))
      simp only [Act.put, List.setIfInBounds_toArray, List.set_cons_zero, List.set_cons_succ, List.getElem_toArray, List.getElem_cons_zero, List.getElem_cons_succ]
      refine wpAnyH_take (i := 6) (v := ?_) rfl (by kernel_rfl) (by kernel_rfl) (by kernel_rfl) (fun _ _ _ h => h) (Or.inl ⟨by rfl, ?_⟩) (by assumption) ?_
      rotate_left
      · (intro w hSw; (try dsimp only at hSw); go_simp; (try with_reducible rfl))
      simp only [Act.put, List.setIfInBounds_toArray, List.set_cons_zero, List.set_cons_succ, List.getElem_toArray, List.getElem_cons_zero, List.getElem_cons_succ]
      refine wpAnyH_take (i := 7) (v := ?_) rfl (by kernel_rfl) (by kernel_rfl) (by kernel_rfl) (fun _ _ _ h => h) (Or.inl ⟨by rfl, ?_⟩) (by assumption) ?_
      rotate_left
      · (intro w hSw; (try dsimp only at hSw); go_simp; (try with_reducible rfl))
      simp only [Act.put, List.setIfInBounds_toArray, List.set_cons_zero, List.set_cons_succ, List.getElem_toArray, List.getElem_cons_zero, List.getElem_cons_succ]
      refine wpAnyH_ready (rs := [8]) (by kernel_rfl) (by simp) ?_
      refine AllReadyH.cons rfl (fun K hK => ?_) AllReadyH.nil
      go_simp
      (refine (r01_same (xs.take lo) A2 A lo lo c2 c _ (by have := HXL.out; simp only [List.length_take]; omega) (by rw [← HFR.out]; exact Ints.front_ (I2.out.kept (Kept.trans (Kept.alloc (Kept.refl w2) (Obj.cells #[Value.int IntKind.i64 (lo : Int), Value.int IntKind.i64 (hi : Int)] 40)) (Kept.drew (Kept.refl _)))) (by omega)) (Ints.front_ (HI.out.kept (Kept.trans HK1.out (Kept.drew KB3.out))) (by omega))).mono ?_; rintro e w4 ⟨rfl, k4⟩; have KB4 := Lib.hid (Kept.trans (Kept.drew KB3.out) k4))
      go_wp2_with fail
      refine hK.out _ _ ⟨Kept.cell KB4.out HX0.out, Kept.cell KB4.out HX1.out, Kept.cell KB4.out HX2.out, Kept.cell KB4.out HX3.out, Kept.cell KB4.out HX4.out, Kept.cell KB4.out HX5.out, Kept.cell (Kept.trans (Kept.drew (Kept.refl _)) k4) HR0.out, Kept.cell (Kept.trans (Kept.drew (Kept.refl _)) k4) HR1.out⟩ (fun hHeld => ?_)
      clear hK K
      (try simp only [Act.put, List.setIfInBounds_toArray, List.set_cons_zero, List.set_cons_succ, List.getElem_toArray, List.getElem_cons_zero, List.getElem_cons_succ])
      refine wpAnyH_take (i := 9) (v := ?_) rfl (by kernel_rfl) (by kernel_rfl) (by kernel_rfl) (fun _ _ _ h => h) (Or.inl ⟨by rfl, ?_⟩) (by assumption) ?_
      rotate_left
      · (intro w hSw; (try dsimp only at hSw); go_simp; (try with_reducible rfl))
      simp only [Act.put, List.setIfInBounds_toArray, List.set_cons_zero, List.set_cons_succ, List.getElem_toArray, List.getElem_cons_zero, List.getElem_cons_succ]
      refine wpAnyH_take (i := 10) (v := ?_) rfl (by kernel_rfl) (by kernel_rfl) (by kernel_rfl) (fun _ _ _ h => h) (Or.inl ⟨by rfl, ?_⟩) (by assumption) ?_
      rotate_left
      · (intro w hSw; (try dsimp only at hSw); go_simp; (try with_reducible rfl))
      simp only [Act.put, List.setIfInBounds_toArray, List.set_cons_zero, List.set_cons_succ, List.getElem_toArray, List.getElem_cons_zero, List.getElem_cons_succ]
      refine wpAnyH_take (i := 11) (v := ?_) rfl (by kernel_rfl) (by kernel_rfl) (by kernel_rfl) (fun _ _ _ h => h) (Or.inl ⟨by rfl, ?_⟩) (by assumption) ?_
      rotate_left
      · (intro w hSw; (try dsimp only at hSw); go_simp; (try with_reducible rfl))
      simp only [Act.put, List.setIfInBounds_toArray, List.set_cons_zero, List.set_cons_succ, List.getElem_toArray, List.getElem_cons_zero, List.getElem_cons_succ]
      refine wpAnyH_take (i := 12) (v := ?_) rfl (by kernel_rfl) (by kernel_rfl) (by kernel_rfl) (fun _ _ _ h => h) (Or.inl ⟨by rfl, ?_⟩) (by assumption) ?_
      rotate_left
      · (intro w hSw; (try dsimp only at hSw); go_simp; (try with_reducible rfl))
      simp only [Act.put, List.setIfInBounds_toArray, List.set_cons_zero, List.set_cons_succ, List.getElem_toArray, List.getElem_cons_zero, List.getElem_cons_succ]
      refine wpAnyH_take (i := 13) (v := ?_) rfl (by kernel_rfl) (by kernel_rfl) (by kernel_rfl) (fun _ _ _ h => h) (Or.inl ⟨by rfl, ?_⟩) (by assumption) ?_
      rotate_left
      · (intro w hSw; (try dsimp only at hSw); go_simp; (try with_reducible rfl))
      simp only [Act.put, List.setIfInBounds_toArray, List.set_cons_zero, List.set_cons_succ, List.getElem_toArray, List.getElem_cons_zero, List.getElem_cons_succ]
      refine wpAnyH_take (i := 14) (v := ?_) rfl (by kernel_rfl) (by kernel_rfl) (by kernel_rfl) (fun _ _ _ h => h) (Or.inl ⟨by rfl, ?_⟩) (by assumption) ?_
      rotate_left
      · (intro w hSw; (try dsimp only at hSw); go_simp; (try with_reducible rfl))
      simp only [Act.put, List.setIfInBounds_toArray, List.set_cons_zero, List.set_cons_succ, List.getElem_toArray, List.getElem_cons_zero, List.getElem_cons_succ]
      refine wpAnyH_take (i := 15) (v := ?_) rfl (by kernel_rfl) (by kernel_rfl) (by kernel_rfl) (fun _ _ _ h => h) (Or.inl ⟨by rfl, ?_⟩) (by assumption) ?_
      rotate_left
      · (intro w hSw; (try dsimp only at hSw); go_simp; (try with_reducible rfl))
      simp only [Act.put, List.setIfInBounds_toArray, List.set_cons_zero, List.set_cons_succ, List.getElem_toArray, List.getElem_cons_zero, List.getElem_cons_succ]
      refine wpAnyH_take (i := 16) (v := ?_) rfl (by kernel_rfl) (by kernel_rfl) (by kernel_rfl) (fun _ _ _ h => h) (Or.inl ⟨by rfl, ?_⟩) (by assumption) ?_
      rotate_left
      · (intro w hSw; (try dsimp only at hSw); go_simp; (try with_reducible rfl))
      simp only [Act.put, List.setIfInBounds_toArray, List.set_cons_zero, List.set_cons_succ, List.getElem_toArray, List.getElem_cons_zero, List.getElem_cons_succ]
      refine wpAnyH_take (i := 17) (v := ?_) rfl (by kernel_rfl) (by kernel_rfl) (by kernel_rfl) (fun _ _ _ h => h) (Or.inl ⟨by rfl, ?_⟩) (by assumption) ?_
      rotate_left
      · (intro w hSw; (try dsimp only at hSw); go_simp; (try with_reducible rfl))
      simp only [Act.put, List.setIfInBounds_toArray, List.set_cons_zero, List.set_cons_succ, List.getElem_toArray, List.getElem_cons_zero, List.getElem_cons_succ]
      refine wpAnyH_take (i := 18) (v := ?_) rfl (by kernel_rfl) (by kernel_rfl) (by kernel_rfl) (fun _ _ _ h => h) (Or.inl ⟨by rfl, ?_⟩) (by assumption) ?_
      rotate_left
      · (intro w hSw; (try dsimp only at hSw); go_simp; (try with_reducible rfl))
      simp only [Act.put, List.setIfInBounds_toArray, List.set_cons_zero, List.set_cons_succ, List.getElem_toArray, List.getElem_cons_zero, List.getElem_cons_succ]
      refine wpAnyH_take (i := 19) (v := ?_) rfl (by kernel_rfl) (by kernel_rfl) (by kernel_rfl) (fun _ _ _ h => h) (Or.inl ⟨by rfl, ?_⟩) (by assumption) ?_
      rotate_left
      · (intro w hSw; (try dsimp only at hSw); go_simp; (try with_reducible rfl))
      simp only [Act.put, List.setIfInBounds_toArray, List.set_cons_zero, List.set_cons_succ, List.getElem_toArray, List.getElem_cons_zero, List.getElem_cons_succ]
      refine wpAnyH_ready (rs := [20]) (by kernel_rfl) (by simp) ?_
      refine AllReadyH.cons rfl (fun K hK => ?_) AllReadyH.nil
      go_simp
      (refine (r01_same (xs.drop q) (dropA A2 c2 hi) (dropA A c q) k (l - q) (c2 - hi) (c - q) _ (by have := HXL.out; simp only [List.length_drop]; omega) (by rw [HK2.out, ← HBK.out]; have hq := Ints.drop_ (k := hi) (I2.out.kept (Kept.trans (Kept.alloc (Kept.refl w2) (Obj.cells #[Value.int IntKind.i64 (lo : Int), Value.int IntKind.i64 (hi : Int)] 40)) (Kept.trans (Kept.drew (Kept.refl _)) k4))) (by omega) le2; rwa [Nat.add_sub_cancel_left] at hq) (Ints.drop_ (HI.out.kept (Kept.trans HK1.out KB4.out)) hql hle)).mono ?_; rintro e w5 ⟨rfl, k5⟩; have KB5 := Lib.hid (Kept.trans KB4.out k5))
      go_wp2_with fail
      refine hK.out _ _ ⟨Kept.cell KB5.out HX0.out, Kept.cell KB5.out HX1.out, Kept.cell KB5.out HX2.out, Kept.cell KB5.out HX3.out, Kept.cell KB5.out HX4.out, Kept.cell KB5.out HX5.out, Kept.cell (Kept.trans (Kept.trans (Kept.drew (Kept.refl _)) k4) k5) HR0.out, Kept.cell (Kept.trans (Kept.trans (Kept.drew (Kept.refl _)) k4) k5) HR1.out⟩ (fun hHeld => ?_)
      clear hK K
      (try simp only [Act.put, List.setIfInBounds_toArray, List.set_cons_zero, List.set_cons_succ, List.getElem_toArray, List.getElem_cons_zero, List.getElem_cons_succ])
      refine wpAnyH_take (i := 21) (v := ?_) rfl (by kernel_rfl) (by kernel_rfl) (by kernel_rfl) (fun _ _ _ h => h) (Or.inl ⟨by rfl, ?_⟩) (by assumption) ?_
      rotate_left
      · (intro w hSw; (try dsimp only at hSw); go_simp; (try with_reducible rfl))
      simp only [Act.put, List.setIfInBounds_toArray, List.set_cons_zero, List.set_cons_succ, List.getElem_toArray, List.getElem_cons_zero, List.getElem_cons_succ]
      refine wpAnyH_take (i := 22) (v := ?_) rfl (by kernel_rfl) (by kernel_rfl) (by kernel_rfl) (fun _ _ _ h => h) (Or.inl ⟨by rfl, ?_⟩) (by assumption) ?_
      rotate_left
      · (intro w hSw; (try dsimp only at hSw); go_simp; (try with_reducible rfl))
      simp only [Act.put, List.setIfInBounds_toArray, List.set_cons_zero, List.set_cons_succ, List.getElem_toArray, List.getElem_cons_zero, List.getElem_cons_succ]
      refine wpAnyH_ready (rs := [23]) (by kernel_rfl) (by simp) ?_
      refine AllReadyH.cons rfl (fun K hK => ?_) AllReadyH.nil
      go_simp
      (refine (alive26 _ (HG.out.kept (Kept.trans HK1.out KB5.out))).mono ?_; rintro e w6 ⟨rfl, k6⟩; have KB6 := Lib.hid (Kept.trans KB5.out k6))
      go_wp2_with fail
      refine hK.out _ _ ⟨Kept.cell KB6.out HX0.out, Kept.cell KB6.out HX1.out, Kept.cell KB6.out HX2.out, Kept.cell KB6.out HX3.out, Kept.cell KB6.out HX4.out, Kept.cell KB6.out HX5.out, Kept.cell (Kept.trans (Kept.trans (Kept.drew (Kept.refl _)) k4) (Kept.trans k5 k6)) HR0.out, Kept.cell (Kept.trans (Kept.trans (Kept.drew (Kept.refl _)) k4) (Kept.trans k5 k6)) HR1.out⟩ (fun hHeld => ?_)
      clear hK K
      (try simp only [Act.put, List.setIfInBounds_toArray, List.set_cons_zero, List.set_cons_succ, List.getElem_toArray, List.getElem_cons_zero, List.getElem_cons_succ])
      refine wpAnyH_take (i := 24) (v := ?_) rfl (by kernel_rfl) (by kernel_rfl) (by kernel_rfl) (fun _ _ _ h => h) (Or.inl ⟨by rfl, ?_⟩) (by assumption) ?_
      rotate_left
      · (intro w hSw; (try dsimp only at hSw); go_simp; (try with_reducible rfl))
      simp only [Act.put, List.setIfInBounds_toArray, List.set_cons_zero, List.set_cons_succ, List.getElem_toArray, List.getElem_cons_zero, List.getElem_cons_succ]
      refine wpAnyH_take (i := 25) (v := ?_) rfl (by kernel_rfl) (by kernel_rfl) (by kernel_rfl) (fun _ _ _ h => h) (Or.inl ⟨by rfl, ?_⟩) (by assumption) ?_
      rotate_left
      · (intro w hSw; (try dsimp only at hSw); go_simp; (try with_reducible rfl))
      simp only [Act.put, List.setIfInBounds_toArray, List.set_cons_zero, List.set_cons_succ, List.getElem_toArray, List.getElem_cons_zero, List.getElem_cons_succ]
      refine wpAnyH_done (by kernel_rfl) ?_ _
      clear p0 p1 p2 p3 p4 p5 p6 p7
      go_wp2_with fail
      go_ret
      exact ⟨rfl, (Kept.trans HK1.out KB6.out)⟩
end Go.Proofs.YtbhglkofaendjaaGreatDoor
