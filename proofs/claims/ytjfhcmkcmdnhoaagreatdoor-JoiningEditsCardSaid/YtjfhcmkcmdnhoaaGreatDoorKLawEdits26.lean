/- law26.JoiningEdits returns true. -/
import Derived.Deep.RegionHeld3
import Derived.Test.YtjfhcmkcmdnhoaaGreatDoorKSq
import Derived.Test.YtjfhcmkcmdnhoaaGreatDoorKAl6
import Derived.Test.YtjfhcmkcmdnhoaaGreatDoorKNrm
namespace Go.Proofs.YtjfhcmkcmdnhoaaGreatDoor
open Go Go.RowKit
set_option maxRecDepth 100000 in
set_option maxHeartbeats 4000000 in
theorem law_edits26 (s : Sls) (n : Nrm) (form : Int) (A : Option Addr) (l c : Nat) (xs : List Int) (ea ed : Int) (I : Option Addr) (ni ci : Nat) (ins : List Int) (w : World) (hN : NormIn w s n) (_hx : I64 form) (hI : l ≤ c ∧ c ≤ 9223372036854775807 ∧ Ints w A l xs) (_hea : I64 ea) (_hed : I64 ed) (hJ : ni ≤ ci ∧ ci ≤ 9223372036854775807 ∧ Ints w I ni ins) (hG : Glob w) : Calls Tryz.prog 8 #[s.val, .int .i64 form, .slice A l c, .agg #[.int .i64 ea, .int .i64 ed, .slice I ni ci]] w (RetB w true) := by
  have hk0 := Kept.alloc (Kept.refl w) (Obj.cells #[Value.slice s.Ac s.nc s.cc, Value.slice s.Am s.nm s.cm, Value.slice s.Ae s.ne s.ce] 28)
  have hk1 := Kept.alloc hk0 (Obj.cells #[Value.int IntKind.i64 ea, Value.int IntKind.i64 ed, Value.slice I ni ci] 38)
  have HK1 := Lib.hid hk1
  have hbx := alloc_lift (o := (Obj.cells #[Value.int IntKind.i64 ea, Value.int IntKind.i64 ed, Value.slice I ni ci] 38)) (box_block w (Obj.cells #[Value.slice s.Ac s.nc s.cc, Value.slice s.Am s.nm s.cm, Value.slice s.Ae s.ne s.ce] 28))
  have hby := box_block (w.alloc (Obj.cells #[Value.slice s.Ac s.nc s.cc, Value.slice s.Am s.nm s.cm, Value.slice s.Ae s.ne s.ce] 28)) (Obj.cells #[Value.int IntKind.i64 ea, Value.int IntKind.i64 ed, Value.slice I ni ci] 38)
  rw [World.size_alloc] at hby
  have x0 := cell_of_block (i := 0) hbx rfl
  have x1 := cell_of_block (i := 1) hbx rfl
  have x2 := cell_of_block (i := 2) hbx rfl
  have x3 := cell_of_block (i := 0) hby rfl
  have x4 := cell_of_block (i := 1) hby rfl
  have x5 := cell_of_block (i := 2) hby rfl
  simp only [s4_, s5_, s6_] at x0 x1 x2 x3 x4 x5
  have HX0 := Lib.hid x0
  have HX1 := Lib.hid x1
  have HX2 := Lib.hid x2
  have HX3 := Lib.hid x3
  have HX4 := Lib.hid x4
  have HX5 := Lib.hid x5
  have HN := Lib.hid hN
  have HG := Lib.hid hG
  clear hk0 hbx hby x3 x4 x5
  obtain ⟨hle, hbig, hI⟩ := hI
  obtain ⟨hle2, hbig2, hJ⟩ := hJ
  have HS := Lib.hid (few26 s n A l c I ni ci ((w.alloc (Obj.cells #[Value.slice s.Ac s.nc s.cc, Value.slice s.Am s.nm s.cm, Value.slice s.Ae s.ne s.ce] 28)).alloc (Obj.cells #[Value.int IntKind.i64 ea, Value.int IntKind.i64 ed, Value.slice I ni ci] 38)) (hN.kept hk1) ⟨hle, hbig⟩ ⟨hle2, hbig2⟩)
  have HI := Lib.hid hI
  have HJ := Lib.hid hJ
  clear hN hG hk1 x0 x1 x2 hI hJ hbig2
  cases hsm : (smallB n && (decide (l ≤ 20) && decide (ni ≤ 20)))
  · rw [hsm] at HS
    clear hsm
    unfold Sls.val at *
    go_enter Tryz.func8, Tryz.ntmps8
    have p0 := HX0.out
    have p1 := HX1.out
    have p2 := HX2.out
    have p3 := HX3.out
    have p4 := HX4.out
    have p5 := HX5.out
    go_wp2_with fail
    refine (HS.out).mono ?_
    rintro e w1 ⟨rfl, k1⟩
    clear p0 p1 p2 p3 p4 p5
    have KB1 := Lib.hid (Kept.trans (Kept.refl ((w.alloc (Obj.cells #[Value.slice s.Ac s.nc s.cc, Value.slice s.Am s.nm s.cm, Value.slice s.Ae s.ne s.ce] 28)).alloc (Obj.cells #[Value.int IntKind.i64 ea, Value.int IntKind.i64 ed, Value.slice I ni ci] 38))) k1)
    go_wp2_with fail
    refine (alive26 _ (HG.out.kept (Kept.trans HK1.out KB1.out))).mono ?_
    rintro e w2 ⟨rfl, k2⟩
    have KB2 := Lib.hid (Kept.trans KB1.out k2)
    go_wp2_with fail
    go_ret
    exact ⟨rfl, (Kept.trans HK1.out KB2.out)⟩
  · rw [hsm] at HS
    obtain ⟨hsb, hsm2⟩ := (Bool.and_eq_true _ _).mp hsm
    obtain ⟨hl20, hm20⟩ := (Bool.and_eq_true _ _).mp hsm2
    have hl20 := of_decide_eq_true hl20
    have hm20 := of_decide_eq_true hm20
    have HNA := Lib.hid (HN.out.small hsb)
    have HXL := Lib.hid HI.out.1
    have HYL := Lib.hid HJ.out.1
    clear hsm hsm2 hsb
    have HT := Lib.hid (fun w' (hk : Kept w w') => form_any s n form A l c xs w' (HNA.out.kept hk) (HG.out.kept hk) (by omega) (HI.out.kept hk))
    have HXX := Lib.hid (form_again n form xs)
    have HLX := Lib.hid (show (formOf n form xs).length ≤ 10000 by have := formOf_length n form xs; have := HXL.out; omega)
    generalize formOf n form xs = X at *
    have HR := Lib.hid (fun A' n' c' w' (hk : Kept w w') (hn' : n' ≤ 10000) (l' : n' ≤ c') (hZ : Ints w' A' n' X) => replace_any s n form A' n' c' X ea ed I ni ci ins w' (HNA.out.kept hk) (HG.out.kept hk) (by omega) (by omega) l' hle2 hZ (HJ.out.kept hk))
    obtain ⟨L, hL⟩ : ∃ L : Nat, L = X.length := ⟨_, rfl⟩
    have HL := Lib.hid hL
    by_cases hc : 100 < L
    · clear hL _hea _hed
      unfold Sls.val at *
      go_enter Tryz.func8, Tryz.ntmps8
      have p0 := HX0.out
      have p1 := HX1.out
      have p2 := HX2.out
      have p3 := HX3.out
      have p4 := HX4.out
      have p5 := HX5.out
      go_wp2_with fail
      refine (HS.out).mono ?_
      rintro e w1 ⟨rfl, k1⟩
      clear p0 p1 p2 p3 p4 p5
      have KB1 := Lib.hid (Kept.trans (Kept.refl ((w.alloc (Obj.cells #[Value.slice s.Ac s.nc s.cc, Value.slice s.Am s.nm s.cm, Value.slice s.Ae s.ne s.ce] 28)).alloc (Obj.cells #[Value.int IntKind.i64 ea, Value.int IntKind.i64 ed, Value.slice I ni ci] 38))) k1)
      have p0 := Kept.cell KB1.out HX0.out
      have p1 := Kept.cell KB1.out HX1.out
      have p2 := Kept.cell KB1.out HX2.out
      have p3 := Kept.cell KB1.out HX3.out
      have p4 := Kept.cell KB1.out HX4.out
      have p5 := Kept.cell KB1.out HX5.out
      go_wp2_with fail
      refine (HT.out _ (Kept.trans HK1.out KB1.out)).mono ?_
      rintro e w2 ⟨A2, n2, c2, rfl, le2, i2, k2⟩
      have I2 := Lib.hid i2
      have hn2 : n2 ≤ 10000 := (by rw [i2.1]; exact HLX.out)
      clear i2
      clear p0 p1 p2 p3 p4 p5
      have KB2 := Lib.hid (Kept.trans KB1.out k2)
      have hn2 : L = n2 := by rw [HL.out, I2.out.1]
      subst hn2
      have p0 := Kept.cell KB2.out HX0.out
      have p1 := Kept.cell KB2.out HX1.out
      have p2 := Kept.cell KB2.out HX2.out
      have p3 := Kept.cell KB2.out HX3.out
      have p4 := Kept.cell KB2.out HX4.out
      have p5 := Kept.cell KB2.out HX5.out
      go_wp2_with fail
      refine (alive26 _ (HG.out.kept (Kept.trans HK1.out KB2.out))).mono ?_
      rintro e w3 ⟨rfl, k3⟩
      have KB3 := Lib.hid (Kept.trans KB2.out k3)
      go_wp2_with fail
      go_ret
      exact ⟨rfl, (Kept.trans HK1.out KB3.out)⟩
    · have hc2 : L ≤ 100 := by omega
      clear hc
      rcases (show (form < 1 ∨ 4 < form) ∨ (¬ (form < 1 ∨ 4 < form) ∧ (ea < 0 ∨ ed < 0 ∨ (X.length : Int) < ea ∨ (X.length : Int) - ea < ed)) ∨ (¬ (form < 1 ∨ 4 < form) ∧ ¬ (ea < 0 ∨ ed < 0 ∨ (X.length : Int) < ea ∨ (X.length : Int) - ea < ed)) by by_cases h1 : form < 1 ∨ 4 < form <;> by_cases h2 : ea < 0 ∨ ed < 0 ∨ (X.length : Int) < ea ∨ (X.length : Int) - ea < ed <;> simp [h1, h2]) with hf | ⟨hf, hb⟩ | ⟨hf, hb⟩
      · unfold RetRepl at HR
        simp only [if_pos hf] at HR
        have h1 : form < 1 ∨ (¬ form < 1 ∧ 4 < form) := by omega
        clear hf hL
        rcases h1 with h1 | ⟨h1, h2⟩
        all_goals
          unfold Sls.val at *
          go_enter Tryz.func8, Tryz.ntmps8
          have p0 := HX0.out
          have p1 := HX1.out
          have p2 := HX2.out
          have p3 := HX3.out
          have p4 := HX4.out
          have p5 := HX5.out
          go_wp2_with fail
          refine (HS.out).mono ?_
          rintro e w1 ⟨rfl, k1⟩
          clear p0 p1 p2 p3 p4 p5
          have KB1 := Lib.hid (Kept.trans (Kept.refl ((w.alloc (Obj.cells #[Value.slice s.Ac s.nc s.cc, Value.slice s.Am s.nm s.cm, Value.slice s.Ae s.ne s.ce] 28)).alloc (Obj.cells #[Value.int IntKind.i64 ea, Value.int IntKind.i64 ed, Value.slice I ni ci] 38))) k1)
          have p0 := Kept.cell KB1.out HX0.out
          have p1 := Kept.cell KB1.out HX1.out
          have p2 := Kept.cell KB1.out HX2.out
          have p3 := Kept.cell KB1.out HX3.out
          have p4 := Kept.cell KB1.out HX4.out
          have p5 := Kept.cell KB1.out HX5.out
          go_wp2_with fail
          refine (HT.out _ (Kept.trans HK1.out KB1.out)).mono ?_
          rintro e w2 ⟨A2, n2, c2, rfl, le2, i2, k2⟩
          have I2 := Lib.hid i2
          have hn2 : n2 ≤ 10000 := (by rw [i2.1]; exact HLX.out)
          clear i2
          clear p0 p1 p2 p3 p4 p5
          have KB2 := Lib.hid (Kept.trans KB1.out k2)
          have hn2 : L = n2 := by rw [HL.out, I2.out.1]
          subst hn2
          have p0 := Kept.cell KB2.out HX0.out
          have p1 := Kept.cell KB2.out HX1.out
          have p2 := Kept.cell KB2.out HX2.out
          have p3 := Kept.cell KB2.out HX3.out
          have p4 := Kept.cell KB2.out HX4.out
          have p5 := Kept.cell KB2.out HX5.out
          go_wp2_with fail
          refine (HR.out A2 _ c2 _ (Kept.trans HK1.out KB2.out) hn2 le2 (I2.out.kept (Kept.refl _))).mono ?_
          rintro e w3 ⟨rfl, k3⟩
          have KB3 := Lib.hid (Kept.trans KB2.out k3)
          clear p0 p1 p2 p3 p4 p5
          have KB4 := Lib.hid (Kept.trans KB3.out (Kept.alloc (Kept.refl w3) (Obj.cells #[Value.int IntKind.i64 0, Value.int IntKind.i64 0] 40)))
          have p0 := Kept.cell KB4.out HX0.out
          have p1 := Kept.cell KB4.out HX1.out
          have p2 := Kept.cell KB4.out HX2.out
          have p3 := Kept.cell KB4.out HX3.out
          have p4 := Kept.cell KB4.out HX4.out
          have p5 := Kept.cell KB4.out HX5.out
          go_wp2_with fail
          refine (alive26 _ (HG.out.kept (Kept.trans HK1.out KB4.out))).mono ?_
          rintro e w5 ⟨rfl, k5⟩
          have KB5 := Lib.hid (Kept.trans KB4.out k5)
          go_wp2_with fail
          go_ret
          exact ⟨rfl, (Kept.trans HK1.out KB5.out)⟩
      · unfold RetRepl at HR
        simp only [if_neg hf, if_pos hb] at HR
        have hf1 : ¬ form < 1 := by omega
        have hf2 : ¬ 4 < form := by omega
        rw [← hL] at hb
        have hb2 : ea < 0 ∨ (0 ≤ ea ∧ ed < 0) ∨ (0 ≤ ea ∧ 0 ≤ ed ∧ (L : Int) < ea) ∨ (0 ≤ ea ∧ 0 ≤ ed ∧ ea ≤ (L : Int) ∧ (L : Int) - ea < ed) := by omega
        clear hf hL hb
        rcases hb2 with h1 | ⟨h1, h2⟩ | ⟨h1, h2, h3⟩ | ⟨h1, h2, h3, h4⟩
        all_goals
          unfold Sls.val at *
          go_enter Tryz.func8, Tryz.ntmps8
          have p0 := HX0.out
          have p1 := HX1.out
          have p2 := HX2.out
          have p3 := HX3.out
          have p4 := HX4.out
          have p5 := HX5.out
          go_wp2_with fail
          refine (HS.out).mono ?_
          rintro e w1 ⟨rfl, k1⟩
          clear p0 p1 p2 p3 p4 p5
          have KB1 := Lib.hid (Kept.trans (Kept.refl ((w.alloc (Obj.cells #[Value.slice s.Ac s.nc s.cc, Value.slice s.Am s.nm s.cm, Value.slice s.Ae s.ne s.ce] 28)).alloc (Obj.cells #[Value.int IntKind.i64 ea, Value.int IntKind.i64 ed, Value.slice I ni ci] 38))) k1)
          have p0 := Kept.cell KB1.out HX0.out
          have p1 := Kept.cell KB1.out HX1.out
          have p2 := Kept.cell KB1.out HX2.out
          have p3 := Kept.cell KB1.out HX3.out
          have p4 := Kept.cell KB1.out HX4.out
          have p5 := Kept.cell KB1.out HX5.out
          go_wp2_with fail
          refine (HT.out _ (Kept.trans HK1.out KB1.out)).mono ?_
          rintro e w2 ⟨A2, n2, c2, rfl, le2, i2, k2⟩
          have I2 := Lib.hid i2
          have hn2 : n2 ≤ 10000 := (by rw [i2.1]; exact HLX.out)
          clear i2
          clear p0 p1 p2 p3 p4 p5
          have KB2 := Lib.hid (Kept.trans KB1.out k2)
          have hn2 : L = n2 := by rw [HL.out, I2.out.1]
          subst hn2
          have p0 := Kept.cell KB2.out HX0.out
          have p1 := Kept.cell KB2.out HX1.out
          have p2 := Kept.cell KB2.out HX2.out
          have p3 := Kept.cell KB2.out HX3.out
          have p4 := Kept.cell KB2.out HX4.out
          have p5 := Kept.cell KB2.out HX5.out
          go_wp2_with fail
          refine (HR.out A2 _ c2 _ (Kept.trans HK1.out KB2.out) hn2 le2 (I2.out.kept (Kept.refl _))).mono ?_
          rintro e w3 ⟨rfl, k3⟩
          have KB3 := Lib.hid (Kept.trans KB2.out k3)
          clear p0 p1 p2 p3 p4 p5
          have KB4 := Lib.hid (Kept.trans KB3.out (Kept.alloc (Kept.refl w3) (Obj.cells #[Value.int IntKind.i64 0, Value.int IntKind.i64 0] 40)))
          have p0 := Kept.cell KB4.out HX0.out
          have p1 := Kept.cell KB4.out HX1.out
          have p2 := Kept.cell KB4.out HX2.out
          have p3 := Kept.cell KB4.out HX3.out
          have p4 := Kept.cell KB4.out HX4.out
          have p5 := Kept.cell KB4.out HX5.out
          go_wp2_with fail
          refine (alive26 _ (HG.out.kept (Kept.trans HK1.out KB4.out))).mono ?_
          rintro e w5 ⟨rfl, k5⟩
          have KB5 := Lib.hid (Kept.trans KB4.out k5)
          go_wp2_with fail
          go_ret
          exact ⟨rfl, (Kept.trans HK1.out KB5.out)⟩
      · have hf1 : ¬ form < 1 := by omega
        have hf2 : ¬ 4 < form := by omega
        unfold RetRepl at HR
        simp only [if_neg hf, if_neg hb] at HR
        rw [← hL] at hb
        have h1 : 0 ≤ ea := by omega
        have h2 : 0 ≤ ed := by omega
        have h3 : ea ≤ (L : Int) := by omega
        have h4 : ed ≤ (L : Int) - ea := by omega
        clear hf hb _hea _hed
        obtain ⟨p, rfl⟩ := Int.eq_ofNat_of_zero_le h1
        obtain ⟨d, rfl⟩ := Int.eq_ofNat_of_zero_le h2
        have hpl : p + d ≤ L := by omega
        rw [show ((p : Int) + (d : Int)).toNat = p + d by omega, Int.toNat_natCast, replace_form n form HXX.out p (p + d) ins] at HR
        have HVL := Lib.hid (show (X.take p ++ ins ++ X.drop (p + d)).length ≤ 120 by have := HYL.out; simp only [List.length_append, List.length_take, List.length_drop]; omega)
        have HUL := Lib.hid (show (X.take p ++ ins).length ≤ 10000 by have := HYL.out; simp only [List.length_append, List.length_take]; omega)
        have HTL := Lib.hid (show (formOf n form (X.take p ++ ins ++ X.drop (p + d))).length ≤ 10000 by have := formOf_length n form (X.take p ++ ins ++ X.drop (p + d)); have := HVL.out; omega)
        have HVB := Lib.hid (show (X.take p ++ ins ++ X.drop (p + d)).length ≤ 10000 by have := HVL.out; omega)
        have HB1 := Lib.hid (fun A' n' c' A'' n'' c'' w' (h1 : n' ≤ 10000) (h2 : n'' ≤ 10000) (i1 : Ints w' A' n' (X.take p)) (i2 : Ints w' A'' n'' ins) => both_any A' n' c' _ A'' n'' c'' _ w' (by omega) (by omega) i1 i2)
        have HB2 := Lib.hid (fun A' n' c' A'' n'' c'' w' (h1 : n' ≤ 10000) (h2 : n'' ≤ 10000) (i1 : Ints w' A' n' (X.take p ++ ins)) (i2 : Ints w' A'' n'' (X.drop (p + d))) => both_any A' n' c' _ A'' n'' c'' _ w' (by omega) (by omega) i1 i2)
        have HFV := Lib.hid (fun A' n' c' w' (hk : Kept w w') (h1 : n' ≤ 10000) (i1 : Ints w' A' n' (X.take p ++ ins ++ X.drop (p + d))) => form_any s n form A' n' c' _ w' (HNA.out.kept hk) (HG.out.kept hk) (by omega) i1)
        have HIS := Lib.hid (fun A' n' c' w' (hk : Kept w w') (hn' : n' ≤ 10000) (hZ : Ints w' A' n' (formOf n form (X.take p ++ ins ++ X.drop (p + d)))) => nis_any s n form A' n' c' _ w' (HNA.out.kept hk) (HG.out.kept hk) (by omega) hZ)
        rw [decide_eq_true (form_again n form (X.take p ++ ins ++ X.drop (p + d)))] at HIS
        generalize formOf n form (X.take p ++ ins ++ X.drop (p + d)) = T at *
        generalize X.take p ++ ins ++ X.drop (p + d) = V at *
        generalize X.take p ++ ins = U at *
        generalize (jFrom n form (X.take p) + (jMid n form (X.take p) ins (X.drop (p + d))).length) = hi at *
        generalize jFrom n form (X.take p) = lo at *
        clear hL h1 h2 h3 h4
        unfold Sls.val at *
        go_enter Tryz.func8, Tryz.ntmps8
        have p0 := HX0.out
        have p1 := HX1.out
        have p2 := HX2.out
        have p3 := HX3.out
        have p4 := HX4.out
        have p5 := HX5.out
        go_wp2_with fail
        refine (HS.out).mono ?_
        rintro e w1 ⟨rfl, k1⟩
        clear p0 p1 p2 p3 p4 p5
        have KB1 := Lib.hid (Kept.trans (Kept.refl ((w.alloc (Obj.cells #[Value.slice s.Ac s.nc s.cc, Value.slice s.Am s.nm s.cm, Value.slice s.Ae s.ne s.ce] 28)).alloc (Obj.cells #[Value.int IntKind.i64 (p : Int), Value.int IntKind.i64 (d : Int), Value.slice I ni ci] 38))) k1)
        have p0 := Kept.cell KB1.out HX0.out
        have p1 := Kept.cell KB1.out HX1.out
        have p2 := Kept.cell KB1.out HX2.out
        have p3 := Kept.cell KB1.out HX3.out
        have p4 := Kept.cell KB1.out HX4.out
        have p5 := Kept.cell KB1.out HX5.out
        go_wp2_with fail
        refine (HT.out _ (Kept.trans HK1.out KB1.out)).mono ?_
        rintro e w2 ⟨A2, n2, c2, rfl, le2, i2, k2⟩
        have I2 := Lib.hid i2
        have hn2 : n2 ≤ 10000 := (by rw [i2.1]; exact HLX.out)
        clear i2
        clear p0 p1 p2 p3 p4 p5
        have KB2 := Lib.hid (Kept.trans KB1.out k2)
        have hn2 : L = n2 := by rw [HL.out, I2.out.1]
        subst hn2
        have p0 := Kept.cell KB2.out HX0.out
        have p1 := Kept.cell KB2.out HX1.out
        have p2 := Kept.cell KB2.out HX2.out
        have p3 := Kept.cell KB2.out HX3.out
        have p4 := Kept.cell KB2.out HX4.out
        have p5 := Kept.cell KB2.out HX5.out
        go_wp2_with fail
        refine (HR.out A2 _ c2 _ (Kept.trans HK1.out KB2.out) hn2 le2 (I2.out.kept (Kept.refl _))).mono ?_
        rintro e w3 ⟨A3, n3, c3, rfl, le3, i3, _, k3⟩
        have I3 := Lib.hid i3
        have hn3 : n3 ≤ 10000 := by rw [i3.1]; exact HTL.out
        clear i3
        have KB3 := Lib.hid (Kept.trans KB2.out k3)
        clear p0 p1 p2 p3 p4 p5
        have KB4 := Lib.hid (Kept.trans KB3.out (Kept.alloc (Kept.refl w3) (Obj.cells #[Value.int IntKind.i64 (lo : Int), Value.int IntKind.i64 (hi : Int)] 40)))
        have s1 := run_take1 A2 L c2 p (by omega)
        have s2 := run_drop1 A2 L c2 (p + d) hpl
        rw [Int.natCast_add] at s2
        have z1 : IntKind.i64.wrap ((p : Int) + (d : Int)) = (p : Int) + (d : Int) := IntWalk.i64_in _ (by omega)
        have p0 := Kept.cell KB4.out HX0.out
        have p1 := Kept.cell KB4.out HX1.out
        have p2 := Kept.cell KB4.out HX2.out
        have p3 := Kept.cell KB4.out HX3.out
        have p4 := Kept.cell KB4.out HX4.out
        have p5 := Kept.cell KB4.out HX5.out
        go_wp2_with fail
        refine wp_region_held_drew (S := (fun w' => w'.cell? ⟨w.heap.size, 0, none⟩ = some (.slice s.Ac s.nc s.cc) ∧ w'.cell? ⟨w.heap.size, 1, none⟩ = some (.slice s.Am s.nm s.cm) ∧ w'.cell? ⟨w.heap.size, 2, none⟩ = some (.slice s.Ae s.ne s.ce) ∧ w'.cell? ⟨w.heap.size + 1, 0, none⟩ = some (.int .i64 (p : Int)) ∧ w'.cell? ⟨w.heap.size + 1, 1, none⟩ = some (.int .i64 (d : Int)) ∧ w'.cell? ⟨w.heap.size + 1, 2, none⟩ = some (.slice I ni ci))) (by kernel_rfl) ⟨p0, p1, p2, p3, p4, p5⟩ (fun hHeld => ?_)
        refine tk_ 0 ?_ rfl ?_; refine tk_ 1 ?_ rfl ?_; refine tk_ 2 ?_ rfl ?_; refine tk_ 3 ?_ rfl ?_; refine tk_ 4 ?_ rfl ?_; refine tk_ 5 ?_ rfl ?_; refine tk_ 7 ?_ rfl ?_; refine tk_ 8 ?_ rfl ?_; refine tk_ 9 ?_ rfl ?_; refine tk_ 10 ?_ rfl ?_; refine tk_ 11 ?_ rfl ?_; refine tk_ 12 ?_ rfl ?_; refine tk_ 13 ?_ rfl ?_
        refine rd_ 6 rfl (fun K hK => ?_)
        go_simp
        (refine (HB1.out A2 p c2 I ni ci _ (by omega) (by omega) (Ints.front_ (I2.out.kept (Kept.trans k3 (Kept.trans (Kept.alloc (Kept.refl w3) (Obj.cells #[Value.int IntKind.i64 (lo : Int), Value.int IntKind.i64 (hi : Int)] 40)) (Kept.drew (Kept.refl _))))) (by omega)) (HJ.out.kept (Kept.trans HK1.out (Kept.drew KB4.out)))).mono ?_; rintro e w5 ⟨A5, n5, c5, rfl, le5, i5, k5⟩; have I5 := Lib.hid i5; have hn5 : n5 ≤ 10000 := (by rw [i5.1]; exact HUL.out); clear i5; have KB5 := Lib.hid (Kept.trans (Kept.drew KB4.out) k5))
        go_wp2_with fail
        refine hK.out _ _ ⟨Kept.cell KB5.out HX0.out, Kept.cell KB5.out HX1.out, Kept.cell KB5.out HX2.out, Kept.cell KB5.out HX3.out, Kept.cell KB5.out HX4.out, Kept.cell KB5.out HX5.out⟩ (fun hHeld => ?_)
        clear hK K
        (try simp only [Act.put, s1_, s2_, s3_, s4_, s5_, s6_])
        refine rd_ 14 rfl (fun K hK => ?_)
        go_simp
        (refine (HB2.out A5 n5 c5 (dropA A2 c2 (p + d)) (L - (p + d)) (c2 - (p + d)) _ hn5 (by omega) I5.out (Ints.drop_ (I2.out.kept (Kept.trans k3 (Kept.trans (Kept.alloc (Kept.refl w3) (Obj.cells #[Value.int IntKind.i64 (lo : Int), Value.int IntKind.i64 (hi : Int)] 40)) (Kept.trans (Kept.drew (Kept.refl _)) k5)))) hpl le2)).mono ?_; rintro e w6 ⟨A6, n6, c6, rfl, le6, i6, k6⟩; have I6 := Lib.hid i6; have hn6 : n6 ≤ 10000 := (by rw [i6.1]; exact HVB.out); clear i6; have KB6 := Lib.hid (Kept.trans KB5.out k6))
        go_wp2_with fail
        refine hK.out _ _ ⟨Kept.cell KB6.out HX0.out, Kept.cell KB6.out HX1.out, Kept.cell KB6.out HX2.out, Kept.cell KB6.out HX3.out, Kept.cell KB6.out HX4.out, Kept.cell KB6.out HX5.out⟩ (fun hHeld => ?_)
        clear hK K
        (try simp only [Act.put, s1_, s2_, s3_, s4_, s5_, s6_])
        refine tk_ 15 ?_ rfl ?_
        refine wpAnyH_done (by kernel_rfl) ?_ _
        clear p0 p1 p2 p3 p4 p5
        have p0 := Kept.cell KB6.out HX0.out
        have p1 := Kept.cell KB6.out HX1.out
        have p2 := Kept.cell KB6.out HX2.out
        have p3 := Kept.cell KB6.out HX3.out
        have p4 := Kept.cell KB6.out HX4.out
        have p5 := Kept.cell KB6.out HX5.out
        go_wp2_with fail
        refine (HFV.out A6 n6 c6 _ (Kept.trans HK1.out KB6.out) hn6 (I6.out.kept (Kept.refl _))).mono ?_
        rintro e w7 ⟨A7, n7, c7, rfl, le7, i7, k7⟩
        have I7 := Lib.hid i7
        have hn7 : n7 ≤ 10000 := (by rw [i7.1]; exact HTL.out)
        clear i7
        clear p0 p1 p2 p3 p4 p5
        have KB7 := Lib.hid (Kept.trans KB6.out k7)
        have p0 := Kept.cell KB7.out HX0.out
        have p1 := Kept.cell KB7.out HX1.out
        have p2 := Kept.cell KB7.out HX2.out
        have p3 := Kept.cell KB7.out HX3.out
        have p4 := Kept.cell KB7.out HX4.out
        have p5 := Kept.cell KB7.out HX5.out
        go_wp2_with fail
        refine (r01_same T A3 A7 n3 n7 c3 c7 _ HTL.out (I3.out.kept (Kept.trans (Kept.alloc (Kept.refl w3) (Obj.cells #[Value.int IntKind.i64 (lo : Int), Value.int IntKind.i64 (hi : Int)] 40)) (Kept.trans (Kept.trans (Kept.drew (Kept.refl _)) k5) (Kept.trans k6 k7)))) I7.out).mono ?_
        rintro e w8 ⟨rfl, k8⟩
        clear p0 p1 p2 p3 p4 p5
        have KB8 := Lib.hid (Kept.trans KB7.out k8)
        have p0 := Kept.cell KB8.out HX0.out
        have p1 := Kept.cell KB8.out HX1.out
        have p2 := Kept.cell KB8.out HX2.out
        have p3 := Kept.cell KB8.out HX3.out
        have p4 := Kept.cell KB8.out HX4.out
        have p5 := Kept.cell KB8.out HX5.out
        go_wp2_with fail
        refine (HIS.out A3 n3 c3 _ (Kept.trans HK1.out KB8.out) hn3 (I3.out.kept (Kept.trans (Kept.alloc (Kept.refl w3) (Obj.cells #[Value.int IntKind.i64 (lo : Int), Value.int IntKind.i64 (hi : Int)] 40)) (Kept.trans (Kept.trans (Kept.drew (Kept.refl _)) k5) (Kept.trans k6 (Kept.trans k7 k8)))))).mono ?_
        rintro e w9 ⟨rfl, k9⟩
        clear p0 p1 p2 p3 p4 p5
        have KB9 := Lib.hid (Kept.trans KB8.out k9)
        have p0 := Kept.cell KB9.out HX0.out
        have p1 := Kept.cell KB9.out HX1.out
        have p2 := Kept.cell KB9.out HX2.out
        have p3 := Kept.cell KB9.out HX3.out
        have p4 := Kept.cell KB9.out HX4.out
        have p5 := Kept.cell KB9.out HX5.out
        go_wp2_with fail
        refine (alive26 _ (HG.out.kept (Kept.trans HK1.out KB9.out))).mono ?_
        rintro e w10 ⟨rfl, k10⟩
        clear p0 p1 p2 p3 p4 p5
        have KB10 := Lib.hid (Kept.trans KB9.out k10)
        go_wp2_with fail
        go_ret
        exact ⟨rfl, (Kept.trans HK1.out KB10.out)⟩
end Go.Proofs.YtjfhcmkcmdnhoaaGreatDoor
