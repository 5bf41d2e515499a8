/- law26.JoiningSame returns true. -/
import Derived.Deep.RegionHeld3
import Derived.Test.YtjfhcmkcmdnhoaaGreatDoorKSq
import Derived.Test.YtjfhcmkcmdnhoaaGreatDoorKAl6
import Derived.Test.YtjfhcmkcmdnhoaaGreatDoorKNrm
namespace Go.Proofs.YtjfhcmkcmdnhoaaGreatDoor
open Go Go.RowKit
theorem repl_ok {w : World} {n : Nrm} {form : Int} {text : List Int} {p d : Nat} {ins : List Int} {e : Ending} {w' : World} (hf : ¬ (form < 1 ∨ 4 < form)) (hp : p + d ≤ text.length) (h : RetRepl w n form text (p : Int) (d : Int) ins e w') :
    ∃ Q k c, ∃ lo hi : Int, e = .returned (.tuple #[.slice Q k c, .agg #[.int .i64 lo, .int .i64 hi], .int .i64 0]) ∧ k ≤ c ∧ Ints w' Q k (joinM n form (text.take p) ins (text.drop (p + d))) ∧ (∀ x, Q = some x → w.heap.size ≤ x.block) ∧ Kept w w' := by
  unfold RetRepl at h
  rw [if_neg hf, if_neg (by omega), show ((p : Int) + (d : Int)).toNat = p + d by omega, Int.toNat_natCast] at h
  obtain ⟨Q, k, c, he, hle, hI, hk⟩ := h
  exact ⟨Q, k, c, _, _, he, hle, hI, hk⟩
set_option maxRecDepth 100000 in
set_option maxHeartbeats 1000000 in
theorem r53check (p n : Nat) (A : Option Addr) (m c : Nat) (w : World) (hp : p ≤ n) (hn : n ≤ 10000) : Calls Tryz.prog 25 #[.agg #[.int .i64 (p : Int), .int .i64 0, .slice A m c], .int .i64 (n : Int)] w (RetI w 0) := by
  have HK := Lib.hid (Kept.alloc (Kept.refl w) (Obj.cells #[Value.int IntKind.i64 (p : Int), Value.int IntKind.i64 0, Value.slice A m c] 38))
  obtain ⟨q, hq⟩ : ∃ q : Nat, q = n - p := ⟨_, rfl⟩
  have e1 : decide ((p : Int) < 0) = false := decide_eq_false (by omega)
  have e2 : decide (n < p) = false := decide_eq_false (by omega)
  have e3 : (n : Int) - (p : Int) = (q : Int) := by omega
  have e4 : wrap64 (q : Int) = (q : Int) := IntWalk.wrap64_in _ (by omega)
  have e5 : decide ((q : Int) < 0) = false := decide_eq_false (by omega)
  have e6 : decide ((n : Int) < (p : Int)) = false := decide_eq_false (by omega)
  clear hq hp
  go_enter Tryz.func25, Tryz.ntmps25
  go_wp2_with fail
  go_ret
  exact ⟨rfl, HK.out⟩
set_option maxRecDepth 100000 in
set_option maxHeartbeats 4000000 in
theorem law_same26 (s : Sls) (n : Nrm) (form : Int) (A : Option Addr) (l c : Nat) (xs : List Int) (at_ : Int) (w : World) (hN : NormIn w s n) (_hx : I64 form) (hI : l ≤ c ∧ c ≤ 9223372036854775807 ∧ Ints w A l xs) (_ha : I64 at_) (hG : Glob w) : Calls Tryz.prog 6 #[s.val, .int .i64 form, .slice A l c, .int .i64 at_] w (RetB w true) := by
  have hk1 := Kept.alloc (Kept.refl w) (Obj.cells #[Value.slice s.Ac s.nc s.cc, Value.slice s.Am s.nm s.cm, Value.slice s.Ae s.ne s.ce] 28)
  have HK1 := Lib.hid hk1
  have hbx := box_cell w #[Value.slice s.Ac s.nc s.cc, Value.slice s.Am s.nm s.cm, Value.slice s.Ae s.ne s.ce] 28
  have x0 : (w.alloc (Obj.cells #[Value.slice s.Ac s.nc s.cc, Value.slice s.Am s.nm s.cm, Value.slice s.Ae s.ne s.ce] 28)).cell? ⟨w.heap.size, 0, none⟩ = some (.slice s.Ac s.nc s.cc) := hbx 0
  have x1 : (w.alloc (Obj.cells #[Value.slice s.Ac s.nc s.cc, Value.slice s.Am s.nm s.cm, Value.slice s.Ae s.ne s.ce] 28)).cell? ⟨w.heap.size, 1, none⟩ = some (.slice s.Am s.nm s.cm) := hbx 1
  have x2 : (w.alloc (Obj.cells #[Value.slice s.Ac s.nc s.cc, Value.slice s.Am s.nm s.cm, Value.slice s.Ae s.ne s.ce] 28)).cell? ⟨w.heap.size, 2, none⟩ = some (.slice s.Ae s.ne s.ce) := hbx 2
  have HX0 := Lib.hid x0
  have HX1 := Lib.hid x1
  have HX2 := Lib.hid x2
  have HN := Lib.hid hN
  have HG := Lib.hid hG
  obtain ⟨hle, hbig, hI⟩ := hI
  have HS := Lib.hid (few26 s n A l c none 0 0 (w.alloc (Obj.cells #[Value.slice s.Ac s.nc s.cc, Value.slice s.Am s.nm s.cm, Value.slice s.Ae s.ne s.ce] 28)) (hN.kept hk1) ⟨hle, hbig⟩ ⟨Nat.le_refl _, by omega⟩)
  have HI := Lib.hid hI
  clear hN hG hk1 hbx x0 x1 x2 hI hbig
  cases hsm : (smallB n && (decide (l ≤ 20) && decide (0 ≤ 20)))
  · rw [hsm] at HS
    clear hsm
    unfold Sls.val at *
    go_enter Tryz.func6, Tryz.ntmps6
    go_wp2_with fail
    refine (HS.out).mono ?_
    rintro e w1 ⟨rfl, k1⟩
    have KB1 := Lib.hid (Kept.trans (Kept.refl (w.alloc (Obj.cells #[Value.slice s.Ac s.nc s.cc, Value.slice s.Am s.nm s.cm, Value.slice s.Ae s.ne s.ce] 28))) k1)
    go_wp2_with fail
    refine (alive26 _ (HG.out.kept (Kept.trans HK1.out KB1.out))).mono ?_
    rintro e w2 ⟨rfl, k2⟩
    have KB2 := Lib.hid (Kept.trans KB1.out k2)
    go_wp2_with fail
    go_ret
    exact ⟨rfl, (Kept.trans HK1.out KB2.out)⟩
  · rw [hsm] at HS
    obtain ⟨hsb, hsm2⟩ := (Bool.and_eq_true _ _).mp hsm
    obtain ⟨hl20, _⟩ := (Bool.and_eq_true _ _).mp hsm2
    have hl20 := of_decide_eq_true hl20
    have HNA := Lib.hid (HN.out.small hsb)
    have HXL := Lib.hid HI.out.1
    clear hsm hsm2 hsb
    by_cases hf : form < 1 ∨ 4 < form
    · have h1 : form < 1 ∨ (¬ form < 1 ∧ 4 < form) := by omega
      clear hf
      rcases h1 with h1 | ⟨h1, h2⟩
      all_goals
        unfold Sls.val at *
        go_enter Tryz.func6, Tryz.ntmps6
        have p0 := HX0.out
        have p1 := HX1.out
        have p2 := HX2.out
        go_wp2_with fail
        refine (HS.out).mono ?_
        rintro e w1 ⟨rfl, k1⟩
        clear p0 p1 p2
        have KB1 := Lib.hid (Kept.trans (Kept.refl (w.alloc (Obj.cells #[Value.slice s.Ac s.nc s.cc, Value.slice s.Am s.nm s.cm, Value.slice s.Ae s.ne s.ce] 28))) k1)
        go_wp2_with fail
        refine (alive26 _ (HG.out.kept (Kept.trans HK1.out KB1.out))).mono ?_
        rintro e w2 ⟨rfl, k2⟩
        have KB2 := Lib.hid (Kept.trans KB1.out k2)
        go_wp2_with fail
        go_ret
        exact ⟨rfl, (Kept.trans HK1.out KB2.out)⟩
    · have HF := Lib.hid hf
      have hf1 : ¬ form < 1 := by omega
      have hf2 : ¬ 4 < form := by omega
      clear hf
      have HT := Lib.hid (fun w' (hk : Kept w w') => form_any s n form A l c xs w' (HNA.out.kept hk) (HG.out.kept hk) (by omega) (HI.out.kept hk))
      have HXX := Lib.hid (form_again n form xs)
      have HLX := Lib.hid (show (formOf n form xs).length ≤ 10000 by have := formOf_length n form xs; have := HXL.out; omega)
      generalize formOf n form xs = X at *
      obtain ⟨L, hL⟩ : ∃ L : Nat, L = X.length := ⟨_, rfl⟩
      have HL := Lib.hid hL
      by_cases hb : at_ < 0 ∨ (L : Int) < at_
      · have h1 : at_ < 0 ∨ (0 ≤ at_ ∧ (L : Int) < at_) := by omega
        clear hb hL
        rcases h1 with h1 | ⟨h1, h2⟩
        all_goals
          unfold Sls.val at *
          go_enter Tryz.func6, Tryz.ntmps6
          have p0 := HX0.out
          have p1 := HX1.out
          have p2 := HX2.out
          go_wp2_with fail
          refine (HS.out).mono ?_
          rintro e w1 ⟨rfl, k1⟩
          clear p0 p1 p2
          have KB1 := Lib.hid (Kept.trans (Kept.refl (w.alloc (Obj.cells #[Value.slice s.Ac s.nc s.cc, Value.slice s.Am s.nm s.cm, Value.slice s.Ae s.ne s.ce] 28))) k1)
          have p0 := Kept.cell KB1.out HX0.out
          have p1 := Kept.cell KB1.out HX1.out
          have p2 := Kept.cell KB1.out HX2.out
          go_wp2_with fail
          refine (HT.out _ (Kept.trans HK1.out KB1.out)).mono ?_
          rintro e w2 ⟨A2, n2, c2, rfl, le2, i2, k2⟩
          have I2 := Lib.hid i2
          have hn2 : n2 ≤ 10000 := (by rw [i2.1]; exact HLX.out)
          clear i2
          clear p0 p1 p2
          have KB2 := Lib.hid (Kept.trans KB1.out k2)
          have hn2 : L = n2 := by rw [HL.out, I2.out.1]
          subst hn2
          have p0 := Kept.cell KB2.out HX0.out
          have p1 := Kept.cell KB2.out HX1.out
          have p2 := Kept.cell KB2.out HX2.out
          go_wp2_with fail
          refine (alive26 _ (HG.out.kept (Kept.trans HK1.out KB2.out))).mono ?_
          rintro e w3 ⟨rfl, k3⟩
          have KB3 := Lib.hid (Kept.trans KB2.out k3)
          go_wp2_with fail
          go_ret
          exact ⟨rfl, (Kept.trans HK1.out KB3.out)⟩
      · have h1 : 0 ≤ at_ := by omega
        have h2 : at_ ≤ (L : Int) := by omega
        clear hb
        obtain ⟨p, rfl⟩ := Int.eq_ofNat_of_zero_le h1
        have hpl : p ≤ L := by omega
        obtain ⟨q, hq⟩ : ∃ q : Nat, q = L - p := ⟨_, rfl⟩
        have hpq : p + q = L := by omega
        have z1 : (L : Int) - (p : Int) = (q : Int) := by omega
        have z2 : IntKind.i64.wrap (q : Int) = (q : Int) := IntWalk.i64_in _ (by have := HL.out; have := HLX.out; omega)
        have hLB : L ≤ 10000 := by rw [hL]; exact HLX.out
        have HR1 := Lib.hid (fun A' n' c' w' (hk : Kept w w') (h1 : n' ≤ 10000) (l' : n' ≤ c') (hZ : Ints w' A' n' X) => replace_any s n form A' n' c' X (p : Int) ((0 : Nat) : Int) none 0 0 [] w' (HNA.out.kept hk) (HG.out.kept hk) (by omega) (by omega) l' (Nat.le_refl _) hZ Sl.nil)
        have HR2 := Lib.hid (fun A' n' c' I' w' (hk : Kept w w') (h1 : n' ≤ 10000) (l' : n' ≤ c') (h2 : q ≤ c' - p) (hZ : Ints w' A' n' X) (hW : Ints w' I' q (X.drop p)) => replace_any s n form A' n' c' X (p : Int) (q : Int) I' q (c' - p) (X.drop p) w' (HNA.out.kept hk) (HG.out.kept hk) (by omega) (by omega) l' h2 hZ hW)
        have HO1 := Lib.hid (fun w0 e w' (h : RetRepl w0 n form X (p : Int) ((0 : Nat) : Int) [] e w') => repl_ok HF.out (by rw [← hL]; omega) h)
        rw [Nat.add_zero, edit_none n form HXX.out p] at HO1
        have HO2 := Lib.hid (fun w0 e w' (h : RetRepl w0 n form X (p : Int) (q : Int) (X.drop p) e w') => repl_ok HF.out (by rw [← hL]; omega) h)
        rw [hpq, hL, List.drop_length, edit_same n form HXX.out p] at HO2
        have HPQ := Lib.hid hpq
        have HQ := Lib.hid hq
        clear hL hpq hq h1 h2
        rw [Int.natCast_zero] at HR1 HO1
        unfold Sls.val at *
        go_enter Tryz.func6, Tryz.ntmps6
        have p0 := HX0.out
        have p1 := HX1.out
        have p2 := HX2.out
        go_wp2_with fail
        refine (HS.out).mono ?_
        rintro e w1 ⟨rfl, k1⟩
        clear p0 p1 p2
        have KB1 := Lib.hid (Kept.trans (Kept.refl (w.alloc (Obj.cells #[Value.slice s.Ac s.nc s.cc, Value.slice s.Am s.nm s.cm, Value.slice s.Ae s.ne s.ce] 28))) k1)
        have p0 := Kept.cell KB1.out HX0.out
        have p1 := Kept.cell KB1.out HX1.out
        have p2 := Kept.cell KB1.out HX2.out
        go_wp2_with fail
        refine (HT.out _ (Kept.trans HK1.out KB1.out)).mono ?_
        rintro e w2 ⟨A2, n2, c2, rfl, le2, i2, k2⟩
        have I2 := Lib.hid i2
        have hn2 : n2 ≤ 10000 := (by rw [i2.1]; exact HLX.out)
        clear i2
        clear p0 p1 p2
        have KB2 := Lib.hid (Kept.trans KB1.out k2)
        have hn2 : L = n2 := by rw [HL.out, I2.out.1]
        subst hn2
        have p0 := Kept.cell KB2.out HX0.out
        have p1 := Kept.cell KB2.out HX1.out
        have p2 := Kept.cell KB2.out HX2.out
        go_wp2_with fail
        refine (HR1.out A2 _ c2 _ (Kept.trans HK1.out KB2.out) hn2 le2 (I2.out.kept (Kept.refl _))).mono ?_
        intro e w3 hret
        obtain ⟨A3, n3, c3, lo1, hi1, rfl, le3, i3, _, k3⟩ := HO1.out _ _ _ hret
        have I3 := Lib.hid i3
        have hn3 : n3 ≤ 10000 := by rw [i3.1]; exact HLX.out
        clear i3 hret
        have KB3 := Lib.hid (Kept.trans KB2.out k3)
        clear p0 p1 p2
        have KB4 := Lib.hid (Kept.trans KB3.out (Kept.alloc (Kept.refl w3) (Obj.cells #[Value.int IntKind.i64 lo1, Value.int IntKind.i64 hi1] 40)))
        have I3 := Lib.hid (I3.out.kept (Kept.alloc (Kept.refl w3) (Obj.cells #[Value.int IntKind.i64 lo1, Value.int IntKind.i64 hi1] 40)))
        have I2 := Lib.hid (I2.out.kept (Kept.trans k3 (Kept.alloc (Kept.refl w3) (Obj.cells #[Value.int IntKind.i64 lo1, Value.int IntKind.i64 hi1] 40))))
        have s1 := run_drop1 A2 L c2 p (by omega)
        rw [← HQ.out] at s1
        have p0 := Kept.cell KB4.out HX0.out
        have p1 := Kept.cell KB4.out HX1.out
        have p2 := Kept.cell KB4.out HX2.out
        go_wp2_with fail
        generalize w3.alloc (Obj.cells #[Value.int IntKind.i64 lo1, Value.int IntKind.i64 hi1] 40) = w4 at *
        refine wp_region_held_drew (S := (fun w' => w'.cell? ⟨w.heap.size, 0, none⟩ = some (.slice s.Ac s.nc s.cc) ∧ w'.cell? ⟨w.heap.size, 1, none⟩ = some (.slice s.Am s.nm s.cm) ∧ w'.cell? ⟨w.heap.size, 2, none⟩ = some (.slice s.Ae s.ne s.ce))) (by kernel_rfl) ⟨p0, p1, p2⟩ (fun hHeld => ?_)
        refine tk_ 0 ?_ rfl ?_; refine tk_ 1 ?_ rfl ?_; refine tk_ 2 ?_ rfl ?_; refine tk_ 3 ?_ rfl ?_; refine tk_ 4 ?_ rfl ?_; refine tk_ 5 ?_ rfl ?_; refine tk_ 6 ?_ rfl ?_; refine tk_ 7 ?_ rfl ?_; refine tk_ 8 ?_ rfl ?_; refine tk_ 9 ?_ rfl ?_; refine tk_ 10 ?_ rfl ?_; refine tk_ 11 ?_ rfl ?_
        refine wpAnyH_ready (rs := [12, 17]) (by kernel_rfl) (by simp) ?_
        refine AllReadyH.cons rfl (fun K hK => ?_) (AllReadyH.cons rfl (fun K hK => ?_) AllReadyH.nil)
        · go_simp
          (refine (HR2.out A2 _ c2 (dropA A2 c2 p) _ (Kept.trans (Kept.trans HK1.out KB4.out) (Kept.drew (Kept.refl w4))) hn2 le2 (by omega) (I2.out.kept (Kept.drew (Kept.refl w4))) (by have hh := Ints.drop_ (k := p) (I2.out.kept (Kept.drew (Kept.refl w4))) (by omega) le2; rwa [← HQ.out] at hh)).mono ?_; intro e w5 hret; obtain ⟨A5, n5, c5, lo, hi, rfl, le5, i5, f5, k5⟩ := HO2.out _ _ _ hret; have I5 := Lib.hid i5; have FR5 := Lib.hid f5; have hn5 : n5 ≤ 10000 := (by rw [i5.1]; exact HLX.out); have K5 := Lib.hid (Kept.trans (Kept.drew (Kept.refl w4)) k5); have KC := Lib.hid k5; clear i5 f5 k5 hret)
          go_wp2_with fail
          refine hK.out _ _ ⟨Kept.cell K5.out p0, Kept.cell K5.out p1, Kept.cell K5.out p2⟩ (fun hHeld => ?_)
          clear hK K
          (try simp only [Act.put, s1_, s2_, s3_, s4_, s5_, s6_])
          refine tk_ 13 ?_ rfl ?_; refine tk_ 14 ?_ rfl ?_; refine tk_ 15 ?_ rfl ?_; refine tk_ 16 ?_ rfl ?_
          refine rd_ 17 rfl (fun K hK => ?_)
          skip
          go_simp
          refine hK.out _ _ ⟨Kept.cell (Kept.alloc K5.out (Obj.cells #[Value.int IntKind.i64 0, Value.int IntKind.i64 0] 40)) p0, Kept.cell (Kept.alloc K5.out (Obj.cells #[Value.int IntKind.i64 0, Value.int IntKind.i64 0] 40)) p1, Kept.cell (Kept.alloc K5.out (Obj.cells #[Value.int IntKind.i64 0, Value.int IntKind.i64 0] 40)) p2⟩ (fun hHeld => ?_)
          clear hK K
          (try simp only [Act.put, s1_, s2_, s3_, s4_, s5_, s6_])
          refine tk_ 18 ?_ rfl ?_
          refine rd_ 19 rfl (fun K hK => ?_)
          skip
          go_simp
          refine hK.out _ _ ⟨Kept.cell (Kept.alloc K5.out (Obj.cells #[Value.int IntKind.i64 lo, Value.int IntKind.i64 hi] 40)) p0, Kept.cell (Kept.alloc K5.out (Obj.cells #[Value.int IntKind.i64 lo, Value.int IntKind.i64 hi] 40)) p1, Kept.cell (Kept.alloc K5.out (Obj.cells #[Value.int IntKind.i64 lo, Value.int IntKind.i64 hi] 40)) p2⟩ (fun hHeld => ?_)
          clear hK K
          (try simp only [Act.put, s1_, s2_, s3_, s4_, s5_, s6_])
          refine tk_ 20 ?_ rfl ?_
          refine wpAnyH_done (by kernel_rfl) ?_ _
          have I6 := Lib.hid (I5.out.kept (Kept.alloc (Kept.refl w5) (Obj.cells #[Value.int IntKind.i64 lo, Value.int IntKind.i64 hi] 40)))
          have K6 := Lib.hid (Kept.alloc K5.out (Obj.cells #[Value.int IntKind.i64 lo, Value.int IntKind.i64 hi] 40))
          generalize w5.alloc (Obj.cells #[Value.int IntKind.i64 lo, Value.int IntKind.i64 hi] 40) = w6 at *
          clear p0 p1 p2
          go_wp2_with fail
          refine (r01_same X A3 A2 n3 _ c3 c2 _ HLX.out (I3.out.kept K6.out) (I2.out.kept K6.out)).mono ?_
          rintro e w7 ⟨rfl, k7⟩
          go_wp2_with fail
          refine (r01_same X A5 A2 n5 _ c5 c2 _ HLX.out (I6.out.kept k7) (I2.out.kept (Kept.trans K6.out k7))).mono ?_
          rintro e w8 ⟨rfl, k8⟩
          go_wp2_with fail
          refine (r53check p _ none 0 0 _ (by omega) (by omega)).mono ?_
          rintro e w9 ⟨rfl, k9⟩
          have KZ := Lib.hid (Kept.trans (Kept.trans HK1.out KB4.out) (Kept.trans K6.out (Kept.trans k7 (Kept.trans k8 k9))))
          go_wp2_with fail
          refine (alive26 _ (HG.out.kept KZ.out)).mono ?_
          rintro e w10 ⟨rfl, k10⟩
          go_wp2_with fail
          go_ret
          exact ⟨rfl, Kept.trans KZ.out k10⟩
        · go_simp
          refine hK.out _ _ ⟨Kept.cell (Kept.alloc (Kept.drew (Kept.refl w4)) (Obj.cells #[Value.int IntKind.i64 0, Value.int IntKind.i64 0] 40)) p0, Kept.cell (Kept.alloc (Kept.drew (Kept.refl w4)) (Obj.cells #[Value.int IntKind.i64 0, Value.int IntKind.i64 0] 40)) p1, Kept.cell (Kept.alloc (Kept.drew (Kept.refl w4)) (Obj.cells #[Value.int IntKind.i64 0, Value.int IntKind.i64 0] 40)) p2⟩ (fun hHeld => ?_)
          clear hK K
          (try simp only [Act.put, s1_, s2_, s3_, s4_, s5_, s6_])
          refine rd_ 12 rfl (fun K hK => ?_)
          go_simp
          (refine (HR2.out A2 _ c2 (dropA A2 c2 p) _ (Kept.trans (Kept.trans HK1.out KB4.out) (Kept.alloc (Kept.drew (Kept.refl w4)) (Obj.cells #[Value.int IntKind.i64 0, Value.int IntKind.i64 0] 40))) hn2 le2 (by omega) (I2.out.kept (Kept.alloc (Kept.drew (Kept.refl w4)) (Obj.cells #[Value.int IntKind.i64 0, Value.int IntKind.i64 0] 40))) (by have hh := Ints.drop_ (k := p) (I2.out.kept (Kept.alloc (Kept.drew (Kept.refl w4)) (Obj.cells #[Value.int IntKind.i64 0, Value.int IntKind.i64 0] 40))) (by omega) le2; rwa [← HQ.out] at hh)).mono ?_; intro e w5 hret; obtain ⟨A5, n5, c5, lo, hi, rfl, le5, i5, f5, k5⟩ := HO2.out _ _ _ hret; have I5 := Lib.hid i5; have FR5 := Lib.hid f5; have hn5 : n5 ≤ 10000 := (by rw [i5.1]; exact HLX.out); have K5 := Lib.hid (Kept.trans (Kept.alloc (Kept.drew (Kept.refl w4)) (Obj.cells #[Value.int IntKind.i64 0, Value.int IntKind.i64 0] 40)) k5); have KC := Lib.hid k5; clear i5 f5 k5 hret)
          go_wp2_with fail
          refine hK.out _ _ ⟨Kept.cell K5.out p0, Kept.cell K5.out p1, Kept.cell K5.out p2⟩ (fun hHeld => ?_)
          clear hK K
          (try simp only [Act.put, s1_, s2_, s3_, s4_, s5_, s6_])
          refine tk_ 13 ?_ rfl ?_; refine tk_ 14 ?_ rfl ?_; refine tk_ 15 ?_ rfl ?_; refine tk_ 16 ?_ rfl ?_; refine tk_ 18 ?_ rfl ?_
          refine rd_ 19 rfl (fun K hK => ?_)
          have hal := (KC.out.block w4.heap.size (by simp)).trans (alloc_at (W := w4.drew) (o := (Obj.cells #[Value.int IntKind.i64 0, Value.int IntKind.i64 0] 40)) rfl)
          have x0 := cell_of_block (i := 0) hal rfl
          have x1 := cell_of_block (i := 1) hal rfl
          have y0 := frozen_of_block (i := 0) hal
          have y1 := frozen_of_block (i := 1) hal
          simp only [s4_, s5_, s6_] at x0 x1
          clear hal
          go_simp
          refine hK.out _ _ ⟨Kept.cell (Kept.setCell (Kept.setCell K5.out (p := ⟨w4.heap.size, 0, none⟩) (Nat.le_refl _) (.int .i64 lo)) (p := ⟨w4.heap.size, 1, none⟩) (Nat.le_refl _) (.int .i64 hi)) p0, Kept.cell (Kept.setCell (Kept.setCell K5.out (p := ⟨w4.heap.size, 0, none⟩) (Nat.le_refl _) (.int .i64 lo)) (p := ⟨w4.heap.size, 1, none⟩) (Nat.le_refl _) (.int .i64 hi)) p1, Kept.cell (Kept.setCell (Kept.setCell K5.out (p := ⟨w4.heap.size, 0, none⟩) (Nat.le_refl _) (.int .i64 lo)) (p := ⟨w4.heap.size, 1, none⟩) (Nat.le_refl _) (.int .i64 hi)) p2⟩ (fun hHeld => ?_)
          clear hK K
          (try simp only [Act.put, s1_, s2_, s3_, s4_, s5_, s6_])
          refine tk_ 20 ?_ rfl ?_
          refine wpAnyH_done (by kernel_rfl) ?_ _
          clear x0 x1 y0 y1
          have hfn : ∀ x, A5 = some x → x.block ≠ w4.heap.size := fun x hx => by have h1 := FR5.out x hx; simp at h1; omega
          have I6 := Lib.hid (Ints.sets (Ints.sets I5.out hfn 0 (.int .i64 lo)) hfn 1 (.int .i64 hi))
          have K6 := Lib.hid (Kept.setCell (Kept.setCell K5.out (p := ⟨w4.heap.size, 0, none⟩) (Nat.le_refl _) (.int .i64 lo)) (p := ⟨w4.heap.size, 1, none⟩) (Nat.le_refl _) (.int .i64 hi))
          clear hfn
          generalize ((w5.setCell ⟨w4.heap.size, 0, none⟩ (.int .i64 lo)).setCell ⟨w4.heap.size, 1, none⟩ (.int .i64 hi)) = w6 at *
          clear p0 p1 p2
          go_wp2_with fail
          refine (r01_same X A3 A2 n3 _ c3 c2 _ HLX.out (I3.out.kept K6.out) (I2.out.kept K6.out)).mono ?_
          rintro e w7 ⟨rfl, k7⟩
          go_wp2_with fail
          refine (r01_same X A5 A2 n5 _ c5 c2 _ HLX.out (I6.out.kept k7) (I2.out.kept (Kept.trans K6.out k7))).mono ?_
          rintro e w8 ⟨rfl, k8⟩
          go_wp2_with fail
          refine (r53check p _ none 0 0 _ (by omega) (by omega)).mono ?_
          rintro e w9 ⟨rfl, k9⟩
          have KZ := Lib.hid (Kept.trans (Kept.trans HK1.out KB4.out) (Kept.trans K6.out (Kept.trans k7 (Kept.trans k8 k9))))
          go_wp2_with fail
          refine (alive26 _ (HG.out.kept KZ.out)).mono ?_
          rintro e w10 ⟨rfl, k10⟩
          go_wp2_with fail
          go_ret
          exact ⟨rfl, Kept.trans KZ.out k10⟩
end Go.Proofs.YtjfhcmkcmdnhoaaGreatDoor
