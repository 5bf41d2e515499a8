/- law26.JoiningBounds returns true. -/
import Derived.Deep.RegionHeld3
import Derived.Test.YtjfhcmkcmdnhoaaGreatDoorKSq
import Derived.Test.YtjfhcmkcmdnhoaaGreatDoorKAl6
import Derived.Test.YtjfhcmkcmdnhoaaGreatDoorKNrm
import Derived.Test.YtjfhcmkcmdnhoaaGreatDoorKQcI
namespace Go.Proofs.YtjfhcmkcmdnhoaaGreatDoor
open Go Go.RowKit
set_option maxRecDepth 100000 in
set_option maxHeartbeats 4000000 in
theorem law_bounds26 (s : Sls) (n : Nrm) (form : Int) (A : Option Addr) (l c : Nat) (xs : List Int) (B : Option Addr) (m d : Nat) (ys : List Int) (w : World) (hN : NormIn w s n) (_hx : I64 form) (hI : l ≤ c ∧ c ≤ 9223372036854775807 ∧ Ints w A l xs) (hJ : m ≤ d ∧ d ≤ 9223372036854775807 ∧ Ints w B m ys) (hG : Glob w) : Calls Tryz.prog 7 #[s.val, .int .i64 form, .slice A l c, .slice B m d] w (RetB w true) := by
  have hk1 := Kept.alloc (Kept.refl w) (Obj.cells #[Value.slice s.Ac s.nc s.cc, Value.slice s.Am s.nm s.cm, Value.slice s.Ae s.ne s.ce] 28)
  have HK1 := Lib.hid hk1
  have hbx := box_cell w #[Value.slice s.Ac s.nc s.cc, Value.slice s.Am s.nm s.cm, Value.slice s.Ae s.ne s.ce] 28
  have x0 : (w.alloc (Obj.cells #[Value.slice s.Ac s.nc s.cc, Value.slice s.Am s.nm s.cm, Value.slice s.Ae s.ne s.ce] 28)).cell? ⟨w.heap.size, 0, none⟩ = some (.slice s.Ac s.nc s.cc) := hbx 0
  have x1 : (w.alloc (Obj.cells #[Value.slice s.Ac s.nc s.cc, Value.slice s.Am s.nm s.cm, Value.slice s.Ae s.ne s.ce] 28)).cell? ⟨w.heap.size, 1, none⟩ = some (.slice s.Am s.nm s.cm) := hbx 1
  have x2 : (w.alloc (Obj.cells #[Value.slice s.Ac s.nc s.cc, Value.slice s.Am s.nm s.cm, Value.slice s.Ae s.ne s.ce] 28)).cell? ⟨w.heap.size, 2, none⟩ = some (.slice s.Ae s.ne s.ce) := hbx 2
  have HX0 := Lib.hid x0
  have HX1 := Lib.hid x1
  have HX2 := Lib.hid x2
  have HN := Lib.hid hN
  have HG := Lib.hid hG
  obtain ⟨hle, hbig, hI⟩ := hI
  obtain ⟨hle2, hbig2, hJ⟩ := hJ
  have HS := Lib.hid (few26 s n A l c B m d (w.alloc (Obj.cells #[Value.slice s.Ac s.nc s.cc, Value.slice s.Am s.nm s.cm, Value.slice s.Ae s.ne s.ce] 28)) (hN.kept hk1) ⟨hle, hbig⟩ ⟨hle2, hbig2⟩)
  have HI := Lib.hid hI
  have HJ := Lib.hid hJ
  clear hN hG hk1 hbx x0 x1 x2 hI hJ hbig hbig2
  cases hsm : (smallB n && (decide (l ≤ 20) && decide (m ≤ 20)))
  · rw [hsm] at HS
    clear hsm
    unfold Sls.val at *
    go_enter Tryz.func7, Tryz.ntmps7
    go_wp2_with fail
    refine (HS.out).mono ?_
    rintro e w1 ⟨rfl, k1⟩
    have KB1 := Lib.hid (Kept.trans (Kept.refl (w.alloc (Obj.cells #[Value.slice s.Ac s.nc s.cc, Value.slice s.Am s.nm s.cm, Value.slice s.Ae s.ne s.ce] 28))) k1)
    go_wp2_with fail
    refine (alive26 _ (HG.out.kept (Kept.trans HK1.out KB1.out))).mono ?_
    rintro e w2 ⟨rfl, k2⟩
    have KB2 := Lib.hid (Kept.trans KB1.out k2)
    go_wp2_with fail
    go_ret
    exact ⟨rfl, (Kept.trans HK1.out KB2.out)⟩
  · rw [hsm] at HS
    obtain ⟨hsb, hsm2⟩ := (Bool.and_eq_true _ _).mp hsm
    obtain ⟨hl20, hm20⟩ := (Bool.and_eq_true _ _).mp hsm2
    have hl20 := of_decide_eq_true hl20
    have hm20 := of_decide_eq_true hm20
    have HNA := Lib.hid (HN.out.small hsb)
    have HXL := Lib.hid HI.out.1
    have HYL := Lib.hid HJ.out.1
    clear hsm hsm2 hsb
    have HE := Lib.hid (fun w' (hk : Kept w w') => edges_any s n form A l c xs B m d ys w' (HNA.out.kept hk) (HG.out.kept hk) (by omega) (by omega) (HI.out.kept hk) (HJ.out.kept hk))
    have HBD := Lib.hid (fun x w' (hk : Kept w w') => bound_any s n form x w' (HNA.out.kept hk) (HG.out.kept hk))
    obtain ⟨hf1, hf2, hf3, hf4⟩ := lastBd_spec (boundB n form) xs.length xs rfl
    obtain ⟨ht1, ht2, ht3⟩ := firstBd_spec (boundB n form) ys
    rw [show lastBd (boundB n form) xs = jFrom n form xs from rfl] at hf1 hf2 hf3 hf4
    rw [show firstBd (boundB n form) ys = jTo n form ys from rfl] at ht1 ht2 ht3
    generalize jFrom n form xs = f at *
    generalize jTo n form ys = t at *
    rw [← HXL.out] at hf1 hf2
    rw [← HYL.out] at ht1 ht3
    have HF4 := Lib.hid hf4
    have HT2 := Lib.hid ht2
    have HF2 := Lib.hid hf2
    clear hf4 ht2 hf2
    rcases (show f = 0 ∨ (0 < f ∧ f < l ∧ ∃ x, xs[f]? = some x ∧ boundB n form x = true) by rcases hf3 with h | ⟨c, r, h, hb⟩; exact .inl h; by_cases h0 : f = 0; exact .inl h0; exact .inr ⟨by omega, by rcases HF2.out with h | h <;> omega, c, by have := congrArg (fun l => l[0]?) h; simpa [List.getElem?_drop] using this, hb⟩) with hf0 | ⟨hf0, hfl, x, hx, hbx⟩
    all_goals rcases (show t = m ∨ (t < m ∧ ∃ y, ys[t]? = some y ∧ boundB n form y = true) by rcases ht3 with h | ⟨c, r, h, hb⟩; exact .inl h; by_cases h0 : t = m; exact .inl h0; exact .inr ⟨by omega, c, by have := congrArg (fun l => l[0]?) h; simpa [List.getElem?_drop] using this, hb⟩) with ht0 | ⟨htm, y, hy, hby⟩
    · clear hf3 ht3
      have e1 : decide ((f : Int) < 0) = false := decide_eq_false (by omega)
      have e2 : decide ((l : Int) < (f : Int)) = false := decide_eq_false (by omega)
      have e3 : decide ((t : Int) < 0) = false := decide_eq_false (by omega)
      have e4 : decide ((m : Int) < (t : Int)) = false := decide_eq_false (by omega)
      have e7 : decide (l < f) = false := decide_eq_false (by omega)
      have e8 : decide (m < t) = false := decide_eq_false (by omega)
      have e9 : decide (0 < f) = false := decide_eq_false (by omega)
      have e10 : decide (t < m) = false := decide_eq_false (by omega)
      have e5 : decide ((0 : Int) < (f : Int)) = false := decide_eq_false (by omega)
      have e6 : decide ((t : Int) < (m : Int)) = false := decide_eq_false (by omega)
      skip
      have HF0 := Lib.hid hf0
      clear hf0
      have HT0 := Lib.hid ht0
      clear ht0
      unfold Sls.val at *
      go_enter Tryz.func7, Tryz.ntmps7
      have p0 := HX0.out
      have p1 := HX1.out
      have p2 := HX2.out
      go_wp2_with fail
      refine (HS.out).mono ?_
      rintro e w1 ⟨rfl, k1⟩
      clear p0 p1 p2
      have KB1 := Lib.hid (Kept.trans (Kept.refl (w.alloc (Obj.cells #[Value.slice s.Ac s.nc s.cc, Value.slice s.Am s.nm s.cm, Value.slice s.Ae s.ne s.ce] 28))) k1)
      have p0 := Kept.cell KB1.out HX0.out
      have p1 := Kept.cell KB1.out HX1.out
      have p2 := Kept.cell KB1.out HX2.out
      go_wp2_with fail
      refine (HE.out _ (Kept.trans HK1.out KB1.out)).mono ?_
      rintro e w2 ⟨rfl, k2⟩
      clear p0 p1 p2
      have KB2 := Lib.hid (Kept.trans KB1.out k2)
      have p0 := Kept.cell KB2.out HX0.out
      have p1 := Kept.cell KB2.out HX1.out
      have p2 := Kept.cell KB2.out HX2.out
      go_wp2_with fail
      refine wp_region_held_drew (S := (fun w' => w'.cell? ⟨w.heap.size, 0, none⟩ = some (.slice s.Ac s.nc s.cc) ∧ w'.cell? ⟨w.heap.size, 1, none⟩ = some (.slice s.Am s.nm s.cm) ∧ w'.cell? ⟨w.heap.size, 2, none⟩ = some (.slice s.Ae s.ne s.ce))) (by kernel_rfl) ⟨p0, p1, p2⟩ (fun hHeld => ?_)
      refine tk_ 0 ?_ rfl ?_; refine tk_ 1 ?_ rfl ?_; refine tk_ 2 ?_ rfl ?_; refine tk_ 3 ?_ rfl ?_; refine tk_ 4 ?_ rfl ?_; refine tk_ 5 ?_ rfl ?_; refine tk_ 6 ?_ rfl ?_; refine tk_ 7 ?_ rfl ?_; refine tk_ 8 ?_ rfl ?_; refine tk_ 9 ?_ rfl ?_; refine tk_ 10 ?_ rfl ?_; refine tk_ 11 ?_ rfl ?_; refine tk_ 12 ?_ rfl ?_; refine tk_ 13 ?_ rfl ?_; refine tk_ 14 ?_ rfl ?_; refine tk_ 15 ?_ rfl ?_; refine tk_ 16 ?_ rfl ?_; refine tk_ 17 ?_ rfl ?_; refine tk_ 18 ?_ rfl ?_; refine tk_ 19 ?_ rfl ?_; refine tk_ 20 ?_ rfl ?_; refine tk_ 21 ?_ rfl ?_; refine sk_ 22 rfl ?_; refine sk_ 23 rfl ?_; refine sk_ 24 rfl ?_; refine sk_ 25 rfl ?_; refine sk_ 26 rfl ?_; refine sk_ 27 rfl ?_; refine sk_ 28 rfl ?_; refine sk_ 29 rfl ?_; refine sk_ 30 rfl ?_; refine sk_ 31 rfl ?_; refine sk_ 32 rfl ?_; refine sk_ 33 rfl ?_; refine tk_ 34 ?_ rfl ?_; refine tk_ 35 ?_ rfl ?_; refine tk_ 36 ?_ rfl ?_; refine tk_ 37 ?_ rfl ?_; refine tk_ 38 ?_ rfl ?_; refine tk_ 39 ?_ rfl ?_; refine tk_ 40 ?_ rfl ?_; refine tk_ 41 ?_ rfl ?_; refine sk_ 42 rfl ?_; refine sk_ 43 rfl ?_; refine sk_ 44 rfl ?_; refine sk_ 45 rfl ?_; refine sk_ 46 rfl ?_; refine sk_ 47 rfl ?_; refine sk_ 48 rfl ?_; refine sk_ 49 rfl ?_; refine tk_ 50 ?_ rfl ?_; refine tk_ 51 ?_ rfl ?_
      refine wpAnyH_done (by kernel_rfl) ?_ _
      clear p0 p1 p2
      have KB3 := Lib.hid (Kept.trans KB2.out (Kept.drew (Kept.refl _)))
      have z1 : IntKind.i64.wrap ((f : Int) + 1) = (f : Int) + 1 := IntWalk.i64_in _ (by omega)
      have z2 : wrap64 ((f : Int) + 1) = (f : Int) + 1 := IntWalk.wrap64_in _ (by omega)
      clear e1 e2 e3 e4 e5 e6 e7 e8 e9 e10
      go_wp2_with fail
      clear z1 z2
      go_loopw [11] (fun i wr => ∃ q : Nat, f < q ∧ i = .int .i64 q ∧ Kept (w.alloc (Obj.cells #[Value.slice s.Ac s.nc s.cc, Value.slice s.Am s.nm s.cm, Value.slice s.Ae s.ne s.ce] 28)) wr) (fun i _ => l - (intOf i).toNat)
      case atStart => exact ⟨f + 1, by omega, by go_num, KB3.out⟩
      case round =>
        obtain ⟨q, hq, rfl, hkr⟩ := hrel
        have KR := Lib.hid hkr
        have KW := Lib.hid (Kept.trans HK1.out hkr)
        clear hkr
        by_cases hlt : q < l
        · obtain ⟨bA, oA, x2, rfl, hx2, cx⟩ := int_at (HI.out.kept KW.out) hlt
          have HBX := Lib.hid (fun w' hk => HBD.out x2 w' hk)
          rw [HF4.out q x2 hq hx2] at HBX
          clear hx2
          have q0 := Kept.cell KR.out HX0.out
          have q1 := Kept.cell KR.out HX1.out
          have q2 := Kept.cell KR.out HX2.out
          go_wp2_with fail
          refine wp_region_held_drew (S := (fun w' => w'.cell? ⟨w.heap.size, 0, none⟩ = some (.slice s.Ac s.nc s.cc) ∧ w'.cell? ⟨w.heap.size, 1, none⟩ = some (.slice s.Am s.nm s.cm) ∧ w'.cell? ⟨w.heap.size, 2, none⟩ = some (.slice s.Ae s.ne s.ce) ∧ w'.cell? ⟨bA, oA + q, none⟩ = some (.int .i64 x2))) (by kernel_rfl) ⟨q0, q1, q2, cx⟩ (fun hHeld => ?_)
          refine tk_ 0 ?_ rfl ?_; refine tk_ 1 ?_ rfl ?_; refine tk_ 2 ?_ rfl ?_; refine tk_ 3 ?_ rfl ?_; refine tk_ 4 ?_ rfl ?_; refine tk_ 5 ?_ rfl ?_
          refine rd_ 6 rfl (fun K hK => ?_)
          go_simp
          (refine (HBX.out _ (Kept.trans KW.out (Kept.drew (Kept.refl wr)))).mono ?_; rintro e w6 ⟨rfl, k6⟩; have K6 := Lib.hid (Kept.trans (Kept.drew (Kept.refl wr)) k6); clear k6)
          go_wp2_with fail
          refine hK.out _ _ ⟨Kept.cell K6.out q0, Kept.cell K6.out q1, Kept.cell K6.out q2, Kept.cell K6.out cx⟩ (fun hHeld => ?_)
          clear hK K
          (try simp only [Act.put, s1_, s2_, s3_, s4_, s5_, s6_])
          refine wpAnyH_done (by kernel_rfl) ?_ _
          clear q0 q1 q2 cx
          go_wp2_with fail
          go_roundw
          case rel => exact ⟨q + 1, by omega, by go_num, Kept.trans KR.out K6.out⟩
          case measure => simp [intOf]; omega
        · go_wp2_with fail
          go_loopw [12] (fun i wr => ∃ q : Nat, q ≤ t ∧ i = .int .i64 q ∧ Kept (w.alloc (Obj.cells #[Value.slice s.Ac s.nc s.cc, Value.slice s.Am s.nm s.cm, Value.slice s.Ae s.ne s.ce] 28)) wr) (fun i _ => t - (intOf i).toNat)
          case atStart => exact ⟨0, Nat.zero_le _, rfl, KR.out⟩
          case round =>
            clear KR KW hlt hq
            obtain ⟨q, hq, rfl, hkr⟩ := hrel
            have KR := Lib.hid hkr
            have KW := Lib.hid (Kept.trans HK1.out hkr)
            clear hkr
            by_cases hqt : q < t
            · have hqm : q < m := by omega
              obtain ⟨bB, oB, x2, rfl, hx2, cx⟩ := int_at (HJ.out.kept KW.out) hqm
              have HBX := Lib.hid (fun w' hk => HBD.out x2 w' hk)
              rw [HT2.out q x2 hqt hx2] at HBX
              clear hx2
              have q0 := Kept.cell KR.out HX0.out
              have q1 := Kept.cell KR.out HX1.out
              have q2 := Kept.cell KR.out HX2.out
              go_wp2_with fail
              refine wp_region_held_drew (S := (fun w' => w'.cell? ⟨w.heap.size, 0, none⟩ = some (.slice s.Ac s.nc s.cc) ∧ w'.cell? ⟨w.heap.size, 1, none⟩ = some (.slice s.Am s.nm s.cm) ∧ w'.cell? ⟨w.heap.size, 2, none⟩ = some (.slice s.Ae s.ne s.ce) ∧ w'.cell? ⟨bB, oB + q, none⟩ = some (.int .i64 x2))) (by kernel_rfl) ⟨q0, q1, q2, cx⟩ (fun hHeld => ?_)
              refine tk_ 0 ?_ rfl ?_; refine tk_ 1 ?_ rfl ?_; refine tk_ 2 ?_ rfl ?_; refine tk_ 3 ?_ rfl ?_; refine tk_ 4 ?_ rfl ?_; refine tk_ 5 ?_ rfl ?_
              refine rd_ 6 rfl (fun K hK => ?_)
              go_simp
              (refine (HBX.out _ (Kept.trans KW.out (Kept.drew (Kept.refl wr)))).mono ?_; rintro e w6 ⟨rfl, k6⟩; have K6 := Lib.hid (Kept.trans (Kept.drew (Kept.refl wr)) k6); clear k6)
              go_wp2_with fail
              refine hK.out _ _ ⟨Kept.cell K6.out q0, Kept.cell K6.out q1, Kept.cell K6.out q2, Kept.cell K6.out cx⟩ (fun hHeld => ?_)
              clear hK K
              (try simp only [Act.put, s1_, s2_, s3_, s4_, s5_, s6_])
              refine wpAnyH_done (by kernel_rfl) ?_ _
              clear q0 q1 q2 cx
              go_wp2_with fail
              go_roundw
              case rel => exact ⟨q + 1, by omega, by go_num, Kept.trans KR.out K6.out⟩
              case measure => simp [intOf]; omega
            · rcases HF2.out with hz | hz
              · go_wp2_with fail
                refine (alive26 _ (HG.out.kept KW.out)).mono ?_
                rintro e w9 ⟨rfl, k9⟩
                go_wp2_with fail
                go_ret
                exact ⟨rfl, Kept.trans KW.out k9⟩
              · go_wp2_with fail
                refine (alive26 _ (HG.out.kept KW.out)).mono ?_
                rintro e w9 ⟨rfl, k9⟩
                go_wp2_with fail
                go_ret
                exact ⟨rfl, Kept.trans KW.out k9⟩
    · clear hf3 ht3
      obtain ⟨bB, oB, y', rfl, hy', cB0⟩ : ∃ b off y', B = some ⟨b, off, none⟩ ∧ ys[t]? = some y' ∧ w.cell? ⟨b, off + t, none⟩ = some (.int .i64 y') := int_at HJ.out htm
      obtain rfl : y' = y := by rw [hy] at hy'; exact (Option.some.inj hy').symm
      have CB := Lib.hid (Kept.cell HK1.out cB0)
      have HCY := Lib.hid (fun w' hk => HBD.out y' w' hk)
      rw [hby] at HCY
      clear hy hy' cB0 hby
      have e1 : decide ((f : Int) < 0) = false := decide_eq_false (by omega)
      have e2 : decide ((l : Int) < (f : Int)) = false := decide_eq_false (by omega)
      have e3 : decide ((t : Int) < 0) = false := decide_eq_false (by omega)
      have e4 : decide ((m : Int) < (t : Int)) = false := decide_eq_false (by omega)
      have e7 : decide (l < f) = false := decide_eq_false (by omega)
      have e8 : decide (m < t) = false := decide_eq_false (by omega)
      have e9 : decide (0 < f) = false := decide_eq_false (by omega)
      have e10 : decide (t < m) = true := decide_eq_true (by omega)
      have e5 : decide ((0 : Int) < (f : Int)) = false := decide_eq_false (by omega)
      have e6 : decide ((t : Int) < (m : Int)) = true := decide_eq_true (by omega)
      skip
      have HF0 := Lib.hid hf0
      clear hf0
      unfold Sls.val at *
      go_enter Tryz.func7, Tryz.ntmps7
      have p0 := HX0.out
      have p1 := HX1.out
      have p2 := HX2.out
      go_wp2_with fail
      refine (HS.out).mono ?_
      rintro e w1 ⟨rfl, k1⟩
      clear p0 p1 p2
      have KB1 := Lib.hid (Kept.trans (Kept.refl (w.alloc (Obj.cells #[Value.slice s.Ac s.nc s.cc, Value.slice s.Am s.nm s.cm, Value.slice s.Ae s.ne s.ce] 28))) k1)
      have p0 := Kept.cell KB1.out HX0.out
      have p1 := Kept.cell KB1.out HX1.out
      have p2 := Kept.cell KB1.out HX2.out
      go_wp2_with fail
      refine (HE.out _ (Kept.trans HK1.out KB1.out)).mono ?_
      rintro e w2 ⟨rfl, k2⟩
      clear p0 p1 p2
      have KB2 := Lib.hid (Kept.trans KB1.out k2)
      have p0 := Kept.cell KB2.out HX0.out
      have p1 := Kept.cell KB2.out HX1.out
      have p2 := Kept.cell KB2.out HX2.out
      have p3 := Kept.cell (Kept.trans k1 k2) CB.out
      go_wp2_with fail
      refine wp_region_held_drew (S := (fun w' => w'.cell? ⟨w.heap.size, 0, none⟩ = some (.slice s.Ac s.nc s.cc) ∧ w'.cell? ⟨w.heap.size, 1, none⟩ = some (.slice s.Am s.nm s.cm) ∧ w'.cell? ⟨w.heap.size, 2, none⟩ = some (.slice s.Ae s.ne s.ce) ∧ w'.cell? ⟨bB, oB + t, none⟩ = some (.int .i64 y'))) (by kernel_rfl) ⟨p0, p1, p2, p3⟩ (fun hHeld => ?_)
      refine tk_ 0 ?_ rfl ?_; refine tk_ 1 ?_ rfl ?_; refine tk_ 2 ?_ rfl ?_; refine tk_ 3 ?_ rfl ?_; refine tk_ 4 ?_ rfl ?_; refine tk_ 5 ?_ rfl ?_; refine tk_ 6 ?_ rfl ?_; refine tk_ 7 ?_ rfl ?_; refine tk_ 8 ?_ rfl ?_; refine tk_ 9 ?_ rfl ?_; refine tk_ 10 ?_ rfl ?_; refine tk_ 11 ?_ rfl ?_; refine tk_ 12 ?_ rfl ?_; refine tk_ 13 ?_ rfl ?_; refine tk_ 14 ?_ rfl ?_; refine tk_ 15 ?_ rfl ?_; refine tk_ 16 ?_ rfl ?_; refine tk_ 17 ?_ rfl ?_; refine tk_ 18 ?_ rfl ?_; refine tk_ 19 ?_ rfl ?_; refine tk_ 20 ?_ rfl ?_; refine tk_ 21 ?_ rfl ?_; refine sk_ 22 rfl ?_; refine sk_ 23 rfl ?_; refine sk_ 24 rfl ?_; refine sk_ 25 rfl ?_; refine sk_ 26 rfl ?_; refine sk_ 27 rfl ?_; refine sk_ 28 rfl ?_; refine sk_ 29 rfl ?_; refine sk_ 30 rfl ?_; refine sk_ 31 rfl ?_; refine sk_ 32 rfl ?_; refine sk_ 33 rfl ?_; refine tk_ 34 ?_ rfl ?_; refine tk_ 35 ?_ rfl ?_; refine tk_ 36 ?_ rfl ?_; refine tk_ 37 ?_ rfl ?_; refine tk_ 38 ?_ rfl ?_; refine tk_ 39 ?_ rfl ?_; refine tk_ 40 ?_ rfl ?_; refine tk_ 41 ?_ rfl ?_; refine tk_ 42 ?_ rfl ?_; refine tk_ 43 ?_ rfl ?_; refine tk_ 44 ?_ rfl ?_; refine tk_ 45 ?_ rfl ?_; refine tk_ 46 ?_ rfl ?_; refine tk_ 47 ?_ rfl ?_
      refine rd_ 48 rfl (fun K hK => ?_)
      go_simp
      (refine (HCY.out _ (Kept.trans HK1.out (Kept.drew KB2.out))).mono ?_; rintro e w3 ⟨rfl, k3⟩; have KB3 := Lib.hid (Kept.trans (Kept.drew KB2.out) k3))
      go_wp2_with fail
      refine hK.out _ _ ⟨Kept.cell KB3.out HX0.out, Kept.cell KB3.out HX1.out, Kept.cell KB3.out HX2.out, Kept.cell (Kept.trans k1 (Kept.trans k2 (Kept.trans (Kept.drew (Kept.refl _)) k3))) CB.out⟩ (fun hHeld => ?_)
      clear hK K
      (try simp only [Act.put, s1_, s2_, s3_, s4_, s5_, s6_])
      refine tk_ 49 ?_ rfl ?_; refine tk_ 50 ?_ rfl ?_; refine tk_ 51 ?_ rfl ?_
      refine wpAnyH_done (by kernel_rfl) ?_ _
      clear p0 p1 p2 p3
      have z1 : IntKind.i64.wrap ((f : Int) + 1) = (f : Int) + 1 := IntWalk.i64_in _ (by omega)
      have z2 : wrap64 ((f : Int) + 1) = (f : Int) + 1 := IntWalk.wrap64_in _ (by omega)
      clear e1 e2 e3 e4 e5 e6 e7 e8 e9 e10
      go_wp2_with fail
      clear z1 z2
      go_loopw [11] (fun i wr => ∃ q : Nat, f < q ∧ i = .int .i64 q ∧ Kept (w.alloc (Obj.cells #[Value.slice s.Ac s.nc s.cc, Value.slice s.Am s.nm s.cm, Value.slice s.Ae s.ne s.ce] 28)) wr) (fun i _ => l - (intOf i).toNat)
      case atStart => exact ⟨f + 1, by omega, by go_num, KB3.out⟩
      case round =>
        obtain ⟨q, hq, rfl, hkr⟩ := hrel
        have KR := Lib.hid hkr
        have KW := Lib.hid (Kept.trans HK1.out hkr)
        clear hkr
        by_cases hlt : q < l
        · obtain ⟨bA, oA, x2, rfl, hx2, cx⟩ := int_at (HI.out.kept KW.out) hlt
          have HBX := Lib.hid (fun w' hk => HBD.out x2 w' hk)
          rw [HF4.out q x2 hq hx2] at HBX
          clear hx2
          have q0 := Kept.cell KR.out HX0.out
          have q1 := Kept.cell KR.out HX1.out
          have q2 := Kept.cell KR.out HX2.out
          go_wp2_with fail
          refine wp_region_held_drew (S := (fun w' => w'.cell? ⟨w.heap.size, 0, none⟩ = some (.slice s.Ac s.nc s.cc) ∧ w'.cell? ⟨w.heap.size, 1, none⟩ = some (.slice s.Am s.nm s.cm) ∧ w'.cell? ⟨w.heap.size, 2, none⟩ = some (.slice s.Ae s.ne s.ce) ∧ w'.cell? ⟨bA, oA + q, none⟩ = some (.int .i64 x2))) (by kernel_rfl) ⟨q0, q1, q2, cx⟩ (fun hHeld => ?_)
          refine tk_ 0 ?_ rfl ?_; refine tk_ 1 ?_ rfl ?_; refine tk_ 2 ?_ rfl ?_; refine tk_ 3 ?_ rfl ?_; refine tk_ 4 ?_ rfl ?_; refine tk_ 5 ?_ rfl ?_
          refine rd_ 6 rfl (fun K hK => ?_)
          go_simp
          (refine (HBX.out _ (Kept.trans KW.out (Kept.drew (Kept.refl wr)))).mono ?_; rintro e w6 ⟨rfl, k6⟩; have K6 := Lib.hid (Kept.trans (Kept.drew (Kept.refl wr)) k6); clear k6)
          go_wp2_with fail
          refine hK.out _ _ ⟨Kept.cell K6.out q0, Kept.cell K6.out q1, Kept.cell K6.out q2, Kept.cell K6.out cx⟩ (fun hHeld => ?_)
          clear hK K
          (try simp only [Act.put, s1_, s2_, s3_, s4_, s5_, s6_])
          refine wpAnyH_done (by kernel_rfl) ?_ _
          clear q0 q1 q2 cx
          go_wp2_with fail
          go_roundw
          case rel => exact ⟨q + 1, by omega, by go_num, Kept.trans KR.out K6.out⟩
          case measure => simp [intOf]; omega
        · go_wp2_with fail
          go_loopw [12] (fun i wr => ∃ q : Nat, q ≤ t ∧ i = .int .i64 q ∧ Kept (w.alloc (Obj.cells #[Value.slice s.Ac s.nc s.cc, Value.slice s.Am s.nm s.cm, Value.slice s.Ae s.ne s.ce] 28)) wr) (fun i _ => t - (intOf i).toNat)
          case atStart => exact ⟨0, Nat.zero_le _, rfl, KR.out⟩
          case round =>
            clear KR KW hlt hq
            obtain ⟨q, hq, rfl, hkr⟩ := hrel
            have KR := Lib.hid hkr
            have KW := Lib.hid (Kept.trans HK1.out hkr)
            clear hkr
            by_cases hqt : q < t
            · have hqm : q < m := by omega
              obtain ⟨b2, off2, x2, hA, hx2, cx⟩ := int_at (HJ.out.kept KW.out) hqm
              injection hA with hA
              injection hA with h1 h2
              subst h1 h2
              have HBX := Lib.hid (fun w' hk => HBD.out x2 w' hk)
              rw [HT2.out q x2 hqt hx2] at HBX
              clear hx2
              have q0 := Kept.cell KR.out HX0.out
              have q1 := Kept.cell KR.out HX1.out
              have q2 := Kept.cell KR.out HX2.out
              go_wp2_with fail
              refine wp_region_held_drew (S := (fun w' => w'.cell? ⟨w.heap.size, 0, none⟩ = some (.slice s.Ac s.nc s.cc) ∧ w'.cell? ⟨w.heap.size, 1, none⟩ = some (.slice s.Am s.nm s.cm) ∧ w'.cell? ⟨w.heap.size, 2, none⟩ = some (.slice s.Ae s.ne s.ce) ∧ w'.cell? ⟨bB, oB + q, none⟩ = some (.int .i64 x2))) (by kernel_rfl) ⟨q0, q1, q2, cx⟩ (fun hHeld => ?_)
              refine tk_ 0 ?_ rfl ?_; refine tk_ 1 ?_ rfl ?_; refine tk_ 2 ?_ rfl ?_; refine tk_ 3 ?_ rfl ?_; refine tk_ 4 ?_ rfl ?_; refine tk_ 5 ?_ rfl ?_
              refine rd_ 6 rfl (fun K hK => ?_)
              go_simp
              (refine (HBX.out _ (Kept.trans KW.out (Kept.drew (Kept.refl wr)))).mono ?_; rintro e w6 ⟨rfl, k6⟩; have K6 := Lib.hid (Kept.trans (Kept.drew (Kept.refl wr)) k6); clear k6)
              go_wp2_with fail
              refine hK.out _ _ ⟨Kept.cell K6.out q0, Kept.cell K6.out q1, Kept.cell K6.out q2, Kept.cell K6.out cx⟩ (fun hHeld => ?_)
              clear hK K
              (try simp only [Act.put, s1_, s2_, s3_, s4_, s5_, s6_])
              refine wpAnyH_done (by kernel_rfl) ?_ _
              clear q0 q1 q2 cx
              go_wp2_with fail
              go_roundw
              case rel => exact ⟨q + 1, by omega, by go_num, Kept.trans KR.out K6.out⟩
              case measure => simp [intOf]; omega
            · rcases HF2.out with hz | hz
              · go_wp2_with fail
                refine (alive26 _ (HG.out.kept KW.out)).mono ?_
                rintro e w9 ⟨rfl, k9⟩
                go_wp2_with fail
                go_ret
                exact ⟨rfl, Kept.trans KW.out k9⟩
              · go_wp2_with fail
                refine (alive26 _ (HG.out.kept KW.out)).mono ?_
                rintro e w9 ⟨rfl, k9⟩
                go_wp2_with fail
                go_ret
                exact ⟨rfl, Kept.trans KW.out k9⟩
    · clear hf3 ht3
      obtain ⟨bA, oA, x', rfl, hx', cA0⟩ : ∃ b off x', A = some ⟨b, off, none⟩ ∧ xs[f]? = some x' ∧ w.cell? ⟨b, off + f, none⟩ = some (.int .i64 x') := int_at HI.out hfl
      obtain rfl : x' = x := by rw [hx] at hx'; exact (Option.some.inj hx').symm
      have CA := Lib.hid (Kept.cell HK1.out cA0)
      have hmin : min (f : Int) ((l : Int) - 1) = (f : Int) := by omega
      have hwl : IntKind.i64.wrap ((l : Int) - 1) = (l : Int) - 1 := IntWalk.i64_in _ (by omega)
      have HCX := Lib.hid (fun w' hk => HBD.out x' w' hk)
      rw [hbx] at HCX
      clear hx hx' cA0 hbx
      have e1 : decide ((f : Int) < 0) = false := decide_eq_false (by omega)
      have e2 : decide ((l : Int) < (f : Int)) = false := decide_eq_false (by omega)
      have e3 : decide ((t : Int) < 0) = false := decide_eq_false (by omega)
      have e4 : decide ((m : Int) < (t : Int)) = false := decide_eq_false (by omega)
      have e7 : decide (l < f) = false := decide_eq_false (by omega)
      have e8 : decide (m < t) = false := decide_eq_false (by omega)
      have e9 : decide (0 < f) = true := decide_eq_true (by omega)
      have e10 : decide (t < m) = false := decide_eq_false (by omega)
      have e5 : decide ((0 : Int) < (f : Int)) = true := decide_eq_true (by omega)
      have e6 : decide ((t : Int) < (m : Int)) = false := decide_eq_false (by omega)
      skip
      have HT0 := Lib.hid ht0
      clear ht0
      unfold Sls.val at *
      go_enter Tryz.func7, Tryz.ntmps7
      have p0 := HX0.out
      have p1 := HX1.out
      have p2 := HX2.out
      go_wp2_with fail
      refine (HS.out).mono ?_
      rintro e w1 ⟨rfl, k1⟩
      clear p0 p1 p2
      have KB1 := Lib.hid (Kept.trans (Kept.refl (w.alloc (Obj.cells #[Value.slice s.Ac s.nc s.cc, Value.slice s.Am s.nm s.cm, Value.slice s.Ae s.ne s.ce] 28))) k1)
      have p0 := Kept.cell KB1.out HX0.out
      have p1 := Kept.cell KB1.out HX1.out
      have p2 := Kept.cell KB1.out HX2.out
      go_wp2_with fail
      refine (HE.out _ (Kept.trans HK1.out KB1.out)).mono ?_
      rintro e w2 ⟨rfl, k2⟩
      clear p0 p1 p2
      have KB2 := Lib.hid (Kept.trans KB1.out k2)
      have p0 := Kept.cell KB2.out HX0.out
      have p1 := Kept.cell KB2.out HX1.out
      have p2 := Kept.cell KB2.out HX2.out
      have p3 := Kept.cell (Kept.trans k1 k2) CA.out
      go_wp2_with fail
      refine wp_region_held_drew (S := (fun w' => w'.cell? ⟨w.heap.size, 0, none⟩ = some (.slice s.Ac s.nc s.cc) ∧ w'.cell? ⟨w.heap.size, 1, none⟩ = some (.slice s.Am s.nm s.cm) ∧ w'.cell? ⟨w.heap.size, 2, none⟩ = some (.slice s.Ae s.ne s.ce) ∧ w'.cell? ⟨bA, oA + f, none⟩ = some (.int .i64 x'))) (by kernel_rfl) ⟨p0, p1, p2, p3⟩ (fun hHeld => ?_)
      refine tk_ 0 ?_ rfl ?_; refine tk_ 1 ?_ rfl ?_; refine tk_ 2 ?_ rfl ?_; refine tk_ 3 ?_ rfl ?_; refine tk_ 4 ?_ rfl ?_; refine tk_ 5 ?_ rfl ?_; refine tk_ 6 ?_ rfl ?_; refine tk_ 7 ?_ rfl ?_; refine tk_ 8 ?_ rfl ?_; refine tk_ 9 ?_ rfl ?_; refine tk_ 10 ?_ rfl ?_; refine tk_ 11 ?_ rfl ?_; refine tk_ 12 ?_ rfl ?_; refine tk_ 13 ?_ rfl ?_; refine tk_ 14 ?_ rfl ?_; refine tk_ 15 ?_ rfl ?_; refine tk_ 16 ?_ rfl ?_; refine tk_ 17 ?_ rfl ?_; refine tk_ 18 ?_ rfl ?_; refine tk_ 19 ?_ rfl ?_; refine tk_ 20 ?_ rfl ?_; refine tk_ 21 ?_ rfl ?_; refine tk_ 22 ?_ rfl ?_; refine tk_ 23 ?_ rfl ?_; refine tk_ 24 ?_ rfl ?_; refine tk_ 25 ?_ rfl ?_; refine tk_ 26 ?_ rfl ?_; refine tk_ 27 ?_ rfl ?_; refine tk_ 28 ?_ rfl ?_; refine tk_ 29 ?_ rfl ?_; refine tk_ 30 ?_ rfl ?_; refine tk_ 31 ?_ rfl ?_
      refine rd_ 32 rfl (fun K hK => ?_)
      go_simp
      (refine (HCX.out _ (Kept.trans HK1.out (Kept.drew KB2.out))).mono ?_; rintro e w3 ⟨rfl, k3⟩; have KB3 := Lib.hid (Kept.trans (Kept.drew KB2.out) k3))
      go_wp2_with fail
      refine hK.out _ _ ⟨Kept.cell KB3.out HX0.out, Kept.cell KB3.out HX1.out, Kept.cell KB3.out HX2.out, Kept.cell (Kept.trans k1 (Kept.trans k2 (Kept.trans (Kept.drew (Kept.refl _)) k3))) CA.out⟩ (fun hHeld => ?_)
      clear hK K
      (try simp only [Act.put, s1_, s2_, s3_, s4_, s5_, s6_])
      refine tk_ 33 ?_ rfl ?_; refine tk_ 34 ?_ rfl ?_; refine tk_ 35 ?_ rfl ?_; refine tk_ 36 ?_ rfl ?_; refine tk_ 37 ?_ rfl ?_; refine tk_ 38 ?_ rfl ?_; refine tk_ 39 ?_ rfl ?_; refine tk_ 40 ?_ rfl ?_; refine tk_ 41 ?_ rfl ?_; refine sk_ 42 rfl ?_; refine sk_ 43 rfl ?_; refine sk_ 44 rfl ?_; refine sk_ 45 rfl ?_; refine sk_ 46 rfl ?_; refine sk_ 47 rfl ?_; refine sk_ 48 rfl ?_; refine sk_ 49 rfl ?_; refine tk_ 50 ?_ rfl ?_; refine tk_ 51 ?_ rfl ?_
      refine wpAnyH_done (by kernel_rfl) ?_ _
      clear p0 p1 p2 p3
      have z1 : IntKind.i64.wrap ((f : Int) + 1) = (f : Int) + 1 := IntWalk.i64_in _ (by omega)
      have z2 : wrap64 ((f : Int) + 1) = (f : Int) + 1 := IntWalk.wrap64_in _ (by omega)
      clear e1 e2 e3 e4 e5 e6 e7 e8 e9 e10
      go_wp2_with fail
      clear z1 z2
      go_loopw [11] (fun i wr => ∃ q : Nat, f < q ∧ i = .int .i64 q ∧ Kept (w.alloc (Obj.cells #[Value.slice s.Ac s.nc s.cc, Value.slice s.Am s.nm s.cm, Value.slice s.Ae s.ne s.ce] 28)) wr) (fun i _ => l - (intOf i).toNat)
      case atStart => exact ⟨f + 1, by omega, by go_num, KB3.out⟩
      case round =>
        obtain ⟨q, hq, rfl, hkr⟩ := hrel
        have KR := Lib.hid hkr
        have KW := Lib.hid (Kept.trans HK1.out hkr)
        clear hkr
        by_cases hlt : q < l
        · obtain ⟨b2, off2, x2, hA, hx2, cx⟩ := int_at (HI.out.kept KW.out) hlt
          injection hA with hA
          injection hA with h1 h2
          subst h1 h2
          have HBX := Lib.hid (fun w' hk => HBD.out x2 w' hk)
          rw [HF4.out q x2 hq hx2] at HBX
          clear hx2
          have q0 := Kept.cell KR.out HX0.out
          have q1 := Kept.cell KR.out HX1.out
          have q2 := Kept.cell KR.out HX2.out
          go_wp2_with fail
          refine wp_region_held_drew (S := (fun w' => w'.cell? ⟨w.heap.size, 0, none⟩ = some (.slice s.Ac s.nc s.cc) ∧ w'.cell? ⟨w.heap.size, 1, none⟩ = some (.slice s.Am s.nm s.cm) ∧ w'.cell? ⟨w.heap.size, 2, none⟩ = some (.slice s.Ae s.ne s.ce) ∧ w'.cell? ⟨bA, oA + q, none⟩ = some (.int .i64 x2))) (by kernel_rfl) ⟨q0, q1, q2, cx⟩ (fun hHeld => ?_)
          refine tk_ 0 ?_ rfl ?_; refine tk_ 1 ?_ rfl ?_; refine tk_ 2 ?_ rfl ?_; refine tk_ 3 ?_ rfl ?_; refine tk_ 4 ?_ rfl ?_; refine tk_ 5 ?_ rfl ?_
          refine rd_ 6 rfl (fun K hK => ?_)
          go_simp
          (refine (HBX.out _ (Kept.trans KW.out (Kept.drew (Kept.refl wr)))).mono ?_; rintro e w6 ⟨rfl, k6⟩; have K6 := Lib.hid (Kept.trans (Kept.drew (Kept.refl wr)) k6); clear k6)
          go_wp2_with fail
          refine hK.out _ _ ⟨Kept.cell K6.out q0, Kept.cell K6.out q1, Kept.cell K6.out q2, Kept.cell K6.out cx⟩ (fun hHeld => ?_)
          clear hK K
          (try simp only [Act.put, s1_, s2_, s3_, s4_, s5_, s6_])
          refine wpAnyH_done (by kernel_rfl) ?_ _
          clear q0 q1 q2 cx
          go_wp2_with fail
          go_roundw
          case rel => exact ⟨q + 1, by omega, by go_num, Kept.trans KR.out K6.out⟩
          case measure => simp [intOf]; omega
        · go_wp2_with fail
          go_loopw [12] (fun i wr => ∃ q : Nat, q ≤ t ∧ i = .int .i64 q ∧ Kept (w.alloc (Obj.cells #[Value.slice s.Ac s.nc s.cc, Value.slice s.Am s.nm s.cm, Value.slice s.Ae s.ne s.ce] 28)) wr) (fun i _ => t - (intOf i).toNat)
          case atStart => exact ⟨0, Nat.zero_le _, rfl, KR.out⟩
          case round =>
            clear KR KW hlt hq
            obtain ⟨q, hq, rfl, hkr⟩ := hrel
            have KR := Lib.hid hkr
            have KW := Lib.hid (Kept.trans HK1.out hkr)
            clear hkr
            by_cases hqt : q < t
            · have hqm : q < m := by omega
              obtain ⟨bB, oB, x2, rfl, hx2, cx⟩ := int_at (HJ.out.kept KW.out) hqm
              have HBX := Lib.hid (fun w' hk => HBD.out x2 w' hk)
              rw [HT2.out q x2 hqt hx2] at HBX
              clear hx2
              have q0 := Kept.cell KR.out HX0.out
              have q1 := Kept.cell KR.out HX1.out
              have q2 := Kept.cell KR.out HX2.out
              go_wp2_with fail
              refine wp_region_held_drew (S := (fun w' => w'.cell? ⟨w.heap.size, 0, none⟩ = some (.slice s.Ac s.nc s.cc) ∧ w'.cell? ⟨w.heap.size, 1, none⟩ = some (.slice s.Am s.nm s.cm) ∧ w'.cell? ⟨w.heap.size, 2, none⟩ = some (.slice s.Ae s.ne s.ce) ∧ w'.cell? ⟨bB, oB + q, none⟩ = some (.int .i64 x2))) (by kernel_rfl) ⟨q0, q1, q2, cx⟩ (fun hHeld => ?_)
              refine tk_ 0 ?_ rfl ?_; refine tk_ 1 ?_ rfl ?_; refine tk_ 2 ?_ rfl ?_; refine tk_ 3 ?_ rfl ?_; refine tk_ 4 ?_ rfl ?_; refine tk_ 5 ?_ rfl ?_
              refine rd_ 6 rfl (fun K hK => ?_)
              go_simp
              (refine (HBX.out _ (Kept.trans KW.out (Kept.drew (Kept.refl wr)))).mono ?_; rintro e w6 ⟨rfl, k6⟩; have K6 := Lib.hid (Kept.trans (Kept.drew (Kept.refl wr)) k6); clear k6)
              go_wp2_with fail
              refine hK.out _ _ ⟨Kept.cell K6.out q0, Kept.cell K6.out q1, Kept.cell K6.out q2, Kept.cell K6.out cx⟩ (fun hHeld => ?_)
              clear hK K
              (try simp only [Act.put, s1_, s2_, s3_, s4_, s5_, s6_])
              refine wpAnyH_done (by kernel_rfl) ?_ _
              clear q0 q1 q2 cx
              go_wp2_with fail
              go_roundw
              case rel => exact ⟨q + 1, by omega, by go_num, Kept.trans KR.out K6.out⟩
              case measure => simp [intOf]; omega
            · rcases HF2.out with hz | hz
              · go_wp2_with fail
                refine (alive26 _ (HG.out.kept KW.out)).mono ?_
                rintro e w9 ⟨rfl, k9⟩
                go_wp2_with fail
                go_ret
                exact ⟨rfl, Kept.trans KW.out k9⟩
              · go_wp2_with fail
                refine (alive26 _ (HG.out.kept KW.out)).mono ?_
                rintro e w9 ⟨rfl, k9⟩
                go_wp2_with fail
                go_ret
                exact ⟨rfl, Kept.trans KW.out k9⟩
    · clear hf3 ht3
      obtain ⟨bA, oA, x', rfl, hx', cA0⟩ : ∃ b off x', A = some ⟨b, off, none⟩ ∧ xs[f]? = some x' ∧ w.cell? ⟨b, off + f, none⟩ = some (.int .i64 x') := int_at HI.out hfl
      obtain rfl : x' = x := by rw [hx] at hx'; exact (Option.some.inj hx').symm
      have CA := Lib.hid (Kept.cell HK1.out cA0)
      have hmin : min (f : Int) ((l : Int) - 1) = (f : Int) := by omega
      have hwl : IntKind.i64.wrap ((l : Int) - 1) = (l : Int) - 1 := IntWalk.i64_in _ (by omega)
      have HCX := Lib.hid (fun w' hk => HBD.out x' w' hk)
      rw [hbx] at HCX
      clear hx hx' cA0 hbx
      obtain ⟨bB, oB, y', rfl, hy', cB0⟩ : ∃ b off y', B = some ⟨b, off, none⟩ ∧ ys[t]? = some y' ∧ w.cell? ⟨b, off + t, none⟩ = some (.int .i64 y') := int_at HJ.out htm
      obtain rfl : y' = y := by rw [hy] at hy'; exact (Option.some.inj hy').symm
      have CB := Lib.hid (Kept.cell HK1.out cB0)
      have HCY := Lib.hid (fun w' hk => HBD.out y' w' hk)
      rw [hby] at HCY
      clear hy hy' cB0 hby
      have e1 : decide ((f : Int) < 0) = false := decide_eq_false (by omega)
      have e2 : decide ((l : Int) < (f : Int)) = false := decide_eq_false (by omega)
      have e3 : decide ((t : Int) < 0) = false := decide_eq_false (by omega)
      have e4 : decide ((m : Int) < (t : Int)) = false := decide_eq_false (by omega)
      have e7 : decide (l < f) = false := decide_eq_false (by omega)
      have e8 : decide (m < t) = false := decide_eq_false (by omega)
      have e9 : decide (0 < f) = true := decide_eq_true (by omega)
      have e10 : decide (t < m) = true := decide_eq_true (by omega)
      have e5 : decide ((0 : Int) < (f : Int)) = true := decide_eq_true (by omega)
      have e6 : decide ((t : Int) < (m : Int)) = true := decide_eq_true (by omega)
      skip
      unfold Sls.val at *
      go_enter Tryz.func7, Tryz.ntmps7
      have p0 := HX0.out
      have p1 := HX1.out
      have p2 := HX2.out
      go_wp2_with fail
      refine (HS.out).mono ?_
      rintro e w1 ⟨rfl, k1⟩
      clear p0 p1 p2
      have KB1 := Lib.hid (Kept.trans (Kept.refl (w.alloc (Obj.cells #[Value.slice s.Ac s.nc s.cc, Value.slice s.Am s.nm s.cm, Value.slice s.Ae s.ne s.ce] 28))) k1)
      have p0 := Kept.cell KB1.out HX0.out
      have p1 := Kept.cell KB1.out HX1.out
      have p2 := Kept.cell KB1.out HX2.out
      go_wp2_with fail
      refine (HE.out _ (Kept.trans HK1.out KB1.out)).mono ?_
      rintro e w2 ⟨rfl, k2⟩
      clear p0 p1 p2
      have KB2 := Lib.hid (Kept.trans KB1.out k2)
      have p0 := Kept.cell KB2.out HX0.out
      have p1 := Kept.cell KB2.out HX1.out
      have p2 := Kept.cell KB2.out HX2.out
      have p3 := Kept.cell (Kept.trans k1 k2) CA.out
      have p4 := Kept.cell (Kept.trans k1 k2) CB.out
      go_wp2_with fail
      refine wp_region_held_drew (S := (fun w' => w'.cell? ⟨w.heap.size, 0, none⟩ = some (.slice s.Ac s.nc s.cc) ∧ w'.cell? ⟨w.heap.size, 1, none⟩ = some (.slice s.Am s.nm s.cm) ∧ w'.cell? ⟨w.heap.size, 2, none⟩ = some (.slice s.Ae s.ne s.ce) ∧ w'.cell? ⟨bA, oA + f, none⟩ = some (.int .i64 x') ∧ w'.cell? ⟨bB, oB + t, none⟩ = some (.int .i64 y'))) (by kernel_rfl) ⟨p0, p1, p2, p3, p4⟩ (fun hHeld => ?_)
      refine tk_ 0 ?_ rfl ?_; refine tk_ 1 ?_ rfl ?_; refine tk_ 2 ?_ rfl ?_; refine tk_ 3 ?_ rfl ?_; refine tk_ 4 ?_ rfl ?_; refine tk_ 5 ?_ rfl ?_; refine tk_ 6 ?_ rfl ?_; refine tk_ 7 ?_ rfl ?_; refine tk_ 8 ?_ rfl ?_; refine tk_ 9 ?_ rfl ?_; refine tk_ 10 ?_ rfl ?_; refine tk_ 11 ?_ rfl ?_; refine tk_ 12 ?_ rfl ?_; refine tk_ 13 ?_ rfl ?_; refine tk_ 14 ?_ rfl ?_; refine tk_ 15 ?_ rfl ?_; refine tk_ 16 ?_ rfl ?_; refine tk_ 17 ?_ rfl ?_; refine tk_ 18 ?_ rfl ?_; refine tk_ 19 ?_ rfl ?_; refine tk_ 20 ?_ rfl ?_; refine tk_ 21 ?_ rfl ?_; refine tk_ 22 ?_ rfl ?_; refine tk_ 23 ?_ rfl ?_; refine tk_ 24 ?_ rfl ?_; refine tk_ 25 ?_ rfl ?_; refine tk_ 26 ?_ rfl ?_; refine tk_ 27 ?_ rfl ?_; refine tk_ 28 ?_ rfl ?_; refine tk_ 29 ?_ rfl ?_; refine tk_ 30 ?_ rfl ?_; refine tk_ 31 ?_ rfl ?_
      refine rd_ 32 rfl (fun K hK => ?_)
      go_simp
      (refine (HCX.out _ (Kept.trans HK1.out (Kept.drew KB2.out))).mono ?_; rintro e w3 ⟨rfl, k3⟩; have KB3 := Lib.hid (Kept.trans (Kept.drew KB2.out) k3))
      go_wp2_with fail
      refine hK.out _ _ ⟨Kept.cell KB3.out HX0.out, Kept.cell KB3.out HX1.out, Kept.cell KB3.out HX2.out, Kept.cell (Kept.trans k1 (Kept.trans k2 (Kept.trans (Kept.drew (Kept.refl _)) k3))) CA.out, Kept.cell (Kept.trans k1 (Kept.trans k2 (Kept.trans (Kept.drew (Kept.refl _)) k3))) CB.out⟩ (fun hHeld => ?_)
      clear hK K
      (try simp only [Act.put, s1_, s2_, s3_, s4_, s5_, s6_])
      refine tk_ 33 ?_ rfl ?_; refine tk_ 34 ?_ rfl ?_; refine tk_ 35 ?_ rfl ?_; refine tk_ 36 ?_ rfl ?_; refine tk_ 37 ?_ rfl ?_; refine tk_ 38 ?_ rfl ?_; refine tk_ 39 ?_ rfl ?_; refine tk_ 40 ?_ rfl ?_; refine tk_ 41 ?_ rfl ?_; refine tk_ 42 ?_ rfl ?_; refine tk_ 43 ?_ rfl ?_; refine tk_ 44 ?_ rfl ?_; refine tk_ 45 ?_ rfl ?_; refine tk_ 46 ?_ rfl ?_; refine tk_ 47 ?_ rfl ?_
      refine rd_ 48 rfl (fun K hK => ?_)
      go_simp
      (refine (HCY.out _ (Kept.trans HK1.out KB3.out)).mono ?_; rintro e w4 ⟨rfl, k4⟩; have KB4 := Lib.hid (Kept.trans KB3.out k4))
      go_wp2_with fail
      refine hK.out _ _ ⟨Kept.cell KB4.out HX0.out, Kept.cell KB4.out HX1.out, Kept.cell KB4.out HX2.out, Kept.cell (Kept.trans k1 (Kept.trans k2 (Kept.trans (Kept.trans (Kept.drew (Kept.refl _)) k3) k4))) CA.out, Kept.cell (Kept.trans k1 (Kept.trans k2 (Kept.trans (Kept.trans (Kept.drew (Kept.refl _)) k3) k4))) CB.out⟩ (fun hHeld => ?_)
      clear hK K
      (try simp only [Act.put, s1_, s2_, s3_, s4_, s5_, s6_])
      refine tk_ 49 ?_ rfl ?_; refine tk_ 50 ?_ rfl ?_; refine tk_ 51 ?_ rfl ?_
      refine wpAnyH_done (by kernel_rfl) ?_ _
      clear p0 p1 p2 p3 p4
      have z1 : IntKind.i64.wrap ((f : Int) + 1) = (f : Int) + 1 := IntWalk.i64_in _ (by omega)
      have z2 : wrap64 ((f : Int) + 1) = (f : Int) + 1 := IntWalk.wrap64_in _ (by omega)
      clear e1 e2 e3 e4 e5 e6 e7 e8 e9 e10
      go_wp2_with fail
      clear z1 z2
      go_loopw [11] (fun i wr => ∃ q : Nat, f < q ∧ i = .int .i64 q ∧ Kept (w.alloc (Obj.cells #[Value.slice s.Ac s.nc s.cc, Value.slice s.Am s.nm s.cm, Value.slice s.Ae s.ne s.ce] 28)) wr) (fun i _ => l - (intOf i).toNat)
      case atStart => exact ⟨f + 1, by omega, by go_num, KB4.out⟩
      case round =>
        obtain ⟨q, hq, rfl, hkr⟩ := hrel
        have KR := Lib.hid hkr
        have KW := Lib.hid (Kept.trans HK1.out hkr)
        clear hkr
        by_cases hlt : q < l
        · obtain ⟨b2, off2, x2, hA, hx2, cx⟩ := int_at (HI.out.kept KW.out) hlt
          injection hA with hA
          injection hA with h1 h2
          subst h1 h2
          have HBX := Lib.hid (fun w' hk => HBD.out x2 w' hk)
          rw [HF4.out q x2 hq hx2] at HBX
          clear hx2
          have q0 := Kept.cell KR.out HX0.out
          have q1 := Kept.cell KR.out HX1.out
          have q2 := Kept.cell KR.out HX2.out
          go_wp2_with fail
          refine wp_region_held_drew (S := (fun w' => w'.cell? ⟨w.heap.size, 0, none⟩ = some (.slice s.Ac s.nc s.cc) ∧ w'.cell? ⟨w.heap.size, 1, none⟩ = some (.slice s.Am s.nm s.cm) ∧ w'.cell? ⟨w.heap.size, 2, none⟩ = some (.slice s.Ae s.ne s.ce) ∧ w'.cell? ⟨bA, oA + q, none⟩ = some (.int .i64 x2))) (by kernel_rfl) ⟨q0, q1, q2, cx⟩ (fun hHeld => ?_)
          refine tk_ 0 ?_ rfl ?_; refine tk_ 1 ?_ rfl ?_; refine tk_ 2 ?_ rfl ?_; refine tk_ 3 ?_ rfl ?_; refine tk_ 4 ?_ rfl ?_; refine tk_ 5 ?_ rfl ?_
          refine rd_ 6 rfl (fun K hK => ?_)
          go_simp
          (refine (HBX.out _ (Kept.trans KW.out (Kept.drew (Kept.refl wr)))).mono ?_; rintro e w6 ⟨rfl, k6⟩; have K6 := Lib.hid (Kept.trans (Kept.drew (Kept.refl wr)) k6); clear k6)
          go_wp2_with fail
          refine hK.out _ _ ⟨Kept.cell K6.out q0, Kept.cell K6.out q1, Kept.cell K6.out q2, Kept.cell K6.out cx⟩ (fun hHeld => ?_)
          clear hK K
          (try simp only [Act.put, s1_, s2_, s3_, s4_, s5_, s6_])
          refine wpAnyH_done (by kernel_rfl) ?_ _
          clear q0 q1 q2 cx
          go_wp2_with fail
          go_roundw
          case rel => exact ⟨q + 1, by omega, by go_num, Kept.trans KR.out K6.out⟩
          case measure => simp [intOf]; omega
        · go_wp2_with fail
          go_loopw [12] (fun i wr => ∃ q : Nat, q ≤ t ∧ i = .int .i64 q ∧ Kept (w.alloc (Obj.cells #[Value.slice s.Ac s.nc s.cc, Value.slice s.Am s.nm s.cm, Value.slice s.Ae s.ne s.ce] 28)) wr) (fun i _ => t - (intOf i).toNat)
          case atStart => exact ⟨0, Nat.zero_le _, rfl, KR.out⟩
          case round =>
            clear KR KW hlt hq
            obtain ⟨q, hq, rfl, hkr⟩ := hrel
            have KR := Lib.hid hkr
            have KW := Lib.hid (Kept.trans HK1.out hkr)
            clear hkr
            by_cases hqt : q < t
            · have hqm : q < m := by omega
              obtain ⟨b2, off2, x2, hA, hx2, cx⟩ := int_at (HJ.out.kept KW.out) hqm
              injection hA with hA
              injection hA with h1 h2
              subst h1 h2
              have HBX := Lib.hid (fun w' hk => HBD.out x2 w' hk)
              rw [HT2.out q x2 hqt hx2] at HBX
              clear hx2
              have q0 := Kept.cell KR.out HX0.out
              have q1 := Kept.cell KR.out HX1.out
              have q2 := Kept.cell KR.out HX2.out
              go_wp2_with fail
              refine wp_region_held_drew (S := (fun w' => w'.cell? ⟨w.heap.size, 0, none⟩ = some (.slice s.Ac s.nc s.cc) ∧ w'.cell? ⟨w.heap.size, 1, none⟩ = some (.slice s.Am s.nm s.cm) ∧ w'.cell? ⟨w.heap.size, 2, none⟩ = some (.slice s.Ae s.ne s.ce) ∧ w'.cell? ⟨bB, oB + q, none⟩ = some (.int .i64 x2))) (by kernel_rfl) ⟨q0, q1, q2, cx⟩ (fun hHeld => ?_)
              refine tk_ 0 ?_ rfl ?_; refine tk_ 1 ?_ rfl ?_; refine tk_ 2 ?_ rfl ?_; refine tk_ 3 ?_ rfl ?_; refine tk_ 4 ?_ rfl ?_; refine tk_ 5 ?_ rfl ?_
              refine rd_ 6 rfl (fun K hK => ?_)
              go_simp
              (refine (HBX.out _ (Kept.trans KW.out (Kept.drew (Kept.refl wr)))).mono ?_; rintro e w6 ⟨rfl, k6⟩; have K6 := Lib.hid (Kept.trans (Kept.drew (Kept.refl wr)) k6); clear k6)
              go_wp2_with fail
              refine hK.out _ _ ⟨Kept.cell K6.out q0, Kept.cell K6.out q1, Kept.cell K6.out q2, Kept.cell K6.out cx⟩ (fun hHeld => ?_)
              clear hK K
              (try simp only [Act.put, s1_, s2_, s3_, s4_, s5_, s6_])
              refine wpAnyH_done (by kernel_rfl) ?_ _
              clear q0 q1 q2 cx
              go_wp2_with fail
              go_roundw
              case rel => exact ⟨q + 1, by omega, by go_num, Kept.trans KR.out K6.out⟩
              case measure => simp [intOf]; omega
            · rcases HF2.out with hz | hz
              · go_wp2_with fail
                refine (alive26 _ (HG.out.kept KW.out)).mono ?_
                rintro e w9 ⟨rfl, k9⟩
                go_wp2_with fail
                go_ret
                exact ⟨rfl, Kept.trans KW.out k9⟩
              · go_wp2_with fail
                refine (alive26 _ (HG.out.kept KW.out)).mono ?_
                rintro e w9 ⟨rfl, k9⟩
                go_wp2_with fail
                go_ret
                exact ⟨rfl, Kept.trans KW.out k9⟩
end Go.Proofs.YtjfhcmkcmdnhoaaGreatDoor
