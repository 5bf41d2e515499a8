/- law27.StreamsafeBounds returns true. -/
import Derived.Test.YtljkkfohlkhjnaaDoorKSag
namespace Go.Proofs.YtljkkfohlkhjnaaDoor
open Go Go.RowKit

theorem ints_one {w : World} {b off : Nat} {x : Int} (h : w.cell? ⟨b, off, none⟩ = some (.int .i64 x)) : Ints w (some ⟨b, off, none⟩) 1 [x] := by
  refine ⟨rfl, fun _ => ⟨b, off, rfl, fun i y hy j u hu => ?_⟩⟩
  have hi0 : i = 0 := by have := lt_of_getElem?_some hy; simpa using this
  subst hi0
  simp at hy
  subst hy
  match j, hu with
  | 0, hu => simp [encI] at hu; subst hu; simpa using h
  | j + 1, hu => simp [encI] at hu
theorem mrun_le (cls : Int → Int) : ∀ (t : List Int) (k : Nat), mrun cls k t ≤ k + t.length
  | [], k => by simp [mrun]
  | c :: t, k => by
    rw [mrun]
    split
    · have := mrun_le cls t 0; simp; omega
    · have := mrun_le cls t (k + 1); simp; omega
theorem ssLong_le (n : Nrm) (t : List Int) : ssLong n t ≤ 64 * t.length := by
  unfold ssLong
  split
  · omega
  · have h1 := mrun_le (classOf n.classes) (textOf n true t) 0
    have h2 := textOf_length n true t
    omega

set_option maxRecDepth 100000 in
set_option maxHeartbeats 2000000 in
theorem law_bounds27 (s : Sls) (n : Nrm) (most : Int) (A : Option Addr) (l c : Nat) (xs : List Int) (w : World) (hN : NormIn w s n) (hx : I64 most) (hI : l ≤ c ∧ c ≤ 9223372036854775807 ∧ Ints w A l xs) (hG : Glob w) : Calls Tryd.prog 5 #[s.val, .int .i64 most, .slice A l c] w (RetB w true) := by
  have HG := Lib.hid hG
  have hk1 := Kept.alloc (Kept.refl w) (Obj.cells #[Value.slice s.Ac s.nc s.cc, Value.slice s.Am s.nm s.cm, Value.slice s.Ae s.ne s.ce] 28)
  have HK1 := Lib.hid hk1
  obtain ⟨hle, hbig, hI⟩ := hI
  have HS := Lib.hid (few27 s n A l c (w.alloc (Obj.cells #[Value.slice s.Ac s.nc s.cc, Value.slice s.Am s.nm s.cm, Value.slice s.Ae s.ne s.ce] 28)) (hN.kept hk1) ⟨hle, hbig⟩)
  have hbx := box_cell w #[Value.slice s.Ac s.nc s.cc, Value.slice s.Am s.nm s.cm, Value.slice s.Ae s.ne s.ce] 28
  have x0 : (w.alloc (Obj.cells #[Value.slice s.Ac s.nc s.cc, Value.slice s.Am s.nm s.cm, Value.slice s.Ae s.ne s.ce] 28)).cell? ⟨w.heap.size, 0, none⟩ = some (.slice s.Ac s.nc s.cc) := hbx 0
  have x1 : (w.alloc (Obj.cells #[Value.slice s.Ac s.nc s.cc, Value.slice s.Am s.nm s.cm, Value.slice s.Ae s.ne s.ce] 28)).cell? ⟨w.heap.size, 1, none⟩ = some (.slice s.Am s.nm s.cm) := hbx 1
  have x2 : (w.alloc (Obj.cells #[Value.slice s.Ac s.nc s.cc, Value.slice s.Am s.nm s.cm, Value.slice s.Ae s.ne s.ce] 28)).cell? ⟨w.heap.size, 2, none⟩ = some (.slice s.Ae s.ne s.ce) := hbx 2
  have HX0 := Lib.hid x0
  have HX1 := Lib.hid x1
  have HX2 := Lib.hid x2
  have HN := Lib.hid hN
  have HI := Lib.hid hI
  have HLC := Lib.hid (And.intro hle hbig)
  clear hN hG hk1 hbx x0 x1 x2 hI hle hbig
  cases hsm : (smallB n && decide (l ≤ 40))
  · rw [hsm] at HS
    clear hsm
    unfold Sls.val at *
    go_enter Tryd.func5, Tryd.ntmps5
    go_wp2_with fail
    refine HS.out.mono ?_
    rintro e w1 ⟨rfl, k1⟩
    have HA := Lib.hid (alive27 w1 (HG.out.kept (Kept.trans HK1.out k1)))
    go_wp2_with fail
    refine HA.out.mono ?_
    rintro e w2 ⟨rfl, k2⟩
    go_wp2_with fail
    go_ret
    exact ⟨rfl, Kept.trans HK1.out (Kept.trans k1 k2)⟩
  · rw [hsm] at HS
    obtain ⟨hsb, hl40⟩ := (Bool.and_eq_true _ _).mp hsm
    have hl40 := of_decide_eq_true hl40
    have HNA := Lib.hid (HN.out.small hsb)
    have HTG := Lib.hid (norm_tag HN.out hsb)
    have HXL := Lib.hid HI.out.1
    clear hsm hsb
    have HT0 := Lib.hid (fun A' n' c' zs w' (hk : Kept w w') (hn' : n' ≤ 1000) (hZ : Ints w' A' n' zs) => ssText_any s n most A' n' c' zs w' (HNA.out.kept hk) (HG.out.kept hk) hx hn' hZ)
    have HIS := Lib.hid (fun A' n' c' zs w' (hk : Kept w w') (hn' : n' ≤ 1000) (hZ : Ints w' A' n' zs) => ssIs_any s n most A' n' c' zs w' (HNA.out.kept hk) (HG.out.kept hk) hx hn' hZ)
    have HLX := Lib.hid (show (ssText n most xs).length ≤ 80 by have := ssText_len n most xs; have := HXL.out; omega)
    have HCK := Lib.hid (fun w' (hk : Kept w w') => ssCheck_any s n most w' (HNA.out.kept hk) (HG.out.kept hk))
    have HLO := Lib.hid (fun A' n' c' zs w' (hk : Kept w w') (hn' : n' ≤ 1000) (hZ : Ints w' A' n' zs) => ssLong_any s n A' n' c' zs w' (HNA.out.kept hk) (HG.out.kept hk) hn' hZ)
    by_cases h0 : ssCheck n most = 0
    · have HBD := Lib.hid (fun B hm ht => ssText_bounds h0 (B := B) hm xs ht)
      obtain ⟨hm1, hm2, _, _, _⟩ := ssCheck_zero h0
      rw [h0] at HCK
      clear h0
      unfold Sls.val at *
      go_enter Tryd.func5, Tryd.ntmps5
      go_wp2_with fail
      refine HS.out.mono ?_
      rintro e w1 ⟨rfl, k1⟩
      have p0 := Kept.cell k1 HX0.out
      have p1 := Kept.cell k1 HX1.out
      have p2 := Kept.cell k1 HX2.out
      have K1 := Lib.hid (Kept.trans HK1.out k1)
      go_wp2_with fail
      refine (HCK.out _ K1.out).mono ?_
      rintro e w2 ⟨rfl, k2⟩
      have K2 := Lib.hid (Kept.trans K1.out k2)
      have HP0 := Lib.hid (Kept.cell k2 p0)
      have HP1 := Lib.hid (Kept.cell k2 p1)
      have HP2 := Lib.hid (Kept.cell k2 p2)
      clear p0 p1 p2
      go_wp2_with fail
      go_loopw [7, 8] (fun p i wr => ∃ (k : Nat) (b : Int), k ≤ l ∧ i = .int .i64 k ∧ p = .int .i64 b ∧ most ≤ b ∧ b ≤ 64000 ∧ (∀ y ∈ xs.take k, (ssLong n [y] : Int) ≤ b) ∧ Kept w2 wr) (fun _ i _ => l - (intOf i).toNat)
      case atStart => exact ⟨0, most, Nat.zero_le _, rfl, rfl, Int.le_refl _, by omega, by simp, Kept.refl _⟩
      case round =>
        obtain ⟨k, bd, hk, rfl, rfl, hmb, hb1, hall, hkw⟩ := hrel
        have HALL := Lib.hid hall
        have HKW := Lib.hid hkw
        have KW := Lib.hid (Kept.trans K2.out hkw)
        have q0 := Kept.cell hkw HP0.out
        have q1 := Kept.cell hkw HP1.out
        have q2 := Kept.cell hkw HP2.out
        clear hall hkw
        by_cases hlt : k < l
        · obtain ⟨b2, off2, y, hA, hy, cy⟩ := int_at (HI.out.kept KW.out) hlt
          have HLY := Lib.hid (HLO.out (some ⟨b2, off2 + k, none⟩) 1 (c - k) [y] wr.drew (Kept.drew KW.out) (by omega) (ints_one cy))
          have HLL := Lib.hid (show (ssLong n [y] : Int) ≤ 64000 by
            have := ssLong_le n [y]
            simp at this
            omega)
          have HYK := Lib.hid hy
          obtain ⟨ly, hly⟩ : ∃ ly : Nat, ly = ssLong n [y] := ⟨_, rfl⟩
          have HLYE := Lib.hid hly.symm
          rw [← hly] at HLY HLL
          clear hly
          have hlc : l ≤ c := HLC.out.1
          have hlc2 : c ≤ 9223372036854775807 := HLC.out.2
          have z0 : (0 : Int) ≤ (k : Int) := by omega
          have z1 : (k : Int) ≤ (k : Int) + 1 := by omega
          have z2 : (k : Int) + 1 ≤ (c : Int) := by omega
          have z3 : IntKind.i64.wrap ((k : Int) + 1) = (k : Int) + 1 := IntWalk.i64_in _ (by omega)
          have z4 : ((k : Int) + 1).toNat = k + 1 := by omega
          have z5 : k + 1 - k = 1 := by omega
          have z6 : ¬ (c = k) := by omega
          rw [hA]
          clear hy
          go_wp2_with fail
          go_region_held3 (fun w' => w'.cell? ⟨w.heap.size, 0, none⟩ = some (.slice s.Ac s.nc s.cc) ∧ w'.cell? ⟨w.heap.size, 1, none⟩ = some (.slice s.Am s.nm s.cm) ∧ w'.cell? ⟨w.heap.size, 2, none⟩ = some (.slice s.Ae s.ne s.ce)) (first | exact ⟨r0, r1, r2⟩ | exact ⟨q0, q1, q2⟩)
            (first
              | (go_at_call 13; refine HLY.out.mono ?_; rintro e w4 ⟨rfl, k4⟩; have r0 := Kept.cell k4 q0; have r1 := Kept.cell k4 q1; have r2 := Kept.cell k4 q2))
          have K4 := Lib.hid (Kept.trans (Kept.drew HKW.out) k4)
          go_wp2_with fail
          go_roundw
          case rel =>
            refine ⟨k + 1, max bd ly, by omega, by go_num, by go_num, by omega, by have := HLL.out; omega, fun z hz => ?_, K4.out⟩
            rw [take_succ_some HYK.out] at hz
            rcases List.mem_append.1 hz with e | e
            · have := HALL.out z e; omega
            · rw [List.mem_singleton.1 e, HLYE.out]; omega
          case measure => simp [intOf]; omega
        · obtain ⟨Bn, hBn⟩ : ∃ Bn : Nat, (Bn : Int) = bd := ⟨bd.toNat, by omega⟩
          have hfull : xs.take k = xs := List.take_of_length_le (by have := HXL.out; omega)
          have hfin := HBD.out Bn (by omega) (fun y hy => by have := HALL.out y (by rw [hfull]; exact hy); omega)
          have hfz : (ssLong n (ssText n most xs) : Int) ≤ bd := by omega
          have HT1 := Lib.hid (HT0.out A l c xs wr.drew (Kept.drew KW.out) (by omega) (HI.out.kept (Kept.drew KW.out)))
          have HL2 := Lib.hid (fun A' n' c' w' => HLO.out A' n' c' (ssText n most xs) w')
          generalize ssLong n (ssText n most xs) = ll at *
          generalize ssText n most xs = X at *
          clear hfull hfin hBn
          go_wp2_with fail
          go_region_held3 (fun w' => w'.cell? ⟨w.heap.size, 0, none⟩ = some (.slice s.Ac s.nc s.cc) ∧ w'.cell? ⟨w.heap.size, 1, none⟩ = some (.slice s.Am s.nm s.cm) ∧ w'.cell? ⟨w.heap.size, 2, none⟩ = some (.slice s.Ae s.ne s.ce)) (first | exact ⟨u0, u1, u2⟩ | exact ⟨t0, t1, t2⟩ | exact ⟨r0, r1, r2⟩ | exact ⟨q0, q1, q2⟩)
            (first
              | (go_at_call 7; refine (alive27 _ (HG.out.kept K5.out)).mono ?_; rintro e w6 ⟨rfl, k6⟩; have u0 := Kept.cell k6 t0; have u1 := Kept.cell k6 t1; have u2 := Kept.cell k6 t2)
              | (go_at_call 13; refine (HL2.out A4 n4 c4 _ K4.out (by rw [I4.out.1]; have := HLX.out; omega) I4.out).mono ?_; rintro e w5 ⟨rfl, k5⟩; have t0 := Kept.cell k5 r0; have t1 := Kept.cell k5 r1; have t2 := Kept.cell k5 r2; have K5 := Lib.hid (Kept.trans K4.out k5))
              | (go_at_call 8; refine HT1.out.mono ?_; rintro e w4 ⟨A4, n4, c4, rfl, le4, i4, k4⟩; have I4 := Lib.hid i4; clear i4; have r0 := Kept.cell k4 q0; have r1 := Kept.cell k4 q1; have r2 := Kept.cell k4 q2; have K4 := Lib.hid (Kept.trans (Kept.drew KW.out) k4)))
          go_wp2_with fail
          go_ret
          exact ⟨rfl, Kept.trans K5.out k6⟩
    · have hb0 : (ssCheck n most != 0) = true := by simp [h0]
      clear h0
      unfold Sls.val at *
      go_enter Tryd.func5, Tryd.ntmps5
      go_wp2_with fail
      refine HS.out.mono ?_
      rintro e w1 ⟨rfl, k1⟩
      have p0 := Kept.cell k1 HX0.out
      have p1 := Kept.cell k1 HX1.out
      have p2 := Kept.cell k1 HX2.out
      have K1 := Lib.hid (Kept.trans HK1.out k1)
      go_wp2_with fail
      refine (HCK.out _ K1.out).mono ?_
      rintro e w2 ⟨rfl, k2⟩
      have HA := Lib.hid (alive27 w2 (HG.out.kept (Kept.trans K1.out k2)))
      go_wp2_with fail
      refine HA.out.mono ?_
      rintro e w3 ⟨rfl, k3⟩
      go_wp2_with fail
      go_ret
      exact ⟨rfl, Kept.trans K1.out (Kept.trans k2 k3)⟩
end Go.Proofs.YtljkkfohlkhjnaaDoor
