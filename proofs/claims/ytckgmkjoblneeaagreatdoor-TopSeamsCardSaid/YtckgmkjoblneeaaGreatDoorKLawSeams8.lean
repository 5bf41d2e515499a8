/- top.TopSeams returns true. -/
import Derived.Deep.RegionHeld3
import Derived.Test.YtckgmkjoblneeaaGreatDoorKSq
import Derived.Test.YtckgmkjoblneeaaGreatDoorKTop
import Derived.Test.YtckgmkjoblneeaaGreatDoorKJoE
import Derived.Test.YtckgmkjoblneeaaGreatDoorKRefA
import Derived.Test.YtckgmkjoblneeaaGreatDoorKRgx
import Derived.Test.YtckgmkjoblneeaaGreatDoorKFew
namespace Go.Proofs.YtckgmkjoblneeaaGreatDoor
open Go Go.RowKit
theorem take_flat {T : List (List Int)} {i : Nat} {xs : List Int} (h : T[i]? = some xs) : (T.take (i + 1)).flatten = (T.take i).flatten ++ xs := by
  rw [take_succ_some h, List.flatten_append]
  simp
set_option maxRecDepth 100000 in
set_option maxHeartbeats 8000000 in
theorem law_seams8 (s : Sls) (n : Nrm) (form : Int) (B : Option Addr) (m e : Nat) (T : List (List Int)) (w : World) (hN : NormIn w s n) (_hx : I64 form) (hI : m ≤ e ∧ e ≤ 9223372036854775807 ∧ Tab w B m T ∧ ∀ xs ∈ T, xs.length ≤ 9223372036854775807) (hG : Glob w) : Calls Tryz.prog 3 #[s.val, .int .i64 form, .slice B m e] w (RetB w true) := by
  have hk0_ := Kept.alloc (Kept.refl w) (Obj.cells #[Value.slice s.Ac s.nc s.cc, Value.slice s.Am s.nm s.cm, Value.slice s.Ae s.ne s.ce] 28)
  have HK1 := Lib.hid hk0_
  have hb0_ := (box_block w (Obj.cells #[Value.slice s.Ac s.nc s.cc, Value.slice s.Am s.nm s.cm, Value.slice s.Ae s.ne s.ce] 28))
  have x0_ := cell_of_block (i := 0) hb0_ rfl
  have x1_ := cell_of_block (i := 1) hb0_ rfl
  have x2_ := cell_of_block (i := 2) hb0_ rfl
  simp only [s4_, s5_, s6_] at x0_ x1_ x2_
  have HX0 := Lib.hid x0_
  have HX1 := Lib.hid x1_
  have HX2 := Lib.hid x2_
  have HB0 := Lib.hid hb0_
  clear x0_ x1_ x2_ hb0_
  obtain ⟨hme, hbg, hT, hTL⟩ := hI
  have HS := Lib.hid (fun w' (hk : Kept w w') => r21small s n w' (hN.kept hk))
  have HAL := Lib.hid (fun w' (hk : Kept w w') => alive8 w' (hG.kept hk))
  have HN := Lib.hid hN
  have HG := Lib.hid hG
  have HT := Lib.hid hT
  have HTL := Lib.hid hTL
  clear hN hG hT hTL hk0_
  cases hsm : smallB n
  · rw [hsm] at HS
    clear hsm
    unfold Sls.val at *
    go_enter Tryz.func3, Tryz.ntmps3
    have p0 := HX0.out
    have p1 := HX1.out
    have p2 := HX2.out
    go_wp2_with fail
    refine (HS.out _ HK1.out).mono ?_
    rintro e w1 ⟨rfl, k1⟩
    clear p0 p1 p2
    have KB1 := Lib.hid (Kept.trans (Kept.refl (w.alloc (Obj.cells #[Value.slice s.Ac s.nc s.cc, Value.slice s.Am s.nm s.cm, Value.slice s.Ae s.ne s.ce] 28))) k1)
    go_wp2_with fail
    refine (HAL.out _ (Kept.trans HK1.out KB1.out)).mono ?_
    rintro e w2 ⟨rfl, k2⟩
    have KB2 := Lib.hid (Kept.trans KB1.out k2)
    go_wp2_with fail
    go_ret
    exact ⟨rfl, (Kept.trans HK1.out KB2.out)⟩
  · rw [hsm] at HS
    have HNA := Lib.hid (HN.out.small hsm)
    clear hsm HN
    by_cases hm5 : m ≤ 5
    · by_cases h1 : 1 ≤ form
      · by_cases h4 : form ≤ 4
        · have hm5i : (m : Int) ≤ 5 := by omega
          unfold Sls.val at *
          go_enter Tryz.func3, Tryz.ntmps3
          have p0 := HX0.out
          have p1 := HX1.out
          have p2 := HX2.out
          go_wp2_with fail
          refine (HS.out _ HK1.out).mono ?_
          rintro e w1 ⟨rfl, k1⟩
          clear p0 p1 p2
          have KB1 := Lib.hid (Kept.trans (Kept.refl (w.alloc (Obj.cells #[Value.slice s.Ac s.nc s.cc, Value.slice s.Am s.nm s.cm, Value.slice s.Ae s.ne s.ce] 28))) k1)
          obtain ⟨b0, hb0⟩ : ∃ b0 : Nat, b0 = w1.heap.size := ⟨_, rfl⟩
          have HB0_ := Lib.hid hb0
          clear hb0
          go_wp2_with fail
          go_loopw [7, 8, 30] (fun av ov iv wr => ∃ (i : Nat) (v : Value) (OA : Option Addr) (on oc : Nat), i ≤ m ∧ iv = .int .i64 i ∧ v = av ∧ OwnI wr b0 v (T.take i).flatten ∧ ov = .slice OA on oc ∧ on ≤ oc ∧ Ints wr OA on (formOf n form (T.take i).flatten) ∧ (∀ a g, OA = some a → v.ownBlock = some g → a.block ≠ g) ∧ (T.take i).flatten.length ≤ 6 * i ∧ Kept w1 wr) (fun _ _ iv _ => m - (intOf iv).toNat)
          case atStart => exact ⟨0, .slice none 0 0, none, 0, 0, Nat.zero_le _, rfl, rfl, (World.ownsRow_nil _ _ _ _ : OwnI w1 b0 (.slice none 0 0) []), rfl, Nat.le_refl _, (by rw [show (T.take 0).flatten = [] from rfl, seam_start]; exact Sl.nil), fun a g h => (by cases h), Nat.zero_le _, Kept.refl _⟩
          case round =>
            obtain ⟨i, v, OA, on, oc, hi, rfl, rfl, hown, rfl, hle, hO, hsep, hfl, hkw⟩ := hrel
            obtain ⟨X, hX⟩ : ∃ X, X = (T.take i).flatten := ⟨_, rfl⟩
            rw [← hX] at hown hO hfl
            have hon : on ≤ 10000 := by rw [hO.1]; have := formOf_length n form X; omega
            have KW := Lib.hid hkw
            have HO := Lib.hid hown
            have HOI := Lib.hid hO
            have HSEP := Lib.hid hsep
            have HXE := Lib.hid hX
            have hszw : w1.heap.size ≤ wr.heap.size := hkw.size
            have HXL := Lib.hid hfl
            clear hkw hown hO hsep hX hfl
            have KB2 := Lib.hid (Kept.trans KB1.out KW.out)
            by_cases hlt : i < m
            · obtain ⟨b, off, A, k, c, xs, rfl, hx, cx, hkc, hI⟩ := tab_at HT.out hlt
              have cx := Kept.cell (Kept.trans HK1.out KB2.out) cx
              have HTX := Lib.hid hx
              have HP := Lib.hid hI
              have hkx : k = xs.length := hI.1
              have hbig : k ≤ 9223372036854775807 := by rw [hkx]; exact HTL.out xs (List.mem_of_getElem? hx)
              have HKX := Lib.hid hkx
              have HF := Lib.hid (top_few A k c 6 wr hbig)
              clear hx hI hkx
              by_cases hk6 : k ≤ 6
              · have e6 : decide ((k : Int) ≤ 6) = true := decide_eq_true (by omega)
                rw [e6] at HF
                clear e6 hbig
                have p0 := Kept.cell KB2.out HX0.out
                have p1 := Kept.cell KB2.out HX1.out
                have p2 := Kept.cell KB2.out HX2.out
                go_wp2_with fail
                refine (HF.out).mono ?_
                rintro e w3 ⟨rfl, k3⟩
                clear p0 p1 p2
                have KB3 := Lib.hid (Kept.trans KB2.out k3)
                clear cx
                have HO3 := Lib.hid (show OwnI w3 b0 v X from (World.ownsRow.kept HO.out (row := none) ⟨k3.os, k3.tape, k3.output, k3.size, fun q hq _ => k3.block q hq⟩ (by cases h0 : v.ownBlock <;> simp)))
                have HXK := Lib.hid (show X.length + xs.length ≤ 1000000000 by have := HXL.out; have := HKX.out; omega)
                have hb3 : b0 ≤ w3.heap.size := by have := HB0_.out; have := k3.size; omega
                have HK3 := Lib.hid (Kept.trans KW.out k3)
                have HOI3 := Lib.hid (HOI.out.kept k3)
                go_wp2_with (at_builtin; refine app_ints rfl _ _ rfl b0 _ _ rfl HO3.out _ _ _ xs rfl (HP.out.kept (Kept.trans HK1.out KB3.out)) HXK.out hb3 ?_; intro v4 w4 hown4 hg4 hat4; have K4 := Lib.hid (show Kept w1 w4 from (HK3.out).grown hg4 HK3.out.size (fun q e => by have := (World.ownsRow.lt HO3.out q e).1; have := HB0_.out; omega)); have HO4 := Lib.hid hown4; have HOI4 := Lib.hid (Ints.grown HOI3.out hg4 (fun g e p hp => HSEP.out p g hp e)); clear hown4 hg4 hat4)
                have KB4 := Lib.hid (Kept.trans KB1.out K4.out)
                have HFM := Lib.hid (fun w' (hk : Kept w w') => form_any s n form A k c xs w' (HNA.out.kept hk) (HG.out.kept hk) (by omega) (HP.out.kept hk))
                have HFL := Lib.hid (show (formOf n form xs).length ≤ 10000 by have := formOf_length n form xs; have := HKX.out; omega)
                unfold Sls.val at HFM
                have HJ := Lib.hid (fun w' (hk : Kept w w') (A5 : Option Addr) (n5 c5 : Nat) (h1 : n5 ≤ 10000) (h2 : n5 ≤ c5) (h3 : Ints w' OA on (formOf n form X)) (h4 : Ints w' A5 n5 (formOf n form xs)) => joinP_far s n form OA on oc _ A5 n5 c5 _ w' (HNA.out.kept hk) (HG.out.kept hk) (by omega) (by omega) hle h2 h3 h4)
                simp only [seam_step] at HJ
                unfold Sls.val at HJ
                have p0 := Kept.cell KB4.out HX0.out
                have p1 := Kept.cell KB4.out HX1.out
                have p2 := Kept.cell KB4.out HX2.out
                refine wp_region_held_drew (S := (fun w' => w'.cell? ⟨w.heap.size, 0, none⟩ = some (.slice s.Ac s.nc s.cc) ∧ w'.cell? ⟨w.heap.size, 1, none⟩ = some (.slice s.Am s.nm s.cm) ∧ w'.cell? ⟨w.heap.size, 2, none⟩ = some (.slice s.Ae s.ne s.ce))) (by kernel_rfl) ⟨p0, p1, p2⟩ (fun hHeld => ?_)
                refine tk_ 0 ?_ rfl ?_; refine tk_ 1 ?_ rfl ?_; refine tk_ 2 ?_ rfl ?_; refine tk_ 3 ?_ rfl ?_; refine tk_ 4 ?_ rfl ?_; refine tk_ 5 ?_ rfl ?_
                refine rd_ 6 rfl (fun K hK => ?_)
                go_simp
                (refine (HFM.out _ (Kept.trans HK1.out (Kept.drew KB4.out))).mono ?_; rintro e w5 ⟨A5, n5, c5, rfl, le5, i5, k5⟩; have I5 := Lib.hid i5; have hn5 : n5 ≤ 10000 := (by rw [i5.1]; exact HFL.out); clear i5; have KB5 := Lib.hid (Kept.trans (Kept.drew KB4.out) k5))
                go_wp2_with fail
                refine hK.out _ _ ⟨Kept.cell KB5.out HX0.out, Kept.cell KB5.out HX1.out, Kept.cell KB5.out HX2.out⟩ (fun hHeld => ?_)
                clear hK K
                (try simp only [Act.put, s1_, s2_, s3_, s4_, s5_, s6_])
                refine rd_ 7 rfl (fun K hK => ?_)
                go_simp
                (refine (HJ.out _ (Kept.trans HK1.out KB5.out) A5 n5 c5 hn5 le5 (HOI4.out.kept (Kept.trans (Kept.drew (Kept.refl _)) k5)) I5.out).mono ?_; rintro e w6 ⟨A6, n6, c6, rfl, le6, i6, fr6, k6⟩; have I6 := Lib.hid i6; have FR6 := Lib.hid fr6; clear i6 fr6; have KB6 := Lib.hid (Kept.trans KB5.out k6))
                go_wp2_with fail
                refine hK.out _ _ ⟨Kept.cell KB6.out HX0.out, Kept.cell KB6.out HX1.out, Kept.cell KB6.out HX2.out⟩ (fun hHeld => ?_)
                clear hK K
                (try simp only [Act.put, s1_, s2_, s3_, s4_, s5_, s6_])
                refine tk_ 8 ?_ rfl ?_
                refine wpAnyH_done (by kernel_rfl) ?_ _
                clear p0 p1 p2
                have KK5 := Lib.hid (Kept.trans (Kept.drew (Kept.refl w4)) k5)
                have KK := Lib.hid (Kept.trans (Kept.trans (Kept.drew (Kept.refl _)) k5) k6)
                have HO5 := Lib.hid (show OwnI w5 b0 v4 (X ++ xs) from (World.ownsRow.kept HO4.out (row := none) ⟨KK5.out.os, KK5.out.tape, KK5.out.output, KK5.out.size, fun q hq _ => KK5.out.block q hq⟩ (by cases h0 : v4.ownBlock <;> simp)))
                have HO6 := Lib.hid (show OwnI w6 b0 v4 (X ++ xs) from (World.ownsRow.kept HO5.out (row := none) ⟨k6.os, k6.tape, k6.output, k6.size, fun q hq _ => k6.block q hq⟩ (by cases h0 : v4.ownBlock <;> simp)))
                have HEQ := Lib.hid (show (T.take (i + 1)).flatten = X ++ xs by rw [take_flat HTX.out, ← HXE.out])
                go_wp2_with fail
                go_roundw
                case rel => exact ⟨i + 1, v4, A6, n6, c6, hlt, by go_num, rfl, by rw [HEQ.out]; exact HO6.out, rfl, le6, by rw [HEQ.out]; exact I6.out, fun a g ha hg => by have := FR6.out a ha; have := (World.ownsRow.lt HO5.out g hg).2; omega, by rw [HEQ.out, List.length_append]; have := HXL.out; have := HKX.out; omega, Kept.trans K4.out KK.out⟩
                case measure => simp [intOf]; omega
              · have e6 : decide ((k : Int) ≤ 6) = false := decide_eq_false (by omega)
                rw [e6] at HF
                clear e6
                have p0 := Kept.cell KB2.out HX0.out
                have p1 := Kept.cell KB2.out HX1.out
                have p2 := Kept.cell KB2.out HX2.out
                go_wp2_with fail
                refine (HF.out).mono ?_
                rintro e w3 ⟨rfl, k3⟩
                clear p0 p1 p2
                have KB3 := Lib.hid (Kept.trans KB2.out k3)
                go_wp2_with fail
                refine (HAL.out _ (Kept.trans HK1.out KB3.out)).mono ?_
                rintro e w4 ⟨rfl, k4⟩
                have KB4 := Lib.hid (Kept.trans KB3.out k4)
                go_wp2_with fail
                exact bodyPost_ret (v := .bool true) (by simp [results, Tryz.results3, go_sem]) rfl ⟨rfl, (Kept.trans HK1.out KB4.out)⟩
            · have him : i = m := by omega
              have HTK := Lib.hid (show X = T.flatten by rw [HXE.out, List.take_of_length_le (by have := HT.out.1; omega)])
              obtain ⟨AA, ca, rfl, hlea, hIA⟩ := OwnI.sl HO.out
              obtain ⟨la, hla⟩ : ∃ la, la = X.length := ⟨_, rfl⟩
              have hl30 : la ≤ 100 := by have := HXL.out; omega
              rw [← hla] at hlea hIA ⊢
              have HIA := Lib.hid hIA
              have HLA := Lib.hid hla
              clear hla hIA HO HSEP
              have HFL := Lib.hid (show (formOf n form X).length ≤ 10000 by have := formOf_length n form X; have := HLA.out; omega)
              have HFM := Lib.hid (form_any s n form AA la ca X wr (HNA.out.kept (Kept.trans HK1.out KB2.out)) (HG.out.kept (Kept.trans HK1.out KB2.out)) (by omega) HIA.out)
              unfold Sls.val at HFM
              subst him
              have p0 := Kept.cell KB2.out HX0.out
              have p1 := Kept.cell KB2.out HX1.out
              have p2 := Kept.cell KB2.out HX2.out
              go_wp2_with fail
              refine (HFM.out).mono ?_
              rintro e w3 ⟨A3, n3, c3, rfl, le3, i3, k3⟩
              have I3 := Lib.hid i3
              have hn3 : n3 ≤ 10000 := (by rw [i3.1]; exact HFL.out)
              clear i3
              clear p0 p1 p2
              have KB3 := Lib.hid (Kept.trans KB2.out k3)
              have HEQ := Lib.hid (top_equal OA A3 on n3 oc c3 _ _ w3 (by omega) (by omega) (HOI.out.kept k3) I3.out)
              rw [show decide (formOf n form X = formOf n form X) = true from decide_eq_true rfl] at HEQ
              go_wp2_with fail
              refine (HEQ.out).mono ?_
              rintro e w4 ⟨rfl, k4⟩
              have KB4 := Lib.hid (Kept.trans KB3.out k4)
              go_wp2_with fail
              refine (HAL.out _ (Kept.trans HK1.out KB4.out)).mono ?_
              rintro e w5 ⟨rfl, k5⟩
              have KB5 := Lib.hid (Kept.trans KB4.out k5)
              go_wp2_with fail
              go_ret
              exact ⟨rfl, (Kept.trans HK1.out KB5.out)⟩
        · have h5 : 4 < form := by omega
          unfold Sls.val at *
          go_enter Tryz.func3, Tryz.ntmps3
          have p0 := HX0.out
          have p1 := HX1.out
          have p2 := HX2.out
          go_wp2_with fail
          refine (HS.out _ HK1.out).mono ?_
          rintro e w1 ⟨rfl, k1⟩
          clear p0 p1 p2
          have KB1 := Lib.hid (Kept.trans (Kept.refl (w.alloc (Obj.cells #[Value.slice s.Ac s.nc s.cc, Value.slice s.Am s.nm s.cm, Value.slice s.Ae s.ne s.ce] 28))) k1)
          go_wp2_with fail
          refine (HAL.out _ (Kept.trans HK1.out KB1.out)).mono ?_
          rintro e w2 ⟨rfl, k2⟩
          have KB2 := Lib.hid (Kept.trans KB1.out k2)
          go_wp2_with fail
          go_ret
          exact ⟨rfl, (Kept.trans HK1.out KB2.out)⟩
      · have h5 : form < 1 := by omega
        unfold Sls.val at *
        go_enter Tryz.func3, Tryz.ntmps3
        have p0 := HX0.out
        have p1 := HX1.out
        have p2 := HX2.out
        go_wp2_with fail
        refine (HS.out _ HK1.out).mono ?_
        rintro e w1 ⟨rfl, k1⟩
        clear p0 p1 p2
        have KB1 := Lib.hid (Kept.trans (Kept.refl (w.alloc (Obj.cells #[Value.slice s.Ac s.nc s.cc, Value.slice s.Am s.nm s.cm, Value.slice s.Ae s.ne s.ce] 28))) k1)
        go_wp2_with fail
        refine (HAL.out _ (Kept.trans HK1.out KB1.out)).mono ?_
        rintro e w2 ⟨rfl, k2⟩
        have KB2 := Lib.hid (Kept.trans KB1.out k2)
        go_wp2_with fail
        go_ret
        exact ⟨rfl, (Kept.trans HK1.out KB2.out)⟩
    · have h5 : 5 < m := by omega
      have h6 : (5 : Int) < (m : Int) := by omega
      unfold Sls.val at *
      go_enter Tryz.func3, Tryz.ntmps3
      have p0 := HX0.out
      have p1 := HX1.out
      have p2 := HX2.out
      go_wp2_with fail
      refine (HS.out _ HK1.out).mono ?_
      rintro e w1 ⟨rfl, k1⟩
      clear p0 p1 p2
      have KB1 := Lib.hid (Kept.trans (Kept.refl (w.alloc (Obj.cells #[Value.slice s.Ac s.nc s.cc, Value.slice s.Am s.nm s.cm, Value.slice s.Ae s.ne s.ce] 28))) k1)
      go_wp2_with fail
      refine (HAL.out _ (Kept.trans HK1.out KB1.out)).mono ?_
      rintro e w2 ⟨rfl, k2⟩
      have KB2 := Lib.hid (Kept.trans KB1.out k2)
      go_wp2_with fail
      go_ret
      exact ⟨rfl, (Kept.trans HK1.out KB2.out)⟩
end Go.Proofs.YtckgmkjoblneeaaGreatDoor
