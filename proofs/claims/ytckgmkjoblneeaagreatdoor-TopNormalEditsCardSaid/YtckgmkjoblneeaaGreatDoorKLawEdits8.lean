/- top.TopNormalEdits returns true. -/
import Derived.Deep.RegionHeld3
import Derived.Test.YtckgmkjoblneeaaGreatDoorKSq
import Derived.Test.YtckgmkjoblneeaaGreatDoorKTop
import Derived.Test.YtckgmkjoblneeaaGreatDoorKEdt
import Derived.Test.YtckgmkjoblneeaaGreatDoorKJoD
import Derived.Test.YtckgmkjoblneeaaGreatDoorKEdS
import Derived.Test.YtckgmkjoblneeaaGreatDoorKFew
namespace Go.Proofs.YtckgmkjoblneeaaGreatDoor
open Go Go.RowKit
theorem repl_ok8 {w : World} {n : Nrm} {form : Int} {text : List Int} {p d : Nat} {ins : List Int} {e : Ending} {w' : World} (hf : ¬ (form < 1 ∨ 4 < form)) (hn : formOf n form text = text) (hp : p + d ≤ text.length) (h : RetRepl w n form text (p : Int) (d : Int) ins e w') :
    ∃ Q k c, ∃ lo hi : Int, e = .returned (.tuple #[.slice Q k c, .agg #[.int .i64 lo, .int .i64 hi], .int .i64 0]) ∧ k ≤ c ∧ Ints w' Q k (formOf n form (editP text p d ins)) ∧ Kept w w' := by
  unfold RetRepl at h
  rw [if_neg hf, if_neg (by omega), show ((p : Int) + (d : Int)).toNat = p + d by omega, Int.toNat_natCast, edit_next n hf hn p d ins] at h
  obtain ⟨Q, k, c, he, hle, hI, _, hk⟩ := h
  exact ⟨Q, k, c, _, _, he, hle, hI, hk⟩
theorem repl_bad8 {w : World} {n : Nrm} {form : Int} {text : List Int} {ea ed : Int} {ins : List Int} {e : Ending} {w' : World} (hf : ¬ (form < 1 ∨ 4 < form)) (hb : ea < 0 ∨ ed < 0 ∨ (text.length : Int) < ea ∨ (text.length : Int) - ea < ed) (h : RetRepl w n form text ea ed ins e w') :
    e = .returned (.tuple #[.slice none 0 0, .agg #[.int .i64 0, .int .i64 0], .int .i64 1]) ∧ Kept w w' := by
  unfold RetRepl at h
  rw [if_neg hf, if_pos hb] at h
  exact h
theorem editP_length (text : List Int) (p d : Nat) (ins : List Int) : (editP text p d ins).length ≤ 2 * text.length + ins.length := by
  unfold editP
  rw [List.length_append, List.length_append, List.length_take, List.length_drop]
  omega
set_option maxRecDepth 100000 in
set_option maxHeartbeats 8000000 in
theorem law_edits8 (s : Sls) (n : Nrm) (form : Int) (A : Option Addr) (l c : Nat) (xs : List Int) (B : Option Addr) (m e : Nat) (E : List Ed) (w : World) (hN : NormIn w s n) (_hx : I64 form) (hI : l ≤ c ∧ c ≤ 9223372036854775807 ∧ Ints w A l xs) (hE : m ≤ e ∧ e ≤ 9223372036854775807 ∧ Eds w B m E ∧ ∀ x ∈ E, x.ins.length ≤ 9223372036854775807 ∧ I64 x.pos ∧ I64 x.del) (hG : Glob w) : Calls Tryz.prog 4 #[s.val, .int .i64 form, .agg #[.slice A l c, .slice B m e]] w (RetB w true) := by
  have hk0_ := Kept.alloc (Kept.refl w) (Obj.cells #[Value.slice s.Ac s.nc s.cc, Value.slice s.Am s.nm s.cm, Value.slice s.Ae s.ne s.ce] 28)
  have hk1_ := Kept.alloc hk0_ (Obj.cells #[Value.slice A l c, Value.slice B m e] 40)
  have HK1 := Lib.hid hk1_
  have hb0_ := (alloc_lift (o := (Obj.cells #[Value.slice A l c, Value.slice B m e] 40)) (box_block w (Obj.cells #[Value.slice s.Ac s.nc s.cc, Value.slice s.Am s.nm s.cm, Value.slice s.Ae s.ne s.ce] 28)))
  have x0_ := cell_of_block (i := 0) hb0_ rfl
  have x1_ := cell_of_block (i := 1) hb0_ rfl
  have x2_ := cell_of_block (i := 2) hb0_ rfl
  have hb1_ := (box_block (w.alloc (Obj.cells #[Value.slice s.Ac s.nc s.cc, Value.slice s.Am s.nm s.cm, Value.slice s.Ae s.ne s.ce] 28)) (Obj.cells #[Value.slice A l c, Value.slice B m e] 40))
  simp only [World.size_alloc] at hb1_
  have x3_ := cell_of_block (i := 0) hb1_ rfl
  have x4_ := cell_of_block (i := 1) hb1_ rfl
  simp only [s4_, s5_, s6_] at x0_ x1_ x2_ x3_ x4_
  have HX0 := Lib.hid x0_
  have HX1 := Lib.hid x1_
  have HX2 := Lib.hid x2_
  have HX3 := Lib.hid x3_
  have HX4 := Lib.hid x4_
  have HB0 := Lib.hid hb0_
  have HB1 := Lib.hid hb1_
  clear x0_ x1_ x2_ x3_ x4_ hb0_ hb1_
  obtain ⟨hlc, hcb, hI⟩ := hI
  obtain ⟨hme, hbg, hE, hEL⟩ := hE
  have HS := Lib.hid (fun w' (hk : Kept w w') => r21small s n w' (hN.kept hk))
  have HAL := Lib.hid (fun w' (hk : Kept w w') => alive8 w' (hG.kept hk))
  have HFW := Lib.hid (fun w' => top_few A l c 10 w' (by omega))
  have HN := Lib.hid hN
  have HG := Lib.hid hG
  have HT := Lib.hid hI
  have HTL := Lib.hid hI.1
  have HE := Lib.hid hE
  have HEL := Lib.hid (fun x hx => (hEL x hx).1)
  clear hN hG hI hE hEL hk0_ hk1_
  cases hsm : smallB n
  · rw [hsm] at HS
    clear hsm
    unfold Sls.val at *
    go_enter Tryz.func4, Tryz.ntmps4
    have p0 := HX0.out
    have p1 := HX1.out
    have p2 := HX2.out
    have p3 := HX3.out
    have p4 := HX4.out
    go_wp2_with fail
    refine wp_region_held_drew (S := (fun w' => w'.cell? ⟨w.heap.size, 0, none⟩ = some (.slice s.Ac s.nc s.cc) ∧ w'.cell? ⟨w.heap.size, 1, none⟩ = some (.slice s.Am s.nm s.cm) ∧ w'.cell? ⟨w.heap.size, 2, none⟩ = some (.slice s.Ae s.ne s.ce) ∧ w'.cell? ⟨w.heap.size + 1, 0, none⟩ = some (.slice A l c) ∧ w'.cell? ⟨w.heap.size + 1, 1, none⟩ = some (.slice B m e))) (by kernel_rfl) ⟨p0, p1, p2, p3, p4⟩ (fun hHeld => ?_)
    refine tk_ 0 ?_ rfl ?_; refine tk_ 1 ?_ rfl ?_; refine tk_ 2 ?_ rfl ?_; refine tk_ 3 ?_ rfl ?_; refine tk_ 4 ?_ rfl ?_; refine tk_ 5 ?_ rfl ?_
    refine wpAnyH_done (by kernel_rfl) ?_ _
    clear p0 p1 p2 p3 p4
    have KB1 := Lib.hid (Kept.trans (Kept.refl ((w.alloc (Obj.cells #[Value.slice s.Ac s.nc s.cc, Value.slice s.Am s.nm s.cm, Value.slice s.Ae s.ne s.ce] 28)).alloc (Obj.cells #[Value.slice A l c, Value.slice B m e] 40))) (Kept.drew (Kept.refl _)))
    have p0 := Kept.cell KB1.out HX0.out
    have p1 := Kept.cell KB1.out HX1.out
    have p2 := Kept.cell KB1.out HX2.out
    have p3 := Kept.cell KB1.out HX3.out
    have p4 := Kept.cell KB1.out HX4.out
    go_wp2_with fail
    refine (HS.out _ (Kept.trans HK1.out KB1.out)).mono ?_
    rintro e w2 ⟨rfl, k2⟩
    clear p0 p1 p2 p3 p4
    have KB2 := Lib.hid (Kept.trans KB1.out k2)
    go_wp2_with fail
    refine (HAL.out _ (Kept.trans HK1.out KB2.out)).mono ?_
    rintro e w3 ⟨rfl, k3⟩
    have KB3 := Lib.hid (Kept.trans KB2.out k3)
    go_wp2_with fail
    go_ret
    exact ⟨rfl, (Kept.trans HK1.out KB3.out)⟩
  · rw [hsm] at HS
    have HNA := Lib.hid (HN.out.small hsm)
    clear hsm HN
    by_cases hm5 : m ≤ 5
    · have hm5i : (m : Int) ≤ 5 := by omega
      by_cases hl10 : l ≤ 10
      · rw [show decide ((l : Int) ≤ 10) = true from decide_eq_true (by omega)] at HFW
        by_cases h1 : 1 ≤ form
        · by_cases h4 : form ≤ 4
          · have hf : ¬ (form < 1 ∨ 4 < form) := by omega
            have HFF := Lib.hid hf
            clear hf
            have HFM := Lib.hid (fun w' (hk : Kept w w') => form_any s n form A l c xs w' (HNA.out.kept hk) (HG.out.kept hk) (by omega) (HT.out.kept hk))
            have HFL := Lib.hid (show (formOf n form xs).length ≤ 10000 by have := formOf_length n form xs; have := HTL.out; omega)
            have HRA := Lib.hid (fun (Q : Option Addr) (k q : Nat) (t : List Int) (a d : Int) (I : Option Addr) (ni ci : Nat) (ins : List Int) (w' : World) (hk : Kept w w') (h1 : k ≤ 10000) (h2 : ni ≤ 10000) (h3 : k ≤ q) (h4 : ni ≤ ci) (h5 : Ints w' Q k t) (h6 : Ints w' I ni ins) => replace_any s n form Q k q t a d I ni ci ins w' (HNA.out.kept hk) (HG.out.kept hk) (by omega) (by omega) h3 h4 h5 h6)
            have HFA := Lib.hid (fun (Q : Option Addr) (k q : Nat) (t : List Int) (w' : World) (hk : Kept w w') (h1 : k ≤ 10000) (h5 : Ints w' Q k t) => form_any s n form Q k q t w' (HNA.out.kept hk) (HG.out.kept hk) (by omega) h5)
            have HIA := Lib.hid (fun (Q : Option Addr) (k q : Nat) (t : List Int) (w' : World) (hk : Kept w w') (h1 : k ≤ 10000) (h5 : Ints w' Q k t) (h6 : formOf n form t = t) => (nis_any s n form Q k q t w' (HNA.out.kept hk) (HG.out.kept hk) (by omega) h5).mono (fun e w'' h => show RetB w' true e w'' by rw [decide_eq_true h6] at h; exact h))
            unfold Sls.val at HFM HRA HFA HIA
            unfold Sls.val at *
            go_enter Tryz.func4, Tryz.ntmps4
            have p0 := HX0.out
            have p1 := HX1.out
            have p2 := HX2.out
            have p3 := HX3.out
            have p4 := HX4.out
            go_wp2_with fail
            refine wp_region_held_drew (S := (fun w' => w'.cell? ⟨w.heap.size, 0, none⟩ = some (.slice s.Ac s.nc s.cc) ∧ w'.cell? ⟨w.heap.size, 1, none⟩ = some (.slice s.Am s.nm s.cm) ∧ w'.cell? ⟨w.heap.size, 2, none⟩ = some (.slice s.Ae s.ne s.ce) ∧ w'.cell? ⟨w.heap.size + 1, 0, none⟩ = some (.slice A l c) ∧ w'.cell? ⟨w.heap.size + 1, 1, none⟩ = some (.slice B m e))) (by kernel_rfl) ⟨p0, p1, p2, p3, p4⟩ (fun hHeld => ?_)
            refine tk_ 0 ?_ rfl ?_; refine tk_ 1 ?_ rfl ?_; refine tk_ 2 ?_ rfl ?_; refine tk_ 3 ?_ rfl ?_; refine tk_ 4 ?_ rfl ?_; refine tk_ 5 ?_ rfl ?_
            refine wpAnyH_done (by kernel_rfl) ?_ _
            clear p0 p1 p2 p3 p4
            have KB1 := Lib.hid (Kept.trans (Kept.refl ((w.alloc (Obj.cells #[Value.slice s.Ac s.nc s.cc, Value.slice s.Am s.nm s.cm, Value.slice s.Ae s.ne s.ce] 28)).alloc (Obj.cells #[Value.slice A l c, Value.slice B m e] 40))) (Kept.drew (Kept.refl _)))
            have p0 := Kept.cell KB1.out HX0.out
            have p1 := Kept.cell KB1.out HX1.out
            have p2 := Kept.cell KB1.out HX2.out
            have p3 := Kept.cell KB1.out HX3.out
            have p4 := Kept.cell KB1.out HX4.out
            go_wp2_with fail
            refine (HS.out _ (Kept.trans HK1.out KB1.out)).mono ?_
            rintro e w2 ⟨rfl, k2⟩
            clear p0 p1 p2 p3 p4
            have KB2 := Lib.hid (Kept.trans KB1.out k2)
            go_wp2_with fail
            refine (HFW.out _).mono ?_
            rintro e w3 ⟨rfl, k3⟩
            have KB3 := Lib.hid (Kept.trans KB2.out k3)
            have p0 := Kept.cell KB3.out HX0.out
            have p1 := Kept.cell KB3.out HX1.out
            have p2 := Kept.cell KB3.out HX2.out
            have p3 := Kept.cell KB3.out HX3.out
            have p4 := Kept.cell KB3.out HX4.out
            go_wp2_with fail
            refine (HFM.out _ (Kept.trans HK1.out KB3.out)).mono ?_
            rintro e w4 ⟨A4, n4, c4, rfl, le4, i4, k4⟩
            have I4 := Lib.hid i4
            have hn4 : n4 ≤ 10000 := (by rw [i4.1]; exact HFL.out)
            clear i4
            clear p0 p1 p2 p3 p4
            have KB4 := Lib.hid (Kept.trans KB3.out k4)
            obtain ⟨N0, hN0⟩ : ∃ N0, N0 = formOf n form xs := ⟨_, rfl⟩
            have HI0 := Lib.hid (show Ints w4 A4 n4 N0 by rw [hN0]; exact I4.out)
            have HF0 := Lib.hid (show formOf n form N0 = N0 by rw [hN0]; exact form_again n form xs)
            have HL0 := Lib.hid (show flatLen n (cpOf form) N0 ≤ 640 by rw [hN0, flat_form n HFF.out]; have := flatLen_le n (cpOf form) xs; have := HTL.out; omega)
            clear hN0
            go_wp2_with fail
            go_loopw [9, 49] (fun nv iv wr => ∃ (i : Nat) (Q : Option Addr) (k q : Nat) (t : List Int), i ≤ m ∧ iv = .int .i64 i ∧ nv = .slice Q k q ∧ k ≤ q ∧ Ints wr Q k t ∧ formOf n form t = t ∧ flatLen n (cpOf form) t ≤ 640 + 384 * i ∧ Kept w4 wr) (fun _ iv _ => m - (intOf iv).toNat)
            case atStart => exact ⟨0, A4, n4, c4, N0, Nat.zero_le _, rfl, rfl, le4, HI0.out, HF0.out, HL0.out, Kept.refl _⟩
            case round =>
              obtain ⟨i, Q, k, q, t, hi, rfl, rfl, hkq, hQ, hft, hfl, hkw⟩ := hrel
              have hkt : k = t.length := hQ.1
              have hk4 : k ≤ 4000 := by have h9 := form_flat n HFF.out t; rw [hft] at h9; omega
              have KW := Lib.hid hkw
              have HQ := Lib.hid hQ
              have HFT := Lib.hid hft
              have HFLT := Lib.hid hfl
              have HKT := Lib.hid hkt
              clear hkw hQ hft hfl hkt
              have KB5 := Lib.hid (Kept.trans KB4.out KW.out)
              by_cases hlt : i < m
              · obtain ⟨b, off, ⟨ea, ed, ins⟩, I, ni, ci, rfl, hx, hni, hII, cx0, cx1, cx2⟩ := ed_at HE.out hlt
                dsimp only at hII cx0 cx1 cx2
                have cx0 := Kept.cell (Kept.trans HK1.out KB5.out) cx0
                have cx1 := Kept.cell (Kept.trans HK1.out KB5.out) cx1
                have cx2 := Kept.cell (Kept.trans HK1.out KB5.out) cx2
                have hbig : ni ≤ 9223372036854775807 := by rw [hII.1]; exact HEL.out _ (List.mem_of_getElem? hx)
                have HII := Lib.hid hII
                clear hx hII
                have HSM := Lib.hid (fun w' => top_small ea ed I ni ci w' hbig)
                by_cases hn6 : ni ≤ 6
                · rw [show decide (ni ≤ 40) = true from decide_eq_true (by omega)] at HSM
                  have hn6i : (ni : Int) ≤ 6 := by omega
                  clear hbig
                  by_cases hb : ea < 0 ∨ ed < 0 ∨ (k : Int) < ea ∨ (k : Int) - ea < ed
                  · have HBB := Lib.hid hb
                    clear hb
                    have p0 := Kept.cell KB5.out HX0.out
                    have p1 := Kept.cell KB5.out HX1.out
                    have p2 := Kept.cell KB5.out HX2.out
                    have p3 := Kept.cell KB5.out HX3.out
                    have p4 := Kept.cell KB5.out HX4.out
                    go_wp2_with fail
                    clear p0 p1 p2 p3 p4
                    clear cx0 cx1 cx2
                    have he_ := box_block wr (Obj.cells #[Value.int IntKind.i64 ea, Value.int IntKind.i64 ed, Value.slice I ni ci] 42)
                    have e0_ := cell_of_block (i := 0) he_ rfl
                    have e1_ := cell_of_block (i := 1) he_ rfl
                    have e2_ := cell_of_block (i := 2) he_ rfl
                    simp only [s4_, s5_, s6_] at e0_ e1_ e2_
                    have HE0 := Lib.hid e0_
                    have HE1 := Lib.hid e1_
                    have HE2 := Lib.hid e2_
                    clear he_ e0_ e1_ e2_
                    have KB6 := Lib.hid (Kept.trans KB5.out (Kept.alloc (Kept.refl wr) (Obj.cells #[Value.int IntKind.i64 ea, Value.int IntKind.i64 ed, Value.slice I ni ci] 42)))
                    refine (HSM.out _).mono ?_
                    rintro e w7 ⟨rfl, k7⟩
                    have KB7 := Lib.hid (Kept.trans KB6.out k7)
                    have HAP := Lib.hid (fun w' => ed_apply_bad ea ed I ni ci Q k q w' (by omega) HBB.out)
                    have HRP := Lib.hid (fun w' (hk : Kept w w') (h5 : Ints w' Q k t) (h6 : Ints w' I ni ins) => (HRA.out Q k q t ea ed I ni ci ins w' hk (by omega) (by omega) hkq hni h5 h6).mono (fun e w'' h => repl_bad8 HFF.out (by rw [← HKT.out]; exact HBB.out) h))
                    have p0 := Kept.cell KB7.out HX0.out
                    have p1 := Kept.cell KB7.out HX1.out
                    have p2 := Kept.cell KB7.out HX2.out
                    have p3 := Kept.cell KB7.out HX3.out
                    have p4 := Kept.cell KB7.out HX4.out
                    have p5 := Kept.cell k7 HE0.out
                    have p6 := Kept.cell k7 HE1.out
                    have p7 := Kept.cell k7 HE2.out
                    go_wp2_with fail
                    refine (HAP.out _).mono ?_
                    rintro e w8 ⟨rfl, k8⟩
                    clear p0 p1 p2 p3 p4 p5 p6 p7
                    have KB8 := Lib.hid (Kept.trans KB7.out k8)
                    have p0 := Kept.cell KB8.out HX0.out
                    have p1 := Kept.cell KB8.out HX1.out
                    have p2 := Kept.cell KB8.out HX2.out
                    have p3 := Kept.cell KB8.out HX3.out
                    have p4 := Kept.cell KB8.out HX4.out
                    have p5 := Kept.cell (Kept.trans k7 k8) HE0.out
                    have p6 := Kept.cell (Kept.trans k7 k8) HE1.out
                    have p7 := Kept.cell (Kept.trans k7 k8) HE2.out
                    go_wp2_with fail
                    refine (HRP.out _ (Kept.trans HK1.out KB8.out) (HQ.out.kept (Kept.trans (Kept.alloc (Kept.refl wr) (Obj.cells #[Value.int IntKind.i64 ea, Value.int IntKind.i64 ed, Value.slice I ni ci] 42)) (Kept.trans k7 k8))) (HII.out.kept (Kept.trans HK1.out KB8.out))).mono ?_
                    rintro e w9 ⟨rfl, k9⟩
                    clear p0 p1 p2 p3 p4 p5 p6 p7
                    have KB9 := Lib.hid (Kept.trans KB8.out k9)
                    have p0 := Kept.cell KB9.out HX0.out
                    have p1 := Kept.cell KB9.out HX1.out
                    have p2 := Kept.cell KB9.out HX2.out
                    have p3 := Kept.cell KB9.out HX3.out
                    have p4 := Kept.cell KB9.out HX4.out
                    have p5 := Kept.cell (Kept.trans k7 (Kept.trans k8 k9)) HE0.out
                    have p6 := Kept.cell (Kept.trans k7 (Kept.trans k8 k9)) HE1.out
                    have p7 := Kept.cell (Kept.trans k7 (Kept.trans k8 k9)) HE2.out
                    go_wp2_with fail
                    clear p0 p1 p2 p3 p4 p5 p6 p7
                    have KB10 := Lib.hid (Kept.trans KB9.out (Kept.alloc (Kept.refl _) (Obj.cells #[Value.int IntKind.i64 0, Value.int IntKind.i64 0] 48)))
                    go_roundw
                    case rel => exact ⟨i + 1, Q, k, q, t, hlt, by go_num, rfl, hkq, HQ.out.kept (Kept.trans (Kept.alloc (Kept.refl wr) (Obj.cells #[Value.int IntKind.i64 ea, Value.int IntKind.i64 ed, Value.slice I ni ci] 42)) (Kept.trans k7 (Kept.trans k8 (Kept.trans k9 (Kept.alloc (Kept.refl _) (Obj.cells #[Value.int IntKind.i64 0, Value.int IntKind.i64 0] 48)))))), HFT.out, by have := HFLT.out; omega, Kept.trans KW.out (Kept.trans (Kept.alloc (Kept.refl wr) (Obj.cells #[Value.int IntKind.i64 ea, Value.int IntKind.i64 ed, Value.slice I ni ci] 42)) (Kept.trans k7 (Kept.trans k8 (Kept.trans k9 (Kept.alloc (Kept.refl _) (Obj.cells #[Value.int IntKind.i64 0, Value.int IntKind.i64 0] 48))))))⟩
                    case measure => simp [intOf]; omega
                  · have h1e : 0 ≤ ea := by omega
                    have h2e : 0 ≤ ed := by omega
                    obtain ⟨p, rfl⟩ := Int.eq_ofNat_of_zero_le h1e
                    obtain ⟨d, rfl⟩ := Int.eq_ofNat_of_zero_le h2e
                    have hp : p + d ≤ k := by omega
                    clear hb h1e h2e
                    have p0 := Kept.cell KB5.out HX0.out
                    have p1 := Kept.cell KB5.out HX1.out
                    have p2 := Kept.cell KB5.out HX2.out
                    have p3 := Kept.cell KB5.out HX3.out
                    have p4 := Kept.cell KB5.out HX4.out
                    go_wp2_with fail
                    clear p0 p1 p2 p3 p4
                    clear cx0 cx1 cx2
                    have he_ := box_block wr (Obj.cells #[Value.int IntKind.i64 (p : Int), Value.int IntKind.i64 (d : Int), Value.slice I ni ci] 42)
                    have e0_ := cell_of_block (i := 0) he_ rfl
                    have e1_ := cell_of_block (i := 1) he_ rfl
                    have e2_ := cell_of_block (i := 2) he_ rfl
                    simp only [s4_, s5_, s6_] at e0_ e1_ e2_
                    have HE0 := Lib.hid e0_
                    have HE1 := Lib.hid e1_
                    have HE2 := Lib.hid e2_
                    clear he_ e0_ e1_ e2_
                    have KB6 := Lib.hid (Kept.trans KB5.out (Kept.alloc (Kept.refl wr) (Obj.cells #[Value.int IntKind.i64 (p : Int), Value.int IntKind.i64 (d : Int), Value.slice I ni ci] 42)))
                    refine (HSM.out _).mono ?_
                    rintro e w7 ⟨rfl, k7⟩
                    have KB7 := Lib.hid (Kept.trans KB6.out k7)
                    have HNL := Lib.hid (show (editP t p d ins).length ≤ 10000 by have := editP_length t p d ins; have := HKT.out; have := HII.out.1; omega)
                    have HXL := Lib.hid (show (formOf n form (editP t p d ins)).length ≤ 10000 by have h8 := form_flat n HFF.out (editP t p d ins); have h9 := editP_flat n (cpOf form) t p d ins; have := flatLen_le n (cpOf form) ins; have := HFLT.out; have := HII.out.1; omega)
                    have HNX := Lib.hid (show flatLen n (cpOf form) (formOf n form (editP t p d ins)) ≤ 640 + 384 * (i + 1) by have := edit_flat n HFF.out t p d ins; have := HFLT.out; have := HII.out.1; omega)
                    have HAP := Lib.hid (fun w' (h5 : Ints w' Q k t) (h6 : Ints w' I ni ins) => ed_apply_ok p d I ni ci ins Q k q t w' (by omega) (by omega) hkq hp h5 h6)
                    rw [show t.take p ++ (ins ++ t.drop (p + d)) = editP t p d ins by unfold editP; rw [List.append_assoc]] at HAP
                    have HRP := Lib.hid (fun w' (hk : Kept w w') (h5 : Ints w' Q k t) (h6 : Ints w' I ni ins) => (HRA.out Q k q t (p : Int) (d : Int) I ni ci ins w' hk (by omega) (by omega) hkq hni h5 h6).mono (fun e w'' h => repl_ok8 HFF.out HFT.out (by rw [← HKT.out]; exact hp) h))
                    have HAG := Lib.hid (form_again n form (editP t p d ins))
                    have HFB := Lib.hid (fun (Q : Option Addr) (k q : Nat) (w' : World) (hk : Kept w w') (h1 : k ≤ 10000) (h5 : Ints w' Q k (editP t p d ins)) => HFA.out Q k q _ w' hk h1 h5)
                    generalize formOf n form (editP t p d ins) = X at *
                    generalize editP t p d ins = PL at *
                    have p0 := Kept.cell KB7.out HX0.out
                    have p1 := Kept.cell KB7.out HX1.out
                    have p2 := Kept.cell KB7.out HX2.out
                    have p3 := Kept.cell KB7.out HX3.out
                    have p4 := Kept.cell KB7.out HX4.out
                    have p5 := Kept.cell k7 HE0.out
                    have p6 := Kept.cell k7 HE1.out
                    have p7 := Kept.cell k7 HE2.out
                    go_wp2_with fail
                    refine (HAP.out _ (HQ.out.kept (Kept.trans (Kept.alloc (Kept.refl wr) (Obj.cells #[Value.int IntKind.i64 (p : Int), Value.int IntKind.i64 (d : Int), Value.slice I ni ci] 42)) k7)) (HII.out.kept (Kept.trans HK1.out KB7.out))).mono ?_
                    rintro e w8 ⟨A8, n8, c8, rfl, le8, i8, k8⟩
                    have I8 := Lib.hid i8
                    have hn8 : n8 ≤ 10000 := (by rw [i8.1]; exact HNL.out)
                    clear i8
                    clear p0 p1 p2 p3 p4 p5 p6 p7
                    have KB8 := Lib.hid (Kept.trans KB7.out k8)
                    have p0 := Kept.cell KB8.out HX0.out
                    have p1 := Kept.cell KB8.out HX1.out
                    have p2 := Kept.cell KB8.out HX2.out
                    have p3 := Kept.cell KB8.out HX3.out
                    have p4 := Kept.cell KB8.out HX4.out
                    have p5 := Kept.cell (Kept.trans k7 k8) HE0.out
                    have p6 := Kept.cell (Kept.trans k7 k8) HE1.out
                    have p7 := Kept.cell (Kept.trans k7 k8) HE2.out
                    go_wp2_with fail
                    refine (HRP.out _ (Kept.trans HK1.out KB8.out) (HQ.out.kept (Kept.trans (Kept.alloc (Kept.refl wr) (Obj.cells #[Value.int IntKind.i64 (p : Int), Value.int IntKind.i64 (d : Int), Value.slice I ni ci] 42)) (Kept.trans k7 k8))) (HII.out.kept (Kept.trans HK1.out KB8.out))).mono ?_
                    rintro e w9 ⟨A9, n9, c9, lo, hi2, rfl, le9, i9, k9⟩
                    have I9 := Lib.hid i9
                    have hn9 : n9 ≤ 10000 := (by rw [i9.1]; exact HXL.out)
                    clear i9
                    clear p0 p1 p2 p3 p4 p5 p6 p7
                    have KB9 := Lib.hid (Kept.trans KB8.out k9)
                    have p0 := Kept.cell KB9.out HX0.out
                    have p1 := Kept.cell KB9.out HX1.out
                    have p2 := Kept.cell KB9.out HX2.out
                    have p3 := Kept.cell KB9.out HX3.out
                    have p4 := Kept.cell KB9.out HX4.out
                    have p5 := Kept.cell (Kept.trans k7 (Kept.trans k8 k9)) HE0.out
                    have p6 := Kept.cell (Kept.trans k7 (Kept.trans k8 k9)) HE1.out
                    have p7 := Kept.cell (Kept.trans k7 (Kept.trans k8 k9)) HE2.out
                    have r0 := Kept.cell (Kept.alloc (Kept.refl _) (Obj.cells #[Value.int IntKind.i64 lo, Value.int IntKind.i64 hi2] 48)) p0
                    have r1 := Kept.cell (Kept.alloc (Kept.refl _) (Obj.cells #[Value.int IntKind.i64 lo, Value.int IntKind.i64 hi2] 48)) p1
                    have r2 := Kept.cell (Kept.alloc (Kept.refl _) (Obj.cells #[Value.int IntKind.i64 lo, Value.int IntKind.i64 hi2] 48)) p2
                    go_wp2_with fail
                    clear r0 r1 r2
                    clear p0 p1 p2 p3 p4 p5 p6 p7
                    have KB10 := Lib.hid (Kept.trans KB9.out (Kept.alloc (Kept.refl _) (Obj.cells #[Value.int IntKind.i64 lo, Value.int IntKind.i64 hi2] 48)))
                    refine (HFB.out A8 n8 c8 _ (Kept.trans HK1.out KB10.out) hn8 (I8.out.kept (Kept.trans k9 (Kept.alloc (Kept.refl _) (Obj.cells #[Value.int IntKind.i64 lo, Value.int IntKind.i64 hi2] 48))))).mono ?_
                    rintro e w11 ⟨A11, n11, c11, rfl, le11, i11, k11⟩
                    have I11 := Lib.hid i11
                    have hn11 : n11 ≤ 10000 := (by rw [i11.1]; exact HXL.out)
                    clear i11
                    have KB11 := Lib.hid (Kept.trans KB10.out k11)
                    have HEQ := Lib.hid (fun w' (h1 : Ints w' A9 n9 X) (h2 : Ints w' A11 n11 X) => top_equal A9 A11 n9 n11 c9 c11 X X w' (by omega) (by omega) h1 h2)
                    rw [show decide (X = X) = true from decide_eq_true rfl] at HEQ
                    go_wp2_with fail
                    refine (HEQ.out _ (I9.out.kept (Kept.trans (Kept.alloc (Kept.refl _) (Obj.cells #[Value.int IntKind.i64 lo, Value.int IntKind.i64 hi2] 48)) k11)) I11.out).mono ?_
                    rintro e w12 ⟨rfl, k12⟩
                    have KB12 := Lib.hid (Kept.trans KB11.out k12)
                    have p0 := Kept.cell KB12.out HX0.out
                    have p1 := Kept.cell KB12.out HX1.out
                    have p2 := Kept.cell KB12.out HX2.out
                    have p3 := Kept.cell KB12.out HX3.out
                    have p4 := Kept.cell KB12.out HX4.out
                    have p5 := Kept.cell (Kept.trans k7 (Kept.trans k8 (Kept.trans k9 (Kept.trans (Kept.alloc (Kept.refl _) (Obj.cells #[Value.int IntKind.i64 lo, Value.int IntKind.i64 hi2] 48)) (Kept.trans k11 k12))))) HE0.out
                    have p6 := Kept.cell (Kept.trans k7 (Kept.trans k8 (Kept.trans k9 (Kept.trans (Kept.alloc (Kept.refl _) (Obj.cells #[Value.int IntKind.i64 lo, Value.int IntKind.i64 hi2] 48)) (Kept.trans k11 k12))))) HE1.out
                    have p7 := Kept.cell (Kept.trans k7 (Kept.trans k8 (Kept.trans k9 (Kept.trans (Kept.alloc (Kept.refl _) (Obj.cells #[Value.int IntKind.i64 lo, Value.int IntKind.i64 hi2] 48)) (Kept.trans k11 k12))))) HE2.out
                    go_wp2_with fail
                    refine (HIA.out A9 n9 c9 X _ (Kept.trans HK1.out KB12.out) hn9 (I9.out.kept (Kept.trans (Kept.alloc (Kept.refl _) (Obj.cells #[Value.int IntKind.i64 lo, Value.int IntKind.i64 hi2] 48)) (Kept.trans k11 k12))) HAG.out).mono ?_
                    rintro e w13 ⟨rfl, k13⟩
                    clear p0 p1 p2 p3 p4 p5 p6 p7
                    have KB13 := Lib.hid (Kept.trans KB12.out k13)
                    go_wp2_with fail
                    go_roundw
                    case rel => exact ⟨i + 1, A9, n9, c9, X, hlt, by go_num, rfl, le9, I9.out.kept (Kept.trans (Kept.alloc (Kept.refl _) (Obj.cells #[Value.int IntKind.i64 lo, Value.int IntKind.i64 hi2] 48)) (Kept.trans k11 (Kept.trans k12 k13))), HAG.out, HNX.out, Kept.trans KW.out (Kept.trans (Kept.alloc (Kept.refl wr) (Obj.cells #[Value.int IntKind.i64 (p : Int), Value.int IntKind.i64 (d : Int), Value.slice I ni ci] 42)) (Kept.trans k7 (Kept.trans k8 (Kept.trans k9 (Kept.trans (Kept.alloc (Kept.refl _) (Obj.cells #[Value.int IntKind.i64 lo, Value.int IntKind.i64 hi2] 48)) (Kept.trans k11 (Kept.trans k12 k13)))))))⟩
                    case measure => simp [intOf]; omega
                · by_cases hn40 : ni ≤ 40
                  · rw [show decide (ni ≤ 40) = true from decide_eq_true (by omega)] at HSM
                    have hn6i : (6 : Int) < (ni : Int) := by omega
                    have p0 := Kept.cell KB5.out HX0.out
                    have p1 := Kept.cell KB5.out HX1.out
                    have p2 := Kept.cell KB5.out HX2.out
                    have p3 := Kept.cell KB5.out HX3.out
                    have p4 := Kept.cell KB5.out HX4.out
                    go_wp2_with fail
                    clear p0 p1 p2 p3 p4
                    clear cx0 cx1 cx2
                    have he_ := box_block wr (Obj.cells #[Value.int IntKind.i64 ea, Value.int IntKind.i64 ed, Value.slice I ni ci] 42)
                    have e0_ := cell_of_block (i := 0) he_ rfl
                    have e1_ := cell_of_block (i := 1) he_ rfl
                    have e2_ := cell_of_block (i := 2) he_ rfl
                    simp only [s4_, s5_, s6_] at e0_ e1_ e2_
                    have HE0 := Lib.hid e0_
                    have HE1 := Lib.hid e1_
                    have HE2 := Lib.hid e2_
                    clear he_ e0_ e1_ e2_
                    have KB6 := Lib.hid (Kept.trans KB5.out (Kept.alloc (Kept.refl wr) (Obj.cells #[Value.int IntKind.i64 ea, Value.int IntKind.i64 ed, Value.slice I ni ci] 42)))
                    refine (HSM.out _).mono ?_
                    rintro e w7 ⟨rfl, k7⟩
                    have KB7 := Lib.hid (Kept.trans KB6.out k7)
                    have p0 := Kept.cell KB7.out HX0.out
                    have p1 := Kept.cell KB7.out HX1.out
                    have p2 := Kept.cell KB7.out HX2.out
                    have p3 := Kept.cell KB7.out HX3.out
                    have p4 := Kept.cell KB7.out HX4.out
                    have p5 := Kept.cell k7 HE0.out
                    have p6 := Kept.cell k7 HE1.out
                    have p7 := Kept.cell k7 HE2.out
                    go_wp2_with fail
                    refine (HAL.out _ (Kept.trans HK1.out KB7.out)).mono ?_
                    rintro e w8 ⟨rfl, k8⟩
                    clear p0 p1 p2 p3 p4 p5 p6 p7
                    have KB8 := Lib.hid (Kept.trans KB7.out k8)
                    go_wp2_with fail
                    exact bodyPost_ret (v := .bool true) (by simp [results, Tryz.results4, go_sem]) rfl ⟨rfl, (Kept.trans HK1.out KB8.out)⟩
                  · rw [show decide (ni ≤ 40) = false from decide_eq_false (by omega)] at HSM
                    have p0 := Kept.cell KB5.out HX0.out
                    have p1 := Kept.cell KB5.out HX1.out
                    have p2 := Kept.cell KB5.out HX2.out
                    have p3 := Kept.cell KB5.out HX3.out
                    have p4 := Kept.cell KB5.out HX4.out
                    go_wp2_with fail
                    clear p0 p1 p2 p3 p4
                    clear cx0 cx1 cx2
                    have he_ := box_block wr (Obj.cells #[Value.int IntKind.i64 ea, Value.int IntKind.i64 ed, Value.slice I ni ci] 42)
                    have e0_ := cell_of_block (i := 0) he_ rfl
                    have e1_ := cell_of_block (i := 1) he_ rfl
                    have e2_ := cell_of_block (i := 2) he_ rfl
                    simp only [s4_, s5_, s6_] at e0_ e1_ e2_
                    have HE0 := Lib.hid e0_
                    have HE1 := Lib.hid e1_
                    have HE2 := Lib.hid e2_
                    clear he_ e0_ e1_ e2_
                    have KB6 := Lib.hid (Kept.trans KB5.out (Kept.alloc (Kept.refl wr) (Obj.cells #[Value.int IntKind.i64 ea, Value.int IntKind.i64 ed, Value.slice I ni ci] 42)))
                    refine (HSM.out _).mono ?_
                    rintro e w7 ⟨rfl, k7⟩
                    have KB7 := Lib.hid (Kept.trans KB6.out k7)
                    have p0 := Kept.cell KB7.out HX0.out
                    have p1 := Kept.cell KB7.out HX1.out
                    have p2 := Kept.cell KB7.out HX2.out
                    have p3 := Kept.cell KB7.out HX3.out
                    have p4 := Kept.cell KB7.out HX4.out
                    have p5 := Kept.cell k7 HE0.out
                    have p6 := Kept.cell k7 HE1.out
                    have p7 := Kept.cell k7 HE2.out
                    go_wp2_with fail
                    refine (HAL.out _ (Kept.trans HK1.out KB7.out)).mono ?_
                    rintro e w8 ⟨rfl, k8⟩
                    clear p0 p1 p2 p3 p4 p5 p6 p7
                    have KB8 := Lib.hid (Kept.trans KB7.out k8)
                    go_wp2_with fail
                    exact bodyPost_ret (v := .bool true) (by simp [results, Tryz.results4, go_sem]) rfl ⟨rfl, (Kept.trans HK1.out KB8.out)⟩
              · have him : i = m := by omega
                subst him
                go_wp2_with fail
                refine (HAL.out _ (Kept.trans HK1.out KB5.out)).mono ?_
                rintro e w6 ⟨rfl, k6⟩
                have KB6 := Lib.hid (Kept.trans KB5.out k6)
                go_wp2_with fail
                go_ret
                exact ⟨rfl, (Kept.trans HK1.out KB6.out)⟩
          · have h5 : 4 < form := by omega
            unfold Sls.val at *
            go_enter Tryz.func4, Tryz.ntmps4
            have p0 := HX0.out
            have p1 := HX1.out
            have p2 := HX2.out
            have p3 := HX3.out
            have p4 := HX4.out
            go_wp2_with fail
            refine wp_region_held_drew (S := (fun w' => w'.cell? ⟨w.heap.size, 0, none⟩ = some (.slice s.Ac s.nc s.cc) ∧ w'.cell? ⟨w.heap.size, 1, none⟩ = some (.slice s.Am s.nm s.cm) ∧ w'.cell? ⟨w.heap.size, 2, none⟩ = some (.slice s.Ae s.ne s.ce) ∧ w'.cell? ⟨w.heap.size + 1, 0, none⟩ = some (.slice A l c) ∧ w'.cell? ⟨w.heap.size + 1, 1, none⟩ = some (.slice B m e))) (by kernel_rfl) ⟨p0, p1, p2, p3, p4⟩ (fun hHeld => ?_)
            refine tk_ 0 ?_ rfl ?_; refine tk_ 1 ?_ rfl ?_; refine tk_ 2 ?_ rfl ?_; refine tk_ 3 ?_ rfl ?_; refine tk_ 4 ?_ rfl ?_; refine tk_ 5 ?_ rfl ?_
            refine wpAnyH_done (by kernel_rfl) ?_ _
            clear p0 p1 p2 p3 p4
            have KB1 := Lib.hid (Kept.trans (Kept.refl ((w.alloc (Obj.cells #[Value.slice s.Ac s.nc s.cc, Value.slice s.Am s.nm s.cm, Value.slice s.Ae s.ne s.ce] 28)).alloc (Obj.cells #[Value.slice A l c, Value.slice B m e] 40))) (Kept.drew (Kept.refl _)))
            have p0 := Kept.cell KB1.out HX0.out
            have p1 := Kept.cell KB1.out HX1.out
            have p2 := Kept.cell KB1.out HX2.out
            have p3 := Kept.cell KB1.out HX3.out
            have p4 := Kept.cell KB1.out HX4.out
            go_wp2_with fail
            refine (HS.out _ (Kept.trans HK1.out KB1.out)).mono ?_
            rintro e w2 ⟨rfl, k2⟩
            clear p0 p1 p2 p3 p4
            have KB2 := Lib.hid (Kept.trans KB1.out k2)
            go_wp2_with fail
            refine (HFW.out _).mono ?_
            rintro e w3 ⟨rfl, k3⟩
            have KB3 := Lib.hid (Kept.trans KB2.out k3)
            go_wp2_with fail
            refine (HAL.out _ (Kept.trans HK1.out KB3.out)).mono ?_
            rintro e w4 ⟨rfl, k4⟩
            have KB4 := Lib.hid (Kept.trans KB3.out k4)
            go_wp2_with fail
            go_ret
            exact ⟨rfl, (Kept.trans HK1.out KB4.out)⟩
        · have h5 : form < 1 := by omega
          unfold Sls.val at *
          go_enter Tryz.func4, Tryz.ntmps4
          have p0 := HX0.out
          have p1 := HX1.out
          have p2 := HX2.out
          have p3 := HX3.out
          have p4 := HX4.out
          go_wp2_with fail
          refine wp_region_held_drew (S := (fun w' => w'.cell? ⟨w.heap.size, 0, none⟩ = some (.slice s.Ac s.nc s.cc) ∧ w'.cell? ⟨w.heap.size, 1, none⟩ = some (.slice s.Am s.nm s.cm) ∧ w'.cell? ⟨w.heap.size, 2, none⟩ = some (.slice s.Ae s.ne s.ce) ∧ w'.cell? ⟨w.heap.size + 1, 0, none⟩ = some (.slice A l c) ∧ w'.cell? ⟨w.heap.size + 1, 1, none⟩ = some (.slice B m e))) (by kernel_rfl) ⟨p0, p1, p2, p3, p4⟩ (fun hHeld => ?_)
          refine tk_ 0 ?_ rfl ?_; refine tk_ 1 ?_ rfl ?_; refine tk_ 2 ?_ rfl ?_; refine tk_ 3 ?_ rfl ?_; refine tk_ 4 ?_ rfl ?_; refine tk_ 5 ?_ rfl ?_
          refine wpAnyH_done (by kernel_rfl) ?_ _
          clear p0 p1 p2 p3 p4
          have KB1 := Lib.hid (Kept.trans (Kept.refl ((w.alloc (Obj.cells #[Value.slice s.Ac s.nc s.cc, Value.slice s.Am s.nm s.cm, Value.slice s.Ae s.ne s.ce] 28)).alloc (Obj.cells #[Value.slice A l c, Value.slice B m e] 40))) (Kept.drew (Kept.refl _)))
          have p0 := Kept.cell KB1.out HX0.out
          have p1 := Kept.cell KB1.out HX1.out
          have p2 := Kept.cell KB1.out HX2.out
          have p3 := Kept.cell KB1.out HX3.out
          have p4 := Kept.cell KB1.out HX4.out
          go_wp2_with fail
          refine (HS.out _ (Kept.trans HK1.out KB1.out)).mono ?_
          rintro e w2 ⟨rfl, k2⟩
          clear p0 p1 p2 p3 p4
          have KB2 := Lib.hid (Kept.trans KB1.out k2)
          go_wp2_with fail
          refine (HFW.out _).mono ?_
          rintro e w3 ⟨rfl, k3⟩
          have KB3 := Lib.hid (Kept.trans KB2.out k3)
          go_wp2_with fail
          refine (HAL.out _ (Kept.trans HK1.out KB3.out)).mono ?_
          rintro e w4 ⟨rfl, k4⟩
          have KB4 := Lib.hid (Kept.trans KB3.out k4)
          go_wp2_with fail
          go_ret
          exact ⟨rfl, (Kept.trans HK1.out KB4.out)⟩
      · rw [show decide ((l : Int) ≤ 10) = false from decide_eq_false (by omega)] at HFW
        unfold Sls.val at *
        go_enter Tryz.func4, Tryz.ntmps4
        have p0 := HX0.out
        have p1 := HX1.out
        have p2 := HX2.out
        have p3 := HX3.out
        have p4 := HX4.out
        go_wp2_with fail
        refine wp_region_held_drew (S := (fun w' => w'.cell? ⟨w.heap.size, 0, none⟩ = some (.slice s.Ac s.nc s.cc) ∧ w'.cell? ⟨w.heap.size, 1, none⟩ = some (.slice s.Am s.nm s.cm) ∧ w'.cell? ⟨w.heap.size, 2, none⟩ = some (.slice s.Ae s.ne s.ce) ∧ w'.cell? ⟨w.heap.size + 1, 0, none⟩ = some (.slice A l c) ∧ w'.cell? ⟨w.heap.size + 1, 1, none⟩ = some (.slice B m e))) (by kernel_rfl) ⟨p0, p1, p2, p3, p4⟩ (fun hHeld => ?_)
        refine tk_ 0 ?_ rfl ?_; refine tk_ 1 ?_ rfl ?_; refine tk_ 2 ?_ rfl ?_; refine tk_ 3 ?_ rfl ?_; refine tk_ 4 ?_ rfl ?_; refine tk_ 5 ?_ rfl ?_
        refine wpAnyH_done (by kernel_rfl) ?_ _
        clear p0 p1 p2 p3 p4
        have KB1 := Lib.hid (Kept.trans (Kept.refl ((w.alloc (Obj.cells #[Value.slice s.Ac s.nc s.cc, Value.slice s.Am s.nm s.cm, Value.slice s.Ae s.ne s.ce] 28)).alloc (Obj.cells #[Value.slice A l c, Value.slice B m e] 40))) (Kept.drew (Kept.refl _)))
        have p0 := Kept.cell KB1.out HX0.out
        have p1 := Kept.cell KB1.out HX1.out
        have p2 := Kept.cell KB1.out HX2.out
        have p3 := Kept.cell KB1.out HX3.out
        have p4 := Kept.cell KB1.out HX4.out
        go_wp2_with fail
        refine (HS.out _ (Kept.trans HK1.out KB1.out)).mono ?_
        rintro e w2 ⟨rfl, k2⟩
        clear p0 p1 p2 p3 p4
        have KB2 := Lib.hid (Kept.trans KB1.out k2)
        go_wp2_with fail
        refine (HFW.out _).mono ?_
        rintro e w3 ⟨rfl, k3⟩
        have KB3 := Lib.hid (Kept.trans KB2.out k3)
        go_wp2_with fail
        refine (HAL.out _ (Kept.trans HK1.out KB3.out)).mono ?_
        rintro e w4 ⟨rfl, k4⟩
        have KB4 := Lib.hid (Kept.trans KB3.out k4)
        go_wp2_with fail
        go_ret
        exact ⟨rfl, (Kept.trans HK1.out KB4.out)⟩
    · have h5 : 5 < m := by omega
      have h6 : (5 : Int) < (m : Int) := by omega
      unfold Sls.val at *
      go_enter Tryz.func4, Tryz.ntmps4
      have p0 := HX0.out
      have p1 := HX1.out
      have p2 := HX2.out
      have p3 := HX3.out
      have p4 := HX4.out
      go_wp2_with fail
      refine wp_region_held_drew (S := (fun w' => w'.cell? ⟨w.heap.size, 0, none⟩ = some (.slice s.Ac s.nc s.cc) ∧ w'.cell? ⟨w.heap.size, 1, none⟩ = some (.slice s.Am s.nm s.cm) ∧ w'.cell? ⟨w.heap.size, 2, none⟩ = some (.slice s.Ae s.ne s.ce) ∧ w'.cell? ⟨w.heap.size + 1, 0, none⟩ = some (.slice A l c) ∧ w'.cell? ⟨w.heap.size + 1, 1, none⟩ = some (.slice B m e))) (by kernel_rfl) ⟨p0, p1, p2, p3, p4⟩ (fun hHeld => ?_)
      refine tk_ 0 ?_ rfl ?_; refine tk_ 1 ?_ rfl ?_; refine tk_ 2 ?_ rfl ?_; refine tk_ 3 ?_ rfl ?_; refine tk_ 4 ?_ rfl ?_; refine tk_ 5 ?_ rfl ?_
      refine wpAnyH_done (by kernel_rfl) ?_ _
      clear p0 p1 p2 p3 p4
      have KB1 := Lib.hid (Kept.trans (Kept.refl ((w.alloc (Obj.cells #[Value.slice s.Ac s.nc s.cc, Value.slice s.Am s.nm s.cm, Value.slice s.Ae s.ne s.ce] 28)).alloc (Obj.cells #[Value.slice A l c, Value.slice B m e] 40))) (Kept.drew (Kept.refl _)))
      have p0 := Kept.cell KB1.out HX0.out
      have p1 := Kept.cell KB1.out HX1.out
      have p2 := Kept.cell KB1.out HX2.out
      have p3 := Kept.cell KB1.out HX3.out
      have p4 := Kept.cell KB1.out HX4.out
      go_wp2_with fail
      refine (HS.out _ (Kept.trans HK1.out KB1.out)).mono ?_
      rintro e w2 ⟨rfl, k2⟩
      clear p0 p1 p2 p3 p4
      have KB2 := Lib.hid (Kept.trans KB1.out k2)
      go_wp2_with fail
      refine (HAL.out _ (Kept.trans HK1.out KB2.out)).mono ?_
      rintro e w3 ⟨rfl, k3⟩
      have KB3 := Lib.hid (Kept.trans KB2.out k3)
      go_wp2_with fail
      go_ret
      exact ⟨rfl, (Kept.trans HK1.out KB3.out)⟩
end Go.Proofs.YtckgmkjoblneeaaGreatDoor
