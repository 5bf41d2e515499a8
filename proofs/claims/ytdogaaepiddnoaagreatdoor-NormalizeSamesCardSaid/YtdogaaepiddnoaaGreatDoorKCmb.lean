/- compose.composites. compose.join. compose.usable. -/
import Derived.Deep.RegionHeld3
import Derived.Test.YtdogaaepiddnoaaGreatDoorKDecB
import Derived.Test.YtdogaaepiddnoaaGreatDoorKCma
import Derived.Test.YtdogaaepiddnoaaGreatDoorKSqx
import Derived.Test.YtdogaaepiddnoaaGreatDoorKApp
import Derived.Test.YtdogaaepiddnoaaGreatDoorKExpC
namespace Go.Proofs.YtdogaaepiddnoaaGreatDoor
open Go Go.RowKit

/-- A map of the primary composites has been made. -/
def RetPairs (w : World) (n : Nrm) (e : Ending) (w' : World) : Prop := ∃ (b : Nat) (M : List ((Int × Int) × Value)), e = .returned (.map (some b)) ∧ MapIs w' b encP M ∧ CompMap n n.decomp M ∧ w.heap.size ≤ b ∧ Kept w w'
theorem good_spans {n : Nrm} (g : Good n) : usableSpans n.classes = n.classes := if_pos g.ord
theorem cand_tag {n : Nrm} {m : Mp} (h : m.tag.toList.isEmpty = false) : candB n m = false := by simp [candB, plainTag, h]
theorem cand_len {n : Nrm} {m : Mp} (h : m.to.length ≠ 2) : candB n m = false := by simp [candB, h]
theorem cand_excl {n : Nrm} {m : Mp} (h : hasR n.excl m.src = true) : candB n m = false := by simp [candB, h]
theorem cand_src {n : Nrm} {m : Mp} (h : (classOf n.classes m.src == 0) = false) : candB n m = false := by
  have : ¬ classOf n.classes m.src = 0 := by simpa using h
  simp [candB, this]
theorem cand_to {n : Nrm} {m : Mp} {x y : Int} (hto : m.to = [x, y]) (h : (classOf n.classes x == 0) = false) : candB n m = false := by
  have : ¬ classOf n.classes x = 0 := by simpa using h
  simp [candB, hto, this]
theorem cand_yes {n : Nrm} {m : Mp} {x y : Int} (ht : m.tag.toList.isEmpty = true) (hto : m.to = [x, y]) (he : hasR n.excl m.src = false) (h1 : (classOf n.classes m.src == 0) = true) (h2 : (classOf n.classes x == 0) = true) : candB n m = true := by
  have h1' : classOf n.classes m.src = 0 := by simpa using h1
  have h2' : classOf n.classes x = 0 := by simpa using h2
  simp [candB, plainTag, ht, hto, he, h1', h2']

set_option maxRecDepth 100000 in
set_option maxHeartbeats 4000000 in
theorem composites_any (s : Sls) (n : Nrm) (w : World) (hN : NormAt w s n) (hg : Good n) (hG : Glob w) : Calls Tryz.prog 109 #[s.val] w (RetPairs w n) := by
  have hk1 := Kept.alloc (Kept.refl w) (Obj.cells #[Value.slice s.Ac s.nc s.cc, Value.slice s.Am s.nm s.cm, Value.slice s.Ae s.ne s.ce] 28)
  have hbx := box_cell w #[Value.slice s.Ac s.nc s.cc, Value.slice s.Am s.nm s.cm, Value.slice s.Ae s.ne s.ce] 28
  have x0 : (w.alloc (Obj.cells #[Value.slice s.Ac s.nc s.cc, Value.slice s.Am s.nm s.cm, Value.slice s.Ae s.ne s.ce] 28)).cell? ⟨w.heap.size, 0, none⟩ = some (.slice s.Ac s.nc s.cc) := hbx 0
  have x1 : (w.alloc (Obj.cells #[Value.slice s.Ac s.nc s.cc, Value.slice s.Am s.nm s.cm, Value.slice s.Ae s.ne s.ce] 28)).cell? ⟨w.heap.size, 1, none⟩ = some (.slice s.Am s.nm s.cm) := hbx 1
  have x2 : (w.alloc (Obj.cells #[Value.slice s.Ac s.nc s.cc, Value.slice s.Am s.nm s.cm, Value.slice s.Ae s.ne s.ce] 28)).cell? ⟨w.heap.size, 2, none⟩ = some (.slice s.Ae s.ne s.ce) := hbx 2
  have HN := Lib.hid hN
  have HG := Lib.hid hG
  have HGD := Lib.hid hg
  have hbm : s.nm ≤ 1000 := hN.bm
  have HNM := Lib.hid hN.dec.1
  have HST := Lib.hid (fun (x : Int) w' (hk : Kept w w') => ordStarter s.Ac s.nc s.cc n.classes x w' hN.bc hN.hc (hN.kept hk).cls (hG.kept hk))
  rw [good_spans hg] at HST
  have HHAS := Lib.hid (fun (x : Int) w' (hk : Kept w w') => setHas s.Ae s.ne s.ce n.excl x w' (by have := hN.be; omega) (hN.kept hk).exc)
  have HX0 := Lib.hid x0
  have HX1 := Lib.hid x1
  have HX2 := Lib.hid x2
  have HK1 := Lib.hid hk1
  clear hN hG hg hk1 hbx
  have hmm := @run_makeMap Tryz.prog
  unfold Sls.val
  go_enter Tryz.func109, Tryz.ntmps109
  go_wp2_with fail
  clear hmm x0 x1 x2
  have hmade := MapIs.made (w.alloc (Obj.cells #[Value.slice s.Ac s.nc s.cc, Value.slice s.Am s.nm s.cm, Value.slice s.Ae s.ne s.ce] 28)) encP 0
  obtain ⟨bm, hbm2⟩ : ∃ bm : Nat, bm = w.heap.size + 1 := ⟨_, rfl⟩
  obtain ⟨bn, hbn⟩ : ∃ bn : Nat, bn = w.heap.size := ⟨_, rfl⟩
  have hs1 : (w.alloc (Obj.cells #[Value.slice s.Ac s.nc s.cc, Value.slice s.Am s.nm s.cm, Value.slice s.Ae s.ne s.ce] 28)).heap.size = bm := by simp [hbm2]
  rw [hs1] at hmade
  rw [← hbm2, ← hbn]
  rw [← hbn] at HX0 HX1 HX2
  have hbw : w.heap.size ≤ bm := by omega
  generalize w.alloc (Obj.cells #[Value.slice s.Ac s.nc s.cc, Value.slice s.Am s.nm s.cm, Value.slice s.Ae s.ne s.ce] 28) = w1 at *
  have HMADE := Lib.hid hmade
  have HS1 := Lib.hid hs1
  have HBW := Lib.hid hbw
  have hw2 : Kept w1 (w1.alloc (Obj.map #[] 0)) := Kept.alloc (Kept.refl w1) _
  have HW2 := Lib.hid hw2
  clear hmade hs1 hbn hbm2 hbw hw2
  go_loopw [15] (fun i wr => ∃ (k : Nat) (M : List ((Int × Int) × Value)), k ≤ s.nm ∧ i = .int .i64 k ∧ MapIs wr bm encP M ∧ CompMap n (n.decomp.take k) M ∧ Kept w1 wr) (fun i _ => s.nm - (intOf i).toNat)
  case atStart => exact ⟨0, [], Nat.zero_le _, rfl, HMADE.out, CompMap.nil n, HW2.out⟩
  case round =>
    obtain ⟨k, M, hk, rfl, hM, hCM, hkw⟩ := hrel
    have HM := Lib.hid hM
    have HCM := Lib.hid hCM
    have HKW := Lib.hid hkw
    have HWR := Lib.hid (Kept.trans HK1.out hkw)
    clear hM hCM hkw
    by_cases hlt : k < s.nm
    · obtain ⟨b, off, m, A', n', c', hA, hm, hle, hI, c0, c1, c2⟩ := mp_at (HN.out.dec.kept HWR.out) hlt
      have HT := Lib.hid hm
      have hn' : n' ≤ 1000 := by rw [hI.1]; exact HN.out.to m (mem_of_getElem?_some hm)
      have HTS := Lib.hid (take_succ_some hm)
      have HI := Lib.hid hI
      have HSKIP := Lib.hid (fun (hc : CompMap n (n.decomp.take (k + 1)) M) w' (hk' : Kept wr w') => (⟨k + 1, M, by omega, by go_num, HM.out.kept hk', hc, Kept.trans HKW.out hk'⟩ : ∃ (k' : Nat) (M' : List ((Int × Int) × Value)), k' ≤ s.nm ∧ Value.int .i64 ((k : Int) + 1) = .int .i64 k' ∧ MapIs w' bm encP M' ∧ CompMap n (n.decomp.take k') M' ∧ Kept w1 w'))
      rw [hA]
      clear hm hI hA
      cases ht : m.tag.toList.isEmpty
      · have hte : ¬ m.tag.toList = [] := by simpa using ht
        go_wp2_with fail
        go_roundw
        case rel => exact HSKIP.out (by rw [HTS.out]; exact HCM.out.skip (cand_tag ht)) _ (Kept.alloc (Kept.refl _) _)
        case measure => simp [intOf]; omega
      · have hte : m.tag.toList = [] := by simpa using ht
        have HTE := Lib.hid ht
        by_cases h2 : n' = 2
        · subst h2
          obtain ⟨b2, off2, x, hA', hx, d0⟩ := int_at (i := 0) HI.out (by omega)
          obtain ⟨b3, off3, y, hA3, hy, d1⟩ := int_at (i := 1) HI.out (by omega)
          subst hA'
          simp only [Option.some.injEq, Addr.mk.injEq, and_true] at hA3
          obtain ⟨rfl, rfl⟩ := hA3
          have hto : m.to = [x, y] := by
            have h1 := HI.out.1
            match hmt : m.to, h1 with
            | [u, v], _ =>
              rw [hmt] at hx hy
              simp only [List.getElem?_cons_zero, List.getElem?_cons_succ, Option.some.injEq] at hx hy
              rw [hx, hy]
          have HTO := Lib.hid hto
          have hka := Kept.alloc (Kept.refl wr) (Obj.cells #[Value.int IntKind.i64 m.src, Value.slice (some ⟨b2, off2, none⟩) 2 c', Value.string m.tag] 64)
          have q0 := Kept.cell hka (Kept.cell HKW.out HX0.out)
          have q2 := Kept.cell hka (Kept.cell HKW.out HX2.out)
          have D0 := Lib.hid (Kept.cell hka d0)
          have D1 := Lib.hid (Kept.cell hka d1)
          have hmb := alloc_at (W := wr) (o := (Obj.cells #[Value.int IntKind.i64 m.src, Value.slice (some ⟨b2, off2, none⟩) 2 c', Value.string m.tag] 64)) (b := wr.heap.size) rfl
          have HMB := Lib.hid hmb
          have HKA := Lib.hid hka
          have HHS := Lib.hid (HHAS.out m.src _ (Kept.trans HWR.out hka))
          clear hx hy hto hka hmb d0 d1
          cases he : hasR n.excl m.src
          · rw [he] at HHS
            go_wp2_with fail
            refine HHS.out.mono ?_
            rintro e w3 ⟨rfl, k3⟩
            have HE := Lib.hid he
            have HK3 := Lib.hid (Kept.trans HKA.out k3)
            have hmb3 := (k3.block _ (block_lt HMB.out)).trans HMB.out
            have p0 := Kept.cell k3 q0
            have p1 := cell_of_block (i := 0) hmb3 rfl
            have p2 := cell_of_block (i := 1) hmb3 rfl
            have p3 := Kept.cell k3 D0.out
            have p4 := Kept.cell k3 D1.out
            simp only [List.getElem_toArray, List.getElem_cons_zero, List.getElem_cons_succ] at p1 p2
            obtain ⟨bq, hbq⟩ : ∃ bq : Nat, bq = wr.heap.size := ⟨_, rfl⟩
            rw [← hbq] at p1 p2 hmb3
            have HMB3 := Lib.hid hmb3
            have KD := Lib.hid (Kept.drew (Kept.trans HWR.out HK3.out))
            clear q0 q2 he hmb3
            go_wp2_with fail
            rw [← hbq]
            clear hbq
            simp only [Nat.add_zero] at p3
            cases hs1 : (classOf n.classes m.src == 0)
            · have HS1' := Lib.hid hs1
              have HST1 := Lib.hid (HST.out m.src _ KD.out)
              rw [hs1] at HST1
              clear hs1
              clear p2 p3 p4
              refine wp_region_held_drew (S := (fun w' => w'.cell? ⟨bn, 0, none⟩ = some (.slice s.Ac s.nc s.cc) ∧ w'.cell? ⟨bq, 0, none⟩ = some (.int .i64 m.src))) (by kernel_rfl) ⟨p0, p1⟩ (fun hHeld => ?_)
              refine wpAnyH_take (i := 0) (v := ?_) rfl (by kernel_rfl) (by kernel_rfl) (by kernel_rfl) (fun _ _ _ h => h) (Or.inl ⟨by rfl, ?_⟩) (by assumption) ?_
              rotate_left
              · (intro w hSw; (try dsimp only at hSw); go_simp; (try with_reducible rfl))
              simp only [Act.put, List.setIfInBounds_toArray, List.set_cons_zero, List.set_cons_succ, List.getElem_toArray, List.getElem_cons_zero]
              refine wpAnyH_take (i := 1) (v := ?_) rfl (by kernel_rfl) (by kernel_rfl) (by kernel_rfl) (fun _ _ _ h => h) (Or.inl ⟨by rfl, ?_⟩) (by assumption) ?_
              rotate_left
              · (intro w hSw; (try dsimp only at hSw); go_simp; (try with_reducible rfl))
              simp only [Act.put, List.setIfInBounds_toArray, List.set_cons_zero, List.set_cons_succ, List.getElem_toArray, List.getElem_cons_zero, List.getElem_cons_succ]
              refine wpAnyH_take (i := 2) (v := ?_) rfl (by kernel_rfl) (by kernel_rfl) (by kernel_rfl) (fun _ _ _ h => h) (Or.inl ⟨by rfl, ?_⟩) (by assumption) ?_
              rotate_left
              · (intro w hSw; (try dsimp only at hSw); go_simp; (try with_reducible rfl))
              simp only [Act.put, List.setIfInBounds_toArray, List.set_cons_zero, List.set_cons_succ, List.getElem_toArray, List.getElem_cons_zero, List.getElem_cons_succ]
              refine wpAnyH_take (i := 3) (v := ?_) rfl (by kernel_rfl) (by kernel_rfl) (by kernel_rfl) (fun _ _ _ h => h) (Or.inl ⟨by rfl, ?_⟩) (by assumption) ?_
              rotate_left
              · (intro w hSw; (try dsimp only at hSw); go_simp; (try with_reducible rfl))
              simp only [Act.put, List.setIfInBounds_toArray, List.set_cons_zero, List.set_cons_succ, List.getElem_toArray, List.getElem_cons_zero, List.getElem_cons_succ]
              refine wpAnyH_ready (rs := [4]) (by kernel_rfl) (by simp) ?_
              refine AllReadyH.cons rfl (fun K hK => ?_) AllReadyH.nil
              go_simp
              (refine HST1.out.mono ?_; rintro e w4 ⟨rfl, k4⟩)
              go_wp2_with fail
              refine hK.out _ _ ⟨Kept.cell k4 p0, Kept.cell k4 p1⟩ (fun hHeld => ?_)
              clear hK K
              (try simp only [Act.put, List.setIfInBounds_toArray, List.set_cons_zero, List.set_cons_succ, List.getElem_toArray, List.getElem_cons_zero, List.getElem_cons_succ])
              refine wpAnyH_take (i := 5) (v := ?_) rfl (by kernel_rfl) (by kernel_rfl) (by kernel_rfl) (fun _ _ _ h => h) (Or.inl ⟨by rfl, ?_⟩) (by assumption) ?_
              rotate_left
              · (intro w hSw; (try dsimp only at hSw); go_simp; (try with_reducible rfl))
              simp only [Act.put, List.setIfInBounds_toArray, List.set_cons_zero, List.set_cons_succ, List.getElem_toArray, List.getElem_cons_zero, List.getElem_cons_succ]
              refine wpAnyH_take (i := 6) (v := ?_) rfl (by kernel_rfl) (by kernel_rfl) (by kernel_rfl) (fun _ _ _ h => h) (Or.inl ⟨by rfl, ?_⟩) (by assumption) ?_
              rotate_left
              · (intro w hSw; (try dsimp only at hSw); go_simp; (try with_reducible rfl))
              simp only [Act.put, List.setIfInBounds_toArray, List.set_cons_zero, List.set_cons_succ, List.getElem_toArray, List.getElem_cons_zero, List.getElem_cons_succ]
              refine wpAnyH_take (i := 7) (v := undef) rfl (by kernel_rfl) (by kernel_rfl) (by kernel_rfl) (fun _ _ _ h => h) (Or.inr ⟨by rfl, rfl⟩) (by assumption) ?_
              simp only [Act.put, List.setIfInBounds_toArray, List.set_cons_zero, List.set_cons_succ, List.getElem_toArray, List.getElem_cons_zero, List.getElem_cons_succ]
              refine wpAnyH_take (i := 8) (v := undef) rfl (by kernel_rfl) (by kernel_rfl) (by kernel_rfl) (fun _ _ _ h => h) (Or.inr ⟨by rfl, rfl⟩) (by assumption) ?_
              simp only [Act.put, List.setIfInBounds_toArray, List.set_cons_zero, List.set_cons_succ, List.getElem_toArray, List.getElem_cons_zero, List.getElem_cons_succ]
              refine wpAnyH_take (i := 9) (v := undef) rfl (by kernel_rfl) (by kernel_rfl) (by kernel_rfl) (fun _ _ _ h => h) (Or.inr ⟨by rfl, rfl⟩) (by assumption) ?_
              simp only [Act.put, List.setIfInBounds_toArray, List.set_cons_zero, List.set_cons_succ, List.getElem_toArray, List.getElem_cons_zero, List.getElem_cons_succ]
              refine wpAnyH_take (i := 10) (v := undef) rfl (by kernel_rfl) (by kernel_rfl) (by kernel_rfl) (fun _ _ _ h => h) (Or.inr ⟨by rfl, rfl⟩) (by assumption) ?_
              simp only [Act.put, List.setIfInBounds_toArray, List.set_cons_zero, List.set_cons_succ, List.getElem_toArray, List.getElem_cons_zero, List.getElem_cons_succ]
              refine wpAnyH_take (i := 11) (v := undef) rfl (by kernel_rfl) (by kernel_rfl) (by kernel_rfl) (fun _ _ _ h => h) (Or.inr ⟨by rfl, rfl⟩) (by assumption) ?_
              simp only [Act.put, List.setIfInBounds_toArray, List.set_cons_zero, List.set_cons_succ, List.getElem_toArray, List.getElem_cons_zero, List.getElem_cons_succ]
              refine wpAnyH_take (i := 12) (v := undef) rfl (by kernel_rfl) (by kernel_rfl) (by kernel_rfl) (fun _ _ _ h => h) (Or.inr ⟨by rfl, rfl⟩) (by assumption) ?_
              simp only [Act.put, List.setIfInBounds_toArray, List.set_cons_zero, List.set_cons_succ, List.getElem_toArray, List.getElem_cons_zero, List.getElem_cons_succ]
              refine wpAnyH_take (i := 13) (v := undef) rfl (by kernel_rfl) (by kernel_rfl) (by kernel_rfl) (fun _ _ _ h => h) (Or.inr ⟨by rfl, rfl⟩) (by assumption) ?_
              simp only [Act.put, List.setIfInBounds_toArray, List.set_cons_zero, List.set_cons_succ, List.getElem_toArray, List.getElem_cons_zero, List.getElem_cons_succ]
              refine wpAnyH_take (i := 14) (v := undef) rfl (by kernel_rfl) (by kernel_rfl) (by kernel_rfl) (fun _ _ _ h => h) (Or.inr ⟨by rfl, rfl⟩) (by assumption) ?_
              simp only [Act.put, List.setIfInBounds_toArray, List.set_cons_zero, List.set_cons_succ, List.getElem_toArray, List.getElem_cons_zero, List.getElem_cons_succ]
              refine wpAnyH_take (i := 15) (v := ?_) rfl (by kernel_rfl) (by kernel_rfl) (by kernel_rfl) (fun _ _ _ h => h) (Or.inl ⟨by rfl, ?_⟩) (by assumption) ?_
              rotate_left
              · (intro w hSw; (try dsimp only at hSw); go_simp; (try with_reducible rfl))
              simp only [Act.put, List.setIfInBounds_toArray, List.set_cons_zero, List.set_cons_succ, List.getElem_toArray, List.getElem_cons_zero, List.getElem_cons_succ]
              refine wpAnyH_done (by kernel_rfl) ?_ _
              go_wp2_with fail
              go_roundw
              case rel => exact HSKIP.out (by rw [HTS.out]; exact HCM.out.skip (cand_src HS1'.out)) _ (Kept.trans (Kept.drew HK3.out) k4)
              case measure => simp [intOf]; omega
            · have HS1' := Lib.hid hs1
              have HST1 := Lib.hid (HST.out m.src _ KD.out)
              rw [hs1] at HST1
              have HST2 := Lib.hid (HST.out x)
              clear hs1
              cases hs2 : (classOf n.classes x == 0)
              · rw [hs2] at HST2
                have HS2' := Lib.hid hs2
                clear hs2
                go_region_held3 (fun w' => w'.cell? ⟨bn, 0, none⟩ = some (.slice s.Ac s.nc s.cc) ∧ w'.cell? ⟨bq, 0, none⟩ = some (.int .i64 m.src) ∧ w'.cell? ⟨bq, 1, none⟩ = some (.slice (some ⟨b2, off2, none⟩) 2 c') ∧ w'.cell? ⟨b2, off2, none⟩ = some (.int .i64 x) ∧ w'.cell? ⟨b2, off2 + 1, none⟩ = some (.int .i64 y)) (first | exact ⟨t0, t1, t2, t3, t4⟩ | exact ⟨r0, r1, r2, r3, r4⟩ | exact ⟨p0, p1, p2, p3, p4⟩)
                    (first
                      | (go_at_call 31; refine (HST2.out _ (Kept.trans KD.out k4)).mono ?_; rintro e w5 ⟨rfl, k5⟩; have t0 := Kept.cell k5 r0; have t1 := Kept.cell k5 r1; have t2 := Kept.cell k5 r2; have t3 := Kept.cell k5 r3; have t4 := Kept.cell k5 r4)
                      | (go_at_call 31; refine HST1.out.mono ?_; rintro e w4 ⟨rfl, k4⟩; have r0 := Kept.cell k4 p0; have r1 := Kept.cell k4 p1; have r2 := Kept.cell k4 p2; have r3 := Kept.cell k4 p3; have r4 := Kept.cell k4 p4))
                go_wp2_with fail
                go_roundw
                case rel => exact HSKIP.out (by rw [HTS.out]; exact HCM.out.skip (cand_to HTO.out HS2'.out)) _ (Kept.trans (Kept.drew HK3.out) (Kept.trans k4 k5))
                case measure => simp [intOf]; omega
              · rw [hs2] at HST2
                have HS2' := Lib.hid hs2
                have HCY := Lib.hid (cand_yes HTE.out HTO.out HE.out HS1'.out HS2'.out)
                clear hs2
                go_region_held3 (fun w' => w'.cell? ⟨bn, 0, none⟩ = some (.slice s.Ac s.nc s.cc) ∧ w'.cell? ⟨bq, 0, none⟩ = some (.int .i64 m.src) ∧ w'.cell? ⟨bq, 1, none⟩ = some (.slice (some ⟨b2, off2, none⟩) 2 c') ∧ w'.cell? ⟨b2, off2, none⟩ = some (.int .i64 x) ∧ w'.cell? ⟨b2, off2 + 1, none⟩ = some (.int .i64 y)) (first | exact ⟨t0, t1, t2, t3, t4⟩ | exact ⟨r0, r1, r2, r3, r4⟩ | exact ⟨p0, p1, p2, p3, p4⟩)
                    (first
                      | (go_at_call 31; refine (HST2.out _ (Kept.trans KD.out k4)).mono ?_; rintro e w5 ⟨rfl, k5⟩; have t0 := Kept.cell k5 r0; have t1 := Kept.cell k5 r1; have t2 := Kept.cell k5 r2; have t3 := Kept.cell k5 r3; have t4 := Kept.cell k5 r4)
                      | (go_at_call 31; refine HST1.out.mono ?_; rintro e w4 ⟨rfl, k4⟩; have r0 := Kept.cell k4 p0; have r1 := Kept.cell k4 p1; have r2 := Kept.cell k4 p2; have r3 := Kept.cell k4 p3; have r4 := Kept.cell k4 p4))
                have HK5 := Lib.hid (Kept.trans (Kept.drew HK3.out) (Kept.trans k4 k5))
                have hmb5 := ((Kept.trans (Kept.drew (Kept.refl w3)) (Kept.trans k4 k5)).block _ (block_lt HMB3.out)).trans HMB3.out
                have HMB5 := Lib.hid hmb5
                clear p0 p1 p2 p3 p4 r0 r1 r2 r3 r4 hmb5
                go_wp2_with fail
                go_region_held3 (fun w' => w'.cell? ⟨bn, 0, none⟩ = some (.slice s.Ac s.nc s.cc) ∧ w'.cell? ⟨bq, 0, none⟩ = some (.int .i64 m.src) ∧ w'.cell? ⟨bq, 1, none⟩ = some (.slice (some ⟨b2, off2, none⟩) 2 c') ∧ w'.cell? ⟨b2, off2, none⟩ = some (.int .i64 x) ∧ w'.cell? ⟨b2, off2 + 1, none⟩ = some (.int .i64 y)) (first | exact ⟨t0, t1, t2, t3, t4⟩ | go_keep) (fail)
                have hka6 := Kept.alloc (Kept.drew (Kept.refl w5)) (Obj.cells #[Value.int IntKind.i64 x, Value.int IntKind.i64 y] 134)
                have hpb : (w5.drew.alloc (Obj.cells #[Value.int IntKind.i64 x, Value.int IntKind.i64 y] 134)).heap[w5.heap.size]? = some (Obj.cells #[Value.int IntKind.i64 x, Value.int IntKind.i64 y] 134 (0, 0)) := alloc_at rfl
                have HK6 := Lib.hid (Kept.trans HK5.out hka6)
                have HPB := Lib.hid hpb
                have HMB6 := Lib.hid ((hka6.block _ (block_lt HMB5.out)).trans HMB5.out)
                have HCO := Lib.hid (hcompose_any x y (w5.drew.alloc (Obj.cells #[Value.int IntKind.i64 x, Value.int IntKind.i64 y] 134)))
                clear t0 t1 t2 t3 t4 hka6 hpb
                go_wp2_with fail
                refine HCO.out.mono ?_
                rintro e w7 ⟨rfl, k7⟩
                have HK7 := Lib.hid (Kept.trans HK6.out k7)
                cases hco : compH x y with
                | some cc =>
                  have HCC := Lib.hid (show (compH x y).isSome = true by rw [hco]; rfl)
                  clear hco
                  go_wp2_with fail
                  go_roundw
                  case rel => exact HSKIP.out (by rw [HTS.out]; exact HCM.out.hangul HTO.out HCC.out) _ HK7.out
                  case measure => simp [intOf]; omega
                | none =>
                  have HNC := Lib.hid hco
                  have hpb7 := (k7.block _ (block_lt HPB.out)).trans HPB.out
                  have hmb7 := (k7.block _ (block_lt HMB6.out)).trans HMB6.out
                  have s0 := cell_of_block (i := 0) hpb7 rfl
                  have s1 := cell_of_block (i := 1) hpb7 rfl
                  have s2 := cell_of_block (i := 0) hmb7 rfl
                  simp only [List.getElem_toArray, List.getElem_cons_zero, List.getElem_cons_succ] at s0 s1 s2
                  have hm7 := HM.out.kept HK7.out
                  have hlk := run_lookup_ok (T := 116) (E := 3) keyOk_pair (by kernel_rfl) hm7 (.int .i64 0) (fun w => by kernel_rfl) (x, y)
                  have HM7 := Lib.hid hm7
                  clear hco hpb7 hmb7 hm7
                  cases hget : getKV M (x, y) with
                  | some v =>
                    obtain ⟨hdup, m', hm', rfl⟩ := HCM.out.dup HTO.out hget
                    have HDUP := Lib.hid hdup
                    have hlt2 : m'.src < m.src := by
                      obtain ⟨i', hi'⟩ := mem_take_get hm'
                      exact HGD.out.sorted i' k m' m hi'.1 hi'.2 HT.out
                    have hnl : ¬ m.src < m'.src := by omega
                    rw [hget] at hlk
                    simp only [encP] at hlk
                    clear hget hdup hm'
                    go_wp2_with fail
                    go_roundw
                    case rel => exact HSKIP.out (by rw [HTS.out]; exact HDUP.out) _ HK7.out
                    case measure => simp [intOf]; omega
                  | none =>
                    rw [hget] at hlk
                    simp only [encP] at hlk
                    obtain ⟨w8, hup, hm8, hg8⟩ := run_update (T := 116) (E := 3) keyOk_pair (by kernel_rfl) HM7.out (x, y) (.int .i64 m.src)
                    simp only [encP] at hup
                    have HM8 := Lib.hid hm8
                    have HADD := Lib.hid (HCM.out.add HTO.out HCY.out HNC.out hget)
                    have HK8 := Lib.hid ((Kept.trans HKW.out HK7.out).grown hg8 (by have h1 := (Kept.trans HKW.out HK7.out).size; omega) (fun q e => by cases e; have := HS1.out; omega))
                    clear hget hm8
                    go_wp2_with fail
                    go_roundw
                    case rel => exact ⟨k + 1, _, by omega, by go_num, HM8.out, by rw [HTS.out]; exact HADD.out, HK8.out⟩
                    case measure => simp [intOf]; omega
          · rw [he] at HHS
            go_wp2_with fail
            refine HHS.out.mono ?_
            rintro e w3 ⟨rfl, k3⟩
            have HE := Lib.hid he
            clear he
            go_wp2_with fail
            go_roundw
            case rel => exact HSKIP.out (by rw [HTS.out]; exact HCM.out.skip (cand_excl HE.out)) _ (Kept.trans HKA.out k3)
            case measure => simp [intOf]; omega
        · have hd : (n' != 2) = true := by simp [h2]
          have hz : ¬ ((n' : Int) = 2) := by omega
          have HL2 := Lib.hid (show m.to.length ≠ 2 by rw [← HI.out.1]; exact h2)
          clear h2
          go_wp2_with fail
          go_roundw
          case rel => exact HSKIP.out (by rw [HTS.out]; exact HCM.out.skip (cand_len HL2.out)) _ (Kept.alloc (Kept.refl _) _)
          case measure => simp [intOf]; omega
    · have hfull : n.decomp.take k = n.decomp := List.take_of_length_le (by have := HNM.out; omega)
      have hcm := HCM.out
      rw [hfull] at hcm
      have HF := Lib.hid hcm
      clear hfull hcm
      go_wp2_with fail
      go_ret
      exact ⟨bm, M, rfl, HM.out, HF.out, HBW.out, HWR.out⟩
end Go.Proofs.YtdogaaepiddnoaaGreatDoor
namespace Go.Proofs.YtdogaaepiddnoaaGreatDoor
open Go Go.RowKit

set_option maxHeartbeats 1000000 in
theorem join_any (bm : Nat) (M : List ((Int × Int) × Value)) (n : Nrm) (a b : Int) (w : World) (hM : MapIs w bm encP M) (hC : CompMap n n.decomp M) : Calls Tryz.prog 110 #[.map (some bm), .int .i64 a, .int .i64 b] w (RetOI w (pairOf n a b)) := by
  have HCO := Lib.hid (hcompose_any a b w)
  have HM := Lib.hid hM
  have HC := Lib.hid hC
  clear hM hC
  cases hco : compH a b with
  | some c =>
    have HP := Lib.hid (show pairOf n a b = some c by unfold pairOf; rw [hco])
    rw [hco] at HCO
    clear hco
    go_enter Tryz.func110, Tryz.ntmps110
    go_wp2_with fail
    refine HCO.out.mono ?_
    rintro e w1 ⟨rfl, k1⟩
    go_wp2_with fail
    go_ret2
    rw [HP.out]
    exact ⟨rfl, k1⟩
  | none =>
    have HP := Lib.hid (HC.out.pair hco)
    rw [hco] at HCO
    clear hco
    go_enter Tryz.func110, Tryz.ntmps110
    go_wp2_with fail
    refine HCO.out.mono ?_
    rintro e w1 ⟨rfl, k1⟩
    have hlk := run_lookup_ok (T := 116) (E := 3) keyOk_pair (by kernel_rfl) (HM.out.kept k1) (.int .i64 0) (fun w => by kernel_rfl) (a, b)
    rw [HP.out] at hlk
    simp only [encP] at hlk
    cases hp : pairOf n a b with
    | some c =>
      rw [hp] at hlk
      simp only [Option.map_some] at hlk
      have HPP := Lib.hid hp
      clear hp
      go_wp2_with fail
      go_ret2
      rw [HPP.out]
      exact ⟨rfl, k1⟩
    | none =>
      rw [hp] at hlk
      simp only [Option.map_none] at hlk
      have HPP := Lib.hid hp
      clear hp
      go_wp2_with fail
      go_ret2
      rw [HPP.out]
      exact ⟨rfl, k1⟩
end Go.Proofs.YtdogaaepiddnoaaGreatDoor
namespace Go.Proofs.YtdogaaepiddnoaaGreatDoor
open Go Go.RowKit

set_option maxRecDepth 100000 in
set_option maxHeartbeats 1000000 in
theorem cusable_val (s : Sls) (n : Nrm) (w : World) (hN : NormAt w s n) (hG : Glob w) : Calls Tryz.prog 108 #[s.val] w fun e w' => e = .returned (usableS s n).val ∧ Kept w w' := by
  have HN := Lib.hid hN
  have hk1 := Kept.alloc (Kept.refl w) (Obj.cells #[Value.slice s.Ac s.nc s.cc, Value.slice s.Am s.nm s.cm, Value.slice s.Ae s.ne s.ce] 28)
  have hk2 := Kept.alloc hk1 (Obj.cells #[Value.slice none 0 0, Value.slice none 0 0, Value.slice none 0 0] 28)
  have HC := Lib.hid (decCheck_any s n _ (hN.kept hk2) (hG.kept hk2))
  have HK2 := Lib.hid hk2
  have hx := alloc_lift (o := Obj.cells #[Value.slice none 0 0, Value.slice none 0 0, Value.slice none 0 0] 28) (box_block w (Obj.cells #[Value.slice s.Ac s.nc s.cc, Value.slice s.Am s.nm s.cm, Value.slice s.Ae s.ne s.ce] 28))
  have hy := box_block (w.alloc (Obj.cells #[Value.slice s.Ac s.nc s.cc, Value.slice s.Am s.nm s.cm, Value.slice s.Ae s.ne s.ce] 28)) (Obj.cells #[Value.slice none 0 0, Value.slice none 0 0, Value.slice none 0 0] 28)
  rw [show (w.alloc (Obj.cells #[Value.slice s.Ac s.nc s.cc, Value.slice s.Am s.nm s.cm, Value.slice s.Ae s.ne s.ce] 28)).heap.size = w.heap.size + 1 by simp] at hy
  have HX := Lib.hid hx
  have HY := Lib.hid hy
  clear hN hG hk1 hk2 hx hy
  by_cases h0 : decCheck n = 0
  · have hb0 : (decCheck n != 0) = false := by simp [h0]
    have HU := Lib.hid (show usableS s n = s from if_pos h0)
    clear h0
    unfold Sls.val
    go_enter Tryz.func108, Tryz.ntmps108
    go_wp2_with fail
    refine HC.out.mono ?_
    rintro e w1 ⟨rfl, hk3⟩
    have e1 := (hk3.block _ (block_lt HX.out)).trans HX.out
    have e2 := (hk3.block _ (block_lt HY.out)).trans HY.out
    have a0 := cell_of_block (i := 0) e1 rfl
    have a1 := cell_of_block (i := 1) e1 rfl
    have a2 := cell_of_block (i := 2) e1 rfl
    have b0 := cell_of_block (i := 0) e2 rfl
    have b1 := cell_of_block (i := 1) e2 rfl
    have b2 := cell_of_block (i := 2) e2 rfl
    have f0 := frozen_of_block (i := 0) e2
    have f1 := frozen_of_block (i := 1) e2
    have f2 := frozen_of_block (i := 2) e2
    have HE2 := Lib.hid e2
    simp only [List.getElem_toArray, List.getElem_cons_zero, List.getElem_cons_succ] at a0 a1 a2 b0 b1 b2
    clear e1 e2
    obtain ⟨bb, hbb⟩ : ∃ bb : Nat, bb = w.heap.size := ⟨_, rfl⟩
    have HBB := Lib.hid hbb
    rw [← hbb] at a0 a1 a2 b0 b1 b2 f0 f1 f2 HE2 ⊢
    clear hbb
    go_wp2_with fail
    have hc := cells3_set (v0 := .slice s.Ac s.nc s.cc) (v1 := .slice s.Am s.nm s.cm) (v2 := .slice s.Ae s.ne s.ce) HE2.out
    have g0 := cell_of_block (i := 0) hc rfl
    have g1 := cell_of_block (i := 1) hc rfl
    have g2 := cell_of_block (i := 2) hc rfl
    simp only [List.getElem_toArray, List.getElem_cons_zero, List.getElem_cons_succ] at g0 g1 g2
    clear a0 a1 a2 b0 b1 b2 f0 f1 f2
    refine bodyPost_ret (v := s.val) (by simp [results, Tryz.results108, go_sem, g0, g1, g2, Sls.val]) rfl ?_
    have hk4 := Kept.trans HK2.out hk3
    have hk5 : Kept w _ := Kept.setCell (Kept.setCell (Kept.setCell hk4 (p := ⟨bb + 1, 0, none⟩) (by rw [HBB.out]; exact Nat.le_succ _) (.slice s.Ac s.nc s.cc)) (p := ⟨bb + 1, 1, none⟩) (by rw [HBB.out]; exact Nat.le_succ _) (.slice s.Am s.nm s.cm)) (p := ⟨bb + 1, 2, none⟩) (by rw [HBB.out]; exact Nat.le_succ _) (.slice s.Ae s.ne s.ce)
    exact ⟨by rw [HU.out]; rfl, hk5⟩
  · have hb0 : (decCheck n != 0) = true := by simp [h0]
    have HU := Lib.hid (show usableS s n = emptyS from if_neg h0)
    clear h0
    unfold Sls.val
    go_enter Tryz.func108, Tryz.ntmps108
    go_wp2_with fail
    refine HC.out.mono ?_
    rintro e w1 ⟨rfl, hk3⟩
    have e2 := (hk3.block _ (block_lt HY.out)).trans HY.out
    have b0 := cell_of_block (i := 0) e2 rfl
    have b1 := cell_of_block (i := 1) e2 rfl
    have b2 := cell_of_block (i := 2) e2 rfl
    have f0 := frozen_of_block (i := 0) e2
    have f1 := frozen_of_block (i := 1) e2
    have f2 := frozen_of_block (i := 2) e2
    have HE2 := Lib.hid e2
    simp only [List.getElem_toArray, List.getElem_cons_zero, List.getElem_cons_succ] at b0 b1 b2
    clear e2
    obtain ⟨bb, hbb⟩ : ∃ bb : Nat, bb = w.heap.size := ⟨_, rfl⟩
    have HBB := Lib.hid hbb
    rw [← hbb] at b0 b1 b2 f0 f1 f2 HE2 ⊢
    clear hbb
    go_wp2_with fail
    have hc := cells3_set (v0 := .slice none 0 0) (v1 := .slice none 0 0) (v2 := .slice none 0 0) HE2.out
    have g0 := cell_of_block (i := 0) hc rfl
    have g1 := cell_of_block (i := 1) hc rfl
    have g2 := cell_of_block (i := 2) hc rfl
    simp only [List.getElem_toArray, List.getElem_cons_zero, List.getElem_cons_succ] at g0 g1 g2
    clear b0 b1 b2 f0 f1 f2
    refine bodyPost_ret (v := emptyS.val) (by simp [results, Tryz.results108, go_sem, g0, g1, g2, Sls.val, emptyS]) rfl ?_
    have hk4 := Kept.trans HK2.out hk3
    have hk5 : Kept w _ := Kept.setCell (Kept.setCell (Kept.setCell hk4 (p := ⟨bb + 1, 0, none⟩) (by rw [HBB.out]; exact Nat.le_succ _) (.slice none 0 0)) (p := ⟨bb + 1, 1, none⟩) (by rw [HBB.out]; exact Nat.le_succ _) (.slice none 0 0)) (p := ⟨bb + 1, 2, none⟩) (by rw [HBB.out]; exact Nat.le_succ _) (.slice none 0 0)
    exact ⟨by rw [HU.out]; rfl, hk5⟩
end Go.Proofs.YtdogaaepiddnoaaGreatDoor
