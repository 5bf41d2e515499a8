/- The reference's Longest of layer 27. -/
import Derived.Test.YtdogaaepiddnoaaGreatDoorKRefW
import Derived.Test.YtdogaaepiddnoaaGreatDoorKRgx
import Derived.Test.YtdogaaepiddnoaaGreatDoorKSag
namespace Go.Proofs.YtdogaaepiddnoaaGreatDoor
open Go Go.RowKit

theorem field_clsX (A : Option Addr) (n c : Nat) (u v : Value) (w : World) : Sem.run Tryz.prog (Instr.field 28 (.agg #[.slice A n c, u, v]) 0) w = .ok (.slice A n c) w := by kernel_rfl
theorem mrun_zero {cls : Int → Int} (h : ∀ x, cls x = 0) : ∀ t : List Int, mrun cls 0 t = 0
  | [] => rfl
  | c :: t => by rw [mrun, if_pos (h c), mrun_zero h t]; rfl
theorem ssLong_usable (n : Nrm) (text : List Int) : ssLong n text = mrun (classOf (usableN n).classes) 0 (textOf n true text) := by
  unfold ssLong
  by_cases hd : decCheck n = 0
  · rw [if_neg (by simp [hd]), usable_ok hd]
  · rw [if_pos hd, mrun_zero]
    intro x
    rw [show usableN n = emptyN from if_neg hd]
    rfl

set_option maxRecDepth 100000 in
set_option maxHeartbeats 4000000 in
theorem r27longest (s : Sls) (n : Nrm) (A : Option Addr) (nt ct : Nat) (text : List Int) (w : World) (hN : NormAt w s n) (htag : ∀ m ∈ n.decomp, m.tag.size ≤ 1000) (hnt : nt ≤ 1000) (hT : Ints w A nt text) :
    Calls Tryz.prog 14 #[s.val, .slice A nt ct] w (RetI w (ssLong n text)) := by
  have hk1 := Kept.alloc (Kept.refl w) (Obj.cells #[Value.slice s.Ac s.nc s.cc, Value.slice s.Am s.nm s.cm, Value.slice s.Ae s.ne s.ce] 28)
  have hbx := box_cell w #[Value.slice s.Ac s.nc s.cc, Value.slice s.Am s.nm s.cm, Value.slice s.Ae s.ne s.ce] 28
  have x0 : (w.alloc (Obj.cells #[Value.slice s.Ac s.nc s.cc, Value.slice s.Am s.nm s.cm, Value.slice s.Ae s.ne s.ce] 28)).cell? ⟨w.heap.size, 0, none⟩ = some (.slice s.Ac s.nc s.cc) := hbx 0
  have x1 : (w.alloc (Obj.cells #[Value.slice s.Ac s.nc s.cc, Value.slice s.Am s.nm s.cm, Value.slice s.Ae s.ne s.ce] 28)).cell? ⟨w.heap.size, 1, none⟩ = some (.slice s.Am s.nm s.cm) := hbx 1
  have x2 : (w.alloc (Obj.cells #[Value.slice s.Ac s.nc s.cc, Value.slice s.Am s.nm s.cm, Value.slice s.Ae s.ne s.ce] 28)).cell? ⟨w.heap.size, 2, none⟩ = some (.slice s.Ae s.ne s.ce) := hbx 2
  have HX0 := Lib.hid x0
  have HX1 := Lib.hid x1
  have HX2 := Lib.hid x2
  have HK1 := Lib.hid hk1
  have hNU := usableS_at hN
  have HD := Lib.hid (fun w' (hk : Kept w w') => r21data s n w' (hN.kept hk) htag)
  have HTX := Lib.hid (fun w' (hk : Kept w w') => r21text s n A nt ct text true w' (hN.kept hk) htag (by omega) (hT.kept hk))
  have HXL := Lib.hid (show (textOf n true text).length ≤ 64000 by have := textOf_length n true text; have := hT.1; omega)
  have HRN := Lib.hid (fun A2 n2 c2 w' (hk : Kept w w') (h2 : n2 ≤ 64000) (hI : Ints w' A2 n2 (textOf n true text)) => r20Runs (usableS s n).Ac (usableS s n).nc (usableS s n).cc (usableN n).classes A2 n2 c2 (textOf n true text) w' (by have := hNU.bc; omega) (by omega) (hNU.kept hk).cls hI)
  rw [usableN_spans] at HRN
  have HR := Lib.hid (ssLong_usable n text)
  clear hN htag hk1 hbx x0 x1 x2 hNU hT
  generalize usableS s n = s1 at *
  generalize textOf n true text = X at *
  generalize classOf (usableN n).classes = cls at *
  have hfd := fun w' => field_clsX s1.Ac s1.nc s1.cc (.slice s1.Am s1.nm s1.cm) (.slice s1.Ae s1.ne s1.ce) w'
  unfold Sls.val at *
  go_enter Tryz.func14, Tryz.ntmps14
  have p0 := HX0.out
  have p1 := HX1.out
  have p2 := HX2.out
  go_wp2_with fail
  refine wp_region_held_drew (S := (fun w' => w'.cell? ⟨w.heap.size, 0, none⟩ = some (.slice s.Ac s.nc s.cc) ∧ w'.cell? ⟨w.heap.size, 1, none⟩ = some (.slice s.Am s.nm s.cm) ∧ w'.cell? ⟨w.heap.size, 2, none⟩ = some (.slice s.Ae s.ne s.ce))) (by kernel_rfl) ⟨p0, p1, p2⟩ (fun hHeld => ?_)
  refine wpAnyH_take (i := 0) (v := ?_) rfl (by kernel_rfl) (by kernel_rfl) (by kernel_rfl) (fun _ _ _ h => h) (Or.inl ⟨by rfl, ?_⟩) (by assumption) ?_
  rotate_left
  · (intro w hSw; (try dsimp only at hSw); go_simp; (try with_reducible rfl))
  simp only [Act.put, List.setIfInBounds_toArray, List.set_cons_zero, List.set_cons_succ, List.getElem_toArray, List.getElem_cons_zero]
  refine wpAnyH_take (i := 3) (v := ?_) rfl (by kernel_rfl) (by kernel_rfl) (by kernel_rfl) (fun _ _ _ h => h) (Or.inl ⟨by rfl, ?_⟩) (by assumption) ?_
  rotate_left
  · (intro w hSw; (try dsimp only at hSw); go_simp; (try with_reducible rfl))
  simp only [Act.put, List.setIfInBounds_toArray, List.set_cons_zero, List.set_cons_succ, List.getElem_toArray, List.getElem_cons_zero, List.getElem_cons_succ]
  refine wpAnyH_take (i := 4) (v := ?_) rfl (by kernel_rfl) (by kernel_rfl) (by kernel_rfl) (fun _ _ _ h => h) (Or.inl ⟨by rfl, ?_⟩) (by assumption) ?_
  rotate_left
  · (intro w hSw; (try dsimp only at hSw); go_simp; (try with_reducible rfl))
  simp only [Act.put, List.setIfInBounds_toArray, List.set_cons_zero, List.set_cons_succ, List.getElem_toArray, List.getElem_cons_zero, List.getElem_cons_succ]
  refine wpAnyH_ready (rs := [1]) (by kernel_rfl) (by simp) ?_
  refine AllReadyH.cons rfl (fun K hK => ?_) AllReadyH.nil
  go_simp
  (refine (HD.out _ (Kept.drew HK1.out)).mono ?_; rintro e w1 ⟨rfl, k1⟩; have KB1 := Lib.hid (Kept.trans (Kept.drew (Kept.refl (w.alloc (Obj.cells #[Value.slice s.Ac s.nc s.cc, Value.slice s.Am s.nm s.cm, Value.slice s.Ae s.ne s.ce] 28)))) k1); clear k1)
  go_wp2_with fail
  refine hK.out _ _ ⟨Kept.cell KB1.out HX0.out, Kept.cell KB1.out HX1.out, Kept.cell KB1.out HX2.out⟩ (fun hHeld => ?_)
  clear hK K
  (try simp only [Act.put, List.setIfInBounds_toArray, List.set_cons_zero, List.set_cons_succ, List.getElem_toArray, List.getElem_cons_zero, List.getElem_cons_succ])
  refine wpAnyH_take (i := 2) (v := ?_) rfl (by kernel_rfl) (by kernel_rfl) (by kernel_rfl) (fun _ _ _ h => h) (Or.inl ⟨by rfl, ?_⟩) (by assumption) ?_
  rotate_left
  · (intro w hSw; (try dsimp only at hSw); go_simp; (try with_reducible rfl))
  simp only [Act.put, List.setIfInBounds_toArray, List.set_cons_zero, List.set_cons_succ, List.getElem_toArray, List.getElem_cons_zero, List.getElem_cons_succ]
  refine wpAnyH_ready (rs := [5]) (by kernel_rfl) (by simp) ?_
  refine AllReadyH.cons rfl (fun K hK => ?_) AllReadyH.nil
  go_simp
  (refine (HTX.out _ (Kept.trans HK1.out KB1.out)).mono ?_; rintro e w2 ⟨A2, n2, c2, rfl, le2, i2, k2⟩; have I2 := Lib.hid i2; clear i2; have KB2 := Lib.hid (Kept.trans KB1.out k2); clear k2)
  go_wp2_with fail
  refine hK.out _ _ ⟨Kept.cell KB2.out HX0.out, Kept.cell KB2.out HX1.out, Kept.cell KB2.out HX2.out⟩ (fun hHeld => ?_)
  clear hK K
  (try simp only [Act.put, List.setIfInBounds_toArray, List.set_cons_zero, List.set_cons_succ, List.getElem_toArray, List.getElem_cons_zero, List.getElem_cons_succ])
  refine wpAnyH_ready (rs := [6]) (by kernel_rfl) (by simp) ?_
  refine AllReadyH.cons rfl (fun K hK => ?_) AllReadyH.nil
  go_simp
  (refine (HRN.out A2 n2 c2 _ (Kept.trans HK1.out KB2.out) (by rw [I2.out.1]; exact HXL.out) I2.out).mono ?_; rintro e w3 ⟨A3, n3, c3, rfl, le3, i3, k3⟩; have I3 := Lib.hid i3; clear i3; have KB3 := Lib.hid (Kept.trans KB2.out k3); clear k3)
  go_wp2_with fail
  refine hK.out _ _ ⟨Kept.cell KB3.out HX0.out, Kept.cell KB3.out HX1.out, Kept.cell KB3.out HX2.out⟩ (fun hHeld => ?_)
  clear hK K
  (try simp only [Act.put, List.setIfInBounds_toArray, List.set_cons_zero, List.set_cons_succ, List.getElem_toArray, List.getElem_cons_zero, List.getElem_cons_succ])
  refine wpAnyH_take (i := 7) (v := ?_) rfl (by kernel_rfl) (by kernel_rfl) (by kernel_rfl) (fun _ _ _ h => h) (Or.inl ⟨by rfl, ?_⟩) (by assumption) ?_
  rotate_left
  · (intro w hSw; (try dsimp only at hSw); go_simp; (try with_reducible rfl))
  simp only [Act.put, List.setIfInBounds_toArray, List.set_cons_zero, List.set_cons_succ, List.getElem_toArray, List.getElem_cons_zero, List.getElem_cons_succ]
  refine wpAnyH_done (by kernel_rfl) ?_ _
  have HN3 := Lib.hid I3.out.1
  have hn3 : n3 ≤ 64000 := by have h1 := runsT_length cls X; have h2 := HXL.out; rw [HN3.out]; omega
  have K3 := Lib.hid (Kept.trans HK1.out KB3.out)
  clear p0 p1 p2 hfd
  unfold runsT at I3 HN3
  go_wp2_with fail
  go_loopw [6, 7] (fun p i wr => ∃ (k : Nat) (a : Int), k ≤ n3 ∧ i = .int .i64 k ∧ p = .int .i64 a ∧ a = longR ((runsFrom cls 0 none X).take k) ∧ 0 ≤ a ∧ a ≤ 64000 ∧ Kept w3 wr) (fun _ i _ => n3 - (intOf i).toNat)
  case atStart => exact ⟨0, 0, Nat.zero_le _, rfl, rfl, by simp [longR], by omega, by omega, Kept.refl _⟩
  case round =>
    obtain ⟨k, a, hk, rfl, rfl, ha, ha0, ha1, hkw⟩ := hrel
    have HA := Lib.hid ha
    have HKW := Lib.hid hkw
    clear ha
    by_cases hlt : k < n3
    · obtain ⟨b6, off6, r, hA5, hr, c60, c61⟩ := rng_at (Sl.kept I3.out hkw) hlt
      have HSS := Lib.hid (longR_succ hr)
      obtain ⟨lo, hi, h1, h2, h3, h4⟩ := runs_lt cls X r (List.mem_of_getElem? hr)
      obtain ⟨rlo, rhi⟩ := r
      simp only at h1 h2 c60 c61
      subst h1
      subst h2
      have hh : hi ≤ 64000 := by have := HXL.out; omega
      rw [hA5]
      have hw : IntKind.i64.wrap ((hi : Int) - (lo : Int)) = (hi : Int) - (lo : Int) := IntWalk.i64_in _ (by omega)
      have g1 : (0 : Int) ≤ (k : Int) := by omega
      have g2 : (k : Int) < (n3 : Int) := by omega
      have HK4 := Lib.hid (Kept.drew HKW.out)
      clear hr h4 hkw
      go_wp2_with fail
      go_region
      go_wp2_with fail
      go_roundw
      case rel => exact ⟨k + 1, max a ((hi : Int) - lo), by omega, by go_num, by go_num, by rw [HSS.out, HA.out], by omega, by omega, HK4.out⟩
      case measure => simp [intOf]; omega
    · have hfull : (runsFrom cls 0 none X).take k = runsFrom cls 0 none X := List.take_of_length_le (by have := HN3.out; omega)
      have hv : a = (ssLong n text : Nat) := by rw [HA.out, hfull, HR.out, longR_eq]
      have HV := Lib.hid hv
      clear hfull hv hkw
      go_wp2_with fail
      go_ret
      exact ⟨ret_int HV.out, Kept.trans K3.out HKW.out⟩
end Go.Proofs.YtdogaaepiddnoaaGreatDoor
