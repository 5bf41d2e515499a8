/- The reference's split of a text into identifiers. -/
import Derived.Deep.RegionHeld3
import Derived.Test.YtmlcdohldkgcdaaGreatDoorKSq
import Derived.Test.YtmlcdohldkgcdaaGreatDoorKIdB
import Derived.Test.YtmlcdohldkgcdaaGreatDoorKLawLongest39
import Derived.Test.YtmlcdohldkgcdaaGreatDoorKSet
namespace Go.Proofs.YtmlcdohldkgcdaaGreatDoor
open Go Go.RowKit
set_option maxRecDepth 100000 in
set_option maxHeartbeats 4000000 in
theorem r39Split (i : Ids) (r : IdR) (A : Option Addr) (nt ct : Nat) (text : List Int) (w : World) (hI : IdIn w i r) (hs : smallI r = true) (hnt : nt ≤ 1000) (hct : nt ≤ ct) (hT : Ints w A nt text) : Calls Tryz.prog 27 #[i.val, .slice A nt ct] w (RetRngs w (splitL r.b r.p r.c text)) := by
  have hk0_ := Kept.alloc (Kept.refl w) (Obj.cells #[Value.slice i.As i.ns i.cs, Value.slice i.Ac i.nc i.cc, Value.slice i.Am i.nm i.cm] 54)
  have HK1 := Lib.hid hk0_
  have hb0_ := (box_block w (Obj.cells #[Value.slice i.As i.ns i.cs, Value.slice i.Ac i.nc i.cc, Value.slice i.Am i.nm i.cm] 54))
  have x0_ := cell_of_block (i := 0) hb0_ rfl
  have x1_ := cell_of_block (i := 1) hb0_ rfl
  have x2_ := cell_of_block (i := 2) hb0_ rfl
  simp only [s4_, s5_, s6_] at x0_ x1_ x2_
  have HX0 := Lib.hid x0_
  have HX1 := Lib.hid x1_
  have HX2 := Lib.hid x2_
  have HB0 := Lib.hid hb0_
  clear x0_ x1_ x2_ hb0_
  have HVS := Lib.hid (fun lo hi w' (h1 : lo ≤ hi) (h2 : hi ≤ nt) (hk : Kept w w') => r39Valid i r (dropA A ct lo) (hi - lo) (ct - lo) ((text.drop lo).take (hi - lo)) w' (hI.kept hk) hs (by omega) (Ints.front_ (Ints.drop_ (hT.kept hk) (by omega) hct) (by omega)))
  have HN := Lib.hid hT.1
  have hbp := r.bp
  have HBP := Lib.hid hbp
  clear hbp
  obtain ⟨i0, hi, hz0, hz1, hz2⟩ := info_parts info_rng
  have HI0 := Lib.hid hi
  have HZ0 := Lib.hid hz0
  have HZ1 := Lib.hid hz1
  have HZ2 := Lib.hid hz2
  clear hi hz0 hz1 hz2 hI hs hT hk0_
  obtain ⟨B, hB⟩ : ∃ B : Nat, B = w.heap.size + 1 := ⟨_, rfl⟩
  have HBB := Lib.hid (show B = (w.alloc (Obj.cells #[Value.slice i.As i.ns i.cs, Value.slice i.Ac i.nc i.cc, Value.slice i.Am i.nm i.cm] 54)).heap.size by simp [hB])
  clear hB
  unfold Ids.val at *
  go_enter Tryz.func27, Tryz.ntmps27
  go_wp2_with fail
  go_loopw [5, 6] (fun p v wr => ∃ (k : Nat) (pre : List Rng), k ≤ nt ∧ v = .int .i64 k ∧ OwnR wr B p pre ∧ pre.length ≤ k ∧ splitL r.b r.p r.c text = pre ++ splitF r.b r.p r.c text.length k (text.drop k) ∧ Kept (w.alloc (Obj.cells #[Value.slice i.As i.ns i.cs, Value.slice i.Ac i.nc i.cc, Value.slice i.Am i.nm i.cm] 54)) wr) (fun _ v _ => nt - (intOf v).toNat)
  case atStart => exact ⟨0, [], Nat.zero_le _, rfl, (World.ownsRow_nil _ _ _ _ : OwnR (w.alloc (Obj.cells #[Value.slice i.As i.ns i.cs, Value.slice i.Ac i.nc i.cc, Value.slice i.Am i.nm i.cm] 54)) B (.slice none 0 0) []), Nat.le_refl _, rfl, Kept.refl _⟩
  case round =>
    obtain ⟨k, pre, hk, rfl, hown, hpl, hsp, hkw⟩ := hrel
    have HOW := Lib.hid hown
    have HSP := Lib.hid hsp
    have KW := Lib.hid hkw
    obtain ⟨Ao, co, hpv⟩ := OwnR.form hown
    subst hpv
    clear hown hsp hkw
    by_cases hlt : k < nt
    · have hl1 : (k : Int) < (nt : Int) := by omega
      obtain ⟨x, hx⟩ := getElem?_some_of_lt (l := text) (k := k) (by rw [← HN.out]; exact hlt)
      have HST := Lib.hid (split_step (b := r.b) (p := r.p) (c := r.c) (drop_some hx))
      have HLD := Lib.hid (show (text.drop k).length = nt - k by rw [List.length_drop, HN.out])
      clear hx
      go_wp2_with fail
      clear hl1
      go_loopw [7] (fun v ws => ∃ e : Nat, k ≤ e ∧ e ≤ nt ∧ v = .int .i64 e ∧ (∀ q, e - k < q → k + q ≤ nt → idValid r.b r.p r.c ((text.drop k).take q) = false) ∧ Kept wr ws) (fun v _ => (intOf v).toNat)
      case atStart => exact ⟨nt, by omega, Nat.le_refl _, rfl, fun q h1 h2 => by omega, Kept.refl _⟩
      case round =>
        obtain ⟨e, he1, he2, rfl, hno, hkw⟩ := hrel
        have HNO := Lib.hid hno
        have KV := Lib.hid hkw
        clear hno hkw
        by_cases hek : k < e
        · have hg1 : decide ((k : Int) < (e : Int)) = true := decide_eq_true (by omega)
          have hg2 : decide ((e : Int) > (k : Int)) = true := decide_eq_true (by omega)
          have hg3 : decide (k < e) = true := decide_eq_true (by omega)
          have hg4 : (k : Int) < (e : Int) := by omega
          have hg5 : (e : Int) > (k : Int) := by omega
          have HVX := Lib.hid (fun w' (hk : Kept w w') => HVS.out k e w' (by omega) he2 hk)
          cases hv : idValid r.b r.p r.c ((text.drop k).take (e - k))
          · rw [hv] at HVX
            have HV := Lib.hid hv
            clear hv
            have hs1 : IntKind.i64.wrap ((e : Int) - 1) = (e : Int) - 1 := IntWalk.i64_in _ (by omega)
            have hs2 : wrap64 ((e : Int) - 1) = (e : Int) - 1 := IntWalk.wrap64_in _ (by omega)
            have p0 := Kept.cell (Kept.trans KW.out KV.out) HX0.out
            have p1 := Kept.cell (Kept.trans KW.out KV.out) HX1.out
            have p2 := Kept.cell (Kept.trans KW.out KV.out) HX2.out
            have hrs := fun w => run_sub A nt ct k e (by omega) (by omega) w
            go_wp2_with fail
            refine wp_region_held_drew (S := (fun w' => w'.cell? ⟨w.heap.size, 0, none⟩ = some (.slice i.As i.ns i.cs) ∧ w'.cell? ⟨w.heap.size, 1, none⟩ = some (.slice i.Ac i.nc i.cc) ∧ w'.cell? ⟨w.heap.size, 2, none⟩ = some (.slice i.Am i.nm i.cm))) (by kernel_rfl) ⟨p0, p1, p2⟩ (fun hHeld => ?_)
            refine tk_ 0 ?_ rfl ?_; refine tk_ 1 ?_ rfl ?_; refine tk_ 2 ?_ rfl ?_; refine tk_ 3 ?_ rfl ?_; refine tk_ 4 ?_ rfl ?_; refine tk_ 5 ?_ rfl ?_; refine tk_ 6 ?_ rfl ?_; refine tk_ 7 ?_ rfl ?_; refine tk_ 8 ?_ rfl ?_
            refine rd_ 9 rfl (fun K hK => ?_)
            go_simp
            (refine (HVX.out _ (Kept.trans HK1.out (Kept.trans KW.out (Kept.trans KV.out (Kept.drew (Kept.refl _)))))).mono ?_; rintro e_ w3 ⟨rfl, k3⟩; have K3 := Lib.hid (Kept.trans (Kept.drew (Kept.refl wr)) k3); clear k3)
            go_wp2_with fail
            refine hK.out _ _ ⟨Kept.cell K3.out p0, Kept.cell K3.out p1, Kept.cell K3.out p2⟩ (fun hHeld => ?_)
            clear hK K
            (try simp only [Act.put, s1_, s2_, s3_, s4_, s5_, s6_])
            refine tk_ 10 ?_ rfl ?_; refine tk_ 11 ?_ rfl ?_
            refine wpAnyH_done (by kernel_rfl) ?_ _
            clear p0 p1 p2 hrs
            go_wp2_with fail
            go_roundw
            case rel => exact ⟨e - 1, by omega, by omega, by congr 1; omega, fun q h1 h2 => by
              by_cases hq : q = e - k
              · rw [hq]; exact HV.out
              · exact HNO.out q (by omega) h2, Kept.trans KV.out K3.out⟩
            case measure => simp [intOf]; omega
          · rw [hv] at HVX
            have hsc := longest_at (c := r.c) HBP.out (text.drop k) (e := e - k) (by rw [HLD.out]; omega) (fun _ => hv) (fun q h1 h2 => HNO.out q h1 (by rw [HLD.out] at h2; omega))
            have HS2 := Lib.hid (show splitL r.b r.p r.c text = (pre ++ [⟨(k : Int), (e : Int)⟩]) ++ splitF r.b r.p r.c text.length e (text.drop e) by rw [HSP.out, HST.out, if_neg (by rw [hsc]; omega), hsc, show k + (e - k) = e by omega]; simp)
            clear hv hsc
            have p0 := Kept.cell (Kept.trans KW.out KV.out) HX0.out
            have p1 := Kept.cell (Kept.trans KW.out KV.out) HX1.out
            have p2 := Kept.cell (Kept.trans KW.out KV.out) HX2.out
            have hrs := fun w => run_sub A nt ct k e (by omega) (by omega) w
            go_wp2_with fail
            refine wp_region_held_drew (S := (fun w' => w'.cell? ⟨w.heap.size, 0, none⟩ = some (.slice i.As i.ns i.cs) ∧ w'.cell? ⟨w.heap.size, 1, none⟩ = some (.slice i.Ac i.nc i.cc) ∧ w'.cell? ⟨w.heap.size, 2, none⟩ = some (.slice i.Am i.nm i.cm))) (by kernel_rfl) ⟨p0, p1, p2⟩ (fun hHeld => ?_)
            refine tk_ 0 ?_ rfl ?_; refine tk_ 1 ?_ rfl ?_; refine tk_ 2 ?_ rfl ?_; refine tk_ 3 ?_ rfl ?_; refine tk_ 4 ?_ rfl ?_; refine tk_ 5 ?_ rfl ?_; refine tk_ 6 ?_ rfl ?_; refine tk_ 7 ?_ rfl ?_; refine tk_ 8 ?_ rfl ?_
            refine rd_ 9 rfl (fun K hK => ?_)
            go_simp
            (refine (HVX.out _ (Kept.trans HK1.out (Kept.trans KW.out (Kept.trans KV.out (Kept.drew (Kept.refl _)))))).mono ?_; rintro e_ w3 ⟨rfl, k3⟩; have K3 := Lib.hid (Kept.trans (Kept.drew (Kept.refl wr)) k3); clear k3)
            go_wp2_with fail
            refine hK.out _ _ ⟨Kept.cell K3.out p0, Kept.cell K3.out p1, Kept.cell K3.out p2⟩ (fun hHeld => ?_)
            clear hK K
            (try simp only [Act.put, s1_, s2_, s3_, s4_, s5_, s6_])
            refine tk_ 10 ?_ rfl ?_; refine tk_ 11 ?_ rfl ?_
            refine wpAnyH_done (by kernel_rfl) ?_ _
            clear p0 p1 p2 hrs
            have K4 := Lib.hid (Kept.trans KV.out K3.out)
            have HO3 := Lib.hid (OwnR.kept HOW.out K4.out)
            have hbs : B ≤ w3.heap.size := by rw [HBB.out]; exact Nat.le_trans KW.out.size K4.out.size
            go_wp2_with (at_builtin; refine wpList_append_own _ rfl _ _ 24 rfl B 48 i0 (.agg #[.int .i64 0, .int .i64 0]) 2 16 Tryz.underlying24 HI0.out HZ0.out HZ1.out HZ2.out rfl (by decide) _ _ _ rfl (HO3.out.alloc _) ⟨w3.heap.size, 0, none⟩ 1 1 [.int .i64 (k : Int), .int .i64 (e : Int)] rfl rfl (cell_two_new (by simp)) (by simp [Value.oneCell']) (by unfold maxLen; omega) (by omega) (by simp; omega) ?_; intro v' w5 hown' hgrow _)
            have hown2 : OwnR w5 B v' (pre ++ [⟨(k : Int), (e : Int)⟩]) := by
              have := hown'
              simpa [OwnR, encR] using this
            have K5 := Lib.hid (show Kept (w.alloc (Obj.cells #[Value.slice i.As i.ns i.cs, Value.slice i.Ac i.nc i.cc, Value.slice i.Am i.nm i.cm] 54)) w5 from (Kept.trans KW.out (Kept.trans K4.out (Kept.alloc (Kept.refl w3) (Obj.cells #[Value.int .i64 (k : Int), Value.int .i64 (e : Int)] 48)))).grown hgrow (by simp; have := HBB.out; simp at this; omega) (fun q he => by have := (World.ownsRow.lt HO3.out q he).1; have := HBB.out; omega))
            have HO5 := Lib.hid hown2
            clear hown' hown2
            go_wp2_with fail
            go_roundw
            case rel => exact ⟨e, pre ++ [⟨(k : Int), (e : Int)⟩], he2, rfl, HO5.out, by simp; omega, HS2.out, K5.out⟩
            case measure => simp [intOf]; omega
        · have hke : e = k := by omega
          subst hke
          have hg1 : decide ((e : Int) < (e : Int)) = false := decide_eq_false (by omega)
          have hg2 : decide ((e : Int) > (e : Int)) = false := decide_eq_false (by omega)
          have hg3 : decide (e < e) = false := decide_eq_false (by omega)
          have hsc := longest_at (c := r.c) HBP.out (text.drop e) (e := 0) (Nat.zero_le _) (fun h => by omega) (fun q h1 h2 => HNO.out q (by omega) (by rw [HLD.out] at h2; omega))
          have HS2 := Lib.hid (show splitL r.b r.p r.c text = pre ++ splitF r.b r.p r.c text.length (e + 1) (text.drop (e + 1)) by rw [HSP.out, HST.out, if_pos hsc])
          clear hsc
          have p0 := Kept.cell (Kept.trans KW.out KV.out) HX0.out
          have p1 := Kept.cell (Kept.trans KW.out KV.out) HX1.out
          have p2 := Kept.cell (Kept.trans KW.out KV.out) HX2.out
          go_wp2_with fail
          refine wp_region_held_drew (S := (fun w' => w'.cell? ⟨w.heap.size, 0, none⟩ = some (.slice i.As i.ns i.cs) ∧ w'.cell? ⟨w.heap.size, 1, none⟩ = some (.slice i.Ac i.nc i.cc) ∧ w'.cell? ⟨w.heap.size, 2, none⟩ = some (.slice i.Am i.nm i.cm))) (by kernel_rfl) ⟨p0, p1, p2⟩ (fun hHeld => ?_)
          refine tk_ 0 ?_ rfl ?_; refine tk_ 1 ?_ rfl ?_; refine tk_ 2 ?_ rfl ?_; refine tk_ 3 ?_ rfl ?_; refine sk_ 4 rfl ?_; refine sk_ 5 rfl ?_; refine sk_ 6 rfl ?_; refine sk_ 7 rfl ?_; refine sk_ 8 rfl ?_; refine sk_ 9 rfl ?_; refine sk_ 10 rfl ?_; refine tk_ 11 ?_ rfl ?_
          refine wpAnyH_done (by kernel_rfl) ?_ _
          clear p0 p1 p2
          have K4 := Lib.hid (Kept.drew KV.out)
          have HO3 := Lib.hid (OwnR.kept HOW.out K4.out)
          go_wp2_with fail
          go_roundw
          case rel => exact ⟨e + 1, pre, by omega, by go_num, HO3.out, by omega, HS2.out, Kept.trans KW.out K4.out⟩
          case measure => simp [intOf]; omega
    · have hl1 : ¬ (k : Int) < (nt : Int) := by omega
      have hkn : k = nt := by omega
      have HS2 := Lib.hid (show splitL r.b r.p r.c text = pre by rw [HSP.out, split_end (by rw [← HN.out]; omega)]; simp)
      obtain ⟨A3, c3, hv3, hle3, hsl3⟩ := Sl.of_own (k := 2) (enc := encR) (fun _ => rfl) HOW.out
      injection hv3 with e1 e2 e3
      subst e1 e3
      go_wp2_with fail
      go_ret
      exact ⟨_, _, _, rfl, hle3, by rw [HS2.out]; exact hsl3, Kept.trans HK1.out KW.out⟩
end Go.Proofs.YtmlcdohldkgcdaaGreatDoor
