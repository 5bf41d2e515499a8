/- normstream: Write, Close. -/
import Derived.Deep.RegionHeld3
import Derived.Test.YtomgchfjachedaaGreatDoorKSq
import Derived.Test.YtomgchfjachedaaGreatDoorKStrC
import Derived.Test.YtomgchfjachedaaGreatDoorKPl60
namespace Go.Proofs.YtomgchfjachedaaGreatDoor
open Go Go.RowKit
section
variable {w w1 w2 : World} {B0 b : Nat} {n : Nrm} {form : Int} {pend : List Int} {s : Sls} {wd : World} {pv : Value} {F : Nat → Prop}
theorem StrIn.add (h : StrIn w B0 b n form pend s wd pv F) {v1 : Value} {xs : List Int} (hB : B0 ≤ w.heap.size) (hb : w1.heap[b]? = some (.cells #[v1, .slice s.Ac s.nc s.cc, .slice s.Am s.nm s.cm, .slice s.Ae s.ne s.ce, .int .i64 form, .bool true] 51 (0, 0))) (ho : OwnI w1 0 v1 xs)
    (hat : v1.ownBlock = pv.ownBlock ∨ v1.ownBlock = some w.heap.size) (hk : KeptBut (b :: pv.ownBlock.toList) w w1) : StrIn w1 B0 b n form xs s wd v1 (fun i => F i ∨ w.heap.size ≤ i ∧ i < w1.heap.size) := by
  refine ⟨hb, ho, h.nat, fun p v hc => ?_, .inl h.hb, fun g hg => ?_, fun i hi => ?_⟩
  · obtain ⟨h1, h2, h3, h4⟩ := h.cov p v hc
    have hlt := (h.lt _ h2).2
    refine ⟨hk.cell h1 (fun hm => ?_), .inl h2, h3, ?_⟩
    · rcases List.mem_cons.1 hm with e | e
      · exact h3 e
      · exact h4 (by simpa using e)
    · rcases hat with e | e
      · rw [e]; exact h4
      · rw [e]; intro e2; injection e2 with e2; omega
  · rcases hat with e | e
    · exact .inl (h.hp g (by rw [← e]; exact hg))
    · have hlt := (World.ownsRow.lt ho g hg).2
      rw [hg] at e
      injection e with e
      exact .inr ⟨by omega, hlt⟩
  · rcases hi with hi | hi
    · exact ⟨(h.lt i hi).1, Nat.lt_of_lt_of_le (h.lt i hi).2 hk.size⟩
    · exact ⟨by omega, hi.2⟩
theorem StrIn.cut (h : StrIn w B0 b n form pend s wd pv F) {v1 : Value} {xs : List Int} (hB : B0 ≤ w.heap.size) (hb : w1.heap[b]? = some (.cells #[v1, .slice s.Ac s.nc s.cc, .slice s.Am s.nm s.cm, .slice s.Ae s.ne s.ce, .int .i64 form, .bool true] 51 (0, 0))) (ho : OwnI w1 w.heap.size v1 xs)
    (hk : KeptBut [b] w w1) : StrIn w1 B0 b n form xs s wd v1 (fun i => F i ∨ w.heap.size ≤ i ∧ i < w1.heap.size) := by
  have hfar : ∀ g, v1.ownBlock = some g → w.heap.size ≤ g ∧ g < w1.heap.size := fun g hg => World.ownsRow.lt ho g hg
  refine ⟨hb, own_lowS ho (Nat.zero_le _), h.nat, fun p v hc => ?_, .inl h.hb, fun g hg => .inr (hfar g hg), fun i hi => ?_⟩
  · obtain ⟨h1, h2, h3, h4⟩ := h.cov p v hc
    have hlt := (h.lt _ h2).2
    exact ⟨hk.cell h1 (by simpa using h3), .inl h2, h3, fun e => by have := (hfar _ e).1; omega⟩
  · rcases hi with hi | hi
    · exact ⟨(h.lt i hi).1, Nat.lt_of_lt_of_le (h.lt i hi).2 hk.size⟩
    · exact ⟨by omega, hi.2⟩
theorem StrIn.kfAdd (h : StrIn w B0 b n form pend s wd pv F) (hk : KeptBut (b :: pv.ownBlock.toList) w w1) : KF F w w1 := KF.ofBut hk (fun i hi => by
  rcases List.mem_cons.1 hi with e | e
  · rw [e]; exact h.hb
  · exact h.hp i (by simpa using e))
end
def RetWr (w : World) (B0 b : Nat) (n : Nrm) (form : Int) (pend text : List Int) (F : Nat → Prop) (e : Ending) (w' : World) : Prop :=
  if 65536 < (wrPend (boundB n form) pend text).length then e = .returned (.tuple #[.slice none 0 0, .int .i64 13]) ∧ StrOff w' b ∧ KF F w w'
  else ∃ (A : Option Addr) (m c : Nat) (F' : Nat → Prop), e = .returned (.tuple #[.slice A m c, .int .i64 0]) ∧ m ≤ c ∧ Ints w' A m (wrOut n form pend text) ∧ (∀ a, A = some a → w.heap.size ≤ a.block ∧ ¬ F' a.block) ∧ StrAt w' B0 b n form (wrPend (boundB n form) pend text) F' ∧ (∀ i, F' i → F i ∨ w.heap.size ≤ i) ∧ KF F w w'
theorem wr_none {n : Nrm} {form : Int} {pend text : List Int} (h : (bndI n form text).length = 0) : wrPend (boundB n form) pend text = pend ++ text ∧ wrOut n form pend text = formOf n form [] := by
  have hb : bnds (boundB n form) 0 text = [] := by
    unfold bndI at h
    rw [List.length_map] at h
    exact List.length_eq_zero_iff.1 h
  unfold wrPend wrOut wrK
  rw [if_pos hb]
  exact ⟨rfl, rfl⟩
theorem wr_some {n : Nrm} {form : Int} {pend text : List Int} {k : Nat} (h : (bndI n form text).length = k + 1) : wrPend (boundB n form) pend text = (pend ++ text).drop (pend.length + jFrom n form text) ∧ wrOut n form pend text = formOf n form ((pend ++ text).take (pend.length + jFrom n form text)) ∧ jFrom n form text ≤ text.length := by
  have hb : ¬ bnds (boundB n form) 0 text = [] := fun hb => by
    unfold bndI at h
    rw [List.length_map, hb] at h
    cases h
  unfold wrPend wrOut wrK
  rw [if_neg hb]
  exact ⟨rfl, rfl, (lastBd_spec (boundB n form) text.length text rfl).1⟩
set_option maxRecDepth 100000 in
set_option maxHeartbeats 8000000 in
theorem write_any (B0 b : Nat) (n : Nrm) (form : Int) (pend : List Int) (F : Nat → Prop) (A : Option Addr) (nt ct : Nat) (text : List Int) (w : World) (hS : StrAt w B0 b n form pend F) (hG : GlobB B0 w) (hB0 : B0 ≤ w.heap.size) (hp : pend.length ≤ 65536) (hnt : nt ≤ 70000) (hT : Ints w A nt text) (hTF : 0 < nt → ∀ a, A = some a → ¬ F a.block) :
    Calls Tryz.prog 25 #[.pointer (some ⟨b, 0, none⟩), .slice A nt ct] w (RetWr w B0 b n form pend text F) := by
  obtain ⟨s, wd, pv, h⟩ := hS
  obtain ⟨Ap, cp, rfl, hle, hIp⟩ := OwnI.sl h.own
  obtain ⟨np, hnp⟩ : ∃ np : Nat, np = pend.length := ⟨_, rfl⟩
  rw [← hnp] at h hle hp
  have H := Lib.hid h
  have HT := Lib.hid hT
  have HTF := Lib.hid hTF
  have HG := Lib.hid hG
  have HNP := Lib.hid hnp
  have HTN := Lib.hid hT.1
  have HADD := Lib.hid (add_any b (.slice Ap np cp) (.slice s.Ac s.nc s.cc) (.slice s.Am s.nm s.cm) (.slice s.Ae s.ne s.ce) (.int .i64 form) (.bool true) pend text A nt ct w h.cell h.own hT (by have := hT.1; omega))
  have p0 := cell_of_block (i := 0) h.cell rfl
  have p5 := cell_of_block (i := 5) h.cell rfl
  simp only [s4_, s5_, s6_] at p0 p5
  clear h hIp hle hT hTF hG hnp
  go_enter Tryz.func25, Tryz.ntmps25
  go_wp2_with fail
  refine HADD.out.mono ?_
  rintro e w1 ⟨rfl, v1, hb1, ho1, hat1, kb1⟩
  have H1 := Lib.hid (H.out.add hB0 hb1 ho1 hat1 kb1)
  have KF1 := Lib.hid (H.out.kfAdd kb1)
  have HT1 := Lib.hid (HT.out.kf KF1.out HTF.out)
  have HG1 := Lib.hid (HG.out.go (KF1.out.below (fun i hi => (H.out.lt i hi).1) hB0))
  have HS1 := Lib.hid kb1.size
  have HN1 := Lib.hid H1.out.at_
  have p1 := cell_of_block (i := 1) hb1 rfl
  have p2 := cell_of_block (i := 2) hb1 rfl
  have p3 := cell_of_block (i := 3) hb1 rfl
  have p4 := cell_of_block (i := 4) hb1 rfl
  simp only [s4_, s5_, s6_] at p1 p2 p3 p4
  have HBO := Lib.hid (fun w' (hk : Kept w1 w') => bounds_new s n form A nt ct text w' (HN1.out.kept hk) (HG1.out.here.kept hk) (by omega) (HT1.out.kept hk))
  have HP := Lib.hid (And.intro p1 (And.intro p2 (And.intro p3 p4)))
  clear hb1 ho1 hat1 kb1 HADD p0 p5
  go_wp2_with fail
  refine wp_region_held_drew (S := (fun w' => w'.cell? ⟨b, 1, none⟩ = some (.slice s.Ac s.nc s.cc) ∧ w'.cell? ⟨b, 2, none⟩ = some (.slice s.Am s.nm s.cm) ∧ w'.cell? ⟨b, 3, none⟩ = some (.slice s.Ae s.ne s.ce) ∧ w'.cell? ⟨b, 4, none⟩ = some (.int .i64 form))) (by kernel_rfl) ⟨p1, p2, p3, p4⟩ (fun hHeld => ?_)
  refine tk_ 0 ?_ rfl ?_; refine tk_ 1 ?_ rfl ?_; refine tk_ 2 ?_ rfl ?_; refine tk_ 3 ?_ rfl ?_; refine tk_ 4 ?_ rfl ?_; refine tk_ 5 ?_ rfl ?_; refine tk_ 6 ?_ rfl ?_; refine tk_ 7 ?_ rfl ?_; refine tk_ 8 ?_ rfl ?_
  refine rd_ 9 rfl (fun K hK => ?_)
  go_simp
  (refine (HBO.out _ (Kept.drew (Kept.refl w1))).mono ?_; rintro e w2 ⟨A2, n2, c2, rfl, le2, i2, fr2, k2⟩; have I2 := Lib.hid i2; have FR2 := Lib.hid fr2; have K2 := Lib.hid (Kept.trans (Kept.drew (Kept.refl w1)) k2); clear i2 fr2 k2)
  go_wp2_with fail
  refine hK.out _ _ ⟨Kept.cell K2.out HP.out.1, Kept.cell K2.out HP.out.2.1, Kept.cell K2.out HP.out.2.2.1, Kept.cell K2.out HP.out.2.2.2⟩ (fun hHeld => ?_)
  clear hK K
  (try simp only [Act.put, s1_, s2_, s3_, s4_, s5_, s6_])
  refine tk_ 10 ?_ rfl ?_
  refine wpAnyH_done (by kernel_rfl) ?_ _
  clear p1 p2 p3 p4
  have hP2 : n2 ≤ 100000 := by rw [I2.out.1]; have := bndI_length n form text; have := HTN.out; omega
  have H2 := Lib.hid (H1.out.kept K2.out)
  have hn2e : n2 = (bndI n form text).length := I2.out.1
  have HN2E := Lib.hid hn2e
  clear hn2e
  rcases Nat.eq_zero_or_pos n2 with hz | hz
  · have hwn := wr_none (n := n) (form := form) (pend := pend) (text := text) (HN2E.out.symm.trans hz)
    have HWN := Lib.hid hwn
    have HRW := Lib.hid (show (fun i => F i ∨ w.heap.size ≤ i ∧ i < w1.heap.size) = (fun i => F i ∨ w.heap.size ≤ i ∧ i < w1.heap.size) from rfl)
    have HR := Lib.hid (fun e w' => RetWr.eq_1 w B0 b n form pend text F e w')
    clear hwn HRW
    have KF2 := Lib.hid (KF.trans KF1.out (KF.of K2.out))
    obtain ⟨Aq, cq, hvq, leq, iq⟩ := OwnI.sl H2.out.own
    obtain ⟨nq, hnq⟩ : ∃ nq : Nat, nq = (wrPend (boundB n form) pend text).length := ⟨_, rfl⟩
    rw [HWN.out.1] at hnq
    rw [← hnq] at hvq
    have HNQ := Lib.hid hnq
    have HVQ := Lib.hid hvq
    have r0 := cell_of_block (i := 0) H2.out.cell rfl
    have r1 := cell_of_block (i := 1) H2.out.cell rfl
    have r2 := cell_of_block (i := 2) H2.out.cell rfl
    have r3 := cell_of_block (i := 3) H2.out.cell rfl
    have r4 := cell_of_block (i := 4) H2.out.cell rfl
    simp only [s4_, s5_, s6_] at r0 r1 r2 r3 r4
    rw [hvq] at r0
    have HP2 := Lib.hid (And.intro r1 (And.intro r2 (And.intro r3 r4)))
    have HNQ2 := Lib.hid H2.out.at_
    have HGQ := Lib.hid (HG.out.go (KF2.out.below (fun i hi => (H.out.lt i hi).1) hB0))
    have hnq2 : nq ≤ 200000 := by rw [hnq]; simp only [List.length_append]; have := HNP.out; have := HTN.out; omega
    have HFO := Lib.hid (fun w' (hk : Kept w2 w') => form_new s n form none 0 0 [] w' (HNQ2.out.kept hk) (HGQ.out.here.kept hk) (by omega) (Sl.nil))
    have HSH := Lib.hid (shut_any b _ _ _ _ _ _ w2 H2.out.cell)
    clear hvq hnq iq leq
    by_cases hbig : 65536 < nq
    · have HBG := Lib.hid (show 65536 < (wrPend (boundB n form) pend text).length by rw [HWN.out.1, ← HNQ.out]; exact hbig)
      go_wp2_with fail
      refine HSH.out.mono ?_
      rintro e w5 ⟨rfl, rfl⟩
      have HOFF := Lib.hid (zeroStr_off H2.out.cell)
      have KZ := Lib.hid (KF.trans KF2.out (KF.ofBut (F := F) (zeroStr_but w2 b) (fun i hi => by rw [List.mem_singleton.1 hi]; exact H.out.hb)))
      clear r0 r1 r2 r3 r4
      generalize zeroStr b w2 = w5 at *
      go_wp2_with fail
      go_ret2
      rw [HR.out, if_pos HBG.out]
      exact ⟨rfl, HOFF.out, KZ.out⟩
    · have HBG := Lib.hid (show ¬ 65536 < (wrPend (boundB n form) pend text).length by rw [HWN.out.1, ← HNQ.out]; exact hbig)
      go_wp2_with fail
      refine wp_region_held_drew (S := (fun w' => w'.cell? ⟨b, 1, none⟩ = some (.slice s.Ac s.nc s.cc) ∧ w'.cell? ⟨b, 2, none⟩ = some (.slice s.Am s.nm s.cm) ∧ w'.cell? ⟨b, 3, none⟩ = some (.slice s.Ae s.ne s.ce) ∧ w'.cell? ⟨b, 4, none⟩ = some (.int .i64 form))) (by kernel_rfl) ⟨r1, r2, r3, r4⟩ (fun hHeld => ?_)
      refine tk_ 0 ?_ rfl ?_; refine tk_ 1 ?_ rfl ?_; refine tk_ 2 ?_ rfl ?_; refine tk_ 3 ?_ rfl ?_; refine tk_ 4 ?_ rfl ?_; refine tk_ 5 ?_ rfl ?_; refine tk_ 6 ?_ rfl ?_; refine tk_ 7 ?_ rfl ?_; refine tk_ 8 ?_ rfl ?_
      refine rd_ 9 rfl (fun K hK => ?_)
      go_simp
      (refine (HFO.out _ (Kept.drew (Kept.refl w2))).mono ?_; rintro e w6 ⟨A6, n6, c6, rfl, le6, i6, fr6, k6⟩; have I6 := Lib.hid i6; have FR6 := Lib.hid fr6; have K6 := Lib.hid (Kept.trans (Kept.drew (Kept.refl w2)) k6); clear i6 fr6 k6)
      go_wp2_with fail
      refine hK.out _ _ ⟨Kept.cell K6.out HP2.out.1, Kept.cell K6.out HP2.out.2.1, Kept.cell K6.out HP2.out.2.2.1, Kept.cell K6.out HP2.out.2.2.2⟩ (fun hHeld => ?_)
      clear hK K
      (try simp only [Act.put, s1_, s2_, s3_, s4_, s5_, s6_])
      refine tk_ 10 ?_ rfl ?_; refine tk_ 11 ?_ rfl ?_
      refine wpAnyH_done (by kernel_rfl) ?_ _
      have hsz := KF2.out.size
      have HQK := Lib.hid (H2.out.kept K6.out)
      clear r0 r1 r2 r3 r4
      go_wp2_with fail
      go_ret2
      rw [HR.out, if_neg HBG.out]
      refine ⟨A6, n6, c6, _, rfl, le6, by rw [HWN.out.2]; exact I6.out, fun a ha => ?_, ⟨s, wd, _, by rw [HWN.out.1]; exact HQK.out⟩, fun i hi => ?_, KF.trans KF2.out (KF.of K6.out)⟩
      · have h5 := FR6.out a ha
        have h6 : (w2).drew.heap.size = (w2).heap.size := rfl
        refine ⟨by omega, fun hf => ?_⟩
        have h7 := (H2.out.lt _ hf).2
        omega
      · rcases hi with hi | hi
        · exact .inl hi
        · exact .inr hi.1
  · obtain ⟨m2, hm2⟩ : ∃ m2, n2 = m2 + 1 := ⟨n2 - 1, (Nat.succ_pred_eq_of_pos hz).symm⟩
    clear hz
    obtain ⟨bl, ol, x, hA2, hx, c0⟩ := int_at I2.out (i := m2) (hm2 ▸ Nat.lt_succ_self m2)
    have hF := bndI_last (n := n) (form := form) (t := text) (k := m2) (HN2E.out.symm.trans hm2) hx
    obtain ⟨hw1, hw2, hw3⟩ := wr_some (n := n) (form := form) (pend := pend) (text := text) (k := m2) (HN2E.out.symm.trans hm2)
    rw [← HNP.out] at hw1 hw2
    have HWN := Lib.hid (And.intro hw1 hw2)
    have hbl : w1.heap.size ≤ bl := by have h5 : w1.drew.heap.size ≤ bl := FR2.out _ hA2; have h6 : w1.drew.heap.size = w1.heap.size := rfl; omega
    have hbb : b < w1.heap.size := (H1.out.lt b H1.out.hb).2
    subst hF
    have hm2b : m2 ≤ 100000 := by omega
    have hwm : IntKind.i64.wrap (m2 : Int) = (m2 : Int) := IntWalk.i64_in _ (by omega)
    have hjt : jFrom n form text ≤ 70000 := by have := HTN.out; omega
    have HCUT := Lib.hid (fun (y : Int) (hy : y = ((np + jFrom n form text : Nat) : Int)) w' (hk : Kept w2 w') => cut_any b v1 (.slice s.Ac s.nc s.cc) (.slice s.Am s.nm s.cm) (.slice s.Ae s.ne s.ce) (.int .i64 form) (.bool true) (pend ++ text) (np + jFrom n form text) y hy w' (H2.out.kept hk).cell (H2.out.kept hk).own (by rw [List.length_append]; have := HNP.out; have := HTN.out; omega) (by rw [List.length_append]; have := HNP.out; have := HTN.out; omega))
    have HR := Lib.hid (fun e w' => RetWr.eq_1 w B0 b n form pend text F e w')
    have HC0 := Lib.hid c0
    clear hw1 hw2 hw3 hx
    generalize jFrom n form text = jf at *
    have HNE := Lib.hid (show (⟨bl, ol + m2, none⟩ : Addr).block ∉ [b] by simp; omega)
    have hlt2 : (m2 : Int) < (m2 : Int) + 1 := by omega
    have hwj : IntKind.i64.wrap ((np : Int) + (jf : Int)) = (np : Int) + (jf : Int) := IntWalk.i64_in _ (by omega)
    have hwj2 : wrap64 ((np : Int) + (jf : Int)) = (np : Int) + (jf : Int) := IntWalk.wrap64_in _ (by omega)
    go_wp2_with fail
    refine wp_region_held_drew (S := (fun w' => w'.cell? ⟨bl, ol + m2, none⟩ = some (.int .i64 (jf : Int)))) (by kernel_rfl) c0 (fun hHeld => ?_)
    refine tk_ 0 ?_ rfl ?_; refine tk_ 1 ?_ rfl ?_; refine tk_ 2 ?_ rfl ?_; refine tk_ 3 ?_ rfl ?_; refine tk_ 4 ?_ rfl ?_; refine tk_ 5 ?_ rfl ?_; refine tk_ 6 ?_ rfl ?_; refine tk_ 7 ?_ rfl ?_; refine tk_ 8 ?_ rfl ?_; refine tk_ 9 ?_ rfl ?_; refine tk_ 10 ?_ rfl ?_
    refine rd_ 11 rfl (fun K hK => ?_)
    go_simp
    (refine (HCUT.out _ (by simp) _ (Kept.drew (Kept.refl w2))).mono ?_; rintro e w4 ⟨A4, n4, c4, v4, rfl, le4, i4, fr4, hb4, ho4, kb4⟩; have I4 := Lib.hid i4; have FR4 := Lib.hid fr4; have KB4 := Lib.hid (KeptBut.trans ((Kept.drew (Kept.refl w2)).but [b]) kb4); have HB4 := Lib.hid hb4; have HO4 := Lib.hid ho4; clear i4 fr4 kb4 hb4 ho4)
    go_wp2_with fail
    refine hK.out _ _ (KB4.out.cell HC0.out HNE.out) (fun hHeld => ?_)
    clear hK K
    (try simp only [Act.put, s1_, s2_, s3_, s4_, s5_, s6_])
    refine tk_ 12 ?_ rfl ?_
    refine wpAnyH_done (by kernel_rfl) ?_ _
    clear c0 hlt2 hwj hwj2 hwm
    have KF4 := Lib.hid (KF.trans (KF.trans KF1.out (KF.of K2.out)) (KF.ofBut (F := F) KB4.out (fun i hi => by rw [List.mem_singleton.1 hi]; exact H.out.hb)))
    have hs12 : w.heap.size ≤ w2.heap.size := Nat.le_trans HS1.out K2.out.size
    have H4 := Lib.hid (H2.out.cut (Nat.le_trans hB0 hs12) HB4.out HO4.out KB4.out)
    have hn4 : n4 ≤ 200000 := by rw [I4.out.1]; simp only [List.length_take, List.length_append]; have := HNP.out; have := HTN.out; omega
    obtain ⟨Aq, cq, hvq, leq, iq⟩ := OwnI.sl H4.out.own
    obtain ⟨nq, hnq⟩ : ∃ nq : Nat, nq = (wrPend (boundB n form) pend text).length := ⟨_, rfl⟩
    rw [HWN.out.1] at hnq
    rw [← hnq] at hvq
    have HNQ := Lib.hid hnq
    have HVQ := Lib.hid hvq
    have r0 := cell_of_block (i := 0) H4.out.cell rfl
    have r1 := cell_of_block (i := 1) H4.out.cell rfl
    have r2 := cell_of_block (i := 2) H4.out.cell rfl
    have r3 := cell_of_block (i := 3) H4.out.cell rfl
    have r4 := cell_of_block (i := 4) H4.out.cell rfl
    simp only [s4_, s5_, s6_] at r0 r1 r2 r3 r4
    rw [hvq] at r0
    have HP2 := Lib.hid (And.intro r1 (And.intro r2 (And.intro r3 r4)))
    have HNQ2 := Lib.hid H4.out.at_
    have HGQ := Lib.hid (HG.out.go (KF4.out.below (fun i hi => (H.out.lt i hi).1) hB0))
    have hnq2 : nq ≤ 200000 := by rw [hnq]; simp only [List.length_append, List.length_drop]; have := HNP.out; have := HTN.out; omega
    have HFO := Lib.hid (fun w' (hk : Kept w4 w') => form_new s n form A4 n4 c4 _ w' (HNQ2.out.kept hk) (HGQ.out.here.kept hk) (by omega) (I4.out.kept hk))
    have HSH := Lib.hid (shut_any b _ _ _ _ _ _ w4 H4.out.cell)
    clear hvq hnq iq leq
    by_cases hbig : 65536 < nq
    · have HBG := Lib.hid (show 65536 < (wrPend (boundB n form) pend text).length by rw [HWN.out.1, ← HNQ.out]; exact hbig)
      go_wp2_with fail
      refine HSH.out.mono ?_
      rintro e w5 ⟨rfl, rfl⟩
      have HOFF := Lib.hid (zeroStr_off H4.out.cell)
      have KZ := Lib.hid (KF.trans KF4.out (KF.ofBut (F := F) (zeroStr_but w4 b) (fun i hi => by rw [List.mem_singleton.1 hi]; exact H.out.hb)))
      clear r0 r1 r2 r3 r4
      generalize zeroStr b w4 = w5 at *
      go_wp2_with fail
      go_ret2
      rw [HR.out, if_pos HBG.out]
      exact ⟨rfl, HOFF.out, KZ.out⟩
    · have HBG := Lib.hid (show ¬ 65536 < (wrPend (boundB n form) pend text).length by rw [HWN.out.1, ← HNQ.out]; exact hbig)
      go_wp2_with fail
      refine wp_region_held_drew (S := (fun w' => w'.cell? ⟨b, 1, none⟩ = some (.slice s.Ac s.nc s.cc) ∧ w'.cell? ⟨b, 2, none⟩ = some (.slice s.Am s.nm s.cm) ∧ w'.cell? ⟨b, 3, none⟩ = some (.slice s.Ae s.ne s.ce) ∧ w'.cell? ⟨b, 4, none⟩ = some (.int .i64 form))) (by kernel_rfl) ⟨r1, r2, r3, r4⟩ (fun hHeld => ?_)
      refine tk_ 0 ?_ rfl ?_; refine tk_ 1 ?_ rfl ?_; refine tk_ 2 ?_ rfl ?_; refine tk_ 3 ?_ rfl ?_; refine tk_ 4 ?_ rfl ?_; refine tk_ 5 ?_ rfl ?_; refine tk_ 6 ?_ rfl ?_; refine tk_ 7 ?_ rfl ?_; refine tk_ 8 ?_ rfl ?_
      refine rd_ 9 rfl (fun K hK => ?_)
      go_simp
      (refine (HFO.out _ (Kept.drew (Kept.refl w4))).mono ?_; rintro e w6 ⟨A6, n6, c6, rfl, le6, i6, fr6, k6⟩; have I6 := Lib.hid i6; have FR6 := Lib.hid fr6; have K6 := Lib.hid (Kept.trans (Kept.drew (Kept.refl w4)) k6); clear i6 fr6 k6)
      go_wp2_with fail
      refine hK.out _ _ ⟨Kept.cell K6.out HP2.out.1, Kept.cell K6.out HP2.out.2.1, Kept.cell K6.out HP2.out.2.2.1, Kept.cell K6.out HP2.out.2.2.2⟩ (fun hHeld => ?_)
      clear hK K
      (try simp only [Act.put, s1_, s2_, s3_, s4_, s5_, s6_])
      refine tk_ 10 ?_ rfl ?_; refine tk_ 11 ?_ rfl ?_
      refine wpAnyH_done (by kernel_rfl) ?_ _
      have hsz := KF4.out.size
      have HQK := Lib.hid (H4.out.kept K6.out)
      clear r0 r1 r2 r3 r4
      go_wp2_with fail
      go_ret2
      rw [HR.out, if_neg HBG.out]
      refine ⟨A6, n6, c6, _, rfl, le6, by rw [HWN.out.2]; exact I6.out, fun a ha => ?_, ⟨s, wd, _, by rw [HWN.out.1]; exact HQK.out⟩, fun i hi => ?_, KF.trans KF4.out (KF.of K6.out)⟩
      · have h5 := FR6.out a ha
        have h6 : (w4).drew.heap.size = (w4).heap.size := rfl
        refine ⟨by omega, fun hf => ?_⟩
        have h7 := (H4.out.lt _ hf).2
        omega
      · rcases hi with (hi | hi) | hi
        · exact .inl hi
        · exact .inr hi.1
        · exact .inr (by omega)
end Go.Proofs.YtomgchfjachedaaGreatDoor
