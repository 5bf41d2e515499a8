/- normstream: Close; streams that are closed, and none. normstream.New. What lies outside a stream's blocks; law25.few. -/
import Derived.Test.YtomgchfjachedaaGreatDoorKSq
import Derived.Test.YtomgchfjachedaaGreatDoorKStrE
import Derived.Test.YtomgchfjachedaaGreatDoorKStrB
import Derived.Test.YtomgchfjachedaaGreatDoorKStrC
import Derived.Test.YtomgchfjachedaaGreatDoorKDecC
import Derived.Test.YtomgchfjachedaaGreatDoorKRefAJ
import Derived.Test.YtomgchfjachedaaGreatDoorKRefA
namespace Go.Proofs.YtomgchfjachedaaGreatDoor
open Go Go.RowKit
theorem wp_noPanic {P : Program} {c : Code} {Q : Exit → Act → World → Prop} {a : Act} {w : World} (h : c.wp P (fun e a' w' => e = .normal ∧ Q .normal a' w') a w) : c.wp P Q a w := wp_mono h (fun _ _ _ ⟨he, hq⟩ => he ▸ hq)
def RetCl (w : World) (b : Nat) (n : Nrm) (form : Int) (pend : List Int) (F : Nat → Prop) (e : Ending) (w' : World) : Prop :=
  ∃ (A : Option Addr) (m c : Nat), e = .returned (.tuple #[.slice A m c, .int .i64 0]) ∧ m ≤ c ∧ Ints w' A m (formOf n form pend) ∧ (∀ a, A = some a → w.heap.size ≤ a.block) ∧ StrOff w' b ∧ KF F w w'
set_option maxRecDepth 100000 in
set_option maxHeartbeats 4000000 in
theorem close_any (B0 b : Nat) (n : Nrm) (form : Int) (pend : List Int) (F : Nat → Prop) (w : World) (hS : StrAt w B0 b n form pend F) (hG : GlobB B0 w) (hp : pend.length ≤ 200000) :
    Calls Tryz.prog 26 #[.pointer (some ⟨b, 0, none⟩)] w (RetCl w b n form pend F) := by
  obtain ⟨s, wd, pv, h⟩ := hS
  obtain ⟨Ap, cp, rfl, hle, hIp⟩ := OwnI.sl h.own
  obtain ⟨np, hnp⟩ : ∃ np : Nat, np = pend.length := ⟨_, rfl⟩
  rw [← hnp] at h hle hp hIp
  have H := Lib.hid h
  have p0 := cell_of_block (i := 0) h.cell rfl
  have p1 := cell_of_block (i := 1) h.cell rfl
  have p2 := cell_of_block (i := 2) h.cell rfl
  have p3 := cell_of_block (i := 3) h.cell rfl
  have p4 := cell_of_block (i := 4) h.cell rfl
  have p5 := cell_of_block (i := 5) h.cell rfl
  simp only [s4_, s5_, s6_] at p0 p1 p2 p3 p4 p5
  have HP := Lib.hid (And.intro p0 (And.intro p1 (And.intro p2 (And.intro p3 p4))))
  have HFO := Lib.hid (fun w' (hk : Kept w w') => form_new s n form Ap np cp pend w' (h.at_.kept hk) (hG.here.kept hk) (by omega) (hIp.kept hk))
  clear h hIp hle hG hnp
  go_enter_defers Tryz.func26, Tryz.ntmps26
  go_wp2_with fail
  refine wp_noPanic ?_
  refine wp_region_held_drew (S := (fun w' => w'.cell? ⟨b, 0, none⟩ = some (.slice Ap np cp) ∧ w'.cell? ⟨b, 1, none⟩ = some (.slice s.Ac s.nc s.cc) ∧ w'.cell? ⟨b, 2, none⟩ = some (.slice s.Am s.nm s.cm) ∧ w'.cell? ⟨b, 3, none⟩ = some (.slice s.Ae s.ne s.ce) ∧ w'.cell? ⟨b, 4, none⟩ = some (.int .i64 form))) (by kernel_rfl) ⟨p0, p1, p2, p3, p4⟩ (fun hHeld => ?_)
  refine wpAnyH_take (i := 0) (v := ?_) rfl (by kernel_rfl) (by kernel_rfl) (by kernel_rfl) (fun _ _ _ h => by cases h.1) (Or.inl ⟨by rfl, ?_⟩) (by assumption) ?_
  rotate_left
  · (intro w hSw; (try dsimp only at hSw); go_simp; (try with_reducible rfl))
  simp only [Act.put, s1_, s2_, s3_, s4_, s5_]
  refine wpAnyH_take (i := 1) (v := ?_) rfl (by kernel_rfl) (by kernel_rfl) (by kernel_rfl) (fun _ _ _ h => by cases h.1) (Or.inl ⟨by rfl, ?_⟩) (by assumption) ?_
  rotate_left
  · (intro w hSw; (try dsimp only at hSw); go_simp; (try with_reducible rfl))
  simp only [Act.put, s1_, s2_, s3_, s4_, s5_, s6_]
  refine wpAnyH_take (i := 2) (v := ?_) rfl (by kernel_rfl) (by kernel_rfl) (by kernel_rfl) (fun _ _ _ h => by cases h.1) (Or.inl ⟨by rfl, ?_⟩) (by assumption) ?_
  rotate_left
  · (intro w hSw; (try dsimp only at hSw); go_simp; (try with_reducible rfl))
  simp only [Act.put, s1_, s2_, s3_, s4_, s5_, s6_]
  refine wpAnyH_take (i := 3) (v := ?_) rfl (by kernel_rfl) (by kernel_rfl) (by kernel_rfl) (fun _ _ _ h => by cases h.1) (Or.inl ⟨by rfl, ?_⟩) (by assumption) ?_
  rotate_left
  · (intro w hSw; (try dsimp only at hSw); go_simp; (try with_reducible rfl))
  simp only [Act.put, s1_, s2_, s3_, s4_, s5_, s6_]
  refine wpAnyH_take (i := 4) (v := ?_) rfl (by kernel_rfl) (by kernel_rfl) (by kernel_rfl) (fun _ _ _ h => by cases h.1) (Or.inl ⟨by rfl, ?_⟩) (by assumption) ?_
  rotate_left
  · (intro w hSw; (try dsimp only at hSw); go_simp; (try with_reducible rfl))
  simp only [Act.put, s1_, s2_, s3_, s4_, s5_, s6_]
  refine wpAnyH_take (i := 5) (v := ?_) rfl (by kernel_rfl) (by kernel_rfl) (by kernel_rfl) (fun _ _ _ h => by cases h.1) (Or.inl ⟨by rfl, ?_⟩) (by assumption) ?_
  rotate_left
  · (intro w hSw; (try dsimp only at hSw); go_simp; (try with_reducible rfl))
  simp only [Act.put, s1_, s2_, s3_, s4_, s5_, s6_]
  refine wpAnyH_take (i := 6) (v := ?_) rfl (by kernel_rfl) (by kernel_rfl) (by kernel_rfl) (fun _ _ _ h => by cases h.1) (Or.inl ⟨by rfl, ?_⟩) (by assumption) ?_
  rotate_left
  · (intro w hSw; (try dsimp only at hSw); go_simp; (try with_reducible rfl))
  simp only [Act.put, s1_, s2_, s3_, s4_, s5_, s6_]
  refine wpAnyH_take (i := 7) (v := ?_) rfl (by kernel_rfl) (by kernel_rfl) (by kernel_rfl) (fun _ _ _ h => by cases h.1) (Or.inl ⟨by rfl, ?_⟩) (by assumption) ?_
  rotate_left
  · (intro w hSw; (try dsimp only at hSw); go_simp; (try with_reducible rfl))
  simp only [Act.put, s1_, s2_, s3_, s4_, s5_, s6_]
  refine wpAnyH_take (i := 8) (v := ?_) rfl (by kernel_rfl) (by kernel_rfl) (by kernel_rfl) (fun _ _ _ h => by cases h.1) (Or.inl ⟨by rfl, ?_⟩) (by assumption) ?_
  rotate_left
  · (intro w hSw; (try dsimp only at hSw); go_simp; (try with_reducible rfl))
  simp only [Act.put, s1_, s2_, s3_, s4_, s5_, s6_]
  refine wpAnyH_take (i := 9) (v := ?_) rfl (by kernel_rfl) (by kernel_rfl) (by kernel_rfl) (fun _ _ _ h => by cases h.1) (Or.inl ⟨by rfl, ?_⟩) (by assumption) ?_
  rotate_left
  · (intro w hSw; (try dsimp only at hSw); go_simp; (try with_reducible rfl))
  simp only [Act.put, s1_, s2_, s3_, s4_, s5_, s6_]
  refine wpAnyH_take (i := 10) (v := ?_) rfl (by kernel_rfl) (by kernel_rfl) (by kernel_rfl) (fun _ _ _ h => by cases h.1) (Or.inl ⟨by rfl, ?_⟩) (by assumption) ?_
  rotate_left
  · (intro w hSw; (try dsimp only at hSw); go_simp; (try with_reducible rfl))
  simp only [Act.put, s1_, s2_, s3_, s4_, s5_, s6_]
  refine wpAnyH_take (i := 11) (v := ?_) rfl (by kernel_rfl) (by kernel_rfl) (by kernel_rfl) (fun _ _ _ h => by cases h.1) (Or.inl ⟨by rfl, ?_⟩) (by assumption) ?_
  rotate_left
  · (intro w hSw; (try dsimp only at hSw); go_simp; (try with_reducible rfl))
  simp only [Act.put, s1_, s2_, s3_, s4_, s5_, s6_]
  refine wpAnyH_take (i := 12) (v := ?_) rfl (by kernel_rfl) (by kernel_rfl) (by kernel_rfl) (fun _ _ _ h => by cases h.1) (Or.inl ⟨by rfl, ?_⟩) (by assumption) ?_
  rotate_left
  · (intro w hSw; (try dsimp only at hSw); go_simp; (try with_reducible rfl))
  simp only [Act.put, s1_, s2_, s3_, s4_, s5_, s6_]
  refine rd_ 13 rfl (fun K hK => ?_)
  go_simp
  (refine (HFO.out _ (Kept.drew (Kept.refl w))).mono ?_; rintro e w6 ⟨A6, n6, c6, rfl, le6, i6, fr6, k6⟩; have I6 := Lib.hid i6; have FR6 := Lib.hid fr6; have K6 := Lib.hid (Kept.trans (Kept.drew (Kept.refl w)) k6); clear i6 fr6 k6)
  go_wp2_with fail
  refine hK.out _ _ ⟨Kept.cell K6.out HP.out.1, Kept.cell K6.out HP.out.2.1, Kept.cell K6.out HP.out.2.2.1, Kept.cell K6.out HP.out.2.2.2.1, Kept.cell K6.out HP.out.2.2.2.2⟩ (fun hHeld => ?_)
  clear hK K
  (try simp only [Act.put, s1_, s2_, s3_, s4_, s5_, s6_])
  refine wpAnyH_take (i := 14) (v := ?_) rfl (by kernel_rfl) (by kernel_rfl) (by kernel_rfl) (fun _ _ _ h => by cases h.1) (Or.inl ⟨by rfl, ?_⟩) (by assumption) ?_
  rotate_left
  · (intro w hSw; (try dsimp only at hSw); go_simp; (try with_reducible rfl))
  simp only [Act.put, s1_, s2_, s3_, s4_, s5_, s6_]
  refine wpAnyH_take (i := 15) (v := ?_) rfl (by kernel_rfl) (by kernel_rfl) (by kernel_rfl) (fun _ _ _ h => by cases h.1) (Or.inl ⟨by rfl, ?_⟩) (by assumption) ?_
  rotate_left
  · (intro w hSw; (try dsimp only at hSw); go_simp; (try with_reducible rfl))
  simp only [Act.put, s1_, s2_, s3_, s4_, s5_, s6_]
  refine wpAnyH_done (by kernel_rfl) ?_ _
  refine ⟨rfl, ?_⟩
  clear p0 p1 p2 p3 p4 p5
  have HOFF := Lib.hid (zeroStr_off (H.out.kept K6.out).cell)
  have KZ := Lib.hid (KF.trans (KF.of K6.out) (KF.ofBut (F := F) (zeroStr_but w6 b) (fun i hi => by rw [List.mem_singleton.1 hi]; exact H.out.hb)))
  have HSH := Lib.hid (shut_deferred b _ _ _ _ _ _ .returning w6 (H.out.kept K6.out).cell)
  have hbw := (H.out.lt b H.out.hb).2
  have HI6 := Lib.hid (show Ints (zeroStr b w6) A6 n6 (formOf n form pend) from sl_butK I6.out (zeroStr_but w6 b) (fun p hp _ => by have := FR6.out p hp; have h5 : w.drew.heap.size = w.heap.size := rfl; simp; omega))
  clear hbw
  go_wp2_with fail
  refine leaves_cons (f := 59) (args := #[.pointer (some ⟨b, 0, none⟩)]) (by simp) (by simp [go_sem]) ?_
  refine HSH.out.mono ?_
  rintro e u' w'' ⟨rfl, rfl, rfl⟩
  exact ⟨_, results_tmp2 rfl _ _ _, A6, n6, c6, rfl, le6, HI6.out, FR6.out, HOFF.out, KZ.out⟩
set_option maxRecDepth 100000 in
set_option maxHeartbeats 1000000 in
theorem write_off (b : Nat) (A : Option Addr) (nt ct : Nat) (w : World) (h : StrOff w b) :
    Calls Tryz.prog 25 #[.pointer (some ⟨b, 0, none⟩), .slice A nt ct] w fun e w' => e = .returned (.tuple #[.slice none 0 0, .int .i64 15]) ∧ w' = w := by
  have p5 := cell_of_block (i := 5) h rfl
  simp only [s4_, s5_, s6_] at p5
  clear h
  go_enter Tryz.func25, Tryz.ntmps25
  go_wp2
  go_ret2
  exact ⟨rfl, rfl⟩
set_option maxRecDepth 100000 in
set_option maxHeartbeats 1000000 in
theorem write_nil (A : Option Addr) (nt ct : Nat) (w : World) :
    Calls Tryz.prog 25 #[.pointer none, .slice A nt ct] w fun e w' => e = .returned (.tuple #[.slice none 0 0, .int .i64 15]) ∧ w' = w := by
  go_enter Tryz.func25, Tryz.ntmps25
  go_wp2
  go_ret2
  exact ⟨rfl, rfl⟩
set_option maxRecDepth 100000 in
set_option maxHeartbeats 1000000 in
theorem close_off (b : Nat) (w : World) (h : StrOff w b) :
    Calls Tryz.prog 26 #[.pointer (some ⟨b, 0, none⟩)] w fun e w' => e = .returned (.tuple #[.slice none 0 0, .int .i64 15]) ∧ w' = w := by
  have p5 := cell_of_block (i := 5) h rfl
  simp only [s4_, s5_, s6_] at p5
  clear h
  go_enter_defers Tryz.func26, Tryz.ntmps26
  go_wp2
  exact ⟨_, results_tmp2 rfl _ _ _, rfl, rfl⟩
set_option maxRecDepth 100000 in
set_option maxHeartbeats 1000000 in
theorem close_nil (w : World) :
    Calls Tryz.prog 26 #[.pointer none] w fun e w' => e = .returned (.tuple #[.slice none 0 0, .int .i64 15]) ∧ w' = w := by
  go_enter_defers Tryz.func26, Tryz.ntmps26
  go_wp2
  exact ⟨_, results_tmp2 rfl _ _ _, rfl, rfl⟩
end Go.Proofs.YtomgchfjachedaaGreatDoor
namespace Go.Proofs.YtomgchfjachedaaGreatDoor
open Go Go.RowKit
def RetNS (w : World) (n : Nrm) (form : Int) (e : Ending) (w' : World) : Prop :=
  if form < 1 ∨ 4 < form then e = .returned (.tuple #[.pointer none, .int .i64 8]) ∧ Kept w w' else
  if decCheck n = 0 then ∃ (b : Nat) (F : Nat → Prop), e = .returned (.tuple #[.pointer (some ⟨b, 0, none⟩), .int .i64 0]) ∧ StrAt w' w.heap.size b n form [] F ∧ Kept w w' else
  e = .returned (.tuple #[.pointer none, .int .i64 11]) ∧ Kept w w'
theorem new_str {w w1 w2 : World} {s : Sls} {n : Nrm} {form : Int} (hk1 : Kept w w1) (h : NormAt (blank w1.heap.size w2) s n) (hk2 : Kept w1 w2) (w' : World)
    (hw : w' = w2.alloc (Obj.cells #[.slice none 0 0, .slice s.Ac s.nc s.cc, .slice s.Am s.nm s.cm, .slice s.Ae s.ne s.ce, .int .i64 form, .bool true] 51)) :
    StrAt w' w.heap.size w2.heap.size n form [] (fun i => w.heap.size ≤ i ∧ i < w'.heap.size) ∧ Kept w w' := by
  have h1 := hk1.size
  have h2 := hk2.size
  subst hw
  refine ⟨⟨s, blank w1.heap.size w2, .slice none 0 0, heap_alloc_new _ _, World.ownsRow_nil _ _ _ _, h, fun p v hc => ?_, ⟨by omega, by simp⟩, fun g hg => by simp [Value.ownBlock] at hg, fun i hi => hi⟩, Kept.alloc (Kept.trans hk1 hk2) _⟩
  obtain ⟨hc1, hc2⟩ := blank_cell hc
  have hlt := cell_lt hc1
  refine ⟨Kept.cell (Kept.alloc (Kept.refl w2) _) hc1, ⟨by omega, by simp; omega⟩, by omega, by simp [Value.ownBlock]⟩
set_option maxRecDepth 100000 in
set_option maxHeartbeats 40000000 in
theorem new_any (s : Sls) (n : Nrm) (form : Int) (w : World) (hN : NormAt w s n) (hG : Glob w) : Calls Tryz.prog 23 #[s.val, .int .i64 form] w (RetNS w n form) := by
  have hk1 := Kept.alloc (Kept.refl w) (Obj.cells #[Value.slice s.Ac s.nc s.cc, Value.slice s.Am s.nm s.cm, Value.slice s.Ae s.ne s.ce] 28)
  have hbx := box_cell w #[Value.slice s.Ac s.nc s.cc, Value.slice s.Am s.nm s.cm, Value.slice s.Ae s.ne s.ce] 28
  have x0 := hbx 0
  have x1 := hbx 1
  have x2 := hbx 2
  simp only [List.getElem?_toArray, List.getElem?_cons_zero, List.getElem?_cons_succ] at x0 x1 x2
  have HX0 := Lib.hid x0
  have HX1 := Lib.hid x1
  have HX2 := Lib.hid x2
  have HC := Lib.hid (decCheck_any s n _ (hN.kept hk1) (hG.kept hk1))
  have HCP := Lib.hid (fun w' (hk : Kept w w') => copied_any s n w' (hN.kept hk))
  have HK1 := Lib.hid hk1
  clear hN hG hk1 hbx x0 x1 x2
  rcases form_five form with h | h | h | h | h
  · subst h
    by_cases hd : decCheck n = 0
    · have HD := Lib.hid hd
      rw [hd] at HC
      clear hd
      unfold Sls.val at *
      go_enter Tryz.func23, Tryz.ntmps23
      go_wp2_with fail
      refine HC.out.mono ?_
      rintro e w1 ⟨rfl, k1⟩
      have q0 := Kept.cell k1 HX0.out
      have q1 := Kept.cell k1 HX1.out
      have q2 := Kept.cell k1 HX2.out
      have K1 := Lib.hid (Kept.trans HK1.out k1)
      clear k1
      go_wp2_with fail
      refine (HCP.out _ K1.out).mono ?_
      rintro e w2 ⟨⟨Ac, nc, cc, Am, nm, cm, Ae, ne, ce⟩, rfl, hat, k2⟩
      have HAT := Lib.hid hat
      have K2 := Lib.hid k2
      clear hat k2 q0 q1 q2
      unfold Sls.val
      go_wp2_with fail
      have hst := new_str K1.out (form := 1) HAT.out K2.out _ rfl
      go_ret2
      unfold RetNS
      rw [if_neg (by decide), if_pos HD.out]
      exact ⟨_, _, rfl, hst.1, hst.2⟩
    · have hb0 : (decCheck n == 0) = false := by simp [hd]
      have HD := Lib.hid hd
      have HDE := Lib.hid (show RetNS w n 1 = fun e w' => e = .returned (.tuple #[.pointer none, .int .i64 11]) ∧ Kept w w' from by funext e w'; unfold RetNS; rw [if_neg (by decide), if_neg hd])
      rw [HDE.out]
      clear hd
      generalize decCheck n = d at *
      unfold Sls.val at *
      go_enter Tryz.func23, Tryz.ntmps23
      go_wp2_with fail
      refine HC.out.mono ?_
      rintro e w1 ⟨rfl, k1⟩
      go_wp2_with fail
      go_ret2
      exact ⟨rfl, Kept.trans HK1.out k1⟩
  · subst h
    by_cases hd : decCheck n = 0
    · have HD := Lib.hid hd
      rw [hd] at HC
      clear hd
      unfold Sls.val at *
      go_enter Tryz.func23, Tryz.ntmps23
      go_wp2_with fail
      refine HC.out.mono ?_
      rintro e w1 ⟨rfl, k1⟩
      have q0 := Kept.cell k1 HX0.out
      have q1 := Kept.cell k1 HX1.out
      have q2 := Kept.cell k1 HX2.out
      have K1 := Lib.hid (Kept.trans HK1.out k1)
      clear k1
      go_wp2_with fail
      refine (HCP.out _ K1.out).mono ?_
      rintro e w2 ⟨⟨Ac, nc, cc, Am, nm, cm, Ae, ne, ce⟩, rfl, hat, k2⟩
      have HAT := Lib.hid hat
      have K2 := Lib.hid k2
      clear hat k2 q0 q1 q2
      unfold Sls.val
      go_wp2_with fail
      have hst := new_str K1.out (form := 2) HAT.out K2.out _ rfl
      go_ret2
      unfold RetNS
      rw [if_neg (by decide), if_pos HD.out]
      exact ⟨_, _, rfl, hst.1, hst.2⟩
    · have hb0 : (decCheck n == 0) = false := by simp [hd]
      have HD := Lib.hid hd
      have HDE := Lib.hid (show RetNS w n 2 = fun e w' => e = .returned (.tuple #[.pointer none, .int .i64 11]) ∧ Kept w w' from by funext e w'; unfold RetNS; rw [if_neg (by decide), if_neg hd])
      rw [HDE.out]
      clear hd
      generalize decCheck n = d at *
      unfold Sls.val at *
      go_enter Tryz.func23, Tryz.ntmps23
      go_wp2_with fail
      refine HC.out.mono ?_
      rintro e w1 ⟨rfl, k1⟩
      go_wp2_with fail
      go_ret2
      exact ⟨rfl, Kept.trans HK1.out k1⟩
  · subst h
    by_cases hd : decCheck n = 0
    · have HD := Lib.hid hd
      rw [hd] at HC
      clear hd
      unfold Sls.val at *
      go_enter Tryz.func23, Tryz.ntmps23
      go_wp2_with fail
      refine HC.out.mono ?_
      rintro e w1 ⟨rfl, k1⟩
      have q0 := Kept.cell k1 HX0.out
      have q1 := Kept.cell k1 HX1.out
      have q2 := Kept.cell k1 HX2.out
      have K1 := Lib.hid (Kept.trans HK1.out k1)
      clear k1
      go_wp2_with fail
      refine (HCP.out _ K1.out).mono ?_
      rintro e w2 ⟨⟨Ac, nc, cc, Am, nm, cm, Ae, ne, ce⟩, rfl, hat, k2⟩
      have HAT := Lib.hid hat
      have K2 := Lib.hid k2
      clear hat k2 q0 q1 q2
      unfold Sls.val
      go_wp2_with fail
      have hst := new_str K1.out (form := 3) HAT.out K2.out _ rfl
      go_ret2
      unfold RetNS
      rw [if_neg (by decide), if_pos HD.out]
      exact ⟨_, _, rfl, hst.1, hst.2⟩
    · have hb0 : (decCheck n == 0) = false := by simp [hd]
      have HD := Lib.hid hd
      have HDE := Lib.hid (show RetNS w n 3 = fun e w' => e = .returned (.tuple #[.pointer none, .int .i64 11]) ∧ Kept w w' from by funext e w'; unfold RetNS; rw [if_neg (by decide), if_neg hd])
      rw [HDE.out]
      clear hd
      generalize decCheck n = d at *
      unfold Sls.val at *
      go_enter Tryz.func23, Tryz.ntmps23
      go_wp2_with fail
      refine HC.out.mono ?_
      rintro e w1 ⟨rfl, k1⟩
      go_wp2_with fail
      go_ret2
      exact ⟨rfl, Kept.trans HK1.out k1⟩
  · subst h
    by_cases hd : decCheck n = 0
    · have HD := Lib.hid hd
      rw [hd] at HC
      clear hd
      unfold Sls.val at *
      go_enter Tryz.func23, Tryz.ntmps23
      go_wp2_with fail
      refine HC.out.mono ?_
      rintro e w1 ⟨rfl, k1⟩
      have q0 := Kept.cell k1 HX0.out
      have q1 := Kept.cell k1 HX1.out
      have q2 := Kept.cell k1 HX2.out
      have K1 := Lib.hid (Kept.trans HK1.out k1)
      clear k1
      go_wp2_with fail
      refine (HCP.out _ K1.out).mono ?_
      rintro e w2 ⟨⟨Ac, nc, cc, Am, nm, cm, Ae, ne, ce⟩, rfl, hat, k2⟩
      have HAT := Lib.hid hat
      have K2 := Lib.hid k2
      clear hat k2 q0 q1 q2
      unfold Sls.val
      go_wp2_with fail
      have hst := new_str K1.out (form := 4) HAT.out K2.out _ rfl
      go_ret2
      unfold RetNS
      rw [if_neg (by decide), if_pos HD.out]
      exact ⟨_, _, rfl, hst.1, hst.2⟩
    · have hb0 : (decCheck n == 0) = false := by simp [hd]
      have HD := Lib.hid hd
      have HDE := Lib.hid (show RetNS w n 4 = fun e w' => e = .returned (.tuple #[.pointer none, .int .i64 11]) ∧ Kept w w' from by funext e w'; unfold RetNS; rw [if_neg (by decide), if_neg hd])
      rw [HDE.out]
      clear hd
      generalize decCheck n = d at *
      unfold Sls.val at *
      go_enter Tryz.func23, Tryz.ntmps23
      go_wp2_with fail
      refine HC.out.mono ?_
      rintro e w1 ⟨rfl, k1⟩
      go_wp2_with fail
      go_ret2
      exact ⟨rfl, Kept.trans HK1.out k1⟩
  · have HDE := Lib.hid (show RetNS w n form = fun e w' => e = .returned (.tuple #[.pointer none, .int .i64 8]) ∧ Kept w w' from by funext e w'; unfold RetNS; rw [if_pos h])
    have h1 : (form == 1) = false := by simp; omega
    have h2 : (form == 2) = false := by simp; omega
    have h3 : (form == 3) = false := by simp; omega
    have h4 : (form == 4) = false := by simp; omega
    rw [HDE.out]
    clear h
    unfold Sls.val at *
    go_enter Tryz.func23, Tryz.ntmps23
    go_wp2_with fail
    go_ret2
    exact ⟨rfl, HK1.out⟩
end Go.Proofs.YtomgchfjachedaaGreatDoor
namespace Go.Proofs.YtomgchfjachedaaGreatDoor
open Go Go.RowKit
def IntsF (F : Nat → Prop) (w : World) (A : Option Addr) (m : Nat) (xs : List Int) : Prop := Ints w A m xs ∧ (0 < m → ∀ a, A = some a → ¬ F a.block ∧ a.block < w.heap.size)
def OwnF (F : Nat → Prop) (w : World) (base : Nat) (v : Value) (xs : List Int) : Prop := OwnI w base v xs ∧ ∀ g, v.ownBlock = some g → ¬ F g
section
variable {F F' : Nat → Prop} {w w' w0 : World} {A : Option Addr} {m base : Nat} {xs : List Int} {v : Value}
theorem IntsF.kf (h : IntsF F w A m xs) (hk : KF F w w') (hF : ∀ i, F' i → F i ∨ w.heap.size ≤ i) : IntsF F' w' A m xs :=
  ⟨h.1.kf hk (fun h0 a ha => (h.2 h0 a ha).1), fun h0 a ha => ⟨fun hf => by
    obtain ⟨h1, h2⟩ := h.2 h0 a ha
    rcases hF _ hf with h3 | h3
    · exact h1 h3
    · omega, Nat.lt_of_lt_of_le (h.2 h0 a ha).2 hk.size⟩⟩
theorem IntsF.kept (h : IntsF F w A m xs) (hk : Kept w w') : IntsF F w' A m xs := ⟨h.1.kept hk, fun h0 a ha => ⟨(h.2 h0 a ha).1, Nat.lt_of_lt_of_le (h.2 h0 a ha).2 hk.size⟩⟩
theorem IntsF.old (h : Ints w0 A m xs) (hk : Kept w0 w) (hF : ∀ i, F i → w0.heap.size ≤ i) : IntsF F w A m xs :=
  ⟨h.kept hk, fun h0 a ha => by
    have h1 := h.lt h0 a ha
    exact ⟨fun hf => by have := hF _ hf; omega, Nat.lt_of_lt_of_le h1 hk.size⟩⟩
theorem IntsF.new (h : Ints w A m xs) (hf : ∀ a, A = some a → ¬ F a.block) : IntsF F w A m xs := ⟨h, fun h0 a ha => ⟨hf a ha, h.lt h0 a ha⟩⟩
theorem IntsF.fresh (h : Ints w' A m xs) (ha : ∀ a, A = some a → w.heap.size ≤ a.block) (hF : ∀ i, F i → i < w.heap.size) : IntsF F w' A m xs := IntsF.new h (fun a h1 hf => by have h2 := ha a h1; have h3 := hF _ hf; omega)
theorem OwnF.kf (h : OwnF F w base v xs) (hk : KF F w w') (hF : ∀ i, F' i → F i ∨ w.heap.size ≤ i) : OwnF F' w' base v xs :=
  ⟨h.1.kf hk h.2, fun g hg hf => by
    rcases hF _ hf with h3 | h3
    · exact h.2 g hg h3
    · have := (World.ownsRow.lt h.1 g hg).2; omega⟩
theorem OwnF.kept (h : OwnF F w base v xs) (hk : Kept w w') : OwnF F w' base v xs := ⟨own_butK h.1 (hk.but []) (by simp), h.2⟩
theorem OwnF.nil (F : Nat → Prop) (w : World) (base : Nat) : OwnF F w base (.slice none 0 0) [] := ⟨(World.ownsRow_nil _ _ _ _ : OwnI w base (.slice none 0 0) []), fun g hg => by cases hg⟩
theorem OwnF.app (h : OwnF F w base v xs) {v' : Value} {ys : List Int} (ho : OwnI w' base v' ys) (hat : v'.ownBlock = v.ownBlock ∨ v'.ownBlock = some w.heap.size) (hF : ∀ i, F i → i < w.heap.size) : OwnF F w' base v' ys :=
  ⟨ho, fun g hg hf => by
    rcases hat with e | e
    · exact h.2 g (by rw [← e]; exact hg) hf
    · rw [e] at hg
      injection hg with hg
      have := hF _ hf
      omega⟩
theorem IntsF.grown (h : IntsF F w A m xs) {row : Option Nat} (hg : w.grownBy w' row) (hr : ∀ g, row = some g → 0 < m → ∀ a, A = some a → a.block ≠ g) : IntsF F w' A m xs :=
  ⟨⟨h.1.1, fun h0 => by
    obtain ⟨b, off, e, hc⟩ := h.1.2 h0
    refine ⟨b, off, e, fun i x hx j u hu => ?_⟩
    have h1 := hc i x hx j u hu
    exact (World.cell?_of_block (hg.block b (cell_lt h1) (fun e' => hr b e'.symm h0 _ e rfl))).trans h1⟩, fun h0 a ha => ⟨(h.2 h0 a ha).1, Nat.lt_of_lt_of_le (h.2 h0 a ha).2 hg.size⟩⟩
theorem StrAt.grown {B0 b : Nat} {n : Nrm} {form : Int} {pend : List Int} (h : StrAt w B0 b n form pend F) {row : Option Nat} (hg : w.grownBy w' row) (hr : ∀ g, row = some g → ¬ F g) : StrAt w' B0 b n form pend F :=
  h.but (grown_butK hg) (fun i hi => hr i (by simpa using hi))
theorem Kept.ofGrown {row : Option Nat} (hk : Kept w0 w) (hg : w.grownBy w' row) (hr : ∀ g, row = some g → w0.heap.size ≤ g) : Kept w0 w' := hk.grown hg hk.size hr
def Disj (F G : Nat → Prop) : Prop := ∀ i, F i → ¬ G i
theorem Disj.symm {G : Nat → Prop} (h : Disj F G) : Disj G F := fun i hg hf => h i hf hg
theorem Disj.step {G : Nat → Prop} (h : Disj F G) (hF : ∀ i, F' i → F i ∨ w.heap.size ≤ i) (hG : ∀ i, G i → i < w.heap.size) : Disj F' G := fun i hf hg => by
  rcases hF i hf with h1 | h1
  · exact h i h1 hg
  · have := hG i hg; omega
end
def fewB (T : List (List Int)) : Bool := decide (T.length ≤ 8) && T.all (fun xs => decide (xs.length ≤ 30))
theorem fewB_len {T : List (List Int)} (h : fewB T = true) : T.length ≤ 8 := of_decide_eq_true ((Bool.and_eq_true _ _).mp h).1
theorem fewB_all {T : List (List Int)} (h : fewB T = true) : ∀ xs ∈ T, xs.length ≤ 30 := fun xs hx => of_decide_eq_true (List.all_eq_true.1 ((Bool.and_eq_true _ _).mp h).2 xs hx)
theorem flat_le : ∀ (T : List (List Int)), (∀ xs ∈ T, xs.length ≤ 30) → T.flatten.length ≤ 30 * T.length
  | [], _ => by simp
  | X :: T, h => by
    have h1 := flat_le T (fun xs hx => h xs (List.mem_cons_of_mem _ hx))
    have h2 := h X (List.mem_cons_self ..)
    simp only [List.flatten_cons, List.length_append, List.length_cons]
    omega
theorem few_flat {T : List (List Int)} (h : fewB T = true) (k : Nat) : (T.take k).flatten.length ≤ 240 := by
  have h1 := flat_le (T.take k) (fun xs hx => fewB_all h xs (List.mem_of_mem_take hx))
  have h2 := fewB_len h
  have h3 : (T.take k).length ≤ T.length := List.length_take_le' ..
  omega
theorem flat_next {T : List (List Int)} {k : Nat} {X : List Int} (h : T[k]? = some X) : (T.take (k + 1)).flatten = (T.take k).flatten ++ X := by rw [take_succ_some h]; simp
set_option maxRecDepth 100000 in
set_option maxHeartbeats 2000000 in
theorem few25 (B : Option Addr) (m e : Nat) (T : List (List Int)) (w : World) (hm : m ≤ e ∧ e ≤ 9223372036854775807) (hT : Tab w B m T) (hTL : ∀ xs ∈ T, xs.length ≤ 9223372036854775807) : Calls Tryz.prog 28 #[.slice B m e] w (RetB w (fewB T)) := by
  obtain ⟨hme, hbig⟩ := hm
  have HT := Lib.hid hT
  have HMT := Lib.hid hT.1
  have HTL := Lib.hid hTL
  clear hT hTL
  by_cases h8 : m ≤ 8
  · go_enter Tryz.func28, Tryz.ntmps28
    go_wp2_with fail
    go_loopw [3] (fun i wr => ∃ k : Nat, k ≤ m ∧ i = .int .i64 k ∧ (∀ xs ∈ T.take k, xs.length ≤ 30) ∧ Kept w wr) (fun i _ => m - (intOf i).toNat)
    case atStart => exact ⟨0, Nat.zero_le _, rfl, by simp, Kept.refl _⟩
    case round =>
      obtain ⟨k, hk, rfl, hall, hkw⟩ := hrel
      have HKW := Lib.hid hkw
      have HALL := Lib.hid hall
      clear hall hkw
      by_cases hlt : k < m
      · obtain ⟨b, off, X, A1, n1, c1, rfl, hX, c0, le1, i1⟩ := (HT.out.kept HKW.out).at_ hlt
        have hn1 : n1 ≤ 9223372036854775807 := by rw [i1.1]; exact HTL.out X (mem_of_getElem?_some hX)
        have HX := Lib.hid hX
        have HN1 := Lib.hid i1.1
        clear hX i1
        by_cases h30 : n1 ≤ 30
        · go_wp2_with fail
          go_roundw
          case rel => exact ⟨k + 1, by omega, by go_num, fun xs hx => by
            rw [take_succ_some HX.out] at hx
            rcases List.mem_append.1 hx with h | h
            · exact HALL.out xs h
            · rw [List.mem_singleton.1 h, ← HN1.out]; exact h30, HKW.out⟩
          case measure => simp [intOf]; omega
        · have HF := Lib.hid (show fewB T = false by
            unfold fewB
            rw [Bool.and_eq_false_iff]
            right
            rw [List.all_eq_false]
            exact ⟨X, mem_of_getElem?_some HX.out, by rw [← HN1.out]; simp; omega⟩)
          go_wp2_with fail
          go_ret
          exact ⟨ret_bool HF.out.symm, HKW.out⟩
      · have hkm : k = m := by omega
        have HF := Lib.hid (show fewB T = true by
          unfold fewB
          rw [Bool.and_eq_true]
          refine ⟨decide_eq_true (by rw [← HMT.out]; exact h8), List.all_eq_true.2 fun xs hx => decide_eq_true (HALL.out xs ?_)⟩
          rw [List.take_of_length_le (by rw [← HMT.out]; omega)]
          exact hx)
        go_wp2_with fail
        go_ret
        exact ⟨ret_bool HF.out.symm, HKW.out⟩
  · have HF := Lib.hid (show fewB T = false by
      unfold fewB
      rw [Bool.and_eq_false_iff]
      left
      exact decide_eq_false (by rw [← HMT.out]; exact h8))
    go_enter Tryz.func28, Tryz.ntmps28
    go_wp2_with fail
    go_ret
    exact ⟨ret_bool HF.out.symm, Kept.refl w⟩
end Go.Proofs.YtomgchfjachedaaGreatDoor
