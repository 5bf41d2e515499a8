/- ident: the iterator over the longest identifiers of a text; Split. -/
import Derived.Test.YtmlcdohldkgcdaaGreatDoorKSq
import Derived.Test.YtmlcdohldkgcdaaGreatDoorKIdD
import Derived.Test.YtmlcdohldkgcdaaGreatDoorKSqx
import Derived.Test.YtmlcdohldkgcdaaGreatDoorKRowI
import Derived.Test.YtmlcdohldkgcdaaGreatDoorKPl44
namespace Go.Proofs.YtmlcdohldkgcdaaGreatDoor
open Go Go.RowKit Go.Shelf
attribute [local go_sem] Oper.semAt_some
theorem splitF_len {b p c : Int → Bool} : ∀ (f lo : Nat) (t : List Int), (splitF b p c f lo t).length ≤ f
  | 0, _, _ => Nat.le_refl _
  | _ + 1, _, [] => Nat.zero_le _
  | f + 1, lo, x :: t => by
    rw [splitF]
    split
    · exact Nat.le_succ_of_le (splitF_len f _ _)
    · rw [List.length_cons]
      exact Nat.succ_le_succ (splitF_len f _ _)
set_option maxRecDepth 100000 in
set_option maxHeartbeats 4000000 in
theorem found1_in (n : Nat) (_hn1 : 1 ≤ n) (Kp : World → World → Prop) (hKr : ∀ A, Kp A A) (hKt : ∀ {A B C : World}, Kp A B → Kp B C → Kp A C) (hKk : ∀ {A B : World}, Kept A B → Kp A B) (lp Bt Bs bs : Nat) (A : Option Addr) (nt ct : Nat) (text : List Int) (b p c : Int → Bool) (hbp : ∀ x, b x = true → p x = true) (hnt : nt ≤ 100000) (hct : nt ≤ ct)
    (J Jx : List Rng → World → Prop) (BJ : Nat) (hJ : AbidesFrom BJ J)
    (hY : ∀ pre x W, J pre W → (∃ t, splitL b p c text = pre ++ x :: t) → YieldAt Fence.wide (n - 1) Tryz.prog lp (encsR x) W fun e W' =>
      (e = .returned (.bool true) ∧ J (pre ++ [x]) W' ∧ Kp W W') ∨ (e = .returned (.bool false) ∧ Jx (pre ++ [x]) W'))
    (W : World) (ht : ∀ W', Kp W W' → W'.cell? ⟨Bt, 0, none⟩ = some (.slice A nt ct) ∧ W'.cell? ⟨Bs, 0, none⟩ = some (.pointer (some ⟨bs, 0, none⟩)) ∧ SetsAt W' bs b p c ∧ Ints W' A nt text) (h0 : J [] W) :
    CallsIn Fence.wide n Tryz.prog 78 #[.func (.yield lp) #[] #[], .pointer (some ⟨Bt, 0, none⟩), .pointer (some ⟨Bs, 0, none⟩)] W fun e W' => (∃ v, e = .returned v) ∧
      ((∃ ys, ys = splitL b p c text ∧ J ys W') ∨ (∃ pre, pre <+: splitL b p c text ∧ Jx pre W')) := by
  have HT := Lib.hid ht
  have HY := Lib.hid hY
  have HJ := Lib.hid hJ
  have HN := Lib.hid (ht W (hKr _)).2.2.2.1
  have HKR := Lib.hid hKr
  have HKT := Lib.hid (show ∀ A B C : World, Kp A B → Kp B C → Kp A C from fun A B C h k => hKt h k)
  have HKK := Lib.hid (show ∀ A B : World, Kept A B → Kp A B from fun A B h => hKk h)
  obtain ⟨ct0, cs0, _, _⟩ := ht W (hKr _)
  clear ht hY hJ hKr hKt hKk
  refine callsIn_of_wp Tryz.func78 rfl trivial ?_ rfl
  simp only [Tryz.ntmps78, List.size_toArray, List.length_cons, List.length_nil, Nat.reduceAdd, Nat.reduceSub, Array.replicate_succ, Array.replicate_zero, List.push_toArray, List.append_toArray, List.nil_append, List.cons_append]
  gi_wp2
  clear ct0 cs0
  gi_loopw [4] (fun lo wr => ∃ (k : Nat) (pre : List Rng), k ≤ nt ∧ lo = .int .i64 k ∧ splitL b p c text = pre ++ splitF b p c text.length k (text.drop k) ∧ J pre wr ∧ Kp W wr) (fun lo _ => nt - (intOf lo).toNat)
  case atStart => exact ⟨0, [], Nat.zero_le _, rfl, rfl, h0, HKR.out _⟩
  case round =>
    obtain ⟨k, pre, hk, rfl, hpre, hJs, hB⟩ := hrel
    have HP := Lib.hid hpre
    have HB := Lib.hid hB
    have HJS := Lib.hid hJs
    obtain ⟨ct1, cs1, hS1, hI1⟩ := HT.out wr hB
    by_cases hlt : k < nt
    · have hl1 : (k : Int) < (nt : Int) := by omega
      obtain ⟨x, hx⟩ := getElem?_some_of_lt (l := text) (k := k) (by rw [← HN.out]; exact hlt)
      have hst := split_step (b := b) (p := p) (c := c) (drop_some hx)
      have hle := scan_le (c := c) hbp (text.drop k)
      have hlen : (text.drop k).length = nt - k := by rw [List.length_drop, HN.out]
      have HSC := Lib.hid (fun w' (hk' : Kept wr w') => iscan_any (dropA A ct k) (nt - k) (ct - k) (text.drop k) w' (hS1.kept hk') (by omega) (Ints.drop_ (hI1.kept hk') hk hct))
      have hrd := fun w => run_drop1 A nt ct k hk w
      generalize idScan b p c (text.drop k) = R at hst hle HSC
      obtain ⟨en, sto⟩ := R
      dsimp only at hst hle HSC
      rw [hlen] at hle
      by_cases hen : en = 0
      · rw [if_pos hen] at hst
        have HP2 := Lib.hid (show splitL b p c text = pre ++ splitF b p c text.length (k + 1) (text.drop (k + 1)) by rw [HP.out, hst])
        have he1 : ((en : Nat) : Int) = 0 := by omega
        have he2 : (((en : Nat) : Int) == 0) = true := by simp [he1]
        have HE1 := Lib.hid he1
        clear hpre hB hJs hS1 hI1 hx hst hle hlen hen
        gi_wp2
        gi_region_with (refine ⟨trivial, ?_⟩; gi_at_call 49; refine (callsIn_wide.2 (HSC.out _ (Kept.drew (Kept.refl _)))).mono ?_; rintro e w2 ⟨rfl, k2⟩)
        all_goals
          gi_wp2
          go_roundw
          case rel => exact ⟨k + 1, pre, by omega, by go_num, HP2.out, Abides.kept HJ.out HJS.out (Kept.trans (Kept.drew (Kept.refl wr)) k2), HKT.out _ _ _ HB.out (HKK.out _ _ (Kept.trans (Kept.drew (Kept.refl wr)) k2))⟩
          case measure => simp [intOf]; omega
      · rw [if_neg hen] at hst
        simp only [Int.natCast_add] at hst
        have HP2 := Lib.hid (show splitL b p c text = pre ++ (⟨(k : Int), (k : Int) + (en : Int)⟩ :: splitF b p c text.length (k + en) (text.drop (k + en))) by rw [HP.out, hst])
        have he1 : ¬ ((en : Nat) : Int) = 0 := by omega
        have he2 : (((en : Nat) : Int) == 0) = false := by simp; omega
        have hw1 : IntKind.i64.wrap ((k : Int) + (en : Int)) = (k : Int) + (en : Int) := IntWalk.i64_in _ (by omega)
        have hw2 : wrap64 ((k : Int) + (en : Int)) = (k : Int) + (en : Int) := IntWalk.wrap64_in _ (by omega)
        have HKE := Lib.hid (show k + en ≤ nt ∧ 0 < en by omega)
        clear hpre hB hJs hS1 hI1 hx hst hle hlen hen
        gi_wp2
        gi_region_with (refine ⟨trivial, ?_⟩; gi_at_call 49; refine (callsIn_wide.2 (HSC.out _ (Kept.drew (Kept.refl _)))).mono ?_; rintro e w2 ⟨rfl, k2⟩)
        all_goals
          have K2 := Lib.hid (Kept.trans (Kept.drew (Kept.refl wr)) k2)
          obtain ⟨fn, tmps, assign, body, hy, hR⟩ := HY.out pre ⟨(k : Int), (k : Int) + (en : Int)⟩ w2 (Abides.kept HJ.out HJS.out K2.out) ⟨_, HP2.out⟩
          dsimp only [encsR] at hy
          gi_wp2
          refine hR.mono ?_
          rintro e W3 (⟨rfl, hJ3, hk3⟩ | ⟨rfl, hJx3⟩)
          · gi_wp2
            go_roundw
            case rel => exact ⟨k + en, pre ++ [⟨(k : Int), (k : Int) + (en : Int)⟩], HKE.out.1, by go_num, by rw [HP2.out]; simp, hJ3, HKT.out _ _ _ (HKT.out _ _ _ HB.out (HKK.out _ _ K2.out)) hk3⟩
            case measure => have := HKE.out; simp [intOf]; omega
          · gi_wp2
            refine bodyPost_ret (results_none rfl _ _ _) rfl ?_
            exact ⟨⟨_, rfl⟩, .inr ⟨pre ++ [⟨(k : Int), (k : Int) + (en : Int)⟩], ⟨splitF b p c text.length (k + en) (text.drop (k + en)), by rw [HP2.out]; simp⟩, hJx3⟩⟩
    · have hkl : k = nt := by omega
      have HP2 := Lib.hid (show splitL b p c text = pre by rw [HP.out, split_end (by rw [← HN.out]; omega)]; simp)
      subst hkl
      gi_wp2
      go_end0
      exact ⟨⟨_, rfl⟩, .inl ⟨pre, HP2.out.symm, HJS.out⟩⟩
theorem found_any (bs : Nat) (A : Option Addr) (nt ct : Nat) (w : World) :
    Calls Tryz.prog 53 #[.pointer (some ⟨bs, 0, none⟩), .slice A nt ct] w fun e w' => e = .returned (.func (.func 78) #[] #[.pointer (some ⟨w.heap.size + 1, 0, none⟩), .pointer (some ⟨w.heap.size, 0, none⟩)]) ∧
      w' = (w.alloc (.cells #[.pointer (some ⟨bs, 0, none⟩)] 93)).alloc (.cells #[.slice A nt ct] 32) := by
  go_enter Tryz.func53, Tryz.ntmps53
  go_wp2
  go_ret
  exact ⟨rfl, rfl⟩
theorem found_yields (bs : Nat) (A : Option Addr) (nt ct : Nat) (w : World) (text : List Int) (b p c : Int → Bool) (hbp : ∀ x, b x = true → p x = true) (hnt : nt ≤ 100000) (hct : nt ≤ ct) (hS : SetsAt w bs b p c) (hT : Ints w A nt text) :
    Yields 78 #[.pointer (some ⟨w.heap.size + 1, 0, none⟩), .pointer (some ⟨w.heap.size, 0, none⟩)] encsR (w.heap.size + 2) (splitL b p c text) ((w.alloc (.cells #[.pointer (some ⟨bs, 0, none⟩)] 93)).alloc (.cells #[.slice A nt ct] 32)) := by
  intro n hn l J Jx W hW hJ hJx hY h0
  have hsz : ((w.alloc (.cells #[.pointer (some ⟨bs, 0, none⟩)] 93)).alloc (.cells #[.slice A nt ct] 32)).heap.size = w.heap.size + 2 := by simp
  rw [hsz] at hW
  have b1 := box_cell w #[.pointer (some ⟨bs, 0, none⟩)] 93 0
  have b1' : ((w.alloc (.cells #[.pointer (some ⟨bs, 0, none⟩)] 93)).alloc (.cells #[.slice A nt ct] 32)).cell? ⟨w.heap.size, 0, none⟩ = some (.pointer (some ⟨bs, 0, none⟩)) := (Kept.alloc (Kept.refl _) _).cell b1
  have b2 := box_cell (w.alloc (.cells #[.pointer (some ⟨bs, 0, none⟩)] 93)) #[.slice A nt ct] 32 0
  rw [World.size_alloc] at b2
  have hk0 : Kept w ((w.alloc (.cells #[.pointer (some ⟨bs, 0, none⟩)] 93)).alloc (.cells #[.slice A nt ct] 32)) := Kept.alloc (Kept.alloc (Kept.refl _) _) _
  have hws : w.heap.size + 2 ≤ W.heap.size := by have := hW.size; simpa [hsz] using this
  exact found1_in n hn (fun A B => w.heap.size + 2 ≤ A.heap.size → Below (w.heap.size + 2) A B) (fun A _ => Below.refl _ _) (fun h k hs => (h hs).trans (k (Nat.le_trans hs (h hs).size))) (fun h hs => Below.mono h hs) l (w.heap.size + 1) w.heap.size bs A nt ct text b p c hbp hnt hct J Jx _ hJ (fun pre x W1 h1 h2 => (hY pre x W1 h1 (by obtain ⟨t, ht⟩ := h2; rw [ht]; simp)).mono fun e W' h => h.imp (fun ⟨a, b, c⟩ => ⟨a, b, fun _ => c⟩) id) W
    (fun W' hW' => by
      have hk : Below (w.heap.size + 2) ((w.alloc (.cells #[.pointer (some ⟨bs, 0, none⟩)] 93)).alloc (.cells #[.slice A nt ct] 32)) W' := hW.trans (hW' hws)
      rw [← hsz] at hk
      exact ⟨Kept.cell hk b2, Kept.cell hk b1', hS.kept (Kept.trans hk0 hk), hT.kept (Kept.trans hk0 hk)⟩) h0
set_option maxRecDepth 100000 in
set_option maxHeartbeats 2000000 in
theorem isplit_any (i : Ids) (r : IdR) (A : Option Addr) (nt ct : Nat) (text : List Int) (w : World) (hI : IdIn w i r) (hs : smallI r = true) (hnt : nt ≤ 100000) (hct : nt ≤ ct) (hT : Ints w A nt text) :
    Calls Tryz.prog 26 #[i.val, .slice A nt ct] w (RetRngs w (splitL r.b r.p r.c text)) := by
  have hk0_ := Kept.alloc (Kept.refl w) (Obj.cells #[Value.slice i.As i.ns i.cs, Value.slice i.Ac i.nc i.cc, Value.slice i.Am i.nm i.cm] 54)
  have HK1 := Lib.hid hk0_
  have hb0_ := (box_block w (Obj.cells #[Value.slice i.As i.ns i.cs, Value.slice i.Ac i.nc i.cc, Value.slice i.Am i.nm i.cm] 54))
  have x0 := cell_of_block (i := 0) hb0_ rfl
  have x1 := cell_of_block (i := 1) hb0_ rfl
  have x2 := cell_of_block (i := 2) hb0_ rfl
  simp only [s4_, s5_, s6_] at x0 x1 x2
  have HM := Lib.hid (made_any i r _ (hI.kept hk0_) hs)
  have HT := Lib.hid (fun w' (hk : Kept w w') => hT.kept hk)
  have HL := Lib.hid (show (splitL r.b r.p r.c text).length ≤ 100000000 by have h := splitF_len (b := r.b) (p := r.p) (c := r.c) text.length 0 text; have := hT.1; unfold splitL; omega)
  clear hI hs hT hk0_ hb0_
  unfold Ids.val at *
  go_enter Tryz.func26, Tryz.ntmps26
  go_wp2_with fail
  refine HM.out.mono ?_
  rintro e w1 ⟨B, rfl, hS, k1⟩
  have HS := Lib.hid hS
  have K1 := Lib.hid (Kept.trans HK1.out k1)
  clear hS k1 x0 x1 x2
  go_wp2_with fail
  refine (found_any _ _ _ _ _).mono ?_
  rintro e w2 ⟨rfl, hw2⟩
  have hY := found_yields B A nt ct w1 text r.b r.p r.c r.bp hnt hct HS.out (HT.out _ K1.out)
  rw [← hw2] at hY
  have hsz : w1.heap.size + 2 = w2.heap.size := by rw [hw2]; simp
  rw [hsz] at hY
  have hk2 : Kept w1 w2 := by rw [hw2]; exact Kept.alloc (Kept.alloc (Kept.refl _) _) _
  have HCC := Lib.hid (collect_rng _ _ _ w2 HL.out (enters_of Tryz.func78 (by kernel_rfl) rfl) hY)
  have K2 := Lib.hid (Kept.trans K1.out hk2)
  clear hY hw2 hsz hk2
  go_wp2_with fail
  refine HCC.out.mono ?_
  rintro e w3 ⟨A3, n3, c3, rfl, hle3, hI3, hk3⟩
  go_wp2_with fail
  go_ret
  exact ⟨A3, n3, c3, rfl, hle3, hI3, Kept.trans K2.out hk3⟩
end Go.Proofs.YtmlcdohldkgcdaaGreatDoor
