/- The reference's comparison of ranges; ident's sets: begins, proceeds, connects. -/
import Derived.BigQuiet
import Derived.Test.YtmlcdohldkgcdaaGreatDoorKSq
import Derived.Test.YtmlcdohldkgcdaaGreatDoorKSet
import Derived.Test.YtmlcdohldkgcdaaGreatDoorKCma
import Derived.Test.YtmlcdohldkgcdaaGreatDoorKRfb
import Derived.Test.YtmlcdohldkgcdaaGreatDoorKSimA
namespace Go.Proofs.YtmlcdohldkgcdaaGreatDoor
open Go Go.RowKit
set_option maxRecDepth 100000 in
set_option maxHeartbeats 1000000 in
theorem sameRanges (A B : Option Addr) (n m c d : Nat) (a b : List Rng) (w : World) (hn : n ≤ 100000) (hm : m ≤ 100000) (ha : Rngs w A n a) (hb : Rngs w B m b) :
    Calls Tryz.prog 25 #[.slice A n c, .slice B m d] w (RetB w (decide (a = b))) := by
  have HA := Lib.hid ha
  have HAN := Lib.hid ha.1
  have HB := Lib.hid hb
  have HBN := Lib.hid hb.1
  clear ha hb
  by_cases hnn : n = m
  · subst hnn
    go_enter Tryz.func25, Tryz.ntmps25
    go_wp2
    go_loopw [5] (fun i wr => ∃ k : Nat, k ≤ n ∧ i = .int .i64 k ∧ a.take k = b.take k ∧ Kept w wr) (fun i _ => n - (intOf i).toNat)
    case atStart => exact ⟨0, Nat.zero_le _, rfl, by simp, Kept.refl _⟩
    case round =>
      obtain ⟨k, hk, rfl, hsame, hBl⟩ := hrel
      have HSA := Lib.hid hsame
      clear hsame
      by_cases hlt : k < n
      · obtain ⟨b1, off1, r, rfl, hr, c0, c1⟩ := rng_at (HA.out.kept hBl) hlt
        obtain ⟨b2, off2, s, rfl, hs, d0, d1⟩ := rng_at (HB.out.kept hBl) hlt
        have HR := Lib.hid hr
        have HS := Lib.hid hs
        have hneq := rng_neq r s
        clear hr hs
        have g1 : (k : Int) < (n : Int) := by omega
        cases hd : decide (r = s)
        · have hne : ¬ r = s := of_decide_eq_false hd
          rw [hd] at hneq
          have HNE := Lib.hid hne
          clear hd hne
          go_wp2_with fail
          go_quiet (fail)
          go_wp2_with fail
          go_ret
          refine ⟨ret_bool ?_, Kept.drewN hBl _⟩
          refine (decide_eq_false (fun e => HNE.out ?_)).symm
          have h1 := HR.out
          rw [e, HS.out] at h1
          injection h1 with h1
          exact h1.symm
        · have hne : r = s := of_decide_eq_true hd
          rw [hd] at hneq
          have HNE := Lib.hid hne
          clear hd hne
          go_wp2_with fail
          go_quiet (fail)
          go_wp2_with fail
          go_roundw
          case rel => exact ⟨k + 1, by omega, by go_num, take_eq_snoc HSA.out HR.out HS.out HNE.out, Kept.drewN hBl _⟩
          case measure => simp [intOf]; omega
      · go_wp2_with fail
        go_ret
        refine ⟨ret_bool (decide_eq_true ?_).symm, hBl⟩
        have := HSA.out
        rwa [List.take_of_length_le (by have := HAN.out; omega), List.take_of_length_le (by have := HBN.out; omega)] at this
  · have hne : ((n : Int) != (m : Int)) = true := by rw [bne_iff_ne]; omega
    go_enter Tryz.func25, Tryz.ntmps25
    go_wp2
    go_ret
    refine ⟨ret_bool (decide_eq_false (fun e => hnn ?_)).symm, Kept.refl w⟩
    have h1 := HAN.out
    have h2 := HBN.out
    rw [e] at h1
    omega
structure SetsAt (w : World) (bs : Nat) (b p c : Int → Bool) : Prop where
  ex : ∃ (A1 : Option Addr) (n1 c1 : Nat) (R1 : List Rng) (A2 : Option Addr) (n2 c2 : Nat) (R2 : List Rng) (A3 : Option Addr) (n3 c3 : Nat) (R3 : List Rng), w.heap[bs]? = some (.cells #[.slice A1 n1 c1, .slice A2 n2 c2, .slice A3 n3 c3] 118 (0, 0)) ∧
    (n1 ≤ 100000 ∧ n2 ≤ 100000 ∧ n3 ≤ 100000) ∧ Rngs w A1 n1 R1 ∧ Rngs w A2 n2 R2 ∧ Rngs w A3 n3 R3 ∧ (∀ x, hasR R1 x = b x) ∧ (∀ x, hasR R2 x = p x) ∧ ∀ x, hasR R3 x = c x
theorem SetsAt.kept {w w' : World} {bs : Nat} {b p c : Int → Bool} (h : SetsAt w bs b p c) (hk : Kept w w') : SetsAt w' bs b p c := by
  obtain ⟨A1, n1, c1, R1, A2, n2, c2, R2, A3, n3, c3, R3, hb, hn, h1, h2, h3, e⟩ := h.ex
  exact ⟨A1, n1, c1, R1, A2, n2, c2, R2, A3, n3, c3, R3, (hk.block bs (block_lt hb)).trans hb, hn, h1.kept hk, h2.kept hk, h3.kept hk, e⟩
set_option maxRecDepth 100000 in
theorem begins_any {bs : Nat} {b p c : Int → Bool} (x : Int) (w : World) (h : SetsAt w bs b p c) : Calls Tryz.prog 71 #[.pointer (some ⟨bs, 0, none⟩), .int .i64 x] w (RetB w (b x)) := by
  obtain ⟨A1, n1, c1, R1, A2, n2, c2, R2, A3, n3, c3, R3, hb, ⟨hn, _, _⟩, h1, h2, h3, e, _, _⟩ := h.ex
  have HH := Lib.hid (setHas A1 n1 c1 R1 x w hn h1)
  rw [e x] at HH
  have q := cell_of_block (i := 0) hb rfl
  simp only [s4_, s5_] at q
  clear h hb h1 h2 h3 e hn
  go_enter Tryz.func71, Tryz.ntmps71
  go_wp2_with fail
  refine HH.out.mono ?_
  rintro e w1 ⟨rfl, k1⟩
  go_wp2_with fail
  go_ret
  exact ⟨rfl, k1⟩
set_option maxRecDepth 100000 in
theorem proceeds_any {bs : Nat} {b p c : Int → Bool} (x : Int) (w : World) (h : SetsAt w bs b p c) : Calls Tryz.prog 72 #[.pointer (some ⟨bs, 0, none⟩), .int .i64 x] w (RetB w (p x)) := by
  obtain ⟨A1, n1, c1, R1, A2, n2, c2, R2, A3, n3, c3, R3, hb, ⟨_, hn, _⟩, h1, h2, h3, _, e, _⟩ := h.ex
  have HH := Lib.hid (setHas A2 n2 c2 R2 x w hn h2)
  rw [e x] at HH
  have q := cell_of_block (i := 1) hb rfl
  simp only [s4_, s5_, s6_] at q
  clear h hb h1 h2 h3 e hn
  go_enter Tryz.func72, Tryz.ntmps72
  go_wp2_with fail
  refine HH.out.mono ?_
  rintro e w1 ⟨rfl, k1⟩
  go_wp2_with fail
  go_ret
  exact ⟨rfl, k1⟩
set_option maxRecDepth 100000 in
theorem connects_any {bs : Nat} {b p c : Int → Bool} (x : Int) (w : World) (h : SetsAt w bs b p c) : Calls Tryz.prog 73 #[.pointer (some ⟨bs, 0, none⟩), .int .i64 x] w (RetB w (c x)) := by
  obtain ⟨A1, n1, c1, R1, A2, n2, c2, R2, A3, n3, c3, R3, hb, ⟨_, _, hn⟩, h1, h2, h3, _, _, e⟩ := h.ex
  have HH := Lib.hid (setHas A3 n3 c3 R3 x w hn h3)
  rw [e x] at HH
  have q := cell_of_block (i := 2) hb rfl
  simp only [s4_, s5_, s6_] at q
  clear h hb h1 h2 h3 e hn
  go_enter Tryz.func73, Tryz.ntmps73
  go_wp2_with fail
  refine HH.out.mono ?_
  rintro e w1 ⟨rfl, k1⟩
  go_wp2_with fail
  go_ret
  exact ⟨rfl, k1⟩
def bound (f bs : Nat) : Value := .func (.func f) #[.pointer (some ⟨bs, 0, none⟩)] #[]
set_option maxRecDepth 100000 in
set_option maxHeartbeats 4000000 in
theorem scan_fn {bs : Nat} {b p c : Int → Bool} (A : Option Addr) (nt ct : Nat) (text : List Int) (w : World) (h : SetsAt w bs b p c) (hnt : nt ≤ 100000) (hT : Ints w A nt text) :
    Calls Tryz.prog 70 #[.slice A nt ct, .func (.func 71) #[.pointer (some ⟨bs, 0, none⟩)] #[], .func (.func 72) #[.pointer (some ⟨bs, 0, none⟩)] #[], .func (.func 73) #[.pointer (some ⟨bs, 0, none⟩)] #[]] w
      (fun e w' => e = .returned (.tuple #[.int .i64 ((idScan b p c text).1 : Nat), .int .i64 ((idScan b p c text).2 : Nat)]) ∧ Kept w w') := by
  have HB := Lib.hid (fun x w' (hk : Kept w w') => begins_any x w' (h.kept hk))
  have HP := Lib.hid (fun x w' (hk : Kept w w') => proceeds_any x w' (h.kept hk))
  have HC := Lib.hid (fun x w' (hk : Kept w w') => connects_any x w' (h.kept hk))
  have HT := Lib.hid hT
  have HTN := Lib.hid hT.1
  clear h hT
  rcases Nat.eq_zero_or_pos nt with h0 | h0
  · have HV := Lib.hid (show idScan b p c text = (0, 0) by rw [List.length_eq_zero_iff.1 (HTN.out.symm.trans h0)]; rfl)
    rw [HV.out]
    go_enter Tryz.func70, Tryz.ntmps70
    go_wp2_with fail
    go_ret2
    exact ⟨rfl, Kept.refl w⟩
  · obtain ⟨bt, ot, x0, hA, hx0, c0⟩ := int_at HT.out h0
    have hnz : ¬ (nt : Int) = 0 := by omega
    have hnz2 : ((nt : Int) == 0) = false := by simp; omega
    have hnz3 : decide ((nt : Int) = 0) = false := decide_eq_false hnz
    have HD := Lib.hid (drop_some hx0)
    rw [List.drop_zero] at HD
    have HC0 := Lib.hid c0
    cases hb : b x0
    · have HV := Lib.hid (show idScan b p c text = (0, 0) by rw [HD.out, idScan, if_neg (by rw [hb]; decide)])
      rw [HV.out]
      have HBX := Lib.hid (HB.out x0)
      rw [hb] at HBX
      clear hb hx0
      simp only [Nat.add_zero] at c0
      rw [hA]
      go_enter Tryz.func70, Tryz.ntmps70
      go_wp2_with fail
      refine (HBX.out _ (Kept.refl w)).mono ?_
      rintro e w1 ⟨rfl, k1⟩
      go_wp2_with fail
      go_ret2
      exact ⟨rfl, k1⟩
    · have HV := Lib.hid (show idScan b p c text = idGo p c (text.drop 1) 1 1 by rw [HD.out, idScan, if_pos hb]; rfl)
      have HBX := Lib.hid (HB.out x0)
      rw [hb] at HBX
      clear hb hx0 HB
      simp only [Nat.add_zero] at c0
      rw [hA]
      have HA := Lib.hid hA
      clear hA
      go_enter Tryz.func70, Tryz.ntmps70
      go_wp2_with fail
      refine (HBX.out _ (Kept.refl w)).mono ?_
      rintro e w1 ⟨rfl, k1⟩
      have K1 := Lib.hid k1
      clear k1 c0
      go_wp2_with fail
      have H0 := Lib.hid h0
      clear hnz hnz2 hnz3
      go_loopw [10, 11] (fun en iv wr => ∃ (k e : Nat), k ≤ nt ∧ iv = .int .i64 k ∧ en = .int .i64 e ∧ e ≤ k ∧ idScan b p c text = idGo p c (text.drop k) k e ∧ Kept w wr) (fun _ iv _ => nt - (intOf iv).toNat)
      case atStart => exact ⟨1, 1, h0, rfl, rfl, Nat.le_refl _, HV.out, K1.out⟩
      case round =>
        obtain ⟨k, e, hk, rfl, rfl, hek, hsc, hkw⟩ := hrel
        have HSC := Lib.hid hsc
        have KW := Lib.hid hkw
        clear hsc hkw
        by_cases hlt : k < nt
        · obtain ⟨b1, o1, y, hA1, hy, cy⟩ := int_at (HT.out.kept KW.out) hlt
          rw [HA.out] at hA1
          injection hA1 with hA1
          injection hA1 with e1 e2
          subst e1 e2
          have HDK := Lib.hid (drop_some hy)
          have HPY := Lib.hid (HP.out y)
          have HCY := Lib.hid (HC.out y)
          have CY := Lib.hid cy
          have hl1 : (k : Int) < (nt : Int) := by omega
          clear hy
          cases hp : p y
          · rw [hp] at HPY
            cases hc : c y
            · rw [hc] at HCY
              have HE := Lib.hid (show idScan b p c text = (e, k) by rw [HSC.out, HDK.out, idGo, if_neg (by rw [hp]; decide), if_pos (.inl hc)])
              clear hp hc
              go_wp2_with fail
              refine (HPY.out _ KW.out).mono ?_
              rintro e_ w2 ⟨rfl, k2⟩
              have K2 := Lib.hid (Kept.trans KW.out k2)
              have cy2 := Kept.cell k2 CY.out
              clear k2 cy
              go_wp2_with fail
              refine (HCY.out _ K2.out).mono ?_
              rintro e_ w3 ⟨rfl, k3⟩
              go_wp2_with fail
              go_ret2
              exact ⟨by rw [HE.out]; rfl, Kept.trans K2.out k3⟩
            · rw [hc] at HCY
              by_cases hek2 : e < k
              · have HE := Lib.hid (show idScan b p c text = (e, k) by rw [HSC.out, HDK.out, idGo, if_neg (by rw [hp]; decide), if_pos (.inr hek2)])
                clear hp hc
                go_wp2_with fail
                refine (HPY.out _ KW.out).mono ?_
                rintro e_ w2 ⟨rfl, k2⟩
                have K2 := Lib.hid (Kept.trans KW.out k2)
                have cy2 := Kept.cell k2 CY.out
                clear k2 cy
                go_wp2_with fail
                refine (HCY.out _ K2.out).mono ?_
                rintro e_ w3 ⟨rfl, k3⟩
                go_wp2_with fail
                go_ret2
                exact ⟨by rw [HE.out]; rfl, Kept.trans K2.out k3⟩
              · have HE := Lib.hid (show idScan b p c text = idGo p c (text.drop (k + 1)) (k + 1) e by rw [HSC.out, HDK.out, idGo, if_neg (by rw [hp]; decide), if_neg (by rw [hc]; simp; omega)])
                clear hp hc
                go_wp2_with fail
                refine (HPY.out _ KW.out).mono ?_
                rintro e_ w2 ⟨rfl, k2⟩
                have K2 := Lib.hid (Kept.trans KW.out k2)
                have cy2 := Kept.cell k2 CY.out
                clear k2 cy
                go_wp2_with fail
                refine (HCY.out _ K2.out).mono ?_
                rintro e_ w3 ⟨rfl, k3⟩
                have K3 := Lib.hid (Kept.trans K2.out k3)
                clear k3 cy2
                go_wp2_with fail
                go_roundw
                case rel => exact ⟨k + 1, e, by omega, by go_num, rfl, by omega, HE.out, K3.out⟩
                case measure => simp [intOf]; omega
          · rw [hp] at HPY
            have HE := Lib.hid (show idScan b p c text = idGo p c (text.drop (k + 1)) (k + 1) (k + 1) by rw [HSC.out, HDK.out, idGo, if_pos hp])
            clear hp
            go_wp2_with fail
            refine (HPY.out _ KW.out).mono ?_
            rintro e_ w2 ⟨rfl, k2⟩
            have K2 := Lib.hid (Kept.trans KW.out k2)
            clear k2 cy
            go_wp2_with fail
            go_roundw
            case rel => exact ⟨k + 1, k + 1, by omega, by go_num, by go_num, Nat.le_refl _, HE.out, K2.out⟩
            case measure => simp [intOf]; omega
        · have hkn : k = nt := by omega
          have HE := Lib.hid (show idScan b p c text = (e, nt) by rw [HSC.out, hkn, List.drop_of_length_le (by rw [← HTN.out]; omega)]; rfl)
          go_wp2_with fail
          go_ret2
          exact ⟨by rw [HE.out, ← hkn]; rfl, KW.out⟩
set_option maxRecDepth 100000 in
set_option maxHeartbeats 1000000 in
theorem iscan_any {bs : Nat} {b p c : Int → Bool} (A : Option Addr) (nt ct : Nat) (text : List Int) (w : World) (h : SetsAt w bs b p c) (hnt : nt ≤ 100000) (hT : Ints w A nt text) :
    Calls Tryz.prog 49 #[.pointer (some ⟨bs, 0, none⟩), .slice A nt ct] w
      (fun e w' => e = .returned (.tuple #[.int .i64 ((idScan b p c text).1 : Nat), .int .i64 ((idScan b p c text).2 : Nat)]) ∧ Kept w w') := by
  have HS := Lib.hid (scan_fn A nt ct text w h hnt hT)
  have hmf : ∀ (fn : Fn) (first cap : Array Value) (w : World), (Instr.makeFunc fn first cap).run Tryz.prog w = .ok (.func fn first cap) w := fun _ _ _ _ => rfl
  clear h hT
  generalize idScan b p c text = R at *
  go_enter Tryz.func49, Tryz.ntmps49
  go_wp2_with fail
  refine HS.out.mono ?_
  rintro e w1 ⟨rfl, k1⟩
  go_wp2_with fail
  go_ret2
  exact ⟨rfl, k1⟩
end Go.Proofs.YtmlcdohldkgcdaaGreatDoor
