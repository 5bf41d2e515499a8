/- The reference's comparison of ranges; ident's sets: begins, proceeds, connects. compose.Second: the set of the second elements of pairs. And more of that kind. -/
import Derived.BigQuiet
import Derived.Deep.RegionHeld3
import Derived.Test.YtmlcdohldkgcdaaGreatDoorKSq
import Derived.Test.YtmlcdohldkgcdaaGreatDoorKSet
import Derived.Test.YtmlcdohldkgcdaaGreatDoorKSta
import Derived.Test.YtmlcdohldkgcdaaGreatDoorKPl58
import Derived.Test.YtmlcdohldkgcdaaGreatDoorKOwn
import Derived.Test.YtmlcdohldkgcdaaGreatDoorKCmb
import Derived.Test.YtmlcdohldkgcdaaGreatDoorKPl41
import Derived.Test.YtmlcdohldkgcdaaGreatDoorKNrm
import Derived.Test.YtmlcdohldkgcdaaGreatDoorKPq
import Derived.Test.YtmlcdohldkgcdaaGreatDoorKRgx
import Derived.Test.YtmlcdohldkgcdaaGreatDoorKRefA
import Derived.Test.YtmlcdohldkgcdaaGreatDoorKRfx
import Derived.Test.YtmlcdohldkgcdaaGreatDoorKExpC
namespace Go.Proofs.YtmlcdohldkgcdaaGreatDoor
open Go Go.RowKit
set_option maxRecDepth 100000 in
set_option maxHeartbeats 1000000 in
theorem sameRanges (A B : Option Addr) (n m c d : Nat) (a b : List Rng) (w : World) (hn : n ≤ 100000) (hm : m ≤ 100000) (ha : Rngs w A n a) (hb : Rngs w B m b) :
    Calls Tryz.prog 25 #[.slice A n c, .slice B m d] w (RetB w (decide (a = b))) := by
  have HA := Lib.hid ha
  have HAN := Lib.hid ha.1
  have HB := Lib.hid hb
  have HBN := Lib.hid hb.1
  clear ha hb
  by_cases hnn : n = m
  · subst hnn
    go_enter Tryz.func25, Tryz.ntmps25
    go_wp2
    go_loopw [5] (fun i wr => ∃ k : Nat, k ≤ n ∧ i = .int .i64 k ∧ a.take k = b.take k ∧ Kept w wr) (fun i _ => n - (intOf i).toNat)
    case atStart => exact ⟨0, Nat.zero_le _, rfl, by simp, Kept.refl _⟩
    case round =>
      obtain ⟨k, hk, rfl, hsame, hBl⟩ := hrel
      have HSA := Lib.hid hsame
      clear hsame
      by_cases hlt : k < n
      · obtain ⟨b1, off1, r, rfl, hr, c0, c1⟩ := rng_at (HA.out.kept hBl) hlt
        obtain ⟨b2, off2, s, rfl, hs, d0, d1⟩ := rng_at (HB.out.kept hBl) hlt
        have HR := Lib.hid hr
        have HS := Lib.hid hs
        have hneq := rng_neq r s
        clear hr hs
        have g1 : (k : Int) < (n : Int) := by omega
        cases hd : decide (r = s)
        · have hne : ¬ r = s := of_decide_eq_false hd
          rw [hd] at hneq
          have HNE := Lib.hid hne
          clear hd hne
          go_wp2_with fail
          go_quiet (fail)
          go_wp2_with fail
          go_ret
          refine ⟨ret_bool ?_, Kept.drewN hBl _⟩
          refine (decide_eq_false (fun e => HNE.out ?_)).symm
          have h1 := HR.out
          rw [e, HS.out] at h1
          injection h1 with h1
          exact h1.symm
        · have hne : r = s := of_decide_eq_true hd
          rw [hd] at hneq
          have HNE := Lib.hid hne
          clear hd hne
          go_wp2_with fail
          go_quiet (fail)
          go_wp2_with fail
          go_roundw
          case rel => exact ⟨k + 1, by omega, by go_num, take_eq_snoc HSA.out HR.out HS.out HNE.out, Kept.drewN hBl _⟩
          case measure => simp [intOf]; omega
      · go_wp2_with fail
        go_ret
        refine ⟨ret_bool (decide_eq_true ?_).symm, hBl⟩
        have := HSA.out
        rwa [List.take_of_length_le (by have := HAN.out; omega), List.take_of_length_le (by have := HBN.out; omega)] at this
  · have hne : ((n : Int) != (m : Int)) = true := by rw [bne_iff_ne]; omega
    go_enter Tryz.func25, Tryz.ntmps25
    go_wp2
    go_ret
    refine ⟨ret_bool (decide_eq_false (fun e => hnn ?_)).symm, Kept.refl w⟩
    have h1 := HAN.out
    have h2 := HBN.out
    rw [e] at h1
    omega
structure SetsAt (w : World) (bs : Nat) (b p c : Int → Bool) : Prop where
  ex : ∃ (A1 : Option Addr) (n1 c1 : Nat) (R1 : List Rng) (A2 : Option Addr) (n2 c2 : Nat) (R2 : List Rng) (A3 : Option Addr) (n3 c3 : Nat) (R3 : List Rng), w.heap[bs]? = some (.cells #[.slice A1 n1 c1, .slice A2 n2 c2, .slice A3 n3 c3] 118 (0, 0)) ∧
    (n1 ≤ 100000 ∧ n2 ≤ 100000 ∧ n3 ≤ 100000) ∧ Rngs w A1 n1 R1 ∧ Rngs w A2 n2 R2 ∧ Rngs w A3 n3 R3 ∧ (∀ x, hasR R1 x = b x) ∧ (∀ x, hasR R2 x = p x) ∧ ∀ x, hasR R3 x = c x
theorem SetsAt.kept {w w' : World} {bs : Nat} {b p c : Int → Bool} (h : SetsAt w bs b p c) (hk : Kept w w') : SetsAt w' bs b p c := by
  obtain ⟨A1, n1, c1, R1, A2, n2, c2, R2, A3, n3, c3, R3, hb, hn, h1, h2, h3, e⟩ := h.ex
  exact ⟨A1, n1, c1, R1, A2, n2, c2, R2, A3, n3, c3, R3, (hk.block bs (block_lt hb)).trans hb, hn, h1.kept hk, h2.kept hk, h3.kept hk, e⟩
set_option maxRecDepth 100000 in
theorem begins_any {bs : Nat} {b p c : Int → Bool} (x : Int) (w : World) (h : SetsAt w bs b p c) : Calls Tryz.prog 71 #[.pointer (some ⟨bs, 0, none⟩), .int .i64 x] w (RetB w (b x)) := by
  obtain ⟨A1, n1, c1, R1, A2, n2, c2, R2, A3, n3, c3, R3, hb, ⟨hn, _, _⟩, h1, h2, h3, e, _, _⟩ := h.ex
  have HH := Lib.hid (setHas A1 n1 c1 R1 x w hn h1)
  rw [e x] at HH
  have q := cell_of_block (i := 0) hb rfl
  simp only [s4_, s5_] at q
  clear h hb h1 h2 h3 e hn
  go_enter Tryz.func71, Tryz.ntmps71
  go_wp2_with fail
  refine HH.out.mono ?_
  rintro e w1 ⟨rfl, k1⟩
  go_wp2_with fail
  go_ret
  exact ⟨rfl, k1⟩
set_option maxRecDepth 100000 in
theorem proceeds_any {bs : Nat} {b p c : Int → Bool} (x : Int) (w : World) (h : SetsAt w bs b p c) : Calls Tryz.prog 72 #[.pointer (some ⟨bs, 0, none⟩), .int .i64 x] w (RetB w (p x)) := by
  obtain ⟨A1, n1, c1, R1, A2, n2, c2, R2, A3, n3, c3, R3, hb, ⟨_, hn, _⟩, h1, h2, h3, _, e, _⟩ := h.ex
  have HH := Lib.hid (setHas A2 n2 c2 R2 x w hn h2)
  rw [e x] at HH
  have q := cell_of_block (i := 1) hb rfl
  simp only [s4_, s5_, s6_] at q
  clear h hb h1 h2 h3 e hn
  go_enter Tryz.func72, Tryz.ntmps72
  go_wp2_with fail
  refine HH.out.mono ?_
  rintro e w1 ⟨rfl, k1⟩
  go_wp2_with fail
  go_ret
  exact ⟨rfl, k1⟩
set_option maxRecDepth 100000 in
theorem connects_any {bs : Nat} {b p c : Int → Bool} (x : Int) (w : World) (h : SetsAt w bs b p c) : Calls Tryz.prog 73 #[.pointer (some ⟨bs, 0, none⟩), .int .i64 x] w (RetB w (c x)) := by
  obtain ⟨A1, n1, c1, R1, A2, n2, c2, R2, A3, n3, c3, R3, hb, ⟨_, _, hn⟩, h1, h2, h3, _, _, e⟩ := h.ex
  have HH := Lib.hid (setHas A3 n3 c3 R3 x w hn h3)
  rw [e x] at HH
  have q := cell_of_block (i := 2) hb rfl
  simp only [s4_, s5_, s6_] at q
  clear h hb h1 h2 h3 e hn
  go_enter Tryz.func73, Tryz.ntmps73
  go_wp2_with fail
  refine HH.out.mono ?_
  rintro e w1 ⟨rfl, k1⟩
  go_wp2_with fail
  go_ret
  exact ⟨rfl, k1⟩
def bound (f bs : Nat) : Value := .func (.func f) #[.pointer (some ⟨bs, 0, none⟩)] #[]
set_option maxRecDepth 100000 in
set_option maxHeartbeats 4000000 in
theorem scan_fn {bs : Nat} {b p c : Int → Bool} (A : Option Addr) (nt ct : Nat) (text : List Int) (w : World) (h : SetsAt w bs b p c) (hnt : nt ≤ 100000) (hT : Ints w A nt text) :
    Calls Tryz.prog 70 #[.slice A nt ct, .func (.func 71) #[.pointer (some ⟨bs, 0, none⟩)] #[], .func (.func 72) #[.pointer (some ⟨bs, 0, none⟩)] #[], .func (.func 73) #[.pointer (some ⟨bs, 0, none⟩)] #[]] w
      (fun e w' => e = .returned (.tuple #[.int .i64 ((idScan b p c text).1 : Nat), .int .i64 ((idScan b p c text).2 : Nat)]) ∧ Kept w w') := by
  have HB := Lib.hid (fun x w' (hk : Kept w w') => begins_any x w' (h.kept hk))
  have HP := Lib.hid (fun x w' (hk : Kept w w') => proceeds_any x w' (h.kept hk))
  have HC := Lib.hid (fun x w' (hk : Kept w w') => connects_any x w' (h.kept hk))
  have HT := Lib.hid hT
  have HTN := Lib.hid hT.1
  clear h hT
  rcases Nat.eq_zero_or_pos nt with h0 | h0
  · have HV := Lib.hid (show idScan b p c text = (0, 0) by rw [List.length_eq_zero_iff.1 (HTN.out.symm.trans h0)]; rfl)
    rw [HV.out]
    go_enter Tryz.func70, Tryz.ntmps70
    go_wp2_with fail
    go_ret2
    exact ⟨rfl, Kept.refl w⟩
  · obtain ⟨bt, ot, x0, hA, hx0, c0⟩ := int_at HT.out h0
    have hnz : ¬ (nt : Int) = 0 := by omega
    have hnz2 : ((nt : Int) == 0) = false := by simp; omega
    have hnz3 : decide ((nt : Int) = 0) = false := decide_eq_false hnz
    have HD := Lib.hid (drop_some hx0)
    rw [List.drop_zero] at HD
    have HC0 := Lib.hid c0
    cases hb : b x0
    · have HV := Lib.hid (show idScan b p c text = (0, 0) by rw [HD.out, idScan, if_neg (by rw [hb]; decide)])
      rw [HV.out]
      have HBX := Lib.hid (HB.out x0)
      rw [hb] at HBX
      clear hb hx0
      simp only [Nat.add_zero] at c0
      rw [hA]
      go_enter Tryz.func70, Tryz.ntmps70
      go_wp2_with fail
      refine (HBX.out _ (Kept.refl w)).mono ?_
      rintro e w1 ⟨rfl, k1⟩
      go_wp2_with fail
      go_ret2
      exact ⟨rfl, k1⟩
    · have HV := Lib.hid (show idScan b p c text = idGo p c (text.drop 1) 1 1 by rw [HD.out, idScan, if_pos hb]; rfl)
      have HBX := Lib.hid (HB.out x0)
      rw [hb] at HBX
      clear hb hx0 HB
      simp only [Nat.add_zero] at c0
      rw [hA]
      have HA := Lib.hid hA
      clear hA
      go_enter Tryz.func70, Tryz.ntmps70
      go_wp2_with fail
      refine (HBX.out _ (Kept.refl w)).mono ?_
      rintro e w1 ⟨rfl, k1⟩
      have K1 := Lib.hid k1
      clear k1 c0
      go_wp2_with fail
      have H0 := Lib.hid h0
      clear hnz hnz2 hnz3
      go_loopw [10, 11] (fun en iv wr => ∃ (k e : Nat), k ≤ nt ∧ iv = .int .i64 k ∧ en = .int .i64 e ∧ e ≤ k ∧ idScan b p c text = idGo p c (text.drop k) k e ∧ Kept w wr) (fun _ iv _ => nt - (intOf iv).toNat)
      case atStart => exact ⟨1, 1, h0, rfl, rfl, Nat.le_refl _, HV.out, K1.out⟩
      case round =>
        obtain ⟨k, e, hk, rfl, rfl, hek, hsc, hkw⟩ := hrel
        have HSC := Lib.hid hsc
        have KW := Lib.hid hkw
        clear hsc hkw
        by_cases hlt : k < nt
        · obtain ⟨b1, o1, y, hA1, hy, cy⟩ := int_at (HT.out.kept KW.out) hlt
          rw [HA.out] at hA1
          injection hA1 with hA1
          injection hA1 with e1 e2
          subst e1 e2
          have HDK := Lib.hid (drop_some hy)
          have HPY := Lib.hid (HP.out y)
          have HCY := Lib.hid (HC.out y)
          have CY := Lib.hid cy
          have hl1 : (k : Int) < (nt : Int) := by omega
          clear hy
          cases hp : p y
          · rw [hp] at HPY
            cases hc : c y
            · rw [hc] at HCY
              have HE := Lib.hid (show idScan b p c text = (e, k) by rw [HSC.out, HDK.out, idGo, if_neg (by rw [hp]; decide), if_pos (.inl hc)])
              clear hp hc
              go_wp2_with fail
              refine (HPY.out _ KW.out).mono ?_
              rintro e_ w2 ⟨rfl, k2⟩
              have K2 := Lib.hid (Kept.trans KW.out k2)
              have cy2 := Kept.cell k2 CY.out
              clear k2 cy
              go_wp2_with fail
              refine (HCY.out _ K2.out).mono ?_
              rintro e_ w3 ⟨rfl, k3⟩
              go_wp2_with fail
              go_ret2
              exact ⟨by rw [HE.out]; rfl, Kept.trans K2.out k3⟩
            · rw [hc] at HCY
              by_cases hek2 : e < k
              · have HE := Lib.hid (show idScan b p c text = (e, k) by rw [HSC.out, HDK.out, idGo, if_neg (by rw [hp]; decide), if_pos (.inr hek2)])
                clear hp hc
                go_wp2_with fail
                refine (HPY.out _ KW.out).mono ?_
                rintro e_ w2 ⟨rfl, k2⟩
                have K2 := Lib.hid (Kept.trans KW.out k2)
                have cy2 := Kept.cell k2 CY.out
                clear k2 cy
                go_wp2_with fail
                refine (HCY.out _ K2.out).mono ?_
                rintro e_ w3 ⟨rfl, k3⟩
                go_wp2_with fail
                go_ret2
                exact ⟨by rw [HE.out]; rfl, Kept.trans K2.out k3⟩
              · have HE := Lib.hid (show idScan b p c text = idGo p c (text.drop (k + 1)) (k + 1) e by rw [HSC.out, HDK.out, idGo, if_neg (by rw [hp]; decide), if_neg (by rw [hc]; simp; omega)])
                clear hp hc
                go_wp2_with fail
                refine (HPY.out _ KW.out).mono ?_
                rintro e_ w2 ⟨rfl, k2⟩
                have K2 := Lib.hid (Kept.trans KW.out k2)
                have cy2 := Kept.cell k2 CY.out
                clear k2 cy
                go_wp2_with fail
                refine (HCY.out _ K2.out).mono ?_
                rintro e_ w3 ⟨rfl, k3⟩
                have K3 := Lib.hid (Kept.trans K2.out k3)
                clear k3 cy2
                go_wp2_with fail
                go_roundw
                case rel => exact ⟨k + 1, e, by omega, by go_num, rfl, by omega, HE.out, K3.out⟩
                case measure => simp [intOf]; omega
          · rw [hp] at HPY
            have HE := Lib.hid (show idScan b p c text = idGo p c (text.drop (k + 1)) (k + 1) (k + 1) by rw [HSC.out, HDK.out, idGo, if_pos hp])
            clear hp
            go_wp2_with fail
            refine (HPY.out _ KW.out).mono ?_
            rintro e_ w2 ⟨rfl, k2⟩
            have K2 := Lib.hid (Kept.trans KW.out k2)
            clear k2 cy
            go_wp2_with fail
            go_roundw
            case rel => exact ⟨k + 1, k + 1, by omega, by go_num, by go_num, Nat.le_refl _, HE.out, K2.out⟩
            case measure => simp [intOf]; omega
        · have hkn : k = nt := by omega
          have HE := Lib.hid (show idScan b p c text = (e, nt) by rw [HSC.out, hkn, List.drop_of_length_le (by rw [← HTN.out]; omega)]; rfl)
          go_wp2_with fail
          go_ret2
          exact ⟨by rw [HE.out, ← hkn]; rfl, KW.out⟩
set_option maxRecDepth 100000 in
set_option maxHeartbeats 1000000 in
theorem iscan_any {bs : Nat} {b p c : Int → Bool} (A : Option Addr) (nt ct : Nat) (text : List Int) (w : World) (h : SetsAt w bs b p c) (hnt : nt ≤ 100000) (hT : Ints w A nt text) :
    Calls Tryz.prog 49 #[.pointer (some ⟨bs, 0, none⟩), .slice A nt ct] w
      (fun e w' => e = .returned (.tuple #[.int .i64 ((idScan b p c text).1 : Nat), .int .i64 ((idScan b p c text).2 : Nat)]) ∧ Kept w w') := by
  have HS := Lib.hid (scan_fn A nt ct text w h hnt hT)
  have hmf : ∀ (fn : Fn) (first cap : Array Value) (w : World), (Instr.makeFunc fn first cap).run Tryz.prog w = .ok (.func fn first cap) w := fun _ _ _ _ => rfl
  clear h hT
  generalize idScan b p c text = R at *
  go_enter Tryz.func49, Tryz.ntmps49
  go_wp2_with fail
  refine HS.out.mono ?_
  rintro e w1 ⟨rfl, k1⟩
  go_wp2_with fail
  go_ret2
  exact ⟨rfl, k1⟩
end Go.Proofs.YtmlcdohldkgcdaaGreatDoor
namespace Go.Proofs.YtmlcdohldkgcdaaGreatDoor
open Go Go.RowKit
def mapLeft (w : World) (r : Nat) : Nat := match w.heap[r]? with
  | some (.mapIter (some b) _ seen _) => match w.heap[b]? with
    | some (.map es _) => (leftOf es seen).size
    | _ => 0
  | _ => 0
theorem MapRg.left {α : Type} {w : World} {b r m : Nat} {enc : α → Value} {M D : List (α × Value)} (h : MapRg w b r enc M D m) : mapLeft w r = m := by
  obtain ⟨es, cl, si, se, c0, h1, h2, _, _, _, _, _, h8, _⟩ := h
  unfold mapLeft
  rw [h2]
  simp only [h1, h8]
theorem MapRg.le {α : Type} {w : World} {b r m : Nat} {enc : α → Value} {M D : List (α × Value)} (h : MapRg w b r enc M D m) : m ≤ M.length := by
  obtain ⟨es, cl, si, se, c0, _, _, h3, _, _, _, _, h8, _⟩ := h
  have hlen : es.size = M.length := by have := congrArg List.length h3; simpa using this
  rw [← h8, ← hlen]
  exact Array.size_filter_le
theorem Rngs.setCell {w : World} {A : Option Addr} {n g off : Nat} {rs : List Rng} (h : Rngs w A n rs) (hg : ∀ off x, w.cell? ⟨g, off, none⟩ ≠ some (.int .i64 x)) (v : Value) : Rngs (w.setCell ⟨g, off, none⟩ v) A n rs :=
  ⟨h.1, fun hn => by
    obtain ⟨b, o1, e, hc⟩ := h.2 hn
    refine ⟨b, o1, e, fun i x hx j u hu => ?_⟩
    have h1 := hc i x hx j u hu
    have hu2 : ∃ z, u = .int .i64 z := by
      unfold encR at hu
      match j, hu with
      | 0, hu => exact ⟨_, (Option.some.inj hu).symm⟩
      | 1, hu => exact ⟨_, (Option.some.inj hu).symm⟩
    obtain ⟨z, rfl⟩ := hu2
    have hne : b ≠ g := fun e2 => hg _ _ (by rw [← e2]; exact h1)
    rw [← h1]
    refine World.cell?_of_block ?_
    simp only [World.setCell]
    rw [Array.getElem?_modify, if_neg (fun e2 => hne e2.symm)]⟩
end Go.Proofs.YtmlcdohldkgcdaaGreatDoor
namespace Go.Proofs.YtmlcdohldkgcdaaGreatDoor
open Go Go.RowKit
theorem own_ne {w : World} {b1 b2 : Nat} {e1 e2 : TypeId} {s1 s2 : Nat} {v1 v2 : Value} {n1 n2 : Nat} {xs ys : List Value} (h1 : w.ownsRow b1 e1 s1 v1 n1 xs) (h2 : w.ownsRow b2 e2 s2 v2 n2 ys) (he : e1 ≠ e2) : v1.ownBlock = none ∨ v1.ownBlock ≠ v2.ownBlock := by
  rcases h1.2 with ⟨rfl, _⟩ | ⟨g, cap, cur, rfl, _, hg, _⟩
  · exact .inl rfl
  · right
    rcases h2.2 with ⟨rfl, _⟩ | ⟨g2, cap2, cur2, rfl, _, hg2, _⟩
    · simp [Value.ownBlock]
    · intro e
      simp only [Value.ownBlock, Option.some.injEq] at e
      subst e
      rw [hg] at hg2
      injection hg2 with hg2
      injection hg2 with _ h
      exact he h
theorem int_ints_ne : (3 : TypeId) ≠ 32 := by decide
def ValsT (w : World) (vals : List Value) (T : List (List Int)) : Prop := vals.length = T.length ∧ ∀ (i : Nat) (v : Value) (xs : List Int), vals[i]? = some v → T[i]? = some xs → OwnI w 0 v xs
theorem ValsT.nil (w : World) : ValsT w [] [] := ⟨rfl, fun i v xs h => by simp at h⟩
theorem ValsT.kept {w w' : World} {vals : List Value} {T : List (List Int)} (h : ValsT w vals T) (hk : Kept w w') : ValsT w' vals T :=
  ⟨h.1, fun i v xs hv hx => World.ownsRow.kept (h.2 i v xs hv hx) (row := none) ⟨hk.os, hk.tape, hk.output, hk.size, fun k hk2 _ => hk.block k hk2⟩ (by cases h0 : v.ownBlock <;> simp)⟩
theorem ValsT.grown {w w' : World} {vals : List Value} {T : List (List Int)} (h : ValsT w vals T) {out : Value} {b n : Nat} {ys : List Value} (ho : w.ownsRow b 32 1 out n ys) (hg : w.grownBy w' out.ownBlock) : ValsT w' vals T :=
  ⟨h.1, fun i v xs hv hx => World.ownsRow.kept (h.2 i v xs hv hx) hg (own_ne (h.2 i v xs hv hx) ho int_ints_ne)⟩
theorem ValsT.snoc {w : World} {vals : List Value} {T : List (List Int)} (h : ValsT w vals T) {v : Value} {xs : List Int} (hv : OwnI w 0 v xs) : ValsT w (vals ++ [v]) (T ++ [xs]) := by
  refine ⟨by simp [h.1], fun i u ys hu hy => ?_⟩
  rcases Nat.lt_or_ge i vals.length with hi | hi
  · rw [List.getElem?_append_left hi] at hu
    rw [List.getElem?_append_left (by rw [← h.1]; exact hi)] at hy
    exact h.2 i u ys hu hy
  · rw [List.getElem?_append_right hi] at hu
    rw [List.getElem?_append_right (by rw [← h.1]; exact hi), ← h.1] at hy
    cases hd : i - vals.length with
    | zero => rw [hd] at hu hy; simp only [List.getElem?_cons_zero, Option.some.injEq] at hu hy; rw [← hu, ← hy]; exact hv
    | succ k => rw [hd] at hu; simp at hu
theorem ValsT.tab {w : World} {vals : List Value} {T : List (List Int)} (h : ValsT w vals T) {out : Value} {b : Nat} (ho : w.ownsRow b 32 1 out vals.length vals) : ∃ B m c, out = .slice B m c ∧ m ≤ c ∧ Tab w B m T := by
  rcases ho.2 with ⟨rfl, h0⟩ | ⟨g, cap, cur, rfl, _, hg, hle, _, hsz, hx⟩
  · exact ⟨none, 0, 0, rfl, Nat.le_refl _, by rw [← h.1]; exact h0.symm, fun h => by omega⟩
  · refine ⟨_, _, _, rfl, hle, by rw [h.1], fun _ => ⟨g, 0, rfl, fun i xs hxs => ?_⟩⟩
    have hi := lt_of_getElem?_some hxs
    obtain ⟨v, hv⟩ := getElem?_some_of_lt (l := vals) (k := i) (by rw [h.1]; exact hi)
    obtain ⟨A, c, e, hle2, hI⟩ := OwnI.sl (h.2 i v xs hv hxs)
    refine ⟨A, xs.length, c, ?_, hle2, hI⟩
    rw [Nat.zero_add, ho.cellAt i (by rw [h.1]; omega), hv, e]
theorem Ints.lt {w : World} {A : Option Addr} {n : Nat} {xs : List Int} (h : Ints w A n xs) (hn : 0 < n) : ∀ a, A = some a → a.block < w.heap.size := by
  obtain ⟨b, off, x, e, hx, hc⟩ := int_at h hn
  intro a ha
  rw [e] at ha
  injection ha with ha
  rw [← ha]
  exact cell_lt hc
end Go.Proofs.YtmlcdohldkgcdaaGreatDoor
namespace Go.Proofs.YtmlcdohldkgcdaaGreatDoor
open Go Go.RowKit
def Sls.chk (s : Sls) (form : Int) (cp : Bool) (S : Value) : Array Value := #[.slice s.Ac s.nc s.cc, .slice s.Am s.nm s.cm, .slice s.Ae s.ne s.ce, .int .i64 form, .bool cp, S]
end Go.Proofs.YtmlcdohldkgcdaaGreatDoor
namespace Go.Proofs.YtmlcdohldkgcdaaGreatDoor
open Go Go.RowKit
set_option maxRecDepth 100000 in
set_option maxHeartbeats 2000000 in
theorem r39Small (i : Ids) (r : IdR) (w : World) (hI : IdIn w i r) : Calls Tryz.prog 47 #[i.val] w (RetB w (smallI r)) := by
  have hk0_ := Kept.alloc (Kept.refl w) (Obj.cells #[Value.slice i.As i.ns i.cs, Value.slice i.Ac i.nc i.cc, Value.slice i.Am i.nm i.cm] 54)
  have HK1 := Lib.hid hk0_
  have hb0_ := (box_block w (Obj.cells #[Value.slice i.As i.ns i.cs, Value.slice i.Ac i.nc i.cc, Value.slice i.Am i.nm i.cm] 54))
  have x0_ := cell_of_block (i := 0) hb0_ rfl
  have x1_ := cell_of_block (i := 1) hb0_ rfl
  have x2_ := cell_of_block (i := 2) hb0_ rfl
  simp only [s4_, s5_, s6_] at x0_ x1_ x2_
  have HX0 := Lib.hid x0_
  have HX1 := Lib.hid x1_
  have HX2 := Lib.hid x2_
  have HB0 := Lib.hid hb0_
  clear x0_ x1_ x2_ hb0_
  have e1 : decide (r.st.length ≤ 12) = decide (i.ns ≤ 12) := by rw [hI.st.1]
  have e2 : decide (r.co.length ≤ 12) = decide (i.nc ≤ 12) := by rw [hI.co.1]
  have e3 : decide (r.me.length ≤ 12) = decide (i.nm ≤ 12) := by rw [hI.me.1]
  have HSM := Lib.hid (show smallI r = (decide (i.ns ≤ 12) && decide (i.nc ≤ 12) && decide (i.nm ≤ 12)) by unfold smallI; rw [e1, e2, e3])
  clear hI e1 e2 e3 hk0_
  have H1 := Lib.hid (fun w' => r02Small i.As i.ns i.cs w')
  have H2 := Lib.hid (fun w' => r02Small i.Ac i.nc i.cc w')
  have H3 := Lib.hid (fun w' => r02Small i.Am i.nm i.cm w')
  generalize decide (i.ns ≤ 12) = b1 at *
  generalize decide (i.nc ≤ 12) = b2 at *
  generalize decide (i.nm ≤ 12) = b3 at *
  rw [HSM.out]
  cases b1
  · skip
    unfold Ids.val
    go_enter Tryz.func47, Tryz.ntmps47
    have p0 := HX0.out
    have p1 := HX1.out
    have p2 := HX2.out
    go_wp2_with fail
    refine (H1.out _).mono ?_
    rintro e w1 ⟨rfl, k1⟩
    clear p0 p1 p2
    have KB1 := Lib.hid (Kept.trans (Kept.refl (w.alloc (Obj.cells #[Value.slice i.As i.ns i.cs, Value.slice i.Ac i.nc i.cc, Value.slice i.Am i.nm i.cm] 54))) k1)
    go_wp2_with fail
    go_ret
    exact ⟨rfl, (Kept.trans HK1.out KB1.out)⟩
  · cases b2
    · skip
      unfold Ids.val
      go_enter Tryz.func47, Tryz.ntmps47
      have p0 := HX0.out
      have p1 := HX1.out
      have p2 := HX2.out
      go_wp2_with fail
      refine (H1.out _).mono ?_
      rintro e w1 ⟨rfl, k1⟩
      clear p0 p1 p2
      have KB1 := Lib.hid (Kept.trans (Kept.refl (w.alloc (Obj.cells #[Value.slice i.As i.ns i.cs, Value.slice i.Ac i.nc i.cc, Value.slice i.Am i.nm i.cm] 54))) k1)
      have p0 := Kept.cell KB1.out HX0.out
      have p1 := Kept.cell KB1.out HX1.out
      have p2 := Kept.cell KB1.out HX2.out
      go_wp2_with fail
      refine (H2.out _).mono ?_
      rintro e w2 ⟨rfl, k2⟩
      clear p0 p1 p2
      have KB2 := Lib.hid (Kept.trans KB1.out k2)
      go_wp2_with fail
      go_ret
      exact ⟨rfl, (Kept.trans HK1.out KB2.out)⟩
    · skip
      cases b3
      · skip
        unfold Ids.val
        go_enter Tryz.func47, Tryz.ntmps47
        have p0 := HX0.out
        have p1 := HX1.out
        have p2 := HX2.out
        go_wp2_with fail
        refine (H1.out _).mono ?_
        rintro e w1 ⟨rfl, k1⟩
        clear p0 p1 p2
        have KB1 := Lib.hid (Kept.trans (Kept.refl (w.alloc (Obj.cells #[Value.slice i.As i.ns i.cs, Value.slice i.Ac i.nc i.cc, Value.slice i.Am i.nm i.cm] 54))) k1)
        have p0 := Kept.cell KB1.out HX0.out
        have p1 := Kept.cell KB1.out HX1.out
        have p2 := Kept.cell KB1.out HX2.out
        go_wp2_with fail
        refine (H2.out _).mono ?_
        rintro e w2 ⟨rfl, k2⟩
        clear p0 p1 p2
        have KB2 := Lib.hid (Kept.trans KB1.out k2)
        have p0 := Kept.cell KB2.out HX0.out
        have p1 := Kept.cell KB2.out HX1.out
        have p2 := Kept.cell KB2.out HX2.out
        go_wp2_with fail
        refine (H3.out _).mono ?_
        rintro e w3 ⟨rfl, k3⟩
        clear p0 p1 p2
        have KB3 := Lib.hid (Kept.trans KB2.out k3)
        go_wp2_with fail
        go_ret
        exact ⟨rfl, (Kept.trans HK1.out KB3.out)⟩
      · skip
        unfold Ids.val
        go_enter Tryz.func47, Tryz.ntmps47
        have p0 := HX0.out
        have p1 := HX1.out
        have p2 := HX2.out
        go_wp2_with fail
        refine (H1.out _).mono ?_
        rintro e w1 ⟨rfl, k1⟩
        clear p0 p1 p2
        have KB1 := Lib.hid (Kept.trans (Kept.refl (w.alloc (Obj.cells #[Value.slice i.As i.ns i.cs, Value.slice i.Ac i.nc i.cc, Value.slice i.Am i.nm i.cm] 54))) k1)
        have p0 := Kept.cell KB1.out HX0.out
        have p1 := Kept.cell KB1.out HX1.out
        have p2 := Kept.cell KB1.out HX2.out
        go_wp2_with fail
        refine (H2.out _).mono ?_
        rintro e w2 ⟨rfl, k2⟩
        clear p0 p1 p2
        have KB2 := Lib.hid (Kept.trans KB1.out k2)
        have p0 := Kept.cell KB2.out HX0.out
        have p1 := Kept.cell KB2.out HX1.out
        have p2 := Kept.cell KB2.out HX2.out
        go_wp2_with fail
        refine (H3.out _).mono ?_
        rintro e w3 ⟨rfl, k3⟩
        clear p0 p1 p2
        have KB3 := Lib.hid (Kept.trans KB2.out k3)
        go_wp2_with fail
        go_ret
        exact ⟨rfl, (Kept.trans HK1.out KB3.out)⟩
end Go.Proofs.YtmlcdohldkgcdaaGreatDoor
