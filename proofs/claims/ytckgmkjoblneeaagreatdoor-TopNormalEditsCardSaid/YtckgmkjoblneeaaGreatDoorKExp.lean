/- decompose.expander: what its closure has captured. decompose.expander's closure returns the full decomposition. -/
import Derived.Test.YtckgmkjoblneeaaGreatDoorKApp
import Derived.Test.YtckgmkjoblneeaaGreatDoorKPl
namespace Go.Proofs.YtckgmkjoblneeaaGreatDoor
open Go Go.RowKit
def AwayM (g : Nat) (M : List (Int × Value)) : Prop := ∀ k v, getKV M k = some v → Away g (adOf v)
structure ExpAt (w : World) (bs bn bc bx bm : Nat) (s : Sls) (cp : Bool) (F : Int → List Int) (M : List (Int × Value)) : Prop where
  fs : w.heap[bs]? = some (.cells #[.map (some bm)] 124 (0, 0))
  n : w.heap[bn]? = some (.cells #[.slice s.Ac s.nc s.cc, .slice s.Am s.nm s.cm, .slice s.Ae s.ne s.ce] 28 (0, 0))
  c : w.heap[bc]? = some (.cells #[.bool cp] 4 (0, 0))
  x : w.heap[bx]? = some (.cells #[.func (.func 62) #[] #[.pointer (some ⟨bs, 0, none⟩), .pointer (some ⟨bn, 0, none⟩), .pointer (some ⟨bc, 0, none⟩), .pointer (some ⟨bx, 0, none⟩)]] 99 (0, 0))
  m : MapIs w bm (fun k : Int => Value.int .i64 k) M
  vals : ∀ k v, getKV M k = some v → ∃ A n c, v = .slice A n c ∧ n ≤ c ∧ Ints w A n (F k) ∧ InHeap w A
section
variable {w w' : World} {bs bn bc bx bm : Nat} {s : Sls} {cp : Bool} {F : Int → List Int} {M : List (Int × Value)}
theorem ExpAt.noInt (h : ExpAt w bs bn bc bx bm s cp F M) : ∀ b ∈ [bm], ∀ off x, w.cell? ⟨b, off, none⟩ ≠ some (.int .i64 x) := by
  intro b hb off x hc
  simp only [List.mem_cons, List.not_mem_nil, or_false] at hb
  subst hb
  obtain ⟨es, cl, hm, _⟩ := h.m
  unfold World.cell? at hc
  simp [hm] at hc
theorem ExpAt.neMap (h : ExpAt w bs bn bc bx bm s cp F M) {b : Nat} {cs : Array Value} {t : TypeId} (hb : w.heap[b]? = some (.cells cs t (0, 0))) : b ≠ bm := fun e => by
  obtain ⟨es, cl, hmm, _⟩ := h.m
  subst e
  rw [hmm] at hb
  cases hb
theorem ExpAt.kept (h : ExpAt w bs bn bc bx bm s cp F M) (hk : Kept w w') : ExpAt w' bs bn bc bx bm s cp F M :=
  ⟨(hk.block _ (block_lt h.fs)).trans h.fs, (hk.block _ (block_lt h.n)).trans h.n, (hk.block _ (block_lt h.c)).trans h.c, (hk.block _ (block_lt h.x)).trans h.x, h.m.kept hk, fun k v hv => by
    obtain ⟨A, n, c, e, hle, hI, hh⟩ := h.vals k v hv
    exact ⟨A, n, c, e, hle, hI.kept hk, hh.le hk.size⟩⟩
theorem ExpAt.grown (h : ExpAt w bs bn bc bx bm s cp F M) {row : Option Nat} (hg : w.grownBy w' row) (hr : ∀ g, row = some g → AwayM g M ∧ g ≠ bs ∧ g ≠ bn ∧ g ≠ bc ∧ g ≠ bx ∧ g ≠ bm) : ExpAt w' bs bn bc bx bm s cp F M := by
  have ne : ∀ {b : Nat}, (∀ g, row = some g → g ≠ b) → some b ≠ row := fun hb e => hb _ e.symm rfl
  refine ⟨(hg.block _ (block_lt h.fs) (ne fun g e => (hr g e).2.1)).trans h.fs, (hg.block _ (block_lt h.n) (ne fun g e => (hr g e).2.2.1)).trans h.n, (hg.block _ (block_lt h.c) (ne fun g e => (hr g e).2.2.2.1)).trans h.c, (hg.block _ (block_lt h.x) (ne fun g e => (hr g e).2.2.2.2.1)).trans h.x, h.m.block (hg.block _ h.m.lt (ne fun g e => (hr g e).2.2.2.2.2)), fun k v hv => ?_⟩
  obtain ⟨A, n, c, e, hle, hI, hh⟩ := h.vals k v hv
  refine ⟨A, n, c, e, hle, hI.grown hg (fun g hgr => ?_), hh.le hg.size⟩
  have := (hr g hgr).1 k v hv
  rw [e] at this
  exact this
theorem ExpAt.mapped (h : ExpAt w bs bn bc bx bm s cp F M) {k0 : Int} {A : Option Addr} {n c : Nat} (hg : w.grownBy w' (some bm)) (hm : MapIs w' bm (fun k : Int => Value.int .i64 k) (setKV M k0 (.slice A n c))) (hle : n ≤ c) (hI : Ints w A n (F k0)) (hA : InHeap w A) :
    ExpAt w' bs bn bc bx bm s cp F (setKV M k0 (.slice A n c)) := by
  have ne : ∀ {b : Nat} {cs : Array Value} {t : TypeId}, w.heap[b]? = some (.cells cs t (0, 0)) → some b ≠ some bm := fun hb e => h.neMap hb (by injection e)
  refine ⟨(hg.block _ (block_lt h.fs) (ne h.fs)).trans h.fs, (hg.block _ (block_lt h.n) (ne h.n)).trans h.n, (hg.block _ (block_lt h.c) (ne h.c)).trans h.c, (hg.block _ (block_lt h.x) (ne h.x)).trans h.x, hm, fun k v hv => ?_⟩
  rw [getKV_set] at hv
  split at hv
  · rename_i e
    subst e
    injection hv with hv
    exact ⟨A, n, c, hv.symm, hle, hI.keptBut (KeptBut.of_grown hg (by simp)) h.noInt, hA.le hg.size⟩
  · obtain ⟨A', n', c', e, hle', hI', hh⟩ := h.vals k v hv
    exact ⟨A', n', c', e, hle', hI'.keptBut (KeptBut.of_grown hg (by simp)) h.noInt, hh.le hg.size⟩
end
theorem own_keptBut {S : List Nat} {w w' : World} {base : Nat} {v : Value} {xs : List Int} (h : OwnI w base v xs) (hk : KeptBut S w w') (hS : ∀ g, v.ownBlock = some g → g ∉ S) : OwnI w' base v xs := by
  refine ⟨h.1, ?_⟩
  rcases h.2 with hn | ⟨g, cap, cur, rfl, hb, hgg, rest⟩
  · exact .inl hn
  · exact .inr ⟨g, cap, cur, rfl, hb, (hk.block g (block_lt hgg) (hS g rfl)).trans hgg, rest⟩
def ExpPost (bs bn bc bx bm : Nat) (s : Sls) (cp : Bool) (F : Int → List Int) (M : List (Int × Value)) (w : World) (c : Int) (e : Ending) (w' : World) : Prop :=
  ∃ A n cc M', e = .returned (.slice A n cc) ∧ n ≤ cc ∧ Ints w' A n (F c) ∧ InHeap w' A ∧ KeptBut [bm] w w' ∧ ExpAt w' bs bn bc bx bm s cp F M' ∧ ∀ g, g < w.heap.size → AwayM g M → AwayM g M' ∧ Away g A
end Go.Proofs.YtckgmkjoblneeaaGreatDoor
namespace Go.Proofs.YtckgmkjoblneeaaGreatDoor
open Go Go.RowKit
theorem flatMap_take {F : Int → List Int} {to : List Int} {k : Nat} {x : Int} (h : to[k]? = some x) : (to.take (k + 1)).flatMap F = (to.take k).flatMap F ++ F x := by
  rw [take_succ_some h, List.flatMap_append]; simp
theorem flatMap_length_le {F : Int → List Int} (hF : ∀ c, (F c).length ≤ 1000) : ∀ l : List Int, (l.flatMap F).length ≤ 1000 * l.length
  | [] => by simp
  | x :: r => by
    have := hF x
    have := flatMap_length_le hF r
    rw [List.flatMap_cons, List.length_append, List.length_cons]; omega
set_option maxRecDepth 100000 in
set_option maxHeartbeats 2000000 in
theorem expand_calls (s : Sls) (n : Nrm) (hs : MpSorted n.decomp) (cp : Bool) (F : Int → List Int) (hF : FullEq n.decomp cp F) (hlen : ∀ c, (F c).length ≤ 1000) (B0 bs bn bc bx bm : Nat) (hB : B0 ≤ bm) :
    ∀ c, Acc (Child n.decomp cp) c → ∀ (M : List (Int × Value)) (w : World), ExpAt w bs bn bc bx bm s cp F M → (∀ w', Below B0 w w' → NormAt w' s n) → B0 ≤ w.heap.size →
    Calls Tryz.prog 62 #[.int .i64 c, .pointer (some ⟨bs, 0, none⟩), .pointer (some ⟨bn, 0, none⟩), .pointer (some ⟨bc, 0, none⟩), .pointer (some ⟨bx, 0, none⟩)] w (ExpPost bs bn bc bx bm s cp F M w c) := by
  intro c hacc
  induction hacc with
  | intro c _ ih =>
  intro M w hE hst hBw
  have IH := Lib.hid ih
  have HE := Lib.hid hE
  have HST := Lib.hid hst
  have HF := Lib.hid hF
  have HLEN := Lib.hid hlen
  have HO := Lib.hid (once_any s n c cp w (hst w (Below.refl _ _)) hs)
  have s0 := cell_of_block (i := 0) hE.fs rfl
  have n0 := cell_of_block (i := 0) hE.n rfl
  have n1 := cell_of_block (i := 1) hE.n rfl
  have n2 := cell_of_block (i := 2) hE.n rfl
  have c0 := cell_of_block (i := 0) hE.c rfl
  have hlk := run_lookup_ok (T := 124) (E := 32) (keyOk_int (P := Tryz.prog) (K := 3) (by kernel_rfl)) (by kernel_rfl) hE.m (.slice none 0 0) (fun w => by kernel_rfl) c
  have HV := Lib.hid hE.vals
  clear ih hE hst hF hlen
  cases hk : getKV M c with
  | some v =>
    obtain ⟨A, nn, cc, rfl, hle, hI, hh⟩ := HV.out c v hk
    rw [hk] at hlk
    simp only at hlk
    have HK := Lib.hid hk
    have HI := Lib.hid hI
    have HH := Lib.hid hh
    clear hk hI hh
    go_enter Tryz.func62, Tryz.ntmps62
    go_wp2_with fail
    go_ret
    exact ⟨A, nn, cc, M, rfl, hle, HI.out, HH.out, KeptBut.refl _ _, HE.out, fun g _ hg => ⟨hg, hg c _ HK.out⟩⟩
  | none =>
    rw [hk] at hlk
    simp only at hlk
    have HK := Lib.hid hk
    clear hk
    go_enter Tryz.func62, Tryz.ntmps62
    go_wp2_with fail
    refine HO.out.mono ?_
    rintro e w1 ⟨hk1, hr⟩
    have hE1 := HE.out.kept hk1
    clear s0 n0 n1 n2 c0 hlk
    cases ho : onceOf n.decomp c cp with
    | none =>
      rw [ho] at hr
      simp only at hr
      subst hr
      have HC := Lib.hid (show F c = [c] by rw [HF.out c, ho])
      have HE1 := Lib.hid hE1
      clear ho hE1
      go_wp2_with fail
      go_ret
      have hk2 := Kept.alloc (Kept.refl w1) (Obj.cells #[Value.int IntKind.i64 c] 3)
      refine ⟨_, 1, 1, M, rfl, Nat.le_refl _, ?_, ?_, (Kept.trans hk1 hk2).but _, HE1.out.kept hk2, fun g hg ha => ⟨ha, fun p hp => ?_⟩⟩
      · rw [HC.out]
        exact Ints.alloc_ (xs := [c]) rfl rfl
      · intro p hp
        injection hp with hp
        subst hp
        simp
      · injection hp with hp
        subst hp
        have := hk1.size
        simp only
        omega
    | some to =>
      rw [ho] at hr
      obtain ⟨A, nn, cc, rfl, hle, hI⟩ := hr
      have HC := Lib.hid (show F c = to.flatMap F by rw [HF.out c, ho])
      have hnn : nn ≤ 1000 := by rw [hI.1]; exact onceOf_length (HST.out w (Below.refl _ _)).to ho
      have HCH := Lib.hid (show ∀ e ∈ to, Child n.decomp cp e c from fun e he => ⟨to, ho, he⟩)
      have HI := Lib.hid hI
      have HN := Lib.hid hI.1
      have HE1 := Lib.hid hE1
      have hsz := hk1.size
      obtain ⟨base, hbase⟩ : ∃ base : Nat, base = w1.heap.size := ⟨_, rfl⟩
      have HBASE := Lib.hid hbase
      have hb1 : base ≤ w1.heap.size := by omega
      have hb2 : w.heap.size ≤ base := by omega
      clear ho hI hE1 hbase
      go_wp2_with fail
      go_loopw [11, 35] (fun p i wr => ∃ (j : Nat) (Mj : List (Int × Value)), j ≤ nn ∧ i = .int .i64 j ∧ OwnI wr base p ((to.take j).flatMap F) ∧ ExpAt wr bs bn bc bx bm s cp F Mj ∧ KeptBut [bm] w1 wr ∧ Ints wr A nn to ∧ (∀ g, g < w.heap.size → AwayM g M → AwayM g Mj) ∧ (∀ g, p.ownBlock = some g → AwayM g Mj)) (fun _ i _ => nn - (intOf i).toNat)
      case atStart => exact ⟨0, M, Nat.zero_le _, rfl, (World.ownsRow_nil _ _ _ _ : OwnI w1 base (.slice none 0 0) []), HE1.out, KeptBut.refl _ _, HI.out, fun g _ h => h, fun g h => by cases h⟩
      case round =>
        obtain ⟨j, Mj, hj, rfl, hown, hEj, hkj, hIj, haw, hown2⟩ := hrel
        have HOW := Lib.hid hown
        have HEJ := Lib.hid hEj
        have HIJ := Lib.hid hIj
        have HAW := Lib.hid haw
        have HOB := Lib.hid hown2
        have x0 := cell_of_block (i := 0) hEj.x rfl
        have s0 := cell_of_block (i := 0) hEj.fs rfl
        have hszj := hkj.size
        clear hown hEj hIj haw hown2
        by_cases hjn : j < nn
        · obtain ⟨b2, off2, y, rfl, hy, cy⟩ := int_at HIJ.out hjn
          have hbel : Below B0 w wr := Below.trans (hk1.mono hBw) (KeptBut.below hkj (by simpa using hB) (by omega))
          have HCALL := Lib.hid (IH.out y (HCH.out y (mem_of_getElem?_some hy)) Mj wr HEJ.out (fun w' hw' => HST.out w' (hbel.trans hw')) (Nat.le_trans hBw hbel.size))
          have HT := Lib.hid (flatMap_take (F := F) hy)
          have hfl := flatMap_length_le HLEN.out (to.take j)
          have hjl : (to.take j).length ≤ 1000 := by rw [List.length_take]; omega
          have hfy := HLEN.out y
          clear hy s0
          go_wp2_with fail
          refine HCALL.out.mono ?_
          rintro e w3 ⟨A3, n3, c3, M3, rfl, hle3, hI3, hh3, hk3, hE3, haw3⟩
          have hgl : ∀ g, u11.ownBlock = some g → base ≤ g ∧ g < wr.heap.size := World.ownsRow.lt HOW.out
          have hown3 : OwnI w3 base u11 ((to.take j).flatMap F) := own_keptBut HOW.out hk3 (fun g hg hm => by
            rcases HOW.out.2 with ⟨rfl, _⟩ | ⟨g', cap, cur, rfl, _, hgg, _⟩
            · cases hg
            · simp only [Value.ownBlock, Option.some.injEq] at hg
              simp only [List.mem_cons, List.not_mem_nil, or_false] at hm
              exact HEJ.out.neMap hgg (by rw [hg, hm]))
          have HOW3 := Lib.hid hown3
          have HI3 := Lib.hid hI3
          have HE3 := Lib.hid hE3
          have HA3 := Lib.hid haw3
          have HH3 := Lib.hid hh3
          have HGL := Lib.hid hgl
          have HIA := Lib.hid (HIJ.out.keptBut hk3 HEJ.out.noInt)
          clear hown3 hI3 hE3 haw3 hh3 hgl x0 cy
          have hsz3 := hk3.size
          go_wp2_with (at_builtin; refine app_ints rfl _ _ rfl base _ _ rfl HOW3.out _ _ _ (F y) rfl HI3.out (by omega) (by omega) ?_; intro v4 w4 hown4 hgrow4 hat4)
          have hsz4 := hgrow4.size
          have hE4 : ExpAt w4 bs bn bc bx bm s cp F M3 := HE3.out.grown hgrow4 (fun g hg => by
            obtain ⟨g1, g2⟩ := HGL.out g hg
            have hlt : ∀ {b : Nat} {o : Obj}, w.heap[b]? = some o → g ≠ b := fun hb e => by have := block_lt hb; omega
            obtain ⟨es, cl, hmm, _⟩ := HE.out.m
            exact ⟨(HA3.out g g2 (HOB.out g hg)).1, hlt HE.out.fs, hlt HE.out.n, hlt HE.out.c, hlt HE.out.x, hlt hmm⟩)
          have HE4 := Lib.hid hE4
          go_roundw
          case rel =>
            refine ⟨j + 1, M3, by omega, by go_num, by rw [HT.out]; exact hown4, HE4.out, ⟨hgrow4.os.trans (hk3.os.trans hkj.os), hgrow4.tape.trans (hk3.tape.trans hkj.tape), hgrow4.output.trans (hk3.output.trans hkj.output), by omega, fun i hi hS => ?_⟩, ?_, fun g hg ha => (HA3.out g (by omega) (HAW.out g hg ha)).1, fun g hg => ?_⟩
            · rw [hgrow4.block i (by omega) (fun e => by have := (HGL.out i e.symm).1; have := HBASE.out; omega), hk3.block i (by omega) hS, hkj.block i hi hS]
            · refine HIA.out.grown hgrow4 (fun g hg p hp => ?_)
              injection hp with hp
              subst hp
              have h1 := (HGL.out g hg).1
              obtain ⟨b', off', e', hc'⟩ := HI.out.2 (by omega)
              obtain ⟨y', hy'⟩ := getElem?_some_of_lt (l := to) (k := 0) (by have := HN.out; omega)
              have h2 := cell_lt (hc' 0 y' hy' 0 _ rfl)
              injection e' with e'
              injection e' with e1
              have := HBASE.out
              simp only at h2 ⊢
              omega
            · rcases hat4 with h | h
              · rw [h] at hg
                exact (HA3.out g (HGL.out g hg).2 (HOB.out g hg)).1
              · rw [h] at hg
                injection hg with hg
                intro k v hv
                obtain ⟨A', n', c', e, _, _, hin⟩ := HE3.out.vals k v hv
                subst e
                exact Away.of_inHeap hin (by omega)
          case measure => simp [intOf]; omega
        · have hfull : to.take j = to := List.take_of_length_le (by have := HN.out; omega)
          have hown := HOW.out
          rw [hfull, ← HC.out] at hown
          have hin := OwnI.inHeap hown
          obtain ⟨At, ct, hu, hlet, hIt⟩ := OwnI.sl hown
          have hlenc := HLEN.out c
          obtain ⟨w4, hup, hm4, hg4⟩ := run_update (T := 124) (E := 32) (keyOk_int (P := Tryz.prog) (K := 3) (by kernel_rfl)) (by kernel_rfl) HEJ.out.m c u11
          have HOW2 := Lib.hid hown
          have HIT := Lib.hid hIt
          have HIN := Lib.hid hin
          have HG4 := Lib.hid hg4
          have HM4 := Lib.hid hm4
          clear hfull hown hIt hin hg4 hm4 x0
          subst hu
          go_wp2_with fail
          go_ret
          have hE4 := HEJ.out.mapped HG4.out HM4.out hlet HIT.out HIN.out.1
          have hkb : KeptBut [bm] wr w4 := KeptBut.of_grown HG4.out (by simp)
          refine ⟨At, _, ct, _, rfl, hlet, HIT.out.keptBut hkb HEJ.out.noInt, HIN.out.1.le HG4.out.size, ((hk1.but _).trans hkj).trans hkb, hE4, fun g hg ha => ⟨fun k v hv => ?_, fun p hp => ?_⟩⟩
          · rw [getKV_set] at hv
            split at hv
            · injection hv with hv
              subst hv
              intro p hp
              have := (HIN.out.2 p hp).2
              omega
            · exact HAW.out g hg ha k v hv
          · have := (HIN.out.2 p hp).2
            omega
end Go.Proofs.YtckgmkjoblneeaaGreatDoor
