/- Stream-safe texts of data. No program. streamsafe.Check. streamsafe.measurer's closure: what it has captured. streamsafe.measurer's closure returns the numbers of an element. streamsafe.measurer, and streamsafe.Text with its closures. -/
import Derived.Test.YtljkkfohlkhjnaaGreatDoorKExpC
import Derived.Test.YtljkkfohlkhjnaaGreatDoorKDecD
import Derived.Test.YtljkkfohlkhjnaaGreatDoorKFew
import Derived.Test.YtljkkfohlkhjnaaGreatDoorKPq
import Derived.Test.YtljkkfohlkhjnaaGreatDoorKSqx
namespace Go.Proofs.YtljkkfohlkhjnaaGreatDoor

/-- The first error of the arguments. -/
def ssCheck (n : Nrm) (most : Int) : Int :=
  if most < 1 ∨ 64 < most then 1 else if decCheck n ≠ 0 then decCheck n else if (onceOf n.decomp 847 true).isSome = true ∨ classOf n.classes 847 ≠ 0 then 11 else 0
noncomputable def edgN (n : Nrm) (c : Int) : Edg := edgOf (classOf n.classes) (fullOf n.decomp true c)
/-- The stream-safe text. -/
noncomputable def ssText (n : Nrm) (most : Int) (text : List Int) : List Int := if ssCheck n most ≠ 0 then text else ssFrom (edgN n) most 0 text
/-- The longest run of the decomposed text. -/
noncomputable def ssLong (n : Nrm) (text : List Int) : Nat := if decCheck n ≠ 0 then 0 else mrun (classOf n.classes) 0 (textOf n true text)

theorem ssCheck_zero {n : Nrm} {most : Int} (h : ssCheck n most = 0) : 1 ≤ most ∧ most ≤ 64 ∧ decCheck n = 0 ∧ onceOf n.decomp 847 true = none ∧ classOf n.classes 847 = 0 := by
  unfold ssCheck at h
  split at h
  · omega
  · split at h
    · next hd => exact absurd h hd
    · split at h
      · omega
      · next h1 h2 h3 =>
        have h4 : ¬ (onceOf n.decomp 847 true).isSome = true := fun e => h3 (.inl e)
        refine ⟨by omega, by omega, by omega, ?_, ?_⟩
        · cases ho : onceOf n.decomp 847 true
          · rfl
          · rw [ho] at h4; simp at h4
        · exact Decidable.byContradiction fun e => h3 (.inr e)
theorem usable_ok {n : Nrm} (h : decCheck n = 0) : usableN n = n := if_pos h
theorem full_ok {n : Nrm} (h : decCheck n = 0) (cp : Bool) : FullEq n.decomp cp (fullOf n.decomp cp) := by
  have := usableN_full n cp
  rwa [usable_ok h] at this
theorem full_joiner {n : Nrm} {most : Int} (h : ssCheck n most = 0) : fullOf n.decomp true 847 = [847] := by
  obtain ⟨_, _, hd, ho, _⟩ := ssCheck_zero h
  exact full_fix (full_ok hd true) ho
theorem edgN_joiner {n : Nrm} {most : Int} (h : ssCheck n most = 0) : edgN n 847 = ⟨0, 0, false⟩ := by
  obtain ⟨_, _, _, _, hc⟩ := ssCheck_zero h
  unfold edgN edgOf
  rw [full_joiner h]
  simp [leadN, trailN, hc]
theorem ssText_bad {n : Nrm} {most : Int} (h : ssCheck n most ≠ 0) (text : List Int) : ssText n most text = text := if_pos h
theorem ssText_ok {n : Nrm} {most : Int} (h : ssCheck n most = 0) (text : List Int) : ssText n most text = ssFrom (edgN n) most 0 text := if_neg (by simp [h])
theorem ssText_twice (n : Nrm) (most : Int) (text : List Int) : ssText n most (ssText n most text) = ssText n most text := by
  by_cases h : ssCheck n most = 0
  · rw [ssText_ok h, ssText_ok h, ss_twice (edgN_joiner h)]
  · rw [ssText_bad h]
theorem ssText_keeps (n : Nrm) (most : Int) (text : List Int) : (ssText n most text).filter (fun c => c != 847) = text.filter (fun c => c != 847) := by
  by_cases h : ssCheck n most = 0
  · rw [ssText_ok h, ss_keeps]
  · rw [ssText_bad h]
theorem ssText_len (n : Nrm) (most : Int) (text : List Int) : text.length ≤ (ssText n most text).length ∧ ((ssText n most text).length < 2 * text.length ∨ (ssText n most text).length = 0) := by
  by_cases h : ssCheck n most = 0
  · rw [ssText_ok h]
    refine ⟨(ss_len text 0).1, ?_⟩
    cases text with
    | nil => right; rfl
    | cons c t => left; exact ss_short c t
  · rw [ssText_bad h]
    omega
theorem ssText_joins {n : Nrm} (_hd : decCheck n = 0) (most : Int) (a : List Int) {b : Int} (t : List Int) (h0 : (edgN n b).lead = 0) (h1 : (edgN n b).op = false) : ssText n most (a ++ b :: t) = ssText n most a ++ ssText n most (b :: t) := by
  by_cases h : ssCheck n most = 0
  · rw [ssText_ok h, ssText_ok h, ssText_ok h, ss_joins h0 h1]
  · rw [ssText_bad h, ssText_bad h, ssText_bad h]
theorem ssLong_eq {n : Nrm} (hd : decCheck n = 0) (text : List Int) : ssLong n text = mrun (classOf n.classes) 0 (text.flatMap (fullOf n.decomp true)) := by
  unfold ssLong
  rw [if_neg (by simp [hd]), textOf_eq, usable_ok hd, textE_eq, mrun_sort]
theorem ssText_bounds {n : Nrm} {most : Int} (h : ssCheck n most = 0) {B : Nat} (hm : most ≤ B) (text : List Int) (ht : ∀ c ∈ text, ssLong n [c] ≤ B) : ssLong n (ssText n most text) ≤ B := by
  obtain ⟨_, _, hd, _, hc⟩ := ssCheck_zero h
  rw [ssLong_eq hd, ssText_ok h]
  exact ss_bound (full_joiner h) hc hm text 0 (Nat.zero_le _) (fun c hct => by
    have := ht c hct
    rw [ssLong_eq hd] at this
    simpa using this)

/-- The chapter's example. -/
def aliveS : Nrm := ⟨[⟨768, 768, 230⟩], [], []⟩
theorem aliveS_check : decCheck aliveS = 0 := by decide +kernel
theorem aliveS_full (c : Int) (h : onceOf aliveS.decomp c true = none) : fullOf aliveS.decomp true c = [c] := full_fix (full_ok aliveS_check true) h
theorem aliveS_ss : ssCheck aliveS 2 = 0 := by decide +kernel
theorem aliveS_edg : edgN aliveS 97 = ⟨0, 0, false⟩ ∧ edgN aliveS 768 = ⟨1, 1, true⟩ := by
  unfold edgN
  rw [aliveS_full 97 (by decide +kernel), aliveS_full 768 (by decide +kernel)]
  constructor <;> (simp only [edgOf, Edg.mk.injEq]; decide +kernel)
theorem aliveS_text : ssText aliveS 2 [97, 768, 768, 768, 768] = [97, 768, 768, 847, 768, 768] := by
  rw [ssText_ok aliveS_ss]
  obtain ⟨h1, h2⟩ := aliveS_edg
  simp [ssFrom, h1, h2, fitsE, nxtE]
theorem aliveS_long : ssLong aliveS [97, 768, 768, 847, 768, 768] = 2 := by
  rw [ssLong_eq aliveS_check]
  simp only [List.flatMap_cons, List.flatMap_nil, List.append_nil]
  rw [aliveS_full 97 (by decide +kernel), aliveS_full 768 (by decide +kernel), aliveS_full 847 (by decide +kernel)]
  decide +kernel
end Go.Proofs.YtljkkfohlkhjnaaGreatDoor
namespace Go.Proofs.YtljkkfohlkhjnaaGreatDoor
open Go Go.RowKit

theorem ordStarter (A : Option Addr) (n c : Nat) (l : List Span) (x : Int) (w : World) (hn : n ≤ 1000) (hc : n ≤ c) (hl : Spans w A n l) (hG : Glob w) :
    Calls Tryz.prog 25 #[.slice A n c, .int .i64 x] w (RetB w (classOf (usableSpans l) x == 0)) := by
  have HC := Lib.hid (ordClass A n c l x w hn hc hl hG)
  clear hl hG
  generalize classOf (usableSpans l) x = k at *
  go_enter Tryz.func25, Tryz.ntmps25
  go_wp2_with fail
  refine HC.out.mono ?_
  rintro e w1 ⟨rfl, k1⟩
  go_wp2_with fail
  go_ret
  exact ⟨rfl, k1⟩

set_option maxRecDepth 100000 in
set_option maxHeartbeats 2000000 in
theorem ssCheck_any (s : Sls) (n : Nrm) (most : Int) (w : World) (hN : NormAt w s n) (hG : Glob w) : Calls Tryz.prog 9 #[s.val, .int .i64 most] w (RetI w (ssCheck n most)) := by
  have hk1 := Kept.alloc (Kept.refl w) (Obj.cells #[Value.slice s.Ac s.nc s.cc, Value.slice s.Am s.nm s.cm, Value.slice s.Ae s.ne s.ce] 28)
  have hbx := box_cell w #[Value.slice s.Ac s.nc s.cc, Value.slice s.Am s.nm s.cm, Value.slice s.Ae s.ne s.ce] 28
  have x0 : (w.alloc (Obj.cells #[Value.slice s.Ac s.nc s.cc, Value.slice s.Am s.nm s.cm, Value.slice s.Ae s.ne s.ce] 28)).cell? ⟨w.heap.size, 0, none⟩ = some (.slice s.Ac s.nc s.cc) := hbx 0
  have x1 : (w.alloc (Obj.cells #[Value.slice s.Ac s.nc s.cc, Value.slice s.Am s.nm s.cm, Value.slice s.Ae s.ne s.ce] 28)).cell? ⟨w.heap.size, 1, none⟩ = some (.slice s.Am s.nm s.cm) := hbx 1
  have x2 : (w.alloc (Obj.cells #[Value.slice s.Ac s.nc s.cc, Value.slice s.Am s.nm s.cm, Value.slice s.Ae s.ne s.ce] 28)).cell? ⟨w.heap.size, 2, none⟩ = some (.slice s.Ae s.ne s.ce) := hbx 2
  have HX0 := Lib.hid x0
  have HX1 := Lib.hid x1
  have HX2 := Lib.hid x2
  have HK1 := Lib.hid hk1
  have HCK := Lib.hid (fun w' (hk : Kept w w') => decCheck_any s n w' (hN.kept hk) (hG.kept hk))
  have HON := Lib.hid (fun w' (hk : Kept w w') => onceP_any s n 847 true w' (hN.kept hk) (hG.kept hk))
  have HST := Lib.hid (fun w' (hk : Kept w w') => ordStarter s.Ac s.nc s.cc n.classes 847 w' (by have := hN.bc; omega) hN.hc (hN.kept hk).cls (hG.kept hk))
  clear hN hG hk1 hbx x0 x1 x2
  unfold Sls.val at *
  by_cases hr : most < 1 ∨ 64 < most
  · have HR := Lib.hid (show ssCheck n most = 1 from if_pos hr)
    rcases hr with hr | hr
    · go_enter Tryz.func9, Tryz.ntmps9
      go_wp2_with fail
      go_ret
      exact ⟨ret_int HR.out.symm, HK1.out⟩
    · have hr1 : ¬ most < 1 := by omega
      go_enter Tryz.func9, Tryz.ntmps9
      go_wp2_with fail
      go_ret
      exact ⟨ret_int HR.out.symm, HK1.out⟩
  · have hr1 : ¬ most < 1 := by omega
    have hr2 : ¬ most > 64 := by omega
    have HR0 := Lib.hid hr
    clear hr
    by_cases hd : decCheck n = 0
    · have HD := Lib.hid hd
      have HU := Lib.hid (usable_ok hd)
      rw [hd] at HCK
      rw [HU.out] at HON
      have HSP := Lib.hid (show usableSpans n.classes = n.classes by have := usableN_spans n; rwa [HU.out] at this)
      rw [HSP.out] at HST
      have HR := Lib.hid (show ssCheck n most = if (onceOf n.decomp 847 true).isSome = true ∨ classOf n.classes 847 ≠ 0 then 11 else 0 by unfold ssCheck; rw [if_neg HR0.out, if_neg (by simp [hd])])
      clear hd
      generalize onceOf n.decomp 847 true = oo at *
      generalize classOf n.classes 847 = k at *
      go_enter Tryz.func9, Tryz.ntmps9
      go_wp2_with fail
      refine (HCK.out _ HK1.out).mono ?_
      rintro e w1 ⟨rfl, k1⟩
      have p0 := Kept.cell k1 HX0.out
      have p1 := Kept.cell k1 HX1.out
      have p2 := Kept.cell k1 HX2.out
      have K1 := Lib.hid (Kept.trans HK1.out k1)
      go_wp2_with fail
      refine (HON.out _ K1.out).mono ?_
      rintro e w2 ⟨A2, n2, c2, rfl, le2, i2, k2⟩
      have q0 := Kept.cell k2 p0
      have q1 := Kept.cell k2 p1
      have q2 := Kept.cell k2 p2
      have K2 := Lib.hid (Kept.trans K1.out k2)
      clear p0 p1 p2 i2
      cases ho : oo.isSome
      · rw [ho] at HR
        by_cases hk : k = 0
        · have hb : (k == 0) = true := by simp [hk]
          rw [hb] at HST
          rw [if_neg (by simp [hk])] at HR
          go_wp2_with fail
          refine (HST.out _ K2.out).mono ?_
          rintro e w3 ⟨rfl, k3⟩
          go_wp2_with fail
          go_ret
          exact ⟨ret_int HR.out.symm, Kept.trans K2.out k3⟩
        · have hb : (k == 0) = false := by simp [hk]
          rw [hb] at HST
          rw [if_pos (by simp [hk])] at HR
          go_wp2_with fail
          refine (HST.out _ K2.out).mono ?_
          rintro e w3 ⟨rfl, k3⟩
          go_wp2_with fail
          go_ret
          exact ⟨ret_int HR.out.symm, Kept.trans K2.out k3⟩
      · rw [ho, if_pos (by simp)] at HR
        go_wp2_with fail
        go_ret
        exact ⟨ret_int HR.out.symm, K2.out⟩
    · have hb : (decCheck n != 0) = true := by simp [hd]
      have HR := Lib.hid (show ssCheck n most = decCheck n by unfold ssCheck; rw [if_neg HR0.out, if_pos hd])
      clear hd
      go_enter Tryz.func9, Tryz.ntmps9
      go_wp2_with fail
      refine (HCK.out _ HK1.out).mono ?_
      rintro e w1 ⟨rfl, k1⟩
      go_wp2_with fail
      go_ret
      exact ⟨ret_int HR.out.symm, Kept.trans HK1.out k1⟩
end Go.Proofs.YtljkkfohlkhjnaaGreatDoor
namespace Go.Proofs.YtljkkfohlkhjnaaGreatDoor
open Go Go.RowKit

def encE (e : Edg) : Value := .agg #[.int .i64 e.lead, .int .i64 e.trail, .bool e.op]
structure MesAt (w : World) (bk bn bm : Nat) (s : Sls) (n : Nrm) (M : List (Int × Value)) : Prop where
  k : w.heap[bk]? = some (.cells #[.map (some bm)] 78 (0, 0))
  nn : w.heap[bn]? = some (.cells #[.slice s.Ac s.nc s.cc, .slice s.Am s.nm s.cm, .slice s.Ae s.ne s.ce] 28 (0, 0))
  m : MapIs w bm (fun k : Int => Value.int .i64 k) M
  vals : ∀ k v, getKV M k = some v → v = encE (edgN n k)
section
variable {w w' : World} {bk bn bm : Nat} {s : Sls} {n : Nrm} {M : List (Int × Value)}
theorem MesAt.neMap (h : MesAt w bk bn bm s n M) {b : Nat} {cs : Array Value} {t : TypeId} (hb : w.heap[b]? = some (.cells cs t (0, 0))) : b ≠ bm := fun e => by
  obtain ⟨es, cl, hmm, _⟩ := h.m
  subst e
  rw [hmm] at hb
  cases hb
theorem MesAt.kept (h : MesAt w bk bn bm s n M) (hk : Kept w w') : MesAt w' bk bn bm s n M :=
  ⟨(hk.block _ (block_lt h.k)).trans h.k, (hk.block _ (block_lt h.nn)).trans h.nn, h.m.kept hk, h.vals⟩
theorem MesAt.mapped (h : MesAt w bk bn bm s n M) {c : Int} (hg : w.grownBy w' (some bm)) (hm : MapIs w' bm (fun k : Int => Value.int .i64 k) (setKV M c (encE (edgN n c)))) : MesAt w' bk bn bm s n (setKV M c (encE (edgN n c))) := by
  have ne : ∀ {b : Nat} {cs : Array Value} {t : TypeId}, w.heap[b]? = some (.cells cs t (0, 0)) → some b ≠ some bm := fun hb e => h.neMap hb (by injection e)
  refine ⟨(hg.block _ (block_lt h.k) (ne h.k)).trans h.k, (hg.block _ (block_lt h.nn) (ne h.nn)).trans h.nn, hm, fun k v hv => ?_⟩
  rw [getKV_set] at hv
  split at hv
  · rename_i e
    subst e
    injection hv with hv
    exact hv.symm
  · exact h.vals k v hv
end
/-- The runs do not lie where the numbers of the element are kept. -/
theorem rngs_away {w : World} {A : Option Addr} {n be : Nat} {rs : List Rng} {b : Bool} {t : TypeId} (h : Rngs w A n rs) (hr : ∀ r ∈ rs, r.lo < r.hi) (hb : w.heap[be]? = some (.cells #[.int .i64 0, .int .i64 0, .bool b] t (0, 0))) : ∀ p, A = some p → 0 < n → p.block ≠ be := by
  intro p hp h0 e
  obtain ⟨b', off, eA, hc⟩ := h.2 h0
  rw [hp] at eA
  injection eA with eA
  subst eA
  simp only at e
  subst e
  obtain ⟨r, hr0⟩ := getElem?_some_of_lt (l := rs) (k := 0) (by have := h.1; omega)
  have c0 := hc 0 r hr0 0 (.int .i64 r.lo) rfl
  have c1 := hc 0 r hr0 1 (.int .i64 r.hi) rfl
  have hlt := hr r (List.mem_of_getElem? hr0)
  unfold World.cell? at c0 c1
  simp only [hb] at c0 c1
  match off with
  | 0 => simp at c0 c1; omega
  | 1 => simp at c0 c1
  | k + 2 =>
    simp at c1
theorem rngs_but {w w' : World} {A : Option Addr} {n be : Nat} {rs : List Rng} (h : Rngs w A n rs) (hk : KeptBut [be] w w') (ha : ∀ p, A = some p → 0 < n → p.block ≠ be) : Rngs w' A n rs := by
  refine ⟨h.1, fun h0 => ?_⟩
  obtain ⟨b', off, eA, hc⟩ := h.2 h0
  refine ⟨b', off, eA, fun i x hx j u hu => ?_⟩
  have h1 := hc i x hx j u hu
  have hlt := cell_lt h1
  have hb := hk.block b' hlt (by simpa using ha _ eA h0)
  unfold World.cell? at h1 ⊢
  rw [hb]; exact h1
/-- What the closure returns. -/
def MesPost (bk bn bm : Nat) (s : Sls) (n : Nrm) (w : World) (c : Int) (e : Ending) (w' : World) : Prop :=
  ∃ M', e = .returned (encE (edgN n c)) ∧ KeptBut [bm] w w' ∧ MesAt w' bk bn bm s n M'
theorem runs_lt (cls : Int → Int) (t : List Int) : ∀ r ∈ runsFrom cls 0 none t, ∃ lo hi : Nat, r.lo = lo ∧ r.hi = hi ∧ lo < hi ∧ hi ≤ t.length := fun r hr => by
  obtain ⟨lo, hi, h1, h2, h3, h4⟩ := runsFrom_valid cls t 0 none (fun s h => by cases h) r hr
  exact ⟨lo, hi, h1, h2, h3, by omega⟩
/-- The numbers after some of the runs. -/
def edgTake (cls : Int → Int) (F : List Int) (k : Nat) : Edg := ((runsFrom cls 0 none F).take k).foldl (edgStep F.length) ⟨0, 0, decide (F.length = 0)⟩
theorem edgTake_succ {cls : Int → Int} {F : List Int} {k : Nat} {r : Rng} (h : (runsFrom cls 0 none F)[k]? = some r) : edgTake cls F (k + 1) = edgStep F.length (edgTake cls F k) r := by
  unfold edgTake
  rw [take_succ_some h, List.foldl_append]; rfl
theorem edgTake_all {cls : Int → Int} {F : List Int} {k : Nat} (h : (runsFrom cls 0 none F).length ≤ k) : edgTake cls F k = edgOf cls F := by
  unfold edgTake
  rw [List.take_of_length_le h, edg_runs]
end Go.Proofs.YtljkkfohlkhjnaaGreatDoor
namespace Go.Proofs.YtljkkfohlkhjnaaGreatDoor
open Go Go.RowKit

theorem cells3_set0 {w : World} {b : Nat} {u0 u1 u2 v : Value} {t : TypeId} (h : w.heap[b]? = some (.cells #[u0, u1, u2] t (0, 0))) : (w.setCell ⟨b, 0, none⟩ v).heap[b]? = some (.cells #[v, u1, u2] t (0, 0)) := by
  simp [World.setCell, Array.getElem?_modify, h]
theorem cells3_set1 {w : World} {b : Nat} {u0 u1 u2 v : Value} {t : TypeId} (h : w.heap[b]? = some (.cells #[u0, u1, u2] t (0, 0))) : (w.setCell ⟨b, 1, none⟩ v).heap[b]? = some (.cells #[u0, v, u2] t (0, 0)) := by
  simp [World.setCell, Array.getElem?_modify, h]
theorem cells3_set2 {w : World} {b : Nat} {u0 u1 u2 v : Value} {t : TypeId} (h : w.heap[b]? = some (.cells #[u0, u1, u2] t (0, 0))) : (w.setCell ⟨b, 2, none⟩ v).heap[b]? = some (.cells #[u0, u1, v] t (0, 0)) := by
  simp [World.setCell, Array.getElem?_modify, h]

theorem MesAt.but {w w' : World} {bk bn bm b8 : Nat} {s : Sls} {n : Nrm} {M : List (Int × Value)} (h : MesAt w bk bn bm s n M) (hk : KeptBut [b8] w w') (h1 : bk ≠ b8) (h2 : bn ≠ b8) (h3 : bm ≠ b8) : MesAt w' bk bn bm s n M :=
  ⟨(hk.block _ (block_lt h.k) (by simpa using h1)).trans h.k, (hk.block _ (block_lt h.nn) (by simpa using h2)).trans h.nn, h.m.block (hk.block _ h.m.lt (by simpa using h3)), h.vals⟩
theorem KeptBut.drop {S : List Nat} {b : Nat} {w w' : World} (h : KeptBut (b :: S) w w') (hb : w.heap.size ≤ b) : KeptBut S w w' := ⟨h.os, h.tape, h.output, h.size, fun i hi hn => h.block i hi (by simp only [List.mem_cons, not_or]; exact ⟨by omega, hn⟩)⟩
def edgCells (e : Edg) : Array Value := #[.int .i64 e.lead, .int .i64 e.trail, .bool e.op]
theorem runsOf_length_ (cls : Int → Int) (t : List Int) : (runsFrom cls 0 none t).length ≤ t.length := by
  have := runsFrom_length cls t 0 none
  simpa using this

set_option maxRecDepth 100000 in
set_option maxHeartbeats 4000000 in
theorem measure_calls (s : Sls) (n : Nrm) (hd : decCheck n = 0) (B0 bk bn bm : Nat) (_hB : B0 ≤ bm) (c : Int) (M : List (Int × Value)) (w : World) (hE : MesAt w bk bn bm s n M) (hst : ∀ w', Below B0 w w' → NormAt w' s n ∧ Glob w') (hBw : B0 ≤ w.heap.size) :
    Calls Tryz.prog 58 #[.int .i64 c, .pointer (some ⟨bk, 0, none⟩), .pointer (some ⟨bn, 0, none⟩)] w (MesPost bk bn bm s n w c) := by
  have HE := Lib.hid hE
  have HST := Lib.hid hst
  have HD := Lib.hid hd
  obtain ⟨B, hBB⟩ : ∃ B : Nat, B = w.heap.size := ⟨_, rfl⟩
  have HBB := Lib.hid hBB
  have hka := Kept.alloc (Kept.refl w) (Obj.cells #[Value.int IntKind.i64 0, Value.int IntKind.i64 0, Value.bool false] 56)
  have HKA := Lib.hid hka
  have hb4 : (w.alloc (Obj.cells #[Value.int IntKind.i64 0, Value.int IntKind.i64 0, Value.bool false] 56)).heap[B]? = some (.cells #[Value.int IntKind.i64 0, Value.int IntKind.i64 0, Value.bool false] 56 (0, 0)) := alloc_at hBB
  have HB4 := Lib.hid hb4
  have s0 := cell_of_block (i := 0) (hE.kept hka).k rfl
  simp only [List.getElem_toArray, List.getElem_cons_zero] at s0
  have hlk := run_lookup_ok (T := 78) (E := 56) (keyOk_int (P := Tryz.prog) (K := 3) (by kernel_rfl)) (by kernel_rfl) (hE.kept hka).m (.agg #[.int .i64 0, .int .i64 0, .bool false]) (fun w => by kernel_rfl) c
  have HV := Lib.hid hE.vals
  clear hE hst hd hka hb4 hBB
  cases hk : getKV M c with
  | some v =>
    have hv := HV.out c v hk
    rw [hk] at hlk
    simp only at hlk
    subst hv
    obtain ⟨le, tr, op, hed⟩ : ∃ le tr op, edgN n c = ⟨le, tr, op⟩ := ⟨_, _, _, rfl⟩
    have HED := Lib.hid hed
    rw [hed] at hlk
    simp only [encE] at hlk
    clear hed
    clear hk
    go_enter Tryz.func58, Tryz.ntmps58
    go_wp2_with fail
    have e4 : ((w.alloc (Obj.cells #[Value.int IntKind.i64 le, Value.int IntKind.i64 tr, Value.bool op] 56)).alloc (Obj.cells #[Value.int IntKind.i64 le, Value.int IntKind.i64 tr, Value.bool op] 56)).heap[w.heap.size]? = some (.cells #[Value.int IntKind.i64 le, Value.int IntKind.i64 tr, Value.bool op] 56 (0, 0)) := alloc_lift (alloc_at rfl)
    have g0 := cell_of_block (i := 0) e4 rfl
    have g1 := cell_of_block (i := 1) e4 rfl
    have g2 := cell_of_block (i := 2) e4 rfl
    simp only [List.getElem_toArray, List.getElem_cons_zero, List.getElem_cons_succ] at g0 g1 g2
    refine bodyPost_ret (v := .agg #[.int .i64 le, .int .i64 tr, .bool op]) (by simp [results, Tryz.results58, go_sem, g0, g1, g2]) rfl ⟨M, ?_, ?_, ?_⟩
    · rw [HED.out]; rfl
    · exact (Kept.alloc (Kept.alloc (Kept.refl w) _) _).but _
    · exact HE.out.kept (Kept.alloc (Kept.alloc (Kept.refl w) _) _)
  | none =>
    rw [hk] at hlk
    simp only at hlk
    clear hk
    have hk2 := Kept.alloc HKA.out (Obj.cells #[Value.int IntKind.i64 0, Value.int IntKind.i64 0, Value.bool false] 56)
    have HK2 := Lib.hid hk2
    have hE2 := HE.out.kept hk2
    have n0 := cell_of_block (i := 0) hE2.nn rfl
    have n1 := cell_of_block (i := 1) hE2.nn rfl
    have n2 := cell_of_block (i := 2) hE2.nn rfl
    simp only [List.getElem_toArray, List.getElem_cons_zero, List.getElem_cons_succ] at n0 n1 n2
    have hB4' := alloc_lift (o := Obj.cells #[Value.int IntKind.i64 0, Value.int IntKind.i64 0, Value.bool false] 56) HB4.out
    have HB42 := Lib.hid hB4'
    have HCH := Lib.hid (char_any s n c true _ (HST.out _ (hk2.mono hBw)).1 (HST.out _ (hk2.mono hBw)).2)
    rw [usable_ok HD.out] at HCH
    unfold Sls.val at HCH
    clear hB4' hE2 hk2
    go_enter Tryz.func58, Tryz.ntmps58
    go_wp2_with fail
    generalize (w.alloc (Obj.cells #[Value.int IntKind.i64 0, Value.int IntKind.i64 0, Value.bool false] 56)).alloc (Obj.cells #[Value.int IntKind.i64 0, Value.int IntKind.i64 0, Value.bool false] 56) = W2 at *
    clear s0 n0 n1 n2 hlk
    refine HCH.out.mono ?_
    rintro e w3 ⟨A3, n3, c3, rfl, le3, i3, k3⟩
    have I3 := Lib.hid i3
    have HNF := Lib.hid i3.1
    have hfl : n3 ≤ 64 := by have := usableN_len n true c; rw [usable_ok HD.out] at this; rw [i3.1]; exact this
    have K3 := Lib.hid (Kept.trans HK2.out k3)
    obtain ⟨be, hbe⟩ : ∃ be : Nat, be = w3.heap.size := ⟨_, rfl⟩
    have HBE := Lib.hid hbe
    have hk4 := Kept.alloc (Kept.refl w3) (Obj.cells #[Value.int IntKind.i64 0, Value.int IntKind.i64 0, Value.bool ((n3 : Int) == 0)] 56)
    have K4 := Lib.hid (Kept.trans K3.out hk4)
    have hnn4 := (HE.out.kept K4.out).nn
    have n0 := cell_of_block (i := 0) hnn4 rfl
    have n03 := cell_of_block (i := 0) (HE.out.kept K3.out).nn rfl
    simp only [List.getElem_toArray, List.getElem_cons_zero] at n0 n03
    have heb : (w3.alloc (Obj.cells #[Value.int IntKind.i64 0, Value.int IntKind.i64 0, Value.bool ((n3 : Int) == 0)] 56)).heap[be]? = some (.cells #[Value.int IntKind.i64 0, Value.int IntKind.i64 0, Value.bool ((n3 : Int) == 0)] 56 (0, 0)) := alloc_at hbe
    have HEB0 := Lib.hid heb
    have hNA := HST.out _ (K4.out.mono hBw)
    have HRN := Lib.hid (ordRuns s.Ac A3 s.nc s.cc n3 c3 _ (fullOf n.decomp true c) n.classes (by omega) (by have := hNA.1.bc; omega) hNA.1.hc (i3.kept hk4) hNA.1.cls hNA.2)
    rw [show usableSpans n.classes = n.classes by have := usableN_spans n; rwa [usable_ok HD.out] at this] at HRN
    have HK4 := Lib.hid hk4
    have HEDG := Lib.hid (show edgN n c = edgOf (classOf n.classes) (fullOf n.decomp true c) from rfl)
    unfold runsOf at HRN
    clear i3 hk4 hnn4 heb hNA
    generalize fullOf n.decomp true c = F at *
    generalize classOf n.classes = cls at *
    go_wp2_with fail
    rw [← hbe]
    clear hbe n0 n03
    generalize hbz : ((n3 : Int) == 0) = bz at *
    have HBZ := Lib.hid hbz.symm
    clear hbz
    generalize w3.alloc (Obj.cells #[Value.int IntKind.i64 0, Value.int IntKind.i64 0, Value.bool bz] 56) = W4 at *
    refine HRN.out.mono ?_
    rintro e w5 ⟨A5, nr, c5, rfl, le5, r5, k5⟩
    have e5 := (k5.block _ (block_lt HEB0.out)).trans HEB0.out
    have HE5 := Lib.hid e5
    have HR5 := Lib.hid r5
    have HNR := Lib.hid r5.1
    have hnr : nr ≤ 64 := by have h1 := runsOf_length_ cls F; have h2 := HNF.out; rw [r5.1]; omega
    have HAW := Lib.hid (rngs_away r5 (fun r hr => by obtain ⟨lo, hi, h1, h2, h3, _⟩ := runs_lt cls F r hr; omega) e5)
    have K5 := Lib.hid (Kept.trans K4.out k5)
    have hbe5 : be < w5.heap.size := block_lt e5
    have hwb : w.heap.size ≤ be := by have := HBE.out; have := K3.out.size; omega
    clear r5 e5
    go_wp2_with fail
    go_loopw [31] (fun i wr => ∃ j : Nat, j ≤ nr ∧ i = .int .i64 j ∧ wr.heap[be]? = some (.cells (edgCells (edgTake cls F j)) 56 (0, 0)) ∧ KeptBut [be] w5 wr) (fun i _ => nr - (intOf i).toNat)
    case atStart =>
      refine ⟨0, Nat.zero_le _, rfl, ?_, KeptBut.refl _ _⟩
      have := HE5.out
      rw [this, HBZ.out, HNF.out]
      simp [edgTake, edgCells]
      cases F <;> simp <;> omega
    case round =>
      obtain ⟨j, hj, rfl, heb, hkj⟩ := hrel
      have hszj := hkj.size
      by_cases hlt : j < nr
      · have hRj := rngs_but HR5.out hkj HAW.out
        obtain ⟨b6, off6, r, hA5, hr, c60, c61⟩ := rng_at hRj hlt
        have HSS := Lib.hid (edgTake_succ (cls := cls) (F := F) hr)
        obtain ⟨lo, hi, h1, h2, h3, h4⟩ := runs_lt cls F r (List.mem_of_getElem? hr)
        obtain ⟨rlo, rhi⟩ := r
        simp only at h1 h2 c60 c61
        subst h1
        subst h2
        generalize edgTake cls F j = st at *
        obtain ⟨L, T, O⟩ := st
        unfold edgCells at heb
        simp only at heb
        have HEB := Lib.hid heb
        rw [hA5]
        have hh3 : hi ≤ n3 := by rw [HNF.out]; exact h4
        clear hr hRj heb h4
        by_cases hlo : lo = 0
        · subst hlo
          by_cases hhi : hi = n3
          · have hhi' := hhi.symm
            subst hhi'
            cases O
            · have hka := Kept.alloc (Kept.refl wr) (Obj.cells #[Value.int IntKind.i64 0, Value.int IntKind.i64 n3] 63)
              have E0 := alloc_lift (o := (Obj.cells #[Value.int IntKind.i64 0, Value.int IntKind.i64 n3] 63)) HEB.out
              have R0 := box_cell wr #[Value.int IntKind.i64 0, Value.int IntKind.i64 n3] 63 0
              have R1 := box_cell wr #[Value.int IntKind.i64 0, Value.int IntKind.i64 n3] 63 1
              simp only [List.getElem?_toArray, List.getElem?_cons_zero, List.getElem?_cons_succ] at R0 R1
              have C0 := cell_of_block (i := 0) E0 rfl
              have F0 := frozen_of_block (i := 0) E0
              have hs0 := KeptBut.setCell (S := [be]) (wr.alloc (Obj.cells #[Value.int IntKind.i64 0, Value.int IntKind.i64 n3] 63)) (p := ⟨be, 0, none⟩) (by simp) (.int .i64 n3)
              have E1 := cells3_set0 (v := (.int .i64 n3)) E0
              have S00 := hs0.cell R0 (by simp; omega)
              have S01 := hs0.cell R1 (by simp; omega)
              have C1 := cell_of_block (i := 1) E1 rfl
              have F1 := frozen_of_block (i := 1) E1
              have hs1 := KeptBut.setCell (S := [be]) ((wr.alloc (Obj.cells #[Value.int IntKind.i64 0, Value.int IntKind.i64 n3] 63)).setCell ⟨be, 0, none⟩ (.int .i64 n3)) (p := ⟨be, 1, none⟩) (by simp) (.int .i64 ((n3 : Nat) : Int))
              have E2 := cells3_set1 (v := (.int .i64 ((n3 : Nat) : Int))) E1
              have S10 := hs1.cell S00 (by simp; omega)
              have S11 := hs1.cell S01 (by simp; omega)
              have hw : IntKind.i64.wrap ((n3 : Int) - 0) = (n3 : Int) := by rw [Int.sub_zero]; exact IntWalk.i64_in _ (by omega)
              have C9 := cell_of_block (i := 2) E2 rfl
              have F9 := frozen_of_block (i := 2) E2
              have hs9 := KeptBut.setCell (S := [be]) (((wr.alloc (Obj.cells #[Value.int IntKind.i64 0, Value.int IntKind.i64 n3] 63)).setCell ⟨be, 0, none⟩ (.int .i64 n3)).setCell ⟨be, 1, none⟩ (.int .i64 ((n3 : Nat) : Int))) (p := ⟨be, 2, none⟩) (by simp) (.bool true)
              have E9 := cells3_set2 (v := (.bool true)) E2
              simp only [List.getElem_toArray, List.getElem_cons_zero, List.getElem_cons_succ] at C0 C1 C9
              have HE9 := Lib.hid E9
              have HK9 := Lib.hid (hkj.trans ((((hka.but _).trans hs0).trans hs1).trans hs9))
              clear E9 hs9 hka hs0 hs1 E0 E1 E2
              go_wp2_with fail
              go_roundw
              case rel =>
                refine ⟨j + 1, by omega, by go_num, ?_, HK9.out⟩
                rw [HSS.out]
                have := HE9.out
                simpa [edgCells, edgStep, ← HNF.out] using this
              case measure => simp [intOf]; omega
            · have hka := Kept.alloc (Kept.refl wr) (Obj.cells #[Value.int IntKind.i64 0, Value.int IntKind.i64 n3] 63)
              have E0 := alloc_lift (o := (Obj.cells #[Value.int IntKind.i64 0, Value.int IntKind.i64 n3] 63)) HEB.out
              have R0 := box_cell wr #[Value.int IntKind.i64 0, Value.int IntKind.i64 n3] 63 0
              have R1 := box_cell wr #[Value.int IntKind.i64 0, Value.int IntKind.i64 n3] 63 1
              simp only [List.getElem?_toArray, List.getElem?_cons_zero, List.getElem?_cons_succ] at R0 R1
              have C0 := cell_of_block (i := 0) E0 rfl
              have F0 := frozen_of_block (i := 0) E0
              have hs0 := KeptBut.setCell (S := [be]) (wr.alloc (Obj.cells #[Value.int IntKind.i64 0, Value.int IntKind.i64 n3] 63)) (p := ⟨be, 0, none⟩) (by simp) (.int .i64 n3)
              have E1 := cells3_set0 (v := (.int .i64 n3)) E0
              have S00 := hs0.cell R0 (by simp; omega)
              have S01 := hs0.cell R1 (by simp; omega)
              have C1 := cell_of_block (i := 1) E1 rfl
              have F1 := frozen_of_block (i := 1) E1
              have hs1 := KeptBut.setCell (S := [be]) ((wr.alloc (Obj.cells #[Value.int IntKind.i64 0, Value.int IntKind.i64 n3] 63)).setCell ⟨be, 0, none⟩ (.int .i64 n3)) (p := ⟨be, 1, none⟩) (by simp) (.int .i64 ((n3 : Nat) : Int))
              have E2 := cells3_set1 (v := (.int .i64 ((n3 : Nat) : Int))) E1
              have S10 := hs1.cell S00 (by simp; omega)
              have S11 := hs1.cell S01 (by simp; omega)
              have hw : IntKind.i64.wrap ((n3 : Int) - 0) = (n3 : Int) := by rw [Int.sub_zero]; exact IntWalk.i64_in _ (by omega)
              have C9 := cell_of_block (i := 2) E2 rfl
              have F9 := frozen_of_block (i := 2) E2
              have hs9 := KeptBut.setCell (S := [be]) (((wr.alloc (Obj.cells #[Value.int IntKind.i64 0, Value.int IntKind.i64 n3] 63)).setCell ⟨be, 0, none⟩ (.int .i64 n3)).setCell ⟨be, 1, none⟩ (.int .i64 ((n3 : Nat) : Int))) (p := ⟨be, 2, none⟩) (by simp) (.bool true)
              have E9 := cells3_set2 (v := (.bool true)) E2
              simp only [List.getElem_toArray, List.getElem_cons_zero, List.getElem_cons_succ] at C0 C1 C9
              have HE9 := Lib.hid E9
              have HK9 := Lib.hid (hkj.trans ((((hka.but _).trans hs0).trans hs1).trans hs9))
              clear E9 hs9 hka hs0 hs1 E0 E1 E2
              go_wp2_with fail
              go_roundw
              case rel =>
                refine ⟨j + 1, by omega, by go_num, ?_, HK9.out⟩
                rw [HSS.out]
                have := HE9.out
                simpa [edgCells, edgStep, ← HNF.out] using this
              case measure => simp [intOf]; omega
          · have hhz : ¬ ((hi : Int) = (n3 : Int)) := by omega
            cases O
            · have hka := Kept.alloc (Kept.refl wr) (Obj.cells #[Value.int IntKind.i64 0, Value.int IntKind.i64 hi] 63)
              have E0 := alloc_lift (o := (Obj.cells #[Value.int IntKind.i64 0, Value.int IntKind.i64 hi] 63)) HEB.out
              have R0 := box_cell wr #[Value.int IntKind.i64 0, Value.int IntKind.i64 hi] 63 0
              have R1 := box_cell wr #[Value.int IntKind.i64 0, Value.int IntKind.i64 hi] 63 1
              simp only [List.getElem?_toArray, List.getElem?_cons_zero, List.getElem?_cons_succ] at R0 R1
              have C0 := cell_of_block (i := 0) E0 rfl
              have F0 := frozen_of_block (i := 0) E0
              have hs0 := KeptBut.setCell (S := [be]) (wr.alloc (Obj.cells #[Value.int IntKind.i64 0, Value.int IntKind.i64 hi] 63)) (p := ⟨be, 0, none⟩) (by simp) (.int .i64 hi)
              have E1 := cells3_set0 (v := (.int .i64 hi)) E0
              have S00 := hs0.cell R0 (by simp; omega)
              have S01 := hs0.cell R1 (by simp; omega)
              have C9 := cell_of_block (i := 2) E1 rfl
              have F9 := frozen_of_block (i := 2) E1
              have hs9 := KeptBut.setCell (S := [be]) ((wr.alloc (Obj.cells #[Value.int IntKind.i64 0, Value.int IntKind.i64 hi] 63)).setCell ⟨be, 0, none⟩ (.int .i64 hi)) (p := ⟨be, 2, none⟩) (by simp) (.bool false)
              have E9 := cells3_set2 (v := (.bool false)) E1
              simp only [List.getElem_toArray, List.getElem_cons_zero, List.getElem_cons_succ] at C0 C9
              have HE9 := Lib.hid E9
              have HK9 := Lib.hid (hkj.trans (((hka.but _).trans hs0).trans hs9))
              clear E9 hs9 hka hs0 E0 E1
              go_wp2_with fail
              go_roundw
              case rel =>
                refine ⟨j + 1, by omega, by go_num, ?_, HK9.out⟩
                rw [HSS.out]
                have := HE9.out
                simpa [edgCells, edgStep, ← HNF.out, hhz] using this
              case measure => simp [intOf]; omega
            · have hka := Kept.alloc (Kept.refl wr) (Obj.cells #[Value.int IntKind.i64 0, Value.int IntKind.i64 hi] 63)
              have E0 := alloc_lift (o := (Obj.cells #[Value.int IntKind.i64 0, Value.int IntKind.i64 hi] 63)) HEB.out
              have R0 := box_cell wr #[Value.int IntKind.i64 0, Value.int IntKind.i64 hi] 63 0
              have R1 := box_cell wr #[Value.int IntKind.i64 0, Value.int IntKind.i64 hi] 63 1
              simp only [List.getElem?_toArray, List.getElem?_cons_zero, List.getElem?_cons_succ] at R0 R1
              have C0 := cell_of_block (i := 0) E0 rfl
              have F0 := frozen_of_block (i := 0) E0
              have hs0 := KeptBut.setCell (S := [be]) (wr.alloc (Obj.cells #[Value.int IntKind.i64 0, Value.int IntKind.i64 hi] 63)) (p := ⟨be, 0, none⟩) (by simp) (.int .i64 hi)
              have E1 := cells3_set0 (v := (.int .i64 hi)) E0
              have S00 := hs0.cell R0 (by simp; omega)
              have S01 := hs0.cell R1 (by simp; omega)
              have C9 := cell_of_block (i := 2) E1 rfl
              have F9 := frozen_of_block (i := 2) E1
              have hs9 := KeptBut.setCell (S := [be]) ((wr.alloc (Obj.cells #[Value.int IntKind.i64 0, Value.int IntKind.i64 hi] 63)).setCell ⟨be, 0, none⟩ (.int .i64 hi)) (p := ⟨be, 2, none⟩) (by simp) (.bool true)
              have E9 := cells3_set2 (v := (.bool true)) E1
              simp only [List.getElem_toArray, List.getElem_cons_zero, List.getElem_cons_succ] at C0 C9
              have HE9 := Lib.hid E9
              have HK9 := Lib.hid (hkj.trans (((hka.but _).trans hs0).trans hs9))
              clear E9 hs9 hka hs0 E0 E1
              go_wp2_with fail
              go_roundw
              case rel =>
                refine ⟨j + 1, by omega, by go_num, ?_, HK9.out⟩
                rw [HSS.out]
                have := HE9.out
                simpa [edgCells, edgStep, ← HNF.out, hhz] using this
              case measure => simp [intOf]; omega
        · have hlz : ¬ ((lo : Int) = 0) := by omega
          by_cases hhi : hi = n3
          · have hhi' := hhi.symm
            subst hhi'
            cases O
            · have hka := Kept.alloc (Kept.refl wr) (Obj.cells #[Value.int IntKind.i64 lo, Value.int IntKind.i64 n3] 63)
              have E0 := alloc_lift (o := (Obj.cells #[Value.int IntKind.i64 lo, Value.int IntKind.i64 n3] 63)) HEB.out
              have R0 := box_cell wr #[Value.int IntKind.i64 lo, Value.int IntKind.i64 n3] 63 0
              have R1 := box_cell wr #[Value.int IntKind.i64 lo, Value.int IntKind.i64 n3] 63 1
              simp only [List.getElem?_toArray, List.getElem?_cons_zero, List.getElem?_cons_succ] at R0 R1
              have C0 := cell_of_block (i := 1) E0 rfl
              have F0 := frozen_of_block (i := 1) E0
              have hs0 := KeptBut.setCell (S := [be]) (wr.alloc (Obj.cells #[Value.int IntKind.i64 lo, Value.int IntKind.i64 n3] 63)) (p := ⟨be, 1, none⟩) (by simp) (.int .i64 ((n3 - lo : Nat) : Int))
              have E1 := cells3_set1 (v := (.int .i64 ((n3 - lo : Nat) : Int))) E0
              have S00 := hs0.cell R0 (by simp; omega)
              have S01 := hs0.cell R1 (by simp; omega)
              have hw : IntKind.i64.wrap ((n3 : Int) - (lo : Int)) = ((n3 - lo : Nat) : Int) := by rw [show (n3 : Int) - (lo : Int) = ((n3 - lo : Nat) : Int) by omega]; exact IntWalk.i64_in _ (by omega)
              have C9 := cell_of_block (i := 2) E1 rfl
              have F9 := frozen_of_block (i := 2) E1
              have hs9 := KeptBut.setCell (S := [be]) ((wr.alloc (Obj.cells #[Value.int IntKind.i64 lo, Value.int IntKind.i64 n3] 63)).setCell ⟨be, 1, none⟩ (.int .i64 ((n3 - lo : Nat) : Int))) (p := ⟨be, 2, none⟩) (by simp) (.bool false)
              have E9 := cells3_set2 (v := (.bool false)) E1
              simp only [List.getElem_toArray, List.getElem_cons_zero, List.getElem_cons_succ] at C0 C9
              have HE9 := Lib.hid E9
              have HK9 := Lib.hid (hkj.trans (((hka.but _).trans hs0).trans hs9))
              clear E9 hs9 hka hs0 E0 E1
              go_wp2_with fail
              go_roundw
              case rel =>
                refine ⟨j + 1, by omega, by go_num, ?_, HK9.out⟩
                rw [HSS.out]
                have := HE9.out
                simpa [edgCells, edgStep, ← HNF.out, hlo] using this
              case measure => simp [intOf]; omega
            · have hka := Kept.alloc (Kept.refl wr) (Obj.cells #[Value.int IntKind.i64 lo, Value.int IntKind.i64 n3] 63)
              have E0 := alloc_lift (o := (Obj.cells #[Value.int IntKind.i64 lo, Value.int IntKind.i64 n3] 63)) HEB.out
              have R0 := box_cell wr #[Value.int IntKind.i64 lo, Value.int IntKind.i64 n3] 63 0
              have R1 := box_cell wr #[Value.int IntKind.i64 lo, Value.int IntKind.i64 n3] 63 1
              simp only [List.getElem?_toArray, List.getElem?_cons_zero, List.getElem?_cons_succ] at R0 R1
              have C0 := cell_of_block (i := 1) E0 rfl
              have F0 := frozen_of_block (i := 1) E0
              have hs0 := KeptBut.setCell (S := [be]) (wr.alloc (Obj.cells #[Value.int IntKind.i64 lo, Value.int IntKind.i64 n3] 63)) (p := ⟨be, 1, none⟩) (by simp) (.int .i64 ((n3 - lo : Nat) : Int))
              have E1 := cells3_set1 (v := (.int .i64 ((n3 - lo : Nat) : Int))) E0
              have S00 := hs0.cell R0 (by simp; omega)
              have S01 := hs0.cell R1 (by simp; omega)
              have hw : IntKind.i64.wrap ((n3 : Int) - (lo : Int)) = ((n3 - lo : Nat) : Int) := by rw [show (n3 : Int) - (lo : Int) = ((n3 - lo : Nat) : Int) by omega]; exact IntWalk.i64_in _ (by omega)
              have C9 := cell_of_block (i := 2) E1 rfl
              have F9 := frozen_of_block (i := 2) E1
              have hs9 := KeptBut.setCell (S := [be]) ((wr.alloc (Obj.cells #[Value.int IntKind.i64 lo, Value.int IntKind.i64 n3] 63)).setCell ⟨be, 1, none⟩ (.int .i64 ((n3 - lo : Nat) : Int))) (p := ⟨be, 2, none⟩) (by simp) (.bool true)
              have E9 := cells3_set2 (v := (.bool true)) E1
              simp only [List.getElem_toArray, List.getElem_cons_zero, List.getElem_cons_succ] at C0 C9
              have HE9 := Lib.hid E9
              have HK9 := Lib.hid (hkj.trans (((hka.but _).trans hs0).trans hs9))
              clear E9 hs9 hka hs0 E0 E1
              go_wp2_with fail
              go_roundw
              case rel =>
                refine ⟨j + 1, by omega, by go_num, ?_, HK9.out⟩
                rw [HSS.out]
                have := HE9.out
                simpa [edgCells, edgStep, ← HNF.out, hlo] using this
              case measure => simp [intOf]; omega
          · have hhz : ¬ ((hi : Int) = (n3 : Int)) := by omega
            cases O
            · have hka := Kept.alloc (Kept.refl wr) (Obj.cells #[Value.int IntKind.i64 lo, Value.int IntKind.i64 hi] 63)
              have E0 := alloc_lift (o := (Obj.cells #[Value.int IntKind.i64 lo, Value.int IntKind.i64 hi] 63)) HEB.out
              have R0 := box_cell wr #[Value.int IntKind.i64 lo, Value.int IntKind.i64 hi] 63 0
              have R1 := box_cell wr #[Value.int IntKind.i64 lo, Value.int IntKind.i64 hi] 63 1
              simp only [List.getElem?_toArray, List.getElem?_cons_zero, List.getElem?_cons_succ] at R0 R1
              have C9 := cell_of_block (i := 2) E0 rfl
              have F9 := frozen_of_block (i := 2) E0
              have hs9 := KeptBut.setCell (S := [be]) (wr.alloc (Obj.cells #[Value.int IntKind.i64 lo, Value.int IntKind.i64 hi] 63)) (p := ⟨be, 2, none⟩) (by simp) (.bool false)
              have E9 := cells3_set2 (v := (.bool false)) E0
              simp only [List.getElem_toArray, List.getElem_cons_zero, List.getElem_cons_succ] at C9
              have HE9 := Lib.hid E9
              have HK9 := Lib.hid (hkj.trans ((hka.but _).trans hs9))
              clear E9 hs9 hka E0
              go_wp2_with fail
              go_roundw
              case rel =>
                refine ⟨j + 1, by omega, by go_num, ?_, HK9.out⟩
                rw [HSS.out]
                have := HE9.out
                simpa [edgCells, edgStep, ← HNF.out, hlo, hhz] using this
              case measure => simp [intOf]; omega
            · have hka := Kept.alloc (Kept.refl wr) (Obj.cells #[Value.int IntKind.i64 lo, Value.int IntKind.i64 hi] 63)
              have E0 := alloc_lift (o := (Obj.cells #[Value.int IntKind.i64 lo, Value.int IntKind.i64 hi] 63)) HEB.out
              have R0 := box_cell wr #[Value.int IntKind.i64 lo, Value.int IntKind.i64 hi] 63 0
              have R1 := box_cell wr #[Value.int IntKind.i64 lo, Value.int IntKind.i64 hi] 63 1
              simp only [List.getElem?_toArray, List.getElem?_cons_zero, List.getElem?_cons_succ] at R0 R1
              have C9 := cell_of_block (i := 2) E0 rfl
              have F9 := frozen_of_block (i := 2) E0
              have hs9 := KeptBut.setCell (S := [be]) (wr.alloc (Obj.cells #[Value.int IntKind.i64 lo, Value.int IntKind.i64 hi] 63)) (p := ⟨be, 2, none⟩) (by simp) (.bool true)
              have E9 := cells3_set2 (v := (.bool true)) E0
              simp only [List.getElem_toArray, List.getElem_cons_zero, List.getElem_cons_succ] at C9
              have HE9 := Lib.hid E9
              have HK9 := Lib.hid (hkj.trans ((hka.but _).trans hs9))
              clear E9 hs9 hka E0
              go_wp2_with fail
              go_roundw
              case rel =>
                refine ⟨j + 1, by omega, by go_num, ?_, HK9.out⟩
                rw [HSS.out]
                have := HE9.out
                simpa [edgCells, edgStep, ← HNF.out, hlo, hhz] using this
              case measure => simp [intOf]; omega
      · have hjn : edgTake cls F j = edgN n c := by rw [HEDG.out]; exact edgTake_all (by have := HNR.out; omega)
        rw [hjn] at heb
        obtain ⟨L, T, O, hed⟩ : ∃ L T O, edgN n c = ⟨L, T, O⟩ := ⟨_, _, _, rfl⟩
        have HED := Lib.hid hed
        rw [hed] at heb
        unfold edgCells at heb
        simp only at heb
        have HEB := Lib.hid heb
        have hlw : ∀ {b : Nat} {o : Obj}, w.heap[b]? = some o → b ≠ be := fun hb e => by have := block_lt hb; omega
        have hME : MesAt wr bk bn bm s n M := (HE.out.kept K5.out).but hkj (hlw HE.out.k) (hlw HE.out.nn) (fun e => by have := HE.out.m.lt; omega)
        obtain ⟨w6, hup, hm6, hg6⟩ := run_update (T := 78) (E := 56) (keyOk_int (P := Tryz.prog) (K := 3) (by kernel_rfl)) (by kernel_rfl) hME.m c (.agg #[.int .i64 L, .int .i64 T, .bool O])
        have s0 := cell_of_block (i := 0) hME.k rfl
        have c0 := cell_of_block (i := 0) heb rfl
        have c1 := cell_of_block (i := 1) heb rfl
        have c2 := cell_of_block (i := 2) heb rfl
        have eb6 := (hg6.block be (block_lt heb) (fun e => by injection e with e; have := HE.out.m.lt; omega)).trans heb
        have d0 := cell_of_block (i := 0) eb6 rfl
        have d1 := cell_of_block (i := 1) eb6 rfl
        have d2 := cell_of_block (i := 2) eb6 rfl
        have hBB := HBB.out
        have hB5 : w5.heap[B]? = some (.cells #[Value.int IntKind.i64 0, Value.int IntKind.i64 0, Value.bool false] 56 (0, 0)) := ((Kept.trans k3 (Kept.trans HK4.out k5)).block B (block_lt HB42.out)).trans HB42.out
        have hBne : B ≠ be := by have := HBE.out; have := k3.size; have := block_lt HB42.out; omega
        have hB6 : w6.heap[B]? = some (.cells #[Value.int IntKind.i64 0, Value.int IntKind.i64 0, Value.bool false] 56 (0, 0)) := (hg6.block B (by have := block_lt hB5; omega) (fun e => by injection e with e; have := HE.out.m.lt; omega)).trans ((hkj.block B (block_lt hB5) (by simpa using hBne)).trans hB5)
        have f0 := frozen_of_block (i := 0) hB6
        have f1 := frozen_of_block (i := 1) hB6
        have f2 := frozen_of_block (i := 2) hB6
        have e0 := cell_of_block (i := 0) hB6 rfl
        have e1 := cell_of_block (i := 1) hB6 rfl
        have e2 := cell_of_block (i := 2) hB6 rfl
        simp only [List.getElem_toArray, List.getElem_cons_zero, List.getElem_cons_succ] at s0 c0 c1 c2 d0 d1 d2 e0 e1 e2
        have HB6 := Lib.hid hB6
        have HME := Lib.hid hME
        have HM6 := Lib.hid hm6
        have HG6 := Lib.hid hg6
        have HKJ := Lib.hid hkj
        rw [← hBB]
        clear hjn hed heb hME hm6 hg6 eb6 hB5 hB6 hkj hBB hlw
        go_wp2_with fail
        have hc := cells3_set (v0 := .int .i64 L) (v1 := .int .i64 T) (v2 := .bool O) HB6.out
        have g0 := cell_of_block (i := 0) hc rfl
        have g1 := cell_of_block (i := 1) hc rfl
        have g2 := cell_of_block (i := 2) hc rfl
        simp only [List.getElem_toArray, List.getElem_cons_zero, List.getElem_cons_succ] at g0 g1 g2
        clear s0 c0 c1 c2 d0 d1 d2 e0 e1 e2 f0 f1 f2
        refine bodyPost_ret (v := .agg #[.int .i64 L, .int .i64 T, .bool O]) (by simp [results, Tryz.results58, go_sem, g0, g1, g2]) rfl ⟨setKV M c (encE (edgN n c)), ?_, ?_, ?_⟩
        · rw [HED.out]; rfl
        · have q1 : Kept w wr := Below.trans K5.out (HKJ.out.below (by simpa using hwb) (by have := K5.out.size; omega))
          have q2 : KeptBut [B, bm] w w6 := (q1.but _).trans (KeptBut.of_grown HG6.out (by simp))
          have q3 : KeptBut [B, bm] w _ := ((q2.trans (KeptBut.setCell _ (p := ⟨B, 0, none⟩) (by simp) (.int .i64 L))).trans (KeptBut.setCell _ (p := ⟨B, 1, none⟩) (by simp) (.int .i64 T))).trans (KeptBut.setCell _ (p := ⟨B, 2, none⟩) (by simp) (.bool O))
          exact q3.drop (by have := HBB.out; omega)
        · have q0 : MesAt w6 bk bn bm s n (setKV M c (encE (edgN n c))) := HME.out.mapped HG6.out (by rw [HED.out]; exact HM6.out)
          have q4 : KeptBut [B] w6 _ := ((KeptBut.setCell w6 (S := [B]) (p := ⟨B, 0, none⟩) (by simp) (.int .i64 L)).trans (KeptBut.setCell _ (p := ⟨B, 1, none⟩) (by simp) (.int .i64 T))).trans (KeptBut.setCell _ (p := ⟨B, 2, none⟩) (by simp) (.bool O))
          have hlw : ∀ {b : Nat} {o : Obj}, w.heap[b]? = some o → b ≠ B := fun hb e => by have := block_lt hb; have := HBB.out; omega
          exact q0.but q4 (hlw HE.out.k) (hlw HE.out.nn) (fun e => by have := HE.out.m.lt; have := HBB.out; omega)
end Go.Proofs.YtljkkfohlkhjnaaGreatDoor
namespace Go.Proofs.YtljkkfohlkhjnaaGreatDoor
open Go Go.RowKit

def RetMes (w : World) (s : Sls) (n : Nrm) (e : Ending) (w' : World) : Prop := ∃ bk bn bm : Nat,
  e = .returned (.func (.func 58) #[] #[.pointer (some ⟨bk, 0, none⟩), .pointer (some ⟨bn, 0, none⟩)]) ∧ MesAt w' bk bn bm s n [] ∧ w.heap.size ≤ bm ∧ Kept w w'
set_option maxRecDepth 100000 in
set_option maxHeartbeats 1000000 in
theorem measurer_any (s : Sls) (n : Nrm) (w : World) : Calls Tryz.prog 30 #[s.val] w (RetMes w s n) := by
  unfold Sls.val
  have hmm := @run_makeMap Tryz.prog
  go_enter Tryz.func30, Tryz.ntmps30
  go_wp2
  clear hmm
  go_ret
  obtain ⟨B, hB⟩ : ∃ B : Nat, B = w.heap.size := ⟨_, rfl⟩
  rw [← hB]
  refine ⟨B + 1 + 1, B, B + 1, rfl, ?_, by omega, Kept.alloc (Kept.alloc (Kept.alloc (Kept.refl w) _) _) _⟩
  refine ⟨?_, ?_, ?_, fun k v hv => by simp [getKV] at hv⟩
  · exact alloc_at (by simp [hB])
  · exact alloc_lift (alloc_lift (alloc_at hB))
  · exact ⟨#[], 0, alloc_lift (alloc_at (by simp [hB])), rfl⟩

theorem fits_any (ed : Edg) (b8 b4 k : Nat) (most : Int) (w : World) (_hx : I64 most) (hk : k ≤ 1000000) (hl : ed.lead ≤ 1000) (h8 : w.cell? ⟨b8, 0, none⟩ = some (.int .i64 k)) (h4 : w.cell? ⟨b4, 0, none⟩ = some (.int .i64 most)) :
    Calls Tryz.prog 31 #[encE ed, .pointer (some ⟨b8, 0, none⟩), .pointer (some ⟨b4, 0, none⟩)] w (RetB w (fitsE most ed k)) := by
  obtain ⟨le, tr, op⟩ := ed
  simp only at hl
  have hka := Kept.alloc (Kept.refl w) (Obj.cells #[Value.int IntKind.i64 le, Value.int IntKind.i64 tr, Value.bool op] 56)
  have c8 := Kept.cell hka h8
  have c4 := Kept.cell hka h4
  have HKA := Lib.hid hka
  have hbx := box_cell w #[Value.int IntKind.i64 le, Value.int IntKind.i64 tr, Value.bool op] 56 0
  simp only [List.getElem?_toArray, List.getElem?_cons_zero] at hbx
  have HF := Lib.hid (show fitsE most ⟨le, tr, op⟩ k = (decide (k = 0) || decide (le = 0) || decide (((k + le : Nat) : Int) ≤ most)) from rfl)
  clear hka h8 h4
  unfold encE
  have hw : IntKind.i64.wrap ((k : Int) + (le : Int)) = (k : Int) + (le : Int) := IntWalk.i64_in _ (by omega)
  by_cases h0 : k = 0
  · subst h0
    go_enter Tryz.func31, Tryz.ntmps31
    go_wp2_with fail
    go_ret
    exact ⟨ret_bool (by rw [HF.out]; simp), HKA.out⟩
  · have hk0 : ¬ ((k : Int) = 0) := by omega
    by_cases h1 : le = 0
    · subst h1
      have e0 : ((0 : Nat) : Int) = 0 := rfl
      simp only [e0] at *
      go_enter Tryz.func31, Tryz.ntmps31
      go_wp2_with fail
      go_ret
      exact ⟨ret_bool (by rw [HF.out]; simp), HKA.out⟩
    · have hl0 : ¬ ((le : Int) = 0) := by omega
      by_cases h2 : (k : Int) + (le : Int) ≤ most
      · go_enter Tryz.func31, Tryz.ntmps31
        go_wp2_with fail
        go_ret
        exact ⟨ret_bool (by rw [HF.out]; simp [h0, h1]; omega), HKA.out⟩
      · go_enter Tryz.func31, Tryz.ntmps31
        go_wp2_with fail
        go_ret
        exact ⟨ret_bool (by rw [HF.out]; simp only [show ((k : Int) == 0) = false by simp; exact h0, show ((le : Int) == 0) = false by simp; exact h1, Bool.or_self]; simp [h0, h1]; omega), HKA.out⟩

theorem pass_any (ed : Edg) (b8 k : Nat) (w : World) (hk : k ≤ 1000000) (hl : ed.lead ≤ 1000) (h8 : w.heap[b8]? = some (.cells #[.int .i64 k] 3 (0, 0))) :
    Calls Tryz.prog 32 #[encE ed, .pointer (some ⟨b8, 0, none⟩)] w fun e w' => e = .returned (.tuple #[]) ∧ KeptBut [b8] w w' ∧ w'.heap[b8]? = some (.cells #[.int .i64 (nxtE ed k : Nat)] 3 (0, 0)) := by
  obtain ⟨le, tr, op⟩ := ed
  simp only at hl
  have hka := Kept.alloc (Kept.refl w) (Obj.cells #[Value.int IntKind.i64 le, Value.int IntKind.i64 tr, Value.bool op] 56)
  have h8a := (hka.block b8 (block_lt h8)).trans h8
  have HK8 := Lib.hid h8a
  have c8 := cell_of_block (i := 0) h8a rfl
  have f8 := frozen_of_block (i := 0) h8a
  simp only [List.getElem_toArray, List.getElem_cons_zero] at c8
  have HKA := Lib.hid hka
  have hbx := box_cell w #[Value.int IntKind.i64 le, Value.int IntKind.i64 tr, Value.bool op] 56
  have x0 := hbx 0
  have x1 := hbx 1
  have x2 := hbx 2
  simp only [List.getElem?_toArray, List.getElem?_cons_zero, List.getElem?_cons_succ] at x0 x1 x2
  clear hka h8 h8a hbx
  unfold encE
  have hw : IntKind.i64.wrap ((k : Int) + (le : Int)) = (k : Int) + (le : Int) := IntWalk.i64_in _ (by omega)
  cases op
  · go_enter Tryz.func32, Tryz.ntmps32
    go_wp2_with fail
    go_end0
    refine ⟨rfl, (HKA.out.but _).trans (KeptBut.setCell _ (by simp) _), ?_⟩
    have := heap_setCell_one (v := .int .i64 (tr : Nat)) HK8.out
    simpa [nxtE] using this
  · go_enter Tryz.func32, Tryz.ntmps32
    go_wp2_with fail
    go_end0
    refine ⟨rfl, (HKA.out.but _).trans (KeptBut.setCell _ (by simp) _), ?_⟩
    have := heap_setCell_one (v := .int .i64 ((k : Int) + (le : Int))) HK8.out
    simpa [nxtE] using this
end Go.Proofs.YtljkkfohlkhjnaaGreatDoor
